/- The walks of seg.header, seg.record. -/
import Derived.Test.YtpacjjaekmipfaaSegRec
import Derived.Deep.DeepCutAuto
import Derived.Deep.RegionWith
namespace Go.Proofs.Ytpacjjaekmipfaa
open Go.RowKit

theorem takeNums_inv {x : List UInt8} {many : Nat} {l : List Int} {n : Int} (h : takeNumsL x many = (l, n, 0)) : l.length = many ∧ (∀ m ∈ l, 0 ≤ m ∧ m ≤ 9223372036854775807) ∧ ∃ j : Nat, n = j ∧ j ≤ x.length ∧ x = flatN l ++ x.drop j := by
  unfold takeNumsL at h
  rw [if_neg (by omega)] at h
  simp only [Int.toNat_natCast] at h
  obtain ⟨r, hr⟩ : ∃ r, rnums x many [] (0, 0) = r := ⟨_, rfl⟩
  obtain ⟨a, q, e⟩ := r
  rw [hr] at h
  by_cases he : e = 0
  · subst he
    rw [if_neg (by simp)] at h
    simp only [Prod.mk.injEq, and_true] at h
    obtain ⟨rfl, rfl⟩ := h
    obtain ⟨ns, rfl, h1, h2, h3, h4⟩ := rnums_inv many [] a 0 q 0 rfl hr
    simp only [List.drop_zero] at h4 ⊢
    refine ⟨h1, h2, q, rfl, ?_, h4⟩
    have := congrArg List.length h4
    rw [List.length_append, List.length_drop] at this
    omega
  · rw [if_pos he] at h
    simp only [Prod.mk.injEq] at h
    exact absurd h.2.2 he

theorem reads_at1 {w : World} {K : Nat → Prop} {A : Option Addr} {n : Nat} {cs : List Value} (h : Reads w K 1 A n cs) (hn : 0 < n) : ∃ ad, A = some ad ∧ ∀ j v, cs[j]? = some v → w.cell? (ad.add j) = some v := by
  obtain ⟨ad, e, _, hc⟩ := h.2 hn
  exact ⟨ad, e, hc⟩
theorem list4 {l : List Int} (h : l.length = 4) : ∃ a b c d, l = [a, b, c, d] := by
  match l, h with
  | [a, b, c, d], _ => exact ⟨a, b, c, d, rfl⟩
theorem list6 {l : List Int} (h : l.length = 6) : ∃ a b c d e f, l = [a, b, c, d, e, f] := by
  match l, h with
  | [a, b, c, d, e, f], _ => exact ⟨a, b, c, d, e, f, rfl⟩

set_option maxRecDepth 100000 in
set_option maxHeartbeats 1600000 in
theorem header_any (v : Value) (x : List UInt8) (K : Nat → Prop) (w : World) (hv : IsB w K v x) (hx : x.length ≤ 65536) :
    Calls Try.prog 37 #[v] w fun e w' => e = .returned (.tuple #[hdV (headerL x).1, .bool (headerL x).2]) ∧ Below w.heap.size w w' := by
  have hv0 := hv
  obtain ⟨A, c, rfl, _⟩ := isB_form hv
  unfold headerL hdV
  obtain ⟨y, hy⟩ : ∃ y, takeNumsL x 4 = y := ⟨_, rfl⟩
  rw [hy]
  have hcall := fun W h => takeNums_any (.slice A x.length c) x 4 K W h (by omega) (by omega)
  rw [hy] at hcall
  obtain ⟨l, n, e⟩ := y
  simp only at hcall ⊢
  have E := ((Kn.start w).give Stable.bytes hv0).push 23 #[.int .i64 0, .int .i64 0, .int .i64 0]
  by_cases he : e = 0
  · subst he
    obtain ⟨hl4, h63, j, rfl, hj, hxx⟩ := takeNums_inv hy
    clear hxx
    obtain ⟨a0, a1, a2, a3, rfl⟩ := list4 hl4
    rw [if_neg (by simp)]
    clear hy hl4
    have hJ := Lib.hid hj
    have H63 := Lib.hid h63
    clear hj h63
    simp only [List.getD_cons_zero, List.getD_cons_succ, List.length_cons, List.length_nil, List.map_cons, List.map_nil, Nat.zero_add, Nat.reduceAdd] at hcall ⊢
    have HC := Lib.hid hcall
    clear hcall
    by_cases hok : j = x.length ∧ a0 = 0
    · obtain ⟨rfl, rfl⟩ := hok
      rw [if_neg (by simp)]
      dsimp only
      clear hv hx
      go_enter Try.func37, Try.ntmps37
      go_wp2_with fail
      refine (HC.out _ (E.get m0)).mono ?_
      rintro e w1 ⟨A1, c1, rfl, own1, hb1⟩
      obtain ⟨ad, rfl, hc⟩ := reads_at1 (Reads.of_own own1) (by simp)
      have hc0 := hc 0 _ rfl
      have hc1 := hc 1 _ rfl
      have hc2 := hc 2 _ rfl
      have hc3 := hc 3 _ rfl
      rw [addr0] at hc0
      rw [addrS _ _ (by decide)] at hc1 hc2 hc3
      unfold I64 at hc0 hc1 hc2 hc3
      clear hc
      have F := E.step hb1
      obtain ⟨q0, f0, t0⟩ := F.rules m0
      have h3 := (((F.at_ m0).set_ 0 (.int .i64 a1)).set_ 1 (.int .i64 a2)).set_ 2 (.int .i64 a3)
      have hb9 := F.below.trans (Turned.below ((((Turned.refl w1 (fun k => k = w.heap.size)).set (g := w.heap.size) rfl 0 (.int .i64 a1)).set (g := w.heap.size) rfl 1 (.int .i64 a2)).set (g := w.heap.size) rfl 2 (.int .i64 a3)) (fun k hk => by omega) F.below.size)
      clear F E
      go_upto_region 4 with fail
      go_region_with (fail)
      all_goals go_wp2_with fail
      all_goals generalize ((w1.setCell ⟨w.heap.size, 0, none⟩ (.int .i64 a1)).setCell ⟨w.heap.size, 1, none⟩ (.int .i64 a2)).setCell ⟨w.heap.size, 2, none⟩ (.int .i64 a3) = w9 at h3 hb9 ⊢
      all_goals obtain ⟨q9, f9⟩ := h3.drew.rules
      all_goals refine bodyPost_ret (v := .tuple #[.agg #[.int .i64 a1, .int .i64 a2, .int .i64 a3], .bool true]) (by simp [results, Try.results37, go_sem, q9]) rfl ⟨rfl, hb9.drew⟩
    · rw [if_pos (by by_cases h1 : j = x.length; exact .inr fun h2 => hok ⟨h1, h2⟩; exact .inl (by omega))]
      by_cases h1 : j = x.length
      · have h2 : a0 ≠ 0 := fun h2 => hok ⟨h1, h2⟩
        have ha : (a0 != 0) = true := by simpa using h2
        subst h1
        clear hok h2 hv
        dsimp only
        go_enter Try.func37, Try.ntmps37
        go_wp2_with fail
        refine (HC.out _ (E.get m0)).mono ?_
        rintro e w1 ⟨A1, c1, rfl, own1, hb1⟩
        obtain ⟨ad, rfl, hc⟩ := reads_at1 (Reads.of_own own1) (by simp)
        have hc0 := hc 0 _ rfl
        have hc1 := hc 1 _ rfl
        have hc2 := hc 2 _ rfl
        have hc3 := hc 3 _ rfl
        rw [addr0] at hc0
        rw [addrS _ _ (by decide)] at hc1 hc2 hc3
        unfold I64 at hc0 hc1 hc2 hc3
        clear hc
        have F := E.step hb1
        obtain ⟨q0, f0, t0⟩ := F.rules m0
        have h3 := (((F.at_ m0).set_ 0 (.int .i64 0)).set_ 1 (.int .i64 0)).set_ 2 (.int .i64 0)
        have hb9 := F.below.trans (Turned.below ((((Turned.refl w1 (fun k => k = w.heap.size)).set (g := w.heap.size) rfl 0 (.int .i64 0)).set (g := w.heap.size) rfl 1 (.int .i64 0)).set (g := w.heap.size) rfl 2 (.int .i64 0)) (fun k hk => by omega) F.below.size)
        clear F E
        go_wp2_with fail
        generalize ((w1.setCell ⟨w.heap.size, 0, none⟩ (.int .i64 0)).setCell ⟨w.heap.size, 1, none⟩ (.int .i64 0)).setCell ⟨w.heap.size, 2, none⟩ (.int .i64 0) = w9 at h3 hb9 ⊢
        obtain ⟨q9, f9⟩ := h3.rules
        refine bodyPost_ret (v := .tuple #[.agg #[.int .i64 0, .int .i64 0, .int .i64 0], .bool false]) (by simp [results, Try.results37, go_sem, q9]) rfl ⟨rfl, hb9⟩
      · have h3' : (j : Int) ≠ (x.length : Int) := by omega
        have ha : ((j : Int) != (x.length : Int)) = true := by simpa using h3'
        clear h3'
        clear hok h1 hv
        dsimp only
        go_enter Try.func37, Try.ntmps37
        go_wp2_with fail
        refine (HC.out _ (E.get m0)).mono ?_
        rintro e w1 ⟨A1, c1, rfl, own1, hb1⟩
        obtain ⟨ad, rfl, hc⟩ := reads_at1 (Reads.of_own own1) (by simp)
        have hc0 := hc 0 _ rfl
        have hc1 := hc 1 _ rfl
        have hc2 := hc 2 _ rfl
        have hc3 := hc 3 _ rfl
        rw [addr0] at hc0
        rw [addrS _ _ (by decide)] at hc1 hc2 hc3
        unfold I64 at hc0 hc1 hc2 hc3
        clear hc
        have F := E.step hb1
        obtain ⟨q0, f0, t0⟩ := F.rules m0
        have h3 := (((F.at_ m0).set_ 0 (.int .i64 0)).set_ 1 (.int .i64 0)).set_ 2 (.int .i64 0)
        have hb9 := F.below.trans (Turned.below ((((Turned.refl w1 (fun k => k = w.heap.size)).set (g := w.heap.size) rfl 0 (.int .i64 0)).set (g := w.heap.size) rfl 1 (.int .i64 0)).set (g := w.heap.size) rfl 2 (.int .i64 0)) (fun k hk => by omega) F.below.size)
        clear F E
        go_wp2_with fail
        generalize ((w1.setCell ⟨w.heap.size, 0, none⟩ (.int .i64 0)).setCell ⟨w.heap.size, 1, none⟩ (.int .i64 0)).setCell ⟨w.heap.size, 2, none⟩ (.int .i64 0) = w9 at h3 hb9 ⊢
        obtain ⟨q9, f9⟩ := h3.rules
        refine bodyPost_ret (v := .tuple #[.agg #[.int .i64 0, .int .i64 0, .int .i64 0], .bool false]) (by simp [results, Try.results37, go_sem, q9]) rfl ⟨rfl, hb9⟩
  · rw [if_pos he]
    have he' : ((e : Int) != 0) = true := by simpa using he
    clear he hy
    go_enter Try.func37, Try.ntmps37
    go_wp2_with fail
    refine (hcall _ (E.get m0)).mono ?_
    rintro e w1 ⟨A1, c1, rfl, own1, hb1⟩
    have F := E.step hb1
    obtain ⟨q0, f0, t0⟩ := F.rules m0
    have h3 := (((F.at_ m0).set_ 0 (.int .i64 0)).set_ 1 (.int .i64 0)).set_ 2 (.int .i64 0)
    have hb9 := F.below.trans (Turned.below ((((Turned.refl w1 (fun k => k = w.heap.size)).set (g := w.heap.size) rfl 0 (.int .i64 0)).set (g := w.heap.size) rfl 1 (.int .i64 0)).set (g := w.heap.size) rfl 2 (.int .i64 0)) (fun k hk => by omega) F.below.size)
    clear E F
    go_wp2_with fail
    generalize ((w1.setCell ⟨w.heap.size, 0, none⟩ (.int .i64 0)).setCell ⟨w.heap.size, 1, none⟩ (.int .i64 0)).setCell ⟨w.heap.size, 2, none⟩ (.int .i64 0) = w9 at h3 hb9 ⊢
    obtain ⟨q9, f9⟩ := h3.rules
    refine bodyPost_ret (v := .tuple #[.agg #[.int .i64 0, .int .i64 0, .int .i64 0], .bool false]) (by simp [results, Try.results37, go_sem, q9]) rfl ⟨rfl, hb9⟩
end Go.Proofs.Ytpacjjaekmipfaa
