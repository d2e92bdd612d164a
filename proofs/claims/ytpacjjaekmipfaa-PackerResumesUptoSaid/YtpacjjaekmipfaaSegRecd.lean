/- The walk of seg.record. -/
import Derived.Test.YtpacjjaekmipfaaSegTake
namespace Go.Proofs.Ytpacjjaekmipfaa
open Go.RowKit

theorem b7_all {w : World} {a : Nat} {ta : TypeId} {u0 u1 u2 u3 u4 u5 u6 : Value} (hA : Blk w a ta #[u0, u1, u2, u3, u4, u5, u6]) (x0 x1 x2 x3 x4 x5 x6 : Value) :
    Blk (((((((w.setCell ⟨a, 0, none⟩ x0).setCell ⟨a, 1, none⟩ x1).setCell ⟨a, 2, none⟩ x2).setCell ⟨a, 3, none⟩ x3).setCell ⟨a, 4, none⟩ x4).setCell ⟨a, 5, none⟩ x5).setCell ⟨a, 6, none⟩ x6) a ta #[x0, x1, x2, x3, x4, x5, x6] ∧
    Turned w (((((((w.setCell ⟨a, 0, none⟩ x0).setCell ⟨a, 1, none⟩ x1).setCell ⟨a, 2, none⟩ x2).setCell ⟨a, 3, none⟩ x3).setCell ⟨a, 4, none⟩ x4).setCell ⟨a, 5, none⟩ x5).setCell ⟨a, 6, none⟩ x6) (fun k => k = a) := by
  have h0 : Blk (w.setCell ⟨a, 0, none⟩ x0) a ta #[x0, u1, u2, u3, u4, u5, u6] := hA.set_ 0 x0
  have h1 : Blk _ a ta #[x0, x1, u2, u3, u4, u5, u6] := h0.set_ 1 x1
  have h2 : Blk _ a ta #[x0, x1, x2, u3, u4, u5, u6] := h1.set_ 2 x2
  have h3 : Blk _ a ta #[x0, x1, x2, x3, u4, u5, u6] := h2.set_ 3 x3
  have h4 : Blk _ a ta #[x0, x1, x2, x3, x4, u5, u6] := h3.set_ 4 x4
  have h5 : Blk _ a ta #[x0, x1, x2, x3, x4, x5, u6] := h4.set_ 5 x5
  have h6 : Blk _ a ta #[x0, x1, x2, x3, x4, x5, x6] := h5.set_ 6 x6
  exact ⟨h6, (((((((Turned.refl w (fun k => k = a)).set (g := a) rfl 0 x0).set (g := a) rfl 1 x1).set (g := a) rfl 2 x2).set (g := a) rfl 3 x3).set (g := a) rfl 4 x4).set (g := a) rfl 5 x5).set (g := a) rfl 6 x6⟩

theorem Stable.ownI' {base : Nat} {e : TypeId} {size n : Nat} {v : Value} {xs : List Value} : Stable (fun w => w.ownsRow base e size v n xs) := fun _ _ h hb => own_below h hb (Nat.le_refl _)
set_option maxRecDepth 100000 in
set_option maxHeartbeats 1000000 in
theorem record_any (v : Value) (x : List UInt8) (K : Nat → Prop) (w : World) (hv : IsB w K v x) (hx : x.length ≤ 65536) :
    Calls Try.prog 38 #[v] w fun e w' => ∃ A c, e = .returned (.tuple #[rcV (recordL x).1 (.slice A (recordL x).1.data.length c), .bool (recordL x).2]) ∧
      w'.ownsRow w.heap.size 5 1 (.slice A (recordL x).1.data.length c) (recordL x).1.data.length (cells8 (recordL x).1.data) ∧ OkRc (recordL x).1 ∧ Below w.heap.size w w' := by
  have hv0 := hv
  obtain ⟨A, c, rfl, _⟩ := isB_form hv
  have hlc : x.length ≤ c := (IsB.open_ hv0).2.2.1
  have hok0 : OkRc r0c := by intro n hn; simp only [recN, r0c, List.mem_cons, List.not_mem_nil, or_false] at hn; rcases hn with rfl | rfl | rfl | rfl | rfl | rfl <;> omega
  unfold recordL rcV
  obtain ⟨y, hy⟩ : ∃ y, takeNumsL x 6 = y := ⟨_, rfl⟩
  rw [hy]
  have hcall := fun W h => takeNums_any (.slice A x.length c) x 6 K W h (by omega) (by omega)
  rw [hy] at hcall
  obtain ⟨l, n, e⟩ := y
  simp only at hcall ⊢
  have E := ((Kn.start w).give Stable.bytes hv0).push 34 #[.int .i64 0, .int .i64 0, .int .i64 0, .int .i64 0, .int .i64 0, .int .i64 0, .slice none 0 0]
  by_cases he : e = 0
  · subst he
    obtain ⟨hl4, h63, j, rfl, hj, hxx⟩ := takeNums_inv hy
    clear hxx
    obtain ⟨a0, a1, a2, a3, a4, a5, rfl⟩ := list6 hl4
    rw [if_neg (by simp)]
    clear hy hl4
    have H63 := Lib.hid h63
    clear h63
    simp only [List.getD_cons_zero, List.getD_cons_succ, List.length_cons, List.length_nil, List.map_cons, List.map_nil, Nat.zero_add, Nat.reduceAdd, Int.toNat_natCast] at hcall ⊢
    have HC := Lib.hid hcall
    clear hcall
    obtain ⟨y, hy⟩ : ∃ y, takeVecL (x.drop j) = y := ⟨_, rfl⟩
    rw [hy]
    obtain ⟨d, k, e2⟩ := y
    simp only
    have hcut := cut_bytes hv0 hj
    obtain ⟨A3, hA3⟩ : ∃ A3, (if c = j then A else A.map (fun x => x.add j)) = A3 := ⟨_, rfl⟩
    rw [hA3] at hcut
    have hcutB : IsB w K (.slice A3 (x.length - j) (c - j)) (x.drop j) := ⟨A3, c - j, by rw [List.length_drop], by rw [List.length_drop]; exact hcut, by rw [List.length_drop]; omega, by have := (IsB.open_ hv0).2.2.2.1; omega, by rw [List.length_drop]; omega⟩
    have hjc : (j : Int) ≤ (c : Int) := by omega
    have hjx : (j : Int) ≤ (x.length : Int) := by omega
    clear hcut
    have hcall2 := fun W h => takeVec_any (.slice A3 (x.length - j) (c - j)) (x.drop j) K W h
    rw [hy] at hcall2
    simp only at hcall2
    have HC2 := Lib.hid hcall2
    have HY := Lib.hid hy
    have hvL := IsB.len hv0
    have E := (((Kn.start w).give Stable.bytes hv0).give Stable.bytes hcutB).push 34 #[.int .i64 0, .int .i64 0, .int .i64 0, .int .i64 0, .int .i64 0, .int .i64 0, .slice none 0 0]
    clear hcall2 hy hcutB
    by_cases he2 : e2 = 0
    · subst he2
      obtain ⟨jj, rfl, hj1, hj2, _, hd64⟩ := takeVec_one HY.out
      rw [List.length_drop] at hj2
      rw [if_neg (by omega)] at hA3
      by_cases hlt : (j : Int) + (jj : Int) < (x.length : Int)
      · rw [if_pos (.inr hlt)]
        clear hv
        go_enter Try.func38, Try.ntmps38
        go_wp2_with fail
        refine (HC.out _ (E.get m1)).mono ?_
        rintro e w1 ⟨A1, c1, rfl, own1, hb1⟩
        have F := E.step hb1
        go_wp2_with fail
        refine (HC2.out _ (F.get m0)).mono ?_
        rintro e w2 ⟨A2, c2, rfl, own2, hb2⟩
        have G := (F.give Stable.ownI' own1).step hb2
        obtain ⟨q0, f0, t0⟩ := G.rules m0
        have h7 := b7_all (G.at_ m0) (.int .i64 0) (.int .i64 0) (.int .i64 0) (.int .i64 0) (.int .i64 0) (.int .i64 0) (.slice none 0 0)
        have hb9 := G.below.trans (h7.2.below (fun k hk => by omega) G.below.size)
        obtain ⟨h3, _⟩ := h7
        clear E F G
        go_wp2_with fail
        generalize (((((((w2.setCell ⟨w.heap.size, 0, none⟩ (.int .i64 0)).setCell ⟨w.heap.size, 1, none⟩ (.int .i64 0)).setCell ⟨w.heap.size, 2, none⟩ (.int .i64 0)).setCell ⟨w.heap.size, 3, none⟩ (.int .i64 0)).setCell ⟨w.heap.size, 4, none⟩ (.int .i64 0)).setCell ⟨w.heap.size, 5, none⟩ (.int .i64 0)).setCell ⟨w.heap.size, 6, none⟩ (.slice none 0 0)) = w9 at h3 hb9 ⊢
        obtain ⟨q9, f9⟩ := h3.rules
        refine bodyPost_ret (v := .tuple #[.agg #[.int .i64 0, .int .i64 0, .int .i64 0, .int .i64 0, .int .i64 0, .int .i64 0, .slice none 0 0], .bool false]) (by simp [results, Try.results38, go_sem, q9]) rfl ⟨none, 0, rfl, World.ownsRow_nil _ _ _ _, hok0, hb9⟩
      · rw [if_neg (by simp; omega)]
        clear hv
        dsimp only
        have hokr : OkRc ⟨a0, a1, a2, a3, a4, a5, d⟩ := by
          have h63 := H63.out
          intro n hn
          have := h63 n hn
          omega
        have HCK := fun W A2 c2 => check_any ⟨a0, a1, a2, a3, a4, a5, d⟩ A2 c2 W hokr (by simp only; omega)
        unfold rcV at HCK
        simp only at HCK
        have HK := Lib.hid HCK
        clear HCK
        obtain ⟨b, hbk⟩ : ∃ b, decide (checkL ⟨a0, a1, a2, a3, a4, a5, d⟩ = 0) = b := ⟨_, rfl⟩
        rw [hbk]
        have hbk' : (checkL ⟨a0, a1, a2, a3, a4, a5, d⟩ == 0) = b := by rw [← hbk]; rfl
        generalize checkL ⟨a0, a1, a2, a3, a4, a5, d⟩ = ck at HK hbk'
        have HBK := Lib.hid hbk'
        clear hbk hbk'
        go_enter Try.func38, Try.ntmps38
        go_wp2_with fail
        refine (HC.out _ (E.get m1)).mono ?_
        rintro e w1 ⟨A1, c1, rfl, own1, hb1⟩
        have F := E.step hb1
        go_wp2_with fail
        refine (HC2.out _ (F.get m0)).mono ?_
        rintro e w2 ⟨A2, c2, rfl, own2, hb2⟩
        have G := (F.give Stable.ownI' own1).step hb2
        obtain ⟨q0, f0, t0⟩ := G.rules m0
        obtain ⟨ad, rfl, hc⟩ := reads_at1 (Reads.of_own (G.get m0)) (by simp)
        have hadl := own1.lt ad.block rfl
        have hs1 := F.below.size
        have ha0 := hc 0 _ rfl
        have ha1 := hc 1 _ rfl
        have ha2 := hc 2 _ rfl
        have ha3 := hc 3 _ rfl
        have ha4 := hc 4 _ rfl
        have ha5 := hc 5 _ rfl
        rw [addr0] at ha0
        rw [addrS _ _ (by decide)] at ha1 ha2 ha3 ha4 ha5
        unfold I64 at ha0 ha1 ha2 ha3 ha4 ha5
        have hadn : ad.block ≠ w.heap.size := by rw [World.size_alloc] at hadl; omega
        have h7 := b7_all (G.at_ m0) (.int .i64 a0) (.int .i64 a1) (.int .i64 a2) (.int .i64 a3) (.int .i64 a4) (.int .i64 a5) (.slice A2 d.length c2)
        have hadlt : ad.block < w2.heap.size := by have := hb2.size; omega
        have HS : Hid (w2.drew.cell? ad = some (.int .i64 a0) ∧ w2.drew.cell? ⟨ad.block, ad.off + 1, none⟩ = some (.int .i64 a1) ∧ w2.drew.cell? ⟨ad.block, ad.off + 2, none⟩ = some (.int .i64 a2) ∧ w2.drew.cell? ⟨ad.block, ad.off + 3, none⟩ = some (.int .i64 a3) ∧ w2.drew.cell? ⟨ad.block, ad.off + 4, none⟩ = some (.int .i64 a4) ∧ w2.drew.cell? ⟨ad.block, ad.off + 5, none⟩ = some (.int .i64 a5)) := Lib.hid ⟨ha0, ha1, ha2, ha3, ha4, ha5⟩
        have HS7 : Hid ((((((((w2.setCell ⟨w.heap.size, 0, none⟩ (.int .i64 a0)).setCell ⟨w.heap.size, 1, none⟩ (.int .i64 a1)).setCell ⟨w.heap.size, 2, none⟩ (.int .i64 a2)).setCell ⟨w.heap.size, 3, none⟩ (.int .i64 a3)).setCell ⟨w.heap.size, 4, none⟩ (.int .i64 a4)).setCell ⟨w.heap.size, 5, none⟩ (.int .i64 a5)).setCell ⟨w.heap.size, 6, none⟩ (.slice A2 d.length c2)).drew.cell? ad = some (.int .i64 a0) ∧ (((((((w2.setCell ⟨w.heap.size, 0, none⟩ (.int .i64 a0)).setCell ⟨w.heap.size, 1, none⟩ (.int .i64 a1)).setCell ⟨w.heap.size, 2, none⟩ (.int .i64 a2)).setCell ⟨w.heap.size, 3, none⟩ (.int .i64 a3)).setCell ⟨w.heap.size, 4, none⟩ (.int .i64 a4)).setCell ⟨w.heap.size, 5, none⟩ (.int .i64 a5)).setCell ⟨w.heap.size, 6, none⟩ (.slice A2 d.length c2)).drew.cell? ⟨ad.block, ad.off + 1, none⟩ = some (.int .i64 a1) ∧ (((((((w2.setCell ⟨w.heap.size, 0, none⟩ (.int .i64 a0)).setCell ⟨w.heap.size, 1, none⟩ (.int .i64 a1)).setCell ⟨w.heap.size, 2, none⟩ (.int .i64 a2)).setCell ⟨w.heap.size, 3, none⟩ (.int .i64 a3)).setCell ⟨w.heap.size, 4, none⟩ (.int .i64 a4)).setCell ⟨w.heap.size, 5, none⟩ (.int .i64 a5)).setCell ⟨w.heap.size, 6, none⟩ (.slice A2 d.length c2)).drew.cell? ⟨ad.block, ad.off + 2, none⟩ = some (.int .i64 a2) ∧ (((((((w2.setCell ⟨w.heap.size, 0, none⟩ (.int .i64 a0)).setCell ⟨w.heap.size, 1, none⟩ (.int .i64 a1)).setCell ⟨w.heap.size, 2, none⟩ (.int .i64 a2)).setCell ⟨w.heap.size, 3, none⟩ (.int .i64 a3)).setCell ⟨w.heap.size, 4, none⟩ (.int .i64 a4)).setCell ⟨w.heap.size, 5, none⟩ (.int .i64 a5)).setCell ⟨w.heap.size, 6, none⟩ (.slice A2 d.length c2)).drew.cell? ⟨ad.block, ad.off + 3, none⟩ = some (.int .i64 a3) ∧ (((((((w2.setCell ⟨w.heap.size, 0, none⟩ (.int .i64 a0)).setCell ⟨w.heap.size, 1, none⟩ (.int .i64 a1)).setCell ⟨w.heap.size, 2, none⟩ (.int .i64 a2)).setCell ⟨w.heap.size, 3, none⟩ (.int .i64 a3)).setCell ⟨w.heap.size, 4, none⟩ (.int .i64 a4)).setCell ⟨w.heap.size, 5, none⟩ (.int .i64 a5)).setCell ⟨w.heap.size, 6, none⟩ (.slice A2 d.length c2)).drew.cell? ⟨ad.block, ad.off + 4, none⟩ = some (.int .i64 a4) ∧ (((((((w2.setCell ⟨w.heap.size, 0, none⟩ (.int .i64 a0)).setCell ⟨w.heap.size, 1, none⟩ (.int .i64 a1)).setCell ⟨w.heap.size, 2, none⟩ (.int .i64 a2)).setCell ⟨w.heap.size, 3, none⟩ (.int .i64 a3)).setCell ⟨w.heap.size, 4, none⟩ (.int .i64 a4)).setCell ⟨w.heap.size, 5, none⟩ (.int .i64 a5)).setCell ⟨w.heap.size, 6, none⟩ (.slice A2 d.length c2)).drew.cell? ⟨ad.block, ad.off + 5, none⟩ = some (.int .i64 a5)) := by
          have e : ∀ q : Addr, q.block = ad.block → (((((((w2.setCell ⟨w.heap.size, 0, none⟩ (.int .i64 a0)).setCell ⟨w.heap.size, 1, none⟩ (.int .i64 a1)).setCell ⟨w.heap.size, 2, none⟩ (.int .i64 a2)).setCell ⟨w.heap.size, 3, none⟩ (.int .i64 a3)).setCell ⟨w.heap.size, 4, none⟩ (.int .i64 a4)).setCell ⟨w.heap.size, 5, none⟩ (.int .i64 a5)).setCell ⟨w.heap.size, 6, none⟩ (.slice A2 d.length c2)).drew.cell? q = w2.cell? q := fun q hq => World.cell?_of_block (h7.2.drew.block q.block (by omega) (by omega))
          refine Lib.hid ⟨?_, ?_, ?_, ?_, ?_, ?_⟩
          · exact (e ad rfl).trans ha0
          · exact (e ⟨ad.block, ad.off + 1, none⟩ rfl).trans ha1
          · exact (e ⟨ad.block, ad.off + 2, none⟩ rfl).trans ha2
          · exact (e ⟨ad.block, ad.off + 3, none⟩ rfl).trans ha3
          · exact (e ⟨ad.block, ad.off + 4, none⟩ rfl).trans ha4
          · exact (e ⟨ad.block, ad.off + 5, none⟩ rfl).trans ha5
        clear hc ha0 ha1 ha2 ha3 ha4 ha5
        go_upto_region 7 with fail
        go_region_held3 (fun W : World => W.cell? ad = some (.int .i64 a0) ∧ W.cell? ⟨ad.block, ad.off + 1, none⟩ = some (.int .i64 a1) ∧ W.cell? ⟨ad.block, ad.off + 2, none⟩ = some (.int .i64 a2) ∧ W.cell? ⟨ad.block, ad.off + 3, none⟩ = some (.int .i64 a3) ∧ W.cell? ⟨ad.block, ad.off + 4, none⟩ = some (.int .i64 a4) ∧ W.cell? ⟨ad.block, ad.off + 5, none⟩ = some (.int .i64 a5)) (first | with_reducible exact HS7.out | with_reducible exact HS.out) (fail)
        have hlt1 := (F.at_ m0).lt
        have own3 := own_turned own2 h7.2 hlt1
        have hb3 := G.below.trans (h7.2.below (fun k hk => by omega) G.below.size)
        have hB3 := h7.1
        clear h7 G F E HS HS7 own1 own2 q0 f0 t0
        generalize (((((((w2.setCell ⟨w.heap.size, 0, none⟩ (.int .i64 a0)).setCell ⟨w.heap.size, 1, none⟩ (.int .i64 a1)).setCell ⟨w.heap.size, 2, none⟩ (.int .i64 a2)).setCell ⟨w.heap.size, 3, none⟩ (.int .i64 a3)).setCell ⟨w.heap.size, 4, none⟩ (.int .i64 a4)).setCell ⟨w.heap.size, 5, none⟩ (.int .i64 a5)).setCell ⟨w.heap.size, 6, none⟩ (.slice A2 d.length c2)) = w3 at own3 hb3 hB3 ⊢
        replace own3 := own_below own3 (Below.refl _ _).drew (Nat.le_refl _)
        replace hb3 := hb3.drew
        replace hB3 := hB3.drew
        generalize w3.drew = w4 at own3 hb3 hB3 ⊢
        have hB5 := hB3.drew
        obtain ⟨q0, f0⟩ := hB5.rules
        have t0 := hB5.lt
        have hbk' := HBK.out
        go_upto_region 8 with fail
        go_region_with (go_at_call 26; refine (HK.out _ A2 c2).mono ?_; rintro e w5 ⟨rfl, hb5⟩; have hB6 := hB5.step hb5; obtain ⟨q1, f1⟩ := hB6.rules; have t1 := hB6.lt)
        all_goals have hb4 : Below w4.heap.size w4 w5 := (Below.refl w4.heap.size w4).drew.trans hb5
        all_goals have h7 := b7_all hB6 (.int .i64 a0) (.int .i64 a1) (.int .i64 a2) (.int .i64 a3) (.int .i64 a4) (.int .i64 a5) (.slice A2 d.length c2)
        all_goals have own6 := own_turned (own_below own3 hb4 (Nat.le_refl _)) h7.2 hlt1
        all_goals have hb6 := (hb3.trans (hb4.mono hb3.size)).trans (h7.2.below (fun k hk => by omega) (by have := hb3.size; have := hb4.size; omega))
        all_goals have hB7 := h7.1
        all_goals clear h7
        all_goals go_wp2_with fail
        all_goals generalize (((((((w5.setCell ⟨w.heap.size, 0, none⟩ (.int .i64 a0)).setCell ⟨w.heap.size, 1, none⟩ (.int .i64 a1)).setCell ⟨w.heap.size, 2, none⟩ (.int .i64 a2)).setCell ⟨w.heap.size, 3, none⟩ (.int .i64 a3)).setCell ⟨w.heap.size, 4, none⟩ (.int .i64 a4)).setCell ⟨w.heap.size, 5, none⟩ (.int .i64 a5)).setCell ⟨w.heap.size, 6, none⟩ (.slice A2 d.length c2)) = w9 at own6 hb6 hB7 ⊢
        all_goals obtain ⟨q9, f9⟩ := hB7.rules
        all_goals refine bodyPost_ret (v := .tuple #[.agg #[.int .i64 a0, .int .i64 a1, .int .i64 a2, .int .i64 a3, .int .i64 a4, .int .i64 a5, .slice A2 d.length c2], .bool b]) (by simp [results, Try.results38, go_sem, q9]) rfl ⟨A2, c2, rfl, own_base own6 (by omega), hokr, hb6⟩
    · rw [if_pos (.inl he2)]
      have he2' : ((e2 : Int) != 0) = true := by simpa using he2
      clear hv he2
      go_enter Try.func38, Try.ntmps38
      go_wp2_with fail
      refine (HC.out _ (E.get m1)).mono ?_
      rintro e w1 ⟨A1, c1, rfl, own1, hb1⟩
      have F := E.step hb1
      go_wp2_with fail
      refine (HC2.out _ (F.get m0)).mono ?_
      rintro e w2 ⟨A2, c2, rfl, own2, hb2⟩
      have G := (F.give Stable.ownI' own1).step hb2
      obtain ⟨q0, f0, t0⟩ := G.rules m0
      have h7 := b7_all (G.at_ m0) (.int .i64 0) (.int .i64 0) (.int .i64 0) (.int .i64 0) (.int .i64 0) (.int .i64 0) (.slice none 0 0)
      have hb9 := G.below.trans (h7.2.below (fun k hk => by omega) G.below.size)
      obtain ⟨h3, _⟩ := h7
      clear E F G
      go_wp2_with fail
      generalize (((((((w2.setCell ⟨w.heap.size, 0, none⟩ (.int .i64 0)).setCell ⟨w.heap.size, 1, none⟩ (.int .i64 0)).setCell ⟨w.heap.size, 2, none⟩ (.int .i64 0)).setCell ⟨w.heap.size, 3, none⟩ (.int .i64 0)).setCell ⟨w.heap.size, 4, none⟩ (.int .i64 0)).setCell ⟨w.heap.size, 5, none⟩ (.int .i64 0)).setCell ⟨w.heap.size, 6, none⟩ (.slice none 0 0)) = w9 at h3 hb9 ⊢
      obtain ⟨q9, f9⟩ := h3.rules
      refine bodyPost_ret (v := .tuple #[.agg #[.int .i64 0, .int .i64 0, .int .i64 0, .int .i64 0, .int .i64 0, .int .i64 0, .slice none 0 0], .bool false]) (by simp [results, Try.results38, go_sem, q9]) rfl ⟨none, 0, rfl, World.ownsRow_nil _ _ _ _, hok0, hb9⟩
  · rw [if_pos he]
    have he' : ((e : Int) != 0) = true := by simpa using he
    clear he hy
    go_enter Try.func38, Try.ntmps38
    go_wp2_with fail
    refine (hcall _ (E.get m0)).mono ?_
    rintro e w1 ⟨A1, c1, rfl, own1, hb1⟩
    have F := E.step hb1
    obtain ⟨q0, f0, t0⟩ := F.rules m0
    have h7 := b7_all (F.at_ m0) (.int .i64 0) (.int .i64 0) (.int .i64 0) (.int .i64 0) (.int .i64 0) (.int .i64 0) (.slice none 0 0)
    have hb9 := F.below.trans (h7.2.below (fun k hk => by omega) F.below.size)
    obtain ⟨h3, _⟩ := h7
    clear E F
    go_wp2_with fail
    generalize ((((((w1.setCell ⟨w.heap.size, 0, none⟩ (.int .i64 0)).setCell ⟨w.heap.size, 1, none⟩ (.int .i64 0)).setCell ⟨w.heap.size, 2, none⟩ (.int .i64 0)).setCell ⟨w.heap.size, 3, none⟩ (.int .i64 0)).setCell ⟨w.heap.size, 4, none⟩ (.int .i64 0)).setCell ⟨w.heap.size, 5, none⟩ (.int .i64 0)).setCell ⟨w.heap.size, 6, none⟩ (.slice none 0 0) = w9 at h3 hb9 ⊢
    obtain ⟨q9, f9⟩ := h3.rules
    refine bodyPost_ret (v := .tuple #[.agg #[.int .i64 0, .int .i64 0, .int .i64 0, .int .i64 0, .int .i64 0, .int .i64 0, .slice none 0 0], .bool false]) (by simp [results, Try.results38, go_sem, q9]) rfl ⟨none, 0, rfl, World.ownsRow_nil _ _ _ _, hok0, hb9⟩
end Go.Proofs.Ytpacjjaekmipfaa
