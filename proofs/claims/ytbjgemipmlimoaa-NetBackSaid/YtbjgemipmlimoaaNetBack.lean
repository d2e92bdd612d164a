/- The walk of quicksetlaw13.NetBack. -/
import Derived.Test.YtbjgemipmlimoaaNetWrite
import Derived.Test.YtbjgemipmlimoaaNetRead
import Derived.Test.YtbjgemipmlimoaaSame13
import Derived.Test.YtbjgemipmlimoaaNetSend
import Derived.Test.YtbjgemipmlimoaaKn
namespace Go.Proofs.Ytbjgemipmlimoaa
open Go.RowKit

theorem sendQ_inv (cap : Int) : ∀ (l q : List Ms) (k : Nat), (q.length : Int) ≤ cap → (∀ m ∈ q, okB m = true) → ((sendQ cap l q k).1.length : Int) ≤ cap ∧ ∀ m ∈ (sendQ cap l q k).1, okB m = true ∧ (m ∈ q ∨ m ∈ l)
  | [], q, k, h, hq => ⟨h, fun m hm => ⟨hq m hm, .inl hm⟩⟩
  | m :: l, q, k, h, hq => by
    unfold sendQ
    split
    · rename_i hc
      obtain ⟨h1, h2⟩ := sendQ_inv cap l (q ++ [m]) (k + 1) (by simp; omega) (fun x hx => by
        rcases List.mem_append.1 hx with hx | hx
        · exact hq x hx
        · rw [List.mem_singleton.1 hx]; simp [okB, hc.1])
      refine ⟨h1, fun x hx => ⟨(h2 x hx).1, ?_⟩⟩
      rcases (h2 x hx).2 with h3 | h3
      · rcases List.mem_append.1 h3 with h3 | h3
        · exact .inl h3
        · exact .inr (by rw [List.mem_singleton.1 h3]; exact List.mem_cons_self ..)
      · exact .inr (List.mem_cons_of_mem _ h3)
    · obtain ⟨h1, h2⟩ := sendQ_inv cap l q k h hq
      exact ⟨h1, fun x hx => ⟨(h2 x hx).1, (h2 x hx).2.imp id (List.mem_cons_of_mem _)⟩⟩
theorem ArgsLe.ok {l : List Ms} (h : ∀ m ∈ l, okM m) : ArgsLe l := fun m hm => by have := (h m hm).2.1; omega

theorem readN_cases {M : Int} {b : List UInt8} (hN : newN M = (M, 0)) {B : Nat} (hB : M ≤ B) :
    ((readN b M).2.2 ≠ 0 ∧ (readN b M).1 = 0 ∧ (readN b M).2.1 = []) ∨ ((readN b M).2.2 = 0 ∧ (readN b M).1 = M ∧ (readN b M).2.1.length ≤ B ∧ flatM (readN b M).2.1 = b ∧ ∀ m ∈ (readN b M).2.1, okM m) := by
  have e : readN b M = match readG b.length b [] with
    | none => (0, [], 21)
    | some q => if M < q.length then (0, [], 2) else (M, q, 0) := by unfold readN; rw [hN, if_neg (by simp)]; rfl
  cases hg : readG b.length b [] with
  | none =>
    rw [hg] at e
    have e2 : readN b M = (0, [], 21) := e
    rw [e2]; exact .inl ⟨by simp, rfl, rfl⟩
  | some p =>
    rw [hg] at e
    by_cases hp : M < (p.length : Int)
    · have e2 : readN b M = (0, [], 2) := e.trans (if_pos hp)
      rw [e2]; exact .inl ⟨by simp, rfl, rfl⟩
    · have e2 : readN b M = (M, p, 0) := e.trans (if_neg hp)
      obtain ⟨q, e1, e3, e4⟩ := readG_one _ _ _ _ hg
      simp only [List.nil_append] at e1
      subst e1
      rw [e2]; exact .inr ⟨rfl, rfl, by show p.length ≤ B; omega, e3, e4⟩

set_option maxRecDepth 100000 in
set_option maxHeartbeats 8000000 in
theorem netBack_any (v bv : Value) (most0 : Int) (l : List Ms) (b : List UInt8) (w : World) (hv : IsL Rp.msg w (· < w.heap.size) v l) (hl80 : l.length * 80 ≤ 140737488351232) (hla : ∀ m ∈ l, m.args.length ≤ 17592186043904) (hbv : IsB w (· < w.heap.size) bv b) :
    Calls Try.prog 12 #[.int .i64 most0, v, bv] w fun e w' => e = .returned (.bool true) ∧ Below w.heap.size w w' := by
  have hv0 := hv
  have hb0 := hbv
  obtain ⟨A, c, rfl, hlc, hcc⟩ := hv.form
  obtain ⟨Ab, cb, rfl, _, hlcb, hccb, hl47⟩ := hbv
  have hlen := hv.len
  have E := ((Kn.start w).give Stable.list hv0).give Stable.bytes hb0
  obtain ⟨bg, hbg⟩ : ∃ bg, bigL l = bg := ⟨_, rfl⟩
  have HB := Lib.hid hbg; clear hbg
  by_cases hout : bg = true ∨ 20000 < b.length
  · have hout' : bg = true ∨ (bg = false ∧ 20000 < b.length) := by cases bg <;> simp_all
    clear hout
    rcases hout' with rfl | ⟨rfl, hbl⟩
    · go_enter Try.func12, Try.ntmps12
      go_wp2_with fail
      refine (live13_any _).mono ?_
      rintro e w1 ⟨rfl, hb1⟩
      replace E := E.step hb1
      go_wp2_with fail
      refine (big13_any _ l _ w1 (E.get m1)).mono ?_
      rw [HB.out]
      rintro e w2 ⟨rfl, hb2⟩
      replace E := E.step hb2
      go_wp2
      go_ret
      exact ⟨rfl, E.below⟩
    · have hbl' : (20000 : Int) < (b.length : Int) := by omega
      go_enter Try.func12, Try.ntmps12
      go_wp2_with fail
      refine (live13_any _).mono ?_
      rintro e w1 ⟨rfl, hb1⟩
      replace E := E.step hb1
      go_wp2_with fail
      refine (big13_any _ l _ w1 (E.get m1)).mono ?_
      rw [HB.out]
      rintro e w2 ⟨rfl, hb2⟩
      replace E := E.step hb2
      go_wp2
      go_ret
      exact ⟨rfl, E.below⟩
  · have hbf : bg = false := by cases bg <;> simp_all
    subst hbf
    have hbl : b.length ≤ 20000 := by omega
    have hbl' : ¬ (20000 : Int) < (b.length : Int) := by omega
    clear hout
    have hlens := hv0.lens
    have HLA := Lib.hid hla
    have HLENS := Lib.hid hlens
    clear hla hlens
    go_enter Try.func12, Try.ntmps12
    go_wp2_with fail
    refine (live13_any _).mono ?_
    rintro e w1 ⟨rfl, hb1⟩
    replace E := E.step hb1
    go_wp2_with fail
    refine (big13_any _ l _ w1 (E.get m1)).mono ?_
    rw [HB.out]
    rintro e w2 ⟨rfl, hb2⟩
    replace E := E.step hb2
    clear hb1 hb2
    go_wp2_with fail
    have hmod := norm_mod most0 30 (by omega) (by omega)
    have hM : wrap64 (1 + (wrap64 (most0.tmod 30 + 30)).tmod 30) = 1 + (wrap64 (most0.tmod 30 + 30)).tmod 30 := by unfold wrap64 at hmod ⊢; omega
    have hM1 : 1 ≤ wrap64 (1 + (wrap64 (most0.tmod 30 + 30)).tmod 30) := by omega
    have hM2 : wrap64 (1 + (wrap64 (most0.tmod 30 + 30)).tmod 30) ≤ 30 := by omega
    clear hM hmod
    generalize wrap64 (1 + (wrap64 (most0.tmod 30 + 30)).tmod 30) = M at hM1 hM2 ⊢
    have hn1 : newN M = (M, 0) := if_pos ⟨hM1, by omega⟩
    have HN := Lib.hid hn1; clear hn1
    refine (netNew_any M _).mono ?_
    rw [HN.out]
    rintro e w3 ⟨rfl, hb3⟩
    have hg6 : w.heap.size ≤ w3.heap.size := (E.step hb3).below.size
    replace E := (E.step hb3).push 38 #[.int .i64 M, .slice none 0 0]
    clear hb3
    obtain ⟨rs, hrs⟩ : ∃ rs, sendQ M l [] 0 = rs := ⟨_, rfl⟩
    have hsi := sendQ_inv M l [] 0 (by simp; omega) (by simp)
    rw [hrs] at hsi
    obtain ⟨q, kq⟩ := rs
    simp only at hsi
    obtain ⟨hqM, hqo⟩ := hsi
    have hqok : ∀ m ∈ q, okM m := fun m hm => by
      have h1 := hqo m hm
      rcases h1.2 with h2 | h2
      · cases h2
      · have h3 := (HLENS.out m h2).2
        exact (msgL_ok h3.1 h3.2 (of_decide_eq_true h1.1)).1
    have hqa := ArgsLe.ok hqok
    have hsend := fun v lv K W hv hq => send_big v lv ⟨M, []⟩ l K (· < w.heap.size) W hv hq HLA.out (fun m hm => by cases hm) (by omega) (by simp) (by simp only; omega)
    simp only at hsend
    rw [hrs] at hsend
    have hwl := writeL_ok hqok
    have hq63 : ∀ m ∈ q, I63 [m.kind, m.frm, m.to, m.id] ∧ I63 m.args := fun m hm => by
      rcases (hqo m hm).2 with h2 | h2
      · cases h2
      · exact (HLENS.out m h2).2
    have hfl := flatM_len hq63
    have hfl' : (flatM q).length ≤ 2100000 := by omega
    have hrd : readN (flatM q) M = (M, q, 0) := by
      unfold readN
      rw [HN.out]
      have := readG_back q (flatM q).length [] hqok (Nat.le_refl _)
      rw [this]
      simp
      omega
    generalize flatM q = fq at hwl hfl' hrd
    have HWL := Lib.hid hwl; have HRD := Lib.hid hrd; have HSEND := Lib.hid hsend
    have HQOK := Lib.hid hqok
    clear hwl hrd hsend hqo hqok hfl hq63 hrs
    go_wp2_with fail
    refine (HSEND.out _ _ (fun _ => True) _ ⟨none, 0, rfl, IsL.nil_ _ _⟩ (E.get m1)).mono ?_
    rintro e w4 ⟨A4, c4, rfl, own4, hb4⟩
    replace E := E.step hb4
    have s4 := hb4.size
    simp at s4
    have hq4 := own4.isLt (X' := fun b => w3.heap.size < b ∧ b < w4.heap.size) (by omega) (fun b hb hb2 => by simp at hb2; omega) (fun b hb hb2 => by simp at hb2; omega)
    clear own4 hb4
    obtain ⟨q1, f1, t1⟩ := E.rules m0
    have hq5 := hq4.far2 (g := w3.heap.size) (by omega) (.int .i64 M) (.slice A4 q.length c4)
    have B6 := (E.at_ m0).set2 (x := .int .i64 M) (y := .slice A4 q.length c4)
    have hb5 := IsB.far2 (E.get m0) (show ¬ w3.heap.size < w.heap.size by omega) (.int .i64 M) (.slice A4 q.length c4)
    have hbel := below_set2 (x := .int .i64 M) (y := .slice A4 q.length c4) E.below hg6
    have hsz5 := size_set2 (w := w4) (g := w3.heap.size) (x := .int .i64 M) (y := .slice A4 q.length c4)
    clear E hq4
    go_wp2_with fail
    clear q1 f1
    generalize (w4.setCell ⟨w3.heap.size, 0, none⟩ (.int .i64 M)).setCell ⟨w3.heap.size, 1, none⟩ (.slice A4 q.length c4) = w5 at hq5 B6 hb5 hbel hsz5 ⊢
    have s5 : w3.heap.size < w5.heap.size := B6.lt
    have E := (((Kn.from_ hbel hbel.size).give Stable.list hq5).give Stable.bytes hb5).know B6
    clear hq5 hb5 B6 hbel hsz5
    refine (write_any _ ⟨M, q⟩ _ _ ⟨A4, c4, rfl, E.get m1⟩ hqa (by simp only; omega)).mono ?_
    simp only [HWL.out]
    rintro e w6 ⟨A6, c6, rfl, own6, hb6⟩
    replace E := (E.step hb6).give Stable.bytes (IsB.of_own own6 (by omega))
    clear own6 hb6
    obtain ⟨q1, f1, t2⟩ := E.rules m0
    go_wp2_with fail
    refine (read_any _ fq M _ _ (E.get m0) (by omega)).mono ?_
    simp only [HRD.out]
    rintro e w7 ⟨A7, c7, rfl, own7, hb7⟩
    replace E := ((E.step hb7).give Stable.list (own7.isL (X' := fun _ => True) (by omega) (fun _ _ => trivial) (fun _ _ => trivial)))
    clear own7 hb7 q1 f1
    obtain ⟨q1, f1, t3⟩ := E.rules m0
    replace E := E.push 38 #[.int .i64 M, .slice A7 q.length c7]
    go_wp2_with fail
    refine (same13_any _ _ ⟨M, q⟩ _ _ _ ⟨A7, c7, rfl, E.get m0⟩ ⟨A4, c4, rfl, E.get m3⟩).mono ?_
    rintro e w8 ⟨rfl, hb8⟩
    replace E := E.step hb8
    clear hb8 q1 f1
    go_wp2_with fail
    obtain ⟨rr, hrr⟩ : ∃ rr, readN b M = rr := ⟨_, rfl⟩
    have hcases := readN_cases (b := b) HN.out hM2
    rw [hrr] at hcases
    have HRR := Lib.hid hrr
    clear hrr
    obtain ⟨rc, rq, re⟩ := rr
    simp only at hcases
    refine (read_any _ b M _ _ (E.get m2) (by omega)).mono ?_
    rw [HRR.out]
    rintro e w9 ⟨A9, c9, rfl, own9, hb9⟩
    simp only at own9
    rcases hcases with ⟨hre, rfl, rfl⟩ | ⟨rfl, rfl, hrl, hfb, hrok⟩
    · have heb : (re != 0) = true := by simpa using hre
      clear hre
      replace E := E.step hb9
      go_wp2
      go_ret
      exact ⟨rfl, (E.alloc _).below⟩
    · replace E := (E.step hb9).give Stable.list (own9.isL (X' := fun _ => True) (by omega) (fun _ _ => trivial) (fun _ _ => trivial))
      replace E := E.push 38 #[.int .i64 rc, .slice A9 rq.length c9]
      clear own9 hb9
      have hw2 := writeL_ok hrok
      rw [hfb] at hw2
      have HW2 := Lib.hid hw2
      have HRA := Lib.hid (ArgsLe.ok hrok)
      clear hw2 hrok hfb
      go_wp2_with fail
      refine (write_any _ ⟨rc, rq⟩ _ _ ⟨A9, c9, rfl, E.get m0⟩ HRA.out (by simp only; omega)).mono ?_
      simp only [HW2.out]
      rintro e w10 ⟨A10, c10, rfl, own10, hb10⟩
      replace E := E.step hb10
      have hs1 := run_string_of (P := Try.prog) (cap := c10) (n := b.length) (l := b) w10 24 9 5 Try.underlying24 Try.underlying5 Try.underlying9 rfl (Reads.of_own own10)
      have hs2 := run_string_of (P := Try.prog) (cap := cb) (n := b.length) (l := b) w10 24 9 5 Try.underlying24 Try.underlying5 Try.underlying9 rfl (IsB.open_ (E.get m3)).2.1
      clear own10 hb10
      go_wp2
      go_ret
      exact ⟨rfl, E.below⟩
end Go.Proofs.Ytbjgemipmlimoaa
