/- The walk of quicksetlaw02.WireBack. -/
import Derived.Test.YtbjgemipmlimoaaWireInv
import Derived.Test.YtbjgemipmlimoaaSameMsg
import Derived.Test.YtbjgemipmlimoaaWireLive
namespace Go.Proofs.Ytbjgemipmlimoaa
open Go.RowKit Go.WideShapes Go.ChangeShapes Go.Deep

set_option maxRecDepth 100000 in
theorem open_msg_arg {H : Type} {enc : TypeId × Value → H} {w : World} {base : Nat} {v : Value} {d : DataW H} {p : List MemPlace} (hv : Value.okWide Try.prog w .any base 45 v) (h : DataW.Trod enc Try.prog w 0 (fun _ => true) true 45 v d p) (hs : Small Try.prog 45 d) :
    ∃ m, IsM w (· < w.heap.size) v m := by
  obtain ⟨cs, rfl, _⟩ := okWide_struct Try.underlying45 hv
  obtain ⟨fuel, hf⟩ := h
  obtain ⟨m, va, vd, hcs, hA, hD, r1, r2, r3, r4⟩ := open_msg hf hs
  obtain ⟨A1, c1, rfl, _⟩ := hA.form
  have hD0 := hD
  obtain ⟨A2, c2, rfl, _⟩ := hD
  refine ⟨m, A1, c1, A2, c2, ?_, hA, hD0, ?_⟩
  · unfold mv
    congr 1
    apply Array.toList_inj.1
    simpa [Value.cells] using hcs
  · intro n hn
    simp only [List.mem_cons, List.not_mem_nil, or_false] at hn
    rcases hn with rfl | rfl | rfl | rfl
    · exact r1
    · exact r2
    · exact r3
    · exact r4

def bigM (m : Ms) : Bool := decide (200 < m.args.length) || decide (70000 < m.data.length)
set_option maxRecDepth 100000 in
set_option maxHeartbeats 400000 in
theorem bigM_any (v : Value) (m : Ms) (K : Nat → Prop) (w : World) (hv : IsM w K v m) :
    Calls Try.prog 39 #[v] w fun e w' => e = .returned (.bool (bigM m)) ∧ Below w.heap.size w w' := by
  obtain ⟨A1, c1, A2, c2, rfl, _⟩ := hv
  unfold mv
  obtain ⟨res, hres⟩ : ∃ res, res = bigM m := ⟨_, rfl⟩
  rw [← hres]
  by_cases h1 : 200 < m.args.length
  · have hx : res = true := by rw [hres]; unfold bigM; simp [h1]
    have HX := Lib.hid hx; clear hx hres
    have h1' : (200 : Int) < (m.args.length : Int) := by omega
    go_enter Try.func39, Try.ntmps39
    go_wp2
    go_ret
    rw [HX.out]
    exact ⟨rfl, (Below.refl _ _).alloc (Nat.le_refl _) _⟩
  · have h1' : ¬ (200 : Int) < (m.args.length : Int) := by omega
    have hx : res = decide (70000 < m.data.length) := by rw [hres]; unfold bigM; simp [h1]
    have HX := Lib.hid hx; clear hx hres h1
    by_cases h2 : 70000 < m.data.length
    · have h2' : (70000 : Int) < (m.data.length : Int) := by omega
      go_enter Try.func39, Try.ntmps39
      go_wp2
      go_ret
      rw [HX.out, decide_eq_true h2]
      exact ⟨rfl, (Below.refl _ _).alloc (Nat.le_refl _) _⟩
    · have h2' : ¬ (70000 : Int) < (m.data.length : Int) := by omega
      go_enter Try.func39, Try.ntmps39
      go_wp2
      go_ret
      rw [HX.out, decide_eq_false h2]
      exact ⟨rfl, (Below.refl _ _).alloc (Nat.le_refl _) _⟩
theorem bigM_false {m : Ms} (h : bigM m = false) : m.args.length ≤ 200 ∧ m.data.length ≤ 70000 := by
  unfold bigM at h
  simp only [Bool.or_eq_false_iff, decide_eq_false_iff_not] at h
  omega

theorem bytesM_len {m : Ms} (h : okM m) : (bytesM m).length ≤ 70000 := by
  obtain ⟨h1, h2, h3⟩ := h
  have h4 := flatN_len (l := headM m ++ m.args) (fun n hn => ⟨by have := h1 n hn; omega, (h1 n hn).2⟩)
  have h5 := putL_len10 (n := m.data.length) (by omega)
  unfold bytesM
  rw [List.length_append] at h4
  have h6 : (headM m).length = 5 := rfl
  simp only [List.length_append] at h4 ⊢
  omega

set_option maxRecDepth 100000 in
set_option maxHeartbeats 2000000 in
theorem wireBack_any (v sv : Value) (m : Ms) (l : List UInt8) (cut : Int) (w : World) (hv : IsM w (· < w.heap.size) v m) (hs : IsB w (· < w.heap.size) sv l) :
    Calls Try.prog 9 #[v, sv, .int .i64 cut] w fun e w' => e = .returned (.bool true) ∧ Below w.heap.size w w' := by
  obtain ⟨i0, hi, hz0, hz1, hz2⟩ := info_parts Try.info5
  obtain ⟨A1, c1, A2, c2, rfl, h1, h2, h63⟩ := hv
  have ha63 : I63 m.args := by obtain ⟨_, ⟨cs, _, hc⟩, _⟩ := h1.open_; exact (ints_cells hc).2
  have hs0 := hs
  obtain ⟨A3, c3, rfl, _⟩ := hs
  have h63' := Lib.hid h63
  unfold mv
  have E := ((((Kn.start w).give Stable.list h1).give Stable.bytes h2).give Stable.bytes hs0).push 45 #[.int .i64 m.kind, .int .i64 m.frm, .int .i64 m.to, .int .i64 m.id, .slice A1 m.args.length c1, .slice A2 m.data.length c2]
  clear h1 h2 hs0 h63
  by_cases hbig : bigM m = true
  · have HB := Lib.hid hbig; clear hbig
    go_enter Try.func9, Try.ntmps9
    go_wp2_with fail
    refine (live02_any _).mono ?_
    rintro e w1 ⟨rfl, hb1⟩
    replace E := E.step hb1
    obtain ⟨q1, f1, t1⟩ := E.rules m0
    go_wp2_with fail
    refine (bigM_any _ m _ w1 ⟨A1, c1, A2, c2, rfl, E.get m2, E.get m1, h63'.out⟩).mono ?_
    rw [HB.out]
    rintro e w2 ⟨rfl, hb2⟩
    replace E := E.step hb2
    go_wp2
    go_ret
    exact ⟨rfl, E.below⟩
  · have hbf := Bool.eq_false_iff.2 hbig
    obtain ⟨hal, hdl⟩ := bigM_false hbf
    have HB := Lib.hid hbf; clear hbf hbig
    by_cases hl : 1000 < l.length
    · have hl' : (1000 : Int) < (l.length : Int) := by omega
      go_enter Try.func9, Try.ntmps9
      go_wp2_with fail
      refine (live02_any _).mono ?_
      rintro e w1 ⟨rfl, hb1⟩
      replace E := E.step hb1
      obtain ⟨q1, f1, t1⟩ := E.rules m0
      go_wp2_with fail
      refine (bigM_any _ m _ w1 ⟨A1, c1, A2, c2, rfl, E.get m2, E.get m1, h63'.out⟩).mono ?_
      rw [HB.out]
      rintro e w2 ⟨rfl, hb2⟩
      replace E := E.step hb2
      go_wp2
      go_ret
      exact ⟨rfl, E.below⟩
    · have hl' : ¬ (1000 : Int) < (l.length : Int) := by omega
      obtain ⟨r, hr⟩ : ∃ r, msgL m = r := ⟨_, rfl⟩
      obtain ⟨b, er⟩ := r
      by_cases her : er = 0
      · subst her
        obtain ⟨hok, hmb⟩ := msgL_ok h63'.out ha63 (by rw [hr])
        obtain rfl : b = bytesM m := by rw [hr] at hmb; exact congrArg Prod.fst hmb
        have hlen := bytesM_len hok
        have hpos := bytesM_pos m
        have HBACK := Lib.hid (takeMsg_back hok l)
        have HCUT := Lib.hid (fun c hc => takeMsg_cut hok (cut := c) hc)
        have HR := Lib.hid hr; clear hr hmb hok
        generalize bytesM m = b at *
        have hn1 := Int.tmod_lt_of_pos cut (show (0 : Int) < (b.length : Int) by omega)
        have hn2 := Int.lt_tmod_of_pos cut (show (0 : Int) < (b.length : Int) by omega)
        obtain ⟨j, hj⟩ : ∃ j : Nat, cut.tmod (b.length : Int) % (b.length : Int) = (j : Int) := ⟨(cut.tmod (b.length : Int) % (b.length : Int)).toNat, by have := Int.emod_nonneg (cut.tmod (b.length : Int)) (show (b.length : Int) ≠ 0 by omega); omega⟩
        have hjl : (j : Int) < (b.length : Int) := by have := Int.emod_lt_of_pos (cut.tmod (b.length : Int)) (show (0 : Int) < (b.length : Int) by omega); omega
        have hj0 : (0 : Int) ≤ (j : Int) := by omega
        go_enter Try.func9, Try.ntmps9
        go_wp2_with fail
        refine (live02_any _).mono ?_
        rintro e w1 ⟨rfl, hb1⟩
        replace E := E.step hb1
        obtain ⟨q1, f1, t1⟩ := E.rules m0
        go_wp2_with fail
        refine (bigM_any _ m _ w1 ⟨A1, c1, A2, c2, rfl, E.get m2, E.get m1, h63'.out⟩).mono ?_
        rw [HB.out]
        rintro e w2 ⟨rfl, hb2⟩
        replace E := E.step hb2
        clear q1 f1 t1
        obtain ⟨q1, f1, t1⟩ := E.rules m0
        go_wp2_with fail
        refine (wmsg_any _ m _ w2 ⟨A1, c1, A2, c2, rfl, E.get m2, E.get m1, h63'.out⟩ (by omega)).mono ?_
        rw [HR.out]
        rintro e w3 ⟨A5, c5, rfl, own5, hb3⟩
        simp only at own5
        have i5 := IsB.of_own own5 (by omega)
        have hjc : (j : Int) ≤ (c5 : Int) := by have := own_cap own5; omega
        replace E := (E.step hb3).give Stable.bytes i5
        clear q1 f1 t1 own5 i5
        have hr5 := (IsB.open_ (E.get m0)).2.1
        have hrl := (IsB.open_ (E.get m1)).2.1
        go_wp2_with (first
          | (at_builtin; refine wpList_appN rfl (.const _) (.tmp 48) _ rfl w3.heap.size 5 i0 _ 1 1 Try.underlying24 hi hz0 hz1 hz2 rfl (by omega) rfl (World.ownsRow_nil _ _ _ _) rfl hr5 (cells8_one _) (by simp only [maxLen]; omega) (by omega) (Nat.le_refl _) ?_; intro A6 c6 w4 own6 hg6; have hs6 := hg6.below.size; simp only [Nat.zero_add, List.nil_append] at own6; have hrl6 := hrl.step hg6.below)
          | (at_builtin; refine wpList_appN rfl (.tmp 49) (.tmp 50) _ rfl w3.heap.size 5 i0 _ 1 1 Try.underlying24 hi hz0 hz1 hz2 rfl (by omega) rfl own6 rfl hrl6 (cells8_one _) (by simp only [maxLen]; omega) (by omega) hs6 ?_; intro A7 c7 w5 own7 hg7)
          | fail)
        rw [← cells8_append, ← List.length_append] at own7
        have hbl : (b ++ l).length ≤ 80000 := by rw [List.length_append]; omega
        have i7 := IsB.of_own own7 (by omega)
        replace E := (E.step (hg6.below.trans hg7.below)).give Stable.bytes i7
        clear hg6 hg7 own6 own7 hr5 hrl hrl6 i7
        obtain ⟨q1, f1, t1⟩ := E.rules m0
        simp only [← List.length_append]
        refine (takeMsg_any _ (b ++ l) _ w5 (E.get m0) (by omega)).mono ?_
        rw [HBACK.out]
        rintro e w6 ⟨v6, rfl, ⟨A8, c8, A9, c9, rfl, i8, i9, _⟩, hb6⟩
        replace E := ((E.step hb6).give Stable.list i8).give Stable.bytes i9
        clear q1 f1 t1 hb6 i8 i9
        unfold mv
        go_wp2_with fail
        replace E := E.push 45 #[.int .i64 m.kind, .int .i64 m.frm, .int .i64 m.to, .int .i64 m.id, .slice A8 m.args.length c8, .slice A9 m.data.length c9]
        have hcut := IsB.pre (E.get m3) (k := j) (by omega)
        refine (takeMsg_any _ (b.take j) _ _ hcut (by rw [List.length_take]; omega)).mono ?_
        rw [HCUT.out j (by omega)]
        rintro e w7 ⟨v7, rfl, ⟨A10, c10, A11, c11, rfl, _⟩, hb7⟩
        replace E := E.step hb7
        obtain ⟨q1, f1, t1⟩ := E.rules m0
        obtain ⟨q2, f2, t2⟩ := E.rules m1
        unfold mv m0s
        go_wp2_with fail
        replace E := E.alloc (.cells #[.int .i64 0, .int .i64 0, .int .i64 0, .int .i64 0, .slice A10 0 c10, .slice A11 0 c11] 45)
        refine (sameMsg_any _ _ m _ _ _ ⟨A8, c8, A9, c9, rfl, E.get m1, E.get m0, h63'.out⟩ ⟨A1, c1, A2, c2, rfl, E.get m6, E.get m5, h63'.out⟩).mono ?_
        rintro e w8 ⟨rfl, hb8⟩
        replace E := E.step hb8
        go_wp2
        go_ret
        exact ⟨rfl, E.below⟩
      · have hbe : b = [] := by have := msgL_err (m := m) (by rw [hr]; exact her); rw [hr] at this; exact this
        subst hbe
        have heb : (er != 0) = true := by simpa using her
        have HR := Lib.hid hr; clear hr her
        go_enter Try.func9, Try.ntmps9
        go_wp2_with fail
        refine (live02_any _).mono ?_
        rintro e w1 ⟨rfl, hb1⟩
        replace E := E.step hb1
        obtain ⟨q1, f1, t1⟩ := E.rules m0
        go_wp2_with fail
        refine (bigM_any _ m _ w1 ⟨A1, c1, A2, c2, rfl, E.get m2, E.get m1, h63'.out⟩).mono ?_
        rw [HB.out]
        rintro e w2 ⟨rfl, hb2⟩
        replace E := E.step hb2
        clear q1 f1 t1
        obtain ⟨q1, f1, t1⟩ := E.rules m0
        go_wp2_with fail
        refine (wmsg_any _ m _ w2 ⟨A1, c1, A2, c2, rfl, E.get m2, E.get m1, h63'.out⟩ (by omega)).mono ?_
        rw [HR.out]
        rintro e w3 ⟨A5, c5, rfl, own5, hb3⟩
        replace E := E.step hb3
        go_wp2
        go_ret
        exact ⟨rfl, E.below⟩
end Go.Proofs.Ytbjgemipmlimoaa
