/- The walk of quicksetlaw02.WireCuts. -/
import Derived.Test.YtbjgemipmlimoaaWireLaws
import Derived.Test.YtbjgemipmlimoaaSameMsg
import Derived.Test.YtbjgemipmlimoaaWireLive
namespace Go.Proofs.Ytbjgemipmlimoaa
open Go.RowKit

theorem takeVec_cut {d : List UInt8} {c : Nat} (hd : d.length ≤ 65536) (hc : c < (putL d.length ++ d).length) : takeVecL ((putL d.length ++ d).take c) = ([], 0, 20) := by
  rw [List.length_append] at hc
  obtain ⟨q, h⟩ := rvec_cut (L := putL d.length ++ d) (rest := []) (p := 0) (c := c) hd (Nat.zero_le _) (by simp) (by omega)
  unfold takeVecL
  rw [h, if_pos (by simp)]
theorem takeNums_cut {l : List Int} {c : Nat} (h0 : ∀ n ∈ l, 0 ≤ n ∧ n ≤ 9223372036854775807) (hc : c < (flatN l).length) : takeNumsL ((flatN l).take c) (l.length : Int) = ([], 0, 20) := by
  unfold takeNumsL
  rw [if_neg (by omega), Int.toNat_natCast]
  rcases rnums_cut (L := flatN l) (c := c) l [] 0 [] h0 (Nat.zero_le _) (by simp) with ⟨h1, _⟩ | ⟨_, q, h⟩
  · omega
  · rw [h, if_pos (by simp)]
theorem takeNums_back {l : List Int} (h0 : ∀ n ∈ l, 0 ≤ n ∧ n ≤ 9223372036854775807) : takeNumsL (flatN l) (l.length : Int) = (l, ((flatN l).length : Int), 0) := by
  unfold takeNumsL
  rw [if_neg (by omega), Int.toNat_natCast, rnums_put l [] 0 [] h0 (Nat.zero_le _) (by simp), if_neg (by simp)]
  simp
theorem flatN_pos {l : List Int} (h : l ≠ []) : 0 < (flatN l).length := by
  cases l with
  | nil => exact absurd rfl h
  | cons n l => have := putL_pos n.toNat; simp [flatN]; omega

set_option maxRecDepth 100000 in
set_option maxHeartbeats 4000000 in
theorem wireCuts_any (v sv : Value) (l : List Int) (x : List UInt8) (cut : Int) (w : World) (hv : IsL Rp.int w (· < w.heap.size) v l) (hs : IsB w (· < w.heap.size) sv x) :
    Calls Try.prog 8 #[v, sv, .int .i64 cut] w fun e w' => e = .returned (.bool true) ∧ Below w.heap.size w w' := by
  have hv0 := hv
  have hl63 := hv.len
  obtain ⟨A1, c1, cs, rfl, _, hcl, _⟩ := hv
  obtain ⟨_, h63⟩ := ints_cells hcl
  clear hcl
  have hs0 := hs
  have hx47 := hs.len
  obtain ⟨A2, c2, rfl, _⟩ := hs
  have E := (((Kn.start w).give Stable.list hv0).give Stable.bytes hs0)
  clear hv0 hs0
  by_cases hll : 500 < l.length
  · have hll' : (500 : Int) < (l.length : Int) := by omega
    go_enter Try.func8, Try.ntmps8
    go_wp2_with fail
    refine (live02_any _).mono ?_
    rintro e w1 ⟨rfl, hb1⟩
    replace E := E.step hb1
    go_wp2
    go_ret
    exact ⟨rfl, E.below⟩
  · have hll' : ¬ (500 : Int) < (l.length : Int) := by omega
    by_cases hxl : 5000 < x.length
    · have hxl' : (5000 : Int) < (x.length : Int) := by omega
      go_enter Try.func8, Try.ntmps8
      go_wp2_with fail
      refine (live02_any _).mono ?_
      rintro e w1 ⟨rfl, hb1⟩
      replace E := E.step hb1
      go_wp2
      go_ret
      exact ⟨rfl, E.below⟩
    · have hxl' : ¬ (5000 : Int) < (x.length : Int) := by omega
      have hvec : vecL x = (putL x.length ++ x, 0) := if_pos (by omega)
      have hvc := fun c hc => takeVec_cut (d := x) (c := c) (by omega) hc
      have hp10 := putL_len10 (n := x.length) (by omega)
      have hp0 := putL_pos x.length
      have hVl : (putL x.length ++ x).length ≤ 6000 ∧ 0 < (putL x.length ++ x).length := by rw [List.length_append]; omega
      generalize putL x.length ++ x = V at hvec hvc hVl
      obtain ⟨hV1, hV0⟩ := hVl
      have HVEC := Lib.hid hvec; clear hvec
      have HVC := Lib.hid hvc; clear hvc hp10 hp0
      have hn1 := Int.tmod_lt_of_pos cut (show (0 : Int) < (V.length : Int) by omega)
      have hn2 := Int.lt_tmod_of_pos cut (show (0 : Int) < (V.length : Int) by omega)
      obtain ⟨j, hj⟩ : ∃ j : Nat, cut.tmod (V.length : Int) % (V.length : Int) = (j : Int) := ⟨(cut.tmod (V.length : Int) % (V.length : Int)).toNat, by have := Int.emod_nonneg (cut.tmod (V.length : Int)) (show (V.length : Int) ≠ 0 by omega); omega⟩
      have hjl : (j : Int) < (V.length : Int) := by have := Int.emod_lt_of_pos (cut.tmod (V.length : Int)) (show (0 : Int) < (V.length : Int) by omega); omega
      have hj0 : (0 : Int) ≤ (j : Int) := by omega
      by_cases hneg : ∀ n ∈ l, 0 ≤ n
      · have hnum : numsL l = (flatN l, 0) := if_pos hneg
        by_cases hnil : l = []
        · subst hnil
          have HNUM : Hid (numsL [] = ([], 0)) := Lib.hid rfl
          clear hnum
          go_enter Try.func8, Try.ntmps8
          go_wp2_with fail
          refine (live02_any _).mono ?_
          rintro e w1 ⟨rfl, hb1⟩
          replace E := E.step hb1
          go_wp2_with fail
          refine (wnums_any _ [] _ _ (E.get m1) (by simp)).mono ?_
          rw [HNUM.out]
          rintro e w2 ⟨A3, c3, rfl, own3, hb2⟩
          replace E := E.step hb2
          go_wp2_with fail
          refine (wvec_any _ x _ _ (E.get m0)).mono ?_
          rw [HVEC.out]
          rintro e w3 ⟨A4, c4, rfl, own4, hb3⟩
          simp only at own4
          have hjc : (j : Int) ≤ (c4 : Int) := by have := own_cap own4; omega
          have i4 := IsB.of_own own4 (by omega)
          replace E := (E.step hb3).give Stable.bytes i4
          go_wp2_with fail
          refine (takeVec_any _ (V.take j) _ _ (IsB.pre (E.get m0) (by omega))).mono ?_
          rw [HVC.out j (by omega)]
          rintro e w5 ⟨A5, c5, rfl, own5, hb5⟩
          replace E := E.step hb5
          go_wp2
          go_ret
          exact ⟨rfl, E.below⟩
        · have h0 : ∀ n ∈ l, 0 ≤ n ∧ n ≤ 9223372036854775807 := fun n hn => ⟨hneg n hn, (h63 n hn).2⟩
          have hbk := takeNums_back h0
          have hct := fun c hc => takeNums_cut (c := c) h0 hc
          have hbp := flatN_pos hnil
          have hbl := flatN_len h63
          generalize flatN l = b at hnum hbk hct hbp hbl
          have HNUM := Lib.hid hnum; clear hnum
          have HBK := Lib.hid hbk; clear hbk
          have HCT := Lib.hid hct; clear hct hneg hnil h0
          have H63 := Lib.hid h63; clear h63
          have hn3 := Int.tmod_lt_of_pos cut (show (0 : Int) < (b.length : Int) by omega)
          have hn4 := Int.lt_tmod_of_pos cut (show (0 : Int) < (b.length : Int) by omega)
          obtain ⟨k, hk⟩ : ∃ k : Nat, cut.tmod (b.length : Int) % (b.length : Int) = (k : Int) := ⟨(cut.tmod (b.length : Int) % (b.length : Int)).toNat, by have := Int.emod_nonneg (cut.tmod (b.length : Int)) (show (b.length : Int) ≠ 0 by omega); omega⟩
          have hkl : (k : Int) < (b.length : Int) := by have := Int.emod_lt_of_pos (cut.tmod (b.length : Int)) (show (0 : Int) < (b.length : Int) by omega); omega
          have hk0 : (0 : Int) ≤ (k : Int) := by omega
          go_enter Try.func8, Try.ntmps8
          go_wp2_with fail
          refine (live02_any _).mono ?_
          rintro e w1 ⟨rfl, hb1⟩
          replace E := E.step hb1
          go_wp2_with fail
          refine (wnums_any _ l _ _ (E.get m1) (by omega)).mono ?_
          rw [HNUM.out]
          rintro e w2 ⟨A3, c3, rfl, own3, hb2⟩
          simp only at own3
          have hkc : (k : Int) ≤ (c3 : Int) := by have := own_cap own3; omega
          have i3 := IsB.of_own own3 (by omega)
          replace E := (E.step hb2).give Stable.bytes i3
          go_wp2_with fail
          refine (wvec_any _ x _ _ (E.get m1)).mono ?_
          rw [HVEC.out]
          rintro e w3 ⟨A4, c4, rfl, own4, hb3⟩
          simp only at own4
          have hjc : (j : Int) ≤ (c4 : Int) := by have := own_cap own4; omega
          have i4 := IsB.of_own own4 (by omega)
          replace E := (E.step hb3).give Stable.bytes i4
          go_wp2_with fail
          refine (takeVec_any _ (V.take j) _ _ (IsB.pre (E.get m0) (by omega))).mono ?_
          rw [HVC.out j (by omega)]
          rintro e w5 ⟨A5, c5, rfl, own5, hb5⟩
          replace E := E.step hb5
          go_wp2_with fail
          refine (takeNums_any _ (b.take k) (l.length : Int) _ _ (IsB.pre (E.get m1) (by omega)) (by rw [List.length_take]; omega) (by omega)).mono ?_
          rw [HCT.out k (by omega)]
          rintro e w6 ⟨A6, c6, rfl, own6, hb6⟩
          replace E := E.step hb6
          go_wp2_with fail
          refine (takeNums_any _ b (l.length : Int) _ _ (E.get m1) (by omega) (by omega)).mono ?_
          rw [HBK.out]
          rintro e w7 ⟨A7, c7, rfl, own7, hb7⟩
          simp only at own7
          have i7 := IsL.of_ints own7 H63.out (by omega)
          replace E := E.step hb7
          go_wp2_with fail
          refine (sameInts_any _ _ l _ _ _ i7 (E.get m3)).mono ?_
          rintro e w8 ⟨rfl, hb8⟩
          replace E := E.step hb8
          go_wp2
          go_ret
          exact ⟨rfl, E.below⟩
      · have HNUM : Hid (numsL l = ([], 1)) := Lib.hid (if_neg hneg)
        have hpos : 0 < l.length := by
          rcases Nat.eq_zero_or_pos l.length with h | h
          · have := List.eq_nil_of_length_eq_zero h; subst this; exact absurd (by simp) hneg
          · exact h
        have hpb : ((l.length : Int) == 0) = false := beq_eq_false_iff_ne.2 (by omega)
        clear hneg
        go_enter Try.func8, Try.ntmps8
        go_wp2_with fail
        refine (live02_any _).mono ?_
        rintro e w1 ⟨rfl, hb1⟩
        replace E := E.step hb1
        go_wp2_with fail
        refine (wnums_any _ l _ _ (E.get m1) (by omega)).mono ?_
        rw [HNUM.out]
        rintro e w2 ⟨A3, c3, rfl, own3, hb2⟩
        replace E := E.step hb2
        go_wp2_with fail
        refine (wvec_any _ x _ _ (E.get m0)).mono ?_
        rw [HVEC.out]
        rintro e w3 ⟨A4, c4, rfl, own4, hb3⟩
        simp only at own4
        have hjc : (j : Int) ≤ (c4 : Int) := by have := own_cap own4; omega
        have i4 := IsB.of_own own4 (by omega)
        replace E := (E.step hb3).give Stable.bytes i4
        go_wp2_with fail
        refine (takeVec_any _ (V.take j) _ _ (IsB.pre (E.get m0) (by omega))).mono ?_
        rw [HVC.out j (by omega)]
        rintro e w5 ⟨A5, c5, rfl, own5, hb5⟩
        replace E := E.step hb5
        go_wp2
        go_ret
        exact ⟨rfl, E.below⟩
end Go.Proofs.Ytbjgemipmlimoaa
