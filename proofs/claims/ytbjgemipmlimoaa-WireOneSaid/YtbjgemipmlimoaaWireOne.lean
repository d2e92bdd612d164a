/- The walk of quicksetlaw02.WireOne. -/
import Derived.Test.YtbjgemipmlimoaaWireInv
import Derived.Test.YtbjgemipmlimoaaWireBack
import Derived.Deep.DeepCutAuto
namespace Go.Proofs.Ytbjgemipmlimoaa
open Go.RowKit

set_option maxRecDepth 100000 in
set_option maxHeartbeats 4000000 in
theorem wireOne_any (v : Value) (b : List UInt8) (w : World) (hv : IsB w (· < w.heap.size) v b) :
    Calls Try.prog 11 #[v] w fun e w' => e = .returned (.bool true) ∧ Below w.heap.size w w' := by
  have hv0 := hv
  have hl47 := hv.len
  obtain ⟨A, c, rfl, _, hlc, hcc, _⟩ := hv
  have E := ((Kn.start w).give Stable.bytes hv0)
  clear hv0
  by_cases hll : 200000 < b.length
  · have hll' : (200000 : Int) < (b.length : Int) := by omega
    go_enter Try.func11, Try.ntmps11
    go_wp2_with fail
    refine (live02_any _).mono ?_
    rintro e w1 ⟨rfl, hb1⟩
    replace E := E.step hb1
    go_wp2
    go_ret
    exact ⟨rfl, E.below⟩
  · have hll' : ¬ (200000 : Int) < (b.length : Int) := by omega
    obtain ⟨t, ht⟩ : ∃ t, takeL b = t := ⟨_, rfl⟩
    have ht1 := fun h => takeNum_one (b := b) h
    have ht2 := fun h => takeL_le (b := b) h
    have ht3 := fun h => (takeL_inv (b := b) h).1
    rw [ht] at ht1 ht2 ht3
    obtain ⟨n, k, er⟩ := t
    simp only at ht1 ht2 ht3
    have HT := Lib.hid ht; clear ht
    go_enter Try.func11, Try.ntmps11
    go_wp2_with fail
    refine (live02_any _).mono ?_
    rintro e w1 ⟨rfl, hb1⟩
    replace E := E.step hb1
    go_wp2_with fail
    refine (take_any b A b.length c _ rfl (by omega) w1 (IsB.open_ (E.get m0)).2.1).mono ?_
    rw [HT.out]
    unfold tup3
    rintro e w2 ⟨rfl, rfl⟩
    go_upto_region 5 with fail
    go_cut [45] (fun s45 wx => s45 = .bool false ∧ Below w1.heap.size w1 wx)
    case first =>
      by_cases her : er = 0
      · have hk0 := ht2 her
        have hpt := ht1 her
        have hn64 := ht3 her
        have heb : ((er : Int) == 0) = true := by simpa using her
        have hp10 := putL_len10 hn64
        have hput := fun W => put_any n hp10 W
        have HPUT := Lib.hid hput; clear hput
        generalize putL n = pk at HPUT hpt hp10
        have hpk : pk.length = k := by rw [hpt, List.length_take]; omega
        have HPK := Lib.hid hpk; clear hpk
        have HPT := Lib.hid hpt; clear hpt
        obtain ⟨hk1, hk2, hk3⟩ := hk0
        have hs0 := fun W (h : Below w1.heap.size w1 W) => run_string_of (P := Try.prog) (cap := c) (n := k) (l := pk) W 24 9 5 Try.underlying24 Try.underlying5 Try.underlying9 HPK.out (by
          have h1 := (IsB.pre ((E.step h).get m0) (k := k) hk2).open_.2.1
          rw [← HPT.out, HPK.out] at h1; exact h1)
        have HS0 := Lib.hid hs0; clear hs0
        have d1 : decide ((k : Int) < 1) = false := by simp; omega
        have d2 : decide ((b.length : Int) < (k : Int)) = false := by simp; omega
        have d3 : decide (k < 1) = false := by simp; omega
        have d4 : decide (k = 0) = false := by simp; omega
        have d5 : decide (b.length < k) = false := by simp; omega
        have d6 : ¬ k = 0 := by omega
        have i1 : (0 : Int) ≤ (k : Int) := by omega
        have i2 : (k : Int) ≤ (c : Int) := by omega
        have HK : Hid (∀ w', Below w1.heap.size w1 w' → Below w1.heap.size w1 w' ∧ (convert 24 9 (.slice A k c)).run Try.prog w' = .ok (.string ⟨pk.toArray⟩) w') := Lib.hid fun w' h => ⟨h, HS0.out w' h⟩
        clear her ht1 ht2 ht3 hn64 hk1 hk2 hk3
        go_region_held (fun w' => Below w1.heap.size w1 w' ∧ (convert 24 9 (.slice A k c)).run Try.prog w' = .ok (.string ⟨pk.toArray⟩) w')
          (first | exact HK.out _ (Below.refl _ _).drew | exact HK.out _ (hH.1.trans (hbN.mono hH.1.size)) | assumption)
          (first
            | (go_at_call 15; rename_i hH _ _; refine (HPUT.out _).mono ?_; rintro e wN ⟨A5, c5, rfl, own5, hbN⟩; have hsP := run_string_of (P := Try.prog) (cap := c5) (n := pk.length) (l := pk) wN 24 9 5 Try.underlying24 Try.underlying5 Try.underlying9 rfl (Reads.of_own own5)))
        go_wp2_with fail
        go_meet
        exact ⟨rfl, hH.1.trans (hbN.mono hH.1.size)⟩
      · have heb : ((er : Int) == 0) = false := by simpa using her
        go_quiet (fail)
        go_wp2_with fail
        go_meet
        exact ⟨rfl, below_drewN (Below.refl _ _) _⟩
    case rest =>
      obtain ⟨rfl, hcb⟩ := hcut
      replace E := E.step hcb
      clear hcb hb1 ht1 ht2 ht3
      obtain ⟨t, ht⟩ : ∃ t, takeVecL b = t := ⟨_, rfl⟩
      have htv := fun v k h => takeVec_one (b := b) (v := v) (k := k) h
      rw [ht] at htv
      obtain ⟨v2, k2, e2⟩ := t
      have HT2 := Lib.hid ht; clear ht
      go_wp2_with fail
      refine (takeVec_any _ b _ _ (E.get m0)).mono ?_
      rw [HT2.out]
      rintro e w3 ⟨A6, c6, rfl, own6, hb6⟩
      simp only at own6
      replace E := E.step hb6
      go_upto_if 53 with fail
      go_cut [79] (fun _ wx => Below w3.heap.size w3 wx)
      case first =>
        by_cases he2 : e2 = 0
        · subst he2
          obtain ⟨j, rfl, hj1, hj2, hvl, hvl5⟩ := htv v2 k2 rfl
          have HVL := Lib.hid hvl; clear hvl
          have hlen : (b.take j).length = j := by rw [List.length_take]; omega
          have hpre := fun W (h : IsB W (· < w.heap.size) (.slice A b.length c) b) => IsB.pre h (k := j) hj2
          generalize b.take j = pj at HVL hlen hpre
          have HPRE := Lib.hid hpre; clear hpre
          have HL := Lib.hid hlen; clear hlen
          go_wp2_with fail
          refine (wvec_any _ v2 _ _ (IsB.of_own own6 (by omega))).mono ?_
          rw [HVL.out]
          rintro e w4 ⟨A7, c7, rfl, own7, hb7⟩
          simp only at own7
          have E4 := E.step hb7
          have hs1 : ∀ N, (convert 24 9 (.slice A7 pj.length c7)).run Try.prog (w4.drewN N) = .ok (.string ⟨pj.toArray⟩) (w4.drewN N) := fun N =>
            run_string_of (w4.drewN N) 24 9 5 Try.underlying24 Try.underlying5 Try.underlying9 rfl ((Reads.of_own own7).drewN N)
          have hs2 : ∀ N, (convert 24 9 (.slice A j c)).run Try.prog (w4.drewN N) = .ok (.string ⟨pj.toArray⟩) (w4.drewN N) := fun N =>
            run_string_of (w4.drewN N) 24 9 5 Try.underlying24 Try.underlying5 Try.underlying9 HL.out (by
              have h1 := (HPRE.out w4 (E4.get m0)).open_.2.1
              rw [HL.out] at h1; exact h1.drewN N)
          have d1 : decide ((j : Int) < 1) = false := by simp; omega
          have d2 : decide ((b.length : Int) < (j : Int)) = false := by simp; omega
          have d3 : decide (j < 1) = false := by simp; omega
          have d4 : decide (j = 0) = false := by simp; omega
          have d5 : decide (b.length < j) = false := by simp; omega
          have d6 : ¬ j = 0 := by omega
          have i1 : (0 : Int) ≤ (j : Int) := by omega
          have i2 : (j : Int) ≤ (c : Int) := by omega
          go_wp2
          go_quiet (fail)
          go_wp2_with fail
          go_meet
          exact below_drewN hb7 _
        · have heb : (e2 == 0) = false := by simpa using he2
          go_wp2_with fail
          go_meet
          exact Below.refl _ _
      case rest =>
        replace E := E.step hcut
        clear hcut own6 hb6 htv
        obtain ⟨t, ht⟩ : ∃ t, takeMsgL b = t := ⟨_, rfl⟩
        have htm := fun m k h => takeMsg_one (b := b) (m := m) (k := k) h
        have hte := fun h => takeMsg_err (b := b) h
        rw [ht] at htm hte
        obtain ⟨m, k3, e3⟩ := t
        simp only at hte
        have HT3 := Lib.hid ht; clear ht
        go_wp2_with fail
        refine (takeMsg_any _ b _ _ (E.get m0) (by omega)).mono ?_
        rw [HT3.out]
        rintro e w5 ⟨v5, rfl, him, hb5⟩
        replace E := E.step hb5
        obtain ⟨A8, c8, A9, c9, rfl, i8, i9, h63⟩ := him
        have h63' := Lib.hid h63; clear h63
        replace E := (E.give Stable.list i8).give Stable.bytes i9
        clear i8 i9 hb5
        unfold mv
        by_cases he3 : e3 = 0
        · subst he3
          obtain ⟨j, rfl, hj1, hj2, hml, hok⟩ := htm m k3 rfl
          have ha64 := hok.2.1
          clear hok htm hte
          have HML := Lib.hid hml; clear hml
          have hlen : (b.take j).length = j := by rw [List.length_take]; omega
          have hpre := fun W (h : IsB W (· < w.heap.size) (.slice A b.length c) b) => IsB.pre h (k := j) hj2
          generalize b.take j = pj at HML hlen hpre
          have HPRE := Lib.hid hpre; clear hpre
          have HL := Lib.hid hlen; clear hlen
          go_wp2_with fail
          replace E := E.push 45 #[.int .i64 m.kind, .int .i64 m.frm, .int .i64 m.to, .int .i64 m.id, .slice A8 m.args.length c8, .slice A9 m.data.length c9]
          refine (wmsg_any _ m _ _ ⟨A8, c8, A9, c9, rfl, E.get m1, E.get m0, h63'.out⟩ (by omega)).mono ?_
          rw [HML.out]
          rintro e w6 ⟨A7, c7, rfl, own7, hb7⟩
          simp only at own7
          have E4 := E.step hb7
          have hs1 : ∀ N, (convert 24 9 (.slice A7 pj.length c7)).run Try.prog (w6.drewN N) = .ok (.string ⟨pj.toArray⟩) (w6.drewN N) := fun N =>
            run_string_of (w6.drewN N) 24 9 5 Try.underlying24 Try.underlying5 Try.underlying9 rfl ((Reads.of_own own7).drewN N)
          have hs2 : ∀ N, (convert 24 9 (.slice A j c)).run Try.prog (w6.drewN N) = .ok (.string ⟨pj.toArray⟩) (w6.drewN N) := fun N =>
            run_string_of (w6.drewN N) 24 9 5 Try.underlying24 Try.underlying5 Try.underlying9 HL.out (by
              have h1 := (HPRE.out w6 (E4.get m2)).open_.2.1
              rw [HL.out] at h1; exact h1.drewN N)
          have d1 : decide ((1 : Int) ≤ (j : Int)) = true := by simp; omega
          have d2 : decide ((j : Int) ≤ (b.length : Int)) = true := by simp; omega
          have d3 : decide (1 ≤ j) = true := by simp; omega
          have d4 : decide (0 < j) = true := by simp; omega
          have d5 : decide (j ≤ b.length) = true := by simp; omega
          have i1 : (0 : Int) ≤ (j : Int) := by omega
          have i2 : (j : Int) ≤ (c : Int) := by omega
          go_wp2
          go_quiet (fail)
          go_wp2
          go_ret
          exact ⟨rfl, below_drewN E4.below _⟩
        · obtain rfl := hte he3
          have heb : (e3 != 0) = true := by simpa using he3
          clear he3 hte htm
          go_wp2
          go_ret
          exact ⟨rfl, (E.alloc _).below⟩
end Go.Proofs.Ytbjgemipmlimoaa
