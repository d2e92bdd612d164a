/- The walk of quicksetlaw04.ZoneResets. -/
import Derived.Test.YtcjmcfjjbicimaaZoneRefA
import Derived.Test.YtcjmcfjjbicimaaZoneLive
import Derived.Test.YtcjmcfjjbicimaaZoneTorn
import Derived.Test.YtcjmcfjjbicimaaZoneOps
import Derived.Test.YtcjmcfjjbicimaaEnv
namespace Go.Proofs.Ytcjmcfjjbicimaa
open Go.RowKit

set_option maxRecDepth 100000 in
set_option maxHeartbeats 40000000 in
theorem zoneResets_go (v sv : Value) (z : Zn) (most : Int) (l : List UInt8) (K K' : Nat → Prop) (w : World) (hz : IsZ w K v z) (hs : IsB w K' sv l) (hbig : bigB z l = false) (hok : okZ z most) :
    Calls Try.prog 7 #[v, .int .i64 most, sv] w fun e w' => e = .returned (.bool true) ∧ Below w.heap.size w w' := by
  obtain ⟨i0, hi, hz0, hz1, hz2⟩ := info_parts Try.info8
  obtain ⟨A, c, rfl, hsb⟩ := hz
  obtain ⟨hbz, hbl⟩ := bigB_false hbig
  have hs0 := hs
  obtain ⟨A2, c2, rfl, hr2, hlc2, hcc2, _⟩ := hs
  unfold zv
  have E0 := (((Env.start w).give hsb).give hs0).push 26 #[.int .i64 z.st, .int .i64 z.fe, .slice A z.d.length c]
  have HB := Lib.hid hbig; clear hbig
  have HC := Lib.hid (show chkZ z most = 0 from if_pos hok)
  have hfk : okZ (finZ z) most := by
    obtain ⟨x1, x2, x3, x4⟩ := hok
    exact ⟨x1, x2, x3, .inr (.inr (.inr ⟨rfl, show (z.d.length : Int) ≤ most by omega⟩))⟩
  have HOK := Lib.hid hok; clear hok
  have HFK := Lib.hid hfk; clear hfk
  obtain ⟨ga, hga⟩ : ∃ ga, ga = w.heap.size := ⟨_, rfl⟩
  generalize hw0 : w.alloc (.cells #[.int .i64 z.st, .int .i64 z.fe, .slice A z.d.length c] 26) = w0 at E0
  have HW0 := Lib.hid hw0; clear hw0
  clear hsb hs0 hr2
  go_enter Try.func7, Try.ntmps7
  go_wp2_with fail
  rw [HW0.out]
  refine (live04_any w0).mono ?_
  rintro e w1 ⟨rfl, hb1⟩
  replace E0 := E0.step hb1
  obtain ⟨q1, f1, t1⟩ := E0.rules (g := w.heap.size) m0
  go_wp2_with fail
  refine (big_any _ _ z l _ _ w1 (E0.zone z m1) (E0.byt _ m0)).mono ?_
  rw [HB.out]
  rintro e w2 ⟨rfl, hb2⟩
  replace E0 := E0.step hb2
  clear q1 f1 t1
  obtain ⟨q1, f1, t1⟩ := E0.rules (g := w.heap.size) m0
  go_wp2_with fail
  refine (refCheck_any _ z most _ w2 (E0.zone z m1)).mono ?_
  rw [HC.out]
  rintro e w3 ⟨rfl, hb3⟩
  replace E0 := E0.step hb3
  clear q1 f1 t1
  obtain ⟨q1, f1, t1⟩ := E0.rules (g := w.heap.size) m0
  clear hb1 hb2 hb3
  go_wp2_with fail
  refine (finish_any _ z _ w3 (E0.zone z m1)).mono ?_
  rintro e w4 ⟨v4, rfl, ho4, hb4⟩
  replace E0 := E0.step hb4
  have i4 := ho4.isZ (show z.d.length ≤ _ by omega)
  obtain ⟨A4, c4, rfl, hb4'⟩ := i4
  replace E0 := (E0.give hb4').push 26 #[.int .i64 4, .int .i64 z.fe, .slice A4 z.d.length c4]
  clear q1 f1 t1 hb4 ho4 hb4'
  obtain ⟨q1, f1, t1⟩ := E0.rules (g := w.heap.size) m1
  obtain ⟨q4, f4, t4⟩ := E0.rules (g := w4.heap.size) m0
  unfold zv finZ
  go_wp2_with fail
  generalize hw5 : w4.alloc (.cells #[.int .i64 4, .int .i64 z.fe, .slice A4 z.d.length c4] 26) = w5 at E0 q1 f1 t1 q4 f4 t4 ⊢
  clear hw5
  generalize w4.heap.size = g4 at E0 q4 f4 t4 ⊢
  have HO : Hid (openZ (finZ z) most = (z0, 41)) := Lib.hid (by unfold openZ; rw [if_neg (not_not_intro HFK.out), if_pos (show (finZ z).st = 4 from rfl)])
  have HL : Hid (closeZ (finZ z) = (z0, 41)) := Lib.hid (by unfold closeZ; rw [if_pos (.inr (show (finZ z).st = 4 from rfl))])
  have HRD : Hid (readZ (finZ z) 0 (z.d.length : Int) = (z.d, 0)) := Lib.hid (by
    unfold readZ
    rw [if_pos ⟨by omega, by omega, by show (0 : Int) + z.d.length ≤ (z.d.length : Int); omega⟩]
    show ((z.d.drop 0).take z.d.length, (0 : Int)) = _
    rw [List.drop_zero, List.take_length])
  have HKF := Lib.hid (show chkZ (finZ z) most = 0 from if_pos HFK.out)
  have HKR := Lib.hid (show chkZ (rstZ z) most = 0 from if_pos (by obtain ⟨x1, x2, x3, x4⟩ := HOK.out; exact ⟨x1, x2, x3, .inl ⟨rfl, rfl⟩⟩))
  have HA : Hid (appZ (finZ z) most ([1] ++ l) = (z0, 0, 41)) := Lib.hid (by
    have hr : roomZ (finZ z) most ([1] ++ l) = 41 := by
      unfold roomZ
      rw [if_neg (by rintro (h | h); exact h HFK.out; simp at h), if_pos (show (finZ z).st = 4 from rfl)]
    unfold appZ
    rw [hr, if_neg (by decide)])
  have hbl1 : 1 + l.length ≤ 140737488355328 := by omega
  have hrl := (E0.byt _ m1).open_.2.1
  go_region_law (first
    | ((refine step_appN (by rfl) (.tmp 42) (.tmp 43) _ (by rfl) w5.heap.size 5 i0 _ 1 1 (xs := [.int .u8 1]) (n := 1) (m := l.length) (news := cells8 l) (K := fun _ => True) Try.underlying24 hi hz0 hz1 hz2 rfl (by omega) (by rfl)
            (by first | exact own_one _ _ (by simp) (by simp) | exact (own_one _ _ (by simp) (by simp)).alloc _) (by rfl)
            (by first | exact hrl.alloc _ | exact (hrl.alloc _).alloc _ | exact (hrl.drew.alloc _) | exact ((hrl.drew.alloc _).alloc _)) (cells8_one _) (by simp only [maxLen]; omega) (by omega) (by first | (simp; done) | (simp; omega)) ?_
        intro A6 c6 w6 own6 hg6
        have HBB : Below w5.heap.size w5 w6 := (by
          first
            | exact ((Below.refl _ _).drew.alloc (by simp) _).trans hg6.below
            | exact (((Below.refl _ _).drew.alloc (by simp) _).alloc (by first | (simp; done) | (simp; omega)) _).trans hg6.below)
        have E6 := (E0.step HBB).give (isB_joined (a := [1]) own6 rfl rfl hbl1)
        obtain ⟨q6, f6, t6⟩ := E6.rules (g := g4) m0
        have h56 := HBB.size
        try have B10 : Blk w6 w5.heap.size 26 #[.int .i64 0, .int .i64 0, .slice none 0 0] := (by
          exact Blk.grew (base' := w5.heap.size) ((Blk.new w5.drew _ _ (by simp)).alloc _) (own_one _ _ (by simp) (by simp)) (by decide) hg6)
        try (have B10 : Blk w6 (w5.heap.size + 1) 26 #[.int .i64 0, .int .i64 0, .slice none 0 0] := (by
          exact Blk.grew (base' := w5.heap.size) (Blk.new (w5.drew.alloc (.cells #[.int .u8 1] 5)) _ _ (by simp)) ((own_one _ _ (by simp) (by simp)).alloc _) (by decide) hg6))))
    | ((go_simp; go_at_call 15
        refine (append_any _ _ (finZ z) most ([1] ++ l) (fun _ => True) (fun _ => True) _ (by first | exact E6.zone (finZ z) m1 | exact (E6.alloc _).zone (finZ z) m1) (by first | exact E6.byt _ m0 | exact (E6.alloc _).byt _ m0)).mono ?_
        rw [HA.out]
        rintro e w7 ⟨v7, rfl, ⟨A7, c7, rfl, own7⟩, hb7⟩
        have H57 : Below w5.heap.size w5 w7 := (by first | exact HBB.trans (hb7.mono HBB.size) | exact (HBB.alloc HBB.size _).trans (hb7.mono (HBB.alloc HBB.size _).size))
        have h56 := HBB.size
        try (have B17 := B10.step hb7; obtain ⟨q17, f17⟩ := B17.rules; have t17 := B17.lt)
        try (have B17 := (Blk.new w6 26 #[.int .i64 0, .int .i64 0, .slice none 0 0] rfl).step hb7; obtain ⟨q17, f17⟩ := B17.rules; have t17 := B17.lt)
        unfold zv z0)))
  all_goals
    first
      | (generalize hw8 : World.setCell (World.setCell (World.setCell w7 _ _) _ _) _ _ = w8
         have H58 : Below w5.heap.size w5 w8 := (by rw [← hw8]; exact below_set3 H57 (by omega)))
      | (generalize hw8 : World.alloc w7 _ = w8
         have H58 : Below w5.heap.size w5 w8 := (by rw [← hw8]; exact H57.alloc H57.size _))
    have E8 := E0.step H58
    clear hw8
    clear E6 own6 hg6 own7 hb7 H57 H58 HBB h56 q6 f6 t6
    try clear q17 f17 t17 B17
    try clear B10
  all_goals clear q1 f1 t1 q4 f4 t4 E0
  all_goals
    obtain ⟨q1, f1, t1⟩ := E8.rules (g := g4) m0
    obtain ⟨q2, f2, t2⟩ := E8.rules (g := w.heap.size) m1
    go_wp2_with fail
    refine (open_any _ (finZ z) most _ w8 (E8.zone (finZ z) m0)).mono ?_
    rw [HO.out]
    rintro e w9 ⟨v9, rfl, ⟨A9, c9, rfl, own9⟩, hb9⟩
    have E9 := E8.step hb9
    clear q1 f1 t1 q2 f2 t2 own9 E8 hb9
    obtain ⟨q1, f1, t1⟩ := E9.rules (g := g4) m0
    obtain ⟨q2, f2, t2⟩ := E9.rules (g := w.heap.size) m1
    unfold zv z0
    go_wp2_with fail
    refine (close_any _ (finZ z) _ _ ((E9.alloc _).zone (finZ z) m0)).mono ?_
    rw [HL.out]
    rintro e wa ⟨va, rfl, ⟨Aa, ca, rfl, owna⟩, hba⟩
    have Ea := (E9.alloc _).step hba
    clear q1 f1 t1 q2 f2 t2 owna E9 hba
    obtain ⟨q1, f1, t1⟩ := Ea.rules (g := g4) m0
    obtain ⟨q2, f2, t2⟩ := Ea.rules (g := w.heap.size) m1
    unfold zv z0
    go_wp2_with fail
    refine (reset_any _ (finZ z) _ _ ((Ea.alloc _).zone (finZ z) m0)).mono ?_
    rintro e wb ⟨vb, rfl, hob, hbb⟩
    obtain ⟨Ab, cb, rfl, ibb⟩ := hob.isZ (show 0 ≤ _ by omega)
    have Eb := ((Ea.alloc _).step hbb).give ibb
    clear q1 f1 t1 q2 f2 t2 hob Ea hbb ibb
    obtain ⟨q1, f1, t1⟩ := Eb.rules (g := g4) m0
    obtain ⟨q2, f2, t2⟩ := Eb.rules (g := w.heap.size) m1
    unfold zv rstZ finZ
    go_wp2_with fail
    have Eb' := Eb.push 26 #[.int .i64 0, .int .i64 z.fe, .slice Ab 0 cb]
    refine (reset_any _ z _ _ (Eb'.zone z m3)).mono ?_
    rintro e wc ⟨vc, rfl, hoc, hbc⟩
    obtain ⟨Ac, cc, rfl, ibc⟩ := hoc.isZ (show 0 ≤ _ by omega)
    have Ec := (Eb'.step hbc).give ibc
    clear q1 f1 t1 q2 f2 t2 hoc Eb Eb' hbc ibc
    obtain ⟨q1, f1, t1⟩ := Ec.rules (g := g4) m1
    obtain ⟨q2, f2, t2⟩ := Ec.rules (g := w.heap.size) m2
    obtain ⟨q3, f3, t3⟩ := Ec.rules (g := wb.heap.size) m0
    unfold zv rstZ
    go_wp2_with fail
    have Ec' := Ec.push 26 #[.int .i64 0, .int .i64 z.fe, .slice Ac 0 cc]
    refine (read_any _ (finZ z) 0 (z.d.length : Int) _ _ (Ec'.zone (finZ z) m2) (by omega)).mono ?_
    rw [HRD.out]
    rintro e wd ⟨vd, rfl, ⟨Ad, cd, rfl, ownd⟩, hbd⟩
    have Ed := (Ec'.step hbd).give (l := z.d) (IsB.of_own (l := z.d) ownd (by omega))
    clear q1 f1 t1 q2 f2 t2 q3 f3 t3 Ec Ec' hbd ownd
    obtain ⟨q1, f1, t1⟩ := Ed.rules (g := g4) m2
    obtain ⟨q2, f2, t2⟩ := Ed.rules (g := w.heap.size) m3
    obtain ⟨q3, f3, t3⟩ := Ed.rules (g := wb.heap.size) m1
    obtain ⟨q4, f4, t4⟩ := Ed.rules (g := wc.heap.size) m0
    have hs1 := run_string_of (P := Try.prog) (cap := cd) (n := z.d.length) (l := z.d) wd 24 9 5 Try.underlying24 Try.underlying5 Try.underlying9 rfl (Ed.byt _ m0).open_.2.1
    have hs2 := run_string_of (P := Try.prog) (cap := c) (n := z.d.length) (l := z.d) wd 24 9 5 Try.underlying24 Try.underlying5 Try.underlying9 rfl (Ed.byt _ m5).open_.2.1
    go_wp2_with fail
    refine (same_any _ _ (rstZ z) (rstZ z) _ (fun _ => True) wd (Ed.zone (rstZ z) m2) ⟨none, 0, rfl, IsB.nil_ _ _⟩).mono ?_
    rw [sameZ_self]
    rintro e we ⟨rfl, hbe⟩
    replace Ed := Ed.step hbe
    clear q1 f1 t1 q2 f2 t2 q3 f3 t3 q4 f4 t4 hs1 hs2 hbe
    obtain ⟨q1, f1, t1⟩ := Ed.rules (g := g4) m2
    obtain ⟨q3, f3, t3⟩ := Ed.rules (g := wb.heap.size) m1
    obtain ⟨q4, f4, t4⟩ := Ed.rules (g := wc.heap.size) m0
    go_wp2_with fail
    refine (same_any _ _ (rstZ z) (rstZ z) _ _ we (Ed.zone (rstZ z) m2) (Ed.zone (rstZ z) m1)).mono ?_
    rw [sameZ_self]
    rintro e wf ⟨rfl, hbf⟩
    replace Ed := Ed.step hbf
    clear q1 f1 t1 q3 f3 t3 q4 f4 t4 hbf
    obtain ⟨q1, f1, t1⟩ := Ed.rules (g := g4) m2
    obtain ⟨q3, f3, t3⟩ := Ed.rules (g := wb.heap.size) m1
    go_wp2_with fail
    refine (check_any _ (finZ z) most _ wf (Ed.zone (finZ z) m3)).mono ?_
    rw [HKF.out]
    rintro e wg ⟨rfl, hbg⟩
    replace Ed := Ed.step hbg
    clear q1 f1 t1 q3 f3 t3 hbg
    obtain ⟨q3, f3, t3⟩ := Ed.rules (g := wb.heap.size) m1
    go_wp2_with fail
    refine (check_any _ (rstZ z) most _ wg (Ed.zone (rstZ z) m2)).mono ?_
    rw [HKR.out]
    rintro e wh ⟨rfl, hbh⟩
    replace Ed := Ed.step hbh
    go_wp2
    go_ret
    exact ⟨rfl, Ed.below⟩
set_option maxRecDepth 100000 in
set_option maxHeartbeats 2000000 in
/-- nothing is asked: too great, or no zone that may be -/
theorem zoneResets_up (v sv : Value) (z : Zn) (most : Int) (l : List UInt8) (K K' : Nat → Prop) (w : World) (hz : IsZ w K v z) (hs : IsB w K' sv l) (h : bigB z l = true ∨ bigB z l = false ∧ ¬ okZ z most) :
    Calls Try.prog 7 #[v, .int .i64 most, sv] w fun e w' => e = .returned (.bool true) ∧ Below w.heap.size w w' := by
  obtain ⟨A, c, rfl, hsb⟩ := hz
  have hs0 := hs
  obtain ⟨A2, c2, rfl, _⟩ := hs
  unfold zv
  have E0 := (((Env.start w).give hsb).give hs0).push 26 #[.int .i64 z.st, .int .i64 z.fe, .slice A z.d.length c]
  generalize hw0 : w.alloc (.cells #[.int .i64 z.st, .int .i64 z.fe, .slice A z.d.length c] 26) = w0 at E0
  have HW0 := Lib.hid hw0; clear hw0
  clear hsb hs0
  rcases h with h | ⟨h, hok⟩
  · have HB := Lib.hid h; clear h
    go_enter Try.func7, Try.ntmps7
    go_wp2_with fail
    rw [HW0.out]
    refine (live04_any w0).mono ?_
    rintro e w1 ⟨rfl, hb1⟩
    replace E0 := E0.step hb1
    obtain ⟨q1, f1, t1⟩ := E0.rules (g := w.heap.size) m0
    go_wp2_with fail
    refine (big_any _ _ z l _ _ w1 (E0.zone z m1) (E0.byt _ m0)).mono ?_
    rw [HB.out]
    rintro e w2 ⟨rfl, hb2⟩
    replace E0 := E0.step hb2
    go_wp2
    go_ret
    exact ⟨rfl, E0.below⟩
  · have HB := Lib.hid h; clear h
    have HC := Lib.hid (show chkZ z most = 1 from if_neg hok); clear hok
    go_enter Try.func7, Try.ntmps7
    go_wp2_with fail
    rw [HW0.out]
    refine (live04_any w0).mono ?_
    rintro e w1 ⟨rfl, hb1⟩
    replace E0 := E0.step hb1
    obtain ⟨q1, f1, t1⟩ := E0.rules (g := w.heap.size) m0
    go_wp2_with fail
    refine (big_any _ _ z l _ _ w1 (E0.zone z m1) (E0.byt _ m0)).mono ?_
    rw [HB.out]
    rintro e w2 ⟨rfl, hb2⟩
    replace E0 := E0.step hb2
    clear q1 f1 t1
    obtain ⟨q1, f1, t1⟩ := E0.rules (g := w.heap.size) m0
    go_wp2_with fail
    refine (refCheck_any _ z most _ w2 (E0.zone z m1)).mono ?_
    rw [HC.out]
    rintro e w3 ⟨rfl, hb3⟩
    replace E0 := E0.step hb3
    go_wp2
    go_ret
    exact ⟨rfl, E0.below⟩

theorem zoneResets_all (v sv : Value) (z : Zn) (most : Int) (l : List UInt8) (K K' : Nat → Prop) (w : World) (hz : IsZ w K v z) (hs : IsB w K' sv l) :
    Calls Try.prog 7 #[v, .int .i64 most, sv] w fun e w' => e = .returned (.bool true) ∧ Below w.heap.size w w' := by
  by_cases hb : bigB z l = true
  · exact zoneResets_up v sv z most l K K' w hz hs (.inl hb)
  · have hb := Bool.eq_false_iff.2 hb
    by_cases hok : okZ z most
    · exact zoneResets_go v sv z most l K K' w hz hs hb hok
    · exact zoneResets_up v sv z most l K K' w hz hs (.inr ⟨hb, hok⟩)
end Go.Proofs.Ytcjmcfjjbicimaa
