/- The walk of quicksetlaw04.ZoneTorn. -/
import Derived.Test.YtcjmcfjjbicimaaZoneRefA
import Derived.Test.YtcjmcfjjbicimaaZoneLive
import Derived.Test.YtcjmcfjjbicimaaZoneTorn
namespace Go.Proofs.Ytcjmcfjjbicimaa
open Go.RowKit

set_option maxRecDepth 100000 in
set_option maxHeartbeats 2000000 in
/-- nothing is asked: too great, no zone that may be, or no bytes -/
theorem zoneTorn_up (v sv : Value) (z : Zn) (most keep : Int) (l : List UInt8) (K K' : Nat → Prop) (w : World) (hz : IsZ w K v z) (hs : IsB w K' sv l) (h : bigB z l = true ∨ bigB z l = false ∧ ¬ okZ z most ∨ bigB z l = false ∧ okZ z most ∧ l.length = 0) :
    Calls Try.prog 5 #[v, .int .i64 most, sv, .int .i64 keep] w fun e w' => e = .returned (.bool true) ∧ Below w.heap.size w w' := by
  have hz0 := hz
  obtain ⟨A, c, rfl, hsb⟩ := hz
  have hl1 := hsb.len
  have hl2 := hs.len
  have hs0 := hs
  obtain ⟨A2, c2, rfl, _⟩ := hs
  clear hsb
  unfold zv
  have W0 : Below w.heap.size w (w.alloc (.cells #[.int .i64 z.st, .int .i64 z.fe, .slice A z.d.length c] 26)) := (Below.refl _ _).alloc (Nat.le_refl _) _
  have hz1 := hz0.alloc (.cells #[.int .i64 z.st, .int .i64 z.fe, .slice A z.d.length c] 26)
  have hs1 := hs0.alloc (.cells #[.int .i64 z.st, .int .i64 z.fe, .slice A z.d.length c] 26)
  have Ba := Blk.new w 26 #[.int .i64 z.st, .int .i64 z.fe, .slice A z.d.length c] rfl
  generalize hw0 : w.alloc (.cells #[.int .i64 z.st, .int .i64 z.fe, .slice A z.d.length c] 26) = w0 at W0 hz1 hs1 Ba
  have HW0 := Lib.hid hw0; clear hw0
  rcases h with h | ⟨h, hok⟩ | ⟨h, hok, hl⟩
  · have HB := Lib.hid h; clear h
    go_enter Try.func5, Try.ntmps5
    go_wp2_with fail
    rw [HW0.out]
    refine (live04_any w0).mono ?_
    rintro e w1 ⟨rfl, hb1⟩
    have Ba1 := Ba.step hb1
    obtain ⟨q1, f1⟩ := Ba1.rules
    go_wp2_with fail
    refine (big_any _ _ z l K K' w1 (hz1.step hb1) (hs1.step hb1)).mono ?_
    rw [HB.out]
    rintro e w2 ⟨rfl, hb2⟩
    go_wp2
    go_ret
    exact ⟨rfl, (W0.trans (hb1.mono W0.size)).trans (hb2.mono (W0.trans (hb1.mono W0.size)).size)⟩
  · have HB := Lib.hid h; clear h
    have HC := Lib.hid (show chkZ z most = 1 from if_neg hok); clear hok
    go_enter Try.func5, Try.ntmps5
    go_wp2_with fail
    rw [HW0.out]
    refine (live04_any w0).mono ?_
    rintro e w1 ⟨rfl, hb1⟩
    have Ba1 := Ba.step hb1
    obtain ⟨q1, f1⟩ := Ba1.rules
    go_wp2_with fail
    refine (big_any _ _ z l K K' w1 (hz1.step hb1) (hs1.step hb1)).mono ?_
    rw [HB.out]
    rintro e w2 ⟨rfl, hb2⟩
    have Ba2 := Ba1.step hb2
    obtain ⟨q2, f2⟩ := Ba2.rules
    go_wp2_with fail
    refine (refCheck_any _ z most K w2 ((hz1.step hb1).step hb2)).mono ?_
    rw [HC.out]
    rintro e w3 ⟨rfl, hb3⟩
    go_wp2
    go_ret
    have h2 := (W0.trans (hb1.mono W0.size)).trans (hb2.mono (W0.trans (hb1.mono W0.size)).size)
    exact ⟨rfl, h2.trans (hb3.mono h2.size)⟩
  · have HB := Lib.hid h; clear h
    have HC := Lib.hid (show chkZ z most = 0 from if_pos hok); clear hok
    have hlb : ((l.length : Int) == 0) = true := beq_iff_eq.2 (by omega)
    clear hl
    go_enter Try.func5, Try.ntmps5
    go_wp2_with fail
    rw [HW0.out]
    refine (live04_any w0).mono ?_
    rintro e w1 ⟨rfl, hb1⟩
    have Ba1 := Ba.step hb1
    obtain ⟨q1, f1⟩ := Ba1.rules
    go_wp2_with fail
    refine (big_any _ _ z l K K' w1 (hz1.step hb1) (hs1.step hb1)).mono ?_
    rw [HB.out]
    rintro e w2 ⟨rfl, hb2⟩
    have Ba2 := Ba1.step hb2
    obtain ⟨q2, f2⟩ := Ba2.rules
    go_wp2_with fail
    refine (refCheck_any _ z most K w2 ((hz1.step hb1).step hb2)).mono ?_
    rw [HC.out]
    rintro e w3 ⟨rfl, hb3⟩
    go_wp2
    go_ret
    have h2 := (W0.trans (hb1.mono W0.size)).trans (hb2.mono (W0.trans (hb1.mono W0.size)).size)
    exact ⟨rfl, h2.trans (hb3.mono h2.size)⟩

theorem isZ_own {w : World} {base : Nat} {A : Option Addr} {c : Nat} {z : Zn} (h : w.ownsRow base 5 1 (.slice A z.d.length c) z.d.length (cells8 z.d)) (hl : z.d.length ≤ 140737488355328) : IsZ w (fun _ => True) (.agg #[.int .i64 z.st, .int .i64 z.fe, .slice A z.d.length c]) z :=
  ⟨A, c, rfl, (IsB.of_own h hl).more (fun _ _ => trivial)⟩

set_option maxRecDepth 100000 in
set_option maxHeartbeats 4000000 in
theorem zoneTorn_go (v sv : Value) (z : Zn) (most keep : Int) (l : List UInt8) (K K' : Nat → Prop) (w : World) (hz : IsZ w K v z) (hs : IsB w K' sv l) (hbig : bigB z l = false) (hok : okZ z most) (hl0 : 0 < l.length) :
    Calls Try.prog 5 #[v, .int .i64 most, sv, .int .i64 keep] w fun e w' => e = .returned (.bool true) ∧ Below w.heap.size w w' := by
  have hz0 := hz
  obtain ⟨A, c, rfl, hsb⟩ := hz
  obtain ⟨hbz, hbl⟩ := bigB_false hbig
  have hs0 := hs
  obtain ⟨A2, c2, rfl, _, hlc2, hcc2, _⟩ := hs
  clear hsb
  unfold zv
  have W0 : Below w.heap.size w (w.alloc (.cells #[.int .i64 z.st, .int .i64 z.fe, .slice A z.d.length c] 26)) := (Below.refl _ _).alloc (Nat.le_refl _) _
  have hz1 := hz0.alloc (.cells #[.int .i64 z.st, .int .i64 z.fe, .slice A z.d.length c] 26)
  have hs1 := hs0.alloc (.cells #[.int .i64 z.st, .int .i64 z.fe, .slice A z.d.length c] 26)
  have Ba := Blk.new w 26 #[.int .i64 z.st, .int .i64 z.fe, .slice A z.d.length c] rfl
  generalize hw0 : w.alloc (.cells #[.int .i64 z.st, .int .i64 z.fe, .slice A z.d.length c] 26) = w0 at W0 hz1 hs1 Ba
  have HW0 := Lib.hid hw0; clear hw0
  have HB := Lib.hid hbig; clear hbig
  have HC := Lib.hid (show chkZ z most = 0 from if_pos hok)
  have HOK := Lib.hid hok; clear hok
  have hlb : ((l.length : Int) == 0) = false := beq_eq_false_iff_ne.2 (by omega)
  have hm1 := Int.tmod_lt_of_pos keep (b := (l.length : Int) + 1) (by omega)
  have hm2 := Int.lt_tmod_of_pos keep (b := (l.length : Int) + 1) (by omega)
  have hm0 : 0 < (l.length : Int) + 1 := by omega
  have hm3 : ¬ ((l.length : Int) + 1 = 0) := by omega
  go_enter Try.func5, Try.ntmps5
  go_wp2_with fail
  rw [HW0.out]
  refine (live04_any w0).mono ?_
  rintro e w1 ⟨rfl, hb1⟩
  have Ba1 := Ba.step hb1
  obtain ⟨q1, f1⟩ := Ba1.rules
  go_wp2_with fail
  refine (big_any _ _ z l K K' w1 (hz1.step hb1) (hs1.step hb1)).mono ?_
  rw [HB.out]
  rintro e w2 ⟨rfl, hb2⟩
  have Ba2 := Ba1.step hb2
  clear q1 f1
  obtain ⟨q2, f2⟩ := Ba2.rules
  go_wp2_with fail
  refine (refCheck_any _ z most K w2 ((hz1.step hb1).step hb2)).mono ?_
  rw [HC.out]
  rintro e w3 ⟨rfl, hb3⟩
  have Ba3 := Ba2.step hb3
  clear q2 f2
  obtain ⟨q3, f3⟩ := Ba3.rules
  have hz3 := ((hz1.step hb1).step hb2).step hb3
  have hs3 := ((hs1.step hb1).step hb2).step hb3
  have W3 : Below w.heap.size w w3 := by
    have h2 := (W0.trans (hb1.mono W0.size)).trans (hb2.mono (W0.trans (hb1.mono W0.size)).size)
    exact h2.trans (hb3.mono h2.size)
  clear hz1 hs1 Ba Ba1 Ba2 hb1 hb2 hb3 W0
  go_wp2_with fail
  have hk0 : 0 ≤ (keep.tmod ((l.length : Int) + 1) + (l.length : Int) + 1) % ((l.length : Int) + 1) := Int.emod_nonneg _ (by omega)
  have hk1 : (keep.tmod ((l.length : Int) + 1) + (l.length : Int) + 1) % ((l.length : Int) + 1) < (l.length : Int) + 1 := Int.emod_lt_of_pos _ (by omega)
  generalize (keep.tmod ((l.length : Int) + 1) + (l.length : Int) + 1) % ((l.length : Int) + 1) = kk at hk0 hk1 ⊢
  obtain ⟨k, rfl⟩ : ∃ k : Nat, kk = (k : Int) := ⟨kk.toNat, by omega⟩
  have hkl : k ≤ l.length := by omega
  clear hm1 hm2 hm3 hm0
  refine (append_any _ _ z most l K K' w3 hz3 hs3).mono ?_
  rintro e w4 ⟨v4, rfl, ho4, hb4⟩
  have Ba4 := Ba3.step hb4
  have hz4 := hz3.step hb4
  have hs4 := hs3.step hb4
  have W4 := W3.trans (hb4.mono W3.size)
  have lta4 := Ba4.lt
  clear q3 f3
  obtain ⟨q4, f4⟩ := Ba4.rules
  by_cases hr : roomZ z most l = 0
  · have hA : appZ z most l = (grownZ z most l, (z.d.length : Int), 0) := if_pos hr
    rw [hA] at ho4 ⊢
    have HR := Lib.hid hr; clear hr
    clear hA
    obtain ⟨x, hx⟩ : ∃ x, x = grownZ z most l := ⟨_, rfl⟩
    rw [← hx] at ho4
    have HX := Lib.hid hx; clear hx
    have hfit := (roomZ_zero HR.out).2.2.2
    have hmm := HOK.out.2.1
    have hxl : x.d.length ≤ 140737488355328 := by rw [HX.out]; show (z.d ++ l).length ≤ _; rw [List.length_append]; omega
    have ix4 := ho4.isZ hxl
    obtain ⟨A4, c4, rfl, hown4⟩ := ho4
    have B4 := Blk.new w4 26 #[.int .i64 x.st, .int .i64 x.fe, .slice A4 x.d.length c4] rfl
    have ix4' := ix4.alloc (.cells #[.int .i64 x.st, .int .i64 x.fe, .slice A4 x.d.length c4] 26)
    have hz4' := hz4.alloc (.cells #[.int .i64 x.st, .int .i64 x.fe, .slice A4 x.d.length c4] 26)
    have hs4' := hs4.alloc (.cells #[.int .i64 x.st, .int .i64 x.fe, .slice A4 x.d.length c4] 26)
    have Ba4' := Ba4.alloc (.cells #[.int .i64 x.st, .int .i64 x.fe, .slice A4 x.d.length c4] 26)
    unfold zv
    go_wp2_with fail
    refine (torn_any _ _ z most k l K K' _ hz4' hs4').mono ?_
    have hT : tornZ z most l k = (grownZ z most (l.take k), 0) := by unfold tornZ; rw [if_neg (by simpa using HR.out), if_pos ⟨by omega, by omega⟩, Int.toNat_natCast]
    rw [hT]
    clear hT
    obtain ⟨m, hm⟩ : ∃ m, m = l.take k := ⟨_, rfl⟩
    rw [← hm]
    obtain ⟨y, hy⟩ : ∃ y, y = grownZ z most m := ⟨_, rfl⟩
    rw [← hy]
    have HM := Lib.hid hm; clear hm
    have HY := Lib.hid hy; clear hy
    rintro e w5 ⟨v5, rfl, ho5, hb5⟩
    have hyl : y.d.length ≤ 140737488355328 := by rw [HY.out]; show (z.d ++ m).length ≤ _; rw [List.length_append, HM.out, List.length_take]; omega
    have iy5 := ho5.isZ hyl
    obtain ⟨A5, c5, rfl, hown5⟩ := ho5
    have Ba5 := Ba4'.step hb5
    have B5 := B4.step hb5
    have ix5 := ix4'.step hb5
    have hz5 := hz4'.step hb5
    have hs5 := hs4'.step hb5
    have lta5 := Ba5.lt
    have lt5 := B5.lt
    clear q4 f4
    obtain ⟨q5, f5⟩ := Ba5.rules
    obtain ⟨r5, g5⟩ := B5.rules
    have h44 := W4.alloc W4.size (.cells #[.int .i64 x.st, .int .i64 x.fe, .slice A4 x.d.length c4] 26)
    have W5 := h44.trans (hb5.mono h44.size)
    unfold zv
    by_cases hk : k = 0
    · subst hk
      go_wp2_with fail
      have hyz : y = z := by rw [HY.out, HM.out, List.take_zero, grown_nil HR.out]
      have B6 := Blk.new w5 26 #[.int .i64 y.st, .int .i64 y.fe, .slice A5 y.d.length c5] rfl
      refine (same_any _ _ y z _ K _ (iy5.alloc _) (hz5.alloc _)).mono ?_
      rw [hyz, sameZ_self]
      rintro e w6 ⟨rfl, hb6⟩
      go_wp2
      go_ret
      exact ⟨rfl, (W5.alloc W5.size _).trans (hb6.mono (by have := W5.size; simp; omega))⟩
    · have hA2 : appZ z most m = (y, (z.d.length : Int), 0) := by rw [HY.out]; unfold appZ; rw [if_pos (by rw [HM.out]; exact room_take HR.out (by omega) hkl)]
      have HA2 := Lib.hid hA2; clear hA2
      have hkb : ((k : Int) == 0) = false := beq_eq_false_iff_ne.2 (by omega)
      have hkc : (k : Int) ≤ (c2 : Int) := by omega
      have hk00 : (0 : Int) ≤ (k : Int) := by omega
      have hml : m.length = k := by rw [HM.out, List.length_take]; omega
      have hsm : IsB w5 K' (.slice A2 k c2) m := by rw [HM.out]; exact hs5.pre hkl
      have HML := Lib.hid hml; clear hml
      clear hk
      have hzq := hz5.alloc (.cells #[.int .i64 y.st, .int .i64 y.fe, .slice A5 y.d.length c5] 26)
      have hsq := hsm.alloc (.cells #[.int .i64 y.st, .int .i64 y.fe, .slice A5 y.d.length c5] 26)
      have Baq := Ba5.alloc (.cells #[.int .i64 y.st, .int .i64 y.fe, .slice A5 y.d.length c5] 26)
      have B4q := B5.alloc (.cells #[.int .i64 y.st, .int .i64 y.fe, .slice A5 y.d.length c5] 26)
      have B5q := Blk.new w5 26 #[.int .i64 y.st, .int .i64 y.fe, .slice A5 y.d.length c5] rfl
      have oxq := (own_below (hown4.alloc (.cells #[.int .i64 x.st, .int .i64 x.fe, .slice A4 x.d.length c4] 26)) hb5 (Nat.le_refl _)).alloc (.cells #[.int .i64 y.st, .int .i64 y.fe, .slice A5 y.d.length c5] 26)
      have oyq := hown5.alloc (.cells #[.int .i64 y.st, .int .i64 y.fe, .slice A5 y.d.length c5] 26)
      have Wq := W5.alloc W5.size (.cells #[.int .i64 y.st, .int .i64 y.fe, .slice A5 y.d.length c5] 26)
      have hw5s := W5.size
      clear hz5 hs5 hsm iy5 ix5 ix4 ix4' hz4 hs4 hz4' hs4' hz3 hs3
      go_wp2_with fail
      go_region_with (first
        | (go_at_call 15; refine (append_any _ _ z most m K K' _ ?_ ?_).mono ?_; (first | exact (hzq.alloc _).drew | exact hzq.alloc _); (first | exact (hsq.alloc _).drew | exact hsq.alloc _); rw [HA2.out]; rintro e w6 ⟨v6, rfl, ⟨A6, c6, rfl, op6⟩, hb6⟩; have Ba6 : Blk w6 _ _ _ := (by first | exact (Baq.alloc _).drew.step hb6 | exact (Baq.alloc _).step hb6); have B46 : Blk w6 _ _ _ := (by first | exact (B4q.alloc _).drew.step hb6 | exact (B4q.alloc _).step hb6); have B56 : Blk w6 _ _ _ := (by first | exact (B5q.alloc _).drew.step hb6 | exact (B5q.alloc _).step hb6); have ox6 : w6.ownsRow _ _ _ _ _ _ := (by first | exact own_below ((oxq).alloc _).drew hb6 (Nat.le_refl _) | exact own_below ((oxq).alloc _) hb6 (Nat.le_refl _)); have oy6 : w6.ownsRow _ _ _ _ _ _ := (by first | exact own_below ((oyq).alloc _).drew hb6 (Nat.le_refl _) | exact own_below ((oyq).alloc _) hb6 (Nat.le_refl _)); have lta6 := Ba6.lt; have lt46 := B46.lt; have lt56 := B56.lt; obtain ⟨qa6, fa6⟩ := Ba6.rules; obtain ⟨q46, f46⟩ := B46.rules; obtain ⟨q56, f56⟩ := B56.rules; have B66 : Blk w6 (w5.heap.size + 1) 26 #[.int .i64 0, .int .i64 0, .slice none 0 0] := (by first | exact ((Blk.new _ _ _ (by simp)).drew).step hb6 | exact (Blk.new _ _ _ (by simp)).step hb6); have ltc6 := B66.lt; obtain ⟨q66, f66⟩ := B66.rules; unfold zv)
        | (go_at_call 15; refine (append_any _ _ z most m K K' _ ?_ ?_).mono ?_; (first | exact (hzq).drew | exact hzq); (first | exact (hsq).drew | exact hsq); rw [HA2.out]; rintro e w6 ⟨v6, rfl, ⟨A6, c6, rfl, op6⟩, hb6⟩; have Ba6 : Blk w6 _ _ _ := (by first | exact (Baq).drew.step hb6 | exact (Baq).step hb6); have B46 : Blk w6 _ _ _ := (by first | exact (B4q).drew.step hb6 | exact (B4q).step hb6); have B56 : Blk w6 _ _ _ := (by first | exact (B5q).drew.step hb6 | exact (B5q).step hb6); have ox6 : w6.ownsRow _ _ _ _ _ _ := (by first | exact own_below ((oxq)).drew hb6 (Nat.le_refl _) | exact own_below ((oxq)) hb6 (Nat.le_refl _)); have oy6 : w6.ownsRow _ _ _ _ _ _ := (by first | exact own_below ((oyq)).drew hb6 (Nat.le_refl _) | exact own_below ((oyq)) hb6 (Nat.le_refl _)); have lta6 := Ba6.lt; have lt46 := B46.lt; have lt56 := B56.lt; obtain ⟨qa6, fa6⟩ := Ba6.rules; obtain ⟨q46, f46⟩ := B46.rules; obtain ⟨q56, f56⟩ := B56.rules; unfold zv)
        | fail)
      all_goals
        have hkn : k < l.length ∨ k = l.length := by omega
        rcases hkn with hkn | hkn
        · have hknI : (k : Int) < (l.length : Int) := by omega
          clear hkn
          go_wp2_with (go_at_call 22; refine (same_any _ _ y y (fun _ => True) (fun _ => True) _ ?_ ?_).mono ?_; (first | exact isZ_own (own_setBlk3 op6 B66 (by decide)) hyl | exact isZ_own (op6.alloc _) hyl); (first | exact isZ_own (own_setBlk3 oy6 B66 (by decide)) hyl | exact isZ_own (oy6.alloc _) hyl); rw [sameZ_self]; rintro e w7 ⟨rfl, hb7⟩)
          go_ret
          refine ⟨rfl, ?_⟩
          have hS : w.heap.size ≤ w6.heap.size := by have := W5.size; omega
          first
            | exact (below_set3 ((Wq.alloc Wq.size _).drew.trans (hb6.mono (by have := Wq.size; simp at this ⊢; omega))) (by omega)).trans (hb7.mono (by simp; omega))
            | exact ((Wq.drew.trans (hb6.mono Wq.size)).alloc hS _).trans (hb7.mono (by simp; omega))
        · have hmll : m = l := by rw [HM.out, hkn, List.take_length]
          have hyx : y = x := by rw [HY.out, HX.out, hmll]
          have HYX := Lib.hid hyx; clear hyx
          have hknI : ¬ (k : Int) < (l.length : Int) := by omega
          clear hkn hmll
          go_wp2_with (first
            | (go_at_call 22; refine (same_any _ _ y y (fun _ => True) (fun _ => True) _ ?_ ?_).mono ?_; (first | exact isZ_own (own_setBlk3 op6 B66 (by decide)) hyl | exact isZ_own (op6.alloc _) hyl); (first | exact isZ_own (own_setBlk3 oy6 B66 (by decide)) hyl | exact isZ_own (oy6.alloc _) hyl); rw [sameZ_self]; rintro e w7 ⟨rfl, hb7⟩; have B47 : Blk w7 _ _ _ := (by first | exact ((((B46.far (by show _ ≠ w5.heap.size + 1; omega) _).far (by show _ ≠ w5.heap.size + 1; omega) _).far (by show _ ≠ w5.heap.size + 1; omega) _).step hb7) | exact (B46.alloc _).step hb7); have B57 : Blk w7 _ _ _ := (by first | exact ((((B56.far (by show _ ≠ w5.heap.size + 1; omega) _).far (by show _ ≠ w5.heap.size + 1; omega) _).far (by show _ ≠ w5.heap.size + 1; omega) _).step hb7) | exact (B56.alloc _).step hb7); obtain ⟨q47, f47⟩ := B47.rules; obtain ⟨q57, f57⟩ := B57.rules)
            | (go_at_call 22; refine (same_any _ _ y x (fun _ => True) (fun _ => True) _ ?_ ?_).mono ?_; (first | exact isZ_own (own_below (own_setBlk3 oy6 B66 (by decide)) hb7 (Nat.le_refl _)) hyl | exact isZ_own (own_below (oy6.alloc _) hb7 (Nat.le_refl _)) hyl); (first | exact isZ_own (own_below (own_setBlk3 ox6 B66 (by decide)) hb7 (Nat.le_refl _)) hxl | exact isZ_own (own_below (ox6.alloc _) hb7 (Nat.le_refl _)) hxl); rw [HYX.out, sameZ_self]; rintro e w8 ⟨rfl, hb8⟩))
          go_ret
          refine ⟨rfl, ?_⟩
          have hS : w.heap.size ≤ w6.heap.size := by have := W5.size; omega
          have h67 : Below w.heap.size w w7 := by
            first
              | exact (below_set3 ((Wq.alloc Wq.size _).drew.trans (hb6.mono (by have := Wq.size; simp at this ⊢; omega))) (by omega)).trans (hb7.mono (by simp; omega))
              | exact ((Wq.drew.trans (hb6.mono Wq.size)).alloc hS _).trans (hb7.mono (by simp; omega))
          exact h67.trans (hb8.mono h67.size)
  · have hA : appZ z most l = (z0, 0, roomZ z most l) := if_neg hr
    rw [hA] at ho4 ⊢
    have hrb : (roomZ z most l != 0) = true := by simpa using hr
    have HT := Lib.hid (show tornZ z most l k = (z0, roomZ z most l) from if_pos hr)
    clear hA hr
    generalize roomZ z most l = r at HT hrb ⊢
    obtain ⟨A4, c4, rfl, hown4⟩ := ho4
    have hz4' := hz4.alloc (.cells #[.int .i64 z0.st, .int .i64 z0.fe, .slice A4 z0.d.length c4] 26)
    have hs4' := hs4.alloc (.cells #[.int .i64 z0.st, .int .i64 z0.fe, .slice A4 z0.d.length c4] 26)
    have h44 := W4.alloc W4.size (.cells #[.int .i64 z0.st, .int .i64 z0.fe, .slice A4 z0.d.length c4] 26)
    unfold zv z0
    unfold z0 at hz4' hs4' h44
    go_wp2_with fail
    refine (torn_any _ _ z most k l K K' _ hz4' hs4').mono ?_
    rw [HT.out]
    rintro e w5 ⟨v5, rfl, ⟨A5, c5, rfl, hown5⟩, hb5⟩
    have W5 := h44.trans (hb5.mono h44.size)
    unfold zv z0
    go_wp2
    go_ret
    exact ⟨rfl, W5.alloc W5.size _⟩

theorem zoneTorn_all (v sv : Value) (z : Zn) (most keep : Int) (l : List UInt8) (K K' : Nat → Prop) (w : World) (hz : IsZ w K v z) (hs : IsB w K' sv l) :
    Calls Try.prog 5 #[v, .int .i64 most, sv, .int .i64 keep] w fun e w' => e = .returned (.bool true) ∧ Below w.heap.size w w' := by
  by_cases hb : bigB z l = true
  · exact zoneTorn_up v sv z most keep l K K' w hz hs (.inl hb)
  · have hb := Bool.eq_false_iff.2 hb
    by_cases hok : okZ z most
    · by_cases hl : l.length = 0
      · exact zoneTorn_up v sv z most keep l K K' w hz hs (.inr (.inr ⟨hb, hok, hl⟩))
      · exact zoneTorn_go v sv z most keep l K K' w hz hs hb hok (by omega)
    · exact zoneTorn_up v sv z most keep l K K' w hz hs (.inr (.inl ⟨hb, hok⟩))
end Go.Proofs.Ytcjmcfjjbicimaa
