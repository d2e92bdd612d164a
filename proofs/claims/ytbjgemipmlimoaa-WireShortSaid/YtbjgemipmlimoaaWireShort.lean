/- The walk of quicksetlaw02.WireShort. -/
import Derived.Test.YtbjgemipmlimoaaWireLive
namespace Go.Proofs.Ytbjgemipmlimoaa
open Go.RowKit

set_option maxRecDepth 100000 in
set_option maxHeartbeats 1000000 in
theorem wireShort_any (a b : Nat) (ha : a < 18446744073709551616) (hb : b < 18446744073709551616) (w : World) :
    Calls Try.prog 3 #[.int .u64 a, .int .u64 b] w fun e w' => e = .returned (.bool true) ∧ Below w.heap.size w w' := by
  obtain ⟨i0, hi, hz0, hz1, hz2⟩ := info_parts Try.info5
  obtain ⟨p, hp⟩ : ∃ p : Nat, p = min a b := ⟨_, rfl⟩
  obtain ⟨q, hq⟩ : ∃ q : Nat, q = max a b := ⟨_, rfl⟩
  have hmin : min (a : Int) (b : Int) = (p : Int) := by omega
  have hmax : max (a : Int) (b : Int) = (q : Int) := by omega
  have HA := Lib.hid ha; clear ha
  have HB := Lib.hid hb; clear hb
  have HP := Lib.hid hp; clear hp
  have HQ := Lib.hid hq; clear hq
  have hp64 : Hid (p < 18446744073709551616) := by have := HP.out; have := HA.out; exact Lib.hid (by omega)
  have hq64 : Hid (q < 18446744073709551616) := by have := HQ.out; have := HA.out; have := HB.out; exact Lib.hid (by omega)
  have hlp := putL_len10 hp64.out
  have hlq := putL_len10 hq64.out
  have hpp := putL_pos p
  have hpq := putL_pos q
  have hmono : (putL p).length ≤ (putL q).length := putL_mono (by have := HP.out; have := HQ.out; omega)
  have ht1 : Hid (takeL (putL p ++ putL q) = (p, (putL p).length, 0)) := Lib.hid (takeL_put p _ hp64.out)
  have ht2 : Hid (takeL (putL q) = (q, (putL q).length, 0)) := Lib.hid (by have := takeL_put q [] hq64.out; rwa [List.append_nil] at this)
  have hinj : Hid (putL p = putL q → a = b) := Lib.hid (fun h => by have := putL_inj hp64.out hq64.out h; have := HP.out; have := HQ.out; omega)
  generalize hxp : putL p = xp at *
  generalize hxq : putL q = xq at *
  have HXP := Lib.hid hxp; clear hxp
  have HXQ := Lib.hid hxq; clear hxq
  go_enter Try.func3, Try.ntmps3
  go_wp2_with fail
  refine (live02_any w).mono ?_
  rintro e w1 ⟨rfl, hb1⟩
  go_wp2_with fail
  refine (put_any p (by rw [HXP.out]; exact hlp) w1).mono ?_
  rintro e w2 ⟨A, c, rfl, hown, hb2⟩
  rw [HXP.out] at hown ⊢
  go_wp2_with fail
  refine (put_any q (by rw [HXQ.out]; exact hlq) w2).mono ?_
  rintro e w3 ⟨A', c', rfl, hown', hb3⟩
  rw [HXQ.out] at hown' ⊢
  have hrp : Reads w3 w3.heap.size 1 A xp.length (cells8 xp) := ((Reads.of_own hown).below hb3).more hb3.size
  have hrq : Reads w3 w3.heap.size 1 A' xq.length (cells8 xq) := Reads.of_own hown'
  go_wp2_with (first
    | (at_builtin; refine wpList_appN rfl (.const _) (.tmp 24) _ rfl w3.heap.size 5 i0 _ 1 1 Try.underlying24 hi hz0 hz1 hz2 rfl (by omega) rfl (World.ownsRow_nil _ _ _ _) rfl hrp (cells8_one _) (by simp only [maxLen]; omega) (by omega) (Nat.le_refl _) ?_; intro A4 c4 w4 hown4 hg4; have hrq4 := hrq.below hg4.below; have hs4 := hg4.below.size; simp only [Nat.zero_add, List.nil_append] at hown4)
    | (at_builtin; refine wpList_appN rfl (.tmp 25) (.tmp 26) _ rfl w3.heap.size 5 i0 _ 1 1 Try.underlying24 hi hz0 hz1 hz2 rfl (by omega) rfl hown4 rfl hrq4 (cells8_one _) (by simp only [maxLen]; omega) (by omega) hs4 ?_; intro A5 c5 w5 hown5 hg5)
    | fail)
  have hr5 : Reads w5 w5.heap.size 1 A5 (xp.length + xq.length) (cells8 (xp ++ xq)) := by rw [cells8_append]; exact Reads.of_own hown5
  refine (take_any (xp ++ xq) A5 _ c5 _ (by simp) (by omega) w5 hr5).mono ?_
  rintro e w6 ⟨rfl, rfl⟩
  rw [ht1.out]
  unfold tup3
  have hb35 := hg4.below.trans hg5.below
  have hrp5 : Reads w5 w5.heap.size 1 A xp.length (cells8 xp) := (hrp.below hb35).more hb35.size
  have hrq5 : Reads w5 w5.heap.size 1 A' xq.length (cells8 xq) := (hrq.below hb35).more hb35.size
  go_wp2_with (first
    | (at_builtin; refine wpList_appN rfl (.const _) (.tmp 65) _ rfl w5.heap.size 5 i0 _ 1 1 Try.underlying24 hi hz0 hz1 hz2 rfl (by omega) rfl (World.ownsRow_nil _ _ _ _) rfl hrp5 (cells8_one _) (by simp only [maxLen]; omega) (by omega) (Nat.le_refl _) ?_; intro A6 c6 w6 hown6 hg6; have hrq6 := hrq5.below hg6.below; have hs6 := hg6.below.size; simp only [Nat.zero_add, List.nil_append] at hown6)
    | (at_builtin; refine wpList_appN rfl (.tmp 66) (.tmp 67) _ rfl w5.heap.size 5 i0 _ 1 1 Try.underlying24 hi hz0 hz1 hz2 rfl (by omega) rfl hown6 rfl hrq6 (cells8_one _) (by simp only [maxLen]; omega) (by omega) hs6 ?_; intro A7 c7 w7 hown7 hg7; have hc7 := own_cap hown7)
    | fail)
  have hr7 : Reads w7 w7.heap.size 1 A7 (xp.length + xq.length) (cells8 (xp ++ xq)) := by rw [cells8_append]; exact Reads.of_own hown7
  have hr7' := hr7.from_ (k := xp.length) (by omega)
  rw [Nat.mul_one, cells8_drop, List.drop_left, Nat.add_sub_cancel_left] at hr7'
  refine (take_any xq _ _ _ _ rfl (by omega) w7 hr7').mono ?_
  rintro e w8 ⟨rfl, rfl⟩
  rw [ht2.out]
  unfold tup3
  have hb57 := hg6.below.trans hg7.below
  have hs1 := run_string_of (P := Try.prog) (cap := c) w7 24 9 5 Try.underlying24 Try.underlying5 Try.underlying9 rfl (hrp5.below hb57)
  have hs2 := run_string_of (P := Try.prog) (cap := c') w7 24 9 5 Try.underlying24 Try.underlying5 Try.underlying9 rfl (hrq5.below hb57)
  go_wp2
  go_ret
  have hfin : ((xp == xq) == ((a : Int) == (b : Int))) = true := by
    rw [Bool.eq_iff_iff.2 (show (xp == xq) = true ↔ ((a : Int) == (b : Int)) = true from ?_)]
    · simp
    · rw [beq_iff_eq, beq_iff_eq]
      exact ⟨fun h => by have := hinj.out h; omega, fun h => by rw [← HXP.out, ← HXQ.out]; have := HP.out; have := HQ.out; congr 1; omega⟩
  refine ⟨congrArg (fun x => Ending.returned (.bool x)) hfin, ?_⟩
  exact (hb1.trans (hb2.mono hb1.size)).trans ((hb3.mono (Nat.le_trans hb1.size hb2.size)).trans ((hb35.trans (hb57.mono hb35.size)).mono (Nat.le_trans hb1.size (Nat.le_trans hb2.size hb3.size))))
end Go.Proofs.Ytbjgemipmlimoaa
