/- The walks of zone.bounds, zone.Check. -/
import Derived.Test.YtcjmcfjjbicimaaRows
import Derived.Test.YtcjmcfjjbicimaaZonePlain
namespace Go.Proofs.Ytcjmcfjjbicimaa
open Go.RowKit

set_option maxRecDepth 100000 in
set_option maxHeartbeats 400000 in
theorem bounds_any (st most : Int) (h1 : 1 ≤ most) (h2 : most ≤ 9223372036854775807) (w : World) :
    Calls Try.prog 49 #[.int .i64 st, .int .i64 most] w fun e w' => e = .returned (.tuple #[.int .i64 (bndZ st most).1, .int .i64 (bndZ st most).2]) ∧ w = w' := by
  unfold bndZ
  by_cases h0 : st = 0
  · subst h0
    go_enter Try.func49, Try.ntmps49
    go_wp2
    go_ret2
    exact ⟨rfl, rfl⟩
  rw [if_neg h0]
  have hb0 : (st == 0) = false := beq_eq_false_iff_ne.2 h0
  by_cases h3 : st = 1 ∨ st = 3
  · rw [if_pos h3]
    rcases h3 with rfl | rfl
    all_goals
      go_enter Try.func49, Try.ntmps49
      go_wp2
      go_ret2
      exact ⟨rfl, rfl⟩
  rw [if_neg h3]
  by_cases h4 : st = 2
  · subst h4
    go_enter Try.func49, Try.ntmps49
    go_wp2
    go_ret2
    exact ⟨rfl, rfl⟩
  rw [if_neg h4]
  by_cases h5 : st = 4
  · subst h5
    go_enter Try.func49, Try.ntmps49
    go_wp2
    go_ret2
    exact ⟨rfl, rfl⟩
  rw [if_neg h5]
  have hb1 : (st == 1) = false := beq_eq_false_iff_ne.2 (by omega)
  have hb3 : (st == 3) = false := beq_eq_false_iff_ne.2 (by omega)
  have hb2 : (st == 2) = false := beq_eq_false_iff_ne.2 h4
  have hb4 : (st == 4) = false := beq_eq_false_iff_ne.2 h5
  clear h0 h3 h4 h5
  go_enter Try.func49, Try.ntmps49
  go_wp2
  go_ret2
  exact ⟨rfl, rfl⟩

set_option maxRecDepth 100000 in
set_option maxHeartbeats 1000000 in
theorem check_any (v : Value) (z : Zn) (most : Int) (K : Nat → Prop) (w : World) (hz : IsZ w K v z) :
    Calls Try.prog 23 #[v, .int .i64 most] w fun e w' => e = .returned (.int .i64 (chkZ z most)) ∧ Below w.heap.size w w' := by
  obtain ⟨A, c, rfl, hsb⟩ := hz
  have hl := hsb.len
  clear hsb
  have hok := okZ_iff z most
  unfold zv
  by_cases hm : 1 ≤ most ∧ most ≤ 65536
  · obtain ⟨hm1, hm2⟩ := hm
    generalize hb1 : (bndZ z.st most).1 = b1 at *
    generalize hb2 : (bndZ z.st most).2 = b2 at *
    have HOK := Lib.hid hok; clear hok
    have HB1 := Lib.hid hb1; clear hb1
    have HB2 := Lib.hid hb2; clear hb2
    go_enter Try.func23, Try.ntmps23
    go_wp2_with (go_at_call 49; refine (bounds_any _ _ hm1 (by omega) _).mono ?_; rintro e w' ⟨rfl, rfl⟩; rw [HB1.out, HB2.out])
    all_goals
      go_ret
      refine ⟨congrArg (fun x => Ending.returned (.int .i64 x)) ?_, (Below.refl _ _).alloc (Nat.le_refl _) _⟩
      have h := HOK.out
      unfold chkZ
      first
        | (rw [if_pos (h.2 (by omega))]; done)
        | (rw [if_neg (fun hh => by have := h.1 hh; omega)]; done)
  · have hnk : ¬ okZ z most := fun h => hm ⟨h.1, h.2.1⟩
    have hck : chkZ z most = 1 := if_neg hnk
    rw [hck]
    clear hok hnk hck
    go_enter Try.func23, Try.ntmps23
    by_cases hm1 : most < 1
    · clear hm
      go_wp2
      all_goals
        go_ret
        exact ⟨rfl, (Below.refl _ _).alloc (Nat.le_refl _) _⟩
    · have hm2 : 65536 < most := by omega
      clear hm
      go_wp2
      all_goals
        go_ret
        exact ⟨rfl, (Below.refl _ _).alloc (Nat.le_refl _) _⟩
end Go.Proofs.Ytcjmcfjjbicimaa
