/- The walk of quicksetlaw02.live: the chapter's examples hold. -/
import Derived.Test.YtbjgemipmlimoaaRows
import Derived.Test.YtbjgemipmlimoaaWirePlain
import Derived.Test.YtbjgemipmlimoaaTake
namespace Go.Proofs.Ytbjgemipmlimoaa
open Go.RowKit

set_option maxRecDepth 100000 in
set_option maxHeartbeats 400000 in
theorem live02_any (w : World) :
    Calls Try.prog 14 #[] w fun e w' => e = .returned (.bool true) ∧ Below w.heap.size w w' := by
  have hp : putL 300 = [172, 2] := by rw [putL_ge (by omega), putL_lt (by omega)]; rfl
  have HP := Lib.hid hp; clear hp
  go_enter Try.func14, Try.ntmps14
  go_wp2_with fail
  refine (take_any [128, 0] _ 2 _ _ rfl (by omega) _ (Reads.new (by simp) rfl rfl)).mono ?_
  rintro e w1 ⟨rfl, rfl⟩
  rw [show takeL [128, 0] = (0, 0, 21) from rfl]
  unfold tup3
  go_wp2_with fail
  refine (take_any [172, 2, 9] _ 3 _ _ rfl (by omega) _ (Reads.new (by simp) rfl rfl)).mono ?_
  rintro e w1 ⟨rfl, rfl⟩
  rw [show takeL [172, 2, 9] = (300, 2, 0) from rfl]
  unfold tup3
  go_wp2_with fail
  refine (put_any 300 (by rw [HP.out]; simp) _).mono ?_
  rintro e w1 ⟨A, c, rfl, hown, hb⟩
  rw [HP.out] at hown ⊢
  have hs := run_string_of (P := Try.prog) (cap := c) (n := 2) w1 24 9 5 Try.underlying24 Try.underlying5 Try.underlying9 rfl (Reads.of_own hown)
  go_wp2
  go_ret
  exact ⟨rfl, (((Below.refl _ _).alloc (Nat.le_refl _) _).alloc (by simp) _).trans (hb.mono (by simp; omega))⟩
end Go.Proofs.Ytbjgemipmlimoaa
