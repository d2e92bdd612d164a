/- The walks of slices.Clone, slices.Grow (of nil) and slices.Concat at one element type, said of cells. -/
import Derived.Test.YtcjmcfjjbicimaaRows
import Derived.Test.YtcjmcfjjbicimaaLib
import Derived.Lib.AppendZerosOnto
import Derived.Lib.SliceRun
import Derived.Lib.Walk
namespace Go.Proofs.Ytcjmcfjjbicimaa
open Go.RowKit

theorem Try.infZ : (Try.prog.info? 26).map (fun i => (i.zero, i.size, i.bytes)) = some (some (.agg #[.int .i64 0, .int .i64 0, .slice none 0 0]), 3, 40) := by kernel_rfl

set_option maxRecDepth 100000 in
set_option maxHeartbeats 400000 in
theorem cloneZ_any (A : Option Addr) (n c : Nat) (K : Nat → Prop) (xs : List Value) (w : World) (hr : Reads w K 3 A n xs) (h1 : ∀ u ∈ xs, u.oneCell' = true) (hn : n * 40 ≤ 140737488355328) :
    Calls Try.prog 74 #[.slice A n c] w fun e w' => ∃ A' c', e = .returned (.slice A' n c') ∧ w'.ownsRow w.heap.size 26 3 (.slice A' n c') n xs ∧ Below w.heap.size w w' := by
  obtain ⟨i0, hi, hz0, hz1, hz2⟩ := info_parts Try.infZ
  rcases A with _ | ad
  · have hn0 : n = 0 := by
      rcases Nat.eq_zero_or_pos n with h | h
      · exact h
      · obtain ⟨_, h2, _⟩ := hr.2 h; cases h2
    subst hn0
    have hx : xs = [] := List.eq_nil_of_length_eq_zero (by simpa using hr.1)
    subst hx
    have heq := fun w => Lib.run_eql_slice_nil (P := Try.prog) w 41 26 none 0 c 0 0 Try.underlying41
    go_enter Try.func74, Try.ntmps74
    go_wp2
    go_ret
    exact ⟨none, 0, rfl, World.ownsRow_nil _ _ _ _, Below.refl _ _⟩
  · have heq := fun w => Lib.run_eql_slice_nil (P := Try.prog) w 41 26 (some ad) n c 0 0 Try.underlying41
    have hr' := hr.alloc (.cells #[] 26)
    go_enter Try.func74, Try.ntmps74
    go_wp2_with (at_builtin; refine wpList_appN rfl _ _ _ rfl w.heap.size 26 i0 _ 3 40 Try.underlying41 hi hz0 hz1 hz2 rfl (by omega) rfl (own_empty _ _ _ _) rfl hr' h1 (by simp only [maxLen]; omega) (by omega) (by simp) ?_; intro A' c' w1 hown1 hg1)
    go_ret
    simp only [Nat.zero_add, List.nil_append] at hown1 ⊢
    exact ⟨A', c', rfl, hown1, ((Below.refl _ _).alloc (Nat.le_refl _) _).trans hg1.below⟩


end Go.Proofs.Ytcjmcfjjbicimaa
