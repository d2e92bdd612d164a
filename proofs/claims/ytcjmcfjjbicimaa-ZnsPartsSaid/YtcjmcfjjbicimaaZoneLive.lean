/- The walk of quicksetlaw04.live: the chapter's example holds. -/
import Derived.Test.YtcjmcfjjbicimaaZoneAppend
import Derived.Test.YtcjmcfjjbicimaaMore
namespace Go.Proofs.Ytcjmcfjjbicimaa
open Go.RowKit

theorem live_a : appZ z0 3 [97, 98] = (⟨1, 0, [97, 98]⟩, 0, 0) := by simp [appZ, roomZ, okZ, grownZ, z0]
theorem live_b : appZ ⟨1, 0, [97, 98]⟩ 3 [99, 100] = (z0, 0, 40) := by simp [appZ, roomZ, okZ]
theorem live_c : appZ ⟨1, 0, [97, 98]⟩ 3 [99] = (⟨4, 0, [97, 98, 99]⟩, 2, 0) := by simp [appZ, roomZ, okZ, grownZ]

set_option maxRecDepth 100000 in
set_option maxHeartbeats 1000000 in
theorem live04_any (w : World) :
    Calls Try.prog 14 #[] w fun e w' => e = .returned (.bool true) ∧ Below w.heap.size w w' := by
  have kc := run_bytes_const (P := Try.prog) 24 5 Try.underlying24 Try.underlying5
  go_enter Try.func14, Try.ntmps14
  go_wp2_with fail
  refine (append_any _ _ z0 3 [97, 98] (fun _ => True) _ _ ⟨none, 0, rfl, IsB.nil_ _ _⟩ (IsB.new rfl rfl rfl (by simp))).mono ?_
  rintro e w1 ⟨v1, rfl, ho1, hb1⟩
  rw [live_a] at ho1 ⊢
  have hz1 := ho1.isZ (by simp)
  obtain ⟨A1, c1, rfl, hown1⟩ := ho1
  unfold zv at hz1 ⊢
  go_wp2_with fail
  have Bk1 := (Blk.new w1 26 #[.int .i64 1, .int .i64 0, .slice A1 2 c1] rfl).alloc (.cells #[.int .u8 99, .int .u8 100] 5 (2, 3))
  refine (append_any _ _ ⟨1, 0, [97, 98]⟩ 3 [99, 100] _ _ _ ((hz1.alloc _).alloc _) (IsB.new (by simp) rfl rfl (by simp))).mono ?_
  rintro e w2 ⟨v2, rfl, ho2, hb2⟩
  rw [live_b] at ho2 ⊢
  obtain ⟨A2, c2, rfl, hown2⟩ := ho2
  have hz2 := ((hz1.alloc _).alloc _).step hb2
  replace Bk1 := Bk1.step hb2
  obtain ⟨q1, f1⟩ := Bk1.rules
  have hlt1 := Bk1.lt
  unfold zv z0
  go_wp2_with fail
  refine (append_any _ _ ⟨1, 0, [97, 98]⟩ 3 [99] _ _ _ ((hz2.alloc _).alloc _) (IsB.new (g := w2.heap.size + 1) (by simp) rfl rfl (by simp))).mono ?_
  rintro e w3 ⟨v3, rfl, ho3, hb3⟩
  rw [live_c] at ho3 ⊢
  obtain ⟨A3, c3, rfl, hown3⟩ := ho3
  have Bk3 := ((Bk1.alloc _).alloc _).step hb3
  obtain ⟨q3, f3⟩ := Bk3.rules
  have hlt3 := Bk3.lt
  have hs := run_string_of (P := Try.prog) (cap := c3) (n := 3) (l := [97, 98, 99]) (w3.alloc (.cells #[.int .i64 4, .int .i64 0, .slice A3 3 c3] 26)) 24 9 5 Try.underlying24 Try.underlying5 Try.underlying9 rfl ((Reads.of_own hown3).alloc _)
  unfold zv
  go_wp2
  go_ret
  refine ⟨rfl, ?_⟩
  have h1 := ((Below.refl w.heap.size w).alloc (Nat.le_refl _) _).trans (hb1.mono (by simp))
  have h2 := ((h1.alloc h1.size _).alloc (by have := h1.size; simp; omega) _).trans (hb2.mono (by have := h1.size; simp; omega))
  have h3 := ((h2.alloc h2.size _).alloc (by have := h2.size; simp; omega) _).trans (hb3.mono (by have := h2.size; simp; omega))
  exact h3.alloc h3.size _
end Go.Proofs.Ytcjmcfjjbicimaa
