/- The walk of quicksetref04.Close, of a zone that is Implicit. -/
import Derived.Test.YtcjmcfjjbicimaaZoneRef
import Derived.Test.YtcjmcfjjbicimaaRep
namespace Go.Proofs.Ytcjmcfjjbicimaa
open Go.RowKit

set_option linter.unusedSimpArgs false in
set_option maxRecDepth 100000 in
set_option maxHeartbeats 2000000 in
theorem refClose_any (z : Zn) (A : Option Addr) (c : Nat) (K : Nat → Prop) (w : World) (hz : IsB w K (.slice A z.d.length c) z.d) (h1 : z.st = 1) :
    Calls Try.prog 41 #[.agg #[.int .i64 z.st, .int .i64 z.fe, .slice A z.d.length c]] w fun e w' => ∃ v', e = .returned (.tuple #[v', .int .i64 0]) ∧ OwnZ w' w.heap.size v' (closeZ z).1 ∧ Below w.heap.size w w' := by
  obtain ⟨y, hy⟩ : ∃ y, (closeZ z).1 = y := ⟨_, rfl⟩
  have hye : y = ⟨if z.d.length = 0 then 0 else 3, z.fe, z.d⟩ := by rw [← hy]; unfold closeZ; rw [if_neg (by omega)]
  rw [hy]
  have HY := Lib.hid hye
  have e0 : (z.st == 0) = false := by rw [h1]; rfl
  have e4 : (z.st == 4) = false := by rw [h1]; rfl
  clear hy hye h1
  have E := ((Kn.start w).give Stable.bytes hz).push 26 #[.int .i64 z.st, .int .i64 z.fe, .slice A z.d.length c] |>.push 26 #[.int .i64 0, .int .i64 0, .slice none 0 0]
  rw [World.size_alloc] at E
  clear hz
  go_enter Try.func41, Try.ntmps41
  go_wp2_with fail
  refine (copy_any _ z _ _ ⟨A, c, rfl, E.get m0⟩).mono ?_
  rintro e w2 ⟨v', rfl, ⟨A7, c7, rfl, own7⟩, hb2⟩
  simp only [World.size_alloc] at own7
  replace E := E.step hb2
  have hw2 : w.heap.size + 2 ≤ w2.heap.size := by have := (E.rules m0).2.2; omega
  clear hb2
  unfold zv
  obtain ⟨q0, f0, t0⟩ := E.rules m0
  obtain ⟨q1, f1, t1⟩ := E.rules m1
  by_cases hl : z.d.length = 0
  · have el : ((z.d.length : Int) == 0) = true := by simp [hl]
    have hy := HY.out
    rw [if_pos hl] at hy
    subst hy
    clear hl
    go_wp2
    have hC := ((E.at_ m0).set3 (x := .int .i64 0) (y := .int .i64 z.fe) (z := .slice A7 z.d.length c7)).alloc (.cells #[.int .i64 0, .int .i64 z.fe, .slice A7 z.d.length c7] 26)
    have hO := own_set3 (g := w.heap.size + 1) (x := .int .i64 0) (y := .int .i64 z.fe) (z := .slice A7 z.d.length c7) own7 (by omega) (show w.heap.size ≤ w.heap.size + 1 + 1 by omega)
    have hb := below_set3 (g := w.heap.size + 1) (x := .int .i64 0) (y := .int .i64 z.fe) (z := .slice A7 z.d.length c7) E.below (by omega)
    generalize ((w2.setCell ⟨w.heap.size + 1, 0, none⟩ (.int .i64 0)).setCell ⟨w.heap.size + 1, 1, none⟩ (.int .i64 z.fe)).setCell ⟨w.heap.size + 1, 2, none⟩ (.slice A7 z.d.length c7) = w5 at hC hO hb ⊢
    obtain ⟨q9, f9⟩ := hC.rules
    refine bodyPost_ret (v := .tuple #[.agg #[.int .i64 0, .int .i64 z.fe, .slice A7 z.d.length c7], .int .i64 0]) (by simp [results, Try.results41, go_sem, q9]) rfl ⟨_, rfl, ⟨A7, c7, rfl, ?_⟩, hb.alloc hb.size _⟩
    exact own_below hO ((Below.refl _ _).alloc (Nat.le_refl _) _) (Nat.le_refl _)
  · have el : ((z.d.length : Int) == 0) = false := by simp [hl]
    have hy := HY.out
    rw [if_neg hl] at hy
    subst hy
    clear hl
    go_wp2
    have hC := ((E.at_ m0).set3 (x := .int .i64 3) (y := .int .i64 z.fe) (z := .slice A7 z.d.length c7)).alloc (.cells #[.int .i64 3, .int .i64 z.fe, .slice A7 z.d.length c7] 26)
    have hO := own_set3 (g := w.heap.size + 1) (x := .int .i64 3) (y := .int .i64 z.fe) (z := .slice A7 z.d.length c7) own7 (by omega) (show w.heap.size ≤ w.heap.size + 1 + 1 by omega)
    have hb := below_set3 (g := w.heap.size + 1) (x := .int .i64 3) (y := .int .i64 z.fe) (z := .slice A7 z.d.length c7) E.below (by omega)
    generalize ((w2.setCell ⟨w.heap.size + 1, 0, none⟩ (.int .i64 3)).setCell ⟨w.heap.size + 1, 1, none⟩ (.int .i64 z.fe)).setCell ⟨w.heap.size + 1, 2, none⟩ (.slice A7 z.d.length c7) = w5 at hC hO hb ⊢
    obtain ⟨q9, f9⟩ := hC.rules
    refine bodyPost_ret (v := .tuple #[.agg #[.int .i64 3, .int .i64 z.fe, .slice A7 z.d.length c7], .int .i64 0]) (by simp [results, Try.results41, go_sem, q9]) rfl ⟨_, rfl, ⟨A7, c7, rfl, ?_⟩, hb.alloc hb.size _⟩
    exact own_below hO ((Below.refl _ _).alloc (Nat.le_refl _) _) (Nat.le_refl _)
end Go.Proofs.Ytcjmcfjjbicimaa
