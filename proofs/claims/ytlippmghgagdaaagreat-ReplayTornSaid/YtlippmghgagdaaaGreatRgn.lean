/- Steps of a drawn region by hand: behind an alloc, behind stores, the world is named anew. Over any program. -/
import Derived.Test.YtlippmghgagdaaaGreatRep
namespace Go.Proofs.YtlippmghgagdaaaGreat
open Go.RowKit

theorem at_alloc {K : World → Prop} {w : World} {t : TypeId} {cs : Array Value} (h : ∀ wy, Below w.heap.size w wy → Blk wy w.heap.size t cs → K wy) : K (w.alloc (.cells cs t)) :=
  h _ ((Below.refl _ _).alloc (Nat.le_refl _) _) (Blk.new _ _ _ rfl)
theorem at_drew {K : World → Prop} {w : World} (h : ∀ wy, Below w.heap.size w wy → K wy) : K w.drew := h _ (Below.refl _ _).drew
theorem Turned.upon {B g : Nat} {a w w' : World} (h : Below B a w) (ht : Turned w w' (fun b => b = g)) (hg : B ≤ g) (hB : B ≤ a.heap.size) : Below B a w' :=
  h.trans (ht.below (fun k hk => by subst hk; exact hg) (Nat.le_trans hB h.size))
theorem at_st1 {K : World → Prop} {w : World} {g : Nat} {t : TypeId} {u0 : Value} (hB : Blk w g t #[u0]) (x0 : Value)
    (h : ∀ wy, Turned w wy (fun b => b = g) → Blk wy g t #[x0] → K wy) : K (w.setCell ⟨g, 0, none⟩ x0) := by
  have t0 := Turned.refl w (fun b => b = g)
  have t1 := t0.set (g := g) rfl 0 x0
  replace hB : Blk _ g t #[x0] := hB.set_ 0 x0
  exact h _ t1 hB
theorem at_st2 {K : World → Prop} {w : World} {g : Nat} {t : TypeId} {u0 u1 : Value} (hB : Blk w g t #[u0, u1]) (x0 x1 : Value)
    (h : ∀ wy, Turned w wy (fun b => b = g) → Blk wy g t #[x0, x1] → K wy) : K ((w.setCell ⟨g, 0, none⟩ x0).setCell ⟨g, 1, none⟩ x1) := by
  have t0 := Turned.refl w (fun b => b = g)
  have t1 := t0.set (g := g) rfl 0 x0
  replace hB : Blk _ g t #[x0, u1] := hB.set_ 0 x0
  have t2 := t1.set (g := g) rfl 1 x1
  replace hB : Blk _ g t #[x0, x1] := hB.set_ 1 x1
  exact h _ t2 hB
theorem at_st3 {K : World → Prop} {w : World} {g : Nat} {t : TypeId} {u0 u1 u2 : Value} (hB : Blk w g t #[u0, u1, u2]) (x0 x1 x2 : Value)
    (h : ∀ wy, Turned w wy (fun b => b = g) → Blk wy g t #[x0, x1, x2] → K wy) : K (((w.setCell ⟨g, 0, none⟩ x0).setCell ⟨g, 1, none⟩ x1).setCell ⟨g, 2, none⟩ x2) := by
  have t0 := Turned.refl w (fun b => b = g)
  have t1 := t0.set (g := g) rfl 0 x0
  replace hB : Blk _ g t #[x0, u1, u2] := hB.set_ 0 x0
  have t2 := t1.set (g := g) rfl 1 x1
  replace hB : Blk _ g t #[x0, x1, u2] := hB.set_ 1 x1
  have t3 := t2.set (g := g) rfl 2 x2
  replace hB : Blk _ g t #[x0, x1, x2] := hB.set_ 2 x2
  exact h _ t3 hB
theorem at_st4 {K : World → Prop} {w : World} {g : Nat} {t : TypeId} {u0 u1 u2 u3 : Value} (hB : Blk w g t #[u0, u1, u2, u3]) (x0 x1 x2 x3 : Value)
    (h : ∀ wy, Turned w wy (fun b => b = g) → Blk wy g t #[x0, x1, x2, x3] → K wy) : K ((((w.setCell ⟨g, 0, none⟩ x0).setCell ⟨g, 1, none⟩ x1).setCell ⟨g, 2, none⟩ x2).setCell ⟨g, 3, none⟩ x3) := by
  have t0 := Turned.refl w (fun b => b = g)
  have t1 := t0.set (g := g) rfl 0 x0
  replace hB : Blk _ g t #[x0, u1, u2, u3] := hB.set_ 0 x0
  have t2 := t1.set (g := g) rfl 1 x1
  replace hB : Blk _ g t #[x0, x1, u2, u3] := hB.set_ 1 x1
  have t3 := t2.set (g := g) rfl 2 x2
  replace hB : Blk _ g t #[x0, x1, x2, u3] := hB.set_ 2 x2
  have t4 := t3.set (g := g) rfl 3 x3
  replace hB : Blk _ g t #[x0, x1, x2, x3] := hB.set_ 3 x3
  exact h _ t4 hB
theorem at_st5 {K : World → Prop} {w : World} {g : Nat} {t : TypeId} {u0 u1 u2 u3 u4 : Value} (hB : Blk w g t #[u0, u1, u2, u3, u4]) (x0 x1 x2 x3 x4 : Value)
    (h : ∀ wy, Turned w wy (fun b => b = g) → Blk wy g t #[x0, x1, x2, x3, x4] → K wy) : K (((((w.setCell ⟨g, 0, none⟩ x0).setCell ⟨g, 1, none⟩ x1).setCell ⟨g, 2, none⟩ x2).setCell ⟨g, 3, none⟩ x3).setCell ⟨g, 4, none⟩ x4) := by
  have t0 := Turned.refl w (fun b => b = g)
  have t1 := t0.set (g := g) rfl 0 x0
  replace hB : Blk _ g t #[x0, u1, u2, u3, u4] := hB.set_ 0 x0
  have t2 := t1.set (g := g) rfl 1 x1
  replace hB : Blk _ g t #[x0, x1, u2, u3, u4] := hB.set_ 1 x1
  have t3 := t2.set (g := g) rfl 2 x2
  replace hB : Blk _ g t #[x0, x1, x2, u3, u4] := hB.set_ 2 x2
  have t4 := t3.set (g := g) rfl 3 x3
  replace hB : Blk _ g t #[x0, x1, x2, x3, u4] := hB.set_ 3 x3
  have t5 := t4.set (g := g) rfl 4 x4
  replace hB : Blk _ g t #[x0, x1, x2, x3, x4] := hB.set_ 4 x4
  exact h _ t5 hB
theorem at_st6 {K : World → Prop} {w : World} {g : Nat} {t : TypeId} {u0 u1 u2 u3 u4 u5 : Value} (hB : Blk w g t #[u0, u1, u2, u3, u4, u5]) (x0 x1 x2 x3 x4 x5 : Value)
    (h : ∀ wy, Turned w wy (fun b => b = g) → Blk wy g t #[x0, x1, x2, x3, x4, x5] → K wy) : K ((((((w.setCell ⟨g, 0, none⟩ x0).setCell ⟨g, 1, none⟩ x1).setCell ⟨g, 2, none⟩ x2).setCell ⟨g, 3, none⟩ x3).setCell ⟨g, 4, none⟩ x4).setCell ⟨g, 5, none⟩ x5) := by
  have t0 := Turned.refl w (fun b => b = g)
  have t1 := t0.set (g := g) rfl 0 x0
  replace hB : Blk _ g t #[x0, u1, u2, u3, u4, u5] := hB.set_ 0 x0
  have t2 := t1.set (g := g) rfl 1 x1
  replace hB : Blk _ g t #[x0, x1, u2, u3, u4, u5] := hB.set_ 1 x1
  have t3 := t2.set (g := g) rfl 2 x2
  replace hB : Blk _ g t #[x0, x1, x2, u3, u4, u5] := hB.set_ 2 x2
  have t4 := t3.set (g := g) rfl 3 x3
  replace hB : Blk _ g t #[x0, x1, x2, x3, u4, u5] := hB.set_ 3 x3
  have t5 := t4.set (g := g) rfl 4 x4
  replace hB : Blk _ g t #[x0, x1, x2, x3, x4, u5] := hB.set_ 4 x4
  have t6 := t5.set (g := g) rfl 5 x5
  replace hB : Blk _ g t #[x0, x1, x2, x3, x4, x5] := hB.set_ 5 x5
  exact h _ t6 hB
theorem at_st7 {K : World → Prop} {w : World} {g : Nat} {t : TypeId} {u0 u1 u2 u3 u4 u5 u6 : Value} (hB : Blk w g t #[u0, u1, u2, u3, u4, u5, u6]) (x0 x1 x2 x3 x4 x5 x6 : Value)
    (h : ∀ wy, Turned w wy (fun b => b = g) → Blk wy g t #[x0, x1, x2, x3, x4, x5, x6] → K wy) : K (((((((w.setCell ⟨g, 0, none⟩ x0).setCell ⟨g, 1, none⟩ x1).setCell ⟨g, 2, none⟩ x2).setCell ⟨g, 3, none⟩ x3).setCell ⟨g, 4, none⟩ x4).setCell ⟨g, 5, none⟩ x5).setCell ⟨g, 6, none⟩ x6) := by
  have t0 := Turned.refl w (fun b => b = g)
  have t1 := t0.set (g := g) rfl 0 x0
  replace hB : Blk _ g t #[x0, u1, u2, u3, u4, u5, u6] := hB.set_ 0 x0
  have t2 := t1.set (g := g) rfl 1 x1
  replace hB : Blk _ g t #[x0, x1, u2, u3, u4, u5, u6] := hB.set_ 1 x1
  have t3 := t2.set (g := g) rfl 2 x2
  replace hB : Blk _ g t #[x0, x1, x2, u3, u4, u5, u6] := hB.set_ 2 x2
  have t4 := t3.set (g := g) rfl 3 x3
  replace hB : Blk _ g t #[x0, x1, x2, x3, u4, u5, u6] := hB.set_ 3 x3
  have t5 := t4.set (g := g) rfl 4 x4
  replace hB : Blk _ g t #[x0, x1, x2, x3, x4, u5, u6] := hB.set_ 4 x4
  have t6 := t5.set (g := g) rfl 5 x5
  replace hB : Blk _ g t #[x0, x1, x2, x3, x4, x5, u6] := hB.set_ 5 x5
  have t7 := t6.set (g := g) rfl 6 x6
  replace hB : Blk _ g t #[x0, x1, x2, x3, x4, x5, x6] := hB.set_ 6 x6
  exact h _ t7 hB
theorem at_st8 {K : World → Prop} {w : World} {g : Nat} {t : TypeId} {u0 u1 u2 u3 u4 u5 u6 u7 : Value} (hB : Blk w g t #[u0, u1, u2, u3, u4, u5, u6, u7]) (x0 x1 x2 x3 x4 x5 x6 x7 : Value)
    (h : ∀ wy, Turned w wy (fun b => b = g) → Blk wy g t #[x0, x1, x2, x3, x4, x5, x6, x7] → K wy) : K ((((((((w.setCell ⟨g, 0, none⟩ x0).setCell ⟨g, 1, none⟩ x1).setCell ⟨g, 2, none⟩ x2).setCell ⟨g, 3, none⟩ x3).setCell ⟨g, 4, none⟩ x4).setCell ⟨g, 5, none⟩ x5).setCell ⟨g, 6, none⟩ x6).setCell ⟨g, 7, none⟩ x7) := by
  have t0 := Turned.refl w (fun b => b = g)
  have t1 := t0.set (g := g) rfl 0 x0
  replace hB : Blk _ g t #[x0, u1, u2, u3, u4, u5, u6, u7] := hB.set_ 0 x0
  have t2 := t1.set (g := g) rfl 1 x1
  replace hB : Blk _ g t #[x0, x1, u2, u3, u4, u5, u6, u7] := hB.set_ 1 x1
  have t3 := t2.set (g := g) rfl 2 x2
  replace hB : Blk _ g t #[x0, x1, x2, u3, u4, u5, u6, u7] := hB.set_ 2 x2
  have t4 := t3.set (g := g) rfl 3 x3
  replace hB : Blk _ g t #[x0, x1, x2, x3, u4, u5, u6, u7] := hB.set_ 3 x3
  have t5 := t4.set (g := g) rfl 4 x4
  replace hB : Blk _ g t #[x0, x1, x2, x3, x4, u5, u6, u7] := hB.set_ 4 x4
  have t6 := t5.set (g := g) rfl 5 x5
  replace hB : Blk _ g t #[x0, x1, x2, x3, x4, x5, u6, u7] := hB.set_ 5 x5
  have t7 := t6.set (g := g) rfl 6 x6
  replace hB : Blk _ g t #[x0, x1, x2, x3, x4, x5, x6, u7] := hB.set_ 6 x6
  have t8 := t7.set (g := g) rfl 7 x7
  replace hB : Blk _ g t #[x0, x1, x2, x3, x4, x5, x6, x7] := hB.set_ 7 x7
  exact h _ t8 hB
end Go.Proofs.YtlippmghgagdaaaGreat
