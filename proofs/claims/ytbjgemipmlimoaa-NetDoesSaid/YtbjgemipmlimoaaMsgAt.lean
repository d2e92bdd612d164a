/- A message among several: its cells. Over any program. -/
import Derived.Test.YtbjgemipmlimoaaNetOwn
import Derived.Test.YtbjgemipmlimoaaRep
namespace Go.Proofs.Ytbjgemipmlimoaa
open Go.RowKit

/-- the six cells at a -/
abbrev MsgAt (W : World) (a : Addr) (m : Ms) (A1 : Option Addr) (c1 : Nat) (A2 : Option Addr) (c2 : Nat) : Prop :=
  W.cell? a = some (.int .i64 m.kind) ∧ W.cell? ⟨a.block, a.off + 1, none⟩ = some (.int .i64 m.frm) ∧ W.cell? ⟨a.block, a.off + 2, none⟩ = some (.int .i64 m.to) ∧
    W.cell? ⟨a.block, a.off + 3, none⟩ = some (.int .i64 m.id) ∧ W.cell? ⟨a.block, a.off + 4, none⟩ = some (.slice A1 m.args.length c1) ∧ W.cell? ⟨a.block, a.off + 5, none⟩ = some (.slice A2 m.data.length c2)
theorem MsgAt.step {w W : World} {a : Addr} {m : Ms} {A1 : Option Addr} {c1 : Nat} {A2 : Option Addr} {c2 : Nat} (h : MsgAt w a m A1 c1 A2 c2) (hb : Below w.heap.size w W) : MsgAt W a m A1 c1 A2 c2 := by
  obtain ⟨h0, h1, h2, h3, h4, h5⟩ := h
  exact ⟨(hb.cell (World.block_lt_of_cell? w _ h0)).trans h0, (hb.cell (World.block_lt_of_cell? w _ h1)).trans h1, (hb.cell (World.block_lt_of_cell? w _ h2)).trans h2, (hb.cell (World.block_lt_of_cell? w _ h3)).trans h3, (hb.cell (World.block_lt_of_cell? w _ h4)).trans h4, (hb.cell (World.block_lt_of_cell? w _ h5)).trans h5⟩
theorem Stable.msgAt {a : Addr} {m : Ms} {A1 : Option Addr} {c1 : Nat} {A2 : Option Addr} {c2 : Nat} : Stable (fun w => MsgAt w a m A1 c1 A2 c2) := fun _ _ h hb => h.step hb

/-- a message's cells in a block of their own, as a slice -/
def RdC (w : World) (g : Nat) (cs : List Value) : Prop := Reads w (fun b => b = g) 6 (some ⟨g, 0, none⟩) 1 cs
theorem RdC.new {w : World} {t : TypeId} {cs : List Value} (h : cs.length = 6) : RdC (w.alloc (.cells cs.toArray t)) w.heap.size cs := Reads.new rfl (by simp) (by simpa using h)
theorem RdC.grown {w w' : World} {g : Nat} {cs : List Value} {row : Option Nat} (h : RdC w g cs) (hg : w.grownBy w' row) (hne : some g ≠ row) : RdC w' g cs :=
  Reads.grown h hg (fun b hb _ => by rw [show b = g from hb]; exact hne)
theorem cellsM_one {m : Ms} {A1 : Option Addr} {c1 : Nat} {A2 : Option Addr} {c2 : Nat} : ∀ u ∈ cellsM m A1 c1 A2 c2, u.oneCell' = true := by
  intro u hu; simp [cellsM] at hu; rcases hu with rfl | rfl | rfl | rfl | rfl | rfl <;> rfl

theorem isM_cells {w : World} {K : Nat → Prop} {m : Ms} {A1 : Option Addr} {c1 : Nat} {A2 : Option Addr} {c2 : Nat} (h : IsM w K (mv m A1 c1 A2 c2) m) : Rp.msg.is w K (cellsM m A1 c1 A2 c2) m := by
  obtain ⟨B1, d1, B2, d2, e, hr⟩ := isM_rp h
  unfold mv at e
  simp only [Value.agg.injEq, Array.mk.injEq, List.cons.injEq, Value.slice.injEq, true_and, and_true] at e
  obtain ⟨⟨rfl, rfl⟩, rfl, rfl⟩ := e
  exact hr

/-- a message appended to a row whose elements point to what X lets, all ahead of the row -/
theorem OwnR.put {w w' : World} {base : Nat} {X : Nat → Prop} {A A' : Option Addr} {c c' n : Nat} {cs : List Value} {l : List Ms} {m : Ms} {A1 : Option Addr} {c1 : Nat} {A2 : Option Addr} {c2 : Nat} {o : Obj} {t : TypeId} (hn : l.length = n)
    (hcl : CellsL Rp.msg w (fun b => X b ∧ b < w.heap.size ∧ some b ≠ (Value.slice A n c).ownBlock) cs l) (him : IsM w (fun b => X b ∧ b < w.heap.size ∧ some b ≠ (Value.slice A n c).ownBlock) (mv m A1 c1 A2 c2) m)
    (hown : w'.ownsRow base t 6 (.slice A' (n + 1) c') (n + 1) (cs ++ cellsM m A1 c1 A2 c2)) (hg : Grew base (w.alloc o) w' (.slice A n c) (.slice A' (n + 1) c')) :
    OwnR Rp.msg w' base t X (.slice A' (n + 1) c') (l ++ [m]) := by
  subst hn
  have hs : ∀ b, (X b ∧ b < w.heap.size ∧ some b ≠ (Value.slice A l.length c).ownBlock) → (X b ∧ b < (w.alloc o).heap.size ∧ some b ≠ (Value.slice A l.length c).ownBlock) := fun b hb => ⟨hb.1, by simp; omega, hb.2.2⟩
  exact OwnR.push ((hcl.alloc o).more hs) (Rp.msg.more (Rp.alloc (isM_cells him) o) hs) hown hg

theorem IsL.msg_at {w : World} {K : Nat → Prop} {A : Option Addr} {n c : Nat} {l : List Ms} (h : IsL Rp.msg w K (.slice A n c) l) {j : Nat} {m : Ms} (hm : l[j]? = some m) :
    ∃ ad A1 c1 A2 c2, A = some ad ∧ ad.block < w.heap.size ∧ IsM w K (mv m A1 c1 A2 c2) m ∧ MsgAt w (ad.add (j * 6)) m A1 c1 A2 c2 := by
  obtain ⟨ad, es, rfl, _, hes, hcell⟩ := h.at_ hm
  obtain ⟨A1, c1, A2, c2, rfl, him⟩ := rp_isM hes
  unfold cellsM at hcell
  have h0 : w.cell? (ad.add (j * 6)) = some (.int .i64 m.kind) := by rw [← addr0 (ad.add (j * 6))]; exact hcell 0 _ rfl
  have hlt := World.block_lt_of_cell? w _ h0
  rw [block_of_add] at hlt
  refine ⟨ad, A1, c1, A2, c2, rfl, hlt, him, h0, ?_, ?_, ?_, ?_, ?_⟩
  · rw [← addrS _ 1 (by decide)]; exact hcell 1 _ rfl
  · rw [← addrS _ 2 (by decide)]; exact hcell 2 _ rfl
  · rw [← addrS _ 3 (by decide)]; exact hcell 3 _ rfl
  · rw [← addrS _ 4 (by decide)]; exact hcell 4 _ rfl
  · rw [← addrS _ 5 (by decide)]; exact hcell 5 _ rfl
end Go.Proofs.Ytbjgemipmlimoaa
