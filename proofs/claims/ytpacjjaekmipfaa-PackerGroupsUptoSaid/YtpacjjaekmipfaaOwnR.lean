/- A row of the call's own whose elements point to blocks that are let (X), none of them the row's own. Over any program. -/
import Derived.Test.YtpacjjaekmipfaaRep
namespace Go.Proofs.Ytpacjjaekmipfaa
open Go.RowKit

def OwnR {α : Type} (R : Rp α) (w : World) (base : Nat) (e : TypeId) (X : Nat → Prop) (v : Value) (l : List α) : Prop :=
  ∃ A c cs, v = .slice A l.length c ∧ w.ownsRow base e R.size (.slice A l.length c) l.length cs ∧ CellsL R w (fun b => X b ∧ b < w.heap.size ∧ some b ≠ (Value.slice A l.length c).ownBlock) cs l

section
variable {α : Type} {R : Rp α} {w w' : World} {base : Nat} {e t : TypeId} {X X' : Nat → Prop} {v : Value} {l : List α} {a : α}
theorem OwnR.nil_ (w : World) (base : Nat) (e : TypeId) (X : Nat → Prop) : OwnR R w base e X (.slice none 0 0) [] := ⟨none, 0, [], rfl, World.ownsRow_nil _ _ _ _, rfl⟩
theorem OwnR.step (h : OwnR R w base e X v l) (hb : Below w.heap.size w w') : OwnR R w' base e X v l := by
  obtain ⟨A, c, cs, rfl, h1, h2⟩ := h
  exact ⟨A, c, cs, rfl, own_below h1 hb (Nat.le_refl _), (h2.step hb).more fun b hb' => ⟨hb'.1, by have := hb.size; omega, hb'.2.2⟩⟩
theorem OwnR.more (h : OwnR R w base e X v l) (hX : ∀ b, X b → b < w.heap.size → X' b) : OwnR R w base e X' v l := by
  obtain ⟨A, c, cs, rfl, h1, h2⟩ := h
  exact ⟨A, c, cs, rfl, h1, h2.more fun b hb => ⟨hX b hb.1 hb.2.1, hb.2⟩⟩
theorem OwnR.lower {base' : Nat} (h : OwnR R w base e X v l) (hb : base' ≤ base) : OwnR R w base' e X v l := by
  obtain ⟨A, c, cs, rfl, h1, h2⟩ := h; exact ⟨A, c, cs, rfl, own_base h1 hb, h2⟩
theorem OwnR.form (h : OwnR R w base e X v l) : ∃ A c, v = .slice A l.length c ∧ l.length ≤ c ∧ c ≤ 9223372036854775807 := by
  obtain ⟨A, c, cs, rfl, h1, h2⟩ := h; exact ⟨A, c, rfl, own_cap h1, own_cap63 h1⟩
/-- opened at a slice's own parts -/
theorem OwnR.open_ {A : Option Addr} {n c : Nat} (h : OwnR R w base e X (.slice A n c) l) : n = l.length ∧ ∃ cs, w.ownsRow base e R.size (.slice A l.length c) l.length cs ∧ CellsL R w (fun b => X b ∧ b < w.heap.size ∧ some b ≠ (Value.slice A l.length c).ownBlock) cs l := by
  obtain ⟨A', c', cs, hv, h1, h2⟩ := h
  injection hv with e1 e2 e3
  subst e1 e3
  exact ⟨e2, cs, h1, h2⟩
/-- another block is written, that is let by neither -/
theorem OwnR.far (h : OwnR R w base e X v l) {g : Nat} {cs' : Array Value} (hB : Blk w g t cs') (hne : e ≠ t) (hX : ¬ X g) (i : Nat) (u : Value) : OwnR R (w.setCell ⟨g, i, none⟩ u) base e X v l := by
  obtain ⟨A, c, cs, rfl, h1, h2⟩ := h
  refine ⟨A, c, cs, rfl, ?_, ?_⟩
  · refine ⟨h1.1, ?_⟩
    rcases h1.2 with h3 | ⟨g', cap, cur, hv, hg, hh, r⟩
    · exact .inl h3
    · have hgg : g' ≠ g := Blk.ne_ (t := e) hh hB hne
      exact .inr ⟨g', cap, cur, hv, hg, by rw [Below.heap_setCell _ _ _ _ (by simpa using hgg)]; exact hh, r⟩
  · refine (h2.keep (w' := w.setCell ⟨g, i, none⟩ u) fun p hp _ => World.cell?_setCell_other _ _ _ _ (fun e => ?_)).more fun b hb => ⟨hb.1, by simpa [World.setCell] using hb.2.1, hb.2.2⟩
    exact hX (by rw [show g = p.block from congrArg Addr.block e]; exact hp.1)
theorem OwnR.isL (h : OwnR R w base e X v l) (hl : l.length ≤ 140737488355328) (hX : ∀ b, base ≤ b → X' b) (hX2 : ∀ b, X b → X' b) : IsL R w X' v l := by
  obtain ⟨A, c, cs, rfl, h1, h2⟩ := h
  exact ⟨A, c, cs, rfl, (Reads.of_own_ge h1).more hX, h2.more fun b hb => hX2 b hb.1, own_cap h1, own_cap63 h1, hl⟩
/-- one more element behind -/
theorem OwnR.push {A A' : Option Addr} {c c' : Nat} {cs news : List Value} (h2 : CellsL R w (fun b => X b ∧ b < w.heap.size ∧ some b ≠ (Value.slice A l.length c).ownBlock) cs l)
    (h3 : R.is w (fun b => X b ∧ b < w.heap.size ∧ some b ≠ (Value.slice A l.length c).ownBlock) news a)
    (h4 : w'.ownsRow base e R.size (.slice A' (l.length + 1) c') (l.length + 1) (cs ++ news)) (hg : Grew base w w' (.slice A l.length c) (.slice A' (l.length + 1) c')) :
    OwnR R w' base e X (.slice A' (l.length + 1) c') (l ++ [a]) := by
  have hlen : (l ++ [a]).length = l.length + 1 := by simp
  refine ⟨A', c', cs ++ news, by rw [hlen], by rw [hlen]; exact h4, ?_⟩
  rw [hlen]
  refine ((h2.snoc h3).keep (w' := w') fun p hp hl => World.cell?_of_block (hg.grown.block p.block hl hp.2.2)).more fun b hb => ⟨hb.1, by have := hg.grown.size; omega, ?_⟩
  rcases hg.at_ with h5 | ⟨g, h5, h6⟩
  · rw [h5]; exact hb.2.2
  · rw [h5]
    intro e
    injection e with e
    have := hb.2.1
    omega
end
end Go.Proofs.Ytpacjjaekmipfaa
