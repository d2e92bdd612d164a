/- A cell of the call's own row written. Over any program. -/
import Derived.Test.YtpacjjaekmipfaaRep
namespace Go.Proofs.Ytpacjjaekmipfaa
open Go.RowKit

theorem own_set {w : World} {base g : Nat} {e : TypeId} {n c : Nat} {xs : List Value} (h : w.ownsRow base e 1 (.slice (some ⟨g, 0, none⟩) n c) n xs) (i : Nat) (u : Value) :
    (w.setCell ⟨g, i, none⟩ u).ownsRow base e 1 (.slice (some ⟨g, 0, none⟩) n c) n (xs.set i u) := by
  refine ⟨by rw [List.length_set]; exact h.1, ?_⟩
  rcases h.2 with ⟨h2, _⟩ | ⟨g', cap, cur, hv, hg, hh, h3, h4, h5, h6⟩
  · cases h2
  · injection hv with e1 e2 e3
    injection e1 with e1
    injection e1 with e1 _ _
    subst e1 e3
    refine .inr ⟨g, c, cur.setIfInBounds i u, rfl, hg, ?_, h3, h4, by simpa using h5, ?_⟩
    · simp [World.setCell, Array.getElem?_modify, hh]
    · rw [← h6, Array.toList_setIfInBounds]
      rw [List.take_set]

/-- all cells are bytes -/
def U8s (xs : List Value) : Prop := ∀ u ∈ xs, ∃ n : Int, u = .int .u8 n
theorem U8s.cells (l : List UInt8) : U8s (cells8 l) := by
  intro u hu
  simp only [cells8, List.mem_map] at hu
  obtain ⟨c, _, rfl⟩ := hu
  exact ⟨_, rfl⟩
theorem U8s.set {xs : List Value} (h : U8s xs) (i : Nat) (n : Int) : U8s (xs.set i (.int .u8 n)) := by
  intro u hu
  rcases List.mem_or_eq_of_mem_set hu with h1 | h1
  · exact h u h1
  · exact ⟨n, h1⟩
/-- a row of bytes of the call's own -/
def OwnU (w : World) (base : Nat) (e : TypeId) (A : Option Addr) (n c : Nat) : Prop := ∃ xs, U8s xs ∧ w.ownsRow base e 1 (.slice A n c) n xs
section
variable {w w' : World} {base : Nat} {e t : TypeId} {A : Option Addr} {n c g : Nat}
theorem OwnU.of {l : List UInt8} (h : w.ownsRow base e 1 (.slice A n c) n (cells8 l)) : OwnU w base e A n c := ⟨_, U8s.cells l, h⟩
theorem OwnU.step (h : OwnU w base e A n c) (hb : Below w.heap.size w w') : OwnU w' base e A n c := by
  obtain ⟨xs, h1, h2⟩ := h; exact ⟨xs, h1, own_below h2 hb (Nat.le_refl _)⟩
theorem OwnU.at_ {i : Nat} (h : OwnU w base e A n c) (hi : i < n) : ∃ g m, A = some ⟨g, 0, none⟩ ∧ base ≤ g ∧ g < w.heap.size ∧ w.cell? ⟨g, i, none⟩ = some (.int .u8 m) ∧ w.frozen? ⟨g, i, none⟩ = false := by
  obtain ⟨xs, h1, h2⟩ := h
  have hl : i < xs.length := by have := h2.1; omega
  obtain ⟨m, hm⟩ := h1 _ (List.getElem_mem hl)
  rcases h2.2 with ⟨_, h3⟩ | ⟨g, cap, cur, hv, hg, hh, h3, h4, h5, h6⟩
  · omega
  · injection hv with e1 e2 e3
    refine ⟨g, m, e1, hg, (Array.getElem?_eq_some_iff.1 hh).1, ?_, by simp [World.frozen?, hh]⟩
    rw [cell_of_row _ g i cur e (0, 0) hh]
    have : xs[i]? = some (.int .u8 m) := by rw [List.getElem?_eq_getElem hl, hm]
    rw [← h6, List.getElem?_take] at this
    split at this
    · simpa using this
    · cases this
theorem OwnU.set {i : Nat} (h : OwnU w base e (some ⟨g, 0, none⟩) n c) (m : Int) : OwnU (w.setCell ⟨g, i, none⟩ (.int .u8 m)) base e (some ⟨g, 0, none⟩) n c := by
  obtain ⟨xs, h1, h2⟩ := h; exact ⟨_, h1.set i m, own_set h2 i _⟩
theorem OwnU.far {p : Addr} (h : OwnU w base e A n c) (hp : p.block < base) (u : Value) : OwnU (w.setCell p u) base e A n c := by
  obtain ⟨xs, h1, h2⟩ := h; exact ⟨xs, h1, ownsRow_setCell_below h2 hp u⟩
theorem OwnU.blk {cs : Array Value} (h : OwnU w base e (some ⟨g, 0, none⟩) n c) {g' : Nat} (hB : Blk w g' t cs) (hne : e ≠ t) (i : Nat) (u : Value) : Blk (w.setCell ⟨g, i, none⟩ u) g' t cs := by
  obtain ⟨xs, h1, h2⟩ := h
  exact hB.far (p := ⟨g, i, none⟩) (fun e => own_blk_ne h2 hB hne (by show some g = _; rw [e])) u
theorem OwnU.lt (h : OwnU w base e (some ⟨g, 0, none⟩) n c) : base ≤ g ∧ g < w.heap.size := by
  obtain ⟨xs, h1, h2⟩ := h
  exact h2.lt g rfl
end

end Go.Proofs.Ytpacjjaekmipfaa
