/- A world in which some blocks were written, and new ones made. Over any program. -/
import Derived.Test.YtpacjjaekmipfaaRep
import Derived.Test.YtpacjjaekmipfaaOwnR
import Derived.Test.YtpacjjaekmipfaaKn
namespace Go.Proofs.Ytpacjjaekmipfaa
open Go.RowKit

structure Turned (w w' : World) (S : Nat → Prop) : Prop where
  os : w'.os = w.os
  tape : w'.tape = w.tape
  output : w'.output = w.output
  size : w.heap.size ≤ w'.heap.size
  block : ∀ k, k < w.heap.size → ¬ S k → w'.heap[k]? = w.heap[k]?
section
variable {w w' w'' : World} {S S' : Nat → Prop} {K : Nat → Prop} {g : Nat} {t : TypeId} {cs : Array Value} {v : Value}
theorem Turned.refl (w : World) (S : Nat → Prop) : Turned w w S := ⟨rfl, rfl, rfl, Nat.le_refl _, fun _ _ _ => rfl⟩
theorem Turned.trans (h : Turned w w' S) (h' : Turned w' w'' S) : Turned w w'' S :=
  ⟨h'.os.trans h.os, h'.tape.trans h.tape, h'.output.trans h.output, Nat.le_trans h.size h'.size, fun k hk hs => (h'.block k (Nat.lt_of_lt_of_le hk h.size) hs).trans (h.block k hk hs)⟩
theorem Turned.mono (h : Turned w w' S) (hs : ∀ k, S k → S' k) : Turned w w' S' := ⟨h.os, h.tape, h.output, h.size, fun k hk hn => h.block k hk (fun h => hn (hs k h))⟩
theorem Turned.of (h : Below w.heap.size w w') : Turned w w' S := ⟨h.os, h.tape, h.output, h.size, fun k hk _ => h.block k hk⟩
theorem Turned.step (h : Turned w w' S) (hb : Below w'.heap.size w' w'') : Turned w w'' S := h.trans (Turned.of hb)
theorem Turned.alloc (h : Turned w w' S) (o : Obj) : Turned w (w'.alloc o) S := h.step ((Below.refl _ _).alloc (Nat.le_refl _) o)
theorem Turned.drew (h : Turned w w' S) : Turned w w'.drew S := h.step (Below.refl _ _).drew
theorem Turned.set (h : Turned w w' S) (hg : S g) (i : Nat) (u : Value) : Turned w (w'.setCell ⟨g, i, none⟩ u) S :=
  ⟨h.os, h.tape, h.output, by simpa [World.setCell] using h.size, fun k hk hn => (Below.heap_setCell _ _ _ _ (fun e => hn (by rw [show k = g from e]; exact hg))).trans (h.block k hk hn)⟩
/-- a block made since then is written -/
theorem Turned.set_new (h : Turned w w' S) (hg : w.heap.size ≤ g) (i : Nat) (u : Value) : Turned w (w'.setCell ⟨g, i, none⟩ u) S :=
  ⟨h.os, h.tape, h.output, by simpa [World.setCell] using h.size, fun k hk hn => (Below.heap_setCell _ _ _ _ (fun e => by have : k = g := e; omega)).trans (h.block k hk hn)⟩
theorem Turned.below {B : Nat} (h : Turned w w' S) (hS : ∀ k, S k → B ≤ k) (hB : B ≤ w.heap.size) : Below B w w' :=
  ⟨h.os, h.tape, h.output, h.size, fun k hk => h.block k (by omega) (fun hs => by have := hS k hs; omega)⟩
theorem Turned.cells (h : Turned w w' S) (hK : ∀ b, K b → ¬ S b) : ∀ p : Addr, K p.block → p.block < w.heap.size → w'.cell? p = w.cell? p := fun p hp hl => World.cell?_of_block (h.block p.block hl (hK _ hp))
theorem IsB.turned {l : List UInt8} (h : IsB w K v l) (ht : Turned w w' S) (hK : ∀ b, K b → ¬ S b) : IsB w' K v l := h.keep (ht.cells hK)
theorem IsL.turned {α : Type} {R : Rp α} {l : List α} (h : IsL R w K v l) (ht : Turned w w' S) (hK : ∀ b, K b → ¬ S b) : IsL R w' K v l := h.keep (ht.cells hK)
theorem CellsL.turned {α : Type} {R : Rp α} {l : List α} {c : List Value} (h : CellsL R w K c l) (ht : Turned w w' S) (hK : ∀ b, K b → ¬ S b) : CellsL R w' K c l := h.keep (ht.cells hK)
theorem Blk.turned (h : Blk w g t cs) (ht : Turned w w' S) (hg : ¬ S g) : Blk w' g t cs := (ht.block g h.lt hg).trans h
end
end Go.Proofs.Ytpacjjaekmipfaa
