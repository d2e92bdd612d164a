/- What is known at a place, laid anew behind a store. Over any program. -/
import Derived.Test.YtpacjjaekmipfaaRep
import Derived.Test.YtpacjjaekmipfaaMs
import Derived.Test.YtpacjjaekmipfaaOwnR
namespace Go.Proofs.Ytpacjjaekmipfaa
open Go.RowKit

section
variable {B : Nat} {w0 w w' : World} {bs : List (Nat × TypeId × Array Value)} {fs : List (World → Prop)} {g : Nat} {t : TypeId} {cs : Array Value} {K : Nat → Prop} {v : Value}
theorem Kn.from_ (hb : Below B w0 w) (hB : B ≤ w.heap.size) : Kn B w0 w [] [] := ⟨hb, hB, by simp, by simp⟩
theorem Kn.know (h : Kn B w0 w bs fs) (hk : Blk w g t cs) : Kn B w0 w ((g, t, cs) :: bs) fs :=
  ⟨h.below, h.base, fun p hp => by rcases List.mem_cons.1 hp with rfl | hp; exact hk; exact h.blk p hp, h.fact⟩
theorem IsL.far {α : Type} {R : Rp α} {l : List α} (h : IsL R w K v l) (hX : ¬ K g) (i : Nat) (u : Value) : IsL R (w.setCell ⟨g, i, none⟩ u) K v l :=
  h.keep fun p hp _ => World.cell?_setCell_other _ _ _ _ (fun e => hX (by rw [show g = p.block from congrArg Addr.block e]; exact hp))
theorem IsB.far {l : List UInt8} (h : IsB w K v l) (hX : ¬ K g) (i : Nat) (u : Value) : IsB (w.setCell ⟨g, i, none⟩ u) K v l :=
  h.keep fun p hp _ => World.cell?_setCell_other _ _ _ _ (fun e => hX (by rw [show g = p.block from congrArg Addr.block e]; exact hp))
theorem IsL.far2 {α : Type} {R : Rp α} {l : List α} (h : IsL R w K v l) (hX : ¬ K g) (x y : Value) : IsL R ((w.setCell ⟨g, 0, none⟩ x).setCell ⟨g, 1, none⟩ y) K v l := (h.far hX _ _).far hX _ _
theorem IsB.far2 {l : List UInt8} (h : IsB w K v l) (hX : ¬ K g) (x y : Value) : IsB ((w.setCell ⟨g, 0, none⟩ x).setCell ⟨g, 1, none⟩ y) K v l := (h.far hX _ _).far hX _ _
theorem OwnR.isLt {α : Type} {R : Rp α} {base : Nat} {e : TypeId} {X X' : Nat → Prop} {l : List α} (h : OwnR R w base e X v l) (hl : l.length ≤ 140737488355328) (hX : ∀ b, b < w.heap.size → base ≤ b → X' b) (hX2 : ∀ b, b < w.heap.size → X b → X' b) : IsL R w X' v l := by
  obtain ⟨A, c, cs, rfl, h1, h2⟩ := h
  exact ⟨A, c, cs, rfl, (Reads.of_own h1).more fun b hb => hX b (h1.lt b hb.symm).2 (h1.lt b hb.symm).1, h2.more fun b hb => hX2 b hb.2.1 hb.1, own_cap h1, own_cap63 h1, hl⟩
theorem Blk.set2 {a b x y : Value} (h : Blk w g t #[a, b]) : Blk ((w.setCell ⟨g, 0, none⟩ x).setCell ⟨g, 1, none⟩ y) g t #[x, y] := (h.set_ 0 x).set_ 1 y
theorem Blk.far2 {g' : Nat} {x y : Value} (h : Blk w g t cs) (hne : g ≠ g') : Blk ((w.setCell ⟨g', 0, none⟩ x).setCell ⟨g', 1, none⟩ y) g t cs := (h.far (p := ⟨g', 0, none⟩) hne x).far (p := ⟨g', 1, none⟩) hne y
theorem below_set2 {x y : Value} (h : Below B w0 w) (hg : B ≤ g) : Below B w0 ((w.setCell ⟨g, 0, none⟩ x).setCell ⟨g, 1, none⟩ y) := (h.setCell hg _).setCell hg _
theorem size_set2 {x y : Value} : ((w.setCell ⟨g, 0, none⟩ x).setCell ⟨g, 1, none⟩ y).heap.size = w.heap.size := by simp [World.setCell]
end
end Go.Proofs.Ytpacjjaekmipfaa
