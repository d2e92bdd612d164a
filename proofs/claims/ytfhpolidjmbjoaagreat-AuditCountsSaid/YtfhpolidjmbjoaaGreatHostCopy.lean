/- A part of the proof. -/
import Derived.Test.YtfhpolidjmbjoaaGreatHostRep
namespace Go.Proofs.YtfhpolidjmbjoaaGreat
open Go.RowKit
theorem at_set {K:World→Prop} {w:World} {g:Nat} {t:TypeId} {cs:Array Value} (hB:Blk w g t cs) (i:Nat) (u:Value)
 (h:∀ wy,wy.heap.size=w.heap.size→Turned w wy (fun b=>b=g)→Blk wy g t (cs.setIfInBounds i u)→K wy):K (w.setCell ⟨g,i,none⟩ u):=
 h _ (by simp) ((Turned.refl w (fun b=>b=g)).set (g:=g) rfl i u) (hB.set_ i u)
end Go.Proofs.YtfhpolidjmbjoaaGreat
