/- A device among the arguments; small devices and commands. -/
import Derived.Test.YtcjmcfjjbicimaaZnsUsed
namespace Go.Proofs.Ytcjmcfjjbicimaa
open Go.RowKit Go.WideShapes Go.ChangeShapes Go.Deep

theorem open_zns_arg {H : Type} {enc : TypeId × Value → H} {w : World} {base : Nat} {v : Value} {d : DataW H} {p : List MemPlace} (hv : Value.okWide Try.prog w .any base 53 v) (h : DataW.Trod enc Try.prog w 0 (fun _ => true) true 53 v d p) (hs : Small Try.prog 53 d) :
    ∃ o, IsD w v o := by
  obtain ⟨cs, rfl, _⟩ := okWide_struct Try.underlying53 hv
  obtain ⟨fuel, hf⟩ := h
  obtain ⟨o, vz, hcs, hL, _⟩ := open_zns hf hs
  have hL0 := hL
  obtain ⟨A, c, rfl, _⟩ := hL.form
  refine ⟨o, A, c, ?_, hL0.more fun _ _ => trivial⟩
  congr 1
  apply Array.toList_inj.1
  simpa [Value.cells] using hcs
theorem CellsL.clt {w : World} {K : Nat → Prop} : ∀ {l : List Cm} {cs : List Value}, CellsL Rp.cmd w K cs l → CellsL Rp.cmd w (fun b => K b ∧ b < w.heap.size) cs l
  | [], _, h => h
  | _ :: _, _, ⟨c1, c2, e, ⟨v, e1, h1, h1'⟩, h2⟩ => ⟨c1, c2, e, ⟨v, e1, h1.lt, h1'⟩, h2.clt⟩
theorem IsL.clt {w : World} {K : Nat → Prop} {v : Value} {l : List Cm} (h : IsL Rp.cmd w K v l) : IsL Rp.cmd w (fun b => K b ∧ b < w.heap.size) v l := by
  obtain ⟨A, c, cs, e, h1, h2, h3⟩ := h; exact ⟨A, c, cs, e, h1.lt (by show 0 < 6; omega), h2.clt, h3⟩
theorem fewB_true {d : Zd} {l : List Cm} (h : fewB d l = true) : d.z.length < 200 ∧ l.length < 200 := by
  unfold fewB at h
  simp only [Bool.and_eq_true, decide_eq_true_eq] at h
  exact ⟨h.1.2, h.2⟩

end Go.Proofs.Ytcjmcfjjbicimaa
