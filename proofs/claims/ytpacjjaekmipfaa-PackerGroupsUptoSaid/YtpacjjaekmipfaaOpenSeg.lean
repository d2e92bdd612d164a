/- A header, a record among the arguments. -/
import Derived.Test.YtpacjjaekmipfaaSegHead
import Derived.Test.YtpacjjaekmipfaaPackAdd1
namespace Go.Proofs.Ytpacjjaekmipfaa
open Go.RowKit Go.WideShapes Go.ChangeShapes Go.Deep

set_option maxRecDepth 100000 in
theorem open_hd_arg {H : Type} {enc : TypeId × Value → H} {w : World} {base : Nat} {v : Value} {d : DataW H} {p : List MemPlace} (hv : Value.okWide Try.prog w .any base 23 v) (h : DataW.Trod enc Try.prog w 0 (fun _ => true) true 23 v d p) (hs : Small Try.prog 23 d) :
    ∃ z, v = hdV z ∧ OkHd z := by
  obtain ⟨cs, rfl, _⟩ := okWide_struct Try.underlying23 hv
  obtain ⟨fuel, hf⟩ := h
  obtain ⟨z, hcs, r⟩ := open_hd hf hs
  refine ⟨z, ?_, r⟩
  unfold hdV
  congr 1
  apply Array.toList_inj.1
  simpa [Value.cells] using hcs
set_option maxRecDepth 100000 in
theorem open_rc_arg {H : Type} {enc : TypeId × Value → H} {w : World} {base : Nat} {v : Value} {d : DataW H} {p : List MemPlace} (hv : Value.okWide Try.prog w .any base 34 v) (h : DataW.Trod enc Try.prog w 0 (fun _ => true) true 34 v d p) (hs : Small Try.prog 34 d) :
    ∃ z vd, v = rcV z vd ∧ IsB w (· < w.heap.size) vd z.data ∧ OkRc z := by
  obtain ⟨cs, rfl, _⟩ := okWide_struct Try.underlying34 hv
  obtain ⟨fuel, hf⟩ := h
  obtain ⟨z, hz⟩ := open_rc hf hs
  have hok := rc_ok hz
  obtain ⟨vd, hcs, hB, _⟩ := hz
  have hB0 := hB
  obtain ⟨A2, c2, rfl, _⟩ := hB
  refine ⟨z, _, ?_, hB0, hok⟩
  unfold rcV
  congr 1
  apply Array.toList_inj.1
  simpa [Value.cells] using hcs
end Go.Proofs.Ytpacjjaekmipfaa
