/- A device among the arguments. -/
import Derived.Test.YtcjmcfjjbicimaaZnsPlain2
namespace Go.Proofs.Ytcjmcfjjbicimaa
open Go.RowKit Go.WideShapes Go.ChangeShapes Go.Deep

theorem open_zns_arg {H : Type} {enc : TypeId × Value → H} {w : World} {base : Nat} {v : Value} {d : DataW H} {p : List MemPlace} (hv : Value.okWide Try.prog w .any base 53 v) (h : DataW.Trod enc Try.prog w 0 (fun _ => true) true 53 v d p) (hs : Small Try.prog 53 d) :
    ∃ o, IsD w v o := by
  obtain ⟨cs, rfl, _⟩ := okWide_struct Try.underlying53 hv
  obtain ⟨fuel, hf⟩ := h
  obtain ⟨o, vz, hcs, hL, _⟩ := open_zns hf hs
  have hL0 := hL
  obtain ⟨A, c, rfl, _⟩ := hL.form
  refine ⟨o, A, c, ?_, hL0.more fun _ _ => trivial⟩
  congr 1
  apply Array.toList_inj.1
  simpa [Value.cells] using hcs
end Go.Proofs.Ytcjmcfjjbicimaa
