/- Bytes among the arguments, opened. -/
import Derived.Test.YtpacjjaekmipfaaRows
import Derived.Test.YtpacjjaekmipfaaOpen
import Derived.Lib.SmallJoins
namespace Go.Proofs.Ytpacjjaekmipfaa
open Go.RowKit Go.WideShapes Go.ChangeShapes Go.Deep Go.Joins

theorem Try.cB : Try.prog.cellsOf 27 = 1 := by kernel_rfl
theorem Try.cb : Try.prog.cellsOf 5 = 1 := by kernel_rfl
theorem Try.bb : Try.prog.bytesOf 5 = 1 := by kernel_rfl
theorem Try.ci : Try.prog.cellsOf 3 = 1 := by kernel_rfl

section
variable {H : Type} {enc : TypeId × Value → H} {w : World}

set_option maxRecDepth 100000 in
theorem open_bytes_arg {base : Nat} {v : Value} {d : DataW H} {p : List MemPlace} (hv : Value.okWide Try.prog w .any base 27 v) (h : DataW.Trod enc Try.prog w 0 (fun _ => true) true 27 v d p) (hs : Small Try.prog 27 d) :
    ∃ l, IsB w (· < w.heap.size) v l := by
  obtain ⟨A, n, c, rfl⟩ := okWide_slice Try.underlying27 hv
  obtain ⟨fuel, hf⟩ := h
  obtain ⟨v', l, hcs, hB⟩ := open_bytes Try.underlying27 Try.underlying5 Try.cb Try.bb hf hs
  have : Value.slice A n c = v' := by simpa [Value.cells] using hcs
  rw [this]
  exact ⟨l, hB⟩
end
end Go.Proofs.Ytpacjjaekmipfaa
