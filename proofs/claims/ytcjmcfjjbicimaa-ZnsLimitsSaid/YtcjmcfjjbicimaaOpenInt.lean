/- A slice of ints among the arguments. -/
import Derived.Test.YtcjmcfjjbicimaaOpenB
import Derived.Test.YtcjmcfjjbicimaaOpenG
namespace Go.Proofs.Ytcjmcfjjbicimaa
open Go.RowKit Go.WideShapes Go.ChangeShapes Go.Deep

theorem Try.cL_int : Try.prog.cellsOf 27 = 1 := by kernel_rfl
theorem Try.bytes_int : Try.prog.bytesOf 3 = 8 := by kernel_rfl
set_option maxRecDepth 100000 in
theorem open_L_int {H : Type} {enc : TypeId × Value → H} {w : World} {n : Nat} {cs : List Value} {x : DataW H × List MemPlace} (h : DataW.trod enc Try.prog w 0 (fun _ => true) true n 27 cs = some x) (hs : Small Try.prog 27 x.1) :
    ∃ v l, cs = [v] ∧ IsL Rp.int w (· < w.heap.size) v l ∧ l.length * 8 ≤ 140737488351232 := by
  obtain ⟨v, l, e, hL, hb⟩ := open_list Rp.int Try.underlying27 Try.ci (by rw [Try.bytes_int]; decide) (by decide) h hs fun _ _ _ h s => by obtain ⟨a, e, _, w⟩ := DataW.trod_int Try.underlying3 h; have b := bounds_i64 w; exact ⟨a, e, b.1, b.2⟩
  rw [Try.bytes_int] at hb
  exact ⟨v, l, e, hL, hb⟩
set_option maxRecDepth 100000 in
theorem open_LA_int {H : Type} {enc : TypeId × Value → H} {w : World} {base : Nat} {v : Value} {d : DataW H} {p : List MemPlace} (hv : Value.okWide Try.prog w .any base 27 v) (h : DataW.Trod enc Try.prog w 0 (fun _ => true) true 27 v d p) (hs : Small Try.prog 27 d) :
    ∃ l, IsL Rp.int w (· < w.heap.size) v l ∧ l.length * 8 ≤ 140737488351232 := by
  obtain ⟨A, n, c, rfl⟩ := okWide_slice Try.underlying27 hv
  obtain ⟨fuel, hf⟩ := h
  obtain ⟨v', l, hcs, hB⟩ := open_L_int hf hs
  have : Value.slice A n c = v' := by simpa [Value.cells] using hcs
  rw [this]
  exact ⟨l, hB⟩
end Go.Proofs.Ytcjmcfjjbicimaa
