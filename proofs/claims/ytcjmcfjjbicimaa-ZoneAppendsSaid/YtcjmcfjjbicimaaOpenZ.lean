/- A zone, bytes, zones among the arguments, opened. -/
import Derived.Test.YtcjmcfjjbicimaaRows
import Derived.Test.YtcjmcfjjbicimaaOpenB
import Derived.Test.YtcjmcfjjbicimaaZonePlain
import Derived.Lib.SmallJoins
namespace Go.Proofs.Ytcjmcfjjbicimaa
open Go.RowKit Go.WideShapes Go.ChangeShapes Go.Deep Go.Joins

theorem Try.cZ : Try.prog.cellsOf 26 = 3 := by kernel_rfl

section
variable {H : Type} {enc : TypeId × Value → H} {w : World}

set_option maxRecDepth 100000 in
/-- three cells that read as a zone -/
theorem open_zone_cells {n : Nat} {cs : List Value} {x : DataW H × List MemPlace} (h : DataW.trod enc Try.prog w 0 (fun _ => true) true n 26 cs = some x) (hs : Small Try.prog 26 x.1) :
    ∃ (z : Zn) (A : Option Addr) (c : Nat), cs = [.int .i64 z.st, .int .i64 z.fe, .slice A z.d.length c] ∧ IsB w (· < w.heap.size) (.slice A z.d.length c) z.d := by
  obtain ⟨y0, y1, y2, m, hx, hlen, h0, h1, h2⟩ := trod_struct3 Try.underlying26 h
  rw [Try.cZ] at hlen
  subst hx
  match cs, hlen with
  | [c0, c1, c2], _ =>
    have g0 : DataW.trod enc Try.prog w 0 (fun _ => true) true m 3 [c0] = some y0 := by simpa [Try.ci] using h0
    have g1 : DataW.trod enc Try.prog w 0 (fun _ => true) true m 3 [c1] = some y1 := by simpa [Try.ci] using h1
    have g2 : DataW.trod enc Try.prog w 0 (fun _ => true) true m 24 [c2] = some y2 := by simpa [Try.cB] using h2
    obtain ⟨a, e0, _, _⟩ := DataW.trod_int Try.underlying3 g0
    obtain ⟨b, e1, _, _⟩ := DataW.trod_int Try.underlying3 g1
    have s2 : Small Try.prog 24 y2.1 := Small.struct Try.underlying26 hs (j := 2) (d := y2.1) rfl rfl
    obtain ⟨v, l, e2, hB⟩ := open_bytes Try.underlying24 Try.underlying5 Try.cb Try.bb g2 s2
    simp only [List.cons.injEq, and_true] at e0 e1 e2
    subst e0 e1 e2
    obtain ⟨A, c, rfl, hr⟩ := hB
    exact ⟨⟨a, b, l⟩, A, c, rfl, A, c, rfl, hr⟩

theorem open_zone_arg {base : Nat} {v : Value} {d : DataW H} {p : List MemPlace} (hv : Value.okWide Try.prog w .any base 26 v) (h : DataW.Trod enc Try.prog w 0 (fun _ => true) true 26 v d p) (hs : Small Try.prog 26 d) :
    ∃ z, IsZ w (· < w.heap.size) v z := by
  obtain ⟨cs, rfl, _⟩ := okWide_struct Try.underlying26 hv
  obtain ⟨fuel, hf⟩ := h
  obtain ⟨z, A, c, hcs, hB⟩ := open_zone_cells hf hs
  refine ⟨z, A, c, ?_, hB⟩
  unfold zv
  congr 1
  apply Array.toList_inj.1
  simpa [Value.cells] using hcs
end
end Go.Proofs.Ytcjmcfjjbicimaa
