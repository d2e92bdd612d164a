/- Acts upon a zone among the arguments, opened. -/
import Derived.Test.YtcjmcfjjbicimaaOpenZ
import Derived.Test.YtcjmcfjjbicimaaOpenG
import Derived.Test.YtcjmcfjjbicimaaZoneStep
namespace Go.Proofs.Ytcjmcfjjbicimaa
open Go.RowKit Go.WideShapes Go.ChangeShapes Go.Deep

def Rp.op : Rp Ac := ⟨4, fun w K cs o => ∃ v_b, cs = [.int .i64 o.k, v_b, .int .i64 o.n, .int .i64 o.off] ∧ IsB w K v_b o.b ∧ (-9223372036854775808 ≤ o.off ∧ o.off ≤ 9223372036854775807),
  by rintro _ _ _ _ ⟨v_b, rfl, h_b, r0⟩; rfl,
  by rintro _ _ _ _ _ ⟨v_b, e, h_b, r0⟩ hk; exact ⟨v_b, e, h_b.keep hk, r0⟩,
  by rintro _ _ _ _ _ ⟨v_b, e, h_b, r0⟩ hk; exact ⟨v_b, e, h_b.more hk, r0⟩,
  by
    rintro _ _ _ _ ⟨v_b, rfl, h_b, r0⟩ u hu
    have o_b := IsB.one h_b
    simp only [List.mem_cons, List.not_mem_nil, or_false] at hu
    rcases hu with rfl | rfl | rfl | rfl <;> first | rfl | assumption⟩

theorem Try.cells_op : Try.prog.cellsOf 49 = 4 := by kernel_rfl
set_option maxRecDepth 100000 in
theorem open_op {H : Type} {enc : TypeId × Value → H} {w : World} {n : Nat} {cs : List Value} {x : DataW H × List MemPlace} (h : DataW.trod enc Try.prog w 0 (fun _ => true) true n 49 cs = some x) (hs : Small Try.prog 49 x.1) :
    ∃ o, Rp.op.is w (· < w.heap.size) cs o := by
  obtain ⟨xs, m, _, rfl, hlen, hl, hf⟩ := DataW.trod_struct Try.underlying49 h
  rw [Try.cells_op] at hlen
  match cs, hlen, xs, hl with
  | [c0, c1, c2, c3], _, [y0, y1, y2, y3], _ =>
    have g0 := hf 0 _ rfl
    replace g0 : DataW.trod enc Try.prog w 0 (fun _ => true) true m 3 [c0] = some y0 := by simpa [Try.ci] using g0
    obtain ⟨a0, e0, _, w0⟩ := DataW.trod_int Try.underlying3 g0
    have g1 := hf 1 _ rfl
    replace g1 : DataW.trod enc Try.prog w 0 (fun _ => true) true m 24 [c1] = some y1 := by simpa [Try.cB] using g1
    have s1 : Small Try.prog 24 y1.1 := Small.struct Try.underlying49 hs (j := 1) (d := y1.1) rfl rfl
    obtain ⟨u1, a1, e1, hB1⟩ := open_bytes Try.underlying24 Try.underlying5 Try.cb Try.bb g1 s1
    have g2 := hf 2 _ rfl
    replace g2 : DataW.trod enc Try.prog w 0 (fun _ => true) true m 3 [c2] = some y2 := by simpa [Try.ci] using g2
    obtain ⟨a2, e2, _, w2⟩ := DataW.trod_int Try.underlying3 g2
    have g3 := hf 3 _ rfl
    replace g3 : DataW.trod enc Try.prog w 0 (fun _ => true) true m 3 [c3] = some y3 := by simpa [Try.ci] using g3
    obtain ⟨a3, e3, _, w3⟩ := DataW.trod_int Try.underlying3 g3
    have b3 := bounds_i64 w3
    simp only [List.cons.injEq, and_true] at e0 e1 e2 e3
    subst e0 e1 e2 e3
    exact ⟨⟨a0, a1, a2, a3⟩, ⟨_, rfl, hB1, ⟨b3.1, b3.2⟩⟩⟩

theorem Try.cL_op : Try.prog.cellsOf 47 = 1 := by kernel_rfl
theorem Try.bytes_op : Try.prog.bytesOf 49 = 48 := by kernel_rfl
theorem open_L_op {H : Type} {enc : TypeId × Value → H} {w : World} {n : Nat} {cs : List Value} {x : DataW H × List MemPlace} (h : DataW.trod enc Try.prog w 0 (fun _ => true) true n 47 cs = some x) (hs : Small Try.prog 47 x.1) :
    ∃ v l, cs = [v] ∧ IsL Rp.op w (· < w.heap.size) v l ∧ l.length * 48 ≤ 140737488351232 := by
  obtain ⟨v, l, e, hL, hb⟩ := open_list Rp.op Try.underlying47 Try.cells_op (by rw [Try.bytes_op]; decide) (by decide) h hs fun _ _ _ h s => open_op h s
  rw [Try.bytes_op] at hb
  exact ⟨v, l, e, hL, hb⟩
theorem open_LA_op {H : Type} {enc : TypeId × Value → H} {w : World} {base : Nat} {v : Value} {d : DataW H} {p : List MemPlace} (hv : Value.okWide Try.prog w .any base 47 v) (h : DataW.Trod enc Try.prog w 0 (fun _ => true) true 47 v d p) (hs : Small Try.prog 47 d) :
    ∃ l, IsL Rp.op w (· < w.heap.size) v l ∧ l.length * 48 ≤ 140737488351232 := by
  obtain ⟨A, n, c, rfl⟩ := okWide_slice Try.underlying47 hv
  obtain ⟨fuel, hf⟩ := h
  obtain ⟨v', l, hcs, hB⟩ := open_L_op hf hs
  have : Value.slice A n c = v' := by simpa [Value.cells] using hcs
  rw [this]
  exact ⟨l, hB⟩

end Go.Proofs.Ytcjmcfjjbicimaa
