/- Messages: their representation; among the arguments, opened. -/
import Derived.Test.YtbjgemipmlimoaaRep
namespace Go.Proofs.Ytbjgemipmlimoaa
open Go.RowKit Go.WideShapes Go.ChangeShapes Go.Deep

theorem Try.cL_int : Try.prog.cellsOf 43 = 1 := by kernel_rfl
theorem Try.bytes_int : Try.prog.bytesOf 3 = 8 := by kernel_rfl
set_option maxRecDepth 100000 in
theorem open_L_int {H : Type} {enc : TypeId × Value → H} {w : World} {n : Nat} {cs : List Value} {x : DataW H × List MemPlace} (h : DataW.trod enc Try.prog w 0 (fun _ => true) true n 43 cs = some x) (hs : Small Try.prog 43 x.1) :
    ∃ v l, cs = [v] ∧ IsL Rp.int w (· < w.heap.size) v l ∧ l.length * 8 ≤ 140737488351232 := by
  obtain ⟨v, l, e, hL, hb⟩ := open_list Rp.int Try.underlying43 Try.ci (by rw [Try.bytes_int]; decide) (by decide) h hs fun _ _ _ h s => by obtain ⟨a, e, _, w⟩ := DataW.trod_int Try.underlying3 h; have b := bounds_i64 w; exact ⟨a, e, b.1, b.2⟩
  rw [Try.bytes_int] at hb
  exact ⟨v, l, e, hL, hb⟩
set_option maxRecDepth 100000 in
theorem open_LA_int {H : Type} {enc : TypeId × Value → H} {w : World} {base : Nat} {v : Value} {d : DataW H} {p : List MemPlace} (hv : Value.okWide Try.prog w .any base 43 v) (h : DataW.Trod enc Try.prog w 0 (fun _ => true) true 43 v d p) (hs : Small Try.prog 43 d) :
    ∃ l, IsL Rp.int w (· < w.heap.size) v l ∧ l.length * 8 ≤ 140737488351232 := by
  obtain ⟨A, n, c, rfl⟩ := okWide_slice Try.underlying43 hv
  obtain ⟨fuel, hf⟩ := h
  obtain ⟨v', l, hcs, hB⟩ := open_L_int hf hs
  have : Value.slice A n c = v' := by simpa [Value.cells] using hcs
  rw [this]
  exact ⟨l, hB⟩

structure Ms where
  kind : Int
  frm : Int
  to : Int
  id : Int
  args : List Int
  data : List UInt8

def Rp.msg : Rp Ms := ⟨6, fun w K cs o => ∃ v_args v_data, cs = [.int .i64 o.kind, .int .i64 o.frm, .int .i64 o.to, .int .i64 o.id, v_args, v_data] ∧ IsL Rp.int w K v_args o.args ∧ IsB w K v_data o.data ∧ (-9223372036854775808 ≤ o.kind ∧ o.kind ≤ 9223372036854775807) ∧ (-9223372036854775808 ≤ o.frm ∧ o.frm ≤ 9223372036854775807) ∧ (-9223372036854775808 ≤ o.to ∧ o.to ≤ 9223372036854775807) ∧ (-9223372036854775808 ≤ o.id ∧ o.id ≤ 9223372036854775807),
  by rintro _ _ _ _ ⟨v_args, v_data, rfl, h_args, h_data, r0, r1, r2, r3⟩; rfl,
  by rintro _ _ _ _ _ ⟨v_args, v_data, e, h_args, h_data, r0, r1, r2, r3⟩ hk; exact ⟨v_args, v_data, e, h_args.keep hk, h_data.keep hk, r0, r1, r2, r3⟩,
  by rintro _ _ _ _ _ ⟨v_args, v_data, e, h_args, h_data, r0, r1, r2, r3⟩ hk; exact ⟨v_args, v_data, e, h_args.more hk, h_data.more hk, r0, r1, r2, r3⟩,
  by
    rintro _ _ _ _ ⟨v_args, v_data, rfl, h_args, h_data, r0, r1, r2, r3⟩ u hu
    have o_args := RpL.one h_args
    have o_data := IsB.one h_data
    simp only [List.mem_cons, List.not_mem_nil, or_false] at hu
    rcases hu with rfl | rfl | rfl | rfl | rfl | rfl <;> first | rfl | assumption⟩

theorem Try.cells_msg : Try.prog.cellsOf 45 = 6 := by kernel_rfl
set_option maxRecDepth 100000 in
theorem open_msg {H : Type} {enc : TypeId × Value → H} {w : World} {n : Nat} {cs : List Value} {x : DataW H × List MemPlace} (h : DataW.trod enc Try.prog w 0 (fun _ => true) true n 45 cs = some x) (hs : Small Try.prog 45 x.1) :
    ∃ o, Rp.msg.is w (· < w.heap.size) cs o := by
  obtain ⟨xs, m, _, rfl, hlen, hl, hf⟩ := DataW.trod_struct Try.underlying45 h
  rw [Try.cells_msg] at hlen
  match cs, hlen, xs, hl with
  | [c0, c1, c2, c3, c4, c5], _, [y0, y1, y2, y3, y4, y5], _ =>
    have g0 := hf 0 _ rfl
    replace g0 : DataW.trod enc Try.prog w 0 (fun _ => true) true m 3 [c0] = some y0 := by simpa [Try.ci] using g0
    obtain ⟨a0, e0, _, w0⟩ := DataW.trod_int Try.underlying3 g0
    have b0 := bounds_i64 w0
    have g1 := hf 1 _ rfl
    replace g1 : DataW.trod enc Try.prog w 0 (fun _ => true) true m 3 [c1] = some y1 := by simpa [Try.ci] using g1
    obtain ⟨a1, e1, _, w1⟩ := DataW.trod_int Try.underlying3 g1
    have b1 := bounds_i64 w1
    have g2 := hf 2 _ rfl
    replace g2 : DataW.trod enc Try.prog w 0 (fun _ => true) true m 3 [c2] = some y2 := by simpa [Try.ci] using g2
    obtain ⟨a2, e2, _, w2⟩ := DataW.trod_int Try.underlying3 g2
    have b2 := bounds_i64 w2
    have g3 := hf 3 _ rfl
    replace g3 : DataW.trod enc Try.prog w 0 (fun _ => true) true m 3 [c3] = some y3 := by simpa [Try.ci] using g3
    obtain ⟨a3, e3, _, w3⟩ := DataW.trod_int Try.underlying3 g3
    have b3 := bounds_i64 w3
    have g4 := hf 4 _ rfl
    replace g4 : DataW.trod enc Try.prog w 0 (fun _ => true) true m 43 [c4] = some y4 := by simpa [Try.cL_int] using g4
    have s4 : Small Try.prog 43 y4.1 := Small.struct Try.underlying45 hs (j := 4) (d := y4.1) rfl rfl
    obtain ⟨u4, a4, e4, hB4, _⟩ := open_L_int g4 s4
    have g5 := hf 5 _ rfl
    replace g5 : DataW.trod enc Try.prog w 0 (fun _ => true) true m 24 [c5] = some y5 := by simpa [Try.cB] using g5
    have s5 : Small Try.prog 24 y5.1 := Small.struct Try.underlying45 hs (j := 5) (d := y5.1) rfl rfl
    obtain ⟨u5, a5, e5, hB5⟩ := open_bytes Try.underlying24 Try.underlying5 Try.cb Try.bb g5 s5
    simp only [List.cons.injEq, and_true] at e0 e1 e2 e3 e4 e5
    subst e0 e1 e2 e3 e4 e5
    exact ⟨⟨a0, a1, a2, a3, a4, a5⟩, ⟨_, _, rfl, hB4, hB5, ⟨b0.1, b0.2⟩, ⟨b1.1, b1.2⟩, ⟨b2.1, b2.2⟩, ⟨b3.1, b3.2⟩⟩⟩

theorem Try.cL_msg : Try.prog.cellsOf 35 = 1 := by kernel_rfl
theorem Try.bytes_msg : Try.prog.bytesOf 45 = 80 := by kernel_rfl
set_option maxRecDepth 100000 in
theorem open_L_msg {H : Type} {enc : TypeId × Value → H} {w : World} {n : Nat} {cs : List Value} {x : DataW H × List MemPlace} (h : DataW.trod enc Try.prog w 0 (fun _ => true) true n 35 cs = some x) (hs : Small Try.prog 35 x.1) :
    ∃ v l, cs = [v] ∧ IsL Rp.msg w (· < w.heap.size) v l ∧ l.length * 80 ≤ 140737488351232 := by
  obtain ⟨v, l, e, hL, hb⟩ := open_list Rp.msg Try.underlying35 Try.cells_msg (by rw [Try.bytes_msg]; decide) (by decide) h hs fun _ _ _ h s => open_msg h s
  rw [Try.bytes_msg] at hb
  exact ⟨v, l, e, hL, hb⟩
set_option maxRecDepth 100000 in
theorem open_LA_msg {H : Type} {enc : TypeId × Value → H} {w : World} {base : Nat} {v : Value} {d : DataW H} {p : List MemPlace} (hv : Value.okWide Try.prog w .any base 35 v) (h : DataW.Trod enc Try.prog w 0 (fun _ => true) true 35 v d p) (hs : Small Try.prog 35 d) :
    ∃ l, IsL Rp.msg w (· < w.heap.size) v l ∧ l.length * 80 ≤ 140737488351232 := by
  obtain ⟨A, n, c, rfl⟩ := okWide_slice Try.underlying35 hv
  obtain ⟨fuel, hf⟩ := h
  obtain ⟨v', l, hcs, hB⟩ := open_L_msg hf hs
  have : Value.slice A n c = v' := by simpa [Value.cells] using hcs
  rw [this]
  exact ⟨l, hB⟩

end Go.Proofs.Ytbjgemipmlimoaa
