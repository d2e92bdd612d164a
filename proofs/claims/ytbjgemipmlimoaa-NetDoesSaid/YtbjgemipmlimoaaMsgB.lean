/- Messages among the arguments, opened, with the bound of their numbers' count. -/
import Derived.Test.YtbjgemipmlimoaaMsg
namespace Go.Proofs.Ytbjgemipmlimoaa
open Go.RowKit Go.WideShapes Go.ChangeShapes Go.Deep

/-- what R represents and is so -/
def Rp.sub {α : Type} (R : Rp α) (p : α → Prop) : Rp α := ⟨R.size, fun w K cs a => R.is w K cs a ∧ p a, fun h => R.len h.1, fun h hk => ⟨R.keep h.1 hk, h.2⟩, fun h hk => ⟨R.more h.1 hk, h.2⟩, fun h => R.one h.1⟩
theorem CellsL.ofSub {α : Type} {R : Rp α} {p : α → Prop} {w : World} {K : Nat → Prop} : ∀ {l : List α} {cs : List Value}, CellsL (R.sub p) w K cs l → CellsL R w K cs l ∧ ∀ a ∈ l, p a
  | [], _, h => ⟨h, fun _ h => by cases h⟩
  | a :: l, _, ⟨c1, c2, e, h1, h2⟩ => by
    obtain ⟨h3, h4⟩ := CellsL.ofSub h2
    refine ⟨⟨c1, c2, e, h1.1, h3⟩, fun x hx => ?_⟩
    rcases List.mem_cons.1 hx with rfl | hx
    · exact h1.2
    · exact h4 x hx
theorem IsL.ofSub {α : Type} {R : Rp α} {p : α → Prop} {w : World} {K : Nat → Prop} {v : Value} {l : List α} (h : IsL (R.sub p) w K v l) : IsL R w K v l ∧ ∀ a ∈ l, p a := by
  obtain ⟨A, c, cs, e, h1, h2, h3⟩ := h
  obtain ⟨h4, h5⟩ := h2.ofSub
  exact ⟨⟨A, c, cs, e, h1, h4, h3⟩, h5⟩

set_option maxRecDepth 100000 in
theorem open_msgB {H : Type} {enc : TypeId × Value → H} {w : World} {n : Nat} {cs : List Value} {x : DataW H × List MemPlace} (h : DataW.trod enc Try.prog w 0 (fun _ => true) true n 45 cs = some x) (hs : Small Try.prog 45 x.1) :
    ∃ o, Rp.msg.is w (· < w.heap.size) cs o ∧ o.args.length ≤ 17592186043904 := by
  obtain ⟨xs, m, _, rfl, hlen, hl, hf⟩ := DataW.trod_struct Try.underlying45 h
  rw [Try.cells_msg] at hlen
  match cs, hlen, xs, hl with
  | [c0, c1, c2, c3, c4, c5], _, [y0, y1, y2, y3, y4, y5], _ =>
    have g0 := hf 0 _ rfl
    replace g0 : DataW.trod enc Try.prog w 0 (fun _ => true) true m 3 [c0] = some y0 := by simpa [Try.ci] using g0
    obtain ⟨a0, e0, _, w0⟩ := DataW.trod_int Try.underlying3 g0
    have b0 := bounds_i64 w0
    have g1 := hf 1 _ rfl
    replace g1 : DataW.trod enc Try.prog w 0 (fun _ => true) true m 3 [c1] = some y1 := by simpa [Try.ci] using g1
    obtain ⟨a1, e1, _, w1⟩ := DataW.trod_int Try.underlying3 g1
    have b1 := bounds_i64 w1
    have g2 := hf 2 _ rfl
    replace g2 : DataW.trod enc Try.prog w 0 (fun _ => true) true m 3 [c2] = some y2 := by simpa [Try.ci] using g2
    obtain ⟨a2, e2, _, w2⟩ := DataW.trod_int Try.underlying3 g2
    have b2 := bounds_i64 w2
    have g3 := hf 3 _ rfl
    replace g3 : DataW.trod enc Try.prog w 0 (fun _ => true) true m 3 [c3] = some y3 := by simpa [Try.ci] using g3
    obtain ⟨a3, e3, _, w3⟩ := DataW.trod_int Try.underlying3 g3
    have b3 := bounds_i64 w3
    have g4 := hf 4 _ rfl
    replace g4 : DataW.trod enc Try.prog w 0 (fun _ => true) true m 43 [c4] = some y4 := by simpa [Try.cL_int] using g4
    have s4 : Small Try.prog 43 y4.1 := Small.struct Try.underlying45 hs (j := 4) (d := y4.1) rfl rfl
    obtain ⟨u4, a4, e4, hB4, hL4⟩ := open_L_int g4 s4
    have g5 := hf 5 _ rfl
    replace g5 : DataW.trod enc Try.prog w 0 (fun _ => true) true m 24 [c5] = some y5 := by simpa [Try.cB] using g5
    have s5 : Small Try.prog 24 y5.1 := Small.struct Try.underlying45 hs (j := 5) (d := y5.1) rfl rfl
    obtain ⟨u5, a5, e5, hB5⟩ := open_bytes Try.underlying24 Try.underlying5 Try.cb Try.bb g5 s5
    simp only [List.cons.injEq, and_true] at e0 e1 e2 e3 e4 e5
    subst e0 e1 e2 e3 e4 e5
    exact ⟨⟨a0, a1, a2, a3, a4, a5⟩, ⟨_, _, rfl, hB4, hB5, ⟨b0.1, b0.2⟩, ⟨b1.1, b1.2⟩, ⟨b2.1, b2.2⟩, ⟨b3.1, b3.2⟩⟩, by show a4.length ≤ _; omega⟩


set_option maxRecDepth 100000 in
theorem open_L_msgB {H : Type} {enc : TypeId × Value → H} {w : World} {n : Nat} {cs : List Value} {x : DataW H × List MemPlace} (h : DataW.trod enc Try.prog w 0 (fun _ => true) true n 35 cs = some x) (hs : Small Try.prog 35 x.1) :
    ∃ v l, cs = [v] ∧ IsL Rp.msg w (· < w.heap.size) v l ∧ l.length * 80 ≤ 140737488351232 ∧ ∀ m ∈ l, m.args.length ≤ 17592186043904 := by
  obtain ⟨v, l, e, hL, hb⟩ := open_list (Rp.msg.sub fun m => m.args.length ≤ 17592186043904) Try.underlying35 Try.cells_msg (by rw [Try.bytes_msg]; decide) (by decide) h hs fun _ _ _ h s => open_msgB h s
  rw [Try.bytes_msg] at hb
  exact ⟨v, l, e, hL.ofSub.1, hb, hL.ofSub.2⟩
set_option maxRecDepth 100000 in
theorem open_LA_msgB {H : Type} {enc : TypeId × Value → H} {w : World} {base : Nat} {v : Value} {d : DataW H} {p : List MemPlace} (hv : Value.okWide Try.prog w .any base 35 v) (h : DataW.Trod enc Try.prog w 0 (fun _ => true) true 35 v d p) (hs : Small Try.prog 35 d) :
    ∃ l, IsL Rp.msg w (· < w.heap.size) v l ∧ l.length * 80 ≤ 140737488351232 ∧ ∀ m ∈ l, m.args.length ≤ 17592186043904 := by
  obtain ⟨A, n, c, rfl⟩ := okWide_slice Try.underlying35 hv
  obtain ⟨fuel, hf⟩ := h
  obtain ⟨v', l, hcs, hB⟩ := open_L_msgB hf hs
  have : Value.slice A n c = v' := by simpa [Value.cells] using hcs
  rw [this]
  exact ⟨l, hB⟩
end Go.Proofs.Ytbjgemipmlimoaa
