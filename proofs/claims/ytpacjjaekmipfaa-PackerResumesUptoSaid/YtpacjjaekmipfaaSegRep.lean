/- Headers and records: their representation; among the arguments, opened. -/
import Derived.Test.YtpacjjaekmipfaaRep
namespace Go.Proofs.Ytpacjjaekmipfaa
open Go.RowKit Go.WideShapes Go.ChangeShapes Go.Deep

structure Hd where
  host : Int
  epoch : Int
  seq : Int
deriving DecidableEq
structure Rc where
  kind : Int
  lba : Int
  n : Int
  ver : Int
  zone : Int
  off : Int
  data : List UInt8
deriving DecidableEq

theorem Try.cL_int : Try.prog.cellsOf 37 = 1 := by kernel_rfl
theorem Try.bytes_int : Try.prog.bytesOf 3 = 8 := by kernel_rfl
set_option maxRecDepth 100000 in
theorem open_L_int {H : Type} {enc : TypeId × Value → H} {w : World} {n : Nat} {cs : List Value} {x : DataW H × List MemPlace} (h : DataW.trod enc Try.prog w 0 (fun _ => true) true n 37 cs = some x) (hs : Small Try.prog 37 x.1) :
    ∃ v l, cs = [v] ∧ IsL Rp.int w (· < w.heap.size) v l ∧ l.length * 8 ≤ 140737488351232 := by
  obtain ⟨v, l, e, hL, hb⟩ := open_list Rp.int Try.underlying37 Try.ci (by rw [Try.bytes_int]; decide) (by decide) h hs fun _ _ _ h s => by obtain ⟨a, e, _, w⟩ := DataW.trod_int Try.underlying3 h; have b := bounds_i64 w; exact ⟨a, e, b.1, b.2⟩
  rw [Try.bytes_int] at hb
  exact ⟨v, l, e, hL, hb⟩
set_option maxRecDepth 100000 in
theorem open_LA_int {H : Type} {enc : TypeId × Value → H} {w : World} {base : Nat} {v : Value} {d : DataW H} {p : List MemPlace} (hv : Value.okWide Try.prog w .any base 37 v) (h : DataW.Trod enc Try.prog w 0 (fun _ => true) true 37 v d p) (hs : Small Try.prog 37 d) :
    ∃ l, IsL Rp.int w (· < w.heap.size) v l ∧ l.length * 8 ≤ 140737488351232 := by
  obtain ⟨A, n, c, rfl⟩ := okWide_slice Try.underlying37 hv
  obtain ⟨fuel, hf⟩ := h
  obtain ⟨v', l, hcs, hB⟩ := open_L_int hf hs
  have : Value.slice A n c = v' := by simpa [Value.cells] using hcs
  rw [this]
  exact ⟨l, hB⟩

def Rp.hd : Rp Hd := ⟨3, fun _ _ cs o => cs = [.int .i64 o.host, .int .i64 o.epoch, .int .i64 o.seq] ∧ (-9223372036854775808 ≤ o.host ∧ o.host ≤ 9223372036854775807) ∧ (-9223372036854775808 ≤ o.epoch ∧ o.epoch ≤ 9223372036854775807) ∧ (-9223372036854775808 ≤ o.seq ∧ o.seq ≤ 9223372036854775807),
  by rintro _ _ _ _ ⟨rfl, r0, r1, r2⟩; rfl,
  fun h _ => h,
  fun h _ => h,
  by
    rintro _ _ _ _ ⟨rfl, r0, r1, r2⟩ u hu
    simp only [List.mem_cons, List.not_mem_nil, or_false] at hu
    rcases hu with rfl | rfl | rfl <;> first | rfl | assumption⟩

theorem Try.cells_hd : Try.prog.cellsOf 23 = 3 := by kernel_rfl
set_option maxRecDepth 100000 in
theorem open_hd {H : Type} {enc : TypeId × Value → H} {w : World} {n : Nat} {cs : List Value} {x : DataW H × List MemPlace} (h : DataW.trod enc Try.prog w 0 (fun _ => true) true n 23 cs = some x) (hs : Small Try.prog 23 x.1) :
    ∃ o, Rp.hd.is w (· < w.heap.size) cs o := by
  obtain ⟨xs, m, _, rfl, hlen, hl, hf⟩ := DataW.trod_struct Try.underlying23 h
  rw [Try.cells_hd] at hlen
  match cs, hlen, xs, hl with
  | [c0, c1, c2], _, [y0, y1, y2], _ =>
    have g0 := hf 0 _ rfl
    replace g0 : DataW.trod enc Try.prog w 0 (fun _ => true) true m 3 [c0] = some y0 := by simpa [Try.ci] using g0
    obtain ⟨a0, e0, _, w0⟩ := DataW.trod_int Try.underlying3 g0
    have b0 := bounds_i64 w0
    have g1 := hf 1 _ rfl
    replace g1 : DataW.trod enc Try.prog w 0 (fun _ => true) true m 3 [c1] = some y1 := by simpa [Try.ci] using g1
    obtain ⟨a1, e1, _, w1⟩ := DataW.trod_int Try.underlying3 g1
    have b1 := bounds_i64 w1
    have g2 := hf 2 _ rfl
    replace g2 : DataW.trod enc Try.prog w 0 (fun _ => true) true m 3 [c2] = some y2 := by simpa [Try.ci] using g2
    obtain ⟨a2, e2, _, w2⟩ := DataW.trod_int Try.underlying3 g2
    have b2 := bounds_i64 w2
    simp only [List.cons.injEq, and_true] at e0 e1 e2
    subst e0 e1 e2
    exact ⟨⟨a0, a1, a2⟩, ⟨rfl, ⟨b0.1, b0.2⟩, ⟨b1.1, b1.2⟩, ⟨b2.1, b2.2⟩⟩⟩

def Rp.rc : Rp Rc := ⟨7, fun w K cs o => ∃ v_data, cs = [.int .i64 o.kind, .int .i64 o.lba, .int .i64 o.n, .int .i64 o.ver, .int .i64 o.zone, .int .i64 o.off, v_data] ∧ IsB w K v_data o.data ∧ (-9223372036854775808 ≤ o.kind ∧ o.kind ≤ 9223372036854775807) ∧ (-9223372036854775808 ≤ o.lba ∧ o.lba ≤ 9223372036854775807) ∧ (-9223372036854775808 ≤ o.n ∧ o.n ≤ 9223372036854775807) ∧ (-9223372036854775808 ≤ o.ver ∧ o.ver ≤ 9223372036854775807) ∧ (-9223372036854775808 ≤ o.zone ∧ o.zone ≤ 9223372036854775807) ∧ (-9223372036854775808 ≤ o.off ∧ o.off ≤ 9223372036854775807),
  by rintro _ _ _ _ ⟨v_data, rfl, h_data, r0, r1, r2, r3, r4, r5⟩; rfl,
  by rintro _ _ _ _ _ ⟨v_data, e, h_data, r0, r1, r2, r3, r4, r5⟩ hk; exact ⟨v_data, e, h_data.keep hk, r0, r1, r2, r3, r4, r5⟩,
  by rintro _ _ _ _ _ ⟨v_data, e, h_data, r0, r1, r2, r3, r4, r5⟩ hk; exact ⟨v_data, e, h_data.more hk, r0, r1, r2, r3, r4, r5⟩,
  by
    rintro _ _ _ _ ⟨v_data, rfl, h_data, r0, r1, r2, r3, r4, r5⟩ u hu
    have o_data := IsB.one h_data
    simp only [List.mem_cons, List.not_mem_nil, or_false] at hu
    rcases hu with rfl | rfl | rfl | rfl | rfl | rfl | rfl <;> first | rfl | assumption⟩

theorem Try.cells_rc : Try.prog.cellsOf 34 = 7 := by kernel_rfl
set_option maxRecDepth 100000 in
theorem open_rc {H : Type} {enc : TypeId × Value → H} {w : World} {n : Nat} {cs : List Value} {x : DataW H × List MemPlace} (h : DataW.trod enc Try.prog w 0 (fun _ => true) true n 34 cs = some x) (hs : Small Try.prog 34 x.1) :
    ∃ o, Rp.rc.is w (· < w.heap.size) cs o := by
  obtain ⟨xs, m, _, rfl, hlen, hl, hf⟩ := DataW.trod_struct Try.underlying34 h
  rw [Try.cells_rc] at hlen
  match cs, hlen, xs, hl with
  | [c0, c1, c2, c3, c4, c5, c6], _, [y0, y1, y2, y3, y4, y5, y6], _ =>
    have g0 := hf 0 _ rfl
    replace g0 : DataW.trod enc Try.prog w 0 (fun _ => true) true m 3 [c0] = some y0 := by simpa [Try.ci] using g0
    obtain ⟨a0, e0, _, w0⟩ := DataW.trod_int Try.underlying3 g0
    have b0 := bounds_i64 w0
    have g1 := hf 1 _ rfl
    replace g1 : DataW.trod enc Try.prog w 0 (fun _ => true) true m 3 [c1] = some y1 := by simpa [Try.ci] using g1
    obtain ⟨a1, e1, _, w1⟩ := DataW.trod_int Try.underlying3 g1
    have b1 := bounds_i64 w1
    have g2 := hf 2 _ rfl
    replace g2 : DataW.trod enc Try.prog w 0 (fun _ => true) true m 3 [c2] = some y2 := by simpa [Try.ci] using g2
    obtain ⟨a2, e2, _, w2⟩ := DataW.trod_int Try.underlying3 g2
    have b2 := bounds_i64 w2
    have g3 := hf 3 _ rfl
    replace g3 : DataW.trod enc Try.prog w 0 (fun _ => true) true m 3 [c3] = some y3 := by simpa [Try.ci] using g3
    obtain ⟨a3, e3, _, w3⟩ := DataW.trod_int Try.underlying3 g3
    have b3 := bounds_i64 w3
    have g4 := hf 4 _ rfl
    replace g4 : DataW.trod enc Try.prog w 0 (fun _ => true) true m 3 [c4] = some y4 := by simpa [Try.ci] using g4
    obtain ⟨a4, e4, _, w4⟩ := DataW.trod_int Try.underlying3 g4
    have b4 := bounds_i64 w4
    have g5 := hf 5 _ rfl
    replace g5 : DataW.trod enc Try.prog w 0 (fun _ => true) true m 3 [c5] = some y5 := by simpa [Try.ci] using g5
    obtain ⟨a5, e5, _, w5⟩ := DataW.trod_int Try.underlying3 g5
    have b5 := bounds_i64 w5
    have g6 := hf 6 _ rfl
    replace g6 : DataW.trod enc Try.prog w 0 (fun _ => true) true m 27 [c6] = some y6 := by simpa [Try.cB] using g6
    have s6 : Small Try.prog 27 y6.1 := Small.struct Try.underlying34 hs (j := 6) (d := y6.1) rfl rfl
    obtain ⟨u6, a6, e6, hB6⟩ := open_bytes Try.underlying27 Try.underlying5 Try.cb Try.bb g6 s6
    simp only [List.cons.injEq, and_true] at e0 e1 e2 e3 e4 e5 e6
    subst e0 e1 e2 e3 e4 e5 e6
    exact ⟨⟨a0, a1, a2, a3, a4, a5, a6⟩, ⟨_, rfl, hB6, ⟨b0.1, b0.2⟩, ⟨b1.1, b1.2⟩, ⟨b2.1, b2.2⟩, ⟨b3.1, b3.2⟩, ⟨b4.1, b4.2⟩, ⟨b5.1, b5.2⟩⟩⟩

theorem Try.cL_rc : Try.prog.cellsOf 24 = 1 := by kernel_rfl
theorem Try.bytes_rc : Try.prog.bytesOf 34 = 72 := by kernel_rfl
set_option maxRecDepth 100000 in
theorem open_L_rc {H : Type} {enc : TypeId × Value → H} {w : World} {n : Nat} {cs : List Value} {x : DataW H × List MemPlace} (h : DataW.trod enc Try.prog w 0 (fun _ => true) true n 24 cs = some x) (hs : Small Try.prog 24 x.1) :
    ∃ v l, cs = [v] ∧ IsL Rp.rc w (· < w.heap.size) v l ∧ l.length * 72 ≤ 140737488351232 := by
  obtain ⟨v, l, e, hL, hb⟩ := open_list Rp.rc Try.underlying24 Try.cells_rc (by rw [Try.bytes_rc]; decide) (by decide) h hs fun _ _ _ h s => open_rc h s
  rw [Try.bytes_rc] at hb
  exact ⟨v, l, e, hL, hb⟩
set_option maxRecDepth 100000 in
theorem open_LA_rc {H : Type} {enc : TypeId × Value → H} {w : World} {base : Nat} {v : Value} {d : DataW H} {p : List MemPlace} (hv : Value.okWide Try.prog w .any base 24 v) (h : DataW.Trod enc Try.prog w 0 (fun _ => true) true 24 v d p) (hs : Small Try.prog 24 d) :
    ∃ l, IsL Rp.rc w (· < w.heap.size) v l ∧ l.length * 72 ≤ 140737488351232 := by
  obtain ⟨A, n, c, rfl⟩ := okWide_slice Try.underlying24 hv
  obtain ⟨fuel, hf⟩ := h
  obtain ⟨v', l, hcs, hB⟩ := open_L_rc hf hs
  have : Value.slice A n c = v' := by simpa [Value.cells] using hcs
  rw [this]
  exact ⟨l, hB⟩


end Go.Proofs.Ytpacjjaekmipfaa
