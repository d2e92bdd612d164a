/- Zones, devices, commands: their representations; among the arguments, opened. -/
import Derived.Test.YtcjmcfjjbicimaaZonePlain
import Derived.Test.YtcjmcfjjbicimaaZones
import Derived.Test.YtcjmcfjjbicimaaOpenB
import Derived.Test.YtcjmcfjjbicimaaOpenG
import Derived.Test.YtcjmcfjjbicimaaTurned
import Derived.Laws.CopyRow
namespace Go.Proofs.Ytcjmcfjjbicimaa
open Go.RowKit Go.WideShapes Go.ChangeShapes Go.Deep

def Rp.zone : Rp Zn := ⟨3, fun w K cs o => ∃ v_d, cs = [.int .i64 o.st, .int .i64 o.fe, v_d] ∧ IsB w K v_d o.d,
  by rintro _ _ _ _ ⟨v_d, rfl, h_d⟩; rfl,
  by rintro _ _ _ _ _ ⟨v_d, e, h_d⟩ hk; exact ⟨v_d, e, h_d.keep hk⟩,
  by rintro _ _ _ _ _ ⟨v_d, e, h_d⟩ hk; exact ⟨v_d, e, h_d.more hk⟩,
  by
    rintro _ _ _ _ ⟨v_d, rfl, h_d⟩ u hu
    have o_d := IsB.one h_d
    simp only [List.mem_cons, List.not_mem_nil, or_false] at hu
    rcases hu with rfl | rfl | rfl <;> first | rfl | assumption⟩

theorem Try.cells_zone : Try.prog.cellsOf 26 = 3 := by kernel_rfl
set_option maxRecDepth 100000 in
theorem open_zone {H : Type} {enc : TypeId × Value → H} {w : World} {n : Nat} {cs : List Value} {x : DataW H × List MemPlace} (h : DataW.trod enc Try.prog w 0 (fun _ => true) true n 26 cs = some x) (hs : Small Try.prog 26 x.1) :
    ∃ o, Rp.zone.is w (· < w.heap.size) cs o := by
  obtain ⟨xs, m, _, rfl, hlen, hl, hf⟩ := DataW.trod_struct Try.underlying26 h
  rw [Try.cells_zone] at hlen
  match cs, hlen, xs, hl with
  | [c0, c1, c2], _, [y0, y1, y2], _ =>
    have g0 := hf 0 _ rfl
    replace g0 : DataW.trod enc Try.prog w 0 (fun _ => true) true m 3 [c0] = some y0 := by simpa [Try.ci] using g0
    obtain ⟨a0, e0, _, w0⟩ := DataW.trod_int Try.underlying3 g0
    have g1 := hf 1 _ rfl
    replace g1 : DataW.trod enc Try.prog w 0 (fun _ => true) true m 3 [c1] = some y1 := by simpa [Try.ci] using g1
    obtain ⟨a1, e1, _, w1⟩ := DataW.trod_int Try.underlying3 g1
    have g2 := hf 2 _ rfl
    replace g2 : DataW.trod enc Try.prog w 0 (fun _ => true) true m 24 [c2] = some y2 := by simpa [Try.cB] using g2
    have s2 : Small Try.prog 24 y2.1 := Small.struct Try.underlying26 hs (j := 2) (d := y2.1) rfl rfl
    obtain ⟨u2, a2, e2, hB2⟩ := open_bytes Try.underlying24 Try.underlying5 Try.cb Try.bb g2 s2
    simp only [List.cons.injEq, and_true] at e0 e1 e2
    subst e0 e1 e2
    exact ⟨⟨a0, a1, a2⟩, ⟨_, rfl, hB2⟩⟩
theorem Try.cL_zone : Try.prog.cellsOf 41 = 1 := by kernel_rfl
theorem Try.bytes_zone : Try.prog.bytesOf 26 = 40 := by kernel_rfl
set_option maxRecDepth 100000 in
theorem open_L_zone {H : Type} {enc : TypeId × Value → H} {w : World} {n : Nat} {cs : List Value} {x : DataW H × List MemPlace} (h : DataW.trod enc Try.prog w 0 (fun _ => true) true n 41 cs = some x) (hs : Small Try.prog 41 x.1) :
    ∃ v l, cs = [v] ∧ IsL Rp.zone w (· < w.heap.size) v l ∧ l.length * 40 ≤ 140737488351232 := by
  obtain ⟨v, l, e, hL, hb⟩ := open_list Rp.zone Try.underlying41 Try.cells_zone (by rw [Try.bytes_zone]; decide) (by decide) h hs fun _ _ _ h s => open_zone h s
  rw [Try.bytes_zone] at hb
  exact ⟨v, l, e, hL, hb⟩
set_option maxRecDepth 100000 in
theorem open_LA_zone {H : Type} {enc : TypeId × Value → H} {w : World} {base : Nat} {v : Value} {d : DataW H} {p : List MemPlace} (hv : Value.okWide Try.prog w .any base 41 v) (h : DataW.Trod enc Try.prog w 0 (fun _ => true) true 41 v d p) (hs : Small Try.prog 41 d) :
    ∃ l, IsL Rp.zone w (· < w.heap.size) v l ∧ l.length * 40 ≤ 140737488351232 := by
  obtain ⟨A, n, c, rfl⟩ := okWide_slice Try.underlying41 hv
  obtain ⟨fuel, hf⟩ := h
  obtain ⟨v', l, hcs, hB⟩ := open_L_zone hf hs
  have : Value.slice A n c = v' := by simpa [Value.cells] using hcs
  rw [this]
  exact ⟨l, hB⟩

structure Zd where
  cap : Int
  opn : Int
  act : Int
  z : List Zn

def Rp.zns : Rp Zd := ⟨4, fun w K cs o => ∃ v_z, cs = [.int .i64 o.cap, .int .i64 o.opn, .int .i64 o.act, v_z] ∧ IsL Rp.zone w K v_z o.z ∧ (-9223372036854775808 ≤ o.cap ∧ o.cap ≤ 9223372036854775807) ∧ (-9223372036854775808 ≤ o.opn ∧ o.opn ≤ 9223372036854775807) ∧ (-9223372036854775808 ≤ o.act ∧ o.act ≤ 9223372036854775807),
  by rintro _ _ _ _ ⟨v_z, rfl, h_z, r0, r1, r2⟩; rfl,
  by rintro _ _ _ _ _ ⟨v_z, e, h_z, r0, r1, r2⟩ hk; exact ⟨v_z, e, h_z.keep hk, r0, r1, r2⟩,
  by rintro _ _ _ _ _ ⟨v_z, e, h_z, r0, r1, r2⟩ hk; exact ⟨v_z, e, h_z.more hk, r0, r1, r2⟩,
  by
    rintro _ _ _ _ ⟨v_z, rfl, h_z, r0, r1, r2⟩ u hu
    have o_z := RpL.one h_z
    simp only [List.mem_cons, List.not_mem_nil, or_false] at hu
    rcases hu with rfl | rfl | rfl | rfl <;> first | rfl | assumption⟩

theorem Try.cells_zns : Try.prog.cellsOf 53 = 4 := by kernel_rfl
set_option maxRecDepth 100000 in
theorem open_zns {H : Type} {enc : TypeId × Value → H} {w : World} {n : Nat} {cs : List Value} {x : DataW H × List MemPlace} (h : DataW.trod enc Try.prog w 0 (fun _ => true) true n 53 cs = some x) (hs : Small Try.prog 53 x.1) :
    ∃ o, Rp.zns.is w (· < w.heap.size) cs o := by
  obtain ⟨xs, m, _, rfl, hlen, hl, hf⟩ := DataW.trod_struct Try.underlying53 h
  rw [Try.cells_zns] at hlen
  match cs, hlen, xs, hl with
  | [c0, c1, c2, c3], _, [y0, y1, y2, y3], _ =>
    have g0 := hf 0 _ rfl
    replace g0 : DataW.trod enc Try.prog w 0 (fun _ => true) true m 3 [c0] = some y0 := by simpa [Try.ci] using g0
    obtain ⟨a0, e0, _, w0⟩ := DataW.trod_int Try.underlying3 g0
    have b0 := bounds_i64 w0
    have g1 := hf 1 _ rfl
    replace g1 : DataW.trod enc Try.prog w 0 (fun _ => true) true m 3 [c1] = some y1 := by simpa [Try.ci] using g1
    obtain ⟨a1, e1, _, w1⟩ := DataW.trod_int Try.underlying3 g1
    have b1 := bounds_i64 w1
    have g2 := hf 2 _ rfl
    replace g2 : DataW.trod enc Try.prog w 0 (fun _ => true) true m 3 [c2] = some y2 := by simpa [Try.ci] using g2
    obtain ⟨a2, e2, _, w2⟩ := DataW.trod_int Try.underlying3 g2
    have b2 := bounds_i64 w2
    have g3 := hf 3 _ rfl
    replace g3 : DataW.trod enc Try.prog w 0 (fun _ => true) true m 41 [c3] = some y3 := by simpa [Try.cL_zone] using g3
    have s3 : Small Try.prog 41 y3.1 := Small.struct Try.underlying53 hs (j := 3) (d := y3.1) rfl rfl
    obtain ⟨u3, a3, e3, hB3, _⟩ := open_L_zone g3 s3
    simp only [List.cons.injEq, and_true] at e0 e1 e2 e3
    subst e0 e1 e2 e3
    exact ⟨⟨a0, a1, a2, a3⟩, ⟨_, rfl, hB3, ⟨b0.1, b0.2⟩, ⟨b1.1, b1.2⟩, ⟨b2.1, b2.2⟩⟩⟩
structure Cm where
  op : Int
  zone : Int
  epoch : Int
  off : Int
  n : Int
  data : List UInt8

def Rp.cmd : Rp Cm := ⟨6, fun w K cs o => ∃ v_data, cs = [.int .i64 o.op, .int .i64 o.zone, .int .i64 o.epoch, .int .i64 o.off, .int .i64 o.n, v_data] ∧ IsB w K v_data o.data ∧ (-9223372036854775808 ≤ o.op ∧ o.op ≤ 9223372036854775807) ∧ (-9223372036854775808 ≤ o.zone ∧ o.zone ≤ 9223372036854775807) ∧ (-9223372036854775808 ≤ o.epoch ∧ o.epoch ≤ 9223372036854775807) ∧ (-9223372036854775808 ≤ o.off ∧ o.off ≤ 9223372036854775807) ∧ (-9223372036854775808 ≤ o.n ∧ o.n ≤ 9223372036854775807),
  by rintro _ _ _ _ ⟨v_data, rfl, h_data, r0, r1, r2, r3, r4⟩; rfl,
  by rintro _ _ _ _ _ ⟨v_data, e, h_data, r0, r1, r2, r3, r4⟩ hk; exact ⟨v_data, e, h_data.keep hk, r0, r1, r2, r3, r4⟩,
  by rintro _ _ _ _ _ ⟨v_data, e, h_data, r0, r1, r2, r3, r4⟩ hk; exact ⟨v_data, e, h_data.more hk, r0, r1, r2, r3, r4⟩,
  by
    rintro _ _ _ _ ⟨v_data, rfl, h_data, r0, r1, r2, r3, r4⟩ u hu
    have o_data := IsB.one h_data
    simp only [List.mem_cons, List.not_mem_nil, or_false] at hu
    rcases hu with rfl | rfl | rfl | rfl | rfl | rfl <;> first | rfl | assumption⟩

theorem Try.cells_cmd : Try.prog.cellsOf 62 = 6 := by kernel_rfl
set_option maxRecDepth 100000 in
theorem open_cmd {H : Type} {enc : TypeId × Value → H} {w : World} {n : Nat} {cs : List Value} {x : DataW H × List MemPlace} (h : DataW.trod enc Try.prog w 0 (fun _ => true) true n 62 cs = some x) (hs : Small Try.prog 62 x.1) :
    ∃ o, Rp.cmd.is w (· < w.heap.size) cs o := by
  obtain ⟨xs, m, _, rfl, hlen, hl, hf⟩ := DataW.trod_struct Try.underlying62 h
  rw [Try.cells_cmd] at hlen
  match cs, hlen, xs, hl with
  | [c0, c1, c2, c3, c4, c5], _, [y0, y1, y2, y3, y4, y5], _ =>
    have g0 := hf 0 _ rfl
    replace g0 : DataW.trod enc Try.prog w 0 (fun _ => true) true m 3 [c0] = some y0 := by simpa [Try.ci] using g0
    obtain ⟨a0, e0, _, w0⟩ := DataW.trod_int Try.underlying3 g0
    have b0 := bounds_i64 w0
    have g1 := hf 1 _ rfl
    replace g1 : DataW.trod enc Try.prog w 0 (fun _ => true) true m 3 [c1] = some y1 := by simpa [Try.ci] using g1
    obtain ⟨a1, e1, _, w1⟩ := DataW.trod_int Try.underlying3 g1
    have b1 := bounds_i64 w1
    have g2 := hf 2 _ rfl
    replace g2 : DataW.trod enc Try.prog w 0 (fun _ => true) true m 3 [c2] = some y2 := by simpa [Try.ci] using g2
    obtain ⟨a2, e2, _, w2⟩ := DataW.trod_int Try.underlying3 g2
    have b2 := bounds_i64 w2
    have g3 := hf 3 _ rfl
    replace g3 : DataW.trod enc Try.prog w 0 (fun _ => true) true m 3 [c3] = some y3 := by simpa [Try.ci] using g3
    obtain ⟨a3, e3, _, w3⟩ := DataW.trod_int Try.underlying3 g3
    have b3 := bounds_i64 w3
    have g4 := hf 4 _ rfl
    replace g4 : DataW.trod enc Try.prog w 0 (fun _ => true) true m 3 [c4] = some y4 := by simpa [Try.ci] using g4
    obtain ⟨a4, e4, _, w4⟩ := DataW.trod_int Try.underlying3 g4
    have b4 := bounds_i64 w4
    have g5 := hf 5 _ rfl
    replace g5 : DataW.trod enc Try.prog w 0 (fun _ => true) true m 24 [c5] = some y5 := by simpa [Try.cB] using g5
    have s5 : Small Try.prog 24 y5.1 := Small.struct Try.underlying62 hs (j := 5) (d := y5.1) rfl rfl
    obtain ⟨u5, a5, e5, hB5⟩ := open_bytes Try.underlying24 Try.underlying5 Try.cb Try.bb g5 s5
    simp only [List.cons.injEq, and_true] at e0 e1 e2 e3 e4 e5
    subst e0 e1 e2 e3 e4 e5
    exact ⟨⟨a0, a1, a2, a3, a4, a5⟩, ⟨_, rfl, hB5, ⟨b0.1, b0.2⟩, ⟨b1.1, b1.2⟩, ⟨b2.1, b2.2⟩, ⟨b3.1, b3.2⟩, ⟨b4.1, b4.2⟩⟩⟩
theorem Try.cL_cmd : Try.prog.cellsOf 58 = 1 := by kernel_rfl
theorem Try.bytes_cmd : Try.prog.bytesOf 62 = 64 := by kernel_rfl
set_option maxRecDepth 100000 in
theorem open_L_cmd {H : Type} {enc : TypeId × Value → H} {w : World} {n : Nat} {cs : List Value} {x : DataW H × List MemPlace} (h : DataW.trod enc Try.prog w 0 (fun _ => true) true n 58 cs = some x) (hs : Small Try.prog 58 x.1) :
    ∃ v l, cs = [v] ∧ IsL Rp.cmd w (· < w.heap.size) v l ∧ l.length * 64 ≤ 140737488351232 := by
  obtain ⟨v, l, e, hL, hb⟩ := open_list Rp.cmd Try.underlying58 Try.cells_cmd (by rw [Try.bytes_cmd]; decide) (by decide) h hs fun _ _ _ h s => open_cmd h s
  rw [Try.bytes_cmd] at hb
  exact ⟨v, l, e, hL, hb⟩
set_option maxRecDepth 100000 in
theorem open_LA_cmd {H : Type} {enc : TypeId × Value → H} {w : World} {base : Nat} {v : Value} {d : DataW H} {p : List MemPlace} (hv : Value.okWide Try.prog w .any base 58 v) (h : DataW.Trod enc Try.prog w 0 (fun _ => true) true 58 v d p) (hs : Small Try.prog 58 d) :
    ∃ l, IsL Rp.cmd w (· < w.heap.size) v l ∧ l.length * 64 ≤ 140737488351232 := by
  obtain ⟨A, n, c, rfl⟩ := okWide_slice Try.underlying58 hv
  obtain ⟨fuel, hf⟩ := h
  obtain ⟨v', l, hcs, hB⟩ := open_L_cmd hf hs
  have : Value.slice A n c = v' := by simpa [Value.cells] using hcs
  rw [this]
  exact ⟨l, hB⟩


/-- a zone's three cells -/
def cellsZ (z : Zn) (A : Option Addr) (c : Nat) : List Value := [.int .i64 z.st, .int .i64 z.fe, .slice A z.d.length c]
theorem rp_isZ {w : World} {K : Nat → Prop} {cs : List Value} {z : Zn} (h : Rp.zone.is w K cs z) : ∃ A c, cs = cellsZ z A c ∧ IsB w K (.slice A z.d.length c) z.d := by
  obtain ⟨v, rfl, h1⟩ := h
  have h0 := h1
  obtain ⟨A, c, rfl, _⟩ := h1
  exact ⟨A, c, rfl, h0⟩
theorem isZ_rp {w : World} {K : Nat → Prop} {A : Option Addr} {c : Nat} {z : Zn} (h : IsB w K (.slice A z.d.length c) z.d) : Rp.zone.is w K (cellsZ z A c) z := ⟨_, rfl, h⟩
abbrev ZoneAt (W : World) (a : Addr) (z : Zn) (A : Option Addr) (c : Nat) : Prop :=
  W.cell? a = some (.int .i64 z.st) ∧ W.cell? ⟨a.block, a.off + 1, none⟩ = some (.int .i64 z.fe) ∧ W.cell? ⟨a.block, a.off + 2, none⟩ = some (.slice A z.d.length c)
theorem ZoneAt.step {w W : World} {a : Addr} {z : Zn} {A : Option Addr} {c : Nat} (h : ZoneAt w a z A c) (hb : Below w.heap.size w W) : ZoneAt W a z A c := by
  obtain ⟨h0, h1, h2⟩ := h
  exact ⟨(hb.cell (World.block_lt_of_cell? w _ h0)).trans h0, (hb.cell (World.block_lt_of_cell? w _ h1)).trans h1, (hb.cell (World.block_lt_of_cell? w _ h2)).trans h2⟩
theorem Stable.zoneAt {a : Addr} {z : Zn} {A : Option Addr} {c : Nat} : Stable (fun w => ZoneAt w a z A c) := fun _ _ h hb => h.step hb
theorem IsL.zone_at {w : World} {K : Nat → Prop} {A : Option Addr} {n c : Nat} {l : List Zn} (h : IsL Rp.zone w K (.slice A n c) l) {j : Nat} {z : Zn} (hz : l[j]? = some z) :
    ∃ ad B d, A = some ad ∧ ad.block < w.heap.size ∧ K ad.block ∧ IsB w K (.slice B z.d.length d) z.d ∧ ZoneAt w (ad.add (j * 3)) z B d := by
  obtain ⟨ad, es, rfl, hK, hes, hcell⟩ := h.at_ hz
  obtain ⟨B, d, rfl, hB⟩ := rp_isZ hes
  unfold cellsZ at hcell
  have h0 : w.cell? (ad.add (j * 3)) = some (.int .i64 z.st) := by rw [← addr0 (ad.add (j * 3))]; exact hcell 0 _ rfl
  have hlt := World.block_lt_of_cell? w _ h0
  rw [block_of_add] at hlt
  refine ⟨ad, B, d, rfl, hlt, hK, hB, h0, ?_, ?_⟩
  · rw [← addrS _ 1 (by decide)]; exact hcell 1 _ rfl
  · rw [← addrS _ 2 (by decide)]; exact hcell 2 _ rfl
theorem IsZs.of {w : World} {K : Nat → Prop} {A : Option Addr} {n c : Nat} {l : List Zn} (h : IsL Rp.zone w K (.slice A n c) l) : IsZs w K A l := by
  intro hn
  obtain ⟨ad, B, d, rfl, _, hK, _⟩ := h.zone_at (List.getElem?_eq_getElem hn)
  refine ⟨ad, rfl, hK, fun i z hz => ?_⟩
  obtain ⟨ad', B, d, e, _, _, hB, h0, h1, h2⟩ := h.zone_at hz
  injection e with e
  subst e
  exact ⟨B, d, h0, h1, h2, hB⟩

theorem CellsL.set {α : Type} {R : Rp α} {w : World} {K : Nat → Prop} {cs es : List Value} {l : List α} {a : α} {i : Nat} (h : CellsL R w K cs l) (ha : R.is w K es a) (hi : i < l.length) : CellsL R w K (cs.take (i * R.size) ++ es ++ cs.drop ((i + 1) * R.size)) (l.set i a) := by
  rw [List.set_eq_take_append_cons_drop, if_pos hi]
  have := ((h.take i).snoc ha).append (h.drop (i + 1))
  simpa using this
theorem set3_eq (l : List Value) (o : Nat) (x0 x1 x2 : Value) (h : o + 3 ≤ l.length) : ((l.set o x0).set (o + 1) x1).set (o + 2) x2 = l.take o ++ [x0, x1, x2] ++ l.drop (o + 3) := by
  have e : l = l.take o ++ l.drop o := (List.take_append_drop o l).symm
  have hd : l.drop o = [l[o], l[o + 1], l[o + 2]] ++ l.drop (o + 3) := by
    rw [List.drop_eq_getElem_cons (by omega), List.drop_eq_getElem_cons (by omega), List.drop_eq_getElem_cons (by omega)]
    rfl
  have hl : (l.take o).length = o := by rw [List.length_take]; omega
  generalize l.take o = a at e hl ⊢
  generalize l.drop (o + 3) = b at hd ⊢
  rw [hd] at e
  generalize l[o] = y0 at e; generalize l[o + 1] = y1 at e; generalize l[o + 2] = y2 at e
  clear hd h
  subst e hl
  simp

abbrev FreeZ (W : World) (g o : Nat) : Prop := W.frozen? ⟨g, o, none⟩ = false ∧ W.frozen? ⟨g, o + 1, none⟩ = false ∧ W.frozen? ⟨g, o + 2, none⟩ = false
abbrev ZoneL (W : World) (g o : Nat) (z : Zn) (A : Option Addr) (c : Nat) : Prop :=
  W.cell? ⟨g, o, none⟩ = some (.int .i64 z.st) ∧ W.cell? ⟨g, o + 1, none⟩ = some (.int .i64 z.fe) ∧ W.cell? ⟨g, o + 2, none⟩ = some (.slice A z.d.length c)
/-- block g holds the zones l, then others -/
def RowZ (w : World) (g : Nat) (t : TypeId) (K : Nat → Prop) (l : List Zn) : Prop := ∃ cs sp, Blk w g t (cs ++ sp).toArray ∧ CellsL Rp.zone w K cs l
theorem RowZ.of {w : World} {base : Nat} {t : TypeId} {K : Nat → Prop} {g n c : Nat} {cs : List Value} {l : List Zn} (h : w.ownsRow base t 3 (.slice (some ⟨g, 0, none⟩) n c) n cs) (hcl : CellsL Rp.zone w K cs l) : RowZ w g t K l := by
  rcases h.2 with ⟨h2, _⟩ | ⟨g', cap, cur, hv, hg, hh, h3, h4, h5, h6⟩
  · cases h2
  · injection hv with e1 e2 e3
    injection e1 with e1
    injection e1 with e1
    subst e1 e3
    refine ⟨cs, cur.toList.drop (n * 3), ?_, hcl⟩
    unfold Blk
    rw [hh, ← h6, List.take_append_drop]
section
variable {w w' : World} {g : Nat} {t : TypeId} {K K' : Nat → Prop} {l : List Zn} {z : Zn} {S : Nat → Prop}
theorem RowZ.lt (h : RowZ w g t K l) : g < w.heap.size := by obtain ⟨cs, sp, h1, _⟩ := h; exact h1.lt
theorem RowZ.step (h : RowZ w g t K l) (hb : Below w.heap.size w w') : RowZ w' g t K l := by
  obtain ⟨cs, sp, h1, h2⟩ := h; exact ⟨cs, sp, h1.step hb, h2.step hb⟩
theorem RowZ.more (h : RowZ w g t K l) (hK : ∀ b, K b → K' b) : RowZ w g t K' l := by obtain ⟨cs, sp, h1, h2⟩ := h; exact ⟨cs, sp, h1, h2.more hK⟩
theorem RowZ.turned (h : RowZ w g t K l) (ht : Turned w w' S) (hg : ¬ S g) (hK : ∀ b, K b → ¬ S b) : RowZ w' g t K l := by
  obtain ⟨cs, sp, h1, h2⟩ := h; exact ⟨cs, sp, h1.turned ht hg, h2.turned ht hK⟩
theorem RowZ.far (h : RowZ w g t K l) {g' : Nat} (hg : g ≠ g') (hK : ¬ K g') (i : Nat) (u : Value) : RowZ (w.setCell ⟨g', i, none⟩ u) g t K l :=
  h.turned (S := fun b => b = g') (Turned.set (S := fun b => b = g') (g := g') (Turned.refl w _) rfl i u) hg (fun b hb e => hK (by rw [← e]; exact hb))
theorem addG (g o : Nat) : ((⟨g, 0, none⟩ : Addr).add o) = ⟨g, o, none⟩ := by unfold Addr.add; split <;> simp_all
theorem RowZ.at_ (h : RowZ w g t K l) {j : Nat} (hz : l[j]? = some z) : ∃ A c, IsB w K (.slice A z.d.length c) z.d ∧ ZoneL w g (j * 3) z A c ∧ FreeZ w g (j * 3) := by
  obtain ⟨cs, sp, h1, h2⟩ := h
  obtain ⟨es, hes, hcell⟩ := h2.at_ hz
  obtain ⟨A, c, rfl, hB⟩ := rp_isZ hes
  have hc : ∀ (k : Nat) u, (cellsZ z A c)[k]? = some u → w.cell? ⟨g, j * 3 + k, none⟩ = some u := fun k u hu => by
    rw [h1.cell]
    have := hcell k u hu
    have e : Rp.zone.size = 3 := rfl
    rw [e] at this
    simp only [List.getElem?_toArray]
    rw [List.getElem?_append_left (List.getElem?_eq_some_iff.1 this).1]
    exact this
  unfold cellsZ at hc
  exact ⟨A, c, hB, ⟨hc 0 _ rfl, hc 1 _ rfl, hc 2 _ rfl⟩, h1.frozen _, h1.frozen _, h1.frozen _⟩
/-- a zone's cells stored at o in block g -/
abbrev setZ (w : World) (g o : Nat) (z : Zn) (A : Option Addr) (c : Nat) : World := ((w.setCell ⟨g, o, none⟩ (.int .i64 z.st)).setCell ⟨g, o + 1, none⟩ (.int .i64 z.fe)).setCell ⟨g, o + 2, none⟩ (.slice A z.d.length c)
theorem turn_setZ {w0 : World} (h : Turned w0 w S) (hg : S g) (o : Nat) (z : Zn) (A : Option Addr) (c : Nat) : Turned w0 (setZ w g o z A c) S := ((h.set hg _ _).set hg _ _).set hg _ _
theorem RowZ.put (h : RowZ w g t K l) {i : Nat} (hi : i < l.length) {A : Option Addr} {c : Nat} (hB : IsB w K (.slice A z.d.length c) z.d) (hK : ∀ b, K b → b ≠ g) : RowZ (setZ w g (i * 3) z A c) g t K (l.set i z) := by
  have ht := turn_setZ (S := fun b => b = g) (Turned.refl w _) rfl (i * 3) z A c
  obtain ⟨cs, sp, h1, h2⟩ := h
  have hlen : cs.length = l.length * 3 := h2.len
  have hs := (h2.set (isZ_rp hB) hi).turned ht hK
  refine ⟨_, sp, ?_, hs⟩
  have hb := (((h1.set_ (i * 3) (.int .i64 z.st)).set_ (i * 3 + 1) (.int .i64 z.fe)).set_ (i * 3 + 2) (.slice A z.d.length c))
  have hfit : i * 3 + 3 ≤ (cs ++ sp).length := by rw [List.length_append]; omega
  have e := set3_eq (cs ++ sp) (i * 3) (.int .i64 z.st) (.int .i64 z.fe) (.slice A z.d.length c) hfit
  simp only [List.setIfInBounds_toArray] at hb
  rw [e] at hb
  rw [List.take_append_of_le_length (by omega), List.drop_append_of_le_length (by omega)] at hb
  have e2 : (i + 1) * Rp.zone.size = i * 3 + 3 := by show (i + 1) * 3 = _; omega
  rw [e2]
  have e3 : Rp.zone.size = 3 := rfl
  rw [e3]
  simpa [cellsZ] using hb
/-- all of them, as a slice -/
theorem RowZ.isL (h : RowZ w g t K l) {c : Nat} (hkc : l.length ≤ c) (hc : c ≤ 9223372036854775807) (hl : l.length ≤ 140737488355328) : IsL Rp.zone w (fun b => b = g ∨ K b) (.slice (some ⟨g, 0, none⟩) l.length c) l := by
  obtain ⟨cs, sp, h1, h2⟩ := h
  have hlen : cs.length = l.length * 3 := h2.len
  refine ⟨_, c, cs, rfl, ⟨hlen, fun _ => ⟨_, rfl, .inl rfl, fun j u hu => ?_⟩⟩, h2.more fun b hb => .inr hb, hkc, hc, hl⟩
  rw [addG, h1.cell]
  simp only [List.getElem?_toArray]
  rw [List.getElem?_append_left (List.getElem?_eq_some_iff.1 hu).1]; exact hu
end
end Go.Proofs.Ytcjmcfjjbicimaa
