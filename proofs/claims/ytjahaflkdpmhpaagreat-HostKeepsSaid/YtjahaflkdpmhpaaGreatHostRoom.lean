/- A part of the proof. -/
import Derived.Test.YtjahaflkdpmhpaaGreatHostRecs
set_option linter.unusedSimpArgs false
set_option maxHeartbeats 4000000
set_option maxRecDepth 100000
namespace Go.Proofs.YtjahaflkdpmhpaaGreat
open Go.RowKit
structure Og where
 op : Int
 lba : Int
 n : Int
 k : Int
 zone : Int
def Og.ok (o : Og) : Prop := (-9223372036854775808 ≤ o.op ∧ o.op ≤ 9223372036854775807) ∧ (-9223372036854775808 ≤ o.lba ∧ o.lba ≤ 9223372036854775807) ∧ (-9223372036854775808 ≤ o.n ∧ o.n ≤ 9223372036854775807) ∧ (-9223372036854775808 ≤ o.k ∧ o.k ≤ 9223372036854775807) ∧ (-9223372036854775808 ≤ o.zone ∧ o.zone ≤ 9223372036854775807)
abbrev ogC (o : Og) : Array Value := #[.int .i64 o.op, .int .i64 o.lba, .int .i64 o.n, .int .i64 o.k, .int .i64 o.zone]
def grK (o : Og) : Int := 1 + (o.k.tmod 4 + 4) % 4
def grN (o : Og) : Int := 1 + (o.n.tmod 4 + 4) % 4
def grL (o : Og) : Int := (o.lba.tmod 60 + 60) % 60
def b8 (x : Int) : UInt8 := UInt8.ofNat (x % 256).toNat
def grIo (o : Og) (i : Int) (j : Nat) : Io := ⟨1, grL o + j * grK o, grK o, List.replicate (16 * grK o).toNat (b8 (1 + i * 5 + j))⟩
def groupL (o : Og) (i : Int) : List Io := if o.op = 1 then [⟨2, grL o, grK o, []⟩] else (List.range (grN o).toNat).map (grIo o i)
theorem grK_in (o : Og) : 1 ≤ grK o ∧ grK o ≤ 4 := by
 have b1 := Int.tmod_lt_of_pos o.k (show (0 : Int) < 4 by omega)
 have b2 := Int.lt_tmod_of_pos o.k (show (0 : Int) < 4 by omega)
 unfold grK; omega
theorem grN_in (o : Og) : 1 ≤ grN o ∧ grN o ≤ 4 := by
 have b1 := Int.tmod_lt_of_pos o.n (show (0 : Int) < 4 by omega)
 have b2 := Int.lt_tmod_of_pos o.n (show (0 : Int) < 4 by omega)
 unfold grN; omega
theorem grL_in (o : Og) : 0 ≤ grL o ∧ grL o < 60 := by
 have b1 := Int.tmod_lt_of_pos o.lba (show (0 : Int) < 60 by omega)
 have b2 := Int.lt_tmod_of_pos o.lba (show (0 : Int) < 60 by omega)
 unfold grL; omega
theorem b8_val (x : Int) : ((b8 x).toNat : Int) = x % 256 := by
 unfold b8
 rw [UInt8.toNat_ofNat', Nat.mod_eq_of_lt (by omega)]
 omega
theorem groupL_ne (o : Og) (i : Int) : groupL o i ≠ [] := by
 unfold groupL
 split
 · simp
 · have := grN_in o
   intro h
   have h2 := congrArg List.length h
   simp at h2
   omega
theorem groupL_len (o : Og) (i : Int) : (groupL o i).length ≤ 4 := by
 unfold groupL
 split
 · simp
 · have := grN_in o
   simp only [List.length_map, List.length_range]
   omega
theorem groupL_at {o : Og} {i : Int} {x : Io} (hx : x ∈ groupL o i) : (x.op = 2 ∧ x.lba = grL o ∧ x.n = grK o ∧ x.data = []) ∨ ∃ j : Nat, j < (grN o).toNat ∧ x = grIo o i j := by
 unfold groupL at hx
 split at hx
 · simp only [List.mem_singleton] at hx
   subst hx
   exact .inl ⟨rfl, rfl, rfl, rfl⟩
 · obtain ⟨j, hj, rfl⟩ := List.mem_map.1 hx
   exact .inr ⟨j, List.mem_range.1 hj, rfl⟩
theorem groupL_take (o : Og) (i : Int) (j : Nat) : (List.range (j + 1)).map (grIo o i) = (List.range j).map (grIo o i) ++ [grIo o i j] := by
 rw [List.range_succ, List.map_append]; rfl
theorem isL_ioB {w : World} {K : Nat → Prop} {A : Option Addr} {c g n : Nat} {o : Io} (hg : w.heap.size = g) (hv : IsB w K (.slice A n c) o.data) (h : (-9223372036854775808 ≤ o.op ∧ o.op ≤ 9223372036854775807) ∧ (-9223372036854775808 ≤ o.lba ∧ o.lba ≤ 9223372036854775807) ∧ (-9223372036854775808 ≤ o.n ∧ o.n ≤ 9223372036854775807)) :
 IsL Rp.io (w.alloc (.cells #[.int .i64 o.op, .int .i64 o.lba, .int .i64 o.n, .slice A n c] 72)) (fun b => b = g ∨ K b) (.slice (some ⟨g, 0, none⟩) 1 1) [o] :=
 ⟨_, 1, _, rfl, (Reads.new (n := 1) (size := 4) hg rfl rfl).more (fun _ h => .inl h), CellsL.single ⟨_, rfl, (hv.alloc _).more fun _ h => .inr h, h.1, h.2.1, h.2.2⟩, by simp, by omega, by simp⟩
theorem Tryz.infIo : (Tryz.prog.info? 72).map (fun i => (i.zero, i.size, i.bytes)) = some (some (.agg #[.int .i64 0, .int .i64 0, .int .i64 0, .slice none 0 0]), 4, 48) := by kernel_rfl
theorem group17_any (o : Og) (i : Int) (w : World) (hi : 0 ≤ i ∧ i ≤ 1000) (ho : o.ok) :
 Calls Tryz.prog 17 #[.agg (ogC o), .int .i64 i] w fun e w' => ∃ A c, e = .returned (.slice A (groupL o i).length c) ∧ IsL Rp.io w' (fun b => w.heap.size ≤ b) (.slice A (groupL o i).length c) (groupL o i) ∧ Below w.heap.size w w' := by
 obtain ⟨r0, r1, r2, r3, r4⟩ := ho
 have hk := grK_in o
 have hn := grN_in o
 have hl := grL_in o
 have b1 := Int.tmod_lt_of_pos o.k (show (0 : Int) < 4 by omega)
 have b2 := Int.lt_tmod_of_pos o.k (show (0 : Int) < 4 by omega)
 have b3 := Int.tmod_lt_of_pos o.n (show (0 : Int) < 4 by omega)
 have b4 := Int.lt_tmod_of_pos o.n (show (0 : Int) < 4 by omega)
 have b5 := Int.tmod_lt_of_pos o.lba (show (0 : Int) < 60 by omega)
 have b6 := Int.lt_tmod_of_pos o.lba (show (0 : Int) < 60 by omega)
 obtain ⟨res, hres⟩ : ∃ res, groupL o i = res := ⟨_, rfl⟩
 rw [hres]
 have HR := Lib.hid hres
 clear hres
 go_enter Tryz.func17, Tryz.ntmps17
 have E := (Kn.start w).push 24 (ogC o)
 have hb1 := (Below.refl w.heap.size w).alloc (Nat.le_refl _) (.cells (ogC o) 24)
 go_upto_region 1 with fail
 generalize w.alloc (.cells (ogC o) 24) = w1 at E hb1 ⊢
 have hg1 : w.heap.size < w1.heap.size := (E.at_ m0).lt
 obtain ⟨q0, f0, t0⟩ := E.rules m0
 go_upto_region 5 with fail
 rw [show 1 + o.k.tmod 4 % 4 = grK o by unfold grK; omega, show 1 + o.n.tmod 4 % 4 = grN o by unfold grN; omega, show (o.lba.tmod 60 + 60) % 60 = grL o from rfl]
 obtain ⟨i7, hi7, hx0, hx1, hx2⟩ := info_parts Tryz.infIo
 by_cases h1 : o.op = 1
 · have hG : res = [⟨2, grL o, grK o, []⟩] := by rw [← HR.out]; unfold groupL; rw [if_pos h1]
   subst hG
   clear HR
   go_wp2_with fail
   go_ret
   refine ⟨_, _, rfl, ?_, hb1.alloc hb1.size _⟩
   exact (isL_ioB (w := w1) (o := ⟨2, grL o, grK o, []⟩) rfl (IsB.nil_ _ (fun _ => False)) (by dsimp only; omega)).more fun b hb => by rcases hb with hb | hb; omega; exact hb.elim
 have hG : res = (List.range (grN o).toNat).map (grIo o i) := by rw [← HR.out]; unfold groupL; rw [if_neg h1]
 obtain ⟨n, hn'⟩ : ∃ n : Nat, (grN o).toNat = n := ⟨_, rfl⟩
 have hnn : grN o = (n : Int) := by omega
 have hrl : res.length = n := by rw [hG, List.length_map, List.length_range, hn']
 rw [hn'] at hG
 have HG := Lib.hid hG
 have HL := Lib.hid hrl
 clear HR hG hrl hn'
 rw [hnn]
 rw [hnn] at hn
 clear hnn b1 b2 b3 b4 b5 b6
 go_upto_region 8 with fail
 generalize (o.k.tmod 4 + 4) % 4 = d1
 generalize (o.n.tmod 4 + 4) % 4 = d2
 generalize (o.op == (1 : Int)) = d3
 clear h1
 go_loopw [5, 9, 35] (fun x5 x9 x35 wr => ∃ (j : Nat) (A5 : Option Addr) (c5 : Nat), x35 = .int .i64 j ∧ j ≤ n ∧ x5 = .slice A5 j c5 ∧ OwnR Rp.io wr w1.heap.size 72 (fun b => w1.heap.size ≤ b) (.slice A5 j c5) ((List.range j).map (grIo o i)) ∧ Below w1.heap.size w1 wr ∧ ∃ y, x9 = y) (fun _ _ x35 _ => n - (intOf x35).toNat)
 case atStart => exact ⟨0, none, 0, rfl, Nat.zero_le _, rfl, OwnR.nil_ _ _ _ _, Below.refl _ _, _, rfl⟩
 case round =>
  obtain ⟨j, A5, c5, rfl, hj, rfl, hown, hb, y, rfl⟩ := hrel
  by_cases hlt : j < n
  case neg =>
   obtain rfl : j = n := by omega
   have ho' : IsL Rp.io wr (fun b => w.heap.size ≤ b) (.slice A5 j c5) ((List.range j).map (grIo o i)) := OwnR.isL hown (X' := fun b => w.heap.size ≤ b) (by simp; omega) (fun b hb => by omega) (fun b hb => by omega)
   rw [← HG.out] at ho'
   have hbe := hb1.trans (hb.mono hb1.size)
   have hlen := HL.out
   subst hlen
   clear hown hb E HG HL
   go_wp2_with fail
   go_ret
   exact ⟨_, _, rfl, ho', hbe⟩
  have j1 : (j : Int) < (n : Int) := by omega
  have j0 : (0 : Int) ≤ (j : Int) := by omega
  have hm : 0 ≤ (j : Int) * grK o ∧ (j : Int) * grK o ≤ 4 * 4 := ⟨Int.mul_nonneg j0 (by omega), Int.mul_le_mul (by omega) (by omega) (by omega) (by omega)⟩
  have hf := fun W => fill17_any (b8 (1 + i * 5 + j)) (16 * grK o).toNat W (by omega)
  rw [b8_val, Int.toNat_of_nonneg (by omega)] at hf
  have e1 : IntKind.i64.wrap ((j : Int) * grK o) = (j : Int) * grK o := IntWalk.i64_in _ (by omega)
  have e2 : IntKind.i64.wrap (grL o + (j : Int) * grK o) = grL o + (j : Int) * grK o := IntWalk.i64_in _ (by omega)
  obtain ⟨m, hmk⟩ : ∃ m : Nat, (16 * grK o).toNat = m := ⟨_, rfl⟩
  have hm64 : m ≤ 64 := by omega
  rw [hmk] at hf
  go_wp2_with fail
  refine (hf _).mono ?_
  rintro e w9 ⟨A9, c9, rfl, own9, hb9⟩
  have hd9 : IsB w9 (fun b => wr.heap.size ≤ b) (.slice A9 m c9) (grIo o i j).data := by
   have := IsB.of_own (l := List.replicate m (b8 (1 + i * 5 + j))) (by rw [List.length_replicate]; exact own9) (by rw [List.length_replicate]; omega)
   rw [List.length_replicate] at this
   rw [show (grIo o i j).data = List.replicate m (b8 (1 + i * 5 + j)) by rw [← hmk]; rfl]
   exact this
  obtain ⟨hjq, xs, hrow, hcl⟩ := (hown.step hb9).open_
  rw [← hjq] at hrow hcl
  have HOL := Lib.hid (OwnR.lt hown)
  have HJQ := Lib.hid hjq
  have hst : Below w9.heap.size w9 (w9.alloc (.cells #[.int .i64 1, .int .i64 (grL o + (j : Int) * grK o), .int .i64 (grK o), .slice A9 m c9] 72)) := (Below.refl _ _).alloc (Nat.le_refl _) _
  have hrow' := own_below hrow hst (Nat.le_refl _)
  have hrn : Reads (w9.alloc (.cells #[.int .i64 1, .int .i64 (grL o + (j : Int) * grK o), .int .i64 (grK o), .slice A9 m c9] 72)) (fun b => b = w9.heap.size) 4 (some ⟨w9.heap.size, 0, none⟩) 1 [.int .i64 1, .int .i64 (grL o + (j : Int) * grK o), .int .i64 (grK o), .slice A9 m c9] := Reads.new rfl rfl rfl
  have hdb := hd9.lt.step hst
  have hw9 := hb9.size
  have hwr := hb.size
  clear hjq hown hd9 own9 hf
  go_wp2_with (at_builtin; go_must (refine wpList_appN rfl _ _ _ rfl w1.heap.size 72 i7 _ 4 48 Tryz.underlying55 hi7 hx0 hx1 hx2 rfl (by omega) rfl hrow' rfl hrn (by simp [Value.oneCell']) (by simp only [maxLen]; omega) (by omega) (by simp; omega) ?_); intro A10 c10 w10 own10 hg10)
  have hX : Rp.io.is (w9.alloc (.cells #[.int .i64 1, .int .i64 (grL o + (j : Int) * grK o), .int .i64 (grK o), .slice A9 m c9] 72)) (fun b => w1.heap.size ≤ b ∧ b < (w9.alloc (.cells #[.int .i64 1, .int .i64 (grL o + (j : Int) * grK o), .int .i64 (grK o), .slice A9 m c9] 72)).heap.size ∧ some b ≠ (Value.slice A5 j c5).ownBlock) [.int .i64 1, .int .i64 (grL o + (j : Int) * grK o), .int .i64 (grK o), .slice A9 m c9] (grIo o i j) :=
   ⟨_, rfl, hdb.more (fun b hb => ⟨by have := hb.1; omega, by have := hb.2; have := hst.size; omega, fun e => by have := (HOL.out b e.symm).2; have := hb.1; omega⟩), ⟨by show (-9223372036854775808 : Int) ≤ 1; decide, by show (1 : Int) ≤ 9223372036854775807; decide⟩, ⟨by show _ ≤ grL o + (j : Int) * grK o; omega, by show grL o + (j : Int) * grK o ≤ _; omega⟩, ⟨by show _ ≤ grK o; omega, by show grK o ≤ _; omega⟩⟩
  have hq0 : ((List.range j).map (grIo o i)).length = j := by simp
  have hq1 : ((List.range j).map (grIo o i) ++ [grIo o i j]).length = j + 1 := by simp
  have hpush := OwnR.appL (R := Rp.io) hq0 hq1 ((hcl.step hst).more fun b hb => ⟨hb.1, by have := hb.2.1; have := hst.size; omega, hb.2.2⟩) ⟨[.int .i64 1, .int .i64 (grL o + (j : Int) * grK o), .int .i64 (grK o), .slice A9 m c9], [], (List.append_nil _).symm, hX, rfl⟩ own10 hg10
  rw [← groupL_take] at hpush
  go_roundw
  case rel => exact ⟨j + 1, A10, c10, by go_num, by omega, rfl, hpush, ((hb.trans (hb9.mono hwr)).trans (hst.mono (Nat.le_trans hwr hw9))).trans hg10.below, _, rfl⟩
  case measure => simp [intOf]; omega
end Go.Proofs.YtjahaflkdpmhpaaGreat
namespace Go.Proofs.YtjahaflkdpmhpaaGreat
open Go.RowKit Go.WideShapes Go.ChangeShapes Go.Deep
def Rp.og : Rp Og := ⟨5, fun _ _ cs o => cs = [.int .i64 o.op, .int .i64 o.lba, .int .i64 o.n, .int .i64 o.k, .int .i64 o.zone] ∧ (-9223372036854775808 ≤ o.op ∧ o.op ≤ 9223372036854775807) ∧ (-9223372036854775808 ≤ o.lba ∧ o.lba ≤ 9223372036854775807) ∧ (-9223372036854775808 ≤ o.n ∧ o.n ≤ 9223372036854775807) ∧ (-9223372036854775808 ≤ o.k ∧ o.k ≤ 9223372036854775807) ∧ (-9223372036854775808 ≤ o.zone ∧ o.zone ≤ 9223372036854775807),
 by rintro _ _ _ _ ⟨rfl, r0, r1, r2, r3, r4⟩; rfl,
 fun h _ => h,
 fun h _ => h,
 by
  rintro _ _ _ _ ⟨rfl, r0, r1, r2, r3, r4⟩ u hu
  simp only [List.mem_cons, List.not_mem_nil, or_false] at hu
  rcases hu with rfl | rfl | rfl | rfl | rfl <;> first | rfl | assumption⟩
theorem Tryz.cells_og : Tryz.prog.cellsOf 24 = 5 := by kernel_rfl
theorem open_og {H : Type} {enc : TypeId × Value → H} {w : World} {n : Nat} {cs : List Value} {x : DataW H × List MemPlace} (h : DataW.trod enc Tryz.prog w 0 (fun _ => true) true n 24 cs = some x) (hs : Small Tryz.prog 24 x.1) :
 ∃ o, Rp.og.is w (· < w.heap.size) cs o := by
 obtain ⟨xs, m, _, rfl, hlen, hl, hf⟩ := DataW.trod_struct Tryz.underlying24 h
 rw [Tryz.cells_og] at hlen
 match cs, hlen, xs, hl with
 | [c0, c1, c2, c3, c4], _, [y0, y1, y2, y3, y4], _ =>
   have g0 := hf 0 _ rfl
   replace g0 : DataW.trod enc Tryz.prog w 0 (fun _ => true) true m 3 [c0] = some y0 := by simpa [Tryz.ci3] using g0
   obtain ⟨a0, e0, _, w0⟩ := DataW.trod_int Tryz.underlying3 g0
   have b0 := bounds_i64 w0
   have g1 := hf 1 _ rfl
   replace g1 : DataW.trod enc Tryz.prog w 0 (fun _ => true) true m 3 [c1] = some y1 := by simpa [Tryz.ci3] using g1
   obtain ⟨a1, e1, _, w1⟩ := DataW.trod_int Tryz.underlying3 g1
   have b1 := bounds_i64 w1
   have g2 := hf 2 _ rfl
   replace g2 : DataW.trod enc Tryz.prog w 0 (fun _ => true) true m 3 [c2] = some y2 := by simpa [Tryz.ci3] using g2
   obtain ⟨a2, e2, _, w2⟩ := DataW.trod_int Tryz.underlying3 g2
   have b2 := bounds_i64 w2
   have g3 := hf 3 _ rfl
   replace g3 : DataW.trod enc Tryz.prog w 0 (fun _ => true) true m 3 [c3] = some y3 := by simpa [Tryz.ci3] using g3
   obtain ⟨a3, e3, _, w3⟩ := DataW.trod_int Tryz.underlying3 g3
   have b3 := bounds_i64 w3
   have g4 := hf 4 _ rfl
   replace g4 : DataW.trod enc Tryz.prog w 0 (fun _ => true) true m 3 [c4] = some y4 := by simpa [Tryz.ci3] using g4
   obtain ⟨a4, e4, _, w4⟩ := DataW.trod_int Tryz.underlying3 g4
   have b4 := bounds_i64 w4
   simp only [List.cons.injEq, and_true] at e0 e1 e2 e3 e4
   subst e0 e1 e2 e3 e4
   exact ⟨⟨a0, a1, a2, a3, a4⟩, ⟨rfl, ⟨b0.1, b0.2⟩, ⟨b1.1, b1.2⟩, ⟨b2.1, b2.2⟩, ⟨b3.1, b3.2⟩, ⟨b4.1, b4.2⟩⟩⟩
theorem Tryz.bytes_og : Tryz.prog.bytesOf 24 = 40 := by kernel_rfl
theorem open_L_og {H : Type} {enc : TypeId × Value → H} {w : World} {n : Nat} {cs : List Value} {x : DataW H × List MemPlace} (h : DataW.trod enc Tryz.prog w 0 (fun _ => true) true n 22 cs = some x) (hs : Small Tryz.prog 22 x.1) :
 ∃ v l, cs = [v] ∧ IsL Rp.og w (· < w.heap.size) v l ∧ l.length * 40 ≤ 140737488351232 := by
 obtain ⟨v, l, e, hL, hb⟩ := open_list Rp.og Tryz.underlying22 Tryz.cells_og (by rw [Tryz.bytes_og]; decide) (by decide) h hs fun _ _ _ h s => open_og h s
 rw [Tryz.bytes_og] at hb
 exact ⟨v, l, e, hL, hb⟩
theorem open_LA_og {H : Type} {enc : TypeId × Value → H} {w : World} {base : Nat} {v : Value} {d : DataW H} {p : List MemPlace} (hv : Value.okWide Tryz.prog w .any base 22 v) (h : DataW.Trod enc Tryz.prog w 0 (fun _ => true) true 22 v d p) (hs : Small Tryz.prog 22 d) :
 ∃ l, IsL Rp.og w (· < w.heap.size) v l ∧ l.length * 40 ≤ 140737488351232 := by
 obtain ⟨A, n, c, rfl⟩ := okWide_slice Tryz.underlying22 hv
 obtain ⟨fuel, hf⟩ := h
 obtain ⟨v', l, hcs, hB⟩ := open_L_og hf hs
 have : Value.slice A n c = v' := by simpa [Value.cells] using hcs
 rw [this]
 exact ⟨l, hB⟩
theorem og_at {w : World} {K : Nat → Prop} {A : Option Addr} {n c : Nat} {l : List Og} (h : IsL Rp.og w K (.slice A n c) l) {j : Nat} {e : Og} (hj : l[j]? = some e) :
 ∃ ad, A = some ad ∧ K ad.block ∧ e.ok ∧ w.cell? (ad.add (j * 5)) = some (.int .i64 e.op) ∧ w.cell? ⟨(ad.add (j * 5)).block, (ad.add (j * 5)).off + 1, none⟩ = some (.int .i64 e.lba) ∧ w.cell? ⟨(ad.add (j * 5)).block, (ad.add (j * 5)).off + 2, none⟩ = some (.int .i64 e.n) ∧
   w.cell? ⟨(ad.add (j * 5)).block, (ad.add (j * 5)).off + 3, none⟩ = some (.int .i64 e.k) ∧ w.cell? ⟨(ad.add (j * 5)).block, (ad.add (j * 5)).off + 4, none⟩ = some (.int .i64 e.zone) := by
 obtain ⟨ad, es, hA, hKad, ⟨rfl, r⟩, hcell⟩ := h.at_ hj
 have hsz : Rp.og.size = 5 := rfl
 rw [hsz] at hcell
 refine ⟨ad, hA, hKad, r, ?_, ?_, ?_, ?_, ?_⟩
 · rw [← addr0 (ad.add (j * 5))]; exact hcell 0 _ rfl
 · rw [← addrS _ 1 (by decide)]; exact hcell 1 _ rfl
 · rw [← addrS _ 2 (by decide)]; exact hcell 2 _ rfl
 · rw [← addrS _ 3 (by decide)]; exact hcell 3 _ rfl
 · rw [← addrS _ 4 (by decide)]; exact hcell 4 _ rfl
end Go.Proofs.YtjahaflkdpmhpaaGreat
namespace Go.Proofs.YtjahaflkdpmhpaaGreat
open Go.RowKit
theorem hroom1_any (B g : Nat) (h : Ho) (vo vs vb vl vm : Value) (d : Zd) (A : Option Addr) (cz : Nat) (f : Fn) (K : Nat → Prop) (w : World) (hBB : Blk w B 202 #[.pointer (some ⟨g, 0, none⟩)]) (hB : Blk w g 204 (wrC h vo vs vb vl vm d (.slice A d.z.length cz))) (hz : IsL Rp.zone w K (.slice A d.z.length cz) d.z) (h0 : 0 ≤ f.zone) :
 Calls Tryz.prog 159 #[.agg #[.int .i64 f.zone, .int .i64 f.host, .int .i64 f.epoch], .pointer (some ⟨B, 0, none⟩)] w fun e w' => e = .returned (.bool (freeF d f)) ∧ Below w.heap.size w w' := by
 obtain ⟨fz, fh, fe⟩ := f
 obtain ⟨k, rfl⟩ : ∃ k : Nat, fz = k := ⟨fz.toNat, by simp only at h0; omega⟩
 simp only
 have E := (((Kn.start w).know hBB).know hB).give Stable.list hz |>.push 127 #[.int .i64 k, .int .i64 fh, .int .i64 fe]
 have hb1 := (Below.refl w.heap.size w).alloc (Nat.le_refl _) (.cells #[.int .i64 k, .int .i64 fh, .int .i64 fe] 127)
 obtain ⟨res, hres⟩ : ∃ res, freeF d ⟨k, fh, fe⟩ = res := ⟨_, rfl⟩
 rw [hres]
 unfold freeF at hres
 simp only [Int.toNat_natCast] at hres
 have HRES := Lib.hid hres
 obtain ⟨n, hn⟩ : ∃ n, d.z.length = n := ⟨_, rfl⟩
 have HN := Lib.hid hn
 have hlen := hz.len
 rw [hn] at E hlen HRES
 clear hBB hB hz hres h0 hn
 go_enter Tryz.func159, Tryz.ntmps159
 go_upto_region 1 with fail
 generalize w.alloc (.cells #[.int .i64 k, .int .i64 fh, .int .i64 fe] 127) = w1 at E hb1 ⊢
 obtain ⟨q0, f0, t0⟩ := E.rules m0
 obtain ⟨q1, f1, t1⟩ := E.rules m1
 obtain ⟨q2, f2, t2⟩ := E.rules m2
 have k0 : (0 : Int) ≤ (k : Int) := by omega
 by_cases h1 : k < n
 case neg =>
  have d1 : decide ((k : Int) < (n : Int)) = false := by simp only [decide_eq_false_iff_not]; omega
  have hr : res = false := by rw [← HRES.out, d1]; rfl
  subst hr
  go_quiet (fail)
  go_wp2
  go_ret
  exact ⟨rfl, below_drewN hb1 _⟩
 have h1' : k < d.z.length := by rw [HN.out]; exact h1
 obtain ⟨adz, Bz, cB, rfl, -, -, -, c0, c1, c2⟩ := IsL.zone_at (E.get m0) (List.getElem?_eq_getElem h1')
 have hgd : d.z.getD k z0 = d.z[k] := by rw [List.getD_eq_getElem?_getD, List.getElem?_eq_getElem h1']; rfl
 simp only [hgd] at HRES
 generalize d.z[k] = z at HRES c0 c1 c2
 have d1 : decide ((k : Int) < (n : Int)) = true := by simp only [decide_eq_true_eq]; omega
 have i1 : (k : Int) < (n : Int) := by omega
 obtain ⟨zst, zfe, zd⟩ := z
 simp only at HRES c0 c1 c2
 by_cases h2 : zst = 0
 case neg =>
  have d2 : decide (zst = 0) = false := decide_eq_false h2
  have d3 : (zst == (0 : Int)) = false := by simpa using h2
  have hr : res = false := by rw [← HRES.out, d1, d2]; rfl
  subst hr
  go_quiet (fail)
  go_wp2
  go_ret
  exact ⟨rfl, below_drewN hb1 _⟩
 subst h2
 have hr : res = decide (zfe = fe) := by rw [← HRES.out, d1]; rfl
 subst hr
 go_quiet (fail)
 go_wp2
 go_ret
 exact ⟨rfl, below_drewN hb1 _⟩
theorem hindex_any (B g : Nat) (h : Ho) (vo vs vb vl vm : Value) (d : Zd) (A : Option Addr) (cz : Nat) (Ao : Option Addr) (co : Nat) (l : List Fn) (K Ko : Nat → Prop) (w : World) (hBB : Blk w B 202 #[.pointer (some ⟨g, 0, none⟩)]) (hB : Blk w g 204 (wrC h vo vs vb vl vm d (.slice A d.z.length cz))) (hz : IsL Rp.zone w K (.slice A d.z.length cz) d.z)
 (hv : IsL Rp.fn w Ko (.slice Ao l.length co) l) (h0 : ∀ f ∈ l, 0 ≤ f.zone) :
 Calls Tryz.prog 158 #[.slice Ao l.length co, .func (.func 159) #[] #[.pointer (some ⟨B, 0, none⟩)]] w fun e w' =>
  e = .returned (.int .i64 (if l.findIdx (freeF d) < l.length then (l.findIdx (freeF d) : Int) else -1)) ∧ Below w.heap.size w w' := by
 have hlen := hv.len
 obtain ⟨n, hn⟩ : ∃ n, l.length = n := ⟨_, rfl⟩
 rw [hn] at hv hlen ⊢
 obtain ⟨p, hp⟩ : ∃ p, l.findIdx (freeF d) = p := ⟨_, rfl⟩
 rw [hp]
 have HN := Lib.hid hn
 have HP := Lib.hid hp
 obtain ⟨res, hres⟩ : ∃ res, (if p < n then (p : Int) else -1) = res := ⟨_, rfl⟩
 rw [hres]
 have HRES := Lib.hid hres
 clear hn hp hres
 have E := ((((Kn.start w).give Stable.list hv).know hBB).know hB).give Stable.list hz
 go_enter Tryz.func158, Tryz.ntmps158
 go_wp2_with fail
 go_loopw [5, 8] (fun x i wr => ∃ j : Nat, i = .int .i64 j ∧ j ≤ n ∧ Hid (∀ k e, k < j → l[k]? = some e → freeF d e = false) ∧ Below w.heap.size w wr ∧ (∃ y, x = y)) (fun _ i _ => n - (intOf i).toNat)
 case atStart => exact ⟨0, rfl, Nat.zero_le _, Lib.hid fun k e hk => by omega, Below.refl _ _, _, rfl⟩
 case round =>
  obtain ⟨j, rfl, hj, HI, hb, y, rfl⟩ := hrel
  have hsz := hb.size
  have F := E.step hb
  by_cases hlt : j < n
  · have hlt' : j < l.length := by rw [HN.out]; exact hlt
    have hje : l[j]? = some l[j] := List.getElem?_eq_getElem hlt'
    obtain ⟨ad, rfl, -, c0, c1, c2⟩ := fn_at (F.get m1) hje
    have he0 := h0 _ (List.getElem_mem hlt')
    have HJ := Lib.hid hje
    generalize l[j] = e at HJ c0 c1 c2 he0
    have j1 : (j : Int) < (n : Int) := by omega
    have j0 : (0 : Int) ≤ (j : Int) := by omega
    have hm1 := fun W a b c => hroom1_any B g h vo vs vb vl vm d A cz e K W a b c he0
    clear hje hlt'
    go_wp2_with fail
    refine (hm1 wr (F.at_ m1) (F.at_ m0) (F.get m0)).mono ?_
    rintro x w2 ⟨rfl, hb2⟩
    clear hm1 c0 c1 c2
    have hb3 := hb.trans (hb2.mono hsz)
    cases hfr : freeF d e with
    | true =>
      have hpj : p = j := by
       rw [← HP.out, List.findIdx_eq (by rw [HN.out]; exact hlt)]
       have hje := HJ.out
       obtain ⟨hlt', e1⟩ := List.getElem?_eq_some_iff.1 hje
       refine ⟨by rw [e1]; exact hfr, fun k hk => ?_⟩
       have := HI.out k _ hk (List.getElem?_eq_getElem (by omega))
       rw [this]
      have hr : res = (j : Int) := by rw [← HRES.out, hpj, if_pos hlt]
      subst hr
      clear hpj
      go_wp2
      go_ret
      exact ⟨rfl, hb3⟩
    | false =>
      have HI2 : Hid (∀ k e, k < j + 1 → l[k]? = some e → freeF d e = false) := Lib.hid fun k x hk hx => by
       by_cases hkj : k = j
       · subst hkj
         rw [HJ.out] at hx
         injection hx with hx
         subst hx
         exact hfr
       · exact HI.out k x (by omega) hx
      clear hfr
      go_wp2
      go_roundw
      case rel => exact ⟨j + 1, by go_num, by omega, HI2, hb3, _, rfl⟩
      case measure => simp [intOf]; omega
  · obtain rfl : j = n := by omega
    have hpj : ¬ p < j := by
     rw [← HP.out, ← HN.out]
     intro h
     have h2 : freeF d (l[l.findIdx (freeF d)]) = true := List.findIdx_getElem
     have h3 := HI.out _ _ (by rw [← HN.out]; exact h) (List.getElem?_eq_getElem h)
     rw [h2] at h3
     cases h3
    have hr : res = -1 := by rw [← HRES.out, if_neg hpj]
    subst hr
    clear hpj
    go_wp2
    go_ret
    exact ⟨rfl, hb⟩
end Go.Proofs.YtjahaflkdpmhpaaGreat
