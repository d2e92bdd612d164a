/- A part of the proof. -/
import Derived.Test.YtjahaflkdpmhpaaGreatHostDH
set_option linter.unusedSimpArgs false
set_option maxHeartbeats 16000000
set_option maxRecDepth 100000
namespace Go.Proofs.YtjahaflkdpmhpaaGreat
open Go.RowKit Go.WideMaps
def kF : Nat → Int := fun k => 1 + (k : Int)
def kd (M : Int) (n j : Nat) : Zd := devA M (fz kF n j)
theorem kF_in {k n : Nat} (hn : n ≤ 64) (hk : k < n) : 0 < kF k ∧ kF k ≤ 1000000 := by unfold kF; omega
theorem kh_blocks (ep : Int) (mm : List Ex) (v : Int) : blocksH (newH 1 mm v) 0 200 ep = ⟨1, [], [⟨0, 200, 1, ep⟩], false, p0k, mm, v + 1, 0⟩ := rfl
theorem newF_ge0 : ∀ (l : List Fd) (n : Int), n ≤ newF n l
 | [], _ => Int.le_refl _
 | f :: l, n => by
   unfold newF
   rw [List.foldl_cons]
   exact Int.le_trans (newR_ge f.l n).1 (newF_ge0 l _)
theorem ho_ver {w : World} {K : Nat → Prop} {cs : Array Value} {h : Ho} (hh : IsHo w K (.agg cs) h) : cs[13]? = some (.int .i64 h.ver) := by
 obtain ⟨vo, vs, vb, vl, vm, e, _⟩ := hh
 injection e with e
 rw [e]; rfl
theorem mine_keeps (ep b : Int) (hb : 0 ≤ b ∧ b < 100) : mineS [⟨0, 200, 1, ep⟩] b 1 = true := by
 unfold mineS reachS
 simp
 refine ⟨⟨by omega, by omega, by omega, by omega⟩, ?_⟩
 rw [if_pos (by omega)]
 omega
theorem read_keeps {n : Nat} {H : Nat → Hd} {log : List (Nat × Rc)} {zs : List Zn} {f : Int → UInt8} {h : Ho} {ep b : Int} (hg : GoodLogH H n 10000 log) (hz : DevH H log n zs) (hm : IsMapH H log n h.m) (hs : h.s = [⟨0, 200, 1, ep⟩]) (hw : WantF f log) (hb : 0 ≤ b ∧ b < 100) : readH zs h b 1 = (List.replicate 16 (f b), 0) := by
 unfold readH
 rw [if_neg (by intro h; exact h ⟨by omega, by omega, by omega, by omega⟩), hs, mine_keeps ep b hb, if_neg (by simp)]
 have h1 := readL_H hg (by decide) hz hm (lba := b) (k := 1) ⟨by omega, by omega, by omega, by omega⟩ (by decide)
 rw [show ((1 : Nat) : Int) = 1 from rfl] at h1
 rw [h1]
 unfold contL
 rw [← hw b]
 simp [List.range_succ]
structure DK (w : World) (gd gh mb : Nat) (wr : World) (d : Zd) (h : Ho) : Prop where
 below : Below w.heap.size w wr
 dev : ∃ A c, Blk wr gd 28 (zdC d A c) ∧ IsL Rp.zone wr (fun b => b ≠ gd ∧ b ≠ gh ∧ b ≠ mb) (.slice A d.z.length c) d.z
 host : ∃ cs, Blk wr gh 42 cs ∧ cs.size = 15 ∧ IsHo wr (fun b => b ≠ gd ∧ b ≠ gh ∧ b ≠ mb) (.agg cs) h
 g0 : w.heap.size ≤ gd
 gl : gd < gh
 gm : gh < mb
section
variable {w wr wr' : World} {gd gh mb : Nat} {d d' : Zd} {h h' : Ho}
theorem DK.of (hi : DH w gd gh wr d h) (hm : wr.heap.size = mb) (hb : Below wr.heap.size wr wr') : DK w gd gh mb wr' d h := by
 obtain ⟨h1, ⟨A, c, h2, h3⟩, ⟨cs, h4, h5, h6⟩, h7, h8⟩ := hi
 have hl := h4.lt
 exact ⟨h1.trans (hb.mono h1.size), ⟨A, c, h2.step hb, (h3.zlt.step hb).more fun b hb => ⟨hb.1.1, hb.1.2, by have := hb.2; omega⟩⟩, ⟨cs, h4.step hb, h5, (h6.lt.step hb).more fun b hb => ⟨hb.1.1, hb.1.2, by have := hb.2; omega⟩⟩, h7, h8, by omega⟩
theorem DK.step (hi : DK w gd gh mb wr d h) (hb : Below wr.heap.size wr wr') : DK w gd gh mb wr' d h := by
 obtain ⟨h1, ⟨A, c, h2, h3⟩, ⟨cs, h4, h5, h6⟩, h7, h8, h9⟩ := hi
 exact ⟨h1.trans (hb.mono h1.size), ⟨A, c, h2.step hb, h3.step hb⟩, ⟨cs, h4.step hb, h5, h6.step hb⟩, h7, h8, h9⟩
theorem DK.stD (hi : DK w gd gh mb wr d h) (ht : Turned wr wr' (fun b => b = gd)) {A : Option Addr} {c : Nat} (hz : IsL Rp.zone wr (fun b => b ≠ gd ∧ b ≠ gh ∧ b ≠ mb) (.slice A d'.z.length c) d'.z) (hB : Blk wr' gd 28 (zdC d' A c)) : DK w gd gh mb wr' d' h := by
 obtain ⟨h1, _, ⟨cs, h4, h5, h6⟩, h7, h8, h9⟩ := hi
 exact ⟨Turned.upon h1 ht h7 (Nat.le_refl _), ⟨A, c, hB, hz.turned ht (fun b hb e => hb.1 e)⟩, ⟨cs, h4.turned ht (by omega), h5, IsHo.keep h6 (ht.cells (K := fun b => b ≠ gd ∧ b ≠ gh ∧ b ≠ mb) fun b hb e => hb.1 e)⟩, h7, h8, h9⟩
theorem DK.stH (hi : DK w gd gh mb wr d h) (ht : Turned wr wr' (fun b => b = gh)) {cs : Array Value} (hn : cs.size = 15) (hh : IsHo wr (fun b => b ≠ gd ∧ b ≠ gh ∧ b ≠ mb) (.agg cs) h') (hB : Blk wr' gh 42 cs) : DK w gd gh mb wr' d h' := by
 obtain ⟨h1, ⟨A, c, h2, h3⟩, _, h7, h8, h9⟩ := hi
 exact ⟨Turned.upon h1 ht (by omega) (Nat.le_refl _), ⟨A, c, h2.turned ht (by omega), h3.turned ht (fun b hb e => hb.2.1 e)⟩, ⟨cs, hB, hn, IsHo.keep hh (ht.cells (K := fun b => b ≠ gd ∧ b ≠ gh ∧ b ≠ mb) fun b hb e => hb.2.1 e)⟩, h7, h8, h9⟩
theorem DK.map (hi : DK w gd gh mb wr d h) (ht : Turned wr wr' (fun b => b = mb)) : DK w gd gh mb wr' d h := by
 obtain ⟨h1, ⟨A, c, h2, h3⟩, ⟨cs, h4, h5, h6⟩, h7, h8, h9⟩ := hi
 exact ⟨Turned.upon h1 ht (by omega) (Nat.le_refl _), ⟨A, c, h2.turned ht (by omega), h3.turned ht (fun b hb e => hb.2.2 e)⟩, ⟨cs, h4.turned ht (by omega), h5, IsHo.keep h6 (ht.cells (K := fun b => b ≠ gd ∧ b ≠ gh ∧ b ≠ mb) fun b hb e => hb.2.2 e)⟩, h7, h8, h9⟩
theorem turned_grown {row : Nat} (hg : wr.grownBy wr' (some row)) : Turned wr wr' (fun b => b = row) := ⟨hg.os, hg.tape, hg.output, hg.size, fun k hk hn => hg.block k hk (fun e => hn (by injection e))⟩
end
theorem hostKeeps_all (hli : ∀ W : World, Calls Tryz.prog 10 #[] W fun e w' => e = .returned (.bool true) ∧ Below W.heap.size W w') (zones most : Int) (l : List Og) (v : Value) (w : World) (hv : IsL Rp.og w (· < w.heap.size) v l) :
 Calls Tryz.prog 5 #[.int .i64 zones, .int .i64 most, v] w fun e w' => e = .returned (.bool true) ∧ Below w.heap.size w w' := by
 obtain ⟨Aa, ca, rfl, -⟩ := hv.form
 have hlen := hv.len
 have E := (Kn.start w).give Stable.list hv
 obtain ⟨n, hn⟩ : ∃ n, l.length = n := ⟨_, rfl⟩
 rw [hn] at E hlen ⊢
 have HN := Lib.hid hn
 clear hn hv
 have b1 := Int.tmod_lt_of_pos zones (show (0 : Int) < 6 by omega)
 have b2 := Int.lt_tmod_of_pos zones (show (0 : Int) < 6 by omega)
 have b3 := Int.tmod_lt_of_pos most (show (0 : Int) < 600 by omega)
 have b4 := Int.lt_tmod_of_pos most (show (0 : Int) < 600 by omega)
 go_enter Tryz.func5, Tryz.ntmps5
 go_wp2_with fail
 refine (hli _).mono ?_
 rintro e w2 ⟨rfl, hb2⟩
 replace E := E.step hb2
 clear hb2 hli
 by_cases hle : n ≤ 40
 case neg =>
  have g1 : ¬ (n : Int) ≤ 40 := by omega
  go_wp2
  go_ret
  exact ⟨rfl, E.below⟩
 have g1 : (n : Int) ≤ 40 := by omega
 go_upto_region 6 with fail
 obtain ⟨Z, hZ⟩ : ∃ Z : Nat, (1 + zones.tmod 6 % 6).toNat = Z := ⟨_, rfl⟩
 obtain ⟨M, hM⟩ : ∃ M, 100 + most.tmod 600 % 600 = M := ⟨_, rfl⟩
 have hZ1 : 1 + zones.tmod 6 % 6 = (Z : Int) := by omega
 have hZ6 : 1 ≤ Z ∧ Z ≤ 6 := by omega
 have hM7 : 100 ≤ M ∧ M ≤ 699 := by omega
 rw [hZ1, hM]
 generalize (zones.tmod 6 + 6) % 6 = x1
 generalize (most.tmod 600 + 600) % 600 = x2
 generalize zones.tmod 6 = x3
 generalize most.tmod 600 = x4
 clear hZ hM hZ1 b1 b2 b3 b4 g1
 have hZ64 : 1 ≤ Z ∧ Z ≤ 64 := by omega
 have hM65 : 1 ≤ M ∧ M ≤ 65536 := by omega
 have hnw := fun W => znewK_any Z M Z Z W
 rw [newD_any kF hZ64 hM65, show devA M (fz kF Z 0) = kd M Z 0 from rfl] at hnw
 have hoz : ∀ j, OkA M (fz kF Z j) := fun j => fz_ok hM65 hZ64 fun k _ => by unfold kF; omega
 have hne := fun A c K W h => hnew_any 1 (kd M Z 0) A c K W (by decide) (hoz 0).ok h (by rw [show (kd M Z 0).z.length = Z from fz_len]; show ∀ x ∈ entsU (foundL (fz kF Z 0)) [] Z, _; rw [fz_ents]; simp) (by show ∀ f ∈ foundL (fz kF Z 0), _; rw [fz_found]; intro f hf; obtain ⟨_, rfl⟩ := List.mem_replicate.1 hf; simp [f0d]) (by show newF 0 (foundL (fz kF Z 0)) ≤ _; rw [fz_found, newF_none]; decide) (by show 0 ≤ newF 0 (foundL (fz kF Z 0)); rw [fz_found, newF_none]; decide)
 rw [show newF 0 (foundL (kd M Z 0).z) = 0 by show newF 0 (foundL (fz kF Z 0)) = 0; rw [fz_found, newF_none]] at hne
 have hbl := fun v K W a b => hblocks_any (newH 1 [] 0) v 0 200 1 K W a b (by constructor <;> decide) (by decide) (by decide) (by decide)
 rw [kh_blocks] at hbl
 go_wp2_with fail
 refine (hnw _).mono ?_
 rintro e w3 ⟨v, rfl, ⟨A, c, rfl, hz⟩, hb3⟩
 have hg3 : w.heap.size ≤ w3.heap.size := (E.step hb3).below.size
 replace E := ((E.step hb3).give Stable.list hz.zlt) |>.push 28 (zdC (kd M Z 0) A c)
 clear hnw hz hb3
 go_upto_region 9 with fail
 have hs3 := (E.at_ m0).lt
 obtain ⟨gd, hgd⟩ : ∃ g, w3.heap.size = g := ⟨_, rfl⟩
 have hgl : w.heap.size ≤ gd := by rw [← hgd]; exact hg3
 rw [hgd] at E hs3 ⊢
 generalize w3.alloc (.cells (zdC (kd M Z 0) A c) 28) = w4 at E hs3 ⊢
 obtain ⟨q0, f0, t0⟩ := E.rules m0
 go_wp2_with fail
 refine (hne A c _ _ (E.get m0)).mono ?_
 rintro e w5 ⟨vh, mm, rfl, hmm, -, -, hh5, hb5⟩
 have hm0 : mm = [] := by
  rw [show (kd M Z 0).z.length = Z from fz_len] at hmm
  have hmm : mapGo (entsU (foundL (fz kF Z 0)) [] Z) [] = (mm, 0) := hmm
  rw [fz_ents] at hmm
  injection hmm with hmm
  exact hmm.symm
 subst hm0
 replace E := (E.step hb5).give Stable.ho hh5.lt
 have hs5 := hb5.size
 obtain ⟨c5, rfl, hn5, h15, -⟩ := ho_cs hh5
 obtain ⟨gh, hgh⟩ : ∃ g, w5.heap.size = g := ⟨_, rfl⟩
 clear q0 f0 t0 hne hmm hh5 hb5
 go_upto_region 12 with (refine st_ho_new rfl rfl (by first | rfl | simp [Act.eval, World.size_alloc]) rfl rfl hn5 h15 ?_)
 replace E := E.push 42 c5
 have hs6 := (E.at_ m0).lt
 rw [hgh] at E hs5 hs6
 generalize w5.alloc (.cells c5 42) = w6 at E hs6 ⊢
 have hbl6 := hbl _ _ w6 (E.get m0) (fun b hb => by have := hb.2; omega)
 clear hbl
 go_wp2_with (refine ld_ho (E.at_ m0) hn5 rfl rfl rfl ?_)
 refine hbl6.mono ?_
 rintro e w7 ⟨v7, rfl, hh7, hb7⟩
 replace E := E.step hb7
 have hs7 := hb7.size
 obtain ⟨c7, rfl, hn7, h17, -⟩ := ho_cs hh7
 clear hbl6 hb7
 have hD := DH.made (gd := gd) (gh := gh) (d := kd M Z 0) E.below (E.at_ m1) ((E.get m1).more fun b hb => ⟨by have := hb.2; omega, by have := hb.2; omega⟩) (E.at_ m0) hn5 ((E.get m0).more fun b hb => ⟨by have := hb.1; omega, by have := hb.2; omega⟩) (by omega) (by omega)
 replace hh7 : IsHo w7 (fun b => b ≠ gd ∧ b ≠ gh) (.agg c7) (startH s200 kF 0) := hh7.more fun b hb => by rcases hb with hb | hb <;> constructor <;> omega
 have hL := E.get m2
 go_upto_region 13 with (refine st_ho (E.at_ m0) hn5 rfl rfl rfl rfl hn7 h17 ?_; intro w8 hs8 ht8 hB8)
 replace hD := hD.stH ht8 hn7 hh7 hB8
 have hL8 := hL.turned ht8 (fun b hb e => by omega)
 clear E hL hh7 ht8 hB8 hs8 hs7 hs6 hs5 hs3 hg3 hgd hgh hn5 h15 hn7 h17
 go_upto_region 16 with fail
 go_loopw [11, 69] (fun x11 x69 wr => ∃ j : Nat, x69 = .int .i64 j ∧ j ≤ Z ∧ DH w gd gh wr (kd M Z j) (startH s200 kF j) ∧ IsL Rp.og wr (· < w.heap.size) (.slice Aa n ca) l ∧ ∃ y, x11 = y) (fun _ x69 _ => Z - (intOf x69).toNat)
 case atStart => exact ⟨0, rfl, Nat.zero_le _, hD, hL8, _, rfl⟩
 case round =>
  clear hD hL8
  obtain ⟨j, rfl, hj, hD, hL, y, rfl⟩ := hrel
  by_cases hjZ : j < Z
  case pos =>
   have j1 : (j : Int) < (Z : Int) := by omega
   have j0 : (0 : Int) ≤ (j : Int) := by omega
   have wv : IntKind.i64.wrap (1 + (j : Int)) = 1 + (j : Int) := IntWalk.i64_in _ (by omega)
   have hfen := fence_at (M := M) (n := Z) (F := kF) (j := j) hM65 hZ64 (fun k hk => (kF_in hZ64.2 hk).1) hjZ
   have hgai := gain_at (S := s200) (F := kF) (j := j)
   obtain ⟨A, c, hBd, hz⟩ := hD.dev
   obtain ⟨ch, hBh, hnh, hho⟩ := hD.host
   obtain ⟨q0, f0⟩ := hBd.rules
   have t0 := hBd.lt
   have hdo := do_any (kd M Z j) ⟨7, j, 1 + j, 0, 0, []⟩ A c none 0 _ wr hz.zlt (fun b hb => hb.2) (IsB.nil_ _ _) (by show (fz kF Z j).length * 40 ≤ _; rw [fz_len]; omega) (by show (0 : Int) ≤ 9223372036854775807; decide)
   rw [show doZ (kd M Z j) ⟨7, j, 1 + j, 0, 0, []⟩ = (kd M Z (j + 1), dn0) from hfen] at hdo
   go_wp2_with fail
   refine hdo.mono ?_
   rintro e wa ⟨va, vdn, rfl, ⟨A2, c2, rfl, hza, -⟩, ⟨A3, c3, rfl, -⟩, hba⟩
   have hL2 := hL.step hba
   have hD1 := hD.step hba
   have hza' := hza.more (K' := fun b => b ≠ gd ∧ b ≠ gh) (fun b hb => by have := hBh.lt; rcases hb with hb | hb; exact hb.1; constructor <;> omega)
   go_upto_region 19 with (refine st_zns (hBd.step hba) rfl rfl rfl rfl rfl (by rfl) (by rfl) ?_; intro wb hsb htb hBb)
   have hD2 := hD1.stD htb hza' hBb
   have hL3 := hL2.turned htb (fun b hb e => by omega)
   clear hD1 hL2 hza hza' hdo hho hnh hBh hz q0 f0 t0 hsb htb hBb hBd hL hD hba hfen
   obtain ⟨ch, hBh, hnh, hho⟩ := hD2.host
   have hsm : SmallHo (startH s200 kF j) := ⟨by show (fo kF j).length ≤ _; rw [fo_len]; omega, by show s200.length ≤ 1000000; decide, by show ([] : List UInt8).length ≤ 1000000000; decide, by show ([] : List Rc).length ≤ 1000000; decide, by show ([] : List Ex).length ≤ 1000000; decide⟩
   have hga := hgain_any (startH s200 kF j) (.agg ch) j (1 + j) _ wb hho.lt (fun b hb => hb.2) hsm (by omega) (by omega) fo_rise (by show (fo kF j).length ≤ _; rw [fo_len]; omega)
   rw [show gainH (startH s200 kF j) j (1 + j) = startH s200 kF (j + 1) from hgai] at hga
   go_wp2_with (refine ld_ho hBh hnh rfl rfl rfl ?_)
   refine hga.mono ?_
   rintro e wc ⟨vc, rfl, hhc, hbc⟩
   obtain ⟨cc, rfl, hnc, h1c, -⟩ := ho_cs hhc
   have hhc' := hhc.more (K' := fun b => b ≠ gd ∧ b ≠ gh) (fun b hb => by have := hBh.lt; have := hD2.gl; rcases hb with hb | hb; constructor <;> omega; exact hb.1)
   have hD3 := hD2.step hbc
   have hL4 := hL3.step hbc
   go_upto_region 20 with (refine st_ho (hBh.step hbc) hnh rfl rfl rfl rfl hnc h1c ?_; intro wd hsd htd hBd)
   have hD4 := hD3.stH htd hnc hhc' hBd
   have hL5 := hL4.turned htd (fun b hb e => by have := hD3.gl; omega)
   clear hD3 hL4 hhc hhc' hga hho hnh hBh hbc hsd htd hBd hD2 hL3 hgai hnc h1c hsm wv
   go_wp2
   go_roundw
   case rel => exact ⟨j + 1, by go_num, by omega, hD4, hL5, _, rfl⟩
   case measure => simp [intOf]; omega
  case neg =>
   obtain rfl : j = Z := by omega
   have hI : HInv j M kF 10000 s200 (kd M j j) (startH s200 kF j) (fun _ => ⟨1, 0, 0⟩) [] := HInv.start (by omega) hZ64 (fun k hk => kF_in hZ64.2 hk)
   clear hjZ hj
   have hmk := @run_makeMap Tryz.prog
   go_upto_region 23 with fail
   have hb9 : Below wr.heap.size wr (wr.alloc (.map #[] 0)) := (Below.refl _ _).alloc (Nat.le_refl _) _
   have hM9 := IntM.made (P := Tryz.prog) (k := 3) (e := 5) (q := .u8) wr
   obtain ⟨mb, hmb⟩ : ∃ m, wr.heap.size = m := ⟨_, rfl⟩
   have hK := DK.of hD hmb hb9
   have hL9 := hL.step hb9
   rw [hmb] at hM9
   try rw [hmb]
   generalize wr.alloc (.map #[] 0) = w9 at hK hL9 hM9 ⊢
   clear hmk hb9 hD hL hmb
   go_loopw [13, 14, 15, 16, 17, 18, 20, 21, 93] (fun x13 x14 x15 x16 x17 x18 x20 x21 x93 wr => ∃ (i : Nat) (d : Zd) (h : Ho) (H : Nat → Hd) (log : List (Nat × Rc)) (f : Int → UInt8) (nM : Nat), x93 = .int .i64 i ∧ i ≤ n ∧ DK w gd gh mb wr d h ∧ HInv j M kF 10000 s200 d h H log ∧ log.length ≤ 4 * i ∧ Hid (log ≠ [] → ∃ x ∈ log, x.2.ver = h.ver - 1) ∧ Hid (WantF f log) ∧ IntM Tryz.prog 3 5 .u8 wr mb nM (fun b => ((f b).toNat : Int)) ∧ nM ≤ 32 * i ∧ IsL Rp.og wr (· < w.heap.size) (.slice Aa n ca) l ∧ (∃ y, x13 = y) ∧ (∃ y, x14 = y) ∧ (∃ y, x15 = y) ∧ (∃ y, x16 = y) ∧ (∃ y, x17 = y) ∧ (∃ y, x18 = y) ∧ (∃ y, x20 = y) ∧ ∃ y, x21 = y) (fun _ _ _ _ _ _ _ _ x93 _ => n - (intOf x93).toNat)
   case atStart => exact ⟨0, _, _, _, [], fun _ => 0, 0, rfl, Nat.zero_le _, hK, hI, by simp, Lib.hid fun h => absurd rfl h, Lib.hid WantF.nil, hM9, by omega, hL9, ⟨_, rfl⟩, ⟨_, rfl⟩, ⟨_, rfl⟩, ⟨_, rfl⟩, ⟨_, rfl⟩, ⟨_, rfl⟩, ⟨_, rfl⟩, _, rfl⟩
   case round =>
    clear hK hL9 hM9 hI
    obtain ⟨i, d, h, H, log, f, nM, rfl, hin, hK, hI, hlog, HV, HW, hM, hnM, hL, ⟨y1, rfl⟩, ⟨y2, rfl⟩, ⟨y3, rfl⟩, ⟨y4, rfl⟩, ⟨y5, rfl⟩, ⟨y6, rfl⟩, ⟨y7, rfl⟩, y8, rfl⟩ := hrel
    by_cases hi2 : i < n
    case neg =>
     obtain rfl : i = n := by omega
     clear hi2 hin
     have hB4 : (10000 : Int) ≤ 10000 := Int.le_refl _
     have hne2 := fun A c K W (hz : IsL Rp.zone W K (.slice A d.z.length c) d.z) => hnew_any 1 d A c K W (by decide) hI.okd hz (by rw [hI.bytes.1]; exact entsH_good hI.good hB4 (by omega) hI.bytes) (found_atH hI.good (by decide) hI.bytes) (by have := newH_le (M := 1000000) hI.good (by decide) hI.bytes (by decide) (fun x hx => by have := (hI.good.good x hx).ver; omega); omega) (newF_ge0 _ _)
     obtain ⟨A, c, hBd, hz⟩ := hK.dev
     obtain ⟨q0, f0⟩ := hBd.rules
     have t0 := hBd.lt
     go_upto_region 44 with fail
     go_wp2_with fail
     refine (hne2 A c _ _ hz).mono ?_
     rintro e9 wa ⟨vh, mm, rfl, hmm, hmch, hmml, hhn, hba⟩
     have hmap : IsMapH H log j mm := map_allH hI.good (by omega) (by decide) hI.bytes (by rw [← hI.bytes.1]; exact hmm)
     obtain ⟨cn, rfl, hcn, hcn1, -⟩ := ho_cs hhn
     have hmlt0 := hM.lt
     replace hK := hK.step hba
     replace hM := hM.step hba
     have hsa := hba.size
     have hgmk := hK.gm
     clear q0 f0 t0 hBd hz hne2 hba hL
     go_upto_region 45 with (refine st_ho_new rfl rfl (by first | rfl | simp [Act.eval, World.size_alloc]) rfl rfl hcn hcn1 ?_)
     have hbn := (Below.refl wa.heap.size wa).alloc (Nat.le_refl _) (.cells cn 42)
     have hBn := Blk.new wa 42 cn rfl
     have hHn := hhn.lt.step hbn
     have hvn := ho_ver hhn
     have hmlt := hM.lt
     obtain ⟨Ad, cd, hBd0, hz0⟩ := hK.dev
     obtain ⟨ch, hBh0, hnh, hho0⟩ := hK.host
     have hvh := ho_ver hho0
     have hz := hz0.zlt.step hbn
     have hho := (IsHo.lt hho0).step hbn
     replace hBd0 := hBd0.step hbn
     replace hBh0 := hBh0.step hbn
     clear hz0 hho0
     replace hK := hK.step hbn
     replace hM := hM.step hbn
     obtain ⟨gn, hgn⟩ : ∃ g, wa.heap.size = g := ⟨_, rfl⟩
     have hmn : mb < gn := by omega
     generalize wa.alloc (.cells cn 42) = wb at hBn hHn hK hM hz hho hBd0 hBh0 ⊢
     rw [hgn] at hBn hHn hz hho ⊢
     have hnw : wr.heap.size ≤ gn := by omega
     clear hhn hbn hgn hmlt
     obtain ⟨nv, hnv⟩ : ∃ nv, newF 0 (foundL d.z) = nv := ⟨_, rfl⟩
     have hnv0 : 0 ≤ nv := by rw [← hnv]; exact newF_ge0 _ _
     have hnv1 : nv ≤ 1000000 := by rw [← hnv]; exact newH_le (M := 1000000) hI.good (by decide) hI.bytes (by decide) (fun x hx => by have := (hI.good.good x hx).ver; omega)
     have hnvh : h.ver ≤ nv + 1 := by
      by_cases hl : log = []
      · have := hI.ver
        rw [hl] at this
        simp at this
        omega
      · obtain ⟨x, hx, hxv⟩ := HV.out hl
        have := newH_ge hI.good (by decide) hI.bytes hx
        rw [hnv] at this
        omega
     rw [hnv] at hHn hvn
     rw [show (newH 1 mm nv).ver = nv + 1 from rfl] at hvn
     have hng : ¬ nv + 1 < h.ver := by omega
     have HNV := Lib.hid hnv
     clear hnv
     obtain ⟨q00, f0⟩ := hBn.rules
     have q0 := (q00 13).trans hvn
     have t0 := hBn.lt
     obtain ⟨q11, f1⟩ := hBh0.rules
     have q1 := (q11 13).trans hvh
     clear q00 q11 hvn hvh
     have t1 := hBh0.lt
     have hbl2 := hblocks_any (newH 1 mm nv) (.agg cn) 0 200 9 _ wb hHn.lt (fun b hb => hb.2) ⟨Nat.zero_le _, Nat.zero_le _, Nat.zero_le _, Nat.zero_le _, by show mm.length ≤ 1000000; omega⟩ (by decide) (by decide) (Nat.zero_le _)
     rw [kh_blocks] at hbl2
     go_upto_region 47 with fail
     go_wp2_with (refine ld_ho hBn hcn rfl rfl rfl ?_)
     refine hbl2.mono ?_
     rintro e9 wc ⟨vc, rfl, hhc, hbc⟩
     obtain ⟨cc, rfl, hnc, h1c, -⟩ := ho_cs hhc
     have hbw := (hK.step hbc).below
     replace hM := hM.step hbc
     have hgmk := hK.gm
     have hglk := hK.gl
     have hg0k := hK.g0
     have hngw : w.heap.size ≤ gn := by omega
     replace hhc := hhc.more (K' := fun b => b ≠ gn ∧ b ≠ mb) (fun b hb => by have := hBn.lt; rcases hb with hb | hb <;> exact ⟨by omega, by omega⟩)
     replace hBn := hBn.step hbc
     replace hz := hz.step hbc
     replace hho := hho.step hbc
     replace hBd0 := hBd0.step hbc
     replace hBh0 := hBh0.step hbc
     clear q0 f0 t0 q1 f1 t1 hbl2 hHn hK
     go_upto_region 48 with (refine st_ho hBn hcn rfl rfl rfl rfl hnc h1c ?_; intro wd hsd htd hBd)
     have hbd := Turned.upon hbw htd hngw (Nat.le_refl _)
     have E := ((((((Kn.start wd).know hBd).know (hBh0.turned htd (show ¬ gh = gn by omega))).know (hBd0.turned htd (show ¬ gd = gn by omega))).give Stable.list (hz.turned htd (fun b hb e => by have := hb.2; omega))).give Stable.ho (IsHo.keep hho (htd.cells (K := fun b => (b ≠ gd ∧ b ≠ gh ∧ b ≠ mb) ∧ b < gn) fun b hb e => by have := hb.2; omega))).give Stable.ho (IsHo.keep hhc (htd.cells (K := fun b => b ≠ gn ∧ b ≠ mb) fun b hb e => hb.1 e)) |>.give Stable.intM (hM.turned htd (show ¬ mb = gn by omega))
     have E0 := E
     clear hBn hz hho hBd0 hBh0 hhc hM hsd htd hBd hbw
     have hto := fun W (hz : IsL Rp.zone W (fun b => (b ≠ gd ∧ b ≠ gh ∧ b ≠ mb) ∧ b < gn) (.slice Ad d.z.length cd) d.z) => rtorn_any d Ad cd _ W hz hI.okd
     rw [show tornT d.z d.z.length = [] by rw [hI.bytes.1]; exact tornH hI.good (by decide) hI.bytes] at hto
     obtain ⟨q0, f0, t0⟩ := E.rules m0
     go_wp2_with fail
     refine (hto _ (E.get m3)).mono ?_
     rintro e9 we ⟨Ao, co, rfl, -, hbe⟩
     replace E := E.step hbe
     clear q0 f0 t0 hto hbe
     go_upto_region 51 with fail
     have hEb := E.below
     have hzr := fun W hz hv b => hread_any d Ad cd h (.agg ch) b 1 (fun b => (b ≠ gd ∧ b ≠ gh ∧ b ≠ mb) ∧ b < gn) (fun b => (b ≠ gd ∧ b ≠ gh ∧ b ≠ mb) ∧ b < gn) W hz hv hI.okd hI.map.1 (fitH hI.good (by decide) hI.bytes hI.map)
     have hza := fun W hz hv b => hread_any d Ad cd ⟨1, [], [⟨0, 200, 1, 9⟩], false, p0k, mm, nv + 1, 0⟩ (.agg cc) b 1 (fun b => (b ≠ gd ∧ b ≠ gh ∧ b ≠ mb) ∧ b < gn) (fun b => b ≠ gn ∧ b ≠ mb) W hz hv hI.okd hmap.1 (fitH hI.good (by decide) hI.bytes hmap)
     go_loopw [23, 24, 25, 26, 27, 28, 178] (fun x23 x24 x25 x26 x27 x28 x178 wl => ∃ b : Nat, x178 = .int .i64 b ∧ b ≤ 100 ∧ Below wd.heap.size wd wl ∧ (∃ y, x23 = y) ∧ (∃ y, x24 = y) ∧ (∃ y, x25 = y) ∧ (∃ y, x26 = y) ∧ (∃ y, x27 = y) ∧ ∃ y, x28 = y) (fun _ _ _ _ _ _ x178 _ => 100 - (intOf x178).toNat)
     case atStart => exact ⟨0, rfl, by omega, hEb, ⟨_, rfl⟩, ⟨_, rfl⟩, ⟨_, rfl⟩, ⟨_, rfl⟩, ⟨_, rfl⟩, _, rfl⟩
     case round =>
      obtain ⟨b, rfl, hb, hbl, ⟨y1, rfl⟩, ⟨y2, rfl⟩, ⟨y3, rfl⟩, ⟨y4, rfl⟩, ⟨y5, rfl⟩, y6, rfl⟩ := hrel
      by_cases hb1 : b < 100
      case neg =>
       obtain rfl : b = 100 := by omega
       go_wp2
       go_ret
       exact ⟨rfl, hbd.trans (hbl.mono hbd.size)⟩
      have F := E0.step hbl
      have b1 : (b : Int) < 100 := by omega
      have b0 : (0 : Int) ≤ (b : Int) := by omega
      have c1 := fun W hz hv => hzr W hz hv b
      have c2 := fun W hz hv => hza W hz hv b
      rw [read_keeps hI.good hI.bytes hI.map hI.s HW.out ⟨b0, b1⟩] at c1
      rw [show readH d.z ⟨1, [], [⟨0, 200, 1, 9⟩], false, p0k, mm, nv + 1, 0⟩ b 1 = (List.replicate 16 (f b), 0) from read_keeps hI.good hI.bytes hmap rfl HW.out ⟨b0, b1⟩] at c2
      have hfl := fun W => fill17_any (f b) 16 W (by decide)
      obtain ⟨bs, hbs⟩ : ∃ bs, List.replicate 16 (f b) = bs := ⟨_, rfl⟩
      have hbl16 : bs.length = 16 := by rw [← hbs, List.length_replicate]
      rw [hbs] at c1 c2 hfl
      dsimp only at c1 c2
      rw [hbl16] at c1 c2
      have hlk := fun W h => IntM.look (P := Tryz.prog) (w := W) (b := mb) (n := nM) (f := fun b => ((f b).toNat : Int)) (e := 5) (q := .u8) h Tryz.underlying3 (t := 70) Tryz.underlying70 Tryz.underlying5 (by simp [go_sem]; try rfl) b ⟨by omega, by omega⟩
      obtain ⟨q0, f0, t0⟩ := F.rules m0
      clear hbs hzr hza
      go_wp2_with (refine ld_ho (F.at_ m1) hnh rfl rfl rfl ?_)
      refine (c1 _ (F.get m3) (F.get m2)).mono ?_
      rintro e9 w1 ⟨A1, k1, rfl, hB1, hb1'⟩
      replace F := (F.step hb1').give Stable.bytes hB1
      clear c1 q0 f0 t0 hB1 hb1'
      obtain ⟨q0, f0, t0⟩ := F.rules m0
      go_wp2_with (refine ld_ho (F.at_ m2) hnc rfl rfl rfl ?_)
      refine (c2 _ (F.get m4) (F.get m2)).mono ?_
      rintro e9 w3 ⟨A2, k2, rfl, hB2, hb2'⟩
      replace F := (F.step hb2').give Stable.bytes hB2
      clear c2 q0 f0 t0 hB2 hb2'
      have hl3 := hlk _ (F.get m2)
      go_wp2_with fail
      refine (hfl _).mono ?_
      rintro e9 w4 ⟨A3, k3, rfl, hown3, hb3'⟩
      replace F := F.step hb3'
      have hv3 : Reads w4 (fun b => w3.heap.size ≤ b) 1 A3 16 (cells8 bs) := Reads.of_own_ge hown3
      have s1 := run_string_of (P := Tryz.prog) (cap := k1) (n := 16) (l := bs) w4 36 9 5 Tryz.underlying36 Tryz.underlying5 Tryz.underlying9 hbl16 (by have := (IsB.open_ (F.get m1)).2.1; rwa [hbl16] at this)
      have s2 := run_string_of (P := Tryz.prog) (cap := k2) (n := 16) (l := bs) w4 36 9 5 Tryz.underlying36 Tryz.underlying5 Tryz.underlying9 hbl16 (by have := (IsB.open_ (F.get m0)).2.1; rwa [hbl16] at this)
      have s3 := run_string_of (P := Tryz.prog) (cap := k3) (n := 16) (l := bs) w4 36 9 5 Tryz.underlying36 Tryz.underlying5 Tryz.underlying9 hbl16 hv3
      clear hfl hl3 hlk hown3 hv3 hb3' hbl16
      go_wp2_with fail
      go_roundw
      case rel => exact ⟨b + 1, by go_num, by omega, F.below, ⟨_, rfl⟩, ⟨_, rfl⟩, ⟨_, rfl⟩, ⟨_, rfl⟩, ⟨_, rfl⟩, _, rfl⟩
      case measure => simp [intOf]; omega
    have j1 : (i : Int) < (n : Int) := by omega
    have j0 : (0 : Int) ≤ (i : Int) := by omega
    have hlt' : i < l.length := by rw [HN.out]; exact hi2
    obtain ⟨ad, rfl, hKa, hok, c0, c1, c2, c3, c4⟩ := og_at hL (List.getElem?_eq_getElem hlt')
    generalize l[i] = e at c0 c1 c2 c3 c4 hok
    go_upto_region 25 with fail
    have hbn := (Below.refl wr.heap.size wr).alloc (Nat.le_refl _) (.cells (ogC e) 24)
    have hBo := Blk.new wr 24 (ogC e) rfl
    replace hK := hK.step hbn
    replace hL := hL.step hbn
    replace hM := hM.step hbn
    obtain ⟨go, hgo⟩ : ∃ g, wr.heap.size = g := ⟨_, rfl⟩
    generalize wr.alloc (.cells (ogC e) 24) = wz at hK hL hM hBo ⊢
    rw [hgo] at hBo ⊢
    clear c0 c1 c2 c3 c4 hbn hgo
    obtain ⟨q0, f0⟩ := hBo.rules
    have t0 := hBo.lt
    have hmz : mb < wz.heap.size := hM.lt
    have hgr := group17_any e i wz (by omega) hok
    go_wp2_with fail
    refine hgr.mono ?_
    rintro e9 wa ⟨Ag, cg, rfl, hg, hba⟩
    replace hK := hK.step hba
    replace hL := hL.step hba
    replace hM := hM.step hba
    clear q0 f0 t0 hgr hBo hba
    go_upto_region 26 with fail
    have hst := commit_step hI (groupL_ne e i) (group_fine e i).1 (group_fine e i).2 (by have := groupL_len e i; omega)
    obtain ⟨cr, hcr⟩ : ∃ cr, commitH d h (groupL e i) = cr := ⟨_, rfl⟩
    obtain ⟨A, c, hBd, hz⟩ := hK.dev
    obtain ⟨ch, hBh, hnh, hho⟩ := hK.host
    obtain ⟨q0, f0⟩ := hBd.rules
    have t0 := hBd.lt
    have hco := hcommit_inv hI e i (by omega) A c (.agg ch) Ag cg (fun b => (b ≠ gd ∧ b ≠ gh ∧ b ≠ mb) ∧ b < wa.heap.size) _ wa hz.zlt hho.lt hg (fun b hb => hb.2)
    rw [hcr] at hco
    go_wp2_with (refine ld_ho hBh hnh rfl rfl rfl ?_)
    refine hco.mono ?_
    rintro e9 wb ⟨dv, vh, rfl, ⟨⟨A2, c2, rfl, hz2⟩, hh2⟩, hbb⟩
    obtain ⟨cs2, rfl, hn2, h12, -⟩ := ho_cs hh2
    have hmlt : mb < wa.heap.size := hM.lt
    have hghl := hBh.lt
    have hglt := hK.gl
    replace hz2 := hz2.more (K' := fun b => b ≠ gd ∧ b ≠ gh ∧ b ≠ mb) (fun b hb => by rcases hb with hb | hb; exact hb.1; exact ⟨by omega, by omega, by omega⟩)
    replace hh2 := hh2.more (K' := fun b => b ≠ gd ∧ b ≠ gh ∧ b ≠ mb) (fun b hb => by rcases hb with hb | hb; exact hb.1; exact ⟨by omega, by omega, by omega⟩)
    have hsab := hbb.size
    replace hK := hK.step hbb
    replace hL := hL.step hbb
    replace hM := hM.step hbb
    replace hg := hg.step hbb
    clear q0 f0 hBd hz hho hnh hBh hco
    go_upto_region 27 with (refine st_ho_new rfl rfl (by first | rfl | simp [Act.eval, World.size_alloc]) rfl rfl hn2 h12 ?_)
    have hb2 : Below wb.heap.size wb ((wb.alloc (.cells (zdC cr.1 A2 c2) 28)).alloc (.cells cs2 42)) := ((Below.refl _ _).alloc (Nat.le_refl _) _).alloc (by rw [World.size_alloc]; omega) _
    have hB16 := (Blk.new wb 28 (zdC cr.1 A2 c2) rfl).alloc (.cells cs2 42)
    have hB17 := Blk.new (wb.alloc (.cells (zdC cr.1 A2 c2) 28)) 42 cs2 rfl
    rw [World.size_alloc] at hB17
    replace hK := hK.step hb2
    replace hL := hL.step hb2
    replace hM := hM.step hb2
    replace hg := hg.step hb2
    replace hz2 := hz2.step hb2
    replace hh2 := hh2.step hb2
    obtain ⟨g16, hg16⟩ : ∃ g, wb.heap.size = g := ⟨_, rfl⟩
    generalize (wb.alloc (.cells (zdC cr.1 A2 c2) 28)).alloc (.cells cs2 42) = wc at hK hL hM hg hz2 hh2 hB16 hB17 ⊢
    rw [hg16] at hB16 hB17 hsab ⊢
    clear hb2 hg16 hbb
    rcases hst.1 with ⟨k, d', h', H', hk, hc, hI'⟩ | h64
    case inr =>
     rw [hcr] at h64
     rw [h64]
     clear hst hcr hB16 hB17 hn2 h12 hz2 hh2 h64 hg
     go_wp2_with fail
     go_roundw
     case rel => exact ⟨i + 1, d, h, H, log, f, nM, by go_num, by omega, hK, hI, by omega, HV, HW, hM, by omega, hL, ⟨_, rfl⟩, ⟨_, rfl⟩, ⟨_, rfl⟩, ⟨_, rfl⟩, ⟨_, rfl⟩, ⟨_, rfl⟩, ⟨_, rfl⟩, _, rfl⟩
     case measure => simp [intOf]; omega
    rw [hcr] at hc
    subst hc
    dsimp only at hz2 hh2 hB16 ⊢
    obtain ⟨q0, f0⟩ := hB16.rules
    have t0' := hB16.lt
    obtain ⟨_, _, hBd, _⟩ := hK.dev
    go_upto_region 29 with (refine st_zns hBd rfl rfl rfl rfl rfl (by rfl) (by rfl) ?_; intro wd hsd htd hBe)
    have hK2 := hK.stD htd hz2 hBe
    have hB17' := hB17.turned htd (show ¬ g16 + 1 = gd by omega)
    have hh2' := IsHo.keep hh2 (htd.cells (K := fun b => b ≠ gd ∧ b ≠ gh ∧ b ≠ mb) fun b hb e => hb.1 e)
    have hL2 := hL.turned htd (fun b hb e => by have := hK.g0; omega)
    have hM2 := hM.turned htd (show ¬ mb = gd by have := hK.gm; omega)
    have hg2 := hg.turned htd (fun b hb e => by have := hK.gm; omega)
    have hver := hI.ver
    clear q0 f0 t0' hK hL hM hg hB16 hB17 hz2 hh2 hBd hsd htd hBe hst hcr hI
    obtain ⟨ch, hBh, hnh, hho⟩ := hK2.host
    go_upto_region 30 with (first | (refine ld_ho hB17' hn2 rfl rfl rfl ?_) | (refine st_ho hBh hnh rfl rfl rfl rfl hn2 h12 ?_; intro we hse hte hBf))
    have hK3 := hK2.stH hte hn2 hh2' hBf
    have hL3 := hL2.turned hte (fun b hb e => by have := hK2.g0; have := hK2.gl; omega)
    have hM3 := hM2.turned hte (show ¬ mb = gh by have := hK2.gm; omega)
    have hg3 := hg2.turned hte (fun b hb e => by have := hK2.gm; omega)
    clear hK2 hL2 hM2 hg2 hB17' hh2' hBh hnh hho hse hte hBf hn2 h12
    have hglen := groupL_len e i
    have hgone := group_one e i
    have hgn0 := groupL_ne e i
    have hgin : ∀ x ∈ groupL e i, 0 ≤ x.lba ∧ x.lba ≤ 200 ∧ 1 ≤ x.n ∧ x.n ≤ 4 := fun x hx => by
     have := grK_in e; have := grL_in e; have := grN_in e
     rcases groupL_at hx with ⟨_, h2, h3, _⟩ | ⟨q, h1, rfl⟩
     · rw [h2, h3]; omega
     · have hm : 0 ≤ (q : Int) * grK e ∧ (q : Int) * grK e ≤ 4 * 4 := ⟨Int.mul_nonneg (by omega) (by omega), Int.mul_le_mul (by omega) (by omega) (by omega) (by omega)⟩
       show 0 ≤ grL e + (q : Int) * grK e ∧ grL e + (q : Int) * grK e ≤ 200 ∧ 1 ≤ grK e ∧ grK e ≤ 4
       omega
    obtain ⟨gq, hgq⟩ : ∃ gq, groupL e i = gq := ⟨_, rfl⟩
    rw [hgq] at hI' hg3 hglen hgone hgn0 hgin ⊢
    obtain ⟨ng, hng⟩ : ∃ ng, gq.length = ng := ⟨_, rfl⟩
    rw [hng] at hg3 hglen ⊢
    have HNG := Lib.hid hng
    have HGI := Lib.hid hgin
    have hgne : ng ≠ 0 := fun e0 => hgn0 (List.length_eq_zero_iff.1 (by rw [hng, e0]))
    clear hgq hng hgin hgn0
    go_upto_region 31 with fail
    go_loopw [20, 21, 115] (fun x20 x21 x115 wr => ∃ (q nQ : Nat), x115 = .int .i64 q ∧ q ≤ ng ∧ DK w gd gh mb wr d' h' ∧ IntM Tryz.prog 3 5 .u8 wr mb nQ (fun b => ((wantL f (gq.take q) b).toNat : Int)) ∧ nQ ≤ nM + 8 * q ∧ IsL Rp.og wr (· < w.heap.size) (.slice (some ad) n ca) l ∧ IsL Rp.io wr (fun b => wz.heap.size ≤ b) (.slice Ag ng cg) gq ∧ (∃ y, x20 = y) ∧ ∃ y, x21 = y) (fun _ _ x115 _ => ng - (intOf x115).toNat)
    case atStart => exact ⟨0, nM, rfl, Nat.zero_le _, hK3, hM3, by omega, hL3, hg3, ⟨_, rfl⟩, _, rfl⟩
    case round =>
     clear hK3 hM3 hL3 hg3
     obtain ⟨q, nQ, rfl, hq, hK, hM, hnQ, hL, hg, ⟨y1, rfl⟩, y2, rfl⟩ := hrel
     by_cases hqn : q < ng
     case neg =>
      obtain rfl : q = ng := by omega
      rw [List.take_of_length_le (by rw [HNG.out]; exact Nat.le_refl _)] at hM
      have HW' := Lib.hid (HW.out.adds (k := k) (v := h.ver) hgone)
      have HV' : Hid (log ++ (recsI h.ver gq).map (k, ·) ≠ [] → ∃ x ∈ log ++ (recsI h.ver gq).map (k, ·), x.2.ver = h'.ver - 1) := Lib.hid fun _ => by
       obtain ⟨r, r1, r2⟩ := recsI_last (g := gq) h.ver (fun e0 => hgne (by rw [← HNG.out, e0]; rfl))
       refine ⟨(k, r), List.mem_append_right _ (List.mem_map.2 ⟨r, r1, rfl⟩), ?_⟩
       have h3 := hI'.ver
       rw [List.length_append, List.length_map, recsI_len, HNG.out] at h3
       rw [HNG.out] at r2
       show r.ver = h'.ver - 1
       omega
      have hlog' : (log ++ (recsI h.ver gq).map (k, ·)).length ≤ 4 * (i + 1) := by rw [List.length_append, List.length_map, recsI_len, HNG.out]; omega
      clear HV HW hg hqn hgone hgne HGI HNG hver
      go_wp2_with fail
      go_roundw
      case rel => exact ⟨i + 1, d', h', H', _, wantL f gq, nQ, by go_num, by omega, hK, hI', hlog', HV', HW', hM, by omega, hL, ⟨_, rfl⟩, ⟨_, rfl⟩, ⟨_, rfl⟩, ⟨_, rfl⟩, ⟨_, rfl⟩, ⟨_, rfl⟩, ⟨_, rfl⟩, _, rfl⟩
      case measure => simp [intOf]; omega
     have q1 : (q : Int) < (ng : Int) := by omega
     have q0 : (0 : Int) ≤ (q : Int) := by omega
     have hq' : q < gq.length := by rw [HNG.out]; exact hqn
     have hje := List.getElem?_eq_getElem hq'
     obtain ⟨ax, Ad, cd, rfl, hKx, hdb, c0, c1, c2, c3, -, -⟩ := io_at hg hje
     have hx1 := hgone gq[q] (List.getElem_mem hq')
     have hx2 := HGI.out gq[q] (List.getElem_mem hq')
     have HTK := Lib.hid (show wantL f (gq.take (q + 1)) = wantIo (wantL f (gq.take q)) gq[q] by rw [List.take_succ_eq_append_getElem hq']; unfold wantL; rw [List.foldl_append]; rfl)
     generalize gq[q] = x at hje hdb c0 c1 c2 c3 hx1 hx2 HTK
     clear hje
     go_upto_region 33 with fail
     have hbn := (Below.refl wr.heap.size wr).alloc (Nat.le_refl _) (.cells #[.int .i64 x.op, .int .i64 x.lba, .int .i64 x.n, .slice Ad x.data.length cd] 72)
     have hBx := Blk.new wr 72 #[.int .i64 x.op, .int .i64 x.lba, .int .i64 x.n, .slice Ad x.data.length cd] rfl
     replace hK := hK.step hbn
     replace hL := hL.step hbn
     have hmr : mb < wr.heap.size := hM.lt
     replace hM := hM.step hbn
     replace hg := hg.step hbn
     replace hdb := hdb.step hbn
     obtain ⟨gx, hgx⟩ : ∃ g, wr.heap.size = g := ⟨_, rfl⟩
     have hmx : mb < gx := by rw [← hgx]; exact hmr
     generalize wr.alloc (.cells #[.int .i64 x.op, .int .i64 x.lba, .int .i64 x.n, .slice Ad x.data.length cd] 72) = wy at hK hL hM hg hdb hBx ⊢
     rw [hgx] at hBx ⊢
     clear c0 c1 c2 c3 hbn hgx
     obtain ⟨r0, s0⟩ := hBx.rules
     have u0 := hBx.lt
     go_upto_region 34 with fail
     obtain ⟨vb, hvb⟩ : ∃ c : UInt8, (if x.op = 1 then x.data.headD 0 else 0) = c := ⟨_, rfl⟩
     obtain ⟨F0, hF0⟩ : ∃ F0, wantL f (gq.take q) = F0 := ⟨_, rfl⟩
     rw [hF0] at hM HTK
     have hM0 : IntM Tryz.prog 3 5 .u8 wy mb nQ (fun b => if x.lba ≤ b ∧ b < x.lba + ((0 : Nat) : Int) then (vb.toNat : Int) else ((F0 b).toNat : Int)) := by
      rw [show (fun b => if x.lba ≤ b ∧ b < x.lba + ((0 : Nat) : Int) then (vb.toNat : Int) else ((F0 b).toNat : Int)) = fun b => ((F0 b).toNat : Int) from funext fun b => if_neg (by omega)]
      exact hM
     clear hM r0 s0 u0 hF0 hmr hKx
     go_loopw [21, 121] (fun x21 x121 wi => ∃ (r nR : Nat), x121 = .int .i64 r ∧ (r : Int) ≤ x.n ∧ DK w gd gh mb wi d' h' ∧ IntM Tryz.prog 3 5 .u8 wi mb nR (fun b => if x.lba ≤ b ∧ b < x.lba + (r : Int) then (vb.toNat : Int) else ((F0 b).toNat : Int)) ∧ nR ≤ nQ + 2 * r ∧ IsL Rp.og wi (· < w.heap.size) (.slice (some ad) n ca) l ∧ IsL Rp.io wi (fun b => wz.heap.size ≤ b) (.slice (some ax) ng cg) gq ∧ Blk wi gx 72 #[.int .i64 x.op, .int .i64 x.lba, .int .i64 x.n, .slice Ad x.data.length cd] ∧ IsB wi (fun b => wz.heap.size ≤ b) (.slice Ad x.data.length cd) x.data ∧ ∃ y, x21 = y) (fun _ x121 _ => (x.n - intOf x121).toNat)
     case atStart => exact ⟨0, nQ, rfl, by omega, hK, hM0, by omega, hL, hg, hBx, hdb, _, rfl⟩
     case round =>
      clear hK hM0 hL hg hBx hdb
      obtain ⟨r, nR, rfl, hr, hK, hM, hnR, hL, hg, hBx, hdb, y, rfl⟩ := hrel
      obtain ⟨r0, s0⟩ := hBx.rules
      have u0 := hBx.lt
      by_cases hrn : (r : Int) < x.n
      case neg =>
       have hrx : (r : Int) = x.n := by omega
       have hM' : IntM Tryz.prog 3 5 .u8 wr mb nR (fun b => ((wantL f (gq.take (q + 1)) b).toNat : Int)) := by
        rw [HTK.out, show (fun b => ((wantIo F0 x b).toNat : Int)) = fun b => if x.lba ≤ b ∧ b < x.lba + (r : Int) then (vb.toNat : Int) else ((F0 b).toNat : Int) from funext fun b => by
         unfold wantIo
         rw [hvb, hrx]
         split <;> rfl]
        exact hM
       clear hM hdb hBx hx1 hgone
       go_wp2_with fail
       go_roundw
       case rel => exact ⟨q + 1, nR, by go_num, by omega, hK, hM', by omega, hL, hg, ⟨_, rfl⟩, _, rfl⟩
       case measure => simp [intOf]; omega
      have j3 : (0 : Int) ≤ (r : Int) := by omega
      have wv : IntKind.i64.wrap (x.lba + (r : Int)) = x.lba + (r : Int) := IntWalk.i64_in _ (by omega)
      have hml : nR < maxLen := by unfold maxLen; omega
      go_upto_region 37 with (refine wpList_setJ rfl _ _ _ _ rfl 3 5 .u8 Tryz.underlying3 Tryz.underlying70 Tryz.underlying5 mb nR _ rfl hM hml (x.lba + r) 0 rfl rfl (by omega) (by decide) ?_; intro w' hM' hg')
      have ht' := turned_grown hg'
      have hgm := hK.gm
      have hgl4 := hK.gl
      have hg04 := hK.g0
      replace hK := hK.map ht'
      replace hL := hL.turned ht' (fun b hb e => by omega)
      replace hg := hg.turned ht' (fun b hb e => by omega)
      replace hBx := hBx.turned ht' (show ¬ gx = mb by omega)
      replace hdb := hdb.turned ht' (fun b hb e => by omega)
      clear r0 s0 u0 hM hg' ht'
      obtain ⟨r0, s0⟩ := hBx.rules
      have u0 := hBx.lt
      by_cases hop : x.op = 1
      case neg =>
       have hv0 : vb = 0 := by rw [← hvb, if_neg hop]
       have hfn : (fun i => if i = x.lba + (r : Int) then (0 : Int) else if x.lba ≤ i ∧ i < x.lba + (r : Int) then (vb.toNat : Int) else ((F0 i).toNat : Int)) = fun b => if x.lba ≤ b ∧ b < x.lba + ((r + 1 : Nat) : Int) then (vb.toNat : Int) else ((F0 b).toNat : Int) := funext fun b => by
        rw [hv0]
        split <;> split <;> (try split) <;> first | rfl | omega
       rw [hfn] at hM'
       clear hfn hv0 hvb
       go_wp2_with fail
       go_roundw
       case rel => exact ⟨r + 1, nR + 1, by go_num, by omega, hK, hM', by omega, hL, hg, hBx, hdb, _, rfl⟩
       case measure => simp [intOf]; omega
      have hob : (x.op == (1 : Int)) = true := by rw [hop]; rfl
      have HOP := Lib.hid hop
      clear hop
      go_upto_region 38 with fail
      have hop := HOP.out
      have hone : 1 ≤ x.n ∧ ∃ c, x.data = List.replicate (16 * x.n).toNat c := by
       rcases hx1 with ⟨h1, _⟩ | ⟨_, h2, h3⟩
       · omega
       · exact ⟨h2, h3⟩
      obtain ⟨hn1, cb, hcb⟩ := hone
      obtain ⟨dl, hdl⟩ : ∃ dl : Nat, (16 * x.n).toNat = dl + 1 := ⟨(16 * x.n).toNat - 1, by omega⟩
      have hvc : vb = cb := by rw [← hvb, if_pos hop, hcb, hdl]; rfl
      have hd0 : x.data[0]? = some cb := by rw [hcb, hdl]; rfl
      have hdn : x.data.length = dl + 1 := by rw [hcb, hdl, List.length_replicate]
      clear hop hob
      obtain ⟨_, hrd, _⟩ := IsB.open_ hdb
      obtain ⟨az, rfl, hKz, hcz⟩ := hrd.2 (by omega)
      have hz0 := hcz 0 (.int .u8 (cb.toNat : Int)) (by unfold cells8; rw [List.getElem?_map, hd0]; rfl)
      rw [Addr.add_zero'] at hz0
      obtain ⟨dm, hdm⟩ : ∃ dm, x.data.length = dm := ⟨_, rfl⟩
      rw [hdm] at hBx hdb
      have hdm0 : 0 < dm := by omega
      have hazl : az.block < w'.heap.size := World.block_lt_of_cell? w' az hz0
      clear r0 s0 hcz hrd hd0 hcb
      have HK : Hid (∀ W, Below w'.heap.size w' W → (∀ o, W.cell? ⟨gx, o, none⟩ = (#[.int .i64 x.op, .int .i64 x.lba, .int .i64 x.n, .slice (some az) dm cd] : Array Value)[o]?) ∧ W.cell? az = some (.int .u8 (cb.toNat : Int))) := Lib.hid fun W hb => ⟨(hBx.step hb).rules.1, (hb.cell hazl).trans hz0⟩
      have hb0 : Below w'.heap.size w' w'.drew := (Below.refl _ _).drew
      have HDM := Lib.hid hdm
      clear hz0 hdm hazl hdn hdl hn1
      refine wp_region_held_drew (S := fun W => (∀ o, W.cell? ⟨gx, o, none⟩ = (#[.int .i64 x.op, .int .i64 x.lba, .int .i64 x.n, .slice (some az) dm cd] : Array Value)[o]?) ∧ W.cell? az = some (.int .u8 (cb.toNat : Int))) (by kernel_rfl) (HK.out _ hb0) (fun hHeld => ?_)
      replace hK := hK.step hb0
      replace hL := hL.step hb0
      replace hg := hg.step hb0
      replace hBx := hBx.step hb0
      replace hdb := hdb.step hb0
      replace hM' := hM'.step hb0
      clear hb0 HK
      generalize w'.drew = wx at hHeld hK hL hg hBx hdb hM' ⊢
      refine wT 0 132 ?_
      refine wT 1 133 ?_
      refine wT 2 134 ?_
      refine wT 3 135 ?_
      refine wT 4 136 ?_
      refine wT 5 137 ?_
      refine wT 6 138 ?_
      refine wT 7 139 ?_
      refine wT 8 140 ?_
      refine wRn 9 (fun K hK9 => ?_)
      refine set_mapJI rfl _ _ _ _ rfl 3 5 .u8 Tryz.underlying3 Tryz.underlying70 Tryz.underlying5 mb (nR + 1) _ rfl hM' (by unfold maxLen; omega) (x.lba + r) (cb.toNat : Int) rfl rfl (by omega) (by have := cb.toNat_lt; simp [Lit.wf, IntKind.min, IntKind.max, IntKind.signed, IntKind.bits]; omega) ?_
      intro we hMe hge
      have hte := turned_grown hge
      have hS : (∀ o, we.cell? ⟨gx, o, none⟩ = (#[.int .i64 x.op, .int .i64 x.lba, .int .i64 x.n, .slice (some az) dm cd] : Array Value)[o]?) ∧ we.cell? az = some (.int .u8 (cb.toNat : Int)) :=
       ⟨(hBx.turned hte (show ¬ gx = mb by omega)).rules.1, (hte.cells (K := fun b => b ≠ mb) (fun b hb e => hb e) az (by omega) (World.block_lt_of_cell? wx az hHeld.2)).trans hHeld.2⟩
      refine hK9.out _ _ hS (fun hH2 => ?_)
      clear hK9 K
      replace hK := hK.map hte
      replace hL := hL.turned hte (fun b hb e => by omega)
      replace hg := hg.turned hte (fun b hb e => by omega)
      replace hBx := hBx.turned hte (show ¬ gx = mb by omega)
      replace hdb := hdb.turned hte (fun b hb e => by omega)
      have hfn : (fun i => if i = x.lba + (r : Int) then (cb.toNat : Int) else if i = x.lba + (r : Int) then (0 : Int) else if x.lba ≤ i ∧ i < x.lba + (r : Int) then (vb.toNat : Int) else ((F0 i).toNat : Int)) = fun b => if x.lba ≤ b ∧ b < x.lba + ((r + 1 : Nat) : Int) then (vb.toNat : Int) else ((F0 b).toNat : Int) := funext fun b => by
       rw [hvc]
       split <;> (try split) <;> (try split) <;> (try split) <;> first | rfl | omega
      rw [hfn] at hMe
      clear hfn hM' hHeld hH2 hS hge hte
      refine wpAnyH_done (by kernel_rfl) ?_ _
      go_wp2_with fail
      go_roundw
      case rel => exact ⟨r + 1, nR + 2, by go_num, by omega, hK, hMe, by omega, hL, hg, by rw [HDM.out]; exact hBx, by rw [HDM.out]; exact hdb, _, rfl⟩
      case measure => simp [intOf]; omega
end Go.Proofs.YtjahaflkdpmhpaaGreat
