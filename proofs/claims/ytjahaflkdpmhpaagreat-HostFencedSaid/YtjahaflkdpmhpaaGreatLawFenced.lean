/- A part of the proof. -/
import Derived.Test.YtjahaflkdpmhpaaGreatHostDH
set_option linter.unusedSimpArgs false
set_option maxHeartbeats 16000000
set_option maxRecDepth 100000
namespace Go.Proofs.YtjahaflkdpmhpaaGreat
open Go.RowKit
def f5 : Nat → Int := fun _ => 5
def fd (j : Nat) : Zd := devA 3000 (fz f5 2 j)
theorem fd_new : newD 2 3000 2 2 = (fd 0, 0) := by kernel_rfl
theorem fd_ents : entsU (foundL (fd 0).z) [] 2 = [] := by kernel_rfl
theorem fd_found : foundL (fd 0).z = [f0d, f0d] := by kernel_rfl
theorem fh_blocks : blocksH (newH 1 [] 0) 0 200 1 = startH s200 f5 0 := by kernel_rfl
theorem fh_small (j : Nat) (hj : j ≤ 2) : SmallHo (startH s200 f5 j) := ⟨by show (fo f5 j).length ≤ _; rw [fo_len]; omega, by show s200.length ≤ 1000000; decide, by show ([] : List UInt8).length ≤ 1000000000; decide, by show ([] : List Rc).length ≤ 1000000; decide, by show ([] : List Ex).length ≤ 1000000; decide⟩
theorem hostFenced_all (hli : ∀ W : World, Calls Tryz.prog 10 #[] W fun e w' => e = .returned (.bool true) ∧ Below W.heap.size W w') (l : List Og) (v : Value) (lt : Og) (w : World) (hv : IsL Rp.og w (· < w.heap.size) v l) (hlt : lt.ok) :
 Calls Tryz.prog 3 #[v, .agg (ogC lt)] w fun e w' => e = .returned (.bool true) ∧ Below w.heap.size w w' := by
 obtain ⟨Aa, ca, rfl, -⟩ := hv.form
 have hlen := hv.len
 have E := (Kn.start w).give Stable.list hv |>.push 24 (ogC lt)
 obtain ⟨n, hn⟩ : ∃ n, l.length = n := ⟨_, rfl⟩
 rw [hn] at E hlen ⊢
 have HN := Lib.hid hn
 clear hn hv
 have hnw := fun W => znewK_any 2 3000 2 2 W
 rw [fd_new] at hnw
 have hne := fun A c K W h => hnew_any 1 (fd 0) A c K W (by decide) (OkA.ok (fz_ok (by decide) (by decide) (by decide))) h (by rw [show (fd 0).z.length = 2 from rfl, fd_ents]; simp) (by rw [fd_found]; simp [f0d]) (by rw [fd_found]; decide) (by rw [fd_found]; decide)
 rw [show newF 0 (foundL (fd 0).z) = 0 by rw [fd_found]; rfl] at hne
 have hbl := fun v K W a b => hblocks_any (newH 1 [] 0) v 0 200 1 K W a b (by constructor <;> decide) (by decide) (by decide) (by decide)
 rw [fh_blocks] at hbl
 go_enter Tryz.func3, Tryz.ntmps3
 go_upto_region 1 with fail
 generalize w.alloc (.cells (ogC lt) 24) = w1 at E ⊢
 go_wp2_with fail
 refine (hli _).mono ?_
 rintro e w2 ⟨rfl, hb2⟩
 replace E := E.step hb2
 clear hb2 hli
 by_cases hle : n ≤ 30
 case neg =>
  have g1 : ¬ (n : Int) ≤ 30 := by omega
  clear hnw hne hbl
  go_wp2
  go_ret
  exact ⟨rfl, E.below⟩
 have g1 : (n : Int) ≤ 30 := by omega
 go_upto_region 4 with fail
 go_wp2_with fail
 refine (hnw _).mono ?_
 rintro e w3 ⟨v, rfl, ⟨A, c, rfl, hz⟩, hb3⟩
 have hg3 : w.heap.size < w3.heap.size := ((E.step hb3).at_ m0).lt
 replace E := ((E.step hb3).give Stable.list hz.zlt) |>.push 28 (zdC (fd 0) A c)
 clear hnw hz hb3 g1
 go_upto_region 5 with fail
 have hs3 := (E.at_ m0).lt
 have hg0 := (E.at_ m1).lt
 obtain ⟨gd, hgd⟩ : ∃ g, w3.heap.size = g := ⟨_, rfl⟩
 have hgl : w.heap.size < gd := by
  have := E.at_ m1
  have h1 := E.below.size
  rw [← hgd]
  exact hg3
 rw [hgd] at E hs3 ⊢
 generalize w3.alloc (.cells (zdC (fd 0) A c) 28) = w4 at E hs3 hg0 ⊢
 obtain ⟨q0, f0, t0⟩ := E.rules m0
 go_wp2_with fail
 refine (hne A c _ _ (E.get m0)).mono ?_
 rintro e w5 ⟨vh, mm, rfl, hmm, -, -, hh5, hb5⟩
 have hm0 : mm = [] := by
  rw [show (fd 0).z.length = 2 from rfl, fd_ents] at hmm
  injection hmm with hmm
  exact hmm.symm
 subst hm0
 replace E := (E.step hb5).give Stable.ho hh5.lt
 have hs5 := hb5.size
 obtain ⟨c5, rfl, hn5, h15, -⟩ := ho_cs hh5
 obtain ⟨gh, hgh⟩ : ∃ g, w5.heap.size = g := ⟨_, rfl⟩
 clear q0 f0 t0 hne hmm hh5 hb5
 go_upto_region 6 with (refine st_ho_new rfl rfl (by first | rfl | simp [Act.eval, World.size_alloc]) rfl rfl hn5 h15 ?_)
 replace E := E.push 42 c5
 have hs6 := (E.at_ m0).lt
 rw [hgh] at E hs5 hs6
 generalize w5.alloc (.cells c5 42) = w6 at E hs6 ⊢
 have hbl6 := hbl _ _ w6 (E.get m0) (fun b hb => by have := hb.2; omega)
 clear hbl
 go_wp2_with (refine ld_ho (E.at_ m0) hn5 rfl rfl rfl ?_)
 refine hbl6.mono ?_
 rintro e w7 ⟨v7, rfl, hh7, hb7⟩
 replace E := E.step hb7
 have hs7 := hb7.size
 obtain ⟨c7, rfl, hn7, h17, -⟩ := ho_cs hh7
 clear hbl6 hb7
 have hD := DH.made (gd := gd) (gh := gh) (d := fd 0) E.below (E.at_ m1) ((E.get m1).more fun b hb => ⟨by have := hb.2; omega, by have := hb.2; omega⟩) (E.at_ m0) hn5 ((E.get m0).more fun b hb => ⟨by have := hb.1; omega, by have := hb.2; omega⟩) (by omega) (by omega)
 replace hh7 : IsHo w7 (fun b => b ≠ gd ∧ b ≠ gh) (.agg c7) (startH s200 f5 0) := hh7.more fun b hb => by rcases hb with hb | hb <;> constructor <;> omega
 have hL := E.get m2
 have hG := E.at_ m2
 go_upto_region 7 with (refine st_ho (E.at_ m0) hn5 rfl rfl rfl rfl hn7 h17 ?_; intro w8 hs8 ht8 hB8)
 replace hD := hD.stH ht8 hn7 hh7 hB8
 have hL8 := hL.turned ht8 (fun b hb e => by omega)
 have hG8 := hG.turned ht8 (show ¬ w.heap.size = gh by omega)
 clear E hL hG hh7 ht8 hB8 hs8 hs7 hs6 hs5 hs3 hg0 hg3 hgd hgh hn5 h15 hn7 h17
 go_upto_region 10 with fail
 go_loopw [11, 54] (fun x11 x54 wr => ∃ j : Nat, x54 = .int .i64 j ∧ j ≤ 2 ∧ DH w gd gh wr (fd j) (startH s200 f5 j) ∧ IsL Rp.og wr (· < w.heap.size) (.slice Aa n ca) l ∧ Blk wr w.heap.size 24 (ogC lt) ∧ ∃ y, x11 = y) (fun _ x54 _ => 2 - (intOf x54).toNat)
 case atStart => exact ⟨0, rfl, by omega, hD, hL8, hG8, _, rfl⟩
 case round =>
  clear hD hL8 hG8
  obtain ⟨j, rfl, hj, hD, hL, hG, y, rfl⟩ := hrel
  by_cases hj2 : j < 2
  case pos =>
   have j1 : (j : Int) < 2 := by omega
   have j0 : (0 : Int) ≤ (j : Int) := by omega
   have hfen := fence_at (M := 3000) (n := 2) (F := f5) (j := j) (by decide) (by decide) (fun k _ => by show (0 : Int) < 5; decide) hj2
   have hgai := gain_at (S := s200) (F := f5) (j := j)
   obtain ⟨A, c, hBd, hz⟩ := hD.dev
   obtain ⟨ch, hBh, hnh, hho⟩ := hD.host
   obtain ⟨q0, f0⟩ := hBd.rules
   have t0 := hBd.lt
   have hdo := do_any (fd j) ⟨7, j, 5, 0, 0, []⟩ A c none 0 _ wr hz.zlt (fun b hb => hb.2) (IsB.nil_ _ _) (by show (fz f5 2 j).length * 40 ≤ _; rw [fz_len]; decide) (by show (0 : Int) ≤ 9223372036854775807; decide)
   rw [show doZ (fd j) ⟨7, j, 5, 0, 0, []⟩ = (fd (j + 1), dn0) from hfen] at hdo
   go_wp2_with fail
   refine hdo.mono ?_
   rintro e wa ⟨va, vdn, rfl, ⟨A2, c2, rfl, hza, -⟩, ⟨A3, c3, rfl, -⟩, hba⟩
   have hL2 := hL.step hba
   have hG2 := hG.step hba
   have hD1 := hD.step hba
   have hza' := hza.more (K' := fun b => b ≠ gd ∧ b ≠ gh) (fun b hb => by have := hBh.lt; rcases hb with hb | hb; exact hb.1; constructor <;> omega)
   go_upto_region 13 with (refine st_zns (hBd.step hba) rfl rfl rfl rfl rfl (by rfl) (by rfl) ?_; intro wb hsb htb hBb)
   have hD2 := hD1.stD htb hza' hBb
   have hL3 := hL2.turned htb (fun b hb e => by omega)
   have hG3 := hG2.turned htb (show ¬ w.heap.size = gd by omega)
   clear hD1 hL2 hG2 hza hza' hdo hho hnh hBh hz q0 f0 t0 hsb htb hBb hBd hL hG hD hba hfen
   obtain ⟨ch, hBh, hnh, hho⟩ := hD2.host
   have hga := hgain_any (startH s200 f5 j) (.agg ch) j 5 _ wb hho.lt (fun b hb => hb.2) (fh_small j hj) (by omega) (by decide) fo_rise (by show (fo f5 j).length ≤ _; rw [fo_len]; omega)
   rw [show gainH (startH s200 f5 j) j 5 = startH s200 f5 (j + 1) from hgai] at hga
   go_wp2_with (refine ld_ho hBh hnh rfl rfl rfl ?_)
   refine hga.mono ?_
   rintro e wc ⟨vc, rfl, hhc, hbc⟩
   obtain ⟨cc, rfl, hnc, h1c, -⟩ := ho_cs hhc
   have hhc' := hhc.more (K' := fun b => b ≠ gd ∧ b ≠ gh) (fun b hb => by have := hBh.lt; have := hD2.gl; rcases hb with hb | hb; constructor <;> omega; exact hb.1)
   have hD3 := hD2.step hbc
   have hL4 := hL3.step hbc
   have hG4 := hG3.step hbc
   go_upto_region 14 with (refine st_ho (hBh.step hbc) hnh rfl rfl rfl rfl hnc h1c ?_; intro wd hsd htd hBd)
   have hD4 := hD3.stH htd hnc hhc' hBd
   have hL5 := hL4.turned htd (fun b hb e => by have := hD3.gl; omega)
   have hG5 := hG4.turned htd (show ¬ w.heap.size = gh by have := hD3.gl; omega)
   clear hD3 hL4 hG4 hhc hhc' hga hho hnh hBh hbc hsd htd hBd hD2 hL3 hG3 hgai hnc h1c
   go_wp2
   go_roundw
   case rel => exact ⟨j + 1, by go_num, by omega, hD4, hL5, hG5, _, rfl⟩
   case measure => simp [intOf]; omega
  case neg =>
   obtain rfl : j = 2 := by omega
   have hI : HInv 2 3000 f5 10000 s200 (fd 2) (startH s200 f5 2) (fun _ => ⟨1, 0, 0⟩) [] := HInv.start (by decide) (by decide) (fun k _ => by show (0 : Int) < 5 ∧ (5 : Int) ≤ 1000000; decide)
   clear hj2 hj
   go_upto_region 16 with fail
   rw [show ((2 : Nat) : Int) = 2 from rfl]
   go_loopw [12, 13, 14, 15, 16, 73] (fun x12 x13 x14 x15 x16 x73 wr => ∃ (j : Nat) (d : Zd) (h : Ho) (H : Nat → Hd) (log : List (Nat × Rc)), x73 = .int .i64 j ∧ j ≤ n ∧ DH w gd gh wr d h ∧ HInv 2 3000 f5 10000 s200 d h H log ∧ log.length ≤ 4 * j ∧ IsL Rp.og wr (· < w.heap.size) (.slice Aa n ca) l ∧ Blk wr w.heap.size 24 (ogC lt) ∧ (∃ y, x12 = y) ∧ (∃ y, x13 = y) ∧ (∃ y, x14 = y) ∧ (∃ y, x15 = y) ∧ ∃ y, x16 = y) (fun _ _ _ _ _ x73 _ => n - (intOf x73).toNat)
   case atStart => exact ⟨0, _, _, _, [], rfl, Nat.zero_le _, hD, hI, by simp, hL, hG, ⟨_, rfl⟩, ⟨_, rfl⟩, ⟨_, rfl⟩, ⟨_, rfl⟩, _, rfl⟩
   case round =>
    clear hD hL hG hI
    obtain ⟨j, d, h, H, log, rfl, hj, hD, hI, hlog, hL, hG, ⟨y1, rfl⟩, ⟨y2, rfl⟩, ⟨y3, rfl⟩, ⟨y4, rfl⟩, y5, rfl⟩ := hrel
    by_cases hjn : j < n
    case neg =>
     obtain rfl : j = n := by omega
     clear hj hjn
     go_upto_region 24 with fail
     go_loopw [17, 18, 19, 93] (fun x17 x18 x19 x93 wr => ∃ (k : Nat) (zs : List Zn), x93 = .int .i64 k ∧ k ≤ 2 ∧ DH w gd gh wr (devA 3000 zs) h ∧ OkA 3000 zs ∧ DevH H log 2 zs ∧ (∀ i, i < 2 → (zs.getD i z0).fe = if i < k then 6 else 5) ∧ Blk wr w.heap.size 24 (ogC lt) ∧ (∃ y, x17 = y) ∧ (∃ y, x18 = y) ∧ ∃ y, x19 = y) (fun _ _ _ x93 _ => 2 - (intOf x93).toNat)
     case atStart => exact ⟨0, d.z, rfl, by omega, by rw [← hI.dev]; exact hD, hI.ok, hI.bytes, fun i hi => by rw [hI.fe i hi, if_neg (by omega)]; rfl, hG, ⟨_, rfl⟩, ⟨_, rfl⟩, _, rfl⟩
     case round =>
      clear hD hG hL
      obtain ⟨k, zs, rfl, hk, hD, hok, hdv, hfe, hG, ⟨y1, rfl⟩, ⟨y2, rfl⟩, y3, rfl⟩ := hrel
      by_cases hk2 : k < 2
      case neg =>
       obtain rfl : k = 2 := by omega
       rw [show ((2 : Nat) : Int) = 2 from rfl]
       go_upto_region 31 with fail
       obtain ⟨A, c, hBd, hz⟩ := hD.dev
       obtain ⟨q0, f0⟩ := hBd.rules
       have t0 := hBd.lt
       have hcp := copy05_any (devA 3000 zs) (.agg (zdC (devA 3000 zs) A c)) wr ⟨A, c, rfl, hz.more fun _ _ => trivial⟩ (by have := hdv.1; show zs.length * 40 ≤ _; omega)
       go_wp2_with fail
       refine hcp.mono ?_
       rintro e wa ⟨va, rfl, ⟨A2, c2, rfl, hza⟩, hba⟩
       replace hD := hD.step hba
       replace hG := hG.step hba
       clear q0 f0 t0 hBd hz hcp
       go_upto_region 32 with fail
       obtain ⟨hza, -⟩ := hza
       have hbn := (Below.refl wa.heap.size wa).alloc (Nat.le_refl _) (.cells (zdC (devA 3000 zs) A2 c2) 28)
       have hB20 := Blk.new wa 28 (zdC (devA 3000 zs) A2 c2) rfl
       replace hD := hD.step hbn
       replace hG := hG.step hbn
       replace hza := hza.step hbn
       obtain ⟨g20, hg20⟩ : ∃ g, wa.heap.size = g := ⟨_, rfl⟩
       generalize wa.alloc (.cells (zdC (devA 3000 zs) A2 c2) 28) = wz at hD hG hza hB20 ⊢
       rw [hg20] at hB20 ⊢
       clear hbn hg20 hba
       go_cut [7, 21, 22] (fun x7 x21 x22 wx => ∃ g21 g22 A3 c3 cs3 e0 d1, x7 = .int .i64 e0 ∧ x21 = .pointer (some ⟨g21, 0, none⟩) ∧ x22 = .pointer (some ⟨g22, 0, none⟩) ∧ ((e0 = 42 ∧ d1 = devA 3000 zs) ∨ (e0 = 64 ∧ d1 = zd0)) ∧ Below wz.heap.size wz wx ∧ Blk wx g21 28 (zdC d1 A3 c3) ∧ Blk wx g22 42 cs3 ∧ cs3[3]? = some (.bool false) ∧ IsL Rp.zone wx (fun _ => True) (.slice A3 d1.z.length c3) d1.z)
       case first =>
        have hb0 : Below wz.heap.size wz wz.drew := (Below.refl _ _).drew
        obtain ⟨A, c, hBd, hz⟩ := hD.dev
        obtain ⟨ch, hBh, hnh, hho⟩ := hD.host
        have HK : Hid (∀ W, Below wz.heap.size wz W → (∀ o, W.cell? ⟨gd, o, none⟩ = (zdC (devA 3000 zs) A c)[o]?) ∧ (∀ o, W.cell? ⟨gh, o, none⟩ = ch[o]?) ∧ (∀ o, W.cell? ⟨w.heap.size, o, none⟩ = (ogC lt)[o]?)) := Lib.hid fun W hb => ⟨(hBd.step hb).rules.1, (hBh.step hb).rules.1, (hG.step hb).rules.1⟩
        have hgr := fun W => group17_any lt 99 W (by decide) hlt
        have HCO := Lib.hid fun (W : World) (A6 : Option Addr) (c6 : Nat) (Kl : Nat → Prop) (hb : Below wz.heap.size wz W) (hg : IsL Rp.io W Kl (.slice A6 (groupL lt 99).length c6) (groupL lt 99)) => hcommit_fen hI hok hdv.1 (fun k hk => by rw [hfe k hk, if_pos hk]; show (6 : Int) ≠ 5; decide) lt 99 (by omega) A c (.agg ch) A6 c6 (fun b => (b ≠ gd ∧ b ≠ gh) ∧ b < wz.heap.size) Kl W ((hz.zlt).step hb) ((hho.lt).step hb) hg (fun b hb' => by have := hb.size; have := hb'.2; omega)
        obtain ⟨gl, hgl4⟩ : ∃ gl, groupL lt 99 = gl := ⟨_, rfl⟩
        rw [hgl4] at hgr HCO
        clear hgl4
        refine wp_region_held_drew (S := fun W => (∀ o, W.cell? ⟨gd, o, none⟩ = (zdC (devA 3000 zs) A c)[o]?) ∧ (∀ o, W.cell? ⟨gh, o, none⟩ = ch[o]?) ∧ (∀ o, W.cell? ⟨w.heap.size, o, none⟩ = (ogC lt)[o]?)) (by kernel_rfl) (HK.out _ hb0) (fun hHeld => ?_)
        have hbx := hb0
        generalize wz.drew = wx at hbx hHeld ⊢
        refine wT 0 111 ?_
        refine wT 1 112 ?_ (hy := by intro w hSw; (try dsimp only at hSw); refine Eq.trans (run_ldho hSw.2.1 hnh rfl rfl) ?_; with_reducible rfl)
        refine wT 2 113 ?_
        repeat' first
         | (show StepH 3 _ _ _ _ _ _ _ _ _ _
            intro K hK
            go_simp
            refine (hgr _).mono ?_
            rintro e9 wx ⟨Ag, cg, rfl, hg, hbn⟩
            first | replace hB14 := hB14.step hbn | skip
            first | replace hB15 := hB15.step hbn | skip
            replace hbx := hbx.trans (hbn.mono hbx.size)
            go_wp2_with fail
            refine hK.out _ _ (HK.out _ hbx) (fun hHeld => ?_)
            clear hK K)
         | (show StepH 4 _ _ _ _ _ _ _ _ _ _
            intro K hK
            obtain ⟨n0, hn0⟩ : ∃ n0, wx.heap.size = n0 := ⟨_, rfl⟩
            have hz0 : wz.heap.size ≤ n0 := by rw [← hn0]; exact hbx.size
            go_simp
            refine (HCO.out _ _ _ _ hbx hg).mono ?_
            rintro e9 wx ⟨dv, vh, e0, d1, h1, rfl, hcase, hop, ⟨⟨A2, c2, rfl, hz2⟩, hh2⟩, hbn⟩
            obtain ⟨cs2, rfl, hn2, h12, h3c⟩ := ho_cs hh2
            rw [hop] at h3c
            obtain ⟨n1, hn1⟩ : ∃ n1, wx.heap.size = n1 := ⟨_, rfl⟩
            replace hz2 := hz2.zlt
            rw [hn0, hn1] at hz2
            first | (have hp14 : g14 < n0 ∨ n1 ≤ g14 := .inl (by have := hB14.lt; omega)) | skip
            first | (have hp15 : g15 < n0 ∨ n1 ≤ g15 := .inl (by have := hB15.lt; omega)) | skip
            first | replace hB14 := hB14.step hbn | skip
            first | replace hB15 := hB15.step hbn | skip
            replace hbx := hbx.trans (hbn.mono hbx.size)
            have hnx : n1 ≤ wx.heap.size := Nat.le_of_eq hn1.symm
            clear hn0 hn1 hh2 hop
            go_wp2_with fail
            refine hK.out _ _ (HK.out _ hbx) (fun hHeld => ?_)
            clear hK K hg
            refine wT 5 110 ?_
            refine wT 6 116 ?_
            refine wT 7 117 ?_
            refine wT 8 118 ?_)
         | (show StepH 9 _ _ _ _ _ _ _ _ _ _
            intro K hK
            obtain ⟨g14, hg14⟩ : ∃ g, wx.heap.size = g := ⟨_, rfl⟩
            go_simp
            try rw [hg14]
            refine at_alloc (K := K _) ?_
            intro wx hby hB14
            rw [hg14] at hB14
            have hl14 : wz.heap.size ≤ g14 := by rw [← hg14]; exact hbx.size
            first | (have hp14 : g14 < n0 ∨ n1 ≤ g14 := .inr (by rw [← hg14]; exact hnx)) | skip
            first | (replace hz2 := hz2.step hby; replace hnx := Nat.le_trans hnx hby.size) | skip
            first | replace hg := hg.step hby | skip
            first | replace hB15 := hB15.step hby | skip
            replace hbx := hbx.trans (hby.mono hbx.size)
            clear hg14
            refine hK.out _ _ (HK.out _ hbx) (fun hHeld => ?_)
            clear hK K)
         | (show StepH 10 _ _ _ _ _ _ _ _ _ _
            intro K hK
            obtain ⟨g15, hg15⟩ : ∃ g, wx.heap.size = g := ⟨_, rfl⟩
            go_simp
            try rw [hg15]
            refine at_alloc (K := K _) ?_
            intro wx hby hB15
            rw [hg15] at hB15
            have hl15 : wz.heap.size ≤ g15 := by rw [← hg15]; exact hbx.size
            first | (have hp15 : g15 < n0 ∨ n1 ≤ g15 := .inr (by rw [← hg15]; exact hnx)) | skip
            first | (replace hz2 := hz2.step hby; replace hnx := Nat.le_trans hnx hby.size) | skip
            first | replace hg := hg.step hby | skip
            first | replace hB14 := hB14.step hby | skip
            replace hbx := hbx.trans (hby.mono hbx.size)
            clear hg15
            refine hK.out _ _ (HK.out _ hbx) (fun hHeld => ?_)
            clear hK K)
         | (guard_hyp hz2
            guard_hyp hB14
            guard_hyp hB15
            refine wRn 11 (fun K hK => ?_)
            refine st_znsI rfl hB14 rfl rfl rfl rfl (by rfl) (by rfl) ?_
            intro wx hsx htx hBn
            replace hB15 := hB15.turned htx (blk_ne hB15 hB14 (by decide))
            replace hz2 := hz2.turned htx (fun b hb e => by have h2 := hb.2; rcases hb.1 with h1 | h1; (have := h1.2; omega); omega)
            replace hbx := Turned.upon hbx htx hl14 (Nat.le_refl _)
            clear hB14 hsx
            refine hK.out _ _ (HK.out _ hbx) (fun hHeld => ?_)
            clear hK K
            refine wRn 12 (fun K hK => ?_)
            refine st_hoI rfl hB15 rfl rfl rfl rfl hn2 h12 ?_
            intro wx hsx htx hBm
            replace hBn := hBn.turned htx (blk_ne hBn hB15 (by decide))
            replace hz2 := hz2.turned htx (fun b hb e => by have h2 := hb.2; rcases hb.1 with h1 | h1; (have := h1.2; omega); omega)
            replace hbx := Turned.upon hbx htx hl15 (Nat.le_refl _)
            clear hB15 hsx
            refine hK.out _ _ (HK.out _ hbx) (fun hHeld => ?_)
            clear hK K
            refine wT 13 7 ?_
            refine wpAnyH_done (by kernel_rfl) ?_ _
            go_wp2_with fail
            go_meet
            exact ⟨g14, g15, A2, c2, cs2, e0, d1, rfl, rfl, rfl, hcase, hbx, hBn, hBm, h3c, hz2.more (fun _ _ => trivial)⟩)
         | (guard_hyp hz2
            guard_hyp hB14
            refine wS1 10 ?_)
         | (guard_hyp hz2
            guard_hyp hB15
            refine wS1 9 ?_)
         | (guard_hyp hz2
            refine wS2 9 10 ?_ ?_)
         | (guard_hyp hg
            guard_hyp hB14
            guard_hyp hB15
            refine wS1 4 ?_)
         | (guard_hyp hg
            guard_hyp hB14
            refine wS2 4 10 ?_ ?_)
         | (guard_hyp hg
            guard_hyp hB15
            refine wS2 4 9 ?_ ?_)
         | (guard_hyp hg
            refine wS3 4 9 10 ?_ ?_ ?_)
         | (guard_hyp hB14
            guard_hyp hB15
            refine wS1 3 ?_)
         | (guard_hyp hB14
            refine wS2 3 10 ?_ ?_)
         | (guard_hyp hB15
            refine wS2 3 9 ?_ ?_)
         | (refine wS3 3 9 10 ?_ ?_ ?_)
       case rest =>
       obtain ⟨g21, g22, A3, c3, cs3, e0, d1, rfl, rfl, rfl, hcase, hbx, hB21, hB22, h3c, hz3⟩ := hcut
       replace hD := hD.step hbx
       replace hza := hza.step hbx
       replace hB20 := hB20.step hbx
       have hmp := fun W A c (h : IsL Rp.zone W (fun _ => True) (.slice A (devA 3000 zs).z.length c) (devA 3000 zs).z) => rmap_any (devA 3000 zs) A c [] none 0 (fun _ => True) (fun _ => False) W hok.ok h (IsL.nil_ _ _) (by simp) (by show ∀ x ∈ entsU (foundL zs) [] zs.length, _; rw [hdv.1]; exact entsH_good hI.good (by decide) (by decide) hdv) (found_atH hI.good (by decide) hdv)
       have HMP := Lib.hid hmp
       have hzl : zs.length = 2 := hdv.1
       have h22 : wc.cell? ⟨g22, 3, none⟩ = some (.bool false) := (hB22.rules.1 3).trans h3c
       have hbe := hD.below
       clear hmp hbx hG hI hok hdv hfe hk hk2
       go_upto_region 33 with fail
       obtain ⟨wz, rfl⟩ : ∃ wz : World, wz = wc := ⟨_, rfl⟩
       go_cut [144] (fun x144 wx => x144 = .bool false ∧ Below wz.heap.size wz wx)
       case first =>
        obtain ⟨q0, f0⟩ := hB21.rules
        have t0 := hB21.lt
        obtain ⟨q2, f2⟩ := hB20.rules
        have t2 := hB20.lt
        have t1 := hB22.lt
        clear HMP hD
        rcases hcase with ⟨rfl, rfl⟩ | ⟨rfl, rfl⟩
        · have hsm := refSame05_any (devA 3000 zs) (devA 3000 zs) _ _ wz ⟨A3, c3, rfl, hz3⟩ ⟨A2, c2, rfl, hza⟩
          rw [show sameD (devA 3000 zs) (devA 3000 zs) = true from sameD_iff.2 rfl] at hsm
          have hzz : ((devA 3000 zs).z.length : Int) = 2 := by show (zs.length : Int) = 2; omega
          clear hza hB20 hz3 h3c
          go_wp2_with fail
          refine hsm.mono ?_
          rintro e ws ⟨rfl, hbs⟩
          have h22' : ws.cell? ⟨g22, 3, none⟩ = some (.bool false) := ((hB22.step hbs).rules.1 3).trans (((hB22.rules.1 3).symm.trans h22))
          clear q0 f0 t0 q2 f2 t2 h22 hsm hzz hB21 hB22
          go_wp2_with fail
          go_meet
          exact ⟨by simp [go_sem], hbs⟩
        · go_wp2_with fail
          go_meet
          exact ⟨by simp [go_sem], Below.refl _ _⟩
       case rest =>
       obtain ⟨rfl, hbx⟩ := hcut
       replace hD := hD.step hbx
       replace hza := hza.step hbx
       replace hB20 := hB20.step hbx
       clear hbe hbx hB21 hB22 hz3 h22 hcase h3c
       obtain ⟨wz', rfl⟩ : ∃ wz' : World, wz' = wc := ⟨_, rfl⟩
       go_upto_region 35 with fail
       obtain ⟨q2, f2⟩ := hB20.rules
       have t2 := hB20.lt
       go_wp2_with fail
       refine (HMP.out _ _ _ hza).mono ?_
       rintro e wa ⟨m1, Am, cm, rfl, hm1, -, -, -, hba⟩
       replace hD := hD.step hba
       clear q2 f2 t2 hza hB20 hba
       obtain ⟨A, c, hBd, hz⟩ := hD.dev
       obtain ⟨q2, f2⟩ := hBd.rules
       have t2 := hBd.lt
       go_upto_region 36 with fail
       go_wp2_with fail
       refine (HMP.out _ _ _ (hz.more fun _ _ => trivial)).mono ?_
       rintro e wb ⟨m2, Am2, cm2, rfl, hm2, -, -, -, hbb⟩
       obtain rfl : m1 = m2 := by rw [hm1] at hm2; injection hm2
       have hbe := (hD.step hbb).below
       clear q2 f2 t2 hz hBd HMP hm1 hm2 hD hbb
       go_wp2_with fail
       go_ret
       refine ⟨?_, hbe⟩
       simp [go_sem]
      have k1 : (k : Int) < 2 := by omega
      have k0 : (0 : Int) ≤ (k : Int) := by omega
      have hkz : k < zs.length := by rw [hdv.1]; exact hk2
      have hfk := hfe k hk2
      rw [if_neg (by omega)] at hfk
      have hfen := devA_fence (e := 6) hok (getD_some hkz) (by rw [hfk]; decide)
      obtain ⟨zs', hzs'⟩ : ∃ zs', zs.set k ⟨(zs.getD k z0).st, 6, (zs.getD k z0).d⟩ = zs' := ⟨_, rfl⟩
      rw [hzs'] at hfen
      have hok' : OkA 3000 zs' := by
       rw [← hzs']
       obtain ⟨a1, a2, _, a4⟩ := hok.2.2 _ (List.mem_of_getElem? (getD_some hkz))
       exact hok.set ⟨a1, a2, by show (0 : Int) ≤ 6; decide, a4⟩
      have hdv' : DevH H log 2 zs' := by
       rw [← hzs']
       refine ⟨by rw [List.length_set]; exact hdv.1, fun i hi => ?_⟩
       rw [getD_set hkz]
       split
       · rename_i e; subst e; exact hdv.2 _ hi
       · exact hdv.2 i hi
      have hfe' : ∀ i, i < 2 → (zs'.getD i z0).fe = if i < k + 1 then 6 else 5 := fun i hi => by
       rw [← hzs', getD_set hkz]
       by_cases hik : i = k
       · rw [if_pos hik, if_pos (by omega)]
       · rw [if_neg hik, hfe i hi]
         by_cases h1 : i < k
         · rw [if_pos h1, if_pos (by omega)]
         · rw [if_neg h1, if_neg (by omega)]
      obtain ⟨A, c, hBd, hz⟩ := hD.dev
      obtain ⟨q0, f0⟩ := hBd.rules
      have t0 := hBd.lt
      have hgh := hD.host
      obtain ⟨_, hBh, _, _⟩ := hgh
      have hhl := hBh.lt
      have hdo := do_any (devA 3000 zs) ⟨7, k, 6, 0, 0, []⟩ A c none 0 _ wr hz.zlt (fun b hb => hb.2) (IsB.nil_ _ _) (by have := hdv.1; show zs.length * 40 ≤ _; omega) (by show (0 : Int) ≤ 9223372036854775807; decide)
      rw [hfen] at hdo
      clear hzs' hfen hfk hok hdv hfe
      go_wp2_with fail
      refine hdo.mono ?_
      rintro e wa ⟨va, vdn, rfl, ⟨A2, c2, rfl, hza, -⟩, ⟨A3, c3, rfl, -⟩, hba⟩
      have hza' := hza.more (K' := fun b => b ≠ gd ∧ b ≠ gh) (fun b hb => by rcases hb with hb | hb; exact hb.1; constructor <;> omega)
      have hsa := hba.size
      replace hD := hD.step hba
      replace hG := hG.step hba
      clear q0 f0 t0 hBd hz hdo hza hBh hba
      go_upto_region 27 with fail
      rw [show dn0 = (⟨0, 0, []⟩ : Dn) from rfl]
      have hb2 : Below wa.heap.size wa ((wa.alloc (.cells (zdC (devA 3000 zs') A2 c2) 28)).alloc (.cells #[.int .i64 0, .int .i64 0, .slice A3 0 c3] 47)) := ((Below.refl _ _).alloc (Nat.le_refl _) _).alloc (by rw [World.size_alloc]; omega) _
      have hB18 := (Blk.new wa 28 (zdC (devA 3000 zs') A2 c2) rfl).alloc (.cells #[.int .i64 0, .int .i64 0, .slice A3 0 c3] 47)
      have hB19 := Blk.new (wa.alloc (.cells (zdC (devA 3000 zs') A2 c2) 28)) 47 #[.int .i64 0, .int .i64 0, .slice A3 0 c3] rfl
      rw [World.size_alloc] at hB19
      replace hD := hD.step hb2
      replace hG := hG.step hb2
      replace hza' := hza'.step hb2
      generalize (wa.alloc (.cells (zdC (devA 3000 zs') A2 c2) 28)).alloc (.cells #[.int .i64 0, .int .i64 0, .slice A3 0 c3] 47) = wb at hB18 hB19 hD hG hza' ⊢
      clear hb2
      obtain ⟨q1, f1⟩ := hB19.rules
      have t1 := hB19.lt
      obtain ⟨q0, f0⟩ := hB18.rules
      have t0 := hB18.lt
      obtain ⟨_, _, hBd, _⟩ := hD.dev
      go_upto_region 30 with (refine st_zns hBd rfl rfl rfl rfl rfl (by rfl) (by rfl) ?_; intro wc hsc htc hBc)
      have hD2 := hD.stD htc hza' hBc
      have hG2 := hG.turned htc (show ¬ w.heap.size = gd by omega)
      clear q0 f0 t0 q1 f1 t1 hB18 hB19 hD hG hza' hBd hsc htc hBc
      go_wp2
      go_roundw
      case rel => exact ⟨k + 1, zs', by go_num, by omega, hD2, hok', hdv', hfe', hG2, ⟨_, rfl⟩, ⟨_, rfl⟩, _, rfl⟩
      case measure => simp [intOf]; omega
    have j1 : (j : Int) < (n : Int) := by omega
    have j0 : (0 : Int) ≤ (j : Int) := by omega
    have hlt' : j < l.length := by rw [HN.out]; exact hjn
    obtain ⟨ad, rfl, hKa, hok, c0, c1, c2, c3, c4⟩ := og_at hL (List.getElem?_eq_getElem hlt')
    generalize l[j] = e at c0 c1 c2 c3 c4 hok
    obtain ⟨gD0, hgh⟩ : gd < gh ∧ w.heap.size ≤ gd := ⟨hD.gl, hD.g0⟩
    go_upto_region 18 with fail
    have hbn := (Below.refl wr.heap.size wr).alloc (Nat.le_refl _) (.cells (ogC e) 24)
    have hBo := Blk.new wr 24 (ogC e) rfl
    replace hD := hD.step hbn
    replace hL := hL.step hbn
    replace hG := hG.step hbn
    obtain ⟨go, hgo⟩ : ∃ g, wr.heap.size = g := ⟨_, rfl⟩
    generalize wr.alloc (.cells (ogC e) 24) = wz at hD hL hG hBo ⊢
    rw [hgo] at hBo ⊢
    clear c0 c1 c2 c3 c4 hbn hgo
    have hst := commit_step hI (groupL_ne e j) (group_fine e j).1 (group_fine e j).2 (by have := groupL_len e j; omega)
    obtain ⟨cr, hcr⟩ : ∃ cr, commitH d h (groupL e j) = cr := ⟨_, rfl⟩
    go_cut [14, 15, 16] (fun x14 x15 x16 wx => ∃ g14 g15 A2 c2 cs2, x14 = .pointer (some ⟨g14, 0, none⟩) ∧ x15 = .pointer (some ⟨g15, 0, none⟩) ∧ x16 = .int .i64 cr.2.2 ∧ Below wz.heap.size wz wx ∧ Blk wx g14 28 (zdC cr.1 A2 c2) ∧ Blk wx g15 42 cs2 ∧ cs2.size = 15 ∧ cs2.toList.all (·.oneCell') = true ∧ IsL Rp.zone wx (fun b => b ≠ gd ∧ b ≠ gh) (.slice A2 cr.1.z.length c2) cr.1.z ∧ IsHo wx (fun b => b ≠ gd ∧ b ≠ gh) (.agg cs2) cr.2.1 ∧ wz.heap.size ≤ g14 ∧ wz.heap.size ≤ g15)
    case first =>
     have hb0 : Below wz.heap.size wz wz.drew := (Below.refl _ _).drew
     obtain ⟨A, c, hBd, hz⟩ := hD.dev
     obtain ⟨ch, hBh, hnh, hho⟩ := hD.host
     have HK : Hid (∀ W, Below wz.heap.size wz W → (∀ o, W.cell? ⟨gd, o, none⟩ = (zdC d A c)[o]?) ∧ (∀ o, W.cell? ⟨gh, o, none⟩ = ch[o]?) ∧ (∀ o, W.cell? ⟨go, o, none⟩ = (ogC e)[o]?)) := Lib.hid fun W hb => ⟨(hBd.step hb).rules.1, (hBh.step hb).rules.1, (hBo.step hb).rules.1⟩
     have hgr := fun W => group17_any e j W (by omega) hok
     have hco := fun (W : World) (A6 : Option Addr) (c6 : Nat) (Kl : Nat → Prop) (hb : Below wz.heap.size wz W) (hg : IsL Rp.io W Kl (.slice A6 (groupL e j).length c6) (groupL e j)) => hcommit_inv hI e j (by omega) A c (.agg ch) A6 c6 (fun b => (b ≠ gd ∧ b ≠ gh) ∧ b < wz.heap.size) Kl W ((hz.zlt).step hb) ((hho.lt).step hb) hg (fun b hb' => by have := hb.size; have := hb'.2; omega)
     rw [hcr] at hco
     have HCO := Lib.hid hco
     obtain ⟨gl, hgl4⟩ : ∃ gl, groupL e j = gl := ⟨_, rfl⟩
     rw [hgl4] at hgr HCO
     clear hco hst hcr hgl4
     refine wp_region_held_drew (S := fun W => (∀ o, W.cell? ⟨gd, o, none⟩ = (zdC d A c)[o]?) ∧ (∀ o, W.cell? ⟨gh, o, none⟩ = ch[o]?) ∧ (∀ o, W.cell? ⟨go, o, none⟩ = (ogC e)[o]?)) (by kernel_rfl) (HK.out _ hb0) (fun hHeld => ?_)
     have hbx := hb0
     generalize wz.drew = wx at hbx hHeld ⊢
     refine wT 0 79 ?_
     refine wT 1 80 ?_ (hy := by intro w hSw; (try dsimp only at hSw); refine Eq.trans (run_ldho hSw.2.1 hnh rfl rfl) ?_; with_reducible rfl)
     refine wT 2 81 ?_
     refine wT 3 82 ?_
     repeat' first
      | (show StepH 4 _ _ _ _ _ _ _ _ _ _
         intro K hK
         go_simp
         refine (hgr _).mono ?_
         rintro e9 wx ⟨Ag, cg, rfl, hg, hbn⟩
         first | replace hB14 := hB14.step hbn | skip
         first | replace hB15 := hB15.step hbn | skip
         replace hbx := hbx.trans (hbn.mono hbx.size)
         go_wp2_with fail
         refine hK.out _ _ (HK.out _ hbx) (fun hHeld => ?_)
         clear hK K)
      | (show StepH 5 _ _ _ _ _ _ _ _ _ _
         intro K hK
         obtain ⟨n0, hn0⟩ : ∃ n0, wx.heap.size = n0 := ⟨_, rfl⟩
         have hz0 : wz.heap.size ≤ n0 := by rw [← hn0]; exact hbx.size
         go_simp
         refine (HCO.out _ _ _ _ hbx hg).mono ?_
         rintro e9 wx ⟨dv, vh, rfl, ⟨⟨A2, c2, rfl, hz2⟩, hh2⟩, hbn⟩
         obtain ⟨cs2, rfl, hn2, h12, -⟩ := ho_cs hh2
         obtain ⟨n1, hn1⟩ : ∃ n1, wx.heap.size = n1 := ⟨_, rfl⟩
         replace hz2 := hz2.zlt
         replace hh2 := hh2.lt
         rw [hn0, hn1] at hz2 hh2
         first | (have hp14 : g14 < n0 ∨ n1 ≤ g14 := .inl (by have := hB14.lt; omega)) | skip
         first | (have hp15 : g15 < n0 ∨ n1 ≤ g15 := .inl (by have := hB15.lt; omega)) | skip
         first | replace hB14 := hB14.step hbn | skip
         first | replace hB15 := hB15.step hbn | skip
         replace hbx := hbx.trans (hbn.mono hbx.size)
         have hnx : n1 ≤ wx.heap.size := Nat.le_of_eq hn1.symm
         clear hn0 hn1
         go_wp2_with fail
         refine hK.out _ _ (HK.out _ hbx) (fun hHeld => ?_)
         clear hK K hg
         refine wT 6 78 ?_
         refine wT 7 85 ?_
         refine wT 8 86 ?_
         refine wT 9 87 ?_)
      | (show StepH 10 _ _ _ _ _ _ _ _ _ _
         intro K hK
         obtain ⟨g14, hg14⟩ : ∃ g, wx.heap.size = g := ⟨_, rfl⟩
         go_simp
         try rw [hg14]
         refine at_alloc (K := K _) ?_
         intro wx hby hB14
         rw [hg14] at hB14
         have hl14 : wz.heap.size ≤ g14 := by rw [← hg14]; exact hbx.size
         first | (have hp14 : g14 < n0 ∨ n1 ≤ g14 := .inr (by rw [← hg14]; exact hnx)) | skip
         first | (replace hz2 := hz2.step hby; replace hh2 := hh2.step hby; replace hnx := Nat.le_trans hnx hby.size) | skip
         first | replace hg := hg.step hby | skip
         first | replace hB15 := hB15.step hby | skip
         replace hbx := hbx.trans (hby.mono hbx.size)
         clear hg14
         refine hK.out _ _ (HK.out _ hbx) (fun hHeld => ?_)
         clear hK K)
      | (show StepH 11 _ _ _ _ _ _ _ _ _ _
         intro K hK
         obtain ⟨g15, hg15⟩ : ∃ g, wx.heap.size = g := ⟨_, rfl⟩
         go_simp
         try rw [hg15]
         refine at_alloc (K := K _) ?_
         intro wx hby hB15
         rw [hg15] at hB15
         have hl15 : wz.heap.size ≤ g15 := by rw [← hg15]; exact hbx.size
         first | (have hp15 : g15 < n0 ∨ n1 ≤ g15 := .inr (by rw [← hg15]; exact hnx)) | skip
         first | (replace hz2 := hz2.step hby; replace hh2 := hh2.step hby; replace hnx := Nat.le_trans hnx hby.size) | skip
         first | replace hg := hg.step hby | skip
         first | replace hB14 := hB14.step hby | skip
         replace hbx := hbx.trans (hby.mono hbx.size)
         clear hg15
         refine hK.out _ _ (HK.out _ hbx) (fun hHeld => ?_)
         clear hK K)
      | (guard_hyp hz2
         guard_hyp hB14
         guard_hyp hB15
         refine wRn 12 (fun K hK => ?_)
         refine st_znsI rfl hB14 rfl rfl rfl rfl (by rfl) (by rfl) ?_
         intro wx hsx htx hBn
         replace hB15 := hB15.turned htx (blk_ne hB15 hB14 (by decide))
         replace hz2 := hz2.turned htx (fun b hb e => by have h2 := hb.2; rcases hb.1 with h1 | h1; (have := h1.2; omega); omega)
         replace hh2 := IsHo.keep hh2 (htx.cells (K := fun b => (((b ≠ gd ∧ b ≠ gh) ∧ b < wz.heap.size) ∨ n0 ≤ b) ∧ b < n1) fun b hb e => by have h2 := hb.2; rcases hb.1 with h1 | h1; (have := h1.2; omega); omega)
         replace hbx := Turned.upon hbx htx hl14 (Nat.le_refl _)
         clear hB14 hsx
         refine hK.out _ _ (HK.out _ hbx) (fun hHeld => ?_)
         clear hK K
         refine wRn 13 (fun K hK => ?_)
         refine st_hoI rfl hB15 rfl rfl rfl rfl hn2 h12 ?_
         intro wx hsx htx hBm
         replace hBn := hBn.turned htx (blk_ne hBn hB15 (by decide))
         replace hz2 := hz2.turned htx (fun b hb e => by have h2 := hb.2; rcases hb.1 with h1 | h1; (have := h1.2; omega); omega)
         replace hh2 := IsHo.keep hh2 (htx.cells (K := fun b => (((b ≠ gd ∧ b ≠ gh) ∧ b < wz.heap.size) ∨ n0 ≤ b) ∧ b < n1) fun b hb e => by have h2 := hb.2; rcases hb.1 with h1 | h1; (have := h1.2; omega); omega)
         replace hbx := Turned.upon hbx htx hl15 (Nat.le_refl _)
         clear hB15 hsx
         refine hK.out _ _ (HK.out _ hbx) (fun hHeld => ?_)
         clear hK K
         refine wT 14 16 ?_
         refine wpAnyH_done (by kernel_rfl) ?_ _
         go_wp2_with fail
         go_meet
         exact ⟨g14, g15, A2, c2, cs2, rfl, rfl, rfl, hbx, hBn, hBm, hn2, h12, hz2.more (fun b hb => by rcases hb.1 with h1 | h1; exact h1.1; have := hBh.lt; constructor <;> omega), hh2.more (fun b hb => by rcases hb.1 with h1 | h1; exact h1.1; have := hBh.lt; constructor <;> omega), hl14, hl15⟩)
      | (guard_hyp hz2
         guard_hyp hB14
         refine wS1 11 ?_)
      | (guard_hyp hz2
         guard_hyp hB15
         refine wS1 10 ?_)
      | (guard_hyp hz2
         refine wS2 10 11 ?_ ?_)
      | (guard_hyp hg
         guard_hyp hB14
         guard_hyp hB15
         refine wS1 5 ?_)
      | (guard_hyp hg
         guard_hyp hB14
         refine wS2 5 11 ?_ ?_)
      | (guard_hyp hg
         guard_hyp hB15
         refine wS2 5 10 ?_ ?_)
      | (guard_hyp hg
         refine wS3 5 10 11 ?_ ?_ ?_)
      | (guard_hyp hB14
         guard_hyp hB15
         refine wS1 4 ?_)
      | (guard_hyp hB14
         refine wS2 4 11 ?_ ?_)
      | (guard_hyp hB15
         refine wS2 4 10 ?_ ?_)
      | (refine wS3 4 10 11 ?_ ?_ ?_)
    case rest =>
    obtain ⟨g14, g15, A2, c2, cs2, rfl, rfl, rfl, hbx, hB14, hB15, hn2, h12, hz2, hh2, hl14, hl15⟩ := hcut
    have hgw : gh < wz.heap.size := by obtain ⟨_, h1, _⟩ := hD.host; exact h1.lt
    replace hD := hD.step hbx
    replace hL := hL.step hbx
    replace hG := hG.step hbx
    clear hbx hBo
    rcases hst.1 with ⟨k, d', h', H', hk, hc, hI'⟩ | h64
    · rw [hcr] at hc
      subst hc
      dsimp only at hz2 hh2 hB14 ⊢
      obtain ⟨q0, f0⟩ := hB14.rules
      have t0 := hB14.lt
      obtain ⟨A, c, hBd, hz⟩ := hD.dev
      go_upto_region 21 with (refine st_zns hBd rfl rfl rfl rfl rfl (by rfl) (by rfl) ?_; intro wa hsa hta hBa)
      have hD2 := hD.stD hta hz2 hBa
      have hB15' := hB15.turned hta (show ¬ g15 = gd by omega)
      have hh2' := IsHo.keep hh2 (hta.cells (K := fun b => b ≠ gd ∧ b ≠ gh) fun b hb e => hb.1 e)
      have hL2 := hL.turned hta (fun b hb e => by omega)
      have hG2 := hG.turned hta (show ¬ w.heap.size = gd by omega)
      clear q0 f0 t0 hD hL hG hB14 hB15 hz2 hh2 hBd hz hsa hta hBa hI hst hcr
      obtain ⟨ch, hBh, hnh, hho⟩ := hD2.host
      go_upto_region 22 with (first | (refine ld_ho hB15' hn2 rfl rfl rfl ?_) | (refine st_ho hBh hnh rfl rfl rfl rfl hn2 h12 ?_; intro wb hsb htb hBb))
      have hD3 := hD2.stH htb hn2 hh2' hBb
      have hL3 := hL2.turned htb (fun b hb e => by omega)
      have hG3 := hG2.turned htb (show ¬ w.heap.size = gh by omega)
      clear hD2 hL2 hG2 hB15' hh2' hBh hnh hho hsb htb hBb
      go_wp2
      go_roundw
      case rel => exact ⟨j + 1, d', h', H', _, by go_num, by omega, hD3, hI', by have := groupL_len e j; rw [List.length_append, List.length_map, recsI_len]; omega, hL3, hG3, ⟨_, rfl⟩, ⟨_, rfl⟩, ⟨_, rfl⟩, ⟨_, rfl⟩, _, rfl⟩
      case measure => simp [intOf]; omega
    · rw [hcr] at h64
      rw [h64]
      clear hst hcr hB14 hB15 hn2 h12 hz2 hh2 h64
      go_wp2_with fail
      go_roundw
      case rel => exact ⟨j + 1, d, h, H, log, by go_num, by omega, hD, hI, by omega, hL, hG, ⟨_, rfl⟩, ⟨_, rfl⟩, ⟨_, rfl⟩, ⟨_, rfl⟩, _, rfl⟩
      case measure => simp [intOf]; omega
end Go.Proofs.YtjahaflkdpmhpaaGreat
