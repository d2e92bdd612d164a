/- The walk of quicksetlaw16.run. -/
import Derived.Test.YtlippmghgagdaaaGreatRunPlain
import Derived.Test.YtlippmghgagdaaaGreatFill16
import Derived.Test.YtlippmghgagdaaaGreatReplayFound
import Derived.Test.YtlippmghgagdaaaGreatScanMid
namespace Go.Proofs.YtlippmghgagdaaaGreat
open Go.RowKit

theorem wr_at {w : World} {K : Nat → Prop} {A : Option Addr} {n c : Nat} {l : List Wr} (h : IsL Rp.wr w K (.slice A n c) l) {j : Nat} {x : Wr} (hj : l[j]? = some x) :
    ∃ ad, A = some ad ∧ I63 [x.zone, x.lba, x.n] ∧ w.cell? (ad.add (j * 5)) = some (.int .i64 x.zone) ∧ w.cell? ⟨(ad.add (j * 5)).block, (ad.add (j * 5)).off + 1, none⟩ = some (.int .i64 x.lba) ∧ w.cell? ⟨(ad.add (j * 5)).block, (ad.add (j * 5)).off + 2, none⟩ = some (.int .i64 x.n) ∧
      w.cell? ⟨(ad.add (j * 5)).block, (ad.add (j * 5)).off + 3, none⟩ = some (.int .u8 (x.by_.toNat : Int)) ∧ w.cell? ⟨(ad.add (j * 5)).block, (ad.add (j * 5)).off + 4, none⟩ = some (.bool x.trim) := by
  obtain ⟨ad, es, hA, _, hes, hcell⟩ := h.at_ hj
  obtain ⟨rfl, h63⟩ := hes
  have hsz : Rp.wr.size = 5 := rfl
  rw [hsz] at hcell
  refine ⟨ad, hA, h63, ?_, ?_, ?_, ?_, ?_⟩
  · rw [← addr0 (ad.add (j * 5))]; exact hcell 0 _ rfl
  · rw [← addrS _ 1 (by decide)]; exact hcell 1 _ rfl
  · rw [← addrS _ 2 (by decide)]; exact hcell 2 _ rfl
  · rw [← addrS _ 3 (by decide)]; exact hcell 3 _ rfl
  · rw [← addrS _ 4 (by decide)]; exact hcell 4 _ rfl

/-- the packs by their zones -/
def PackOk (pm : List (Int × Value)) (log : List (Nat × Rc)) : Prop := ∀ z : Nat, getI pm z = if rsOf log z = [] then none else some (pkV (packR log z) (.slice none 0 0) (.slice none 0 0))
theorem PackOk.nil : PackOk [] [] := fun z => by rw [if_pos (by simp [rsOf])]; rfl
theorem PackOk.set {pm : List (Int × Value)} {log : List (Nat × Rc)} (h : PackOk pm log) (k : Nat) (r : Rc) : PackOk (updI pm k (pkV (packR (log ++ [(k, r)]) k) (.slice none 0 0) (.slice none 0 0))) (log ++ [(k, r)]) := by
  intro z
  rw [getI_upd]
  by_cases hz : (z : Int) = k
  · have : z = k := by omega
    subst this
    rw [if_pos rfl, if_neg (by rw [rsOf_same]; simp)]
  · have hne : z ≠ k := by omega
    rw [if_neg hz, h z, rsOf_other log r hne]
    split
    · rfl
    · unfold packR
      rw [rsOf_other log r hne, zoneB_other log r hne]
/-- the pack behind the flush -/
theorem flush_packR {log : List (Nat × Rc)} {k : Nat} {r : Rc} (hne : nextB log k r ≠ []) : flushP ⟨hdK k, k, 4000, (zoneB log k).length, nextB log k r, [r]⟩ = packR (log ++ [(k, r)]) k := by
  unfold flushP packR
  rw [if_neg hne, rsOf_same, if_neg (by simp), zoneB_next, List.length_append]
  simp
/-- in a round, behind the append -/
structure RunMid (w wr : World) (g4 g7 pb mb gw : Nat) (Z : Nat) (zs : List Zn) (A : Option Addr) (c : Nat) (x : Wr) (pm wm : List (Int × Value)) : Prop where
  zs : IsL Rp.zone wr (fun b => w.heap.size ≤ b ∧ b ≠ g4 ∧ b ≠ g7 ∧ b ≠ pb ∧ b ≠ mb) (.slice A Z c) zs
  b7 : Blk wr g7 28 #[.int .i64 4000, .int .i64 Z, .int .i64 Z, .slice A Z c]
  b4 : Blk wr g4 28 #[.int .i64 0, .int .i64 0, .int .i64 0, .slice none 0 0]
  bw : Blk wr gw 81 #[.int .i64 x.zone, .int .i64 x.lba, .int .i64 x.n, .int .u8 (x.by_.toNat : Int), .bool x.trim]
  packs : MapB w.heap.size w wr pb pm
  want : MapB w.heap.size w wr mb wm
theorem RunMid.step {w wr wr' : World} {g4 g7 pb mb gw Z : Nat} {zs : List Zn} {A : Option Addr} {c : Nat} {x : Wr} {pm wm : List (Int × Value)} (h : RunMid w wr g4 g7 pb mb gw Z zs A c x pm wm) (hb : Below wr.heap.size wr wr') : RunMid w wr' g4 g7 pb mb gw Z zs A c x pm wm :=
  ⟨h.zs.step hb, h.b7.step hb, h.b4.step hb, h.bw.step hb, h.packs.step hb, h.want.step hb⟩
theorem RunMid.setP {w wr wr' : World} {g4 g7 pb mb gw Z : Nat} {zs : List Zn} {A : Option Addr} {c : Nat} {x : Wr} {pm wm pm' : List (Int × Value)} (h : RunMid w wr g4 g7 pb mb gw Z zs A c x pm wm) (hM : MapB w.heap.size w wr' pb pm') (hg : wr.grownBy wr' (some pb))
    (h4 : g4 ≠ pb) (h7 : g7 ≠ pb) (hw : gw ≠ pb) (hm : mb ≠ pb) : RunMid w wr' g4 g7 pb mb gw Z zs A c x pm' wm :=
  ⟨h.zs.grownP hg (fun _ hb => hb.2.2.2.1), h.b7.grownP hg h7, h.b4.grownP hg h4, h.bw.grownP hg hw, hM, h.want.grownP hg hm hM.below⟩
theorem RunMid.setW {w wr wr' : World} {g4 g7 pb mb gw Z : Nat} {zs : List Zn} {A : Option Addr} {c : Nat} {x : Wr} {pm wm wm' : List (Int × Value)} (h : RunMid w wr g4 g7 pb mb gw Z zs A c x pm wm) (hM : MapB w.heap.size w wr' mb wm') (hg : wr.grownBy wr' (some mb))
    (h4 : g4 ≠ mb) (h7 : g7 ≠ mb) (hw : gw ≠ mb) (hm : pb ≠ mb) : RunMid w wr' g4 g7 pb mb gw Z zs A c x pm wm' :=
  ⟨h.zs.grownP hg (fun _ hb => hb.2.2.2.2), h.b7.grownP hg h7, h.b4.grownP hg h4, h.bw.grownP hg hw, h.packs.grownP hg hm hM.below, hM⟩
/-- between two rounds -/
structure RunInv (w wr : World) (g4 g7 pb mb : Nat) (Z : Nat) (log : List (Nat × Rc)) : Prop where
  dev : ∃ A c, Blk wr g7 28 #[.int .i64 4000, .int .i64 Z, .int .i64 Z, .slice A Z c] ∧ IsL Rp.zone wr (fun b => w.heap.size ≤ b ∧ b ≠ g4 ∧ b ≠ g7 ∧ b ≠ pb ∧ b ≠ mb) (.slice A Z c) (zonesR log Z)
  out : Blk wr g4 28 #[.int .i64 0, .int .i64 0, .int .i64 0, .slice none 0 0]
  packs : ∃ pm, MapB w.heap.size w wr pb pm ∧ PackOk pm log
  want : ∃ wm, MapB w.heap.size w wr mb wm ∧ WantOk wm log
theorem zones_none (Z : Nat) : zonesR [] Z = List.replicate Z z0 := by
  unfold zonesR
  rw [List.eq_replicate_iff]
  refine ⟨by simp, fun b hb => ?_⟩
  obtain ⟨k, _, rfl⟩ := List.mem_map.1 hb
  rfl
theorem newD_run {Z : Nat} (hZ : 1 ≤ Z ∧ Z ≤ 4) : newD Z 4000 Z Z = (⟨4000, Z, Z, zonesR [] Z⟩, 0) := by
  have h1 := ((GoodLog.nil Z 55).dev (by omega)).ok
  have e : devA 4000 (zonesR [] Z) = ⟨4000, Z, Z, List.replicate Z z0⟩ := by unfold devA; rw [zonesR_len, zones_none]
  rw [e] at h1
  unfold newD
  rw [if_neg (by omega), Int.toNat_natCast, if_pos (by unfold chkD; rw [if_pos h1]), zones_none]

set_option maxRecDepth 100000 in
set_option maxHeartbeats 8000000 in
theorem run16_any (l : List Wr) (Al : Option Addr) (cl : Nat) (Z : Nat) (K : Nat → Prop) (w : World) (hv : IsL Rp.wr w K (.slice Al l.length cl) l) (hl : l.length ≤ 40) (hZ : 1 ≤ Z ∧ Z ≤ 4) :
    Calls Tryz.prog 22 #[.slice Al l.length cl, .int .i64 Z] w fun e w' => ∃ A c mb wm, e = .returned (.tuple #[.agg #[.int .i64 4000, .int .i64 Z, .int .i64 Z, .slice A Z c], .map (some mb), .bool true]) ∧
      IsL Rp.zone w' (fun b => w.heap.size ≤ b) (.slice A Z c) (zonesR (logAt Z l l.length) Z) ∧ MapB w.heap.size w w' mb wm ∧ WantOk wm (logAt Z l l.length) := by
  have hnw := fun W => znewK_any Z 4000 Z Z W
  rw [newD_run hZ] at hnw
  have hzl := zonesR_len [] Z
  have HZ0 := Lib.hid hzl
  clear hzl
  obtain ⟨n, hn⟩ : ∃ n, l.length = n := ⟨_, rfl⟩
  rw [hn] at hv hl ⊢
  have HN := Lib.hid hn
  clear hn
  have E := ((Kn.start w).give Stable.list hv).push 28 #[.int .i64 0, .int .i64 0, .int .i64 0, .slice none 0 0]
  go_enter Tryz.func22, Tryz.ntmps22
  go_wp2_with fail
  refine (hnw _).mono ?_
  rintro x w2 ⟨vd, rfl, ⟨A0, c0, rfl, hD⟩, hb2⟩
  simp only at hD ⊢
  rw [HZ0.out] at hD ⊢
  replace E := E.step hb2
  clear hnw hb2
  obtain ⟨q0, f0, t0⟩ := E.rules m0
  have hmm := @run_makeMap Tryz.prog
  go_wp2_with fail
  have hM1 := MapB.made (((E.push 28 #[.int .i64 4000, .int .i64 Z, .int .i64 Z, .slice A0 Z c0])).below) (E.push 28 #[.int .i64 4000, .int .i64 Z, .int .i64 Z, .slice A0 Z c0]).below.size
  have hsz1 := World.size_alloc w2 (.cells #[.int .i64 4000, .int .i64 Z, .int .i64 Z, .slice A0 Z c0] 28)
  rw [hsz1] at hM1
  have hM2 := MapB.made hM1.below (Nat.le_trans hM1.base (Nat.le_of_lt hM1.lt))
  have hsz2 := World.size_alloc (w2.alloc (.cells #[.int .i64 4000, .int .i64 Z, .int .i64 Z, .slice A0 Z c0] 28)) (.map #[] 0)
  rw [hsz2, hsz1] at hM2
  have hv0 : IsL Rp.wr w (fun b => K b ∧ b < w.heap.size) (.slice Al n cl) l := hv.ltG (fun _ _ hx => hx) (by decide)
  have HV := Lib.hid hv0
  have hg7 : w.heap.size < w2.heap.size := t0
  have hinv : RunInv w (((w2.alloc (.cells #[.int .i64 4000, .int .i64 Z, .int .i64 Z, .slice A0 Z c0] 28)).alloc (.map #[] 0)).alloc (.map #[] 0)) w.heap.size w2.heap.size (w2.heap.size + 1) (w2.heap.size + 1 + 1) Z (logAt Z l 0) := by
    refine ⟨⟨A0, c0, ((Blk.new w2 _ _ rfl).alloc _).alloc _, (((hD.zlt.alloc _).alloc _).alloc _).more (fun b hb => ?_)⟩, (((E.at_ m0).alloc _).alloc _).alloc _, ⟨[], hM1.step ((Below.refl _ _).alloc (Nat.le_refl _) _), PackOk.nil⟩, [], hM2, WantOk.nil⟩
    rw [World.size_alloc] at hb
    omega
  clear hM1 hM2 hsz1 hsz2 hD E q0 f0 t0 hv hv0 hmm
  generalize (((w2.alloc (.cells #[.int .i64 4000, .int .i64 Z, .int .i64 Z, .slice A0 Z c0] 28)).alloc (.map #[] 0)).alloc (.map #[] 0)) = wl at hinv ⊢
  obtain ⟨g7, hg7e⟩ : ∃ g7, w2.heap.size = g7 := ⟨_, rfl⟩
  obtain ⟨pb, hpbe⟩ : ∃ pb, g7 + 1 = pb := ⟨_, rfl⟩
  obtain ⟨mb, hmbe⟩ : ∃ mb, pb + 1 = mb := ⟨_, rfl⟩
  rw [hg7e, hpbe, hmbe] at hinv
  rw [hg7e] at hg7 ⊢
  rw [hpbe, hmbe]
  clear hg7e
  go_loopw [11, 12, 13, 14, 15, 16, 17, 18, 19, 20, 21, 22, 23, 24, 25, 26, 27, 28, 43] (fun x11 x12 x13 x14 x15 x16 x17 x18 x19 x20 x21 x22 x23 x24 x25 x26 x27 x28 x43 wr => ∃ j : Nat, x43 = .int .i64 j ∧ j ≤ n ∧ RunInv w wr w.heap.size g7 pb mb Z (logAt Z l j) ∧ (∃ y, x11 = y) ∧ (∃ y, x12 = y) ∧ (∃ y, x13 = y) ∧ (∃ y, x14 = y) ∧ (∃ y, x15 = y) ∧ (∃ y, x16 = y) ∧ (∃ y, x17 = y) ∧ (∃ y, x18 = y) ∧ (∃ y, x19 = y) ∧ (∃ y, x20 = y) ∧ (∃ y, x21 = y) ∧ (∃ y, x22 = y) ∧ (∃ y, x23 = y) ∧ (∃ y, x24 = y) ∧ (∃ y, x25 = y) ∧ (∃ y, x26 = y) ∧ (∃ y, x27 = y) ∧ ∃ y, x28 = y)
    (fun _ _ _ _ _ _ _ _ _ _ _ _ _ _ _ _ _ _ x43 _ => n - (intOf x43).toNat)
  case atStart => exact ⟨0, rfl, Nat.zero_le _, hinv, ⟨_, rfl⟩, ⟨_, rfl⟩, ⟨_, rfl⟩, ⟨_, rfl⟩, ⟨_, rfl⟩, ⟨_, rfl⟩, ⟨_, rfl⟩, ⟨_, rfl⟩, ⟨_, rfl⟩, ⟨_, rfl⟩, ⟨_, rfl⟩, ⟨_, rfl⟩, ⟨_, rfl⟩, ⟨_, rfl⟩, ⟨_, rfl⟩, ⟨_, rfl⟩, ⟨_, rfl⟩, _, rfl⟩
  case round =>
    obtain ⟨j, rfl, hj, hinv, ⟨y1, rfl⟩, ⟨y2, rfl⟩, ⟨y3, rfl⟩, ⟨y4, rfl⟩, ⟨y5, rfl⟩, ⟨y6, rfl⟩, ⟨y7, rfl⟩, ⟨y8, rfl⟩, ⟨y9, rfl⟩, ⟨y10, rfl⟩, ⟨y11, rfl⟩, ⟨y12, rfl⟩, ⟨y13, rfl⟩, ⟨y14, rfl⟩, ⟨y15, rfl⟩, ⟨y16, rfl⟩, ⟨y17, rfl⟩, y18, rfl⟩ := hrel
    obtain ⟨⟨A, c, B7, hz⟩, B4, ⟨pm, hpm, hpo⟩, wm, hwm, hwo⟩ := hinv
    have hbw := hpm.below
    by_cases hlt : j < n
    case neg =>
      obtain rfl : j = n := by omega
      obtain ⟨q7, f7⟩ := B7.rules
      obtain ⟨q4, f4⟩ := B4.rules
      have t7 := B7.lt
      have t4 := B4.lt
      go_wp2
      refine at_st4 (K := fun W => bodyPost _ _ _ _ _ W) B4 _ _ _ _ ?_
      intro w5 ht hB5
      obtain ⟨q5, f5⟩ := hB5.rules
      refine bodyPost_ret (v := .tuple #[.agg #[.int .i64 4000, .int .i64 Z, .int .i64 Z, .slice A Z c], .map (some mb), .bool true]) (by simp [results, Tryz.results22, go_sem, q5]) rfl ⟨A, c, mb, wm, rfl, (hz.turned ht (fun b hb h => hb.2.1 h)).more (fun b hb => hb.1), hwm.turned ht (Nat.le_refl _) (by omega) (Nat.le_refl _), hwo⟩
    have hlt' : j < l.length := by rw [HN.out]; exact hlt
    have HX := Lib.hid (logAt_succ (Z := Z) (l := l) (List.getElem?_eq_getElem hlt'))
    obtain ⟨adw, rfl, h63, c0, c1, c2, c3, c4⟩ := wr_at (HV.out.keep fun p hp _ => hbw.cell hp.2) (List.getElem?_eq_getElem hlt')
    obtain ⟨hgl, hgv⟩ := logAt_good (n := Z) (Z := Z) ⟨rfl, by omega⟩ l j (by omega)
    generalize l[j] = x at HX h63 c0 c1 c2 c3 c4
    generalize logAt Z l j = log at HX hgl hgv hz hpo hwo
    have hor := runStep_or (n := Z) (Z := Z) ⟨rfl, by omega⟩ hgl j x (by omega) hgv
    have hzin := wrZ_in (Z := Z) (by omega) x
    have hlin := wrL_in x
    have hnin := wrN_in x
    obtain ⟨zk, hzk⟩ : ∃ zk : Nat, wrZ Z x = zk := ⟨(wrZ Z x).toNat, by omega⟩
    obtain ⟨lb, hlb⟩ : ∃ lb : Nat, wrL x = lb := ⟨(wrL x).toNat, by omega⟩
    obtain ⟨nn, hnn⟩ : ∃ nn : Nat, (x.n.tmod 5 + 5) % 5 = nn := ⟨((x.n.tmod 5 + 5) % 5).toNat, by omega⟩
    have hwn : wrN x = 1 + (nn : Int) := by unfold wrN; rw [hnn]
    have HW := Lib.hid hwn; have HLB := Lib.hid hlb
    rw [hzk, Int.toNat_natCast] at hor
    rw [hzk] at hzin
    rw [hlb] at hlin
    rw [hwn] at hnin
    have HZK := Lib.hid hzk
    unfold wrZ at hzk
    unfold wrL at hlb
    have bz1 := Int.tmod_lt_of_pos x.zone (show (0 : Int) < Z by omega)
    have bz2 := Int.lt_tmod_of_pos x.zone (show (0 : Int) < Z by omega)
    have bl1 := Int.tmod_lt_of_pos x.lba (show (0 : Int) < 50 by omega)
    have bl2 := Int.lt_tmod_of_pos x.lba (show (0 : Int) < 50 by omega)
    have bn1 := Int.tmod_lt_of_pos x.n (show (0 : Int) < 5 by omega)
    have bn2 := Int.lt_tmod_of_pos x.n (show (0 : Int) < 5 by omega)
    have j1 : (j : Int) < (n : Int) := by omega
    have j0 : (0 : Int) ≤ (j : Int) := by omega
    have hor2 := Lib.hid hor
    have hgl2 := Lib.hid hgl; have hgv2 := Lib.hid hgv
    clear hor hgl hgv hwn hinv
    go_upto_region 12 with fail
    rw [hzk, hlb]
    have F := ((((((Kn.from_ hbw hbw.size).give Stable.list hz).give Stable.mapB hpm).give Stable.mapB hwm).know B7).know B4).push 81 #[.int .i64 x.zone, .int .i64 x.lba, .int .i64 x.n, .int .u8 (x.by_.toNat : Int), .bool x.trim]
    have tg7 := B7.lt; have tpb := hpm.lt; have tmb := hwm.lt
    clear hz hpm hwm B7 B4 c0 c1 c2 c3 c4 hbw hzk hlb hnn bz1 bz2 bl1 bl2 bn1 bn2
    generalize wr.alloc (.cells #[.int .i64 x.zone, .int .i64 x.lba, .int .i64 x.n, .int .u8 (x.by_.toNat : Int), .bool x.trim] 81) = w1 at F ⊢
    obtain ⟨gw, hgw⟩ : ∃ gw, wr.heap.size = gw := ⟨_, rfl⟩
    rw [hgw] at F tg7 tpb tmb ⊢
    clear hgw wr
    have hpz := hpo zk
    obtain ⟨vz, hvz⟩ : ∃ vz, getI pm zk = vz := ⟨_, rfl⟩
    have HVZ := Lib.hid hvz
    rw [hvz] at hpz
    have hgd : ∃ (a b c' dd : Int) (hb : Bool), vz.getD (.agg #[.int .i64 0, .int .i64 0, .int .i64 0, .int .i64 0, .int .i64 0, .int .i64 0, .slice none 0 0, .slice none 0 0]) = .agg #[.int .i64 a, .int .i64 0, .int .i64 0, .int .i64 b, .int .i64 c', .int .i64 dd, .slice none 0 0, .slice none 0 0] ∧ vz.isSome = hb ∧
        ((hb = false ∧ rsOf log zk = []) ∨ (hb = true ∧ rsOf log zk ≠ [] ∧ a = zk ∧ b = zk ∧ c' = 4000 ∧ dd = (zoneB log zk).length)) := by
      by_cases hr : rsOf log zk = []
      · rw [if_pos hr] at hpz
        subst hpz
        exact ⟨0, 0, 0, 0, false, rfl, rfl, .inl ⟨rfl, hr⟩⟩
      · rw [if_neg hr] at hpz
        subst hpz
        exact ⟨zk, zk, 4000, (zoneB log zk).length, true, rfl, rfl, .inr ⟨rfl, hr, rfl, rfl, rfl, rfl⟩⟩
    obtain ⟨a, b, c', dd, hb, hgd1, hgd2, hgd3⟩ := hgd
    have HG1 := Lib.hid hgd1; have HG2 := Lib.hid hgd2; have HG3 := Lib.hid hgd3
    clear hgd1 hgd2 hgd3 hpz hvz
    have hM1 : MapB w.heap.size w w1 pb pm := F.get m1
    go_upto_if 74 with (refine wpList_lookupOkI rfl _ _ _ rfl 3 35 Tryz.underlying142 Tryz.underlying3 (.agg #[.int .i64 0, .int .i64 0, .int .i64 0, .int .i64 0, .int .i64 0, .int .i64 0, .slice none 0 0, .slice none 0 0]) (by kernel_rfl) rfl hM1 zk rfl ?_; rw [HVZ.out, HG1.out, HG2.out])
    clear hM1
    have F0 := F
    replace F := F.push 35 #[.int .i64 a, .int .i64 0, .int .i64 0, .int .i64 b, .int .i64 c', .int .i64 dd, .slice none 0 0, .slice none 0 0]
    have hb12 := (Below.refl w1.heap.size w1).alloc (Nat.le_refl _) (.cells #[.int .i64 a, .int .i64 0, .int .i64 0, .int .i64 b, .int .i64 c', .int .i64 dd, .slice none 0 0, .slice none 0 0] 35)
    have hs12 : w1.heap.size < (w1.alloc (.cells #[.int .i64 a, .int .i64 0, .int .i64 0, .int .i64 b, .int .i64 c', .int .i64 dd, .slice none 0 0, .slice none 0 0] 35)).heap.size := by rw [World.size_alloc]; omega
    generalize w1.alloc (.cells #[.int .i64 a, .int .i64 0, .int .i64 0, .int .i64 b, .int .i64 c', .int .i64 dd, .slice none 0 0, .slice none 0 0] 35) = w1b at F hb12 hs12 ⊢
    obtain ⟨bf, hbf⟩ : ∃ bf, (packR log zk).buf = bf := ⟨_, rfl⟩
    obtain ⟨zb, hzb⟩ : ∃ zb, (zoneB log zk).length = zb := ⟨_, rfl⟩
    obtain ⟨bl, hbl⟩ : ∃ bl, bf.length = bl := ⟨_, rfl⟩
    have HBF := Lib.hid hbf; have HZB := Lib.hid hzb; have HBL := Lib.hid hbl
    clear hbf hzb hbl
    go_cut [18, 19] (fun x18 x19 wx => ∃ (Ab : Option Addr) (cb : Nat), Blk wx w1.heap.size 35 #[.int .i64 zk, .int .i64 0, .int .i64 0, .int .i64 zk, .int .i64 4000, .int .i64 zb, .slice Ab bl cb, .slice none 0 0] ∧ IsB wx (fun b => w1.heap.size < b) (.slice Ab bl cb) bf ∧ Below w1.heap.size w1 wx ∧ (∃ y, x18 = y) ∧ ∃ y, x19 = y)
    case first =>
      rcases HG3.out with ⟨rfl, hr⟩ | ⟨rfl, hr, rfl, rfl, rfl, rfl⟩
      · have hbg := packR_begin (log := log) (k := zk) (by omega) hr
        have hpb := fun W => pbegin_any (hdK zk) zk 4000 W (hdK_ok (k := zk) (by omega)).1
        rw [hbg] at hpb
        have e1 : (packR log zk).h = hdK zk ∧ (packR log zk).zone = zk ∧ (packR log zk).cap = 4000 ∧ (packR log zk).at_ = (zoneB log zk).length := ⟨rfl, rfl, rfl, rfl⟩
        unfold pkV hdV hdK at hpb
        simp only [e1.1, e1.2.1, e1.2.2.1, e1.2.2.2, hdK] at hpb
        rw [HBF.out, HZB.out, HBL.out] at hpb
        clear hbg e1 HG3 HG1 HG2 HVZ
        go_wp2_with fail
        refine (hpb _).mono ?_
        rintro e w3 ⟨A3, c3, rfl, own3, hb3⟩
        have F3 := F.step hb3
        have hb13 := hb12.trans (hb3.mono hb12.size)
        have hs3 := hb3.size
        obtain ⟨q1, f1, t1⟩ := F3.rules m0
        have hB3 : IsB w3 (fun b => w1.heap.size < b) (.slice A3 bl c3) bf := by
          have := HBL.out
          rw [← this] at own3 ⊢
          exact (IsB.of_own own3 (by have := own_cap63 own3; have := (hdK_ok (k := zk) (by omega)).2.2; rw [← HBF.out]; unfold packR; simp only; split <;> simp <;> omega)).more (fun b hb => by omega)
        clear own3
        go_wp2
        refine at_st8 (K := fun W => Met _ _ (W.alloc _)) (F3.at_ m0) _ _ _ _ _ _ _ _ ?_
        intro w4 ht hB4
        have hb4 := Turned.upon hb13 ht (Nat.le_refl _) (Nat.le_refl _)
        go_meet
        exact ⟨A3, c3, hB4.alloc _, (hB3.turned ht (fun b hb h => by omega)).alloc _, hb4.alloc hb4.size _, ⟨_, rfl⟩, _, rfl⟩
      · have hbe : bf = [] := by rw [← HBF.out]; unfold packR; simp only; rw [if_neg hr]
        subst hbe
        have hble : bl = 0 := HBL.out.symm
        subst hble
        rw [HZB.out] at F
        go_wp2
        go_meet
        exact ⟨none, 0, F.at_ m0, IsB.nil_ _ _, hb12, ⟨_, rfl⟩, _, rfl⟩
    case rest =>
      obtain ⟨Ab, cb, hBp, hbb, hbx, ⟨y18, rfl⟩, y19, rfl⟩ := hcut
      clear hs12 hb12 F HG1 HG2 HG3 HVZ
      have F := ((F0.step hbx).know hBp).give Stable.bytes hbb
      clear F0 hBp hbb hbx
      generalize w1.heap.size = gp at F ⊢
      clear w1b w1
      obtain ⟨q0, f0, t0⟩ := F.rules m1
      obtain ⟨N, hN⟩ : ∃ N : Nat, (16 : Int) * (1 + (nn : Int)) = (N : Int) := ⟨16 * (1 + nn), by omega⟩
      have hN2 : N ≤ 80 := by omega
      have hbl := x.by_.toNat_lt
      go_wp2_with fail
      refine (fill16_any x.by_ N wc (by omega)).mono ?_
      rintro e w3 ⟨A3, c3, rfl, own3, hb3⟩
      have hB3 : IsB w3 (fun b => wc.heap.size ≤ b) (.slice A3 N c3) (List.replicate N x.by_) := by
        have := IsB.of_own (l := List.replicate N x.by_) (A := A3) (c := c3) (base := wc.heap.size) (w := w3) (e := 5) (by rw [List.length_replicate]; exact own3) (by rw [List.length_replicate]; omega)
        rwa [List.length_replicate] at this
      replace F := (F.step hb3).give Stable.bytes hB3
      clear own3 hb3 hB3 q0 f0 t0
      obtain ⟨q0, f0, t0⟩ := F.rules m1
      go_upto_if 97 with fail
      have F0 := F
      replace F := F.push 57 #[.int .i64 1, .int .i64 lb, .int .i64 (1 + (nn : Int)), .int .i64 ((j : Int) + 1), .int .i64 0, .int .i64 0, .slice A3 N c3]
      have hb34 := (Below.refl w3.heap.size w3).alloc (Nat.le_refl _) (.cells #[.int .i64 1, .int .i64 lb, .int .i64 (1 + (nn : Int)), .int .i64 ((j : Int) + 1), .int .i64 0, .int .i64 0, .slice A3 N c3] 57)
      generalize w3.alloc (.cells #[.int .i64 1, .int .i64 lb, .int .i64 (1 + (nn : Int)), .int .i64 ((j : Int) + 1), .int .i64 0, .int .i64 0, .slice A3 N c3] 57) = w3b at F hb34 ⊢
      have hrc : (wrR j x).lba = lb ∧ (wrR j x).n = 1 + (nn : Int) ∧ (wrR j x).ver = (j : Int) + 1 ∧ (wrR j x).zone = 0 ∧ (wrR j x).off = 0 := ⟨HLB.out, HW.out, rfl, rfl, rfl⟩
      have HRC := Lib.hid hrc
      clear hrc q0 f0 t0
      obtain ⟨rec, hrec⟩ : ∃ rec, wrR j x = rec := ⟨_, rfl⟩
      have HREC := Lib.hid hrec
      rw [hrec] at HRC hor2
      clear hrec
      go_cut [] (fun wx => ∃ (Ad : Option Addr) (nd cd : Nat), Blk wx w3.heap.size 57 #[.int .i64 rec.kind, .int .i64 lb, .int .i64 (1 + (nn : Int)), .int .i64 ((j : Int) + 1), .int .i64 0, .int .i64 0, .slice Ad nd cd] ∧ Hid (rec.data.length = nd) ∧ IsB wx (fun b => b < w3.heap.size) (.slice Ad nd cd) rec.data ∧ Below w3.heap.size w3 wx)
      case first =>
        cases htr : x.trim with
        | true =>
          have hrk : rec.kind = 2 ∧ rec.data = [] := by rw [← HREC.out]; simp [wrR, htr]
          obtain ⟨q0, f0, t0⟩ := F.rules m0
          go_wp2
          go_meet
          refine ⟨none, 0, 0, ?_, Lib.hid (by rw [hrk.2]; rfl), by rw [hrk.2]; exact IsB.nil_ _ _, (hb34.setCell (p := ⟨w3.heap.size, 0, none⟩) (Nat.le_refl _) _).setCell (p := ⟨w3.heap.size, 6, none⟩) (Nat.le_refl _) _⟩
          rw [hrk.1]
          exact ((F.at_ m0).set_ 0 (.int .i64 2)).set_ 6 (.slice none 0 0)
        | false =>
          have hrk : rec.kind = 1 ∧ rec.data = List.replicate N x.by_ := by
            rw [← HREC.out]
            refine ⟨by simp [wrR, htr], ?_⟩
            have : (16 * wrN x).toNat = N := by rw [HW.out]; omega
            simp only [wrR, htr, Bool.false_eq_true, if_false, this]
          go_wp2
          go_meet
          refine ⟨A3, N, c3, ?_, Lib.hid (by rw [hrk.2, List.length_replicate]), ?_, hb34⟩
          · rw [hrk.1]; exact F.at_ m0
          · rw [hrk.2]; exact (Stable.bytes _ _ ((F0.get m0).lt.more fun b hb => hb.2) hb34)
      case rest =>
        obtain ⟨Ad, nd, cd, hBr, hnd, hBd, hbx⟩ := hcut
        clear F hb34
        replace F := ((F0.step hbx).know hBr).give Stable.bytes hBd
        clear F0 hBr hBd hbx
        generalize w3.heap.size = gr at F ⊢
        clear w3b
        have hpk : packR log zk = ⟨hdK zk, zk, 4000, zb, bf, []⟩ := by
          have : packR log zk = ⟨hdK zk, zk, 4000, (zoneB log zk).length, (packR log zk).buf, []⟩ := rfl
          rw [HZB.out, HBF.out] at this
          exact this
        have hfit := hgl2.out.fits zk
        rw [HZB.out] at hfit
        have hbl45 : bl ≤ 45 := by
          have h1 := (hdK_ok (k := zk) (by omega)).2.2
          rw [← HBL.out, ← HBF.out]
          unfold packR
          simp only
          split
          · exact h1
          · simp
        have hok : OkPk ⟨hdK zk, zk, 4000, zb, bf, []⟩ := ⟨(hdK_ok (k := zk) (by omega)).1, by simp only; omega, by simp only; omega, by simp only; omega, by simp only; rw [HBL.out]; omega, by simp⟩
        have hrok : OkRc rec := by rw [← HREC.out]; exact (wr_good x (by omega)).ok (by omega)
        have hrl := isL_rcA (w := wc) (g := wc.heap.size) (A := Ad) (c := cd) (r := rec) rfl (by rw [hnd.out]; exact F.get m0) hrok
        rw [hnd.out, HRC.out.1, HRC.out.2.1, HRC.out.2.2.1, HRC.out.2.2.2.1, HRC.out.2.2.2.2] at hrl
        have hpv : IsPk wc (fun b => b < wc.heap.size) (.agg #[.int .i64 zk, .int .i64 0, .int .i64 0, .int .i64 zk, .int .i64 4000, .int .i64 zb, .slice Ab bl cb, .slice none 0 0]) ⟨hdK zk, zk, 4000, zb, bf, []⟩ := ⟨_, _, rfl, (F.get m2).lt.more fun b hb => hb.2, IsL.nil_ _ _⟩
        have hadd := fun W h1 h2 h3 => add_any (.agg #[.int .i64 zk, .int .i64 0, .int .i64 0, .int .i64 zk, .int .i64 4000, .int .i64 zb, .slice Ab bl cb, .slice none 0 0]) (.slice (some ⟨wc.heap.size, 0, none⟩) 1 1) ⟨hdK zk, zk, 4000, zb, bf, []⟩ [rec] (fun b => b < wc.heap.size) (fun b => b = wc.heap.size ∨ b < gr) W h1 h2 hok h3 (by simp)
        rw [hpk] at hor2
        obtain ⟨q0, f0, t0⟩ := F.rules m0
        obtain ⟨q1, f1, t1⟩ := F.rules m1
        go_wp2_with fail
        refine (hadd _ (Stable.pkA _ _ hpv ((Below.refl _ _).alloc (Nat.le_refl _) _)) (fun b hb => by rw [World.size_alloc]; omega) hrl).mono ?_
        rintro e w4 ⟨pv, A5, c5, rfl, ⟨vb, vl, rfl, hb4, hl4⟩, own4, hbb4⟩
        have F4 := (F.step ((Below.refl wc.heap.size wc).alloc (Nat.le_refl _) _)).step hbb4
        obtain ⟨A6, c6, rfl, _⟩ := isB_form hb4
        obtain ⟨A7, c7, rfl, _⟩ := hl4.form
        clear q0 f0 t0 q1 f1 t1 hadd hpv hrl F
        rcases hor2.out with ⟨ha, hrs⟩ | ⟨ha, hle, hrs, hgn⟩
        · rw [ha] at hb4 hl4 own4 ⊢
          unfold pkV p0k
          simp only
          have HRS := Lib.hid hrs; have HA := Lib.hid ha
          clear hor2 ha hrs own4 hb4 hl4
          go_wp2
          go_roundw
          case rel =>
            refine ⟨j + 1, by go_num, by omega, ?_, ⟨_, rfl⟩, ⟨_, rfl⟩, ⟨_, rfl⟩, ⟨_, rfl⟩, ⟨_, rfl⟩, ⟨_, rfl⟩, ⟨_, rfl⟩, ⟨_, rfl⟩, ⟨_, rfl⟩, ⟨_, rfl⟩, ⟨_, rfl⟩, ⟨_, rfl⟩, ⟨_, rfl⟩, ⟨_, rfl⟩, ⟨_, rfl⟩, ⟨_, rfl⟩, ⟨_, rfl⟩, _, rfl⟩
            rw [HX.out, HRS.out]
            have F5 := F4.step ((Below.refl w4.heap.size w4).alloc (Nat.le_refl _) (.cells #[.int .i64 0, .int .i64 0, .int .i64 0, .int .i64 0, .int .i64 0, .int .i64 0, .slice A6 0 c6, .slice A7 0 c7] 35))
            exact ⟨⟨A, c, F5.at_ m4, F5.get m5⟩, F5.at_ m3, ⟨pm, F5.get m4, hpo⟩, wm, F5.get m3, hwo⟩
          case measure => simp [intOf]; omega
        · have hne := nextB_ne (log := log) (k := zk) (wr_good x (show j ≤ 1000 by omega)) (show (55 : Int) ≤ 1000000 by omega)
          rw [HREC.out] at hne
          obtain ⟨nb, hnb⟩ : ∃ nb, nextB log zk rec = nb := ⟨_, rfl⟩
          rw [HZB.out, hnb] at ha
          rw [HZB.out, hnb] at hle
          rw [hnb] at hne
          rw [ha] at hb4 hl4 own4 ⊢
          have HRS := Lib.hid hrs; have HGN := Lib.hid hgn; have HNB := Lib.hid hnb
          clear ha hrs hgn hnb own4 hor2
          generalize plsL ((zb : Int) + ((packR log zk).buf.length : Int)) [rec] = pl_
          simp only at hb4 hl4 ⊢
          obtain ⟨nl, hnl⟩ : ∃ nl, nb.length = nl := ⟨_, rfl⟩
          have hok2 : OkPk ⟨hdK zk, zk, 4000, zb, nb, [rec]⟩ := ⟨(hdK_ok (k := zk) (by omega)).1, by simp only; omega, by simp only; omega, by simp only; omega, by simp only; omega, by simp⟩
          rw [hnl] at hb4 hle ⊢
          have hpv2 : IsPk w4 (fun _ => True) (.agg #[.int .i64 zk, .int .i64 0, .int .i64 0, .int .i64 zk, .int .i64 4000, .int .i64 zb, .slice A6 nl c6, .slice A7 1 c7]) ⟨hdK zk, zk, 4000, zb, nb, [rec]⟩ := ⟨_, _, rfl, hb4.more fun _ _ => trivial, hl4.more fun _ _ => trivial⟩
          have hfl := fun W h => flush_some (.agg #[.int .i64 zk, .int .i64 0, .int .i64 0, .int .i64 zk, .int .i64 4000, .int .i64 zb, .slice A6 nl c6, .slice A7 1 c7]) ⟨hdK zk, zk, 4000, zb, nb, [rec]⟩ (fun _ => True) W h hok2 hne
          have hfp : flushP ⟨hdK zk, zk, 4000, zb, nb, [rec]⟩ = packR (log ++ [(zk, rec)]) zk := by
            have := flush_packR (log := log) (k := zk) (r := rec) (by rw [HNB.out]; exact hne)
            rw [HZB.out, HNB.out] at this
            exact this
          rw [hfp] at hfl
          have HNL := Lib.hid hnl
          clear hnl hb4 hl4
          unfold pkV hdK
          simp only [List.length_cons, List.length_nil, Nat.zero_add]
          go_wp2_with fail
          refine (hfl _ (Stable.pkA _ _ hpv2 ((Below.refl _ _).alloc (Nat.le_refl _) _))).mono ?_
          rintro e w5 ⟨A8, c8, rfl, own8, hb5⟩
          have F6 := (F4.push 35 #[.int .i64 zk, .int .i64 0, .int .i64 0, .int .i64 zk, .int .i64 4000, .int .i64 zb, .slice A6 nl c6, .slice A7 1 c7]).step hb5
          have hz5 := (F4.get m5).zlt
          have hpb5 := (F4.get m4).lt
          have hmb5 := (F4.get m3).lt
          have hgw5 := (F4.at_ m2).lt
          have hs45 := hb5.size
          rw [World.size_alloc] at hs45
          have hz6 := (Stable.list _ _ hz5 ((Below.refl w4.heap.size w4).alloc (Nat.le_refl _) (.cells #[.int .i64 zk, .int .i64 0, .int .i64 0, .int .i64 zk, .int .i64 4000, .int .i64 zb, .slice A6 nl c6, .slice A7 1 c7] 35))).step hb5
          obtain ⟨zb2, hzb2⟩ : ∃ zb2, (zoneB (log ++ [(zk, rec)]) zk).length = zb2 := ⟨_, rfl⟩
          have hq : pkV (packR (log ++ [(zk, rec)]) zk) (.slice none 0 0) (.slice none 0 0) = .agg #[.int .i64 zk, .int .i64 0, .int .i64 0, .int .i64 zk, .int .i64 4000, .int .i64 zb2, .slice none 0 0, .slice none 0 0] := by rw [← hzb2]; rfl
          rw [hq, HNL.out]
          unfold cmdV hdK
          simp only
          have HQ := Lib.hid hq; have HZB2 := Lib.hid hzb2
          clear hq hzb2 hfp hfl hpv2 F4 hz5 hbb4
          obtain ⟨q0, f0, t0⟩ := F6.rules m0
          obtain ⟨q7, f7, t7⟩ := F6.rules m5
          go_upto_region 25 with fail
          have hbase := (F6.below.size : w.heap.size ≤ w5.heap.size)
          have hw4 : w.heap.size ≤ w4.heap.size := by omega
          refine at_st8s (K := fun W => Code.wp _ _ _ _ (W.alloc _)) (F6.at_ m0) _ _ _ _ _ _ _ _ ?_
          intro w6 hs56 ht hB6
          have hb6 := Turned.upon F6.below ht (by omega) (Nat.le_refl _)
          have hB8 : IsB w5 (fun b => w4.heap.size < b) (.slice A8 nl c8) nb := by
            have := HNL.out
            rw [← this] at own8 ⊢
            exact (IsB.of_own own8 (by rw [this]; omega)).more (fun b hb => by rw [World.size_alloc] at hb; omega)
          have hzw := hz6.turned ht (fun b hb h => by have := hb.2; omega)
          have hpm7 : MapB w.heap.size w w6 pb pm := MapB.turned (F6.get m4) ht hw4 (by omega) (Nat.le_refl _)
          have hwm7 : MapB w.heap.size w w6 mb wm := MapB.turned (F6.get m3) ht hw4 (by omega) (Nat.le_refl _)
          have hB87 := hB8.turned ht (fun b hb h => by omega)
          have Bg4 := (F6.at_ m4).turned ht (show ¬ w.heap.size = w4.heap.size by omega)
          have Bg7 := (F6.at_ m5).turned ht (show ¬ g7 = w4.heap.size by omega)
          have Bgw := (F6.at_ m3).turned ht (show ¬ gw = w4.heap.size by omega)
          have F7 := (((((((((Kn.from_ hb6 hb6.size).give Stable.list hzw).give Stable.mapB hpm7).give Stable.mapB hwm7).give Stable.bytes hB87).know Bg7).know Bg4).know Bgw).know hB6).push 43 #[.int .i64 1, .int .i64 zk, .int .i64 0, .int .i64 0, .int .i64 0, .slice A8 nl c8]
          rw [hs56] at F7
          clear F6 hz6 hpm7 hwm7 hB87 hB8 Bg4 Bg7 Bgw hzw hb6 ht hB6 q0 f0 t0 q7 f7 t7 own8
          generalize w6.alloc (.cells #[.int .i64 1, .int .i64 zk, .int .i64 0, .int .i64 0, .int .i64 0, .slice A8 nl c8] 43) = w7 at F7 ⊢
          have hrun := run_do hgl2.out (show 1 ≤ Z ∧ Z ≤ 64 by omega) (show zk < Z by omega) (wr_good x (show j ≤ 1000 by omega)) (show (55 : Int) ≤ 1000000 by omega) (r := wrR j x) (by rw [HREC.out, HNB.out, HZB.out, HNL.out]; omega)
          rw [HREC.out, HNB.out, HZB.out] at hrun
          have hdv : ∀ lg, devA 4000 (zonesR lg Z) = ⟨4000, Z, Z, zonesR lg Z⟩ := fun lg => by unfold devA; rw [zonesR_len]
          rw [hdv, hdv] at hrun
          have hdo := fun K W h1 h2 h3 => do_any ⟨4000, Z, Z, zonesR log Z⟩ ⟨1, zk, 0, 0, 0, nb⟩ A c A8 c8 K W h1 h2 h3 (by simp only; rw [zonesR_len]; omega) (by simp)
          rw [hrun] at hdo
          simp only [zonesR_len] at hdo
          rw [HNL.out] at hdo
          clear hrun hdv
          obtain ⟨q0, f0, t0⟩ := F7.rules m0
          obtain ⟨q7, f7, t7⟩ := F7.rules m4
          go_wp2_with fail
          refine (hdo (fun b => (w.heap.size ≤ b ∧ b ≠ w.heap.size ∧ b ≠ g7 ∧ b ≠ pb ∧ b ≠ mb) ∧ b < w7.heap.size) _ ((F7.get m3).zlt.more fun b hb => ⟨hb.1.1, hb.2⟩) (fun b hb => hb.2) ((F7.get m0).lt.more fun b hb => ⟨by omega, hb.2⟩)).mono ?_
          rintro e w8 ⟨v1, v2, rfl, ⟨A9, c9, rfl, hz9, _⟩, ⟨A10, c10, rfl, _⟩, hb8⟩
          rw [zonesR_len] at hz9 ⊢
          have hs78 := hb8.size
          have hm7 := (F7.get m2).lt
          have hm8 := (F7.get m1).lt
          have hg47 := (F7.at_ m3).lt
          replace F7 := (F7.step hb8).give Stable.list (hz9.more (K' := fun b => w.heap.size ≤ b ∧ b ≠ w.heap.size ∧ b ≠ g7 ∧ b ≠ pb ∧ b ≠ mb) (fun b hb => by rcases hb with hb | hb; exact hb.1; omega))
          clear hdo q0 f0 t0 q7 f7 t7 hz9 hb8
          obtain ⟨q7, f7, t7⟩ := F7.rules m4
          obtain ⟨q1, f1, t1⟩ := F7.rules m1
          obtain ⟨q2, f2, t2⟩ := F7.rules m2
          go_upto_region 29 with fail
          refine at_st4s (K := fun W => Code.wp _ _ _ _ ((W.alloc _).alloc _)) (F7.at_ m4) _ _ _ _ ?_
          intro w9 hs9 ht hB9
          have hpm8 : MapB w.heap.size w w8 pb pm := F7.get m3
          have hwm8 : MapB w.heap.size w w8 mb wm := F7.get m2
          have hz8 : IsL Rp.zone w8 (fun b => w.heap.size ≤ b ∧ b ≠ w.heap.size ∧ b ≠ g7 ∧ b ≠ pb ∧ b ≠ mb) (.slice A9 Z c9) (zonesR (log ++ [(zk, rec)]) Z) := F7.get m0
          have tg4 := (F7.at_ m3).lt
          have tgw := (F7.at_ m2).lt
          have hmid : RunMid w w9 w.heap.size g7 pb mb gw Z (zonesR (log ++ [(zk, rec)]) Z) A9 c9 x pm wm :=
            ⟨hz8.turned ht (fun b hb h => hb.2.2.1 h), hB9, (F7.at_ m3).turned ht (by omega), (F7.at_ m2).turned ht (by omega), hpm8.turned ht (by omega) (by omega) (Nat.le_refl _), hwm8.turned ht (by omega) (by omega) (Nat.le_refl _)⟩
          have hBq := (F7.at_ m1).turned ht (show ¬ w4.heap.size = g7 by omega)
          have hgwm : gw ≠ mb ∧ gw ≠ pb := by omega
          clear F7 hpm8 hwm8 hz8 tg4 tgw hB9 ht q7 f7 t7 q1 f1 t1 q2 f2 t2
          refine at_alloc (K := fun W => Code.wp _ _ _ _ (W.alloc _)) ?_
          intro w10 hb10 _
          replace hmid := hmid.step hb10
          replace hBq := hBq.step hb10
          refine at_alloc (K := fun W => Code.wp _ _ _ _ W) ?_
          intro w11 hb11 _
          replace hmid := hmid.step hb11
          replace hBq := hBq.step hb11
          clear hb10 hb11
          obtain ⟨qq, fq⟩ := hBq.rules
          go_upto_region 30 with (refine wpList_updateI rfl _ _ _ _ rfl 3 35 Tryz.underlying142 Tryz.underlying3 rfl hmid.packs zk (.agg #[.int .i64 zk, .int .i64 0, .int .i64 0, .int .i64 zk, .int .i64 4000, .int .i64 zb2, .slice none 0 0, .slice none 0 0]) rfl rfl ?_; intro w12 hM12 hg12)
          replace hmid := hmid.setP hM12 hg12 (by omega) (by omega) hgwm.2 (by omega)
          clear hBq qq fq hM12 hg12
          have hpo2 := hpo.set zk rec
          rw [HQ.out] at hpo2
          obtain ⟨pm', hpm'⟩ : ∃ pm', updI pm zk (.agg #[.int .i64 zk, .int .i64 0, .int .i64 0, .int .i64 zk, .int .i64 4000, .int .i64 zb2, .slice none 0 0, .slice none 0 0]) = pm' := ⟨_, rfl⟩
          rw [hpm'] at hmid hpo2
          obtain ⟨vv, hvv⟩ : ∃ vv, strB (List.replicate 16 (if x.trim then 0 else x.by_)) = vv := ⟨_, rfl⟩
          have HVV := Lib.hid hvv
          have hwm0 := Lib.hid (hwo.mid lb vv)
          clear hpm' hvv hpo hok hok2 hrok hpk hb5 hs56 hs45 hbase hw4 hs9 hs78 hm7 hm8 hg47 hpb5 hmb5 hgw5 hfit hle hbl45 hne
          go_upto_region 31 with fail
          go_loopw [28, 135] (fun x28 x135 wr => ∃ (k : Nat) (wm' : List (Int × Value)), x135 = .int .i64 k ∧ k ≤ 1 + nn ∧ RunMid w wr w.heap.size g7 pb mb gw Z (zonesR (log ++ [(zk, rec)]) Z) A9 c9 x pm' wm' ∧ Hid (WantMid wm' log lb k vv) ∧ ∃ y, x28 = y) (fun _ x135 _ => 1 + nn - (intOf x135).toNat)
          case atStart => exact ⟨0, wm, rfl, Nat.zero_le _, hmid, hwm0, _, rfl⟩
          case round =>
            obtain ⟨k, wm', rfl, hk, hmid, hwk, y28, rfl⟩ := hrel
            obtain ⟨qw, fw⟩ := hmid.bw.rules
            by_cases hkn : k < 1 + nn
            case neg =>
              obtain rfl : k = 1 + nn := by omega
              go_wp2_with fail
              go_roundw
              case rel =>
                refine ⟨j + 1, by go_num, by omega, ?_, ⟨_, rfl⟩, ⟨_, rfl⟩, ⟨_, rfl⟩, ⟨_, rfl⟩, ⟨_, rfl⟩, ⟨_, rfl⟩, ⟨_, rfl⟩, ⟨_, rfl⟩, ⟨_, rfl⟩, ⟨_, rfl⟩, ⟨_, rfl⟩, ⟨_, rfl⟩, ⟨_, rfl⟩, ⟨_, rfl⟩, ⟨_, rfl⟩, ⟨_, rfl⟩, ⟨_, rfl⟩, _, rfl⟩
                rw [HX.out, HRS.out]
                have hw1 := hwk.out
                rw [← HVV.out, ← HLB.out, show 1 + nn = (wrN x).toNat by rw [HW.out]; omega] at hw1
                have hw2 := hw1.done (i := j) (z := zk)
                rw [HREC.out] at hw2
                exact ⟨⟨A9, c9, hmid.b7, hmid.zs⟩, hmid.b4, ⟨pm', hmid.packs, hpo2⟩, wm', hmid.want, hw2⟩
              case measure => simp [intOf]; omega
            have hk1 : (k : Int) < 1 + (nn : Int) := by omega
            have hk0 : (0 : Int) ≤ (k : Int) := by omega
            go_wp2_with fail
            refine (fill16_any x.by_ 16 _ (by omega)).mono ?_
            rintro e w13 ⟨A13, c13, rfl, own13, hb13⟩
            replace hmid := hmid.step hb13
            have hcv := run_string_of (P := Tryz.prog) (cap := c13) w13 32 9 5 Tryz.underlying32 Tryz.underlying5 Tryz.underlying9 (n := 16) (l := List.replicate 16 x.by_) (by simp) (Reads.of_own own13)
            clear own13 hb13 qw fw
            go_upto_region 34 with (refine wpList_updateI rfl _ _ _ _ rfl 3 9 Tryz.underlying60 Tryz.underlying3 rfl hmid.want (lb + k) (strB (List.replicate 16 x.by_)) rfl rfl ?_; intro w14 hM14 hg14)
            replace hmid := hmid.setW hM14 hg14 (by omega) (by omega) hgwm.1 (by omega)
            clear hM14 hg14 hcv
            obtain ⟨qw, fw⟩ := hmid.bw.rules
            cases htr : x.trim with
            | false =>
              rw [htr] at qw
              have hv0 : vv = strB (List.replicate 16 x.by_) := by rw [← HVV.out, htr]; rfl
              have hwk2 := Lib.hid (hwk.out.set (k := k))
              rw [← hv0] at hmid
              go_wp2_with fail
              go_roundw
              case rel => exact ⟨k + 1, _, by go_num, by omega, hmid, hwk2, _, rfl⟩
              case measure => simp [intOf]; omega
            | true =>
              rw [htr] at qw
              have hf0 := fun W => fill16_any 0 16 W (by omega)
              rw [show ((0 : UInt8).toNat : Int) = 0 from rfl] at hf0
              have hwk2 := Lib.hid (hwk.out.set2 (k := k) (u := strB (List.replicate 16 x.by_)))
              have hv0 : vv = strB (List.replicate 16 0) := by rw [← HVV.out, htr]; rfl
              go_wp2_with fail
              refine (hf0 _).mono ?_
              rintro e w15 ⟨A15, c15, rfl, own15, hb15⟩
              replace hmid := hmid.step hb15
              have hcv := run_string_of (P := Tryz.prog) (cap := c15) w15 32 9 5 Tryz.underlying32 Tryz.underlying5 Tryz.underlying9 (n := 16) (l := List.replicate 16 0) (by simp) (Reads.of_own own15)
              clear own15 hb15 qw fw hf0
              go_wp2_with (refine wpList_updateI rfl _ _ _ _ rfl 3 9 Tryz.underlying60 Tryz.underlying3 rfl hmid.want (lb + k) (strB (List.replicate 16 0)) rfl rfl ?_; intro w16 hM14 hg14)
              replace hmid := hmid.setW hM14 hg14 (by omega) (by omega) hgwm.1 (by omega)
              rw [← hv0] at hmid
              clear hM14 hg14 hcv
              go_roundw
              case rel => exact ⟨k + 1, _, by go_num, by omega, hmid, hwk2, _, rfl⟩
              case measure => simp [intOf]; omega
  done
end Go.Proofs.YtlippmghgagdaaaGreat
