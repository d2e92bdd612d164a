/- The walk of quicksetlaw16.ReplayBack. -/
import Derived.Test.YtlippmghgagdaaaGreatRun16
import Derived.Test.YtlippmghgagdaaaGreatRunSays
import Derived.Test.YtlippmghgagdaaaGreatLive16
import Derived.Test.YtlippmghgagdaaaGreatReplayB
namespace Go.Proofs.YtlippmghgagdaaaGreat
open Go.RowKit

set_option maxRecDepth 100000 in
set_option maxHeartbeats 8000000 in
theorem replayBack_all (l : List Wr) (v : Value) (zones : Int) (K : Nat → Prop) (w : World) (hv : IsL Rp.wr w K v l) :
    Calls Tryz.prog 8 #[v, .int .i64 zones] w fun e w' => e = .returned (.bool true) ∧ Below w.heap.size w w' := by
  obtain ⟨Al, cl, rfl, -⟩ := hv.form
  have E := (Kn.start w).give Stable.list hv
  obtain ⟨n, hn⟩ : ∃ n, l.length = n := ⟨_, rfl⟩
  obtain ⟨Z, hZ⟩ : ∃ Z : Nat, 1 + zones.tmod 4 % 4 = (Z : Int) := ⟨(1 + zones.tmod 4 % 4).toNat, by omega⟩
  have hZ4 : 1 ≤ Z ∧ Z ≤ 4 := by omega
  have hrun := fun K W h h1 => run16_any l Al cl Z K W h h1 hZ4
  have HLG := Lib.hid fun h => (logAt_good (n := Z) (Z := Z) ⟨rfl, by omega⟩ l n h).1
  have b1 := Int.tmod_lt_of_pos zones (show (0 : Int) < 4 by omega)
  have b2 := Int.lt_tmod_of_pos zones (show (0 : Int) < 4 by omega)
  rw [hn] at E hrun ⊢
  generalize logAt Z l n = log at hrun HLG
  have h47 : n ≤ 140737488355328 := by have := (E.get m0).len; omega
  clear hv hn
  go_enter Tryz.func8, Tryz.ntmps8
  go_wp2_with fail
  refine (live16_any _).mono ?_
  rintro e w2 ⟨rfl, hb2⟩
  replace E := E.step hb2
  clear hb2
  by_cases hle : n ≤ 40
  case neg =>
    have g1 : ¬ (n : Int) ≤ 40 := by omega
    go_wp2
    go_ret
    exact ⟨rfl, E.below⟩
  have g1 : (n : Int) ≤ 40 := by omega
  go_upto_region 5 with fail
  have hg := HLG.out (by omega)
  clear hZ b1 b2 HLG
  go_wp2_with fail
  refine (hrun _ _ (E.get m0) hle).mono ?_
  rintro e w3 ⟨A, c, mb, wm, rfl, hz3, hM3, hwo⟩
  have hmb := hM3.base
  replace E := ((E.step hM3.below).give Stable.list hz3).give Stable.mapB hM3
  clear hrun hM3 hz3
  go_upto_region 8 with fail
  replace E := E.push 28 #[.int .i64 4000, .int .i64 Z, .int .i64 Z, .slice A Z c]
  generalize w3.alloc (.cells #[.int .i64 4000, .int .i64 Z, .int .i64 Z, .slice A Z c] 28) = w4 at E ⊢
  generalize w3.heap.size = gd at E ⊢
  have hmp := fun K W h => rmap_run hg (by omega) A c [] none 0 0 rfl K (fun _ => True) W h (IsL.nil_ _ _) (by simp)
  have hby := fun Am mn cm m h1 h2 lba K K' W h3 h4 h5 => rbytes_run hg (by omega) A c Am mn cm m h1 h2 lba 1 K K' W h3 h4 h5 (by omega)
  have htn := fun K W h => rtorn_run hg (by omega) A c K W h
  obtain ⟨q0, f0, t0⟩ := E.rules m0
  go_wp2_with fail
  refine (hmp _ _ (E.get m1)).mono ?_
  rintro e w5 ⟨mm, mn, Am, cm, rfl, hmn, -, him, -, hL5, hb5⟩
  rw [selR_nil] at him
  replace E := (E.step hb5).give Stable.list hL5
  clear hmp hb5 hL5 q0 f0 t0
  obtain ⟨q0, f0, t0⟩ := E.rules m0
  go_wp2_with fail
  refine (htn _ _ (E.get m2)).mono ?_
  rintro e w6 ⟨A6, c6, rfl, hb6⟩
  replace E := E.step hb6
  clear htn hb6 q0 f0 t0
  have hmy := emany_any Am cm mm (fun b => w4.heap.size ≤ b) w6 (by rw [hmn.out]; exact E.get m0) him.out.1
  rw [hmn.out, many_run hg (by omega) him.out.1 him.out.2 hwo] at hmy
  go_wp2_with fail
  refine hmy.mono ?_
  rintro e w7 ⟨rfl, hb7⟩
  replace E := E.step hb7
  clear hmy hb7
  have hln := fun ty => (E.get m1).len (P := Tryz.prog) Tryz.underlying60 ty
  obtain ⟨q0, f0, t0⟩ := E.rules m0
  go_wp2_with fail
  clear hln q0 f0 t0
  go_loopw [11, 12, 13, 14, 15, 55] (fun x11 x12 x13 x14 x15 x55 wr => ∃ k : Nat, x55 = .int .i64 k ∧ k ≤ 60 ∧ Below w7.heap.size w7 wr ∧ (∃ y, x11 = y) ∧ (∃ y, x12 = y) ∧ (∃ y, x13 = y) ∧ (∃ y, x14 = y) ∧ ∃ y, x15 = y) (fun _ _ _ _ _ x55 _ => 60 - (intOf x55).toNat)
  case atStart => exact ⟨0, rfl, by omega, Below.refl _ _, ⟨_, rfl⟩, ⟨_, rfl⟩, ⟨_, rfl⟩, ⟨_, rfl⟩, _, rfl⟩
  case round =>
    obtain ⟨k, rfl, hk, hb, ⟨y1, rfl⟩, ⟨y2, rfl⟩, ⟨y3, rfl⟩, ⟨y4, rfl⟩, y5, rfl⟩ := hrel
    have F := E.step hb
    by_cases hlt : k < 60
    case neg =>
      obtain rfl : k = 60 := by omega
      clear E hby
      go_wp2
      go_ret
      exact ⟨rfl, F.below⟩
    have k1 : (k : Int) < 60 := by omega
    have k0 : (0 : Int) ≤ (k : Int) := by omega
    obtain ⟨q0, f0, t0⟩ := F.rules m0
    have hM : MapB w2.heap.size w2 wr mb wm := F.get m1
    have hgw := hwo.1 (k : Int)
    have hcl : contL log (k : Int) 1 = contO (lastC log k) k := by unfold contL; simp [List.range_succ]
    obtain ⟨bs, hbs⟩ : ∃ bs, contL log (k : Int) 1 = bs := ⟨_, rfl⟩
    have hbl := contL_len hg (k : Int) 1
    have hbw := hby Am mn cm mm hmn.out him.out k _ _ wr (F.get m2) (F.get m0) (by unfold blocksE; omega)
    rw [hbs] at hcl hbl hbw
    simp only [Int.natCast_one, Nat.mul_one] at hbw hbl
    clear hby hbs
    go_wp2_with fail
    refine hbw.mono ?_
    rintro e w8 ⟨A8, c8, rfl, own8, hb8⟩
    have hM8 := hM.step hb8
    replace hb := hb.trans (hb8.mono hb.size)
    have hcv := fun W (h : Below w8.heap.size w8 W) => run_string_of (P := Tryz.prog) (cap := c8) (n := 16) (l := bs) W 32 9 5 Tryz.underlying32 Tryz.underlying5 Tryz.underlying9 hbl ((Reads.of_own own8).step h)
    clear hbw hM q0 f0 t0 F own8 hbl
    cases hlc : lastC log k with
    | some r =>
      rw [hlc] at hgw hcl
      have hgs : getI wm k = some (strB bs) := by rw [hgw, hcl]; rfl
      have HGS := Lib.hid hgs
      have hcw := hcv _ (Below.refl _ _)
      clear hgw hcl hlc hgs hcv
      go_upto_if 72 with (refine wpList_lookupOkI rfl _ _ _ rfl 3 9 Tryz.underlying60 Tryz.underlying3 (.string ⟨#[]⟩) (by kernel_rfl) rfl hM8 k rfl ?_; rw [HGS.out])
      unfold strB
      clear E
      go_wp2
      go_roundw
      case rel => exact ⟨k + 1, by go_num, by omega, hb, ⟨_, rfl⟩, ⟨_, rfl⟩, ⟨_, rfl⟩, ⟨_, rfl⟩, _, rfl⟩
      case measure => simp [intOf]; omega
    | none =>
      rw [hlc] at hgw hcl
      have hgs : getI wm k = none := by rw [hgw]; rfl
      have HGS := Lib.hid hgs
      have hbz : bs = List.replicate 16 0 := hcl
      subst hbz
      have hf0 := fun W => fill16_any 0 16 W (by omega)
      rw [show ((0 : UInt8).toNat : Int) = 0 from rfl] at hf0
      clear hgw hlc hgs hcl
      go_wp2_with (refine wpList_lookupOkI rfl _ _ _ rfl 3 9 Tryz.underlying60 Tryz.underlying3 (.string ⟨#[]⟩) (by kernel_rfl) rfl hM8 k rfl ?_; rw [HGS.out])
      refine (hf0 _).mono ?_
      rintro e w9 ⟨A9, c9, rfl, own9, hb9⟩
      replace hb := hb.trans (hb9.mono hb.size)
      have hcw := hcv _ hb9
      have hcx := run_string_of (P := Tryz.prog) (cap := c9) (n := 16) (l := List.replicate 16 0) w9 32 9 5 Tryz.underlying32 Tryz.underlying5 Tryz.underlying9 (by simp) (Reads.of_own own9)
      clear hcv hf0 own9 hb9
      clear E
      go_wp2
      go_roundw
      case rel => exact ⟨k + 1, by go_num, by omega, hb, ⟨_, rfl⟩, ⟨_, rfl⟩, ⟨_, rfl⟩, ⟨_, rfl⟩, _, rfl⟩
      case measure => simp [intOf]; omega
end Go.Proofs.YtlippmghgagdaaaGreat
