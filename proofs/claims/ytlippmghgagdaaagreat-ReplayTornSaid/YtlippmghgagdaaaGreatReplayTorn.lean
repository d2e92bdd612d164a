/- The walk of quicksetlaw16.ReplayTorn. -/
import Derived.Test.YtlippmghgagdaaaGreatRun16
import Derived.Test.YtlippmghgagdaaaGreatRunSays
import Derived.Test.YtlippmghgagdaaaGreatLive16
import Derived.Test.YtlippmghgagdaaaGreatSegRec
import Derived.Test.YtlippmghgagdaaaGreatRgn
namespace Go.Proofs.YtlippmghgagdaaaGreat
open Go.RowKit

/-- what a torn append leaves -/
theorem torn_dev {Z : Nat} {log : List (Nat × Rc)} (hg : GoodLog Z 55 log) (hZ : 1 ≤ Z ∧ Z ≤ 64) {a : Nat} (ha : a < Z) (hne : rsOf log a ≠ []) (hst : (landZ 0 4000 (zoneB log a)).st ≠ 4) {r : Rc} (hr : GoodR 55 r) (hv : ∀ x ∈ log, x.2.ver < r.ver) {kp : Nat} (hk : kp ≤ (recL r).1.length) :
    ∃ zs' e, doZ ⟨4000, Z, Z, zonesR log Z⟩ ⟨8, a, 0, 0, kp, (recL r).1⟩ = (⟨4000, Z, Z, zs'⟩, ⟨e, 0, []⟩) ∧ zs'.length = Z ∧ okD ⟨4000, Z, Z, zs'⟩ ∧
      (e = 40 ∨ (e = 0 ∧ kp = (recL r).1.length ∧ GoodLog Z 55 (log ++ [(a, r)]) ∧ zs' = zonesR (log ++ [(a, r)]) Z) ∨ (e = 0 ∧ kp < (recL r).1.length ∧ foundL zs' = foundL (zonesR log Z) ∧ (tornT zs' Z = [] ↔ kp = 0))) := by
  have h5 := ((recL_len (hr.ok (by omega))).2 (hr.fit (by omega))).2
  have hdv : ∀ zs : List Zn, zs.length = Z → devA 4000 zs = ⟨4000, Z, Z, zs⟩ := fun zs h => by unfold devA; rw [h]
  have hl := zonesR_len log Z
  have hok := hg.dev hZ
  have hz := zonesR_get (log := log) ha
  have hfit := hg.fits a
  have ht := devA_torn (x := (recL r).1) (n := (kp : Int)) hok hz (by omega)
  rw [show (landZ 0 4000 (zoneB log a)).fe = 0 from rfl, hdv _ hl] at ht
  have hokz : okZ (landZ 0 4000 (zoneB log a)) 4000 := landZ_ok (by omega) (by omega) (by omega)
  have hrm : roomZ (landZ 0 4000 (zoneB log a)) 4000 (recL r).1 = if ((zoneB log a).length : Int) + (recL r).1.length ≤ 4000 then 0 else 40 := by
    unfold roomZ
    rw [if_neg (by simp only [not_or, Decidable.not_not]; exact ⟨hokz, by omega⟩), if_neg hst]
    rfl
  by_cases hf : ((zoneB log a).length : Int) + (recL r).1.length ≤ 4000
  · rw [if_pos hf] at hrm
    rw [if_pos hrm] at ht
    by_cases h0 : kp = 0
    · subst h0
      rw [if_pos (show ((0 : Nat) : Int) = 0 from rfl)] at ht
      exact ⟨_, 0, ht, hl, devR hg hZ, .inr (.inr ⟨rfl, by omega, rfl, ⟨fun _ => rfl, fun _ => torn_run hg (by omega) (by omega)⟩⟩)⟩
    · rw [if_neg (by omega), Int.toNat_natCast, hdv _ (by rw [List.length_set, hl])] at ht
      have hrz : roomZ (landZ 0 4000 (zoneB log a)) 4000 ((recL r).1.take kp) = 0 := by
        unfold roomZ
        have hlt : ((recL r).1.take kp).length = kp := by rw [List.length_take]; omega
        rw [if_neg (by simp only [not_or, Decidable.not_not]; exact ⟨hokz, by omega⟩), if_neg hst, if_pos]
        show ((zoneB log a).length : Int) + _ ≤ _
        omega
      have hokD := (hok.set (i := a) (grown_ok hrz)).ok
      rw [hdv _ (by rw [List.length_set, hl])] at hokD
      refine ⟨_, 0, ht, by rw [List.length_set, hl], hokD, .inr ?_⟩
      by_cases hkl : kp = (recL r).1.length
      · refine .inl ⟨rfl, hkl, ?_, ?_⟩
        · have hnb : nextB log a r = (recL r).1 := by unfold nextB packR; simp only [hne, if_false, List.nil_append]; simp [frsL]
          exact hg.add ha hr hv (by rw [hnb]; omega)
        · have hnb : nextB log a r = (recL r).1 := by unfold nextB packR; simp only [hne, if_false, List.nil_append]; simp [frsL]
          rw [hkl, List.take_length, (landZ_grown (b := zoneB log a) (x := (recL r).1) (M := 4000) (fun e => by rw [e] at h5; simp at h5) hf (by omega)).2, ← hnb, ← zoneB_next, zonesR_set]
      · have hlt : kp < (recL r).1.length := by omega
        refine .inr ⟨rfl, hlt, tornR_found hg (by omega) (by omega) hne hr hlt, ?_⟩
        have := tornR_torn hg (by omega) (by omega) ha hne hr hlt (by omega)
        unfold tornR at this
        rw [this]
        simp [h0]
  · rw [if_neg hf] at hrm
    rw [hrm, if_neg (by decide)] at ht
    exact ⟨_, 40, ht, hl, devR hg hZ, .inl rfl⟩

open Go.WideShapes Go.ChangeShapes Go.Deep Go.Joins in
set_option maxRecDepth 100000 in
theorem open_wr_arg {H : Type} {enc : TypeId × Value → H} {w : World} {base : Nat} {v : Value} {d : DataW H} {p : List MemPlace} (hv : Value.okWide Tryz.prog w .any base 81 v) (h : DataW.Trod enc Tryz.prog w 0 (fun _ => true) true 81 v d p) (hs : Small Tryz.prog 81 d) :
    ∃ z : Wr, v = .agg #[.int .i64 z.zone, .int .i64 z.lba, .int .i64 z.n, .int .u8 (z.by_.toNat : Int), .bool z.trim] ∧ I63 [z.zone, z.lba, z.n] := by
  obtain ⟨cs, rfl, _⟩ := okWide_struct Tryz.underlying81 hv
  obtain ⟨fuel, hf⟩ := h
  obtain ⟨z, hcs, r⟩ := open_wr hf hs
  refine ⟨z, ?_, r⟩
  congr 1
  apply Array.toList_inj.1
  simpa [Value.cells] using hcs
set_option linter.unusedSimpArgs false in
set_option maxRecDepth 100000 in
set_option maxHeartbeats 4000000 in
theorem equalE_any (A1 A2 : Option Addr) (c1 c2 n : Nat) (l : List Ex) (K1 K2 : Nat → Prop) (w : World) (h1 : IsL Rp.ex w K1 (.slice A1 n c1) l) (h2 : IsL Rp.ex w K2 (.slice A2 n c2) l) (hn : l.length = n) :
    Calls Tryz.prog 32 #[.slice A1 n c1, .slice A2 n c2] w fun e w' => e = .returned (.bool true) ∧ Below w.heap.size w w' := by
  have E := ((Kn.start w).give Stable.list h1).give Stable.list h2
  have hlen := h1.len
  rw [hn] at hlen
  have HN := Lib.hid hn
  clear h1 h2 hn
  go_enter Tryz.func32, Tryz.ntmps32
  go_upto_region 4 with fail
  go_loopw [5, 13] (fun x5 x13 wr => ∃ j : Nat, x13 = .int .i64 j ∧ j ≤ n ∧ Below w.heap.size w wr ∧ ∃ y, x5 = y) (fun _ x13 _ => n - (intOf x13).toNat)
  case atStart => exact ⟨0, rfl, Nat.zero_le _, Below.refl _ _, _, rfl⟩
  case round =>
    obtain ⟨j, rfl, hj, hb, y, rfl⟩ := hrel
    have F := E.step hb
    by_cases hlt : j < n
    case neg =>
      obtain rfl : j = n := by omega
      clear E
      go_wp2
      go_ret
      exact ⟨rfl, F.below⟩
    have hlt' : j < l.length := by rw [HN.out]; exact hlt
    obtain ⟨a1, rfl, -, c0, c1, c2, c3, c4⟩ := ex_at (F.get m0) (List.getElem?_eq_getElem hlt')
    obtain ⟨a2, rfl, -, d0, d1, d2, d3, d4⟩ := ex_at (F.get m1) (List.getElem?_eq_getElem hlt')
    generalize l[j] = e at c0 c1 c2 c3 c4 d0 d1 d2 d3 d4
    have j1 : (j : Int) < (n : Int) := by omega
    have j0 : (0 : Int) ≤ (j : Int) := by omega
    have HK : Hid (∀ W, Below wr.heap.size wr W → W.cell? (a1.add (j * 5)) = some (.int .i64 e.lba) ∧ W.cell? ⟨(a1.add (j * 5)).block, (a1.add (j * 5)).off + 1, none⟩ = some (.int .i64 e.n) ∧ W.cell? ⟨(a1.add (j * 5)).block, (a1.add (j * 5)).off + 2, none⟩ = some (.int .i64 e.ver) ∧ W.cell? ⟨(a1.add (j * 5)).block, (a1.add (j * 5)).off + 3, none⟩ = some (.int .i64 e.zone) ∧ W.cell? ⟨(a1.add (j * 5)).block, (a1.add (j * 5)).off + 4, none⟩ = some (.int .i64 e.off) ∧
        W.cell? (a2.add (j * 5)) = some (.int .i64 e.lba) ∧ W.cell? ⟨(a2.add (j * 5)).block, (a2.add (j * 5)).off + 1, none⟩ = some (.int .i64 e.n) ∧ W.cell? ⟨(a2.add (j * 5)).block, (a2.add (j * 5)).off + 2, none⟩ = some (.int .i64 e.ver) ∧ W.cell? ⟨(a2.add (j * 5)).block, (a2.add (j * 5)).off + 3, none⟩ = some (.int .i64 e.zone) ∧ W.cell? ⟨(a2.add (j * 5)).block, (a2.add (j * 5)).off + 4, none⟩ = some (.int .i64 e.off) ∧
        (binOp .neq 67 (exV e) (exV e)).run Tryz.prog W = .ok (.bool false) W) :=
      Lib.hid fun W h => by
        have g := fun (p : Addr) (v : Value) (hp : wr.cell? p = some v) => (h.cell (World.block_lt_of_cell? _ _ hp)).trans hp
        have hne := neq_ex e e W
        rw [decide_eq_true rfl] at hne
        exact ⟨g _ _ c0, g _ _ c1, g _ _ c2, g _ _ c3, g _ _ c4, g _ _ d0, g _ _ d1, g _ _ d2, g _ _ d3, g _ _ d4, hne⟩
    clear c0 c1 c2 c3 c4 d0 d1 d2 d3 d4
    go_upto_region 6 with fail
    have hb0 : Below wr.heap.size wr wr.drew := (Below.refl _ _).drew
    replace hb := hb.trans (hb0.mono hb.size)
    refine wp_region_held_drew (S := fun W => W.cell? (a1.add (j * 5)) = some (.int .i64 e.lba) ∧ W.cell? ⟨(a1.add (j * 5)).block, (a1.add (j * 5)).off + 1, none⟩ = some (.int .i64 e.n) ∧ W.cell? ⟨(a1.add (j * 5)).block, (a1.add (j * 5)).off + 2, none⟩ = some (.int .i64 e.ver) ∧ W.cell? ⟨(a1.add (j * 5)).block, (a1.add (j * 5)).off + 3, none⟩ = some (.int .i64 e.zone) ∧ W.cell? ⟨(a1.add (j * 5)).block, (a1.add (j * 5)).off + 4, none⟩ = some (.int .i64 e.off) ∧
        W.cell? (a2.add (j * 5)) = some (.int .i64 e.lba) ∧ W.cell? ⟨(a2.add (j * 5)).block, (a2.add (j * 5)).off + 1, none⟩ = some (.int .i64 e.n) ∧ W.cell? ⟨(a2.add (j * 5)).block, (a2.add (j * 5)).off + 2, none⟩ = some (.int .i64 e.ver) ∧ W.cell? ⟨(a2.add (j * 5)).block, (a2.add (j * 5)).off + 3, none⟩ = some (.int .i64 e.zone) ∧ W.cell? ⟨(a2.add (j * 5)).block, (a2.add (j * 5)).off + 4, none⟩ = some (.int .i64 e.off) ∧
        (binOp .neq 67 (exV e) (exV e)).run Tryz.prog W = .ok (.bool false) W) (by kernel_rfl) (HK.out _ hb0) (fun hHeld => ?_)
    generalize wr.drew = w8 at hb0 hb hHeld ⊢
    refine wpAnyH_take (i := 0) (oi := ⟨some 16, _, _, _, _, _⟩) (v := ?_) rfl (by kernel_rfl) (by kernel_rfl) (by kernel_rfl) (fun _ _ _ h => h) (Or.inl ⟨by rfl, ?hy⟩) (by assumption) ?_
    case hy => intro w hSw; (try dsimp only at hSw); go_simp; with_reducible rfl
    try simp only [Act.put, List.setIfInBounds_toArray, List.set_cons_zero, List.set_cons_succ]
    refine wpAnyH_take (i := 1) (oi := ⟨some 17, _, _, _, _, _⟩) (v := ?_) rfl (by kernel_rfl) (by kernel_rfl) (by kernel_rfl) (fun _ _ _ h => h) (Or.inl ⟨by rfl, ?hy⟩) (by assumption) ?_
    case hy => intro w hSw; (try dsimp only at hSw); go_simp; with_reducible rfl
    try simp only [Act.put, List.setIfInBounds_toArray, List.set_cons_zero, List.set_cons_succ]
    refine wpAnyH_take (i := 2) (oi := ⟨some 18, _, _, _, _, _⟩) (v := ?_) rfl (by kernel_rfl) (by kernel_rfl) (by kernel_rfl) (fun _ _ _ h => h) (Or.inl ⟨by rfl, ?hy⟩) (by assumption) ?_
    case hy => intro w hSw; (try dsimp only at hSw); go_simp; with_reducible rfl
    try simp only [Act.put, List.setIfInBounds_toArray, List.set_cons_zero, List.set_cons_succ]
    refine wpAnyH_take (i := 3) (oi := ⟨some 19, _, _, _, _, _⟩) (v := ?_) rfl (by kernel_rfl) (by kernel_rfl) (by kernel_rfl) (fun _ _ _ h => h) (Or.inl ⟨by rfl, ?hy⟩) (by assumption) ?_
    case hy => intro w hSw; (try dsimp only at hSw); go_simp; with_reducible rfl
    try simp only [Act.put, List.setIfInBounds_toArray, List.set_cons_zero, List.set_cons_succ]
    refine wpAnyH_take (i := 4) (oi := ⟨some 20, _, _, _, _, _⟩) (v := ?_) rfl (by kernel_rfl) (by kernel_rfl) (by kernel_rfl) (fun _ _ _ h => h) (Or.inl ⟨by rfl, ?hy⟩) (by assumption) ?_
    case hy => intro w hSw; (try dsimp only at hSw); go_simp; with_reducible rfl
    try simp only [Act.put, List.setIfInBounds_toArray, List.set_cons_zero, List.set_cons_succ]
    refine wpAnyH_take (i := 5) (oi := ⟨some 21, _, _, _, _, _⟩) (v := ?_) rfl (by kernel_rfl) (by kernel_rfl) (by kernel_rfl) (fun _ _ _ h => h) (Or.inl ⟨by rfl, ?hy⟩) (by assumption) ?_
    case hy => intro w hSw; (try dsimp only at hSw); go_simp; with_reducible rfl
    try simp only [Act.put, List.setIfInBounds_toArray, List.set_cons_zero, List.set_cons_succ]
    refine wpAnyH_take (i := 6) (oi := ⟨some 22, _, _, _, _, _⟩) (v := ?_) rfl (by kernel_rfl) (by kernel_rfl) (by kernel_rfl) (fun _ _ _ h => h) (Or.inl ⟨by rfl, ?hy⟩) (by assumption) ?_
    case hy => intro w hSw; (try dsimp only at hSw); go_simp; with_reducible rfl
    try simp only [Act.put, List.setIfInBounds_toArray, List.set_cons_zero, List.set_cons_succ]
    refine wpAnyH_take (i := 7) (oi := ⟨some 23, _, _, _, _, _⟩) (v := ?_) rfl (by kernel_rfl) (by kernel_rfl) (by kernel_rfl) (fun _ _ _ h => h) (Or.inl ⟨by rfl, ?hy⟩) (by assumption) ?_
    case hy => intro w hSw; (try dsimp only at hSw); go_simp; with_reducible rfl
    try simp only [Act.put, List.setIfInBounds_toArray, List.set_cons_zero, List.set_cons_succ]
    refine wpAnyH_take (i := 8) (oi := ⟨some 24, _, _, _, _, _⟩) (v := ?_) rfl (by kernel_rfl) (by kernel_rfl) (by kernel_rfl) (fun _ _ _ h => h) (Or.inl ⟨by rfl, ?hy⟩) (by assumption) ?_
    case hy => intro w hSw; (try dsimp only at hSw); go_simp; with_reducible rfl
    try simp only [Act.put, List.setIfInBounds_toArray, List.set_cons_zero, List.set_cons_succ]
    refine wpAnyH_done (by kernel_rfl) ?_ _
    go_wp2_with fail
    go_roundw
    case rel => exact ⟨j + 1, by go_num, by omega, hb, _, rfl⟩
    case measure => simp [intOf]; omega

set_option linter.unusedSimpArgs false in
set_option maxRecDepth 100000 in
set_option maxHeartbeats 8000000 in
theorem replayTorn_all (l : List Wr) (v : Value) (zones at_ keep : Int) (z : Wr) (K : Nat → Prop) (w : World) (hv : IsL Rp.wr w K v l) :
    Calls Tryz.prog 7 #[v, .int .i64 zones, .int .i64 at_, .agg #[.int .i64 z.zone, .int .i64 z.lba, .int .i64 z.n, .int .u8 (z.by_.toNat : Int), .bool z.trim], .int .i64 keep] w fun e w' => e = .returned (.bool true) ∧ Below w.heap.size w w' := by
  obtain ⟨Al, cl, rfl, -⟩ := hv.form
  have E := (Kn.start w).give Stable.list hv
  obtain ⟨n, hn⟩ : ∃ n, l.length = n := ⟨_, rfl⟩
  obtain ⟨Z, hZ⟩ : ∃ Z : Nat, 1 + zones.tmod 4 % 4 = (Z : Int) := ⟨(1 + zones.tmod 4 % 4).toNat, by omega⟩
  have hZ4 : 1 ≤ Z ∧ Z ≤ 4 := by omega
  have hrun := fun K W h h1 => run16_any l Al cl Z K W h h1 hZ4
  have HLG := Lib.hid fun h => (logAt_good (n := Z) (Z := Z) ⟨rfl, by omega⟩ l n h)
  have b1 := Int.tmod_lt_of_pos zones (show (0 : Int) < 4 by omega)
  have b2 := Int.lt_tmod_of_pos zones (show (0 : Int) < 4 by omega)
  rw [hn] at E hrun ⊢
  generalize logAt Z l n = log at hrun HLG
  have h47 : n ≤ 140737488355328 := by have := (E.get m0).len; omega
  clear hv hn
  go_enter Tryz.func7, Tryz.ntmps7
  go_wp2_with fail
  have E := E.push 81 #[.int .i64 z.zone, .int .i64 z.lba, .int .i64 z.n, .int .u8 (z.by_.toNat : Int), .bool z.trim]
  refine (live16_any _).mono ?_
  rintro e w2 ⟨rfl, hb2⟩
  replace E := E.step hb2
  clear hb2
  by_cases hle : n ≤ 30
  case neg =>
    have g1 : ¬ (n : Int) ≤ 30 := by omega
    go_wp2
    go_ret
    exact ⟨rfl, E.below⟩
  have g1 : (n : Int) ≤ 30 := by omega
  go_upto_region 5 with fail
  obtain ⟨hg, hver⟩ := HLG.out (by omega)
  clear hZ b1 b2 HLG
  go_wp2_with fail
  refine (hrun _ _ (E.get m0) (by omega)).mono ?_
  rintro e w3 ⟨A, c, mb, wm, rfl, hz3, hM3, -⟩
  replace E := ((E.step hM3.below).give Stable.list hz3)
  clear hrun hM3 hz3
  go_upto_region 8 with fail
  replace E := E.push 28 #[.int .i64 4000, .int .i64 Z, .int .i64 Z, .slice A Z c]
  generalize w3.alloc (.cells #[.int .i64 4000, .int .i64 Z, .int .i64 Z, .slice A Z c] 28) = w4 at E ⊢
  generalize w3.heap.size = gd at E ⊢
  have b1 := Int.tmod_lt_of_pos at_ (show (0 : Int) < (Z : Int) by omega)
  have b2 := Int.lt_tmod_of_pos at_ (show (0 : Int) < (Z : Int) by omega)
  have b3 := Int.emod_nonneg (at_.tmod Z + (Z : Int)) (show (Z : Int) ≠ 0 by omega)
  have b4 := Int.emod_lt_of_pos (at_.tmod Z + (Z : Int)) (show (0 : Int) < (Z : Int) by omega)
  obtain ⟨a, ha⟩ : ∃ a : Nat, (at_.tmod Z + (Z : Int)) % (Z : Int) = (a : Int) := ⟨((at_.tmod Z + (Z : Int)) % (Z : Int)).toNat, by omega⟩
  have haZ : a < Z := by omega
  have HA := Lib.hid ha
  clear ha
  go_upto_region 9 with fail
  rw [HA.out]
  clear b1 b2 b3 b4 HA
  obtain ⟨adz, B, cB, rfl, -, -, hB, d0, d1, d2⟩ := (E.get m0).zone_at (zonesR_get (log := log) haZ)
  have hzl0 : (landZ 0 4000 (zoneB log a)).d.length = (zoneB log a).length := rfl
  have hst0 : (landZ 0 4000 (zoneB log a)).st = (landZ 0 4000 (zoneB log a)).st := rfl
  obtain ⟨st, hst⟩ : ∃ st, (landZ 0 4000 (zoneB log a)).st = st := ⟨_, rfl⟩
  obtain ⟨zl, hzl⟩ : ∃ zl, (zoneB log a).length = zl := ⟨_, rfl⟩
  rw [hzl0, hzl] at d2
  rw [hst] at d0
  have HST := Lib.hid hst; have HZL := Lib.hid hzl
  clear hst0 hzl0 hst hzl hB d1
  obtain ⟨q0, f0, t0⟩ := E.rules m0
  have a1 : (a : Int) < (Z : Int) := by omega
  have a0 : (0 : Int) ≤ (a : Int) := by omega
  by_cases hz0 : zl = 0
  · subst hz0
    go_wp2
    go_ret
    exact ⟨rfl, E.below⟩
  have g2 : ¬ (zl : Int) = 0 := by omega
  by_cases hs4 : st = 4
  · subst hs4
    go_wp2
    go_ret
    exact ⟨rfl, E.below⟩
  have hne : rsOf log a ≠ [] := fun e => by have := (zoneB_nil hg (by omega)).2 e; have h2 := HZL.out; rw [this] at h2; simp at h2; omega
  obtain ⟨nn, hnn⟩ : ∃ nn : Nat, (z.n.tmod 5 + 5) % 5 = nn := ⟨((z.n.tmod 5 + 5) % 5).toNat, by omega⟩
  obtain ⟨lb, hlb⟩ : ∃ lb : Nat, (z.lba.tmod 50 + 50) % 50 = lb := ⟨((z.lba.tmod 50 + 50) % 50).toNat, by omega⟩
  obtain ⟨q1, f1, t1⟩ := E.rules m1
  have bl1 := Int.tmod_lt_of_pos z.lba (show (0 : Int) < 50 by omega)
  have bl2 := Int.lt_tmod_of_pos z.lba (show (0 : Int) < 50 by omega)
  have bn1 := Int.tmod_lt_of_pos z.n (show (0 : Int) < 5 by omega)
  have bn2 := Int.lt_tmod_of_pos z.n (show (0 : Int) < 5 by omega)
  have hnn2 : z.n.tmod 5 % 5 = (nn : Int) := by omega
  have hlb2 : z.lba.tmod 50 % 50 = (lb : Int) := by omega
  have hln : lb < 50 ∧ nn < 5 := by omega
  have g3 : ((zl : Int) == 0) = false := by simpa using hz0
  have g4 : (st == (4 : Int)) = false := by simpa using hs4
  have HS4 := Lib.hid hs4
  clear hs4 g2
  go_upto_region 12 with fail
  obtain ⟨N, hN⟩ : ∃ N : Nat, (16 : Int) * (1 + (nn : Int)) = (N : Int) := ⟨16 * (1 + nn), by omega⟩
  have hN80 : N ≤ 80 := by omega
  have wl1 : IntKind.i64.wrap (z.lba.tmod 50 + 50) = z.lba.tmod 50 + 50 := IntWalk.i64_in _ (by omega)
  have wl2 : (z.lba.tmod 50 + 50).tmod 50 = (lb : Int) := by rw [Int.tmod_eq_emod_of_nonneg (by omega)]; omega
  have wN : IntKind.i64.wrap (N : Int) = (N : Int) := IntWalk.i64_in _ (by omega)
  have hr : GoodR 55 ⟨1, lb, 1 + (nn : Int), 1000, 0, 0, List.replicate N z.by_⟩ :=
    ⟨.inl rfl, by simp only; omega, by simp only; omega, by simp only; omega, ⟨rfl, rfl⟩, fun _ => by simp only [List.length_replicate]; omega, fun h => by simp at h⟩
  have hrok := hr.ok (by omega)
  have hrf := hr.fit (by omega)
  have hrl := recL_len hrok
  have HTD := Lib.hid fun (kp : Nat) hk => torn_dev hg (by omega) haZ hne (by rw [HST.out]; exact HS4.out) hr (fun x hx => by have := hver x hx; simp only; omega) (kp := kp) hk
  have hrc := fun A7 c7 K W h => rec_any ⟨1, lb, 1 + (nn : Int), 1000, 0, 0, List.replicate N z.by_⟩ (.slice A7 N c7) K W hrok h
  unfold rcV at hrc
  simp only at hrc
  obtain ⟨rec, hrec⟩ : ∃ rec : Rc, (⟨1, lb, 1 + (nn : Int), 1000, 0, 0, List.replicate N z.by_⟩ : Rc) = rec := ⟨_, rfl⟩
  have hrd : rec.data = List.replicate N z.by_ ∧ rec.ver = 1000 := by rw [← hrec]; exact ⟨rfl, rfl⟩
  rw [hrec] at hrc hrf hrl HTD
  obtain ⟨bs, hbs⟩ : ∃ bs, (recL rec).1 = bs := ⟨_, rfl⟩
  obtain ⟨L, hL⟩ : ∃ L, bs.length = L := ⟨_, rfl⟩
  rw [hbs, hrf, hL] at hrc
  rw [hbs, hL] at hrl
  rw [hbs, hL] at HTD
  have hL5 := hrl.2 hrf
  have hL4 := hrl.1
  have HL := Lib.hid hL; have HRD := Lib.hid hrd; have HRV := Lib.hid hrd.2
  have hL5' : 5 ≤ L := hL5.2
  clear hrl hL5 hrf hrok hr hrec hbs hL hrd
  have HK : Hid (∀ W, Below w4.heap.size w4 W → (∀ i, W.cell? ⟨w.heap.size, i, none⟩ = (#[.int .i64 z.zone, .int .i64 z.lba, .int .i64 z.n, .int .u8 (z.by_.toNat : Int), .bool z.trim] : Array Value)[i]?)) := Lib.hid fun W h => ((E.step h).rules m1).1
  have hb0 : Below w4.heap.size w4 w4.drew := (Below.refl _ _).drew
  clear q0 f0 t0 q1 f1 t1
  refine wp_region_held_drew (S := fun W => (∀ i, W.cell? ⟨w.heap.size, i, none⟩ = (#[.int .i64 z.zone, .int .i64 z.lba, .int .i64 z.n, .int .u8 (z.by_.toNat : Int), .bool z.trim] : Array Value)[i]?)) (by kernel_rfl) (HK.out _ hb0) (fun hHeld => ?_)
  generalize w4.drew = w5 at hb0 hHeld ⊢
  refine wpAnyH_take (i := 0) (oi := ⟨some 76, _, _, _, _, _⟩) (v := ?_) rfl (by kernel_rfl) (by kernel_rfl) (by kernel_rfl) (fun _ _ _ h => h) (Or.inl ⟨by rfl, ?hy⟩) (by assumption) ?_
  case hy => intro w hSw; (try dsimp only at hSw); go_simp; with_reducible rfl
  try simp only [Act.put, List.setIfInBounds_toArray, List.set_cons_zero, List.set_cons_succ]
  refine wpAnyH_take (i := 1) (oi := ⟨some 77, _, _, _, _, _⟩) (v := ?_) rfl (by kernel_rfl) (by kernel_rfl) (by kernel_rfl) (fun _ _ _ h => h) (Or.inl ⟨by rfl, ?hy⟩) (by assumption) ?_
  case hy => intro w hSw; (try dsimp only at hSw); go_simp; with_reducible rfl
  try simp only [Act.put, List.setIfInBounds_toArray, List.set_cons_zero, List.set_cons_succ]
  refine wpAnyH_take (i := 2) (oi := ⟨some 78, _, _, _, _, _⟩) (v := ?_) rfl (by kernel_rfl) (by kernel_rfl) (by kernel_rfl) (fun _ _ _ h => h) (Or.inl ⟨by rfl, ?hy⟩) (by assumption) ?_
  case hy => intro w hSw; (try dsimp only at hSw); go_simp; with_reducible rfl
  try simp only [Act.put, List.setIfInBounds_toArray, List.set_cons_zero, List.set_cons_succ]
  refine wpAnyH_take (i := 3) (oi := ⟨some 79, _, _, _, _, _⟩) (v := ?_) rfl (by kernel_rfl) (by kernel_rfl) (by kernel_rfl) (fun _ _ _ h => h) (Or.inl ⟨by rfl, ?hy⟩) (by assumption) ?_
  case hy => intro w hSw; (try dsimp only at hSw); go_simp; with_reducible rfl
  try simp only [Act.put, List.setIfInBounds_toArray, List.set_cons_zero, List.set_cons_succ]
  refine wpAnyH_take (i := 4) (oi := ⟨some 80, _, _, _, _, _⟩) (v := ?_) rfl (by kernel_rfl) (by kernel_rfl) (by kernel_rfl) (fun _ _ _ h => h) (Or.inl ⟨by rfl, ?hy⟩) (by assumption) ?_
  case hy => intro w hSw; (try dsimp only at hSw); go_simp; with_reducible rfl
  try simp only [Act.put, List.setIfInBounds_toArray, List.set_cons_zero, List.set_cons_succ]
  refine wpAnyH_take (i := 5) (oi := ⟨some 81, _, _, _, _, _⟩) (v := ?_) rfl (by kernel_rfl) (by kernel_rfl) (by kernel_rfl) (fun _ _ _ h => h) (Or.inl ⟨by rfl, ?hy⟩) (by assumption) ?_
  case hy => intro w hSw; (try dsimp only at hSw); go_simp; with_reducible rfl
  try simp only [Act.put, List.setIfInBounds_toArray, List.set_cons_zero, List.set_cons_succ]
  refine wpAnyH_take (i := 6) (oi := ⟨some 82, _, _, _, _, _⟩) (v := ?_) rfl (by kernel_rfl) (by kernel_rfl) (by kernel_rfl) (fun _ _ _ h => h) (Or.inl ⟨by rfl, ?hy⟩) (by assumption) ?_
  case hy => intro w hSw; (try dsimp only at hSw); go_simp; with_reducible rfl
  try simp only [Act.put, List.setIfInBounds_toArray, List.set_cons_zero, List.set_cons_succ]
  refine wpAnyH_take (i := 7) (oi := ⟨some 83, _, _, _, _, _⟩) (v := ?_) rfl (by kernel_rfl) (by kernel_rfl) (by kernel_rfl) (fun _ _ _ h => h) (Or.inl ⟨by rfl, ?hy⟩) (by assumption) ?_
  case hy => intro w hSw; (try dsimp only at hSw); go_simp; with_reducible rfl
  try simp only [Act.put, List.setIfInBounds_toArray, List.set_cons_zero, List.set_cons_succ]
  refine wpAnyH_take (i := 8) (oi := ⟨some 84, _, _, _, _, _⟩) (v := ?_) rfl (by kernel_rfl) (by kernel_rfl) (by kernel_rfl) (fun _ _ _ h => h) (Or.inl ⟨by rfl, ?hy⟩) (by assumption) ?_
  case hy => intro w hSw; (try dsimp only at hSw); go_simp; with_reducible rfl
  try simp only [Act.put, List.setIfInBounds_toArray, List.set_cons_zero, List.set_cons_succ]
  refine wpAnyH_take (i := 9) (oi := ⟨some 85, _, _, _, _, _⟩) (v := ?_) rfl (by kernel_rfl) (by kernel_rfl) (by kernel_rfl) (fun _ _ _ h => h) (Or.inl ⟨by rfl, ?hy⟩) (by assumption) ?_
  case hy => intro w hSw; (try dsimp only at hSw); go_simp; with_reducible rfl
  try simp only [Act.put, List.setIfInBounds_toArray, List.set_cons_zero, List.set_cons_succ]
  refine wpAnyH_ready (rs := [10]) (by kernel_rfl) (by simp) ?_
  refine AllReadyH.cons (o := ⟨some 86, _, _, _, _, _⟩) rfl (fun K hK => ?_) AllReadyH.nil
  go_simp
  refine (fill16_any z.by_ N _ (by omega)).mono ?_
  rintro e w6 ⟨A6, c6, rfl, own6, hb6⟩
  replace hb6 := hb0.trans (hb6.mono hb0.size)
  go_wp2_with fail
  refine hK.out _ _ (HK.out _ hb6) (fun hHeld => ?_)
  clear hK K
  try simp only [Act.put, List.setIfInBounds_toArray, List.set_cons_zero, List.set_cons_succ]
  refine wpAnyH_take (i := 11) (oi := ⟨some 87, _, _, _, _, _⟩) (v := ?_) rfl (by kernel_rfl) (by kernel_rfl) (by kernel_rfl) (fun _ _ _ h => h) (Or.inl ⟨by rfl, ?hy⟩) (by assumption) ?_
  case hy => intro w hSw; (try dsimp only at hSw); go_simp; with_reducible rfl
  try simp only [Act.put, List.setIfInBounds_toArray, List.set_cons_zero, List.set_cons_succ]
  refine wpAnyH_ready (rs := [12]) (by kernel_rfl) (by simp) ?_
  refine AllReadyH.cons (o := ⟨some 88, _, _, _, _, _⟩) rfl (fun K hK => ?_) AllReadyH.nil
  go_simp
  have hB6 : IsB w6 (fun b => w5.heap.size ≤ b) (.slice A6 N c6) (List.replicate N z.by_) := by have := IsB.of_own (l := List.replicate N z.by_) (A := A6) (c := c6) (base := w5.heap.size) (w := w6) (e := 5) (by rw [List.length_replicate]; exact own6) (by rw [List.length_replicate]; omega); rwa [List.length_replicate] at this
  refine (hrc A6 c6 _ _ hB6).mono ?_
  rintro e w7 ⟨A7, c7, rfl, own7, hb7⟩
  replace hb7 := hb6.trans (hb7.mono hb6.size)
  go_wp2_with fail
  refine hK.out _ _ (HK.out _ hb7) (fun hHeld => ?_)
  clear hK K
  try simp only [Act.put, List.setIfInBounds_toArray, List.set_cons_zero, List.set_cons_succ]
  refine wpAnyH_take (i := 13) (oi := ⟨some 75, _, _, _, _, _⟩) (v := ?_) rfl (by kernel_rfl) (by kernel_rfl) (by kernel_rfl) (fun _ _ _ h => h) (Or.inl ⟨by rfl, ?hy⟩) (by assumption) ?_
  case hy => intro w hSw; (try dsimp only at hSw); go_simp; with_reducible rfl
  try simp only [Act.put, List.setIfInBounds_toArray, List.set_cons_zero, List.set_cons_succ]
  refine wpAnyH_take (i := 14) (oi := ⟨some 89, _, _, _, _, _⟩) (v := ?_) rfl (by kernel_rfl) (by kernel_rfl) (by kernel_rfl) (fun _ _ _ h => h) (Or.inl ⟨by rfl, ?hy⟩) (by assumption) ?_
  case hy => intro w hSw; (try dsimp only at hSw); go_simp; with_reducible rfl
  try simp only [Act.put, List.setIfInBounds_toArray, List.set_cons_zero, List.set_cons_succ]
  refine wpAnyH_take (i := 15) (oi := ⟨some 90, _, _, _, _, _⟩) (v := ?_) rfl (by kernel_rfl) (by kernel_rfl) (by kernel_rfl) (fun _ _ _ h => h) (Or.inl ⟨by rfl, ?hy⟩) (by assumption) ?_
  case hy => intro w hSw; (try dsimp only at hSw); go_simp; with_reducible rfl
  try simp only [Act.put, List.setIfInBounds_toArray, List.set_cons_zero, List.set_cons_succ]
  refine wpAnyH_take (i := 16) (oi := ⟨some 16, _, _, _, _, _⟩) (v := ?_) rfl (by kernel_rfl) (by kernel_rfl) (by kernel_rfl) (fun _ _ _ h => h) (Or.inl ⟨by rfl, ?hy⟩) (by assumption) ?_
  case hy => intro w hSw; (try dsimp only at hSw); go_simp; with_reducible rfl
  try simp only [Act.put, List.setIfInBounds_toArray, List.set_cons_zero, List.set_cons_succ]
  refine wpAnyH_take (i := 17) (oi := ⟨some 17, _, _, _, _, _⟩) (v := ?_) rfl (by kernel_rfl) (by kernel_rfl) (by kernel_rfl) (fun _ _ _ h => h) (Or.inl ⟨by rfl, ?hy⟩) (by assumption) ?_
  case hy => intro w hSw; (try dsimp only at hSw); go_simp; with_reducible rfl
  try simp only [Act.put, List.setIfInBounds_toArray, List.set_cons_zero, List.set_cons_succ]
  refine wpAnyH_done (by kernel_rfl) ?_ _
  replace E := E.step hb7
  rw [← HL.out] at own7
  replace E := E.give Stable.bytes (IsB.of_own own7 (by rw [HL.out]; omega))
  rw [HL.out] at E
  clear own6 own7 hb7 hb6 hb0 HK hHeld hrc wl1 wl2 wN hN hnn hnn2 hlb hlb2 bl1 bl2 bn1 bn2 g3 g4 a0 a1 d0 d2 hN80 HRD
  have b1 := Int.tmod_lt_of_pos keep (show (0 : Int) < (L : Int) + 1 by omega)
  have b2 := Int.lt_tmod_of_pos keep (show (0 : Int) < (L : Int) + 1 by omega)
  have b3 := Int.emod_nonneg (keep.tmod ((L : Int) + 1) + (L : Int) + 1) (show (L : Int) + 1 ≠ 0 by omega)
  have b4 := Int.emod_lt_of_pos (keep.tmod ((L : Int) + 1) + (L : Int) + 1) (show (0 : Int) < (L : Int) + 1 by omega)
  obtain ⟨kp, hkp⟩ : ∃ kp : Nat, (keep.tmod ((L : Int) + 1) + (L : Int) + 1) % ((L : Int) + 1) = (kp : Int) := ⟨((keep.tmod ((L : Int) + 1) + (L : Int) + 1) % ((L : Int) + 1)).toNat, by omega⟩
  have hkL : kp ≤ L := by omega
  have HKP := Lib.hid hkp
  clear hkp
  obtain ⟨q0, f0, t0⟩ := E.rules m0
  go_upto_region 16 with fail
  rw [HKP.out]
  clear b1 b2 b3 b4 HKP
  obtain ⟨zs', e, htd, hlz, hokx, hor⟩ := HTD.out kp hkL
  have hzr := zonesR_len log Z
  have hdo := fun K W h1 h2 h3 => do_any ⟨4000, Z, Z, zonesR log Z⟩ ⟨8, a, 0, 0, kp, bs⟩ (some adz) c A7 c7 K W h1 h2 h3 (by simp only; rw [hzr]; omega) (by simp)
  rw [htd] at hdo
  simp only [hzr, HL.out] at hdo
  have HO := Lib.hid hor; have HLZ := Lib.hid hlz; have HOX := Lib.hid hokx
  clear htd hzr HTD hor hlz hokx
  go_wp2_with fail
  refine (hdo (fun b => b < w7.heap.size) _ ((E.get m1).zlt.more fun b hb => hb.2) (fun b hb => hb) ((E.get m0).lt.more fun b hb => hb.2)).mono ?_
  rintro e9 w9 ⟨v1, v2, rfl, ⟨A9, c9, rfl, hz9, _⟩, ⟨A10, c10, rfl, _⟩, hb9⟩
  simp only [HLZ.out] at hz9 ⊢
  replace E := ((E.step hb9).give Stable.list hz9).push 28 #[.int .i64 4000, .int .i64 Z, .int .i64 Z, .slice A9 Z c9]
  clear hdo hz9 hb9 q0 f0 t0
  go_upto_region 17 with fail
  replace E := E.push 39 #[.int .i64 e, .int .i64 0, .slice A10 0 c10]
  rw [World.size_alloc] at E
  generalize (w9.alloc (.cells #[.int .i64 4000, .int .i64 Z, .int .i64 Z, .slice A9 Z c9] 28)).alloc (.cells #[.int .i64 e, .int .i64 0, .slice A10 0 c10] 39) = w10 at E ⊢
  generalize w9.heap.size = gx at E ⊢
  obtain ⟨q0, f0, t0⟩ := E.rules m0
  obtain ⟨q1, f1, t1⟩ := E.rules m1
  obtain ⟨q2, f2, t2⟩ := E.rules m2
  have hmp := fun K W h => rmap_run hg (by omega) (some adz) c [] none 0 0 rfl K (fun _ => True) W h (IsL.nil_ _ _) (by simp)
  rcases HO.out with rfl | ⟨rfl, hkl, hgl, rfl⟩ | ⟨rfl, hkl, hfo, htn⟩
  · go_wp2
    go_ret
    exact ⟨rfl, E.below⟩
  · subst hkl
    have hm2 := fun K W h => rmap_run hgl (by omega) A9 c9 [] none 0 0 rfl K (fun _ => True) W h (IsL.nil_ _ _) (by simp)
    have ht2 := fun K W h => rtorn_run hgl (by omega) A9 c9 K W h
    have hn2 := fun K W h => rnewest_run hgl (by omega) A9 c9 K W h
    have hnew : newF 0 (foundL (zonesR (log ++ [(a, rec)]) Z)) = 1000 := by
      have h1 := new_run_le hgl (by omega) (show Z ≤ 1000 by omega) (M := 1000) (by omega) (fun x hx => by
        rcases List.mem_append.1 hx with hx | hx
        · have := hver x hx; omega
        · simp only [List.mem_singleton] at hx; subst hx; rw [HRV.out]; exact Int.le_refl _)
      have h2 := new_run_ge hgl (by omega) (show Z ≤ 1000 by omega) (x := (a, rec)) (by simp)
      rw [HRV.out] at h2
      omega
    rw [hnew] at hn2
    clear HO hnew hver
    go_wp2_with fail
    refine (hmp _ _ (E.get m2)).mono ?_
    rintro e11 w11 ⟨mm, mn, Am, cm, rfl, -, -, -, -, -, hb11⟩
    replace E := E.step hb11
    clear hmp hb11 q0 f0 t0 q1 f1 t1 q2 f2 t2
    obtain ⟨q1, f1, t1⟩ := E.rules m1
    go_wp2_with fail
    refine (hm2 _ _ (E.get m0)).mono ?_
    rintro e12 w12 ⟨mm2, mn2, Am2, cm2, rfl, -, -, -, -, -, hb12⟩
    replace E := E.step hb12
    clear hm2 hb12 q1 f1 t1
    obtain ⟨q1, f1, t1⟩ := E.rules m1
    go_wp2_with fail
    refine (ht2 _ _ (E.get m0)).mono ?_
    rintro e13 w13 ⟨At, ct, rfl, hb13⟩
    replace E := E.step hb13
    clear ht2 hb13 q1 f1 t1
    obtain ⟨q1, f1, t1⟩ := E.rules m1
    go_wp2_with fail
    refine (hn2 _ _ (E.get m0)).mono ?_
    rintro e14 w14 ⟨rfl, hb14⟩
    replace E := E.step hb14
    clear hn2 hb14 q1 f1 t1
    go_wp2
    go_ret
    exact ⟨rfl, E.below⟩
  · have hlz := HLZ.out
    have hm2 := fun K W h => rmap_any ⟨4000, Z, Z, zs'⟩ A9 c9 [] none 0 K (fun _ => True) W HOX.out h (IsL.nil_ _ _) (by simp) (by simp only; rw [hlz, hfo]; exact ents_good hg (by omega) (by omega) []) (by simp only; rw [hfo]; exact found_at hg (by omega) (by omega))
    have ht2 := fun K W h => rtorn_any ⟨4000, Z, Z, zs'⟩ A9 c9 K W h HOX.out
    have hn2 := fun K W h => rnewest_any ⟨4000, Z, Z, zs'⟩ A9 c9 K W h HOX.out
    have hn1 := fun K W h => rnewest_run hg (by omega) (some adz) c K W h
    simp only [hlz, hfo, List.length_nil] at hm2 ht2 hn2
    obtain ⟨tl, htl⟩ : ∃ tl, (tornT zs' Z).length = tl := ⟨_, rfl⟩
    obtain ⟨bk, hbk⟩ : ∃ bk, ((kp : Int) == 0) = bk := ⟨_, rfl⟩
    have hbt : ((tl : Int) == 0) = bk := by
      rw [← hbk, ← htl]
      by_cases h0 : kp = 0
      · rw [htn.2 h0, h0]; rfl
      · have h1 : tornT zs' Z ≠ [] := fun e => h0 (htn.1 e)
        have h2 := List.length_pos_iff.2 h1
        rw [show (((tornT zs' Z).length : Int) == 0) = false by simpa using h1, show ((kp : Int) == 0) = false by simpa using h0]
    rw [htl] at ht2
    generalize newF 0 (foundL (zonesR log Z)) = nv at hn1 hn2
    have g5 : ¬ (kp : Int) = (L : Int) := by omega
    have HBK := Lib.hid hbk; have HBT := Lib.hid hbt
    clear htl htn hfo HO hver hlz hbk hbt
    go_wp2_with fail
    refine (hmp _ _ (E.get m2)).mono ?_
    rintro e11 w11 ⟨mm, mn, Am, cm, rfl, hmn, hmm, -, -, hLm, hb11⟩
    replace E := (E.step hb11).give Stable.list hLm
    clear hmp hb11 hLm q0 f0 t0 q1 f1 t1 q2 f2 t2
    obtain ⟨q1, f1, t1⟩ := E.rules m1
    go_wp2_with fail
    refine (hm2 _ _ (E.get m1)).mono ?_
    rintro e12 w12 ⟨mm2, Am2, cm2, rfl, hmm2, -, -, hLm2, hb12⟩
    rw [hmm.out] at hmm2
    injection hmm2 with hmm2 _
    subst hmm2
    rw [hmn.out] at hLm2 ⊢
    replace E := (E.step hb12).give Stable.list hLm2
    clear hm2 hb12 hLm2 q1 f1 t1 hmm
    obtain ⟨q1, f1, t1⟩ := E.rules m1
    go_wp2_with fail
    refine (ht2 _ _ (E.get m2)).mono ?_
    rintro e13 w13 ⟨At, ct, rfl, -, hb13⟩
    replace E := E.step hb13
    clear ht2 hb13 q1 f1 t1
    go_upto_region 28 with fail
    have hbk := HBK.out
    have hbt := HBT.out
    have HK : Hid (∀ W, Below w13.heap.size w13 W → (∀ i, W.cell? ⟨gx, i, none⟩ = (#[.int .i64 4000, .int .i64 Z, .int .i64 Z, .slice A9 Z c9] : Array Value)[i]?) ∧ (∀ i, W.cell? ⟨gd, i, none⟩ = (#[.int .i64 4000, .int .i64 Z, .int .i64 Z, .slice (some adz) Z c] : Array Value)[i]?)) := Lib.hid fun W h => ⟨((E.step h).rules m1).1, ((E.step h).rules m2).1⟩
    have hb0 : Below w13.heap.size w13 w13.drew := (Below.refl _ _).drew
    refine wp_region_held_drew (S := fun W => (∀ i, W.cell? ⟨gx, i, none⟩ = (#[.int .i64 4000, .int .i64 Z, .int .i64 Z, .slice A9 Z c9] : Array Value)[i]?) ∧ (∀ i, W.cell? ⟨gd, i, none⟩ = (#[.int .i64 4000, .int .i64 Z, .int .i64 Z, .slice (some adz) Z c] : Array Value)[i]?)) (by kernel_rfl) (HK.out _ hb0) (fun hHeld => ?_)
    generalize w13.drew = w14 at hb0 hHeld ⊢
    refine wpAnyH_take (i := 0) (oi := ⟨some 155, _, _, _, _, _⟩) (v := ?_) rfl (by kernel_rfl) (by kernel_rfl) (by kernel_rfl) (fun _ _ _ h => h) (Or.inl ⟨by rfl, ?hy⟩) (by assumption) ?_
    case hy => intro w hSw; (try dsimp only at hSw); go_simp; with_reducible rfl
    try simp only [Act.put, List.setIfInBounds_toArray, List.set_cons_zero, List.set_cons_succ]
    refine wpAnyH_take (i := 1) (oi := ⟨some 156, _, _, _, _, _⟩) (v := ?_) rfl (by kernel_rfl) (by kernel_rfl) (by kernel_rfl) (fun _ _ _ h => h) (Or.inl ⟨by rfl, ?hy⟩) (by assumption) ?_
    case hy => intro w hSw; (try dsimp only at hSw); go_simp; with_reducible rfl
    try simp only [Act.put, List.setIfInBounds_toArray, List.set_cons_zero, List.set_cons_succ]
    refine wpAnyH_take (i := 2) (oi := ⟨some 157, _, _, _, _, _⟩) (v := ?_) rfl (by kernel_rfl) (by kernel_rfl) (by kernel_rfl) (fun _ _ _ h => h) (Or.inl ⟨by rfl, ?hy⟩) (by assumption) ?_
    case hy => intro w hSw; (try dsimp only at hSw); go_simp; with_reducible rfl
    try simp only [Act.put, List.setIfInBounds_toArray, List.set_cons_zero, List.set_cons_succ]
    refine wpAnyH_take (i := 3) (oi := ⟨some 158, _, _, _, _, _⟩) (v := ?_) rfl (by kernel_rfl) (by kernel_rfl) (by kernel_rfl) (fun _ _ _ h => h) (Or.inl ⟨by rfl, ?hy⟩) (by assumption) ?_
    case hy => intro w hSw; (try dsimp only at hSw); go_simp; with_reducible rfl
    try simp only [Act.put, List.setIfInBounds_toArray, List.set_cons_zero, List.set_cons_succ]
    refine wpAnyH_ready (rs := [4]) (by kernel_rfl) (by simp) ?_
    refine AllReadyH.cons (o := ⟨some 159, _, _, _, _, _⟩) rfl (fun K hK => ?_) AllReadyH.nil
    go_simp
    refine (equalE_any Am Am2 cm cm2 mn mm _ _ _ ((E.step hb0).get m1) ((E.step hb0).get m0) hmn.out).mono ?_
    rintro e15 w15 ⟨rfl, hb15⟩
    replace hb15 := hb0.trans (hb15.mono hb0.size)
    go_wp2_with fail
    refine hK.out _ _ (HK.out _ hb15) (fun hHeld => ?_)
    clear hK K
    try simp only [Act.put, List.setIfInBounds_toArray, List.set_cons_zero, List.set_cons_succ]
    refine wpAnyH_take (i := 5) (oi := ⟨some 160, _, _, _, _, _⟩) (v := ?_) rfl (by kernel_rfl) (by kernel_rfl) (by kernel_rfl) (fun _ _ _ h => h) (Or.inl ⟨by rfl, ?hy⟩) (by assumption) ?_
    case hy => intro w hSw; (try dsimp only at hSw); go_simp; with_reducible rfl
    try simp only [Act.put, List.setIfInBounds_toArray, List.set_cons_zero, List.set_cons_succ]
    refine wpAnyH_take (i := 6) (oi := ⟨some 161, _, _, _, _, _⟩) (v := ?_) rfl (by kernel_rfl) (by kernel_rfl) (by kernel_rfl) (fun _ _ _ h => h) (Or.inl ⟨by rfl, ?hy⟩) (by assumption) ?_
    case hy => intro w hSw; (try dsimp only at hSw); go_simp; with_reducible rfl
    try simp only [Act.put, List.setIfInBounds_toArray, List.set_cons_zero, List.set_cons_succ]
    refine wpAnyH_take (i := 7) (oi := ⟨some 162, _, _, _, _, _⟩) (v := ?_) rfl (by kernel_rfl) (by kernel_rfl) (by kernel_rfl) (fun _ _ _ h => h) (Or.inl ⟨by rfl, ?hy⟩) (by assumption) ?_
    case hy => intro w hSw; (try dsimp only at hSw); go_simp; with_reducible rfl
    try simp only [Act.put, List.setIfInBounds_toArray, List.set_cons_zero, List.set_cons_succ]
    refine wpAnyH_take (i := 8) (oi := ⟨some 163, _, _, _, _, _⟩) (v := ?_) rfl (by kernel_rfl) (by kernel_rfl) (by kernel_rfl) (fun _ _ _ h => h) (Or.inl ⟨by rfl, ?hy⟩) (by assumption) ?_
    case hy => intro w hSw; (try dsimp only at hSw); go_simp; with_reducible rfl
    try simp only [Act.put, List.setIfInBounds_toArray, List.set_cons_zero, List.set_cons_succ]
    refine wpAnyH_take (i := 9) (oi := ⟨some 164, _, _, _, _, _⟩) (v := ?_) rfl (by kernel_rfl) (by kernel_rfl) (by kernel_rfl) (fun _ _ _ h => h) (Or.inl ⟨by rfl, ?hy⟩) (by assumption) ?_
    case hy => intro w hSw; (try dsimp only at hSw); go_simp; with_reducible rfl
    try simp only [Act.put, List.setIfInBounds_toArray, List.set_cons_zero, List.set_cons_succ]
    refine wpAnyH_take (i := 10) (oi := ⟨some 165, _, _, _, _, _⟩) (v := ?_) rfl (by kernel_rfl) (by kernel_rfl) (by kernel_rfl) (fun _ _ _ h => h) (Or.inl ⟨by rfl, ?hy⟩) (by assumption) ?_
    case hy => intro w hSw; (try dsimp only at hSw); go_simp; with_reducible rfl
    try simp only [Act.put, List.setIfInBounds_toArray, List.set_cons_zero, List.set_cons_succ]
    refine wpAnyH_take (i := 11) (oi := ⟨some 166, _, _, _, _, _⟩) (v := ?_) rfl (by kernel_rfl) (by kernel_rfl) (by kernel_rfl) (fun _ _ _ h => h) (Or.inl ⟨by rfl, ?hy⟩) (by assumption) ?_
    case hy => intro w hSw; (try dsimp only at hSw); go_simp; with_reducible rfl
    try simp only [Act.put, List.setIfInBounds_toArray, List.set_cons_zero, List.set_cons_succ]
    refine wpAnyH_take (i := 12) (oi := ⟨some 167, _, _, _, _, _⟩) (v := ?_) rfl (by kernel_rfl) (by kernel_rfl) (by kernel_rfl) (fun _ _ _ h => h) (Or.inl ⟨by rfl, ?hy⟩) (by assumption) ?_
    case hy => intro w hSw; (try dsimp only at hSw); go_simp; with_reducible rfl
    try simp only [Act.put, List.setIfInBounds_toArray, List.set_cons_zero, List.set_cons_succ]
    refine wpAnyH_take (i := 13) (oi := ⟨some 168, _, _, _, _, _⟩) (v := ?_) rfl (by kernel_rfl) (by kernel_rfl) (by kernel_rfl) (fun _ _ _ h => h) (Or.inl ⟨by rfl, ?hy⟩) (by assumption) ?_
    case hy => intro w hSw; (try dsimp only at hSw); go_simp; with_reducible rfl
    try simp only [Act.put, List.setIfInBounds_toArray, List.set_cons_zero, List.set_cons_succ]
    refine wpAnyH_take (i := 14) (oi := ⟨some 169, _, _, _, _, _⟩) (v := ?_) rfl (by kernel_rfl) (by kernel_rfl) (by kernel_rfl) (fun _ _ _ h => h) (Or.inl ⟨by rfl, ?hy⟩) (by assumption) ?_
    case hy => intro w hSw; (try dsimp only at hSw); go_simp; with_reducible rfl
    try simp only [Act.put, List.setIfInBounds_toArray, List.set_cons_zero, List.set_cons_succ]
    refine wpAnyH_take (i := 15) (oi := ⟨some 170, _, _, _, _, _⟩) (v := ?_) rfl (by kernel_rfl) (by kernel_rfl) (by kernel_rfl) (fun _ _ _ h => h) (Or.inl ⟨by rfl, ?hy⟩) (by assumption) ?_
    case hy => intro w hSw; (try dsimp only at hSw); go_simp; with_reducible rfl
    try simp only [Act.put, List.setIfInBounds_toArray, List.set_cons_zero, List.set_cons_succ]
    refine wpAnyH_take (i := 17) (oi := ⟨some 172, _, _, _, _, _⟩) (v := ?_) rfl (by kernel_rfl) (by kernel_rfl) (by kernel_rfl) (fun _ _ _ h => h) (Or.inl ⟨by rfl, ?hy⟩) (by assumption) ?_
    case hy => intro w hSw; (try dsimp only at hSw); go_simp; with_reducible rfl
    try simp only [Act.put, List.setIfInBounds_toArray, List.set_cons_zero, List.set_cons_succ]
    refine wpAnyH_ready (rs := [16]) (by kernel_rfl) (by simp) ?_
    refine AllReadyH.cons (o := ⟨some 171, _, _, _, _, _⟩) rfl (fun K hK => ?_) AllReadyH.nil
    go_simp
    refine (hn2 _ _ ((E.step hb15).get m2)).mono ?_
    rintro e16 w16 ⟨rfl, hb16⟩
    replace hb16 := hb15.trans (hb16.mono hb15.size)
    go_wp2_with fail
    refine hK.out _ _ (HK.out _ hb16) (fun hHeld => ?_)
    clear hK K
    try simp only [Act.put, List.setIfInBounds_toArray, List.set_cons_zero, List.set_cons_succ]
    refine wpAnyH_ready (rs := [18]) (by kernel_rfl) (by simp) ?_
    refine AllReadyH.cons (o := ⟨some 173, _, _, _, _, _⟩) rfl (fun K hK => ?_) AllReadyH.nil
    go_simp
    refine (hn1 _ _ ((E.step hb16).get m4)).mono ?_
    rintro e17 w17 ⟨rfl, hb17⟩
    replace hb17 := hb16.trans (hb17.mono hb16.size)
    go_wp2_with fail
    refine hK.out _ _ (HK.out _ hb17) (fun hHeld => ?_)
    clear hK K
    try simp only [Act.put, List.setIfInBounds_toArray, List.set_cons_zero, List.set_cons_succ]
    refine wpAnyH_take (i := 19) (oi := ⟨some 174, _, _, _, _, _⟩) (v := ?_) rfl (by kernel_rfl) (by kernel_rfl) (by kernel_rfl) (fun _ _ _ h => h) (Or.inl ⟨by rfl, ?hy⟩) (by assumption) ?_
    case hy => intro w hSw; (try dsimp only at hSw); go_simp; with_reducible rfl
    try simp only [Act.put, List.setIfInBounds_toArray, List.set_cons_zero, List.set_cons_succ]
    refine wpAnyH_take (i := 20) (oi := ⟨some 175, _, _, _, _, _⟩) (v := ?_) rfl (by kernel_rfl) (by kernel_rfl) (by kernel_rfl) (fun _ _ _ h => h) (Or.inl ⟨by rfl, ?hy⟩) (by assumption) ?_
    case hy => intro w hSw; (try dsimp only at hSw); go_simp; with_reducible rfl
    try simp only [Act.put, List.setIfInBounds_toArray, List.set_cons_zero, List.set_cons_succ]
    refine wpAnyH_take (i := 21) (oi := ⟨some 10, _, _, _, _, _⟩) (v := ?_) rfl (by kernel_rfl) (by kernel_rfl) (by kernel_rfl) (fun _ _ _ h => h) (Or.inl ⟨by rfl, ?hy⟩) (by assumption) ?_
    case hy => intro w hSw; (try dsimp only at hSw); go_simp; with_reducible rfl
    try simp only [Act.put, List.setIfInBounds_toArray, List.set_cons_zero, List.set_cons_succ]
    refine wpAnyH_done (by kernel_rfl) ?_ _
    go_wp2
    go_ret
    exact ⟨by simp [go_sem], E.below.trans (hb17.mono E.below.size)⟩
end Go.Proofs.YtlippmghgagdaaaGreat
