/- The walk of quicksetlaw16.ReplayBytes. -/
import Derived.Test.YtlippmghgagdaaaGreatRun16
import Derived.Test.YtlippmghgagdaaaGreatRunSays
import Derived.Test.YtlippmghgagdaaaGreatLive16
import Derived.Test.YtlippmghgagdaaaGreatRgn
namespace Go.Proofs.YtlippmghgagdaaaGreat
open Go.RowKit


theorem far_zero {Z : Nat} {log : List (Nat × Rc)} (hg : GoodLog Z 55 log) (b : Int) (hb : 55 ≤ b) (n : Nat) : contL log b n = List.replicate (16 * n) 0 := by
  have h : contL log b n = (List.range n).flatMap fun _ => zeros 16 := by
    unfold contL
    refine fm_congr fun i _ => ?_
    rw [last_no fun x hx hc => by
      have := (hg.good x hx).lba
      unfold covR at hc
      omega]
    rfl
  rw [h, ← zeros_flat]
  rfl

set_option linter.unusedSimpArgs false in
set_option maxRecDepth 100000 in
set_option maxHeartbeats 8000000 in
theorem replayBytes_all (l : List Wr) (v : Value) (zones lba nb : Int) (K : Nat → Prop) (w : World) (hv : IsL Rp.wr w K v l) :
    Calls Tryz.prog 5 #[v, .int .i64 zones, .int .i64 lba, .int .i64 nb] w fun e w' => e = .returned (.bool true) ∧ Below w.heap.size w w' := by
  obtain ⟨Al, cl, rfl, -⟩ := hv.form
  have E := (Kn.start w).give Stable.list hv
  obtain ⟨n, hn⟩ : ∃ n, l.length = n := ⟨_, rfl⟩
  obtain ⟨Z, hZ⟩ : ∃ Z : Nat, 1 + zones.tmod 4 % 4 = (Z : Int) := ⟨(1 + zones.tmod 4 % 4).toNat, by omega⟩
  obtain ⟨L, hL⟩ : ∃ L : Nat, lba.tmod 60 % 60 = (L : Int) := ⟨(lba.tmod 60 % 60).toNat, by omega⟩
  obtain ⟨M, hM⟩ : ∃ M : Nat, 1 + nb.tmod 20 % 20 = (M : Int) := ⟨(1 + nb.tmod 20 % 20).toNat, by omega⟩
  have hZ4 : 1 ≤ Z ∧ Z ≤ 4 := by omega
  have hL60 : L < 60 := by omega
  have hM20 : 1 ≤ M ∧ M ≤ 20 := by omega
  have hrun := fun K W h h1 => run16_any l Al cl Z K W h h1 hZ4
  have HLG := Lib.hid fun h => (logAt_good (n := Z) (Z := Z) ⟨rfl, by omega⟩ l n h).1
  have b1 := Int.tmod_lt_of_pos zones (show (0 : Int) < 4 by omega)
  have b2 := Int.lt_tmod_of_pos zones (show (0 : Int) < 4 by omega)
  have b3 := Int.tmod_lt_of_pos lba (show (0 : Int) < 60 by omega)
  have b4 := Int.lt_tmod_of_pos lba (show (0 : Int) < 60 by omega)
  have b5 := Int.tmod_lt_of_pos nb (show (0 : Int) < 20 by omega)
  have b6 := Int.lt_tmod_of_pos nb (show (0 : Int) < 20 by omega)
  rw [hn] at E hrun ⊢
  generalize logAt Z l n = log at hrun HLG
  have h47 : n ≤ 140737488355328 := by have := (E.get m0).len; omega
  clear hv hn
  go_enter Tryz.func5, Tryz.ntmps5
  go_wp2_with fail
  refine (live16_any _).mono ?_
  rintro e w2 ⟨rfl, hb2⟩
  replace E := E.step hb2
  clear hb2
  by_cases hle : n ≤ 40
  case neg =>
    have g1 : ¬ (n : Int) ≤ 40 := by omega
    go_wp2
    go_ret
    exact ⟨rfl, E.below⟩
  have g1 : (n : Int) ≤ 40 := by omega
  go_upto_region 7 with fail
  rw [show (lba.tmod 60 + 60) % 60 = (L : Int) by omega]
  have hg := HLG.out (by omega)
  clear hZ hL hM b1 b2 b3 b4 b5 b6 HLG
  go_wp2_with fail
  refine (hrun _ _ (E.get m0) hle).mono ?_
  rintro e w3 ⟨A, c, mb, wm, rfl, hz3, hM3, -⟩
  replace E := (E.step hM3.below).give Stable.list hz3
  clear hrun hM3 hz3
  go_upto_region 10 with fail
  replace E := E.push 28 #[.int .i64 4000, .int .i64 Z, .int .i64 Z, .slice A Z c]
  generalize w3.alloc (.cells #[.int .i64 4000, .int .i64 Z, .int .i64 Z, .slice A Z c] 28) = w4 at E ⊢
  generalize w3.heap.size = gd at E ⊢
  have hmp := fun K W h => rmap_run hg (by omega) A c [] none 0 0 rfl K (fun _ => True) W h (IsL.nil_ _ _) (by simp)
  have hby := fun Am mn cm m h1 h2 lba n K K' W h3 h4 h5 h6 => rbytes_run hg (by omega) A c Am mn cm m h1 h2 lba n K K' W h3 h4 h5 h6
  obtain ⟨q0, f0, t0⟩ := E.rules m0
  go_wp2_with fail
  refine (hmp _ _ (E.get m0)).mono ?_
  rintro e w5 ⟨mm, mn, Am, cm, rfl, hmn, -, him, -, hL5, hb5⟩
  rw [selR_nil] at him
  replace E := (E.step hb5).give Stable.list hL5
  clear hmp hb5 hL5 q0 f0 t0
  replace hby := fun lba n K K' W h3 h4 h5 h6 => hby Am mn cm mm hmn.out him.out lba n K K' W h3 h4 h5 h6
  clear hmn him
  have hby1 := hby L M _ _ w5 (E.get m1) (E.get m0) (by unfold blocksE; omega) (by omega)
  obtain ⟨q0, f0, t0⟩ := E.rules m0
  go_wp2_with fail
  refine hby1.mono ?_
  rintro e w6 ⟨A6, c6, rfl, own6, hb6⟩
  have hca := contL_len hg L M
  rw [← hca] at own6
  replace E := (E.step hb6).give Stable.bytes (IsB.of_own own6 (by omega))
  rw [hca] at E
  have HCA := Lib.hid hca
  have HAT := Lib.hid fun k (hk : k < M) => contL_at hg (L : Int) hk
  clear hby1 hb6 own6 q0 f0 t0 hca
  have hc6 := (IsB.open_ (E.get m0)).2.2
  have w16 : IntKind.i64.wrap (16 * (M : Int)) = ((16 * M : Nat) : Int) := by rw [IntWalk.i64_in _ (by omega)]; omega
  go_upto_region 15 with fail
  obtain ⟨ad6, rfl, -, -⟩ := (IsB.open_ (E.get m0)).2.1.2 (by rw [HCA.out]; omega)
  have hfar := far_zero hg 1073741824 (by omega)
  go_loopw [17, 18, 19, 77] (fun x17 x18 x19 x77 wr => ∃ k : Nat, x77 = .int .i64 k ∧ k ≤ M ∧ Below w6.heap.size w6 wr ∧ (∃ y, x17 = y) ∧ (∃ y, x18 = y) ∧ ∃ y, x19 = y) (fun _ _ _ x77 _ => M - (intOf x77).toNat)
  case atStart => exact ⟨0, rfl, by omega, Below.refl _ _, ⟨_, rfl⟩, ⟨_, rfl⟩, _, rfl⟩
  case round =>
    obtain ⟨k, rfl, hk, hb, ⟨y1, rfl⟩, ⟨y2, rfl⟩, y3, rfl⟩ := hrel
    have F := E.step hb
    obtain ⟨q0, f0, t0⟩ := F.rules m0
    by_cases hlt : k < M
    case neg =>
      obtain rfl : k = M := by omega
      have hby1 := hby 1073741824 k _ _ wr (F.get m2) (F.get m1) (by unfold blocksE; omega) (by omega)
      clear E hby
      go_wp2_with fail
      refine hby1.mono ?_
      rintro e w7 ⟨A7, c7, rfl, own7, hb7⟩
      have hbl := contL_len hg 1073741824 k
      have hz : contL log 1073741824 k = List.replicate (16 * k) 0 := hfar k
      rw [hz] at own7 hbl
      replace F := F.step hb7
      clear hby1 hb7 q0 f0 t0
      go_upto_region 22 with fail
      obtain ⟨o, ho⟩ : ∃ o, 16 * k = o := ⟨_, rfl⟩
      rw [ho] at own7 hbl ⊢
      have p1 : IntKind.i64.wrap (16 * (k : Int)) = (o : Int) := by rw [IntWalk.i64_in _ (by omega)]; omega
      have ho2 : o ≤ 65536 := by omega
      have hf0 := fun W => fill16_any 0 o W ho2
      rw [show ((0 : UInt8).toNat : Int) = 0 from rfl] at hf0
      have HK : Hid (∀ W, Below w7.heap.size w7 W → (convert 32 9 (.slice A7 o c7)).run Tryz.prog W = .ok (.string ⟨(List.replicate o 0).toArray⟩) W) :=
        Lib.hid fun W h => run_string_of (P := Tryz.prog) (cap := c7) (n := o) (l := List.replicate o 0) W 32 9 5 Tryz.underlying32 Tryz.underlying5 Tryz.underlying9 hbl ((Reads.of_own own7).step h)
      clear ho hz hfar w16 hc6 own7 hM20 HCA HAT
      have hb0 : Below w7.heap.size w7 w7.drew := (Below.refl _ _).drew
      refine wp_region_held_drew (S := fun W => (convert 32 9 (.slice A7 o c7)).run Tryz.prog W = .ok (.string ⟨(List.replicate o 0).toArray⟩) W) (by kernel_rfl) (HK.out _ hb0) (fun hHeld => ?_)
      generalize w7.drew = w8 at hb0 hHeld ⊢
      refine wpAnyH_take (i := 0) (oi := ⟨some 112, _, _, _, _, _⟩) (v := ?_) rfl (by kernel_rfl) (by kernel_rfl) (by kernel_rfl) (fun _ _ _ h => h) (Or.inl ⟨by rfl, ?hy⟩) (by assumption) ?_
      case hy => intro w hSw; (try dsimp only at hSw); go_simp; with_reducible rfl
      try simp only [Act.put, List.setIfInBounds_toArray, List.set_cons_zero, List.set_cons_succ]
      refine wpAnyH_take (i := 1) (oi := ⟨some 113, _, _, _, _, _⟩) (v := ?_) rfl (by kernel_rfl) (by kernel_rfl) (by kernel_rfl) (fun _ _ _ h => h) (Or.inl ⟨by rfl, ?hy⟩) (by assumption) ?_
      case hy => intro w hSw; (try dsimp only at hSw); go_simp; with_reducible rfl
      try simp only [Act.put, List.setIfInBounds_toArray, List.set_cons_zero, List.set_cons_succ]
      refine wpAnyH_take (i := 2) (oi := ⟨some 114, _, _, _, _, _⟩) (v := ?_) rfl (by kernel_rfl) (by kernel_rfl) (by kernel_rfl) (fun _ _ _ h => h) (Or.inl ⟨by rfl, ?hy⟩) (by assumption) ?_
      case hy => intro w hSw; (try dsimp only at hSw); go_simp; with_reducible rfl
      try simp only [Act.put, List.setIfInBounds_toArray, List.set_cons_zero, List.set_cons_succ]
      refine wpAnyH_take (i := 3) (oi := ⟨some 115, _, _, _, _, _⟩) (v := ?_) rfl (by kernel_rfl) (by kernel_rfl) (by kernel_rfl) (fun _ _ _ h => h) (Or.inl ⟨by rfl, ?hy⟩) (by assumption) ?_
      case hy => intro w hSw; (try dsimp only at hSw); go_simp; with_reducible rfl
      try simp only [Act.put, List.setIfInBounds_toArray, List.set_cons_zero, List.set_cons_succ]
      refine wpAnyH_take (i := 4) (oi := ⟨some 116, _, _, _, _, _⟩) (v := ?_) rfl (by kernel_rfl) (by kernel_rfl) (by kernel_rfl) (fun _ _ _ h => h) (Or.inl ⟨by rfl, ?hy⟩) (by assumption) ?_
      case hy => intro w hSw; (try dsimp only at hSw); go_simp; with_reducible rfl
      try simp only [Act.put, List.setIfInBounds_toArray, List.set_cons_zero, List.set_cons_succ]
      refine wpAnyH_take (i := 5) (oi := ⟨some 117, _, _, _, _, _⟩) (v := ?_) rfl (by kernel_rfl) (by kernel_rfl) (by kernel_rfl) (fun _ _ _ h => h) (Or.inl ⟨by rfl, ?hy⟩) (by assumption) ?_
      case hy => intro w hSw; (try dsimp only at hSw); go_simp; with_reducible rfl
      try simp only [Act.put, List.setIfInBounds_toArray, List.set_cons_zero, List.set_cons_succ]
      refine wpAnyH_take (i := 6) (oi := ⟨some 118, _, _, _, _, _⟩) (v := ?_) rfl (by kernel_rfl) (by kernel_rfl) (by kernel_rfl) (fun _ _ _ h => h) (Or.inl ⟨by rfl, ?hy⟩) (by assumption) ?_
      case hy => intro w hSw; (try dsimp only at hSw); go_simp; with_reducible rfl
      try simp only [Act.put, List.setIfInBounds_toArray, List.set_cons_zero, List.set_cons_succ]
      refine wpAnyH_take (i := 7) (oi := ⟨some 119, _, _, _, _, _⟩) (v := ?_) rfl (by kernel_rfl) (by kernel_rfl) (by kernel_rfl) (fun _ _ _ h => h) (Or.inl ⟨by rfl, ?hy⟩) (by assumption) ?_
      case hy => intro w hSw; (try dsimp only at hSw); go_simp; with_reducible rfl
      try simp only [Act.put, List.setIfInBounds_toArray, List.set_cons_zero, List.set_cons_succ]
      refine wpAnyH_take (i := 8) (oi := ⟨some 120, _, _, _, _, _⟩) (v := ?_) rfl (by kernel_rfl) (by kernel_rfl) (by kernel_rfl) (fun _ _ _ h => h) (Or.inl ⟨by rfl, ?hy⟩) (by assumption) ?_
      case hy => intro w hSw; (try dsimp only at hSw); go_simp; with_reducible rfl
      try simp only [Act.put, List.setIfInBounds_toArray, List.set_cons_zero, List.set_cons_succ]
      refine wpAnyH_take (i := 9) (oi := ⟨some 121, _, _, _, _, _⟩) (v := ?_) rfl (by kernel_rfl) (by kernel_rfl) (by kernel_rfl) (fun _ _ _ h => h) (Or.inl ⟨by rfl, ?hy⟩) (by assumption) ?_
      case hy => intro w hSw; (try dsimp only at hSw); go_simp; with_reducible rfl
      try simp only [Act.put, List.setIfInBounds_toArray, List.set_cons_zero, List.set_cons_succ]
      refine wpAnyH_ready (rs := [10]) (by kernel_rfl) (by simp) ?_
      refine AllReadyH.cons (o := ⟨some 122, _, _, _, _, _⟩) rfl (fun K hK => ?_) AllReadyH.nil
      go_simp
      refine (hf0 _).mono ?_
      rintro e w9 ⟨A9, c9, rfl, own9, hb9⟩
      replace hb9 := hb0.trans (hb9.mono hb0.size)
      go_wp2_with fail
      refine hK.out _ _ (HK.out _ hb9) (fun hHeld => ?_)
      clear hK K
      try simp only [Act.put, List.setIfInBounds_toArray, List.set_cons_zero, List.set_cons_succ]
      refine wpAnyH_ready (rs := [11]) (by kernel_rfl) (by simp) ?_
      refine AllReadyH.cons (o := ⟨some 123, _, _, _, _, _⟩) rfl (fun K hK => ?_) AllReadyH.nil
      have hcx := run_string_of (P := Tryz.prog) (cap := c9) (n := o) (l := List.replicate o 0) w9 32 9 5 Tryz.underlying32 Tryz.underlying5 Tryz.underlying9 hbl (Reads.of_own own9)
      go_simp
      refine hK.out _ _ (HK.out _ hb9) (fun hHeld => ?_)
      clear hK K
      try simp only [Act.put, List.setIfInBounds_toArray, List.set_cons_zero, List.set_cons_succ]
      refine wpAnyH_take (i := 12) (oi := ⟨some 124, _, _, _, _, _⟩) (v := ?_) rfl (by kernel_rfl) (by kernel_rfl) (by kernel_rfl) (fun _ _ _ h => h) (Or.inl ⟨by rfl, ?hy⟩) (by assumption) ?_
      case hy => intro w hSw; (try dsimp only at hSw); go_simp; with_reducible rfl
      try simp only [Act.put, List.setIfInBounds_toArray, List.set_cons_zero, List.set_cons_succ]
      refine wpAnyH_take (i := 13) (oi := ⟨some 125, _, _, _, _, _⟩) (v := ?_) rfl (by kernel_rfl) (by kernel_rfl) (by kernel_rfl) (fun _ _ _ h => h) (Or.inl ⟨by rfl, ?hy⟩) (by assumption) ?_
      case hy => intro w hSw; (try dsimp only at hSw); go_simp; with_reducible rfl
      try simp only [Act.put, List.setIfInBounds_toArray, List.set_cons_zero, List.set_cons_succ]
      refine wpAnyH_take (i := 14) (oi := ⟨some 8, _, _, _, _, _⟩) (v := ?_) rfl (by kernel_rfl) (by kernel_rfl) (by kernel_rfl) (fun _ _ _ h => h) (Or.inl ⟨by rfl, ?hy⟩) (by assumption) ?_
      case hy => intro w hSw; (try dsimp only at hSw); go_simp; with_reducible rfl
      try simp only [Act.put, List.setIfInBounds_toArray, List.set_cons_zero, List.set_cons_succ]
      refine wpAnyH_done (by kernel_rfl) ?_ _
      go_wp2
      go_ret
      exact ⟨by simp [go_sem], F.below.trans (hb9.mono F.below.size)⟩
    have k1 : (k : Int) < (M : Int) := by omega
    have k0 : (0 : Int) ≤ (k : Int) := by omega
    have hby1 := hby (L + k) 1 _ _ wr (F.get m2) (F.get m1) (by unfold blocksE; omega) (by omega)
    simp only [Int.natCast_one, Nat.mul_one] at hby1
    go_wp2_with fail
    refine hby1.mono ?_
    rintro e w7 ⟨A7, c7, rfl, own7, hb7⟩
    have hbl := contL_len hg ((L : Int) + k) 1
    have hat := HAT.out k hlt
    obtain ⟨bs, hbs⟩ : ∃ bs, contL log ((L : Int) + k) 1 = bs := ⟨_, rfl⟩
    rw [hbs] at own7 hbl hat
    replace F := F.step hb7
    replace hb := hb.trans (hb7.mono hb.size)
    clear hby1 hb7 q0 f0 t0
    go_upto_region 18 with fail
    obtain ⟨o, ho⟩ : ∃ o, 16 * k = o := ⟨_, rfl⟩
    obtain ⟨P, hP⟩ : ∃ P, o + 16 = P := ⟨_, rfl⟩
    have hPM : P ≤ 16 * M := by omega
    have hPc : P ≤ c6 := by have := hc6.1; rw [HCA.out] at this; omega
    have hcut := fun W (h : Below w7.heap.size w7 W) => (((F.step h).get m0).mid (i := o) (k := 16) (c' := c6 - o) (by rw [HCA.out]; omega) (by omega) (by have := hc6.2.1; omega)).open_.2.1
    rw [ho] at hat
    rw [hat] at hcut
    have HK : Hid (∀ W, Below w7.heap.size w7 W → (convert 32 9 (.slice A7 16 c7)).run Tryz.prog W = .ok (.string ⟨bs.toArray⟩) W ∧ (convert 32 9 (.slice (some (ad6.add o)) 16 (c6 - o))).run Tryz.prog W = .ok (.string ⟨bs.toArray⟩) W) :=
      Lib.hid fun W h => ⟨run_string_of (P := Tryz.prog) (cap := c7) (n := 16) (l := bs) W 32 9 5 Tryz.underlying32 Tryz.underlying5 Tryz.underlying9 (by rw [hbl]) ((Reads.of_own own7).step h),
        run_string_of (P := Tryz.prog) (cap := c6 - o) (n := 16) (l := bs) W 32 9 5 Tryz.underlying32 Tryz.underlying5 Tryz.underlying9 (by rw [hbl]) (by have := hcut W h; rwa [hbl] at this)⟩
    have p1 : IntKind.i64.wrap (16 * (k : Int)) = (o : Int) := by rw [IntWalk.i64_in _ (by omega)]; omega
    have p2 : IntKind.i64.wrap ((o : Int) + 16) = (P : Int) := by rw [IntWalk.i64_in _ (by omega)]; omega
    have p3 : (P : Int) ≤ (c6 : Int) := by omega
    have p4 : o ≤ P := by omega
    have p5 : ¬ c6 = o := by omega
    have p6 : P - o = 16 := by omega
    have p7 : (0 : Int) ≤ (P : Int) := by omega
    have p8 : (0 : Int) ≤ (o : Int) := by omega
    have p9 : (o : Int) ≤ (P : Int) := by omega
    clear ho hP hPM hPc hcut hat hbl own7 hbs hc6 HCA
    have hb0 : Below w7.heap.size w7 w7.drew := (Below.refl _ _).drew
    replace hb := hb.trans (hb0.mono hb.size)
    refine wp_region_held_drew (S := fun W => (convert 32 9 (.slice A7 16 c7)).run Tryz.prog W = .ok (.string ⟨bs.toArray⟩) W ∧ (convert 32 9 (.slice (some (ad6.add o)) 16 (c6 - o))).run Tryz.prog W = .ok (.string ⟨bs.toArray⟩) W) (by kernel_rfl) (HK.out _ hb0) (fun hHeld => ?_)
    generalize w7.drew = w8 at hb0 hb hHeld ⊢
    refine wpAnyH_take (i := 0) (oi := ⟨some 89, _, _, _, _, _⟩) (v := ?_) rfl (by kernel_rfl) (by kernel_rfl) (by kernel_rfl) (fun _ _ _ h => h) (Or.inl ⟨by rfl, ?hy⟩) (by assumption) ?_
    case hy => intro w hSw; (try dsimp only at hSw); go_simp; with_reducible rfl
    try simp only [Act.put, List.setIfInBounds_toArray, List.set_cons_zero, List.set_cons_succ]
    refine wpAnyH_take (i := 1) (oi := ⟨some 90, _, _, _, _, _⟩) (v := ?_) rfl (by kernel_rfl) (by kernel_rfl) (by kernel_rfl) (fun _ _ _ h => h) (Or.inl ⟨by rfl, ?hy⟩) (by assumption) ?_
    case hy => intro w hSw; (try dsimp only at hSw); go_simp; with_reducible rfl
    try simp only [Act.put, List.setIfInBounds_toArray, List.set_cons_zero, List.set_cons_succ]
    refine wpAnyH_take (i := 2) (oi := ⟨some 91, _, _, _, _, _⟩) (v := ?_) rfl (by kernel_rfl) (by kernel_rfl) (by kernel_rfl) (fun _ _ _ h => h) (Or.inl ⟨by rfl, ?hy⟩) (by assumption) ?_
    case hy => intro w hSw; (try dsimp only at hSw); go_simp; with_reducible rfl
    try simp only [Act.put, List.setIfInBounds_toArray, List.set_cons_zero, List.set_cons_succ]
    refine wpAnyH_take (i := 3) (oi := ⟨some 92, _, _, _, _, _⟩) (v := ?_) rfl (by kernel_rfl) (by kernel_rfl) (by kernel_rfl) (fun _ _ _ h => h) (Or.inl ⟨by rfl, ?hy⟩) (by assumption) ?_
    case hy => intro w hSw; (try dsimp only at hSw); go_simp; with_reducible rfl
    try simp only [Act.put, List.setIfInBounds_toArray, List.set_cons_zero, List.set_cons_succ]
    refine wpAnyH_take (i := 4) (oi := ⟨some 93, _, _, _, _, _⟩) (v := ?_) rfl (by kernel_rfl) (by kernel_rfl) (by kernel_rfl) (fun _ _ _ h => h) (Or.inl ⟨by rfl, ?hy⟩) (by assumption) ?_
    case hy => intro w hSw; (try dsimp only at hSw); go_simp; with_reducible rfl
    try simp only [Act.put, List.setIfInBounds_toArray, List.set_cons_zero, List.set_cons_succ]
    refine wpAnyH_take (i := 5) (oi := ⟨some 94, _, _, _, _, _⟩) (v := ?_) rfl (by kernel_rfl) (by kernel_rfl) (by kernel_rfl) (fun _ _ _ h => h) (Or.inl ⟨by rfl, ?hy⟩) (by assumption) ?_
    case hy => intro w hSw; (try dsimp only at hSw); go_simp; with_reducible rfl
    try simp only [Act.put, List.setIfInBounds_toArray, List.set_cons_zero, List.set_cons_succ]
    refine wpAnyH_take (i := 6) (oi := ⟨some 95, _, _, _, _, _⟩) (v := ?_) rfl (by kernel_rfl) (by kernel_rfl) (by kernel_rfl) (fun _ _ _ h => h) (Or.inl ⟨by rfl, ?hy⟩) (by assumption) ?_
    case hy => intro w hSw; (try dsimp only at hSw); go_simp; with_reducible rfl
    try simp only [Act.put, List.setIfInBounds_toArray, List.set_cons_zero, List.set_cons_succ]
    refine wpAnyH_take (i := 7) (oi := ⟨some 96, _, _, _, _, _⟩) (v := ?_) rfl (by kernel_rfl) (by kernel_rfl) (by kernel_rfl) (fun _ _ _ h => h) (Or.inl ⟨by rfl, ?hy⟩) (by assumption) ?_
    case hy => intro w hSw; (try dsimp only at hSw); go_simp; with_reducible rfl
    try simp only [Act.put, List.setIfInBounds_toArray, List.set_cons_zero, List.set_cons_succ]
    refine wpAnyH_take (i := 8) (oi := ⟨some 97, _, _, _, _, _⟩) (v := ?_) rfl (by kernel_rfl) (by kernel_rfl) (by kernel_rfl) (fun _ _ _ h => h) (Or.inl ⟨by rfl, ?hy⟩) (by assumption) ?_
    case hy => intro w hSw; (try dsimp only at hSw); go_simp; with_reducible rfl
    try simp only [Act.put, List.setIfInBounds_toArray, List.set_cons_zero, List.set_cons_succ]
    refine wpAnyH_take (i := 9) (oi := ⟨some 98, _, _, _, _, _⟩) (v := ?_) rfl (by kernel_rfl) (by kernel_rfl) (by kernel_rfl) (fun _ _ _ h => h) (Or.inl ⟨by rfl, ?hy⟩) (by assumption) ?_
    case hy => intro w hSw; (try dsimp only at hSw); go_simp; with_reducible rfl
    try simp only [Act.put, List.setIfInBounds_toArray, List.set_cons_zero, List.set_cons_succ]
    refine wpAnyH_take (i := 10) (oi := ⟨some 99, _, _, _, _, _⟩) (v := ?_) rfl (by kernel_rfl) (by kernel_rfl) (by kernel_rfl) (fun _ _ _ h => h) (Or.inl ⟨by rfl, ?hy⟩) (by assumption) ?_
    case hy => intro w hSw; (try dsimp only at hSw); go_simp; with_reducible rfl
    try simp only [Act.put, List.setIfInBounds_toArray, List.set_cons_zero, List.set_cons_succ]
    refine wpAnyH_take (i := 11) (oi := ⟨some 100, _, _, _, _, _⟩) (v := ?_) rfl (by kernel_rfl) (by kernel_rfl) (by kernel_rfl) (fun _ _ _ h => h) (Or.inl ⟨by rfl, ?hy⟩) (by assumption) ?_
    case hy => intro w hSw; (try dsimp only at hSw); go_simp; with_reducible rfl
    try simp only [Act.put, List.setIfInBounds_toArray, List.set_cons_zero, List.set_cons_succ]
    refine wpAnyH_take (i := 12) (oi := ⟨some 101, _, _, _, _, _⟩) (v := ?_) rfl (by kernel_rfl) (by kernel_rfl) (by kernel_rfl) (fun _ _ _ h => h) (Or.inl ⟨by rfl, ?hy⟩) (by assumption) ?_
    case hy => intro w hSw; (try dsimp only at hSw); go_simp; with_reducible rfl
    try simp only [Act.put, List.setIfInBounds_toArray, List.set_cons_zero, List.set_cons_succ]
    refine wpAnyH_take (i := 13) (oi := ⟨some 102, _, _, _, _, _⟩) (v := ?_) rfl (by kernel_rfl) (by kernel_rfl) (by kernel_rfl) (fun _ _ _ h => h) (Or.inl ⟨by rfl, ?hy⟩) (by assumption) ?_
    case hy => intro w hSw; (try dsimp only at hSw); go_simp; with_reducible rfl
    try simp only [Act.put, List.setIfInBounds_toArray, List.set_cons_zero, List.set_cons_succ]
    refine wpAnyH_take (i := 14) (oi := ⟨some 103, _, _, _, _, _⟩) (v := ?_) rfl (by kernel_rfl) (by kernel_rfl) (by kernel_rfl) (fun _ _ _ h => h) (Or.inl ⟨by rfl, ?hy⟩) (by assumption) ?_
    case hy => intro w hSw; (try dsimp only at hSw); go_simp; with_reducible rfl
    try simp only [Act.put, List.setIfInBounds_toArray, List.set_cons_zero, List.set_cons_succ]
    refine wpAnyH_done (by kernel_rfl) ?_ _
    go_wp2
    go_roundw
    case rel => exact ⟨k + 1, by go_num, by omega, hb, ⟨_, rfl⟩, ⟨_, rfl⟩, _, rfl⟩
    case measure => simp [intOf]; omega
end Go.Proofs.YtlippmghgagdaaaGreat
