/- The walk of quicksetlaw16.ReplayParts. -/
import Derived.Test.YtlippmghgagdaaaGreatRun16
import Derived.Test.YtlippmghgagdaaaGreatRunSays
import Derived.Test.YtlippmghgagdaaaGreatLive16
import Derived.Test.YtlippmghgagdaaaGreatExtWalk
import Derived.Test.YtlippmghgagdaaaGreatRgn
namespace Go.Proofs.YtlippmghgagdaaaGreat
open Go.RowKit

theorem intsR_snoc (a n : Nat) : (List.range (n + 1)).map (fun i => ((a + i : Nat) : Int)) = (List.range n).map (fun i => ((a + i : Nat) : Int)) ++ [((a + n : Nat) : Int)] := by
  rw [List.range_succ, List.map_append]; rfl
def intsR (a n : Nat) : List Int := (List.range n).map fun i => ((a + i : Nat) : Int)
theorem intsR_succ (a n : Nat) : intsR a (n + 1) = intsR a n ++ [((a + n : Nat) : Int)] := intsR_snoc a n
theorem intsR_len (a n : Nat) : (intsR a n).length = n := by simp [intsR]
theorem intsR_mem (a n : Nat) (x : Int) : x ∈ intsR a n ↔ (a : Int) ≤ x ∧ x < a + n := by
  unfold intsR
  rw [List.mem_map]
  constructor
  · rintro ⟨i, hi, rfl⟩
    have := List.mem_range.1 hi
    omega
  · rintro ⟨h1, h2⟩
    exact ⟨(x - a).toNat, List.mem_range.2 (by omega), by omega⟩
theorem intsR_cells (a n : Nat) {w : World} {K : Nat → Prop} (h : a + n ≤ 1000000) : CellsL Rp.int w K ((intsR a n).map I64) (intsR a n) :=
  cells_ints fun x hx => by have := (intsR_mem a n x).1 hx; omega
theorem selR_mem {zl : List Int} (hne : zl ≠ []) (n k : Nat) : k ∈ selR zl n ↔ k < n ∧ (k : Int) ∈ zl := by
  unfold selR
  rw [List.mem_filter, List.mem_range]
  unfold selZ
  simp [hne]
theorem own_ints {w : World} {base a n c : Nat} {A : Option Addr} (h : w.ownsRow base 3 1 (.slice A n c) n ((intsR a n).map I64)) (hn : a + n ≤ 1000000) : IsL Rp.int w (fun b => base ≤ b ∧ b < w.heap.size) (.slice A n c) (intsR a n) :=
  ⟨A, c, _, by rw [intsR_len], by rw [intsR_len]; exact (Reads.of_own h).more fun b hb => h.lt b hb.symm, intsR_cells a n hn, by rw [intsR_len]; exact own_cap h, own_cap63 h, by rw [intsR_len]; omega⟩

def newerO : Option (Int × Int × Int) → Option (Int × Int × Int) → Option (Int × Int × Int)
  | none, p => p
  | some t, none => some t
  | some t, some u => if t.1 < u.1 then some u else some t
theorem parts_newer {n : Nat} {B : Int} {log : List (Nat × Rc)} (h : GoodLog n B log) (hB : B ≤ 1000000) {ks js : List Nat} {b : Int} {o p q : Option (Int × Int × Int)}
    (h1 : Best ((entsA log ks).map extX) b o) (h2 : Best ((entsA log js).map extX) b p) (hall : ∀ k, k ∈ List.range n ↔ k ∈ ks ∨ k ∈ js) (h3 : Best ((entsA log (List.range n)).map extX) b q) : q = newerO o p := by
  have := parts_one h hB h1 h2 hall h3
  cases o <;> cases p <;> exact this
def atO (b : Int) : Option (Int × Int × Int) → Ex × Bool
  | none => (⟨0, 0, 0, 0, 0⟩, false)
  | some t => (⟨b, 1, t.1, t.2.1, t.2.2⟩, true)
theorem atE_o (l : List Ex) (b : Int) : atE l b = atO b (see l b) := by
  unfold atE atO
  cases see l b <;> rfl

set_option linter.unusedSimpArgs false in
set_option maxRecDepth 100000 in
set_option maxHeartbeats 8000000 in
theorem replayParts_all (l : List Wr) (v : Value) (zones k0 : Int) (K : Nat → Prop) (w : World) (hv : IsL Rp.wr w K v l) :
    Calls Tryz.prog 4 #[v, .int .i64 zones, .int .i64 k0] w fun e w' => e = .returned (.bool true) ∧ Below w.heap.size w w' := by
  obtain ⟨Al, cl, rfl, -⟩ := hv.form
  have E := (Kn.start w).give Stable.list hv
  obtain ⟨n, hn⟩ : ∃ n, l.length = n := ⟨_, rfl⟩
  obtain ⟨Z, hZ⟩ : ∃ Z : Nat, 2 + zones.tmod 3 % 3 = (Z : Int) := ⟨(2 + zones.tmod 3 % 3).toNat, by omega⟩
  have hZ4 : 2 ≤ Z ∧ Z ≤ 4 := by omega
  have hrun := fun K W h h1 => run16_any l Al cl Z K W h h1 (by omega)
  have HLG := Lib.hid fun h => (logAt_good (n := Z) (Z := Z) ⟨rfl, by omega⟩ l n h).1
  have b1 := Int.tmod_lt_of_pos zones (show (0 : Int) < 3 by omega)
  have b2 := Int.lt_tmod_of_pos zones (show (0 : Int) < 3 by omega)
  rw [hn] at E hrun ⊢
  generalize logAt Z l n = log at hrun HLG
  have h47 : n ≤ 140737488355328 := by have := (E.get m0).len; omega
  clear hv hn
  go_enter Tryz.func4, Tryz.ntmps4
  go_wp2_with fail
  refine (live16_any _).mono ?_
  rintro e w2 ⟨rfl, hb2⟩
  replace E := E.step hb2
  clear hb2
  by_cases hle : n ≤ 40
  case neg =>
    have g1 : ¬ (n : Int) ≤ 40 := by omega
    go_wp2
    go_ret
    exact ⟨rfl, E.below⟩
  have g1 : (n : Int) ≤ 40 := by omega
  go_upto_region 5 with fail
  have hg := HLG.out (by omega)
  clear hZ b1 b2 HLG
  go_wp2_with fail
  refine (hrun _ _ (E.get m0) hle).mono ?_
  rintro e w3 ⟨A, c, mb, wm, rfl, hz3, hM3, -⟩
  replace E := ((E.step hM3.below).give Stable.list hz3)
  clear hrun hM3 hz3
  go_upto_region 8 with fail
  replace E := E.push 28 #[.int .i64 4000, .int .i64 Z, .int .i64 Z, .slice A Z c]
  generalize w3.alloc (.cells #[.int .i64 4000, .int .i64 Z, .int .i64 Z, .slice A Z c] 28) = w4 at E ⊢
  generalize w3.heap.size = gd at E ⊢
  obtain ⟨Y, rfl⟩ : ∃ Y, Z = Y + 1 := ⟨Z - 1, by omega⟩
  have b1 := Int.tmod_lt_of_pos k0 (show (0 : Int) < (Y : Int) by omega)
  have b2 := Int.lt_tmod_of_pos k0 (show (0 : Int) < (Y : Int) by omega)
  have y1 : (((Y + 1 : Nat) : Int) - 1) = (Y : Int) := by omega
  have y2 : IntKind.i64.wrap (((Y + 1 : Nat) : Int) - 1) = (Y : Int) := by rw [IntWalk.i64_in _ (by omega)]; omega
  have b3 := Int.emod_nonneg (k0.tmod Y + ((Y : Int) + 1) - 1) (show (Y : Int) ≠ 0 by omega)
  have b4 := Int.emod_lt_of_pos (k0.tmod Y + ((Y : Int) + 1) - 1) (show (0 : Int) < (Y : Int) by omega)
  obtain ⟨kk, hkk⟩ : ∃ kk : Nat, 1 + (k0.tmod Y + ((Y : Int) + 1) - 1) % (Y : Int) = (kk : Int) := ⟨(1 + (k0.tmod Y + ((Y : Int) + 1) - 1) % (Y : Int)).toNat, by omega⟩
  have hkY : 1 ≤ kk ∧ kk ≤ Y := by omega
  have HKK := Lib.hid hkk
  clear hkk
  go_upto_region 9 with fail
  rw [HKK.out]
  clear b1 b2 b3 b4 y1 y2 HKK
  obtain ⟨Z, hZY⟩ : ∃ Z, Y + 1 = Z := ⟨_, rfl⟩
  rw [hZY] at E hg hZ4 ⊢
  have hkZ : kk < Z := by omega
  clear hZY
  obtain ⟨i0, hi, hz0, hz1, hz2⟩ := info_parts Tryz.infInt
  go_upto_region 12 with fail
  go_loopw [11, 12, 13, 58] (fun x11 x12 x13 x58 wr => ∃ j : Nat, x58 = .int .i64 j ∧ j ≤ Z ∧ Below w4.heap.size w4 wr ∧ (∃ y, x13 = y) ∧
      ((∃ A1 c1, j ≤ kk ∧ x11 = .slice A1 j c1 ∧ wr.ownsRow w4.heap.size 3 1 (.slice A1 j c1) j ((intsR 0 j).map I64) ∧ x12 = .slice none 0 0) ∨
       (∃ A1 c1 A2 c2 m B, j = kk + m ∧ w4.heap.size ≤ B ∧ B ≤ wr.heap.size ∧ x11 = .slice A1 kk c1 ∧ IsL Rp.int wr (fun b => b < B) (.slice A1 kk c1) (intsR 0 kk) ∧ x12 = .slice A2 m c2 ∧ wr.ownsRow B 3 1 (.slice A2 m c2) m ((intsR kk m).map I64))))
    (fun _ _ _ x58 _ => Z - (intOf x58).toNat)
  case atStart => exact ⟨0, rfl, by omega, Below.refl _ _, ⟨_, rfl⟩, .inl ⟨none, 0, by omega, rfl, World.ownsRow_nil _ _ _ _, rfl⟩⟩
  case round =>
    obtain ⟨j, rfl, hj, hb, ⟨y13, rfl⟩, hor⟩ := hrel
    have F := E.step hb
    obtain ⟨q0, f0, t0⟩ := F.rules m0
    have hsz := hb.size
    by_cases hjk : j < kk
    · obtain ⟨A1, c1, -, rfl, own1, rfl⟩ : ∃ A1 c1, j ≤ kk ∧ _ := hor.resolve_right (by rintro ⟨_, _, _, _, m, _, h, _⟩; omega)
      have hlt : (j : Int) < (Z : Int) := by omega
      have hjk' : (j : Int) < (kk : Int) := by omega
      go_wp2_with (at_builtin; refine wpList_app1 rfl _ _ 44 rfl w4.heap.size 3 i0 _ 8 Tryz.underlying44 hi hz0 hz1 hz2 rfl rfl own1 rfl rfl (by simp only [maxLen]; omega) (by omega) hsz ?_; intro A' c' w6 own6 hg6)
      go_roundw
      case rel => exact ⟨j + 1, by go_num, by omega, hb.trans hg6.below, ⟨_, rfl⟩, .inl ⟨A', c', by omega, rfl, by rw [intsR_succ, List.map_append, Nat.zero_add]; exact own6, rfl⟩⟩
      case measure => simp [intOf]; omega
    · have hor2 : ∃ A1 c1 A2 c2 m B, j = kk + m ∧ w4.heap.size ≤ B ∧ B ≤ wr.heap.size ∧ u11 = Value.slice A1 kk c1 ∧ IsL Rp.int wr (fun b => b < B) (.slice A1 kk c1) (intsR 0 kk) ∧ u12 = Value.slice A2 m c2 ∧ wr.ownsRow B 3 1 (.slice A2 m c2) m ((intsR kk m).map I64) := by
        rcases hor with ⟨A1, c1, h1, rfl, own1, rfl⟩ | h
        · obtain rfl : j = kk := by omega
          exact ⟨A1, c1, none, 0, 0, wr.heap.size, rfl, hsz, Nat.le_refl _, rfl, (own_ints own1 (by omega)).more fun b hb => hb.2, rfl, World.ownsRow_nil _ _ _ _⟩
        · exact h
      clear hor
      obtain ⟨A1, c1, A2, c2, m, B, rfl, hB1, hB2, rfl, hL1, rfl, own2⟩ := hor2
      by_cases hlt0 : kk + m < Z
      case neg =>
        have hge : ¬ ((kk : Int) + (m : Int) < (Z : Int)) := by omega
        have hmZ : kk + m = Z := by omega
        go_upto_region 18 with fail
        have hL2 := own_ints own2 (by omega)
        replace F := (F.give Stable.list hL1).give Stable.list hL2
        have hmp := fun zl Az nz cz hnz K Kz W h1 h2 h3 => rmap_run hg (by omega) A c zl Az nz cz hnz K Kz W h1 h2 h3
        clear hL1 hL2 own2 hb E hi hz0 hz1 hz2
        go_wp2_with fail
        refine (hmp (intsR 0 kk) _ _ _ (intsR_len _ _) _ _ _ (F.get m2) (F.get m1) (fun z hz => by have := (intsR_mem _ _ _).1 hz; omega)).mono ?_
        rintro e w5 ⟨ma, na, Aa, ca, rfl, hna, -, ha, -, hLa, hb5⟩
        replace F := (F.step hb5).give Stable.list hLa
        clear hLa hb5 q0 f0 t0
        obtain ⟨q0, f0, t0⟩ := F.rules m0
        go_wp2_with fail
        refine (hmp (intsR kk m) _ _ _ (intsR_len _ _) _ _ _ (F.get m3) (F.get m1) (fun z hz => by have := (intsR_mem _ _ _).1 hz; omega)).mono ?_
        rintro e w6 ⟨mb_, nb, Ab, cb, rfl, hnb, -, hb_, -, hLb, hb6⟩
        replace F := (F.step hb6).give Stable.list hLb
        clear hLb hb6 q0 f0 t0
        obtain ⟨q0, f0, t0⟩ := F.rules m0
        go_wp2_with fail
        refine (hmp [] _ _ _ rfl _ (fun _ => True) _ (F.get m4) (IsL.nil_ _ _) (by simp)).mono ?_
        rintro e w7 ⟨mc, nc, Ac, cc, rfl, hnc, -, hc, -, hLc, hb7⟩
        replace F := (F.step hb7).give Stable.list hLc
        clear hLc hb7 hmp q0 f0 t0
        rw [selR_nil] at hc
        have hall : ∀ x, x ∈ List.range Z ↔ x ∈ selR (intsR 0 kk) Z ∨ x ∈ selR (intsR kk m) Z := by
          have hn1 : intsR 0 kk ≠ [] := fun e => by have := intsR_len 0 kk; rw [e] at this; simp at this; omega
          have hn2 : intsR kk m ≠ [] := fun e => by have := intsR_len kk m; rw [e] at this; simp at this; omega
          intro x
          rw [selR_mem hn1, selR_mem hn2, List.mem_range, intsR_mem, intsR_mem]
          omega
        have HP := Lib.hid fun b => parts_newer hg (by omega) (ha.out.2 b) (hb_.out.2 b) hall (hc.out.2 b)
        have hea := fun b K W h hb => eAt_any Aa ca ma b K W h ha.out.1 hb
        have heb := fun b K W h hb => eAt_any Ab cb mb_ b K W h hb_.out.1 hb
        have hec := fun b K W h hb => eAt_any Ac cc mc b K W h hc.out.1 hb
        rw [hna.out] at hea
        rw [hnb.out] at heb
        rw [hnc.out] at hec
        clear hb_ hall ha hc hna hnb hnc hge hmZ hjk hj hsz hB1 hB2 hlt0
        go_upto_region 24 with fail
        go_loopw [20, 21, 22, 23, 24, 25, 26, 100] (fun x20 x21 x22 x23 x24 x25 x26 x100 wr => ∃ b : Nat, x100 = .int .i64 b ∧ b ≤ 60 ∧ Below w7.heap.size w7 wr ∧ (∃ y, x20 = y) ∧ (∃ y, x21 = y) ∧ (∃ y, x22 = y) ∧ (∃ y, x23 = y) ∧ (∃ y, x24 = y) ∧ (∃ y, x25 = y) ∧ ∃ y, x26 = y) (fun _ _ _ _ _ _ _ x100 _ => 60 - (intOf x100).toNat)
        case atStart => exact ⟨0, rfl, by omega, Below.refl _ _, ⟨_, rfl⟩, ⟨_, rfl⟩, ⟨_, rfl⟩, ⟨_, rfl⟩, ⟨_, rfl⟩, ⟨_, rfl⟩, _, rfl⟩
        case round =>
          obtain ⟨b, rfl, hbl, hb, ⟨y20, rfl⟩, ⟨y21, rfl⟩, ⟨y22, rfl⟩, ⟨y23, rfl⟩, ⟨y24, rfl⟩, ⟨y25, rfl⟩, y26, rfl⟩ := hrel
          have G := F.step hb
          by_cases hlt : b < 60
          case neg =>
            obtain rfl : b = 60 := by omega
            clear F
            go_wp2
            go_ret
            exact ⟨rfl, G.below⟩
          have b1 : (b : Int) < 60 := by omega
          have b0 : (0 : Int) ≤ (b : Int) := by omega
          have hbk : blocksE (b : Int) 1 := by unfold blocksE; omega
          have hp := HP.out (b : Int)
          replace hea := hea b
          replace heb := heb b
          replace hec := hec b
          simp only [atE_o] at hea heb hec
          generalize see ma b = o at hp hea
          generalize see mb_ b = p at hp heb
          generalize see mc b = q at hp hec
          subst hp
          go_wp2_with fail
          refine (hea _ _ (G.get m2) hbk).mono ?_
          rintro e w8 ⟨rfl, hb8⟩
          replace G := G.step hb8
          replace hb := hb.trans (hb8.mono hb.size)
          have hb8' := hb.size
          clear hea hb8
          replace G := G.push 67 (exC (atO b o).1)
          replace hb := hb.alloc hb.size (.cells (exC (atO b o).1) 67)
          go_upto_region 27 with fail
          generalize w8.alloc (.cells (exC (atO b o).1) 67) = w9 at G hb ⊢
          obtain ⟨gx, hgx⟩ : ∃ gx, w8.heap.size = gx := ⟨_, rfl⟩
          have hgx7 : w7.heap.size ≤ gx := by rw [← hgx]; exact hb8'
          rw [hgx] at G ⊢
          clear hgx
          go_wp2_with fail
          refine (heb _ _ (G.get m1) hbk).mono ?_
          rintro e w10 ⟨rfl, hb10⟩
          replace G := (G.step hb10).push 67 (exC (atO b p).1)
          replace hb := hb.trans (hb10.mono hb.size)
          replace hb := hb.alloc hb.size (.cells (exC (atO b p).1) 67)
          clear heb hb10
          go_upto_region 28 with fail
          generalize w10.alloc (.cells (exC (atO b p).1) 67) = w11 at G hb ⊢
          generalize w10.heap.size = gy at G ⊢
          obtain ⟨q0, f0, t0⟩ := G.rules m0
          obtain ⟨q1, f1, t1⟩ := G.rules m1
          cases p with
          | none =>
            have e : newerO o none = o := by cases o <;> rfl
            rw [e] at hec
            simp only [atO] at q0
            go_upto_region 31 with fail
            have hb12 := hb
            have hB12 := G.at_ m1
            clear q0 f0 t0 q1 f1 t1 G hb
            have G := (F.step hb12).know hB12
            go_wp2_with fail
            refine (hec _ _ (G.get m0) hbk).mono ?_
            rintro e w13 ⟨rfl, hb13⟩
            replace G := (G.step hb13).push 67 (exC (atO b (o)).1)
            replace hb12 := hb12.trans (hb13.mono hb12.size)
            replace hb12 := hb12.alloc hb12.size (.cells (exC (atO b (o)).1) 67)
            clear hec hb13 F
            go_upto_region 32 with fail
            generalize w13.alloc (.cells (exC (atO b (o)).1) 67) = w14 at G hb12 ⊢
            generalize w13.heap.size = gz at G ⊢
            obtain ⟨q0, f0, t0⟩ := G.rules m0
            obtain ⟨q1, f1, t1⟩ := G.rules m1
            have hne := neq_ex (atO b (o)).1 (atO b (o)).1 w14
            rw [decide_eq_true rfl] at hne
            go_wp2_with fail
            go_roundw
            case rel => exact ⟨b + 1, by go_num, by omega, hb12, ⟨_, rfl⟩, ⟨_, rfl⟩, ⟨_, rfl⟩, ⟨_, rfl⟩, ⟨_, rfl⟩, ⟨_, rfl⟩, _, rfl⟩
            case measure => simp [intOf]; omega
          | some u =>
            cases o with
            | none =>
              simp only [newerO] at hec
              go_upto_region 31 with fail
              refine at_st5 (K := fun W => Code.wp _ _ _ _ W) (G.at_ m1) _ _ _ _ _ ?_
              intro w12 ht hB12
              have hb12 := Turned.upon hb ht hgx7 (Nat.le_refl _)
              clear q0 f0 t0 q1 f1 t1 G hb
              have G := (F.step hb12).know (show Blk w12 gx 67 (exC (atO b (some u)).1) from hB12)
              go_wp2_with fail
              refine (hec _ _ (G.get m0) hbk).mono ?_
              rintro e w13 ⟨rfl, hb13⟩
              replace G := (G.step hb13).push 67 (exC (atO b (some u)).1)
              replace hb12 := hb12.trans (hb13.mono hb12.size)
              replace hb12 := hb12.alloc hb12.size (.cells (exC (atO b (some u)).1) 67)
              clear hec hb13 F
              go_upto_region 32 with fail
              generalize w13.alloc (.cells (exC (atO b (some u)).1) 67) = w14 at G hb12 ⊢
              generalize w13.heap.size = gz at G ⊢
              obtain ⟨q0, f0, t0⟩ := G.rules m0
              obtain ⟨q1, f1, t1⟩ := G.rules m1
              have hne := neq_ex (atO b (some u)).1 (atO b (some u)).1 w14
              rw [decide_eq_true rfl] at hne
              go_wp2_with fail
              go_roundw
              case rel => exact ⟨b + 1, by go_num, by omega, hb12, ⟨_, rfl⟩, ⟨_, rfl⟩, ⟨_, rfl⟩, ⟨_, rfl⟩, ⟨_, rfl⟩, ⟨_, rfl⟩, _, rfl⟩
              case measure => simp [intOf]; omega
            | some t =>
              simp only [atO] at q0 q1
              by_cases hlt2 : t.1 < u.1
              · have e : newerO (some t) (some u) = some u := if_pos hlt2
                rw [e] at hec
                have hgt : (u.1 > t.1) = True := eq_true hlt2
                go_upto_region 31 with fail
                refine at_st5 (K := fun W => Code.wp _ _ _ _ W) (G.at_ m1) _ _ _ _ _ ?_
                intro w12 ht hB12
                have hb12 := Turned.upon hb ht hgx7 (Nat.le_refl _)
                clear q0 f0 t0 q1 f1 t1 G hb
                have G := (F.step hb12).know (show Blk w12 gx 67 (exC (atO b (some u)).1) from hB12)
                go_wp2_with fail
                refine (hec _ _ (G.get m0) hbk).mono ?_
                rintro e w13 ⟨rfl, hb13⟩
                replace G := (G.step hb13).push 67 (exC (atO b (some u)).1)
                replace hb12 := hb12.trans (hb13.mono hb12.size)
                replace hb12 := hb12.alloc hb12.size (.cells (exC (atO b (some u)).1) 67)
                clear hec hb13 F
                go_upto_region 32 with fail
                generalize w13.alloc (.cells (exC (atO b (some u)).1) 67) = w14 at G hb12 ⊢
                generalize w13.heap.size = gz at G ⊢
                obtain ⟨q0, f0, t0⟩ := G.rules m0
                obtain ⟨q1, f1, t1⟩ := G.rules m1
                have hne := neq_ex (atO b (some u)).1 (atO b (some u)).1 w14
                rw [decide_eq_true rfl] at hne
                go_wp2_with fail
                go_roundw
                case rel => exact ⟨b + 1, by go_num, by omega, hb12, ⟨_, rfl⟩, ⟨_, rfl⟩, ⟨_, rfl⟩, ⟨_, rfl⟩, ⟨_, rfl⟩, ⟨_, rfl⟩, _, rfl⟩
                case measure => simp [intOf]; omega
              · have e : newerO (some t) (some u) = some t := if_neg hlt2
                rw [e] at hec
                go_upto_region 31 with fail
                have hb12 := hb
                have hB12 := G.at_ m1
                clear q0 f0 t0 q1 f1 t1 G hb
                have G := (F.step hb12).know hB12
                go_wp2_with fail
                refine (hec _ _ (G.get m0) hbk).mono ?_
                rintro e w13 ⟨rfl, hb13⟩
                replace G := (G.step hb13).push 67 (exC (atO b (some t)).1)
                replace hb12 := hb12.trans (hb13.mono hb12.size)
                replace hb12 := hb12.alloc hb12.size (.cells (exC (atO b (some t)).1) 67)
                clear hec hb13 F
                go_upto_region 32 with fail
                generalize w13.alloc (.cells (exC (atO b (some t)).1) 67) = w14 at G hb12 ⊢
                generalize w13.heap.size = gz at G ⊢
                obtain ⟨q0, f0, t0⟩ := G.rules m0
                obtain ⟨q1, f1, t1⟩ := G.rules m1
                have hne := neq_ex (atO b (some t)).1 (atO b (some t)).1 w14
                rw [decide_eq_true rfl] at hne
                go_wp2_with fail
                go_roundw
                case rel => exact ⟨b + 1, by go_num, by omega, hb12, ⟨_, rfl⟩, ⟨_, rfl⟩, ⟨_, rfl⟩, ⟨_, rfl⟩, ⟨_, rfl⟩, ⟨_, rfl⟩, _, rfl⟩
                case measure => simp [intOf]; omega
      have hlt : (kk : Int) + (m : Int) < (Z : Int) := by omega
      have hge : ¬ ((kk : Int) + (m : Int) < (kk : Int)) := by omega
      go_wp2_with (at_builtin; refine wpList_app1 rfl _ _ 44 rfl B 3 i0 _ 8 Tryz.underlying44 hi hz0 hz1 hz2 rfl rfl own2 rfl rfl (by simp only [maxLen]; omega) (by omega) hB2 ?_; intro A' c' w6 own6 hg6)
      go_roundw
      case rel => exact ⟨kk + (m + 1), by go_num, by omega, hb.trans (hg6.below.mono hB1), ⟨_, rfl⟩, .inr ⟨A1, c1, A', c', m + 1, B, rfl, hB1, Nat.le_trans hB2 hg6.below.size, rfl, hL1.keep (fun p hp _ => hg6.below.cell hp), rfl, by rw [intsR_succ, List.map_append]; exact own6⟩⟩
      case measure => simp [intOf]; omega
end Go.Proofs.YtlippmghgagdaaaGreat
