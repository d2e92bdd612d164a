/- The walk of the chapter's example of packer. -/
import Derived.Test.YtlippmghgagdaaaGreatPack
import Derived.Test.YtlippmghgagdaaaGreatPackAdd
import Derived.Deep.DeepCutAuto
import Derived.Deep.RegionWith
import Derived.Deep.OwnRows
namespace Go.Proofs.YtlippmghgagdaaaGreat
open Go.RowKit

theorem made_zero (n : Nat) : (madeCells #[.int .u8 0] n).toList = cells8 (List.replicate n 0) := by
  have e : cells8 (List.replicate n 0) = List.replicate n (.int .u8 0) := by simp only [cells8, List.map_replicate]; rfl
  rw [e]
  apply List.ext_getElem
  · simp [madeCells]
  · intro i h1 h2
    simp [madeCells, Nat.mod_one]
def liveH : Hd := ⟨1, 2, 0⟩
def liveR : Rc := ⟨1, 0, 1, 0, 0, 0, List.replicate 16 0⟩
theorem liveH_ok : OkHd liveH := by unfold OkHd liveH; simp
theorem liveR_ok : OkRc liveR := by
  intro n hn
  simp only [recN, liveR, List.mem_cons, List.not_mem_nil, or_false] at hn
  rcases hn with rfl | rfl | rfl | rfl | rfl | rfl <;> omega
theorem live_head : headL liveH = (frB [0, 1, 2, 0], 0) := by
  have e : numsL (headN liveH) = ([0, 1, 2, 0], 0) := by
    unfold numsL
    rw [if_pos (by simp [headN, liveH])]
    simp [headN, liveH, flatN, putL_lt]
  unfold headL
  rw [e, if_neg (by simp)]
  exact frameL_ok (by simp)
theorem live_check : checkL liveR = 0 := by simp [checkL, liveR]
theorem live_rec : recL liveR = (frB (bodyR liveR), 0) := recL_ok liveR_ok live_check
theorem live_body : (bodyR liveR).length = 23 := by
  simp [bodyR, recN, liveR, flatN, putL_lt]
theorem frB_small {x : List UInt8} (h : x.length < 128) : (frB x).length = x.length + 5 := by
  rw [frB_len, putL_lt h]; simp; omega
theorem live_begin : beginL liveH 3 200 = (⟨liveH, 3, 200, 0, frB [0, 1, 2, 0], []⟩, 0) := by
  unfold beginL
  rw [live_head]
  simp [frB_small]
theorem live_add : addL ⟨liveH, 3, 200, 0, frB [0, 1, 2, 0], []⟩ [liveR] = (⟨liveH, 3, 200, 0, frB [0, 1, 2, 0] ++ frB (bodyR liveR), [liveR]⟩, [17], 0) := by
  have h1 : errL [liveR] = 0 := by simp [errL, live_rec]
  have h2 : frsL [liveR] = frB (bodyR liveR) := by simp [frsL, live_rec]
  have h3 : (frB (bodyR liveR)).length = 28 := by rw [frB_small (by rw [live_body]; omega), live_body]
  have h4 : (frB [0, 1, 2, 0]).length = 9 := frB_small (by simp)
  rw [add_fits _ h1 (by rw [h2]; simp [roomL, h3, h4]; decide)]
  simp only [h2, plsL, live_rec, h3, h4]
  simp [liveR]

set_option maxRecDepth 100000 in
set_option maxHeartbeats 4000000 in
theorem live15_any (w : World) :
    Calls Tryz.prog 12 #[] w fun e w' => e = .returned (.bool true) ∧ Below w.heap.size w w' := by
  have hbg := pbegin_any liveH 3 200 w liveH_ok
  rw [live_begin] at hbg
  have h4 : (frB [0, 1, 2, 0]).length = 9 := frB_small (by simp)
  have hr3 : (frB (bodyR liveR)).length = 28 := by rw [frB_small (by rw [live_body]; omega), live_body]
  have hla := live_add
  generalize frB [0, 1, 2, 0] = B1 at hbg h4 hla
  generalize frB (bodyR liveR) = B2 at hr3 hla
  simp only [h4] at hbg
  have HLA := Lib.hid hla
  clear hla
  have HB := Lib.hid hbg
  obtain ⟨i0, hi, hz0, hz1, hz2⟩ := info_parts Tryz.info5
  clear hbg
  go_enter Tryz.func12, Tryz.ntmps12
  go_wp2_with fail
  refine HB.out.mono ?_
  rintro e w1 ⟨A1, c1, rfl, own1, hb1⟩
  unfold pkV liveH
  go_upto_region 2 with fail
  have E := (Kn.from_ hb1 hb1.size).push 35 #[.int .i64 1, .int .i64 2, .int .i64 0, .int .i64 3, .int .i64 200, .int .i64 0, .slice A1 9 c1, .slice none 0 0]
  obtain ⟨w2, hw2⟩ : ∃ w2, w1.alloc (.cells #[.int .i64 1, .int .i64 2, .int .i64 0, .int .i64 3, .int .i64 200, .int .i64 0, .slice A1 9 c1, .slice none 0 0] 35) = w2 := ⟨_, rfl⟩
  rw [hw2] at E ⊢
  go_cut [3, 4] (fun s3 s4 wx => ∃ A3 c3 vb vl, s3 = .slice A3 1 c3 ∧ s4 = .int .i64 0 ∧ Blk wx w1.heap.size 35 #[.int .i64 1, .int .i64 2, .int .i64 0, .int .i64 3, .int .i64 200, .int .i64 0, vb, vl] ∧ IsPk wx (fun b => b ≠ w1.heap.size) (.agg #[.int .i64 1, .int .i64 2, .int .i64 0, .int .i64 3, .int .i64 200, .int .i64 0, vb, vl]) ⟨liveH, 3, 200, 0, B1 ++ B2, [liveR]⟩ ∧ wx.ownsRow (w1.heap.size + 1) 3 1 (.slice A3 1 c3) 1 [.int .i64 17] ∧ Below w.heap.size w wx)
  case first =>
    have HK : Hid (∀ W, Below w2.heap.size w2 W → (∀ o, W.cell? ⟨w1.heap.size, o, none⟩ = (#[.int .i64 1, .int .i64 2, .int .i64 0, .int .i64 3, .int .i64 200, .int .i64 0, .slice A1 9 c1, .slice none 0 0] : Array Value)[o]?)) := Lib.hid fun W h => ((E.step h).rules m0).1
    have hmk : ∀ W : World, (Instr.makeSlice 32 (.int .i64 16) (.int .i64 16)).run Tryz.prog W = .ok (.slice (some ⟨W.heap.size, 0, none⟩) 16 16) (W.alloc (.cells (madeCells #[.int .u8 0] 16) 5)) := fun W => run_make_row' 32 5 (.int .u8 0) 1 Tryz.underlying32 Tryz.info5 rfl .i64 .i64 16 (by omega) (by omega) W
    have hb3 : Below w2.heap.size w2 (((w2.alloc (.cells (madeCells #[.int .u8 0] 16) 5)).alloc (.cells #[.int .i64 1, .int .i64 0, .int .i64 1, .int .i64 0, .int .i64 0, .int .i64 0, .slice (some ⟨w2.heap.size, 0, none⟩) 16 16] 57)).drew) := (((Below.refl _ _).alloc (Nat.le_refl _) _).alloc (by simp) _).drew
    have hb2 : Below w2.heap.size w2 (w2.alloc (.cells (madeCells #[.int .u8 0] 16) 5)).drew := ((Below.refl _ _).alloc (Nat.le_refl _) _).drew
    have hadd := add_any (.agg #[.int .i64 1, .int .i64 2, .int .i64 0, .int .i64 3, .int .i64 200, .int .i64 0, .slice A1 9 c1, .slice none 0 0]) (.slice (some ⟨w2.heap.size + 1, 0, none⟩) 1 1) ⟨liveH, 3, 200, 0, B1, []⟩ [liveR] (fun b => b < w1.heap.size) (fun _ => True) (((w2.alloc (.cells (madeCells #[.int .u8 0] 16) 5)).alloc (.cells #[.int .i64 1, .int .i64 0, .int .i64 1, .int .i64 0, .int .i64 0, .int .i64 0, .slice (some ⟨w2.heap.size, 0, none⟩) 16 16] 57)).drew) ?_ (fun b hb => by have := E.below.size; have := hb3.size; have := (E.at_ m0).lt; omega) ?_ ?_ (by simp)
    · rw [HLA.out] at hadd
      have HA := Lib.hid hadd
      clear hadd
      have qd := HK.out _ (Below.refl _ _).drew
      have qe := HK.out _ hb2
      have qf := HK.out _ hb3
      go_region_with
        (first
          | (go_at_call 17
             refine HA.out.mono ?_
             rintro e w5 ⟨pv, A5, c5, rfl, ⟨vb, vl, rfl, hB5, hL5⟩, own5, hb5⟩
             obtain ⟨A6, c6, rfl, _⟩ := isB_form hB5
             obtain ⟨A7, c7, rfl, _⟩ := hL5.form
             unfold pkV liveH
             have hb6 := hb3.trans (hb5.mono hb3.size)
             have hBx := (E.at_ m0).step hb6
             obtain ⟨q5, f5⟩ := hBx.rules
             have t5 := hBx.lt))
      all_goals go_wp2_with fail
      all_goals go_meet
      all_goals have h8 := st8_all hBx (.int .i64 1) (.int .i64 2) (.int .i64 0) (.int .i64 3) (.int .i64 200) (.int .i64 0) (.slice A6 37 c6) (.slice A7 1 c7)
      all_goals unfold st8 at h8
      all_goals have hb7 := below_turned (E.below.trans (hb6.mono E.below.size)) h8.2 hb1.size (by have := hb6.size; have := E.below.size; omega)
      all_goals have hlt := (E.at_ m0).lt
      all_goals have hs3 := hb3.size
      all_goals have hB6 := (hB5.turned h8.2 (fun b hb => by omega)).more (K' := fun b => b ≠ w1.heap.size) (fun b hb => by omega)
      all_goals have hL6 := (hL5.turned h8.2 (fun b hb => by omega)).more (K' := fun b => b ≠ w1.heap.size) (fun b hb => by omega)
      all_goals have hBl : (B1 ++ B2).length = 37 := by rw [List.length_append, h4, hr3]
      all_goals rw [hBl] at hB6
      all_goals have own6 := own_base (own_turned own5 h8.2 (by omega)) (show w1.heap.size + 1 ≤ _ by omega)
      all_goals exact ⟨A5, c5, _, _, rfl, rfl, h8.1, ⟨_, _, rfl, hB6, hL6⟩, own6, hb7⟩
    · rw [← h4] at own1
      have hb12 : Below w1.heap.size w1 w2 := by rw [← hw2]; exact (Below.refl _ _).alloc (Nat.le_refl _) _
      have h9 := ((((IsB.of_own own1 (by omega)).lt.step hb12).step hb3)).more (K' := fun b => b < w1.heap.size) (fun b hb => hb.2)
      rw [h4] at h9
      exact ⟨_, _, rfl, h9, IsL.nil_ _ _⟩
    · simp [OkPk, liveH_ok, h4]
    · have hz : (madeCells #[.int .u8 0] 16).toList = cells8 (List.replicate 16 0) := made_zero 16
      have hZ : IsB ((w2.alloc (.cells (madeCells #[.int .u8 0] 16) 5)).alloc (.cells #[.int .i64 1, .int .i64 0, .int .i64 1, .int .i64 0, .int .i64 0, .int .i64 0, .slice (some ⟨w2.heap.size, 0, none⟩) 16 16] 57)).drew (fun _ => True) (.slice (some ⟨w2.heap.size, 0, none⟩) 16 16) (List.replicate 16 0) :=
        (((show IsB (w2.alloc (.cells (madeCells #[.int .u8 0] 16) 5)) (fun b => b = w2.heap.size) (.slice (some ⟨w2.heap.size, 0, none⟩) 16 16) (List.replicate 16 0) from ⟨_, 16, by rw [List.length_replicate], by rw [List.length_replicate]; exact Reads.new rfl hz (size_madeCells _ _), by simp, by omega, by simp⟩).alloc _).step (Below.refl _ _).drew).more fun _ _ => trivial
      exact ⟨_, 1, _, rfl, ((Reads.new (n := 1) (size := 7) (by simp) rfl rfl).step (Below.refl _ _).drew).more (fun _ _ => trivial), CellsL.single ⟨_, rfl, hZ, by decide, by decide, by decide, by decide, by decide, by decide⟩, by simp, by omega, by simp⟩
  case rest =>
    obtain ⟨A3, c3, vb, vl, rfl, rfl, hBx, hpk, own3, hbc⟩ := hcut
    have hbl : (B1 ++ B2).length = 37 := by rw [List.length_append, h4, hr3]
    have hne : B1 ++ B2 ≠ [] := by intro e; rw [e] at hbl; simp at hbl
    have hfl := flush_some _ ⟨liveH, 3, 200, 0, B1 ++ B2, [liveR]⟩ _ wc hpk (by simp only [OkPk, hbl]; exact ⟨liveH_ok, by simp, by simp, by simp, by simp, by simp⟩) hne
    have hfp : flushP ⟨liveH, 3, 200, 0, B1 ++ B2, [liveR]⟩ = ⟨liveH, 3, 200, 37, [], []⟩ := by unfold flushP; rw [if_neg hne]; simp [hbl]
    simp only [hfp, hbl] at hfl
    have HF := Lib.hid hfl
    obtain ⟨q0, f0⟩ := hBx.rules
    have t0 := hBx.lt
    clear hfl hfp hpk hne hbl h4 hr3 HLA HB E own1 hb1 hw2
    go_wp2_with fail
    refine HF.out.mono ?_
    rintro e w6 ⟨A6, c6, rfl, own6, hb6⟩
    unfold cmdV pkV liveH
    have E := (((Kn.from_ hbc hbc.size).give Stable.ownI own3).step hb6).push 43 #[.int .i64 1, .int .i64 3, .int .i64 2, .int .i64 0, .int .i64 0, .slice A6 37 c6] |>.push 35 #[.int .i64 1, .int .i64 2, .int .i64 0, .int .i64 3, .int .i64 200, .int .i64 37, .slice none 0 0, .slice none 0 0]
    go_upto_region 4 with fail
    have own9 := E.get m0
    obtain ⟨ad, rfl, hc⟩ := reads_at (Reads.of_own own9) (by omega)
    have hc0 := hc 0 _ rfl
    rw [addr0] at hc0
    obtain ⟨q1, f1, t1⟩ := E.rules m1
    obtain ⟨q2, f2, t2⟩ := E.rules m0
    have hbe := E.below
    simp only [World.size_alloc] at q1 q2 t1 t2
    clear E own9 hc own6 own3 hBx HF
    generalize hw9 : (w6.alloc (.cells #[.int .i64 1, .int .i64 3, .int .i64 2, .int .i64 0, .int .i64 0, .slice A6 37 c6] 43)).alloc (.cells #[.int .i64 1, .int .i64 2, .int .i64 0, .int .i64 3, .int .i64 200, .int .i64 37, .slice none 0 0, .slice none 0 0] 35) = w9 at *
    go_quiet (fail)
    go_wp2
    go_ret
    exact ⟨rfl, below_drewN hbe _⟩
end Go.Proofs.YtlippmghgagdaaaGreat
