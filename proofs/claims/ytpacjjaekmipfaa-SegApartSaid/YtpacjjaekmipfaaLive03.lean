/- The walk of the chapter's example of seg. -/
import Derived.Test.YtpacjjaekmipfaaScan
import Derived.Test.YtpacjjaekmipfaaSegLaws
namespace Go.Proofs.Ytpacjjaekmipfaa
open Go.RowKit

def liveH3 : Hd := ⟨1, 2, 3⟩
def liveR3 : Rc := ⟨2, 4, 5, 6, 0, 0, []⟩
theorem liveH3_ok : OkHd liveH3 := by unfold OkHd liveH3; simp
theorem liveR3_ok : OkRc liveR3 := by
  intro n hn
  simp only [recN, liveR3, List.mem_cons, List.not_mem_nil, or_false] at hn
  rcases hn with rfl | rfl | rfl | rfl | rfl | rfl <;> omega
theorem live3_head : headL liveH3 = (frB [0, 1, 2, 3], 0) := by
  have e : numsL (headN liveH3) = ([0, 1, 2, 3], 0) := by
    unfold numsL
    rw [if_pos (by simp [headN, liveH3])]
    simp [headN, liveH3, flatN, putL_lt]
  unfold headL
  rw [e, if_neg (by simp)]
  exact frameL_ok (by simp)
theorem live3_check : checkL liveR3 = 0 := by simp [checkL, liveR3]
theorem live3_rec : recL liveR3 = (frB (bodyR liveR3), 0) := recL_ok liveR3_ok live3_check
theorem live3_err : errL [liveR3] = 0 := by simp [errL, live3_rec]
theorem frB_small3 {x : List UInt8} (h : x.length < 128) : (frB x).length = x.length + 5 := by
  rw [frB_len, putL_lt h]; simp; omega
theorem live3_body : (bodyR liveR3).length = 7 := by simp [bodyR, recN, liveR3, flatN, putL_lt]
theorem live3_seg : segP liveH3 [liveR3] = (frB [0, 1, 2, 3] ++ frB (bodyR liveR3), 0) := by
  unfold segP
  rw [live3_head, if_neg (by simp), if_neg (by simp [live3_err])]
  simp [frsL, live3_rec]
theorem live3_scan : scanL (frB [0, 1, 2, 3] ++ frB (bodyR liveR3)) = ⟨true, liveH3, [liveR3], [9], 21⟩ := by
  have h := scan_back (l := [liveR3]) (rest := []) liveH3_ok (by rw [live3_head]) live3_err (by intro r hr; rw [List.mem_singleton] at hr; rw [hr]; exact liveR3_ok) (takeF_short (by simp))
  have h1 : (frB [0, 1, 2, 3]).length = 9 := frB_small3 (by simp)
  have h2 : (frB (bodyR liveR3)).length = 12 := by rw [frB_small3 (by rw [live3_body]; omega), live3_body]
  rw [live3_head] at h
  simp only [frsL, live3_rec, List.append_nil, atsL, h1, h2] at h
  exact h
theorem live3_cut : scanL ((frB [0, 1, 2, 3]).take 8) = f0d := by
  refine (OnWay.start _).stop ?_
  have h := takeF_cut (x := [0, 1, 2, 3]) (by simp) (c := 8) (by rw [frB_small3 (by simp)]; simp)
  unfold stepS
  rw [show ((frB [0, 1, 2, 3]).take 8).drop f0d.used = (frB [0, 1, 2, 3]).take 8 from rfl, if_pos h]

set_option maxRecDepth 100000 in
set_option maxHeartbeats 4000000 in
theorem live03_any (w : World) :
    Calls Try.prog 19 #[] w fun e w' => e = .returned (.bool true) ∧ Below w.heap.size w w' := by
  have h1 : (frB [0, 1, 2, 3]).length = 9 := frB_small3 (by simp)
  have h2 : (frB (bodyR liveR3)).length = 12 := by rw [frB_small3 (by rw [live3_body]; omega), live3_body]
  have hseg := live3_seg
  have hhd := live3_head
  have hsc := live3_scan
  have hct := live3_cut
  generalize frB [0, 1, 2, 3] = B1 at h1 hseg hhd hsc hct
  generalize frB (bodyR liveR3) = B2 at h2 hseg hsc
  obtain ⟨B3, hB3⟩ : ∃ B3, B1 ++ B2 = B3 := ⟨_, rfl⟩
  have h3 : B3.length = 21 := by rw [← hB3, List.length_append, h1, h2]
  rw [hB3] at hseg hsc
  have hE : ∀ W : World, IsL Rp.rc (W.alloc (.cells #[.int .i64 2, .int .i64 4, .int .i64 5, .int .i64 6, .int .i64 0, .int .i64 0, .slice none 0 0] 34)) (fun k => k = W.heap.size) (.slice (some ⟨W.heap.size, 0, none⟩) 1 1) [liveR3] := fun W =>
    ⟨_, 1, _, rfl, Reads.new (n := 1) (size := 7) rfl rfl rfl, CellsL.single ⟨_, rfl, IsB.nil_ _ _, by decide, by decide, by decide, by decide, by decide, by decide⟩, by simp, by omega, by simp⟩
  have hc1 := fun W : World => seg_any liveH3 (.slice (some ⟨W.heap.size, 0, none⟩) 1 1) [liveR3] _ (W.alloc (.cells #[.int .i64 2, .int .i64 4, .int .i64 5, .int .i64 6, .int .i64 0, .int .i64 0, .slice none 0 0] 34)) liveH3_ok (hE W) (by simp)
  rw [hseg] at hc1
  have hc2 := fun W => head_any liveH3 W liveH3_ok
  rw [hhd] at hc2
  unfold hdV liveH3 at hc1 hc2
  simp only [h1, h3] at hc1 hc2
  have HC1 := Lib.hid hc1; have HC2 := Lib.hid hc2
  clear hc1 hc2 hseg hhd hB3 hE
  have E := Kn.start w
  go_enter Try.func19, Try.ntmps19
  go_wp2_with fail
  refine (HC1.out _).mono ?_
  rintro e w1 ⟨A1, c1, rfl, own1, hb1⟩
  have E := E.step (((Below.refl _ _).alloc (Nat.le_refl _) _).trans (hb1.mono (by simp)))
  have E := E.give (f := fun W => W.ownsRow _ 5 1 (.slice A1 21 c1) 21 (cells8 B3)) (fun _ _ h hb => own_below h hb (Nat.le_refl _)) own1
  go_wp2_with fail
  refine (HC2.out _).mono ?_
  rintro e w2 ⟨A2, c2, rfl, own2, hb2⟩
  have E := (E.step hb2).give (f := fun W => W.ownsRow _ 5 1 (.slice A2 9 c2) 9 (cells8 B1)) (fun _ _ h hb => own_below h hb (Nat.le_refl _)) own2
  have hs1 := fun W h => scan_any (.slice A1 21 c1) B3 (fun _ => True) W h (by omega)
  rw [hsc] at hs1
  unfold fdC liveH3 at hs1
  simp only [List.length_singleton] at hs1
  have HS1 := Lib.hid hs1
  have hc9 := own_cap own2
  have hv1 : IsB w2 (fun _ => True) (.slice A1 21 c1) B3 := by
    have o := E.get m1
    exact ⟨A1, c1, by rw [h3], by rw [h3]; exact (Reads.of_own o).more (fun _ _ => trivial), by rw [h3]; exact own_cap o, own_cap63 o, by omega⟩
  clear hs1 own1 own2
  go_wp2_with fail
  refine (HS1.out _ hv1).mono ?_
  rintro e w3 ⟨A4, c4, A5, c5, rfl, _, _, hb3⟩
  have E := (E.step hb3).push 51 #[.bool true, .int .i64 1, .int .i64 2, .int .i64 3, .slice A4 1 c4, .slice A5 1 c5, .int .i64 21]
  have hs2 := fun W h => scan_any (.slice A2 8 c2) (B1.take 8) (fun _ => True) W h (by rw [List.length_take]; omega)
  rw [hct] at hs2
  unfold fdC f0d at hs2
  simp only [List.length_nil, Int.natCast_zero] at hs2
  have HS2 := Lib.hid hs2
  have hv2 : IsB (w3.alloc (.cells #[.bool true, .int .i64 1, .int .i64 2, .int .i64 3, .slice A4 1 c4, .slice A5 1 c5, .int .i64 21] 51)) (fun _ => True) (.slice A2 8 c2) (B1.take 8) := by
    have o := E.get m0
    have hB : IsB (w3.alloc (.cells #[.bool true, .int .i64 1, .int .i64 2, .int .i64 3, .slice A4 1 c4, .slice A5 1 c5, .int .i64 21] 51)) (fun _ => True) (.slice A2 9 c2) B1 := ⟨A2, c2, by rw [h1], by rw [h1]; exact (Reads.of_own o).more (fun _ _ => trivial), by rw [h1]; exact hc9, own_cap63 o, by omega⟩
    exact hB.pre (by omega)
  clear hs2
  go_wp2_with fail
  refine (HS2.out _ hv2).mono ?_
  rintro e w4 ⟨A6, c6, A7, c7, rfl, _, _, hb4⟩
  have E := (E.step hb4).push 51 #[.bool false, .int .i64 0, .int .i64 0, .int .i64 0, .slice A6 0 c6, .slice A7 0 c7, .int .i64 0]
  obtain ⟨q1, f1, t1⟩ := E.rules m1
  obtain ⟨q2, f2, t2⟩ := E.rules m0
  have hbf := E.below
  clear E
  go_wp2
  go_ret
  exact ⟨rfl, hbf⟩
end Go.Proofs.Ytpacjjaekmipfaa
