/- quicksetlaw13.live is true. -/
import Derived.Test.YtbjgemipmlimoaaNetTo
import Derived.Test.YtbjgemipmlimoaaNetSend
import Derived.Test.YtbjgemipmlimoaaNetTake
import Derived.Test.YtbjgemipmlimoaaRep
namespace Go.Proofs.Ytbjgemipmlimoaa
open Go.RowKit

def ml1 : Ms := ⟨1, 0, 2, 0, [], []⟩
def ml2 : Ms := ⟨2, 0, 0, 0, [], []⟩
theorem ml1_ok : (msgL ml1).2 = 0 := by simp [msgL, numsL, headM, ml1, vecL]
theorem live_send : sendQ 1 [ml1, ml2] [] 0 = ([ml1], 1) := by
  simp only [sendQ, ml1_ok]
  simp
theorem live_q (w : World) (g : Nat) (hg : w.heap.size = g) (t : TypeId) : IsL Rp.msg (w.alloc (.cells #[.int .i64 1, .int .i64 0, .int .i64 2, .int .i64 0, .slice none 0 0, .slice none 0 0, .int .i64 2, .int .i64 0, .int .i64 0, .int .i64 0, .slice none 0 0, .slice none 0 0] t)) (fun _ => True) (.slice (some ⟨g, 0, none⟩) 2 2) [ml1, ml2] :=
  ⟨_, 2, _, rfl, (Reads.new hg rfl rfl).more (fun _ _ => trivial), ⟨[.int .i64 1, .int .i64 0, .int .i64 2, .int .i64 0, .slice none 0 0, .slice none 0 0], _, rfl, ⟨_, _, rfl, IsL.nil_ _ _, IsB.nil_ _ _, by decide, by decide, by decide, by decide⟩,
    [.int .i64 2, .int .i64 0, .int .i64 0, .int .i64 0, .slice none 0 0, .slice none 0 0], [], rfl, ⟨_, _, rfl, IsL.nil_ _ _, IsB.nil_ _ _, by decide, by decide, by decide, by decide⟩, rfl⟩, by simp, by omega, by simp⟩

set_option maxRecDepth 100000 in
set_option maxHeartbeats 4000000 in
theorem live13_any (w : World) :
    Calls Try.prog 21 #[] w fun e w' => e = .returned (.bool true) ∧ Below w.heap.size w w' := by
  have hn1 : newN 1 = (1, 0) := rfl
  have HN := Lib.hid hn1; clear hn1
  have E := Kn.start w
  go_enter Try.func21, Try.ntmps21
  go_wp2_with fail
  refine (netNew_any 1 _).mono ?_
  rw [HN.out]
  rintro e w1 ⟨rfl, hb1⟩
  replace E := (E.step hb1).push 38 #[.int .i64 1, .slice none 0 0]
  have hsend := send_any (.agg #[.int .i64 1, .slice none 0 0]) (.slice (some ⟨w1.heap.size + 1, 0, none⟩) 2 2) ⟨1, []⟩ [ml1, ml2] (fun _ => True) (fun _ => True) _ ⟨none, 0, rfl, IsL.nil_ _ _⟩ (live_q (w1.alloc (.cells #[.int .i64 1, .slice none 0 0] 38)) (w1.heap.size + 1) (by simp) 45) (by intro m hm; simp [ml1, ml2] at hm; rcases hm with rfl | rfl <;> simp) (by intro m hm; simp at hm) (by simp) (by simp)
  rw [live_send] at hsend
  have HS := Lib.hid hsend; clear hsend
  replace E := E.alloc (.cells #[.int .i64 1, .int .i64 0, .int .i64 2, .int .i64 0, .slice none 0 0, .slice none 0 0, .int .i64 2, .int .i64 0, .int .i64 0, .int .i64 0, .slice none 0 0, .slice none 0 0] 45)
  go_wp2_with fail
  refine HS.out.mono ?_
  rintro e w2 ⟨A2, c2, rfl, own2, hb2⟩
  replace E := E.step hb2
  obtain ⟨q1, f1, t1⟩ := E.rules m0
  have hs2 := hb2.size
  simp at hs2
  have hq2 := own2.isL (X' := fun b => b ≠ w1.heap.size) (by simp) (fun b hb => by simp at hb; omega) (fun b hb => by simp at hb; omega)
  clear own2 hb2
  go_wp2_with fail
  have hs1 := E.below.size
  have h1 := (E.at_ m0).lt
  have hsb := hb1.size
  have E2 := ((Kn.from_ (below_set2 (x := .int .i64 1) (y := .slice A2 1 c2) E.below (show w.heap.size ≤ w1.heap.size by omega)) (by rw [size_set2]; exact hs1)).know (E.at_ m0).set2).give Stable.list (hq2.far2 (fun h => h rfl) _ _)
  clear q1 f1 t1 hq2
  refine (takeN_ok _ ⟨1, [ml1]⟩ 0 ml1 _ _ ⟨A2, c2, rfl, E2.get m0⟩ rfl (by intro m hm; simp at hm; subst hm; simp [ml1]) (by simp)).mono ?_
  rintro e w3 ⟨A3, c3, vm, rfl, own3, him, hb3⟩
  obtain ⟨A5, c5, A6, c6, rfl, hrp⟩ := isM_rp him
  unfold mv
  replace E := E2.step hb3
  clear own3 him hrp hb3 hb1
  obtain ⟨q1, f1, t1⟩ := E.rules m0
  replace E := (E.push 38 #[.int .i64 1, .slice A3 0 c3]).push 45 #[.int .i64 1, .int .i64 0, .int .i64 2, .int .i64 0, .slice A5 0 c5, .slice A6 0 c6]
  rw [World.size_alloc] at E
  go_wp2_with fail
  have hto : toL 2 0 (⟨1, [ml1]⟩ : Nt).q = [0] := by simp [toL, ml1]
  have h63 : I63 [0] := by intro n hn; simp at hn; subst hn; omega
  refine (to_any _ ⟨1, [ml1]⟩ 2 _ _ ⟨A2, c2, rfl, E.get m0⟩ (by simp)).mono ?_
  rw [hto]
  rintro e w4 ⟨A7, c7, rfl, own7, hb4⟩
  replace E := E.step hb4
  have E3 := (E.give Stable.list (IsL.of_ints (l := [0]) own7 h63 (by simp))).alloc (.cells #[.int .i64 0] 3)
  have h0 : IsL Rp.int (w4.alloc (.cells #[.int .i64 0] 3)) (fun b => b = w4.heap.size) (.slice (some ⟨w4.heap.size, 0, none⟩) 1 1) [0] :=
    ⟨_, 1, [(0 : Int)].map I64, rfl, Reads.new rfl rfl rfl, cells_ints h63, by simp, by omega, by simp⟩
  replace E3 := E3.give Stable.list h0
  clear own7 hb4 q1 f1 h0 h63 hto
  go_wp2_with fail
  refine (sameInts_any _ _ [0] _ _ _ (E3.get m1) (E3.get m0)).mono ?_
  rintro e w5 ⟨rfl, hb5⟩
  replace E := E3.step hb5
  go_wp2
  go_ret
  exact ⟨rfl, E.below⟩
end Go.Proofs.Ytbjgemipmlimoaa
