/- The walks of zone's inner functions: with, fail, room, grown. -/
import Derived.Test.YtcjmcfjjbicimaaZoneCheck
import Derived.Test.YtcjmcfjjbicimaaBytes
import Derived.Deep.RegionHeld3
import Derived.Deep.RegionWith
import Derived.Deep.DeepCutAuto
import Derived.Deep.CutBlock

namespace Go.Proofs.Ytcjmcfjjbicimaa
open Go.RowKit

set_option maxRecDepth 100000 in
set_option maxHeartbeats 400000 in
theorem with_any (v sv : Value) (z : Zn) (st : Int) (l : List UInt8) (K K' : Nat → Prop) (w : World) (hz : IsZ w K v z) (hs : IsB w K' sv l) :
    Calls Try.prog 53 #[v, .int .i64 st, sv] w fun e w' => ∃ v', e = .returned v' ∧ OwnZ w' w.heap.size v' ⟨st, z.fe, l⟩ ∧ Below w.heap.size w w' := by
  obtain ⟨A, c, rfl, hsb⟩ := hz
  have hs2 := hs
  obtain ⟨A2, c2, rfl, _⟩ := hs
  unfold zv
  go_enter Try.func53, Try.ntmps53
  go_wp2_with fail
  go_region_with (go_at_call 47; refine (cloneB_any _ l K' _ (by first | exact (hs2.alloc _).alloc _ | exact ((hs2.alloc _).alloc _).drew)).mono ?_; rintro e w1 ⟨A3, c3, rfl, hown1, hb1⟩; obtain ⟨hc1, hf1⟩ := bcell hb1)
  all_goals
    go_wp2
    refine bodyPost_ret (v := zv ⟨st, z.fe, l⟩ A3 c3) ?_ rfl ⟨_, rfl, ⟨A3, c3, rfl, ?_⟩, ?_⟩
    · simp [results, Try.results53, go_sem, zv, hc1]
    · simp at hown1
      exact own_set3 hown1 (by omega) (by omega)
    · exact below_set3 (((((Below.refl _ _).alloc (Nat.le_refl _) _).alloc (by simp) _).drew).trans (hb1.mono (by simp; omega))) (by omega)

set_option maxRecDepth 100000 in
set_option maxHeartbeats 2000000 in
theorem grown_any (v sv : Value) (z : Zn) (most : Int) (l : List UInt8) (K K' : Nat → Prop) (w : World) (hz : IsZ w K v z) (hs : IsB w K' sv l) (hsum : z.d.length + l.length ≤ 140737488355328) :
    Calls Try.prog 46 #[v, .int .i64 most, sv] w fun e w' => ∃ v', e = .returned v' ∧ OwnZ w' w.heap.size v' (grownZ z most l) ∧ Below w.heap.size w w' := by
  have hz0 := hz
  obtain ⟨A, c, rfl, hsb⟩ := hz
  obtain ⟨_, hr1, hlc1, hc1', hl1⟩ := hsb.open_
  obtain ⟨A2, c2, rfl, hr2, hlc2, hc2, hl2⟩ := hs
  have h1 := hr1.more (K' := fun b => K b ∨ K' b) (fun _ h => .inl h)
  have h2 := hr2.more (K' := fun b => K b ∨ K' b) (fun _ h => .inr h)
  generalize hKK : (fun b => K b ∨ K' b) = KK at h1 h2
  clear hKK hr1 hr2
  unfold zv
  obtain ⟨st', hst⟩ : ∃ s, s = (grownZ z most l).st := ⟨_, rfl⟩
  have hcase : (((z.d.length : Int) + l.length == most) = true ∧ st' = 4) ∨ (((z.d.length : Int) + l.length == most) = false ∧
      (((l.length : Int) == 0) = true ∧ st' = z.st ∨ ((l.length : Int) == 0) = false ∧ ((z.st != 2) = false ∧ st' = z.st ∨ (z.st != 2) = true ∧ st' = 1))) := by
    rw [hst]; unfold grownZ
    simp only [beq_iff_eq, beq_eq_false_iff_ne, bne_iff_ne, bne_eq_false_iff_eq]
    by_cases c1 : (z.d.length : Int) + l.length = most
    · rw [if_pos c1]; exact .inl ⟨c1, rfl⟩
    · rw [if_neg c1]
      refine .inr ⟨c1, ?_⟩
      by_cases c2 : l.length = 0
      · rw [if_pos c2]; exact .inl ⟨by omega, rfl⟩
      · rw [if_neg c2]
        refine .inr ⟨by omega, ?_⟩
        by_cases c3 : z.st = 2
        · rw [if_pos c3]; exact .inl ⟨c3, c3.symm⟩
        · rw [if_neg c3]; exact .inr ⟨c3, rfl⟩
  have HST := Lib.hid hst; clear hst
  have fin : grownZ z most l = ⟨st', z.fe, z.d ++ l⟩ := by rw [HST.out]; rfl
  have HF := Lib.hid fin; clear fin
  go_enter Try.func46, Try.ntmps46
  go_upto_block 0 with fail
  go_cut [7] (fun s7 wx => s7 = .int .i64 st' ∧ wx = (w.alloc (.cells #[.int .i64 z.st, .int .i64 z.fe, .slice A z.d.length c] 26)).alloc (.cells #[.int .i64 0, .int .i64 0, .slice none 0 0] 26))
  case first =>
    rcases hcase with ⟨hb1, hst⟩ | ⟨hb1, ⟨hb2, hst⟩ | ⟨hb2, ⟨hb3, hst⟩ | ⟨hb3, hst⟩⟩⟩
    all_goals
      obtain rfl := hst
      go_wp2
      go_meet
      exact ⟨rfl, rfl⟩
  case rest =>
    obtain ⟨rfl, rfl⟩ := hcut
    clear hcase
    go_wp2_with fail
    go_region_with (first
      | (go_at_call 70; refine (concatB_two _ c c2 A A2 z.d l KK _ ?_ ?_ ?_ hsum).mono ?_; (first | exact (Reads.new (by simp) rfl rfl).more (fun _ _ => trivial) | exact ((Reads.new (by simp) rfl rfl).drew).more (fun _ _ => trivial)); (first | exact ((h1.alloc _).alloc _).alloc _ | exact (((h1.alloc _).alloc _).alloc _).drew); (first | exact ((h2.alloc _).alloc _).alloc _ | exact (((h2.alloc _).alloc _).alloc _).drew); rintro e w1 ⟨A3, c3, rfl, hown1, hb1⟩; obtain ⟨hc1, hf1⟩ := bcell hb1)
      | (go_at_call 53; refine (with_any _ _ z _ (z.d ++ l) K (fun b => w.heap.size ≤ b) _ ?_ ?_).mono ?_; (first | exact (((hz0.alloc _).alloc _).alloc _).drew.step hb1); (exact ⟨A3, c3, by simp, (Reads.of_own_ge hown1).more (by intro b hb; simp at hb; omega), own_cap hown1, own_cap63 hown1, by simpa using hsum⟩); rintro e w2 ⟨v2, rfl, ⟨A4, c4, rfl, hown2⟩, hb2⟩; obtain ⟨hc2', hf2⟩ := bcell hb2; have hz2 := hb1.size; simp at hz2; have hz20 : w.heap.size < w1.heap.size := (by omega); have hz21 : w.heap.size + 1 < w1.heap.size := (by omega); unfold zv))
    all_goals
      go_wp2
      simp at hown2
      refine bodyPost_ret (v := zv ⟨st', z.fe, z.d ++ l⟩ A4 c4) (by simp [results, Try.results46, go_sem, zv, hc2', hc1, hz21]) rfl ⟨_, rfl, ?_, ?_⟩
      · rw [HF.out]
        exact ⟨A4, c4, rfl, by simpa using own_set3 hown2 (by omega) (by omega)⟩
      · exact below_set3 (((((Below.refl _ _).alloc (Nat.le_refl _) _).alloc (by simp) _).alloc (by simp; omega) _).drew.trans ((hb1.mono (by simp; omega)).trans (hb2.mono (by omega)))) (by omega)
end Go.Proofs.Ytcjmcfjjbicimaa
