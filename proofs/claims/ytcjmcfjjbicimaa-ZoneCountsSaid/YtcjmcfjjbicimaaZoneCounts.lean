/- The law ZoneCounts, walked. -/
import Derived.Test.YtcjmcfjjbicimaaZones
import Derived.Test.YtcjmcfjjbicimaaZoneLive
namespace Go.Proofs.Ytcjmcfjjbicimaa
open Go.RowKit

theorem open_le_active (zs : List Zn) : cntZ openS zs ≤ cntZ activeS zs := by
  unfold cntZ
  refine List.Sublist.length_le ?_
  have : (zs.filter fun z => decide (z.st ∈ openS)) = (zs.filter fun z => decide (z.st ∈ activeS)).filter fun z => decide (z.st ∈ openS) := by
    rw [List.filter_filter]
    congr 1
    funext z
    by_cases h : z.st ∈ openS
    · have : z.st ∈ activeS := by simp [openS, activeS] at h ⊢; omega
      simp [h, this]
    · simp [h]
  rw [this]
  exact List.filter_sublist

set_option maxRecDepth 100000 in
set_option maxHeartbeats 1000000 in
theorem zoneCounts_all (SA : Option Addr) (c : Nat) (zs : List Zn) (K : Nat → Prop) (w : World) (hz : IsZs w K SA zs) (hn : zs.length ≤ 9223372036854775807) :
    Calls Try.prog 6 #[.slice SA zs.length c] w fun e w' => e = .returned (.bool true) ∧ Below w.heap.size w w' := by
  have hle := open_le_active zs
  generalize hO : cntZ openS zs = O at hle
  generalize hA : cntZ activeS zs = A at hle
  have HO := Lib.hid hO; clear hO
  have HA := Lib.hid hA; clear hA
  go_enter Try.func6, Try.ntmps6
  by_cases hbig : 1000 < zs.length
  · go_wp2_with (go_at_call 14; refine (live04_any _).mono ?_; rintro e w1 ⟨rfl, hb1⟩)
    go_ret
    exact ⟨rfl, hb1⟩
  · have HZ := hz
    have sz0 : w.heap.size ≤ w.heap.size := Nat.le_refl _
    go_wp2_with first
      | (go_at_call 14; refine (live04_any _).mono ?_; rintro e w1 ⟨rfl, hb1⟩; have HB := hb1; have HZ1 := HZ.step HB)
      | (go_at_call 25; refine (opened_any SA c zs K _ HZ1 hn).mono ?_; rw [HO.out]; rintro e w2 ⟨rfl, hb2⟩; replace HB := HB.trans (hb2.mono HB.size); replace HZ1 := HZ.step HB; clear hb2)
      | (go_at_call 26; refine (refOpened_any SA c zs K _ HZ1 hn).mono ?_; rw [HO.out]; rintro e w2 ⟨rfl, hb2⟩; replace HB := HB.trans (hb2.mono HB.size); replace HZ1 := HZ.step HB; clear hb2)
      | (go_at_call 27; refine (active_any SA c zs K _ HZ1 hn).mono ?_; rw [HA.out]; rintro e w2 ⟨rfl, hb2⟩; replace HB := HB.trans (hb2.mono HB.size); replace HZ1 := HZ.step HB; clear hb2)
      | (go_at_call 28; refine (refActive_any SA c zs K _ HZ1 hn).mono ?_; rw [HA.out]; rintro e w2 ⟨rfl, hb2⟩; replace HB := HB.trans (hb2.mono HB.size); replace HZ1 := HZ.step HB; clear hb2)
    go_ret
    exact ⟨rfl, HB⟩
end Go.Proofs.Ytcjmcfjjbicimaa
