/- The walk of ref02's Put. -/
import Derived.Test.YtbjgemipmlimoaaPut
import Derived.Laws.OwnMore
namespace Go.Proofs.Ytbjgemipmlimoaa
open Go.RowKit

set_option maxRecDepth 100000 in
set_option maxHeartbeats 4000000 in
theorem rput_any (n : Nat) : ∀ (w : World), n ≤ 18446744073709551615 → (putL n).length ≤ 10 →
    Calls Try.prog 59 #[.int .u64 n] w fun e w' => ∃ A c, e = .returned (.slice A (putL n).length c) ∧ w'.ownsRow w.heap.size 5 1 (.slice A (putL n).length c) (putL n).length (cells8 (putL n)) ∧ Below w.heap.size w w' := by
  induction n using Nat.strongRecOn with
  | ind n ih =>
    intro w h64 hn
    obtain ⟨i0, hi, hz0, hz1, hz2⟩ := info_parts Try.info5
    by_cases hk : n < 128
    · have hp := putL_lt hk
      rw [hp]
      have HP := Lib.hid hp; clear hp ih hn
      go_enter Try.func59, Try.ntmps59
      go_wp2
      go_ret
      have e1 : cells8 [UInt8.ofNat n] = (#[.int .u8 n] : Array Value).toList := by
        have h : (UInt8.ofNat n).toNat = n := by rw [UInt8.toNat_ofNat']; omega
        simp only [cells8, B8, List.map_cons, List.map_nil, h]
      rw [e1]
      exact ⟨_, _, rfl, World.ownsRow_lit w #[.int .u8 n] 1 (Nat.le_refl _) (by decide) rfl, (Below.refl _ _).alloc (Nat.le_refl _) _⟩
    · have hp := putL_ge hk
      rw [hp] at hn ⊢
      have hl : (putL (n / 128)).length ≤ 9 := by simpa using hn
      have hih := ih (n / 128) (by omega)
      have HP := Lib.hid hp; clear hp ih hn
      have HI := Lib.hid hih; clear hih
      generalize putL (n / 128) = l at HI hl HP ⊢
      have i1 : IntKind.u64.wrap ((n : Int) / 128) = ((n / 128 : Nat) : Int) := by
        rw [show (n : Int) / 128 = ((n / 128 : Nat) : Int) by omega]; exact IntWalk.u64_in _ (by omega)
      go_enter Try.func59, Try.ntmps59
      go_wp2_with fail
      refine (HI.out _ (by omega) (by omega)).mono ?_
      rintro e w1 ⟨A, c, rfl, own, hb⟩
      have e1 : cells8 (UInt8.ofNat (n % 128 + 128) :: l) = (#[.int .u8 ((n : Int) % 128 + 128)] : Array Value).toList ++ cells8 l := by
        have h : (UInt8.ofNat (n % 128 + 128)).toNat = n % 128 + 128 := by rw [UInt8.toNat_ofNat']; omega
        simp only [cells8, B8, List.map_cons, List.cons_append, List.nil_append, h]
        rw [show ((n % 128 + 128 : Nat) : Int) = (n : Int) % 128 + 128 by omega]
      have own0 := own_below (World.ownsRow_lit (e := 5) (size := 1) w #[.int .u8 ((n : Int) % 128 + 128)] 1 (Nat.le_refl _) (by decide) rfl) hb (Nat.le_refl _)
      have hr := Reads.of_own own
      have h1 : ∀ u ∈ cells8 l, u.oneCell' = true := by
        intro u hu; simp [cells8] at hu; obtain ⟨b, _, rfl⟩ := hu; rfl
      have hW : Below w.heap.size w w1 := ((Below.refl _ _).alloc (Nat.le_refl _) _).trans (hb.mono (by simp))
      have hsz := hW.size
      go_wp2_with (at_builtin; refine wpList_appN rfl _ _ _ rfl w.heap.size 5 i0 _ 1 1 Try.underlying24 hi hz0 hz1 hz2 rfl (by omega) rfl own0 rfl hr h1 (by simp only [maxLen]; omega) (by omega) hsz ?_; intro A' c' w2 own2 hg2)
      go_ret
      rw [Nat.add_comm 1 l.length] at own2 hg2 ⊢
      rw [e1]
      exact ⟨_, _, rfl, own2, hW.trans hg2.below⟩
end Go.Proofs.Ytbjgemipmlimoaa
