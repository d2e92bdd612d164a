/- The walk of wire.Put. -/
import Derived.Test.YtpacjjaekmipfaaRows
import Derived.Test.YtpacjjaekmipfaaLib
import Derived.Test.YtpacjjaekmipfaaWirePlain
namespace Go.Proofs.Ytpacjjaekmipfaa
open Go.RowKit

theorem Try.info5 : (Try.prog.info? 5).map (fun i => (i.zero, i.size, i.bytes)) = some (some (.int .u8 0), 1, 1) := by kernel_rfl

set_option maxRecDepth 100000 in
set_option maxHeartbeats 400000 in
theorem put_any (n : Nat) (hn : (putL n).length ≤ 10) (w : World) :
    Calls Try.prog 42 #[.int .u64 n] w fun e w' => ∃ A c, e = .returned (.slice A (putL n).length c) ∧ w'.ownsRow w.heap.size 5 1 (.slice A (putL n).length c) (putL n).length (cells8 (putL n)) ∧ Below w.heap.size w w' := by
  obtain ⟨i0, hi, hz0, hz1, hz2⟩ := info_parts Try.info5
  go_enter Try.func42, Try.ntmps42
  go_wp2
  go_loopw [0, 3] (fun m b wr => ∃ (k : Nat) (acc : List UInt8) (A : Option Addr) (c : Nat), m = .int .u64 k ∧ b = .slice A acc.length c ∧ wr.ownsRow w.heap.size 5 1 (.slice A acc.length c) acc.length (cells8 acc) ∧ Below w.heap.size w wr ∧ acc ++ putL k = putL n)
    (fun m _ _ => (intOf m).toNat)
  case atStart => exact ⟨n, [], _, _, rfl, rfl, World.ownsRow_nil _ _ _ _, Below.refl _ _, rfl⟩
  case round =>
    obtain ⟨k, acc, A, c, rfl, rfl, hown, hb, hp⟩ := hrel
    have hsz := hb.size
    have hla : acc.length ≤ 10 := by have := congrArg List.length hp; rw [List.length_append] at this; omega
    have HP := Lib.hid hp; clear hp
    by_cases hk : k < 128
    · go_wp2_with (at_builtin; refine wpList_app1 rfl _ _ 27 rfl w.heap.size 5 i0 _ 1 Try.underlying27 hi hz0 hz1 hz2 rfl rfl hown rfl rfl (by simp only [maxLen]; omega) (by omega) hsz ?_; intro A' c' w1 hown1 hg1)
      go_ret
      obtain ⟨h1, h2⟩ := put_low HP.out hk
      rw [h1, h2]
      exact ⟨_, _, rfl, hown1, hb.trans hg1.below⟩
    · go_wp2_with (at_builtin; refine wpList_app1 rfl _ _ 27 rfl w.heap.size 5 i0 _ 1 Try.underlying27 hi hz0 hz1 hz2 rfl rfl hown rfl rfl (by simp only [maxLen]; omega) (by omega) hsz ?_; intro A' c' w1 hown1 hg1)
      go_roundw
      case rel =>
        obtain ⟨h1, h2⟩ := put_high HP.out hk
        refine ⟨k / 128, acc ++ [UInt8.ofNat (k % 128 + 128)], A', c', ?_, ?_, ?_, hb.trans hg1.below, h1⟩
        · go_num
        · simp
        · rw [h2, List.length_append]; exact hown1
      case measure => simp [intOf]; omega
end Go.Proofs.Ytpacjjaekmipfaa
