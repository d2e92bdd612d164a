/- The walk of wire.Fixed. -/
import Derived.Test.YtpacjjaekmipfaaFixed
import Derived.Test.YtpacjjaekmipfaaPut
import Derived.Test.YtpacjjaekmipfaaRep
namespace Go.Proofs.Ytpacjjaekmipfaa
open Go.RowKit

theorem fix_cells {n : Nat} (hn : n < 4294967296) : cells8 (fixL n) = [.int .u8 ((n : Int) % 256), .int .u8 ((n : Int) / 256 % 256), .int .u8 ((n : Int) / 65536 % 256), .int .u8 ((n : Int) / 16777216)] := by
  simp only [cells8, fixL, List.map_cons, List.map_nil, B8, UInt8.toNat_ofNat']
  rw [show ((n % 256 % 2 ^ 8 : Nat) : Int) = (n : Int) % 256 by omega, show ((n / 256 % 256 % 2 ^ 8 : Nat) : Int) = (n : Int) / 256 % 256 by omega, show ((n / 65536 % 256 % 2 ^ 8 : Nat) : Int) = (n : Int) / 65536 % 256 by omega, show ((n / 16777216 % 256 % 2 ^ 8 : Nat) : Int) = (n : Int) / 16777216 by omega]

set_option maxRecDepth 100000 in
set_option maxHeartbeats 1000000 in
theorem fixed_any (n : Nat) (w : World) (hn : n < 4294967296) :
    Calls Try.prog 45 #[.int .u32 n] w fun e w' => ∃ A c, e = .returned (.slice A 4 c) ∧ w'.ownsRow w.heap.size 5 1 (.slice A 4 c) 4 (cells8 (fixL n)) ∧ Below w.heap.size w w' := by
  obtain ⟨i0, hi, hz0, hz1, hz2⟩ := info_parts Try.info5
  have hc := fix_cells hn
  have HC := Lib.hid hc; clear hc
  go_enter Try.func45, Try.ntmps45
  go_wp2_with fail
  go_loopw [3, 4, 5] (fun a x4 i wr => (∃ (j : Nat) (A : Option Addr) (c : Nat), i = .int .i64 j ∧ j ≤ 4 ∧ a = .slice A j c ∧ wr.ownsRow w.heap.size 5 1 (.slice A j c) j ((cells8 (fixL n)).take j) ∧ Below w.heap.size w wr) ∧ (∃ y, x4 = y)) (fun _ _ i _ => 4 - (intOf i).toNat)
  case atStart => exact ⟨⟨0, none, 0, rfl, by omega, rfl, World.ownsRow_nil _ _ _ _, Below.refl _ _⟩, _, rfl⟩
  case round =>
    obtain ⟨⟨j, A, c, rfl, hj, rfl, hown, hb⟩, y, rfl⟩ := hrel
    have hsz := hb.size
    have hj' : j = 0 ∨ j = 1 ∨ j = 2 ∨ j = 3 ∨ j = 4 := by omega
    clear hj
    rcases hj' with rfl | rfl | rfl | rfl | rfl
    · go_wp2_with (at_builtin; refine wpList_app1g rfl _ _ _ rfl w.heap.size 5 i0 _ 1 Try.underlying27 hi hz0 hz1 hz2 rfl rfl hown rfl rfl rfl (by simp only [maxLen]; omega) (by omega) hsz ?_; intro A6 c6 w6 own6 hg6)
      rw [HC.out] at own6
      exact ⟨⟨⟨1, A6, c6, rfl, by omega, rfl, by rw [HC.out]; exact own6, hb.trans hg6.below⟩, _, rfl⟩, by simp [intOf]⟩
    · go_wp2_with (at_builtin; refine wpList_app1g rfl _ _ _ rfl w.heap.size 5 i0 _ 1 Try.underlying27 hi hz0 hz1 hz2 rfl rfl hown rfl rfl rfl (by simp only [maxLen]; omega) (by omega) hsz ?_; intro A6 c6 w6 own6 hg6)
      rw [HC.out] at own6
      exact ⟨⟨⟨2, A6, c6, rfl, by omega, rfl, by rw [HC.out]; exact own6, hb.trans hg6.below⟩, _, rfl⟩, by simp [intOf]⟩
    · go_wp2_with (at_builtin; refine wpList_app1g rfl _ _ _ rfl w.heap.size 5 i0 _ 1 Try.underlying27 hi hz0 hz1 hz2 rfl rfl hown rfl rfl rfl (by simp only [maxLen]; omega) (by omega) hsz ?_; intro A6 c6 w6 own6 hg6)
      rw [HC.out] at own6
      exact ⟨⟨⟨3, A6, c6, rfl, by omega, rfl, by rw [HC.out]; exact own6, hb.trans hg6.below⟩, _, rfl⟩, by simp [intOf]⟩
    · go_wp2_with (at_builtin; refine wpList_app1g rfl _ _ _ rfl w.heap.size 5 i0 _ 1 Try.underlying27 hi hz0 hz1 hz2 rfl rfl hown rfl rfl rfl (by simp only [maxLen]; omega) (by omega) hsz ?_; intro A6 c6 w6 own6 hg6)
      rw [HC.out] at own6
      exact ⟨⟨⟨4, A6, c6, rfl, by omega, rfl, by rw [HC.out]; exact own6, hb.trans hg6.below⟩, _, rfl⟩, by simp [intOf]⟩
    · go_wp2
      go_ret
      rw [List.take_of_length_le (by rw [HC.out]; simp)] at hown
      exact ⟨A, c, rfl, hown, hb⟩

end Go.Proofs.Ytpacjjaekmipfaa
