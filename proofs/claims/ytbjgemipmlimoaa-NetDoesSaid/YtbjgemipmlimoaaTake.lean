/- The walk of wire.Take. -/
import Derived.Test.YtbjgemipmlimoaaRows
import Derived.Test.YtbjgemipmlimoaaLib
import Derived.Test.YtbjgemipmlimoaaWirePlain
namespace Go.Proofs.Ytbjgemipmlimoaa
open Go.RowKit

set_option maxRecDepth 100000 in
set_option maxHeartbeats 400000 in
theorem take_any (b : List UInt8) (A : Option Addr) (n cap : Nat) (K : Nat → Prop) (hn : b.length = n) (hlb : n ≤ 9223372036854775807) (w : World) (hr : Reads w K 1 A n (cells8 b)) :
    Calls Try.prog 16 #[.slice A n cap] w fun e w' => e = .returned (tup3 (takeL b)) ∧ w = w' := by
  subst hn
  go_enter Try.func16, Try.ntmps16
  go_wp2
  go_loop [2, 3, 4, 5] (fun n k e _ => ∃ n0 k0 : Nat, n = .int .u64 n0 ∧ k = .int .i64 k0 ∧ e = .int .i64 0 ∧ k0 ≤ b.length ∧ k0 < 10 ∧ n0 < 128 ^ k0 ∧ takeG (b.drop k0) k0 n0 = takeL b)
    (fun _ k _ _ => 10 - (intOf k).toNat)
  case atStart => exact ⟨0, 0, rfl, rfl, rfl, by omega, by omega, by simp, rfl⟩
  case round =>
    obtain ⟨n0, k0, rfl, rfl, rfl, hk1, hk2, hn0, hgo⟩ := hrel
    have HG := Lib.hid hgo; clear hgo
    have HN := Lib.hid hn0; clear hn0
    by_cases hk : k0 < b.length
    · obtain ⟨ad, u, rfl, hbB, hu, hc⟩ := hr.at_ hk
      simp only [cells8, List.getElem?_map, List.getElem?_eq_getElem hk, Option.map_some, Option.some.injEq] at hu
      subst hu
      unfold B8 at hc
      have hc2 : (b[k0].toNat) < 256 := UInt8.toNat_lt _
      generalize hcc : b[k0].toNat = c at hc hc2
      have HC := Lib.hid hcc; clear hcc
      have hk2' : (k0 : Int) < 10 := by omega
      by_cases hbad : k0 = 9 ∧ ¬ c ≤ 1
      · have h9b : ((k0 : Int) == 9) = true := by simp; omega
        obtain ⟨h9, hc1⟩ := hbad
        have H9 := Lib.hid h9; clear h9
        go_wp2
        go_ret3
        obtain rfl := H9.out
        exact ⟨by rw [← HG.out, takeG_big hk HC.out hc1]; rfl, rfl⟩
      · obtain ⟨hv, hlt, hn1⟩ := take_or (n := n0) hc2 HN.out hk2 (by omega)
        generalize hn1e : n0 + (c % 128) * 128 ^ k0 = n1 at hv hlt hn1
        have HE := Lib.hid hn1e; clear hn1e
        have H1 := Lib.hid hn1; clear hn1
        have HL := Lib.hid hlt; clear hlt
        have hh : (((k0 : Int) == 9) = true ∧ c ≤ 1) ∨ ((k0 : Int) == 9) = false := by simp; omega
        have HB := Lib.hid hbad; clear hbad
        by_cases h128 : c < 128
        · by_cases hz : 0 < k0 ∧ c = 0
          · have hwd : widthN n1 ≠ k0 + 1 := width_ne (by rw [← HE.out, hz.2]; simpa using HN.out) hz.1
            have hwb : ((widthN n1 : Int) != (k0 : Int) + 1) = true := by simp; omega
            have HZ := Lib.hid hz; clear hz
            clear hwd
            rcases hh with ⟨h9b, hc1⟩ | h9b
            all_goals
              go_wp2_with (go_at_call 53; refine (width_any n1 _ (by omega) (by have := HL.out; omega)).mono ?_; rintro e w' ⟨rfl, rfl⟩; rw [Int.toNat_natCast])
              go_ret3
              exact ⟨by rw [← HG.out, takeG_zero hk HC.out HZ.out.1 HZ.out.2]; rfl, rfl⟩
          · have hwd : widthN n1 = k0 + 1 := width_eq H1.out (by
              rcases Nat.eq_zero_or_pos k0 with h | h
              · exact .inl h
              · refine .inr ?_
                rw [← HE.out, Nat.mod_eq_of_lt h128]
                have : 1 * 128 ^ k0 ≤ c * 128 ^ k0 := Nat.mul_le_mul_right _ (by omega)
                omega) hk2
            have HW := Lib.hid hwd; clear hwd
            have HZ := Lib.hid hz; clear hz
            rcases hh with ⟨h9b, hc1⟩ | h9b
            all_goals
              go_wp2_with (go_at_call 53; refine (width_any n1 _ (by omega) (by have := HL.out; omega)).mono ?_; rintro e w' ⟨rfl, rfl⟩; rw [Int.toNat_natCast, HW.out]; try rw [Int.natCast_add, Int.natCast_one])
              go_ret3
              exact ⟨by rw [← HG.out, takeG_last hk HC.out (by have := HB.out; omega) h128 (by have := HZ.out; omega), HE.out]; rfl, rfl⟩
        · rcases hh with ⟨h9b, hc1⟩ | h9b
          · omega
          · go_wp2
            go_round
            case rel => exact ⟨n1, k0 + 1, rfl, by go_num, rfl, by omega, by have := HB.out; simp at h9b; omega, H1.out, by rw [← HG.out, takeG_next hk HC.out (by simp at h9b; omega) h128, HE.out]⟩
            case measure => simp [intOf]; omega
    · go_wp2
      go_ret3
      exact ⟨by rw [← HG.out, takeG_nil hk]; rfl, rfl⟩
end Go.Proofs.Ytbjgemipmlimoaa
