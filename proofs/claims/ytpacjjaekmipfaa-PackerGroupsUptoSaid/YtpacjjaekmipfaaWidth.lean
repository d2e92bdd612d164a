/- The walk of wire.width. -/
import Derived.Test.YtpacjjaekmipfaaRows
import Derived.Test.YtpacjjaekmipfaaLib
import Derived.Test.YtpacjjaekmipfaaWirePlain
import Derived.Test.YtpacjjaekmipfaaLen64
namespace Go.Proofs.Ytpacjjaekmipfaa
open Go.RowKit

theorem bitAux_le : ∀ (f x j : Nat), x < 2 ^ j → Lib.bitLenAux f x ≤ j
  | 0, _, _, _ => Nat.zero_le _
  | f + 1, x, j, h => by
    unfold Lib.bitLenAux
    by_cases hx : x = 0
    · rw [if_pos hx]; exact Nat.zero_le _
    · rw [if_neg hx]
      match j, h with
      | 0, h => simp at h; omega
      | j + 1, h =>
        have := bitAux_le f (x / 2) j (by rw [Nat.pow_succ] at h; omega)
        omega
theorem bitAux_ge : ∀ (f x j : Nat), 2 ^ j ≤ x → j < f → j + 1 ≤ Lib.bitLenAux f x
  | 0, _, _, _, h => by omega
  | f + 1, x, j, h, hf => by
    unfold Lib.bitLenAux
    have hp := Nat.two_pow_pos j
    rw [if_neg (by omega)]
    match j, h with
    | 0, h => omega
    | j + 1, h =>
      have := bitAux_ge f (x / 2) j (by rw [Nat.pow_succ] at h; omega) (by omega)
      omega
theorem bitLen_le64 (x : Nat) : Lib.bitLen x ≤ 64 := by
  have h : ∀ f x, Lib.bitLenAux f x ≤ f := by
    intro f
    induction f with
    | zero => intro x; exact Nat.le_refl _
    | succ f ih =>
      intro x
      unfold Lib.bitLenAux
      split
      · omega
      · have := ih (x / 2); omega
  exact h 64 x

/-- how many bytes a number takes -/
def widthN (n : Nat) : Nat := if Lib.bitLen n = 0 then 1 else (Lib.bitLen n + 6) / 7

theorem pow128 (k : Nat) : 128 ^ k = 2 ^ (7 * k) := by rw [Nat.pow_mul]
theorem width_eq {n k : Nat} (h1 : n < 128 ^ (k + 1)) (h0 : k = 0 ∨ 128 ^ k ≤ n) (hk : k < 10) : widthN n = k + 1 := by
  have hle : Lib.bitLen n ≤ 7 * (k + 1) := bitAux_le 64 n _ (by rw [← pow128]; exact h1)
  unfold widthN
  by_cases hz : Lib.bitLen n = 0
  · rw [if_pos hz]
    rcases h0 with h0 | h0
    · omega
    · have := bitAux_ge 64 n (7 * k) (by rw [← pow128]; exact h0) (by omega)
      have h2 : 7 * k + 1 ≤ Lib.bitLen n := this
      omega
  · rw [if_neg hz]
    rcases h0 with h0 | h0
    · subst h0; omega
    · have h2 : 7 * k + 1 ≤ Lib.bitLen n := bitAux_ge 64 n (7 * k) (by rw [← pow128]; exact h0) (by omega)
      omega
theorem width_ne {n k : Nat} (h1 : n < 128 ^ k) (h0 : 0 < k) : widthN n ≠ k + 1 := by
  have hle : Lib.bitLen n ≤ 7 * k := bitAux_le 64 n _ (by rw [← pow128]; exact h1)
  unfold widthN
  split <;> omega

set_option maxHeartbeats 400000 in
set_option maxRecDepth 100000 in
theorem width_any (x : Int) (w : World) (h0 : 0 ≤ x) (h1 : x ≤ 18446744073709551615) :
    Calls Try.prog 70 #[.int .u64 x] w fun e w' => e = .returned (.int .i64 (widthN x.toNat)) ∧ w = w' := by
  have hle : Lib.bitLen x.toNat ≤ 64 := bitLen_le64 _
  go_enter Try.func70, Try.ntmps70
  go_wp2_with (go_at_call 75; refine (len64_any x _ h0 h1).mono ?_; rintro e w' ⟨rfl, rfl⟩)
  go_ret
  refine ⟨congrArg Ending.returned (congrArg (Value.int IntKind.i64) ?_), rfl⟩
  unfold widthN
  split <;> omega
end Go.Proofs.Ytpacjjaekmipfaa
