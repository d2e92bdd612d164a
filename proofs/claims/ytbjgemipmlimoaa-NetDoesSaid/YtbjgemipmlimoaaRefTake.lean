/- The walks of quicksetref02.Take, Int. -/
import Derived.Test.YtbjgemipmlimoaaWireRd
import Derived.Deep.DeepCutAuto
import Derived.Deep.RegionWith
namespace Go.Proofs.Ytbjgemipmlimoaa
open Go.RowKit

theorem addsh (n c k : Nat) (h : n + (c % 128) * 128 ^ k < 18446744073709551616) : IntKind.u64.wrap ((n : Int) + IntKind.u64.wrap ((c : Int) % 128 * 2 ^ (7 * k))) = ((n + (c % 128) * 128 ^ k : Nat) : Int) := by
  have hp : (2 : Int) ^ (7 * k) = ((128 ^ k : Nat) : Int) := by rw [show (128 : Nat) = 2 ^ 7 by decide, ← Nat.pow_mul]; simp
  have e : (c : Int) % 128 * 2 ^ (7 * k) = (((c % 128) * 128 ^ k : Nat) : Int) := by rw [hp]; simp
  have e2 : IntKind.u64.wrap (((c % 128) * 128 ^ k : Nat) : Int) = (((c % 128) * 128 ^ k : Nat) : Int) := IntWalk.u64_in _ (by omega)
  rw [e, e2, ← Int.natCast_add]
  exact IntWalk.u64_in _ (by omega)

set_option maxRecDepth 100000 in
set_option maxHeartbeats 1000000 in
theorem rtake_any (b : List UInt8) (A : Option Addr) (n cap : Nat) (K : Nat → Prop) (hn : b.length = n) (hlb : n ≤ 9223372036854775807) (w : World) (hr : Reads w K 1 A n (cells8 b)) :
    Calls Try.prog 90 #[.slice A n cap] w fun e w' => e = .returned (tup3 (takeL b)) ∧ w = w' := by
  subst hn
  go_enter Try.func90, Try.ntmps90
  go_wp2
  go_loop [5, 10] (fun n k => ∃ n0 k0 : Nat, n = .int .u64 n0 ∧ k = .int .i64 k0 ∧ k0 ≤ b.length ∧ k0 < 10 ∧ n0 < 128 ^ k0 ∧ takeG (b.drop k0) k0 n0 = takeL b)
    (fun _ k => b.length - (intOf k).toNat)
  case atStart => exact ⟨0, 0, rfl, rfl, by omega, by omega, by simp, rfl⟩
  case round =>
    obtain ⟨n0, k0, rfl, rfl, hk1, hk2, hn0, hgo⟩ := hrel
    have HG := Lib.hid hgo; clear hgo
    have HN := Lib.hid hn0; clear hn0
    by_cases hk : k0 < b.length
    · obtain ⟨ad, u, rfl, hbB, hu, hc⟩ := hr.at_ hk
      simp only [cells8, List.getElem?_map, List.getElem?_eq_getElem hk, Option.map_some, Option.some.injEq] at hu
      subst hu
      unfold B8 at hc
      have hc2 : (b[k0].toNat) < 256 := UInt8.toNat_lt _
      generalize hcc : b[k0].toNat = c at hc hc2
      have HC := Lib.hid hcc; clear hcc
      by_cases hbad : k0 = 9 ∧ ¬ c ≤ 1
      · have h9b : ((k0 : Int) == 9) = true := by simp; omega
        obtain ⟨h9, hc1⟩ := hbad
        have H9 := Lib.hid h9; clear h9
        go_wp2
        go_ret3
        obtain rfl := H9.out
        exact ⟨by rw [← HG.out, takeG_big hk HC.out hc1]; rfl, rfl⟩
      · have hh : (((k0 : Int) == 9) = true ∧ c ≤ 1) ∨ ((k0 : Int) == 9) = false := by simp; omega
        obtain ⟨-, hlt, hn1⟩ := take_or (n := n0) hc2 HN.out hk2 (by omega)
        have ht := addsh n0 c k0 hlt
        generalize hn1e : n0 + (c % 128) * 128 ^ k0 = n1 at hlt hn1 ht
        have HE := Lib.hid hn1e; clear hn1e
        have H1 := Lib.hid hn1; clear hn1
        have HL := Lib.hid hlt; clear hlt
        have HB := Lib.hid hbad; clear hbad
        by_cases h128 : c < 128
        · by_cases hz : 0 < k0 ∧ c = 0
          · have hz1 : ((c : Int) == 0) = true := by simp; omega
            have hz2 : (0 : Int) < (k0 : Int) := by omega
            have HZ := Lib.hid hz; clear hz
            rcases hh with ⟨h9b, hc1⟩ | h9b
            all_goals
              go_wp2
              go_ret3
              exact ⟨by rw [← HG.out, takeG_zero hk HC.out HZ.out.1 HZ.out.2]; rfl, rfl⟩
          · have HZ := Lib.hid hz
            have hzz : ((0 : Int) < (k0 : Int) ∧ ((c : Int) == 0) = false) ∨ ¬ (0 : Int) < (k0 : Int) := by
              simp only [beq_eq_false_iff_ne]; omega
            clear hz
            rcases hh with ⟨h9b, hc1⟩ | h9b
            all_goals
              rcases hzz with ⟨hz1, hz2⟩ | hz1
              all_goals
                go_wp2
                go_ret3
                refine ⟨?_, rfl⟩
                rw [← HG.out, takeG_last hk HC.out (by have := HB.out; omega) h128 (by have := HZ.out; omega), HE.out]
                first | rfl | (simp [tup3])
        · rcases hh with ⟨h9b, hc1⟩ | h9b
          · omega
          · go_wp2
            go_round
            case rel => exact ⟨n1, k0 + 1, rfl, by go_num, by omega, by have := HB.out; simp at h9b; omega, H1.out, by rw [← HG.out, takeG_next hk HC.out (by simp at h9b; omega) h128, HE.out]⟩
            case measure => simp [intOf]; omega
    · go_wp2
      go_ret3
      exact ⟨by rw [← HG.out, takeG_nil hk]; rfl, rfl⟩

theorem rnum_off (l : List UInt8) (p : Nat) : (rnum l (p, 0)).1 = (rnum (l.drop p) (0, 0)).1 ∧ (rnum l (p, 0)).2.1 = p + (rnum (l.drop p) (0, 0)).2.1 ∧ (rnum l (p, 0)).2.2 = (rnum (l.drop p) (0, 0)).2.2 := by
  unfold rnum
  simp only [List.drop_zero, ne_eq, not_true_eq_false, if_false]
  split
  · simp
  · split <;> simp

theorem rkey10 (n : Nat) (h : 9223372036854775808 ≤ n) : (9223372036854775808 : Int) ≤ (n : Int) := by omega

set_option maxRecDepth 100000 in
set_option maxHeartbeats 1000000 in
theorem rint_any (b : List UInt8) (A : Option Addr) (n cap : Nat) (K : Nat → Prop) (hn : b.length = n) (hlb : n ≤ 9223372036854775807) (w : World) (hr : Reads w K 1 A n (cells8 b)) :
    Calls Try.prog 89 #[.slice A n cap] w fun e w' => e = .returned (.tuple #[.int .i64 (rnum b (0, 0)).1, .int .i64 ((rnum b (0, 0)).2.1 : Int), .int .i64 (rnum b (0, 0)).2.2]) ∧ w = w' := by
  have hct := rtake_any b A n cap K hn hlb w hr
  obtain ⟨r, hr0⟩ : ∃ r, takeL b = r := ⟨_, rfl⟩
  have hle := fun h => takeL_le (b := b) h
  have hin := fun h => takeL_inv (b := b) h
  have hx : rnum b (0, 0) = if r.2.2 ≠ 0 then ((0 : Int), ((0, (r.2.2 : Int)) : Rs)) else if 9223372036854775808 ≤ r.1 then (0, (0, 21)) else ((r.1 : Int), (r.2.1, 0)) := by
    unfold rnum
    simp only [List.drop_zero, hr0, ne_eq, not_true_eq_false, if_false]
    split
    · rfl
    · split <;> simp
  rw [hx]
  rw [hr0] at hct hle hin
  obtain ⟨m, k, er⟩ := r
  simp only [tup3] at hct hle hin ⊢
  have HC := Lib.hid hct
  clear hct hx hr0
  by_cases her : er = 0
  · subst her
    rw [if_neg (by simp)]
    obtain ⟨-, -, hk⟩ := hle rfl
    obtain ⟨hn64, -, -⟩ := hin rfl
    clear hle hin
    by_cases hbig : 9223372036854775808 ≤ m
    · rw [if_pos hbig]
      have hbig' := rkey10 m hbig
      clear hbig
      go_enter Try.func89, Try.ntmps89
      go_wp2_with fail
      refine HC.out.mono ?_
      rintro e w1 ⟨rfl, rfl⟩
      go_wp2
      go_ret3
      exact ⟨rfl, rfl⟩
    · rw [if_neg hbig]
      have hd : decide ((9223372036854775808 : Int) ≤ (m : Int)) = false := by rw [decide_eq_false_iff_not]; omega
      have hb2 : (m : Int) ≤ 9223372036854775807 := by omega
      clear hbig
      go_enter Try.func89, Try.ntmps89
      go_wp2_with fail
      refine HC.out.mono ?_
      rintro e w1 ⟨rfl, rfl⟩
      go_wp2
      go_ret3
      exact ⟨rfl, rfl⟩
  · rw [if_pos her]
    have herb : ((er : Int) != 0) = true := by simpa using her
    clear hle hin her
    go_enter Try.func89, Try.ntmps89
    go_wp2_with fail
    refine HC.out.mono ?_
    rintro e w1 ⟨rfl, rfl⟩
    go_wp2
    go_ret3
    exact ⟨rfl, rfl⟩
end Go.Proofs.Ytbjgemipmlimoaa
