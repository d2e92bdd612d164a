/- seg.Sameness: it tells whether two records are the same. -/
import Derived.Test.YtpacjjaekmipfaaSame
import Derived.Test.YtpacjjaekmipfaaSegCheck
import Derived.Test.YtpacjjaekmipfaaSegRec
import Derived.Laws.StructEq
namespace Go.Proofs.Ytpacjjaekmipfaa
open Go.RowKit

set_option maxRecDepth 100000 in
set_option maxHeartbeats 2000000 in
theorem eq_six (a b c d e f a' b' c' d' e' f' : Int) (w : World) : (Op.equalIn 10000 82 (.agg #[.int .i64 a, .int .i64 b, .int .i64 c, .int .i64 d, .int .i64 e, .int .i64 f]) (.agg #[.int .i64 a', .int .i64 b', .int .i64 c', .int .i64 d', .int .i64 e', .int .i64 f'])).run Try.prog w = .ok (decide (a = a' ∧ b = b' ∧ c = c' ∧ d = d' ∧ e = e' ∧ f = f')) w := by
  have u3 := Try.underlying3
  have a3 := Try.isAgg3
  have z3 := Try.sizeOf3
  rw [show (10000 : Nat) = 9999 + 1 from rfl, Op.equalIn]
  simp only [Sem.run_bind, run_underlying Try.underlying82, Result.andThen_ok]
  simp only [Std.Legacy.Range.forIn_eq_forIn_range', Std.Legacy.Range.size, Nat.sub_zero, Nat.add_sub_cancel, Nat.div_one, List.range'_succ, List.range'_zero, List.forIn_cons, List.forIn_nil]
  go_simp
  by_cases h1 : a = a'
  · by_cases h2 : b = b'
    · by_cases h3 : c = c'
      · by_cases h4 : d = d'
        · by_cases h5 : e = e'
          · by_cases h6 : f = f'
            · simp [h1, h2, h3, h4, h5, h6]
            · simp [h1, h2, h3, h4, h5, h6]
          · simp [h1, h2, h3, h4, h5]
        · simp [h1, h2, h3, h4]
      · simp [h1, h2, h3]
    · simp [h1, h2]
  · simp [h1]

set_option maxRecDepth 100000 in
set_option maxHeartbeats 2000000 in
theorem sameness_any (r s : Rc) (v u : Value) (K K' : Nat → Prop) (w : World) (hv : IsB w K v r.data) (hu : IsB w K' u s.data) :
    Calls Try.prog 27 #[rcV r v, rcV s u] w fun e w' => e = .returned (.bool (decide (r = s))) ∧ Below w.heap.size w w' := by
  unfold rcV
  obtain ⟨A, c, rfl, _⟩ := isB_form hv
  obtain ⟨A', c', rfl, _⟩ := isB_form hu
  have E := ((((Kn.start w).give Stable.bytes hv).give Stable.bytes hu).push 34 #[.int .i64 r.kind, .int .i64 r.lba, .int .i64 r.n, .int .i64 r.ver, .int .i64 r.zone, .int .i64 r.off, .slice A r.data.length c]).push 34 #[.int .i64 s.kind, .int .i64 s.lba, .int .i64 s.n, .int .i64 s.ver, .int .i64 s.zone, .int .i64 s.off, .slice A' s.data.length c']
  obtain ⟨q1, f1, t1⟩ := E.rules m1
  obtain ⟨q2, f2, t2⟩ := E.rules m0
  rw [World.size_alloc] at q2 f2 t2
  obtain ⟨k1, l1, n1, v1, z1, o1, d1⟩ := r
  obtain ⟨k2, l2, n2, v2, z2, o2, d2⟩ := s
  dsimp only at q1 q2 E ⊢
  have hq := fun W h1 h2 => equalB_any (.slice A d1.length c) (.slice A' d2.length c') d1 d2 K K' W h1 h2
  have e0 : decide ((⟨k1, l1, n1, v1, z1, o1, d1⟩ : Rc) = ⟨k2, l2, n2, v2, z2, o2, d2⟩) = (decide (d1 = d2) && decide (k1 = k2 ∧ l1 = l2 ∧ n1 = n2 ∧ v1 = v2 ∧ z1 = z2 ∧ o1 = o2)) := by
    rw [Bool.eq_iff_iff]
    simp only [Rc.mk.injEq, Bool.and_eq_true, decide_eq_true_eq]
    constructor
    · rintro ⟨a1, a2, a3, a4, a5, a6, a7⟩; exact ⟨a7, a1, a2, a3, a4, a5, a6⟩
    · rintro ⟨a7, a1, a2, a3, a4, a5, a6⟩; exact ⟨a1, a2, a3, a4, a5, a6, a7⟩
  rw [e0]
  obtain ⟨res, hres⟩ : ∃ res, res = (decide (d1 = d2) && decide (k1 = k2 ∧ l1 = l2 ∧ n1 = n2 ∧ v1 = v2 ∧ z1 = z2 ∧ o1 = o2)) := ⟨_, rfl⟩
  rw [← hres]
  have HRES := Lib.hid hres
  clear hres
  go_enter Try.func27, Try.ntmps27
  go_wp2_with fail
  refine (hq _ (E.get m1) (E.get m0)).mono ?_
  rintro e w1 ⟨rfl, hb1⟩
  have E := E.step hb1
  obtain ⟨q1, f1, t1⟩ := E.rules m1
  obtain ⟨q2, f2, t2⟩ := E.rules m0
  rw [World.size_alloc] at q2 f2 t2
  have hbe := E.below
  clear E e0 hq
  by_cases hd : d1 = d2
  · have d3 : decide (d1 = d2) = true := decide_eq_true hd
    have h6 := eq_six k1 l1 n1 v1 z1 o1 k2 l2 n2 v2 z2 o2
    obtain ⟨res6, hres6⟩ : ∃ res6, decide (k1 = k2 ∧ l1 = l2 ∧ n1 = n2 ∧ v1 = v2 ∧ z1 = z2 ∧ o1 = o2) = res6 := ⟨_, rfl⟩
    rw [hres6] at h6
    have HR6 := Lib.hid hres6
    clear hres6
    go_wp2
    go_ret
    refine ⟨?_, hbe⟩
    rw [HRES.out, d3, HR6.out]
    rfl
  · have d3 : decide (d1 = d2) = false := decide_eq_false hd
    rw [d3]
    go_wp2
    go_ret
    refine ⟨?_, hbe⟩
    rw [HRES.out, d3]
    rfl
end Go.Proofs.Ytpacjjaekmipfaa
