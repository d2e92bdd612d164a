/- What wire reads is written as these very bytes: plain laws. No program in sight. -/
import Derived.Test.YtbjgemipmlimoaaWireLaws
namespace Go.Proofs.Ytbjgemipmlimoaa
open Go.RowKit

theorem rnum_inv {l : List UInt8} {p q : Nat} {n e : Int} (h : rnum l (p, e) = (n, (q, 0))) : e = 0 ∧ 0 ≤ n ∧ n ≤ 9223372036854775807 ∧ q = p + (putL n.toNat).length ∧ l.drop p = putL n.toNat ++ l.drop q := by
  by_cases he : e = 0
  · subst he
    unfold rnum at h
    rw [if_neg (by simp)] at h
    simp only at h
    split at h
    · rename_i h1
      simp only [Prod.mk.injEq] at h
      exact absurd h.2.2 (by simpa using h1)
    · rename_i h1
      split at h
      · simp at h
      · rename_i h2
        simp only [Prod.mk.injEq, and_true] at h
        obtain ⟨rfl, rfl⟩ := h
        obtain ⟨h3, h4, r, h5⟩ := takeL_inv (Decidable.not_not.1 h1)
        refine ⟨rfl, by omega, by omega, by rw [Int.toNat_natCast]; omega, ?_⟩
        rw [Int.toNat_natCast, ← List.drop_drop, h4]
        generalize (takeL (List.drop p l)).1 = m at h5 ⊢
        rw [h5, List.drop_left]
  · rw [rnum_err he] at h
    simp only [Prod.mk.injEq] at h
    exact absurd h.2.2 he
theorem rmost_inv {l : List UInt8} {p q : Nat} {m n e : Int} (h : rmost l m (p, e) = (n, (q, 0))) : rnum l (p, e) = (n, (q, 0)) ∧ n ≤ m := by
  have hle := rmost_le (l := l) (m := m) (s := (p, e)) (by rw [h])
  rw [h] at hle
  refine ⟨?_, hle⟩
  unfold rmost at h
  split at h
  · simp only [Prod.mk.injEq] at h; omega
  · exact h
theorem rnums_inv {l : List UInt8} : ∀ (k : Nat) (acc r : List Int) (p q : Nat) (e : Int), e = 0 → rnums l k acc (p, e) = (r, (q, 0)) →
    ∃ ns, r = acc ++ ns ∧ ns.length = k ∧ (∀ n ∈ ns, 0 ≤ n ∧ n ≤ 9223372036854775807) ∧ q = p + (flatN ns).length ∧ l.drop p = flatN ns ++ l.drop q
  | 0, acc, r, p, q, e, he, h => by
    simp only [rnums, Prod.mk.injEq] at h
    obtain ⟨rfl, rfl, _⟩ := h
    exact ⟨[], by simp, rfl, fun _ h => (by cases h), by simp [flatN], by simp [flatN]⟩
  | k + 1, acc, r, p, q, e, he, h => by
    unfold rnums at h
    split at h
    · rename_i h1
      simp only [Prod.mk.injEq] at h
      exact absurd (by rw [h.2]) h1
    · rename_i h1
      obtain ⟨x, hx⟩ : ∃ x, rnum l (p, e) = x := ⟨_, rfl⟩
      rw [hx] at h h1
      obtain ⟨n, p', e'⟩ := x
      have he' : e' = 0 := Decidable.not_not.1 h1
      subst he'
      obtain ⟨_, h2, h3, h4, h5⟩ := rnum_inv hx
      obtain ⟨ns, h6, h7, h8, h9, h10⟩ := rnums_inv k (acc ++ [n]) r p' q 0 rfl h
      have hf : flatN (n :: ns) = putL n.toNat ++ flatN ns := by simp [flatN]
      refine ⟨n :: ns, by rw [h6]; simp, by simp [h7], fun m hm => ?_, by rw [hf, List.length_append]; omega, by rw [hf, List.append_assoc, ← h10, h5]⟩
      rcases List.mem_cons.1 hm with rfl | hm
      · exact ⟨h2, h3⟩
      · exact h8 m hm
theorem rvec_inv {l d : List UInt8} {p q : Nat} {e : Int} (hp : p ≤ l.length) (h : rvec l (p, e) = (d, (q, 0))) : e = 0 ∧ d.length ≤ 65536 ∧ q = p + (putL d.length).length + d.length ∧ l.drop p = putL d.length ++ (d ++ l.drop q) := by
  unfold rvec at h
  split at h
  · rename_i h1
    simp only [Prod.mk.injEq] at h
    exact absurd (by rw [h.2]) h1
  · rename_i h1
    have hin := rvec1_in (l := l) (s := (p, e)) hp
    have hle := rvec1_le (Decidable.not_not.1 h1)
    obtain ⟨x, hx⟩ : ∃ x, rvec1 l (p, e) = x := ⟨_, rfl⟩
    rw [hx] at h h1 hin hle
    obtain ⟨n, p', e'⟩ := x
    have he' : e' = 0 := Decidable.not_not.1 h1
    subst he'
    simp only at h hin hle
    have hm : rmost l 65536 (p, e) = (n, (p', 0)) := by
      unfold rvec1 at hx
      split at hx
      · simp only [Prod.mk.injEq] at hx; omega
      · exact hx
    obtain ⟨hm1, _⟩ := rmost_inv hm
    obtain ⟨he, h2, h3, h4, h5⟩ := rnum_inv hm1
    simp only [Prod.mk.injEq, and_true] at h
    obtain ⟨rfl, rfl⟩ := h
    have hl : ((l.drop p').take n.toNat).length = n.toNat := by rw [List.length_take, List.length_drop]; omega
    rw [hl]
    refine ⟨he, by omega, by omega, ?_⟩
    rw [h5, ← List.drop_drop, List.take_append_drop]

theorem takeNum_one {b : List UInt8} (h : (takeL b).2.2 = 0) : putL (takeL b).1 = b.take (takeL b).2.1 := by
  obtain ⟨_, h2, r, h3⟩ := takeL_inv h
  generalize takeL b = t at *
  rw [h2, h3, List.take_left]
theorem takeVec_one {b v : List UInt8} {k : Int} (h : takeVecL b = (v, k, 0)) : ∃ j : Nat, k = j ∧ 1 ≤ j ∧ j ≤ b.length ∧ vecL v = (b.take j, 0) ∧ v.length ≤ 65536 := by
  unfold takeVecL at h
  split at h
  · rename_i h1; simp only [Prod.mk.injEq] at h; exact absurd h.2.2 h1
  · rename_i h1
    obtain ⟨x, hx⟩ : ∃ x, rvec b (0, 0) = x := ⟨_, rfl⟩
    rw [hx] at h h1
    obtain ⟨d, q, e⟩ := x
    have he : e = 0 := Decidable.not_not.1 h1
    subst he
    simp only [Prod.mk.injEq, and_true] at h
    obtain ⟨rfl, rfl⟩ := h
    obtain ⟨_, h2, h3, h4⟩ := rvec_inv (Nat.zero_le _) hx
    have hpos := putL_pos d.length
    have hl := congrArg List.length h4
    simp only [List.drop_zero, List.length_append, List.length_drop] at hl
    refine ⟨q, rfl, by omega, by omega, ?_, h2⟩
    unfold vecL
    rw [if_pos h2]
    rw [List.drop_zero, ← List.append_assoc] at h4
    have hq : q = (putL d.length ++ d).length := by rw [List.length_append]; omega
    have : b.take q = putL d.length ++ d := by
      conv => lhs; rw [h4, hq]
      exact List.take_left
    rw [this]

theorem msgL_of_ok {m : Ms} (h : okM m) : msgL m = (bytesM m, 0) := by
  obtain ⟨h1, h2, h3⟩ := h
  have hn : numsL (headM m ++ m.args) = (flatN (headM m ++ m.args), 0) := if_pos (fun n hn => (h1 n hn).1)
  have hv : vecL m.data = (putL m.data.length ++ m.data, 0) := if_pos h3
  unfold msgL
  rw [hn, hv, if_neg (by simp), if_neg (by omega), if_neg (by simp)]
  rfl

theorem takeMsg_err {b : List UInt8} (h : (takeMsgL b).2.2 ≠ 0) : (takeMsgL b).2.1 = 0 := by
  unfold takeMsgL at h ⊢
  simp only at h ⊢
  split
  · rfl
  · rename_i h1; rw [if_neg h1] at h; exact absurd rfl h

set_option maxHeartbeats 1000000 in
theorem takeMsg_one {b : List UInt8} {m : Ms} {k : Int} (h : takeMsgL b = (m, k, 0)) : ∃ j : Nat, k = j ∧ 1 ≤ j ∧ j ≤ b.length ∧ msgL m = (b.take j, 0) ∧ okM m := by
  unfold takeMsgL tmHead at h
  simp only at h
  obtain ⟨⟨k1, p1, e1⟩, hx1⟩ : ∃ x, rnum b (0, 0) = x := ⟨_, rfl⟩
  have i1 := rnum_in (l := b) (s := (0, 0)) (Nat.zero_le _)
  rw [hx1] at h i1
  obtain ⟨⟨k2, p2, e2⟩, hx2⟩ : ∃ x, rnum b (p1, e1) = x := ⟨_, rfl⟩
  have i2 := rnum_in (l := b) (s := (p1, e1)) i1.1
  simp only at h
  rw [hx2] at h i2
  obtain ⟨⟨k3, p3, e3⟩, hx3⟩ : ∃ x, rnum b (p2, e2) = x := ⟨_, rfl⟩
  have i3 := rnum_in (l := b) (s := (p2, e2)) i2.1
  simp only at h
  rw [hx3] at h i3
  obtain ⟨⟨k4, p4, e4⟩, hx4⟩ : ∃ x, rnum b (p3, e3) = x := ⟨_, rfl⟩
  have i4 := rnum_in (l := b) (s := (p3, e3)) i3.1
  simp only at h
  rw [hx4] at h i4
  obtain ⟨⟨k5, p5, e5⟩, hx5⟩ : ∃ x, rmost b 64 (p4, e4) = x := ⟨_, rfl⟩
  have i5 := rmost_in (l := b) (s := (p4, e4)) 64 i4.1
  simp only at h
  rw [hx5] at h i5
  simp only at h i5
  obtain ⟨⟨ars, p6, e6⟩, hx6⟩ : ∃ x, tmArgs b k5 (p5, e5) = x := ⟨_, rfl⟩
  rw [hx6] at h
  simp only at h
  split at h
  · rename_i h1; simp only [Prod.mk.injEq] at h; exact absurd h.2.2 h1
  · rename_i h1
    obtain ⟨⟨d, p7, e7⟩, hx7⟩ : ∃ x, rvec b (p6, e6) = x := ⟨_, rfl⟩
    rw [hx7] at h h1
    have he7 : e7 = 0 := Decidable.not_not.1 h1
    subst he7
    simp only [Prod.mk.injEq, and_true] at h
    obtain ⟨rfl, rfl⟩ := h
    have h6 : e5 = 0 := by
      by_cases h5 : e5 = 0
      · exact h5
      · rw [tmArgs_err h5] at hx6
        simp only [Prod.mk.injEq] at hx6
        obtain ⟨_, rfl, rfl⟩ := hx6
        rw [rvec_err h5] at hx7
        simp only [Prod.mk.injEq] at hx7
        exact absurd hx7.2.2 h5
    subst h6
    unfold tmArgs at hx6
    rw [if_pos rfl] at hx6
    have i6 := rnums_in (l := b) k5.toNat [] (p5, 0) i5.1 (by simp) (fun _ h => by cases h) rfl
    rw [hx6] at i6
    obtain ⟨rfl, v1, v2, v3⟩ := rvec_inv i6.1 hx7
    obtain ⟨ns, a1, a2, a3, a4, a5⟩ := rnums_inv k5.toNat [] ars p5 p6 0 rfl hx6
    rw [List.nil_append] at a1
    subst a1
    obtain ⟨hx5', hk5⟩ := rmost_inv hx5
    obtain ⟨rfl, n5, m5, q5, s5⟩ := rnum_inv hx5'
    obtain ⟨rfl, n4, m4, q4, s4⟩ := rnum_inv hx4
    obtain ⟨rfl, n3, m3', q3, s3⟩ := rnum_inv hx3
    obtain ⟨rfl, n2, m2, q2, s2⟩ := rnum_inv hx2
    obtain ⟨_, n1, m1', q1, s1⟩ := rnum_inv hx1
    have hk : k5 = (ars.length : Int) := by omega
    subst hk
    rw [Int.toNat_natCast] at q5 s5
    have hok : okM ⟨k1, k2, k3, k4, ars, d⟩ := by
      refine ⟨fun n hn => ?_, by show ars.length ≤ 64; omega, v1⟩
      rcases List.mem_append.1 hn with hm | hm
      · unfold headM at hm
        simp only [List.mem_cons, List.not_mem_nil, or_false] at hm
        rcases hm with rfl | rfl | rfl | rfl | rfl
        · exact ⟨n1, m1'⟩
        · exact ⟨n2, m2⟩
        · exact ⟨n3, m3'⟩
        · exact ⟨n4, m4⟩
        · exact ⟨n5, m5⟩
      · exact a3 n hm
    have hb : b = bytesM ⟨k1, k2, k3, k4, ars, d⟩ ++ b.drop p7 := by
      have hB : bytesM ⟨k1, k2, k3, k4, ars, d⟩ = putL k1.toNat ++ (putL k2.toNat ++ (putL k3.toNat ++ (putL k4.toNat ++ (putL ars.length ++ (flatN ars ++ (putL d.length ++ d)))))) := by
        unfold bytesM
        rw [flatN_append]
        simp [flatN, headM]
      rw [hB]
      simp only [List.append_assoc]
      rw [← v3, ← a5, ← s5, ← s4, ← s3, ← s2, ← s1, List.drop_zero]
    have hlen : (bytesM ⟨k1, k2, k3, k4, ars, d⟩).length = p7 := by
      have hB : bytesM ⟨k1, k2, k3, k4, ars, d⟩ = putL k1.toNat ++ (putL k2.toNat ++ (putL k3.toNat ++ (putL k4.toNat ++ (putL ars.length ++ (flatN ars ++ (putL d.length ++ d)))))) := by
        unfold bytesM
        rw [flatN_append]
        simp [flatN, headM]
      rw [hB]
      simp only [List.length_append]
      clear i1 i2 i3 i4 i5 i6
      have v2' : p7 = p6 + (putL d.length).length + d.length := v2
      omega
    have hpos := bytesM_pos ⟨k1, k2, k3, k4, ars, d⟩
    have hl := congrArg List.length hb
    rw [List.length_append, List.length_drop] at hl
    refine ⟨p7, rfl, by omega, by omega, ?_, hok⟩
    rw [msgL_of_ok hok]
    have : b.take p7 = bytesM ⟨k1, k2, k3, k4, ars, d⟩ := by
      conv => lhs; rw [hb, ← hlen]
      exact List.take_left
    rw [this]
end Go.Proofs.Ytbjgemipmlimoaa
