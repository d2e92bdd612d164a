/- The plain laws of wire's messages: what was written is read as what it was; cut, it is short; what is read is written as these bytes. No program in sight. -/
/- What wire reads is written as these very bytes: plain laws. No program in sight. -/
import Derived.Test.YtbjgemipmlimoaaLawsN
import Derived.Test.YtbjgemipmlimoaaWireTakeMsg
namespace Go.Proofs.Ytbjgemipmlimoaa
open Go.RowKit
theorem tmArgs_err {l : List UInt8} {k : Int} {p : Nat} {e : Int} (he : e ≠ 0) : tmArgs l k (p, e) = ([], (p, e)) := if_neg he

/-- a message that may be written -/
def okM (m : Ms) : Prop := (∀ n ∈ headM m ++ m.args, 0 ≤ n ∧ n ≤ 9223372036854775807) ∧ m.args.length ≤ 64 ∧ m.data.length ≤ 65536
def bytesM (m : Ms) : List UInt8 := flatN (headM m ++ m.args) ++ (putL m.data.length ++ m.data)
theorem msgL_ok {m : Ms} (h63 : I63 [m.kind, m.frm, m.to, m.id]) (ha : I63 m.args) (h : (msgL m).2 = 0) : okM m ∧ msgL m = (bytesM m, 0) := by
  unfold msgL at h ⊢
  split at h
  · rename_i h1; exact absurd h h1
  · rename_i h1
    rw [if_neg h1]
    split at h
    · simp at h
    · rename_i h2
      rw [if_neg h2]
      split at h
      · rename_i h3; exact absurd h h3
      · rename_i h3
        rw [if_neg h3]
        have hd : m.data.length ≤ 65536 := by
          unfold vecL at h3
          split at h3
          · assumption
          · simp at h3
        have hn : ∀ n ∈ headM m ++ m.args, 0 ≤ n := by
          unfold numsL at h1
          split at h1
          · assumption
          · simp at h1
        refine ⟨⟨fun n hn' => ⟨hn n hn', ?_⟩, by omega, hd⟩, ?_⟩
        · rcases List.mem_append.1 hn' with hm | hm
          · unfold headM at hm
            simp only [List.mem_cons, List.not_mem_nil, or_false] at hm
            rcases hm with rfl | rfl | rfl | rfl | rfl
            · exact (h63 _ (by simp)).2
            · exact (h63 _ (by simp)).2
            · exact (h63 _ (by simp)).2
            · exact (h63 _ (by simp)).2
            · omega
          · exact (ha n hm).2
        · unfold numsL vecL bytesM
          rw [if_pos hn, if_pos hd]
theorem msgL_err {m : Ms} (h : (msgL m).2 ≠ 0) : (msgL m).1 = [] := by
  unfold msgL at h ⊢
  repeat' split
  all_goals first | rfl | (exfalso; simp_all)
theorem bytesM_pos (m : Ms) : 0 < (bytesM m).length := by
  have := putL_pos m.data.length
  unfold bytesM; simp; omega

theorem bytesM_split (m : Ms) (h : okM m) : ∃ a b c d k : Nat, m.kind = a ∧ m.frm = b ∧ m.to = c ∧ m.id = d ∧ m.args.length = k ∧ a < 9223372036854775808 ∧ b < 9223372036854775808 ∧ c < 9223372036854775808 ∧ d < 9223372036854775808 ∧
    bytesM m = putL a ++ (putL b ++ (putL c ++ (putL d ++ (putL k ++ (flatN m.args ++ (putL m.data.length ++ m.data)))))) := by
  obtain ⟨h1, h2, h3⟩ := h
  have ha := h1 m.kind (by simp [headM])
  have hb := h1 m.frm (by simp [headM])
  have hc := h1 m.to (by simp [headM])
  have hd := h1 m.id (by simp [headM])
  refine ⟨m.kind.toNat, m.frm.toNat, m.to.toNat, m.id.toNat, m.args.length, by omega, by omega, by omega, by omega, rfl, by omega, by omega, by omega, by omega, ?_⟩
  unfold bytesM
  rw [flatN_append]
  simp [flatN, headM]

set_option maxHeartbeats 1000000 in
/-- what was written is read as what it was, whatever stands behind it -/
theorem takeMsg_back {m : Ms} (h : okM m) (rest : List UInt8) : takeMsgL (bytesM m ++ rest) = (m, ((bytesM m).length : Int), 0) := by
  obtain ⟨a, b, c, d, k, ea, eb, ec, ed, ek, ha, hb, hc, hd, hs⟩ := bytesM_split m h
  obtain ⟨h1, h2, h3⟩ := h
  have hL : bytesM m ++ rest = putL a ++ (putL b ++ (putL c ++ (putL d ++ (putL k ++ (flatN m.args ++ (putL m.data.length ++ (m.data ++ rest))))))) := by rw [hs]; simp
  have hlen := congrArg List.length hs
  generalize hLL : bytesM m ++ rest = L at hL
  have d0 : L.drop 0 = putL a ++ (putL b ++ (putL c ++ (putL d ++ (putL k ++ (flatN m.args ++ (putL m.data.length ++ (m.data ++ rest))))))) := hL
  have r1 := rnum_put ha d0
  have d1 := drop_add d0
  have r2 := rnum_put hb d1
  have d2 := drop_add d1
  have r3 := rnum_put hc d2
  have d3 := drop_add d2
  have r4 := rnum_put hd d3
  have d4 := drop_add d3
  have r5 := rnum_put (by omega) d4
  have d5 := drop_add d4
  have r5' : rmost L 64 (0 + (putL a).length + (putL b).length + (putL c).length + (putL d).length, 0) = ((k : Int), (0 + (putL a).length + (putL b).length + (putL c).length + (putL d).length + (putL k).length, 0)) := by
    unfold rmost; rw [r5, if_neg (by simp only; omega)]
  have hp5 : 0 + (putL a).length + (putL b).length + (putL c).length + (putL d).length + (putL k).length ≤ L.length := by
    have := congrArg List.length hL; simp only [List.length_append] at this; omega
  have r6 := rnums_put m.args (putL m.data.length ++ (m.data ++ rest)) _ [] (fun n hn => h1 n (List.mem_append_right _ hn)) hp5 d5
  have d6 := drop_add d5
  have r7 := rvec_put h3 d6
  have h6 : tmHead L = ((a : Int), (b : Int), (c : Int), (d : Int), (k : Int), (0 + (putL a).length + (putL b).length + (putL c).length + (putL d).length + (putL k).length, 0)) := by
    unfold tmHead
    simp only [r1, r2, r3, r4, r5']
  have h7 : tmArgs L (k : Int) (0 + (putL a).length + (putL b).length + (putL c).length + (putL d).length + (putL k).length, 0) = (m.args, (0 + (putL a).length + (putL b).length + (putL c).length + (putL d).length + (putL k).length + (flatN m.args).length, 0)) := by
    unfold tmArgs
    rw [if_pos rfl, Int.toNat_natCast]
    rw [ek] at r6
    rw [r6, List.nil_append]
  unfold takeMsgL
  simp only [h6, h7, r7]
  rw [if_neg (by simp)]
  simp only [List.length_append] at hlen
  rw [← ea, ← eb, ← ec, ← ed, hlen]
  simp only [Prod.mk.injEq, true_and, and_true]
  omega

set_option maxHeartbeats 1000000 in
/-- cut, it is short -/
theorem takeMsg_cut {m : Ms} (h : okM m) {cut : Nat} (hcut : cut < (bytesM m).length) : takeMsgL ((bytesM m).take cut) = (m0s, 0, 20) := by
  obtain ⟨a, b, c, d, k, ea, eb, ec, ed, ek, ha, hb, hc, hd, hs⟩ := bytesM_split m h
  obtain ⟨h1, h2, h3⟩ := h
  have hlen := congrArg List.length hs
  simp only [List.length_append] at hlen
  generalize bytesM m = L at hs hlen hcut ⊢
  have d0 : L.drop 0 = putL a ++ (putL b ++ (putL c ++ (putL d ++ (putL k ++ (flatN m.args ++ (putL m.data.length ++ m.data)))))) := hs
  have d1 := drop_add d0
  have d2 := drop_add d1
  have d3 := drop_add d2
  have d4 := drop_add d3
  have d5 := drop_add d4
  have d6 := drop_add d5
  have bad : ∀ (x y z u : Int) (q : Nat), tmHead (L.take cut) = (x, y, z, u, 0, (q, 20)) → takeMsgL (L.take cut) = (m0s, 0, 20) := by
    intro x y z u q hh
    unfold takeMsgL
    simp only [hh]
    rw [tmArgs_err (by decide)]
    simp only
    rw [rvec_err (by decide)]
    rfl
  have hE : ∀ q : Nat, rnum (L.take cut) (q, 20) = (0, (q, 20)) := fun q => rnum_err (by decide)
  have hM : ∀ q : Nat, rmost (L.take cut) 64 (q, 20) = (0, (q, 20)) := fun q => rmost_err (by decide)
  have r1 := rnum_cut (c := cut) ha (Nat.zero_le _) d0
  by_cases c1 : 0 + (putL a).length ≤ cut
  · rw [if_pos c1] at r1
    have r2 := rnum_cut hb c1 d1
    by_cases c2 : 0 + (putL a).length + (putL b).length ≤ cut
    · rw [if_pos c2] at r2
      have r3 := rnum_cut hc c2 d2
      by_cases c3 : 0 + (putL a).length + (putL b).length + (putL c).length ≤ cut
      · rw [if_pos c3] at r3
        have r4 := rnum_cut hd c3 d3
        by_cases c4 : 0 + (putL a).length + (putL b).length + (putL c).length + (putL d).length ≤ cut
        · rw [if_pos c4] at r4
          have r5 := rnum_cut (by omega) c4 d4
          by_cases c5 : 0 + (putL a).length + (putL b).length + (putL c).length + (putL d).length + (putL k).length ≤ cut
          · rw [if_pos c5] at r5
            have r5' : rmost (L.take cut) 64 (0 + (putL a).length + (putL b).length + (putL c).length + (putL d).length, 0) = ((k : Int), (0 + (putL a).length + (putL b).length + (putL c).length + (putL d).length + (putL k).length, 0)) := by
              unfold rmost; rw [r5, if_neg (by simp only; omega)]
            have h6 : tmHead (L.take cut) = ((a : Int), (b : Int), (c : Int), (d : Int), (k : Int), (0 + (putL a).length + (putL b).length + (putL c).length + (putL d).length + (putL k).length, 0)) := by
              unfold tmHead
              simp only [r1, r2, r3, r4, r5']
            rcases rnums_cut m.args (putL m.data.length ++ m.data) _ [] (fun n hn => h1 n (List.mem_append_right _ hn)) c5 d5 with ⟨c6, r6⟩ | ⟨c6, q, r6⟩
            · obtain ⟨q, r7⟩ := rvec_cut (rest := []) h3 c6 (by rw [List.append_nil]; exact d6) (by omega)
              unfold takeMsgL tmArgs
              simp only [h6, if_true, Int.toNat_natCast]
              rw [ek] at r6
              rw [r6]
              simp only
              rw [r7]
              rfl
            · unfold takeMsgL tmArgs
              simp only [h6, if_true, Int.toNat_natCast]
              rw [ek] at r6
              rw [r6]
              simp only
              rw [rvec_err (by decide)]
              rfl
          · rw [if_neg c5] at r5
            have r5' : rmost (L.take cut) 64 (0 + (putL a).length + (putL b).length + (putL c).length + (putL d).length, 0) = (0, (0 + (putL a).length + (putL b).length + (putL c).length + (putL d).length, 20)) := by
              unfold rmost; rw [r5, if_neg (by simp)]
            exact bad _ _ _ _ _ (by unfold tmHead; simp only [r1, r2, r3, r4, r5']; rfl)
        · rw [if_neg c4] at r4
          exact bad _ _ _ _ _ (by unfold tmHead; simp only [r1, r2, r3, r4, hM]; rfl)
      · rw [if_neg c3] at r3
        exact bad _ _ _ _ _ (by unfold tmHead; simp only [r1, r2, r3, hE, hM]; rfl)
    · rw [if_neg c2] at r2
      exact bad _ _ _ _ _ (by unfold tmHead; simp only [r1, r2, hE, hM]; rfl)
  · rw [if_neg c1] at r1
    exact bad _ _ _ _ _ (by unfold tmHead; simp only [r1, hE, hM]; rfl)
end Go.Proofs.Ytbjgemipmlimoaa
namespace Go.Proofs.Ytbjgemipmlimoaa
open Go.RowKit

theorem msgL_of_ok {m : Ms} (h : okM m) : msgL m = (bytesM m, 0) := by
  obtain ⟨h1, h2, h3⟩ := h
  have hn : numsL (headM m ++ m.args) = (flatN (headM m ++ m.args), 0) := if_pos (fun n hn => (h1 n hn).1)
  have hv : vecL m.data = (putL m.data.length ++ m.data, 0) := if_pos h3
  unfold msgL
  rw [hn, hv, if_neg (by simp), if_neg (by omega), if_neg (by simp)]
  rfl

theorem takeMsg_err {b : List UInt8} (h : (takeMsgL b).2.2 ≠ 0) : (takeMsgL b).2.1 = 0 := by
  unfold takeMsgL at h ⊢
  simp only at h ⊢
  split
  · rfl
  · rename_i h1; rw [if_neg h1] at h; exact absurd rfl h

set_option maxHeartbeats 1000000 in
theorem takeMsg_one {b : List UInt8} {m : Ms} {k : Int} (h : takeMsgL b = (m, k, 0)) : ∃ j : Nat, k = j ∧ 1 ≤ j ∧ j ≤ b.length ∧ msgL m = (b.take j, 0) ∧ okM m := by
  unfold takeMsgL tmHead at h
  simp only at h
  obtain ⟨⟨k1, p1, e1⟩, hx1⟩ : ∃ x, rnum b (0, 0) = x := ⟨_, rfl⟩
  have i1 := rnum_in (l := b) (s := (0, 0)) (Nat.zero_le _)
  rw [hx1] at h i1
  obtain ⟨⟨k2, p2, e2⟩, hx2⟩ : ∃ x, rnum b (p1, e1) = x := ⟨_, rfl⟩
  have i2 := rnum_in (l := b) (s := (p1, e1)) i1.1
  simp only at h
  rw [hx2] at h i2
  obtain ⟨⟨k3, p3, e3⟩, hx3⟩ : ∃ x, rnum b (p2, e2) = x := ⟨_, rfl⟩
  have i3 := rnum_in (l := b) (s := (p2, e2)) i2.1
  simp only at h
  rw [hx3] at h i3
  obtain ⟨⟨k4, p4, e4⟩, hx4⟩ : ∃ x, rnum b (p3, e3) = x := ⟨_, rfl⟩
  have i4 := rnum_in (l := b) (s := (p3, e3)) i3.1
  simp only at h
  rw [hx4] at h i4
  obtain ⟨⟨k5, p5, e5⟩, hx5⟩ : ∃ x, rmost b 64 (p4, e4) = x := ⟨_, rfl⟩
  have i5 := rmost_in (l := b) (s := (p4, e4)) 64 i4.1
  simp only at h
  rw [hx5] at h i5
  simp only at h i5
  obtain ⟨⟨ars, p6, e6⟩, hx6⟩ : ∃ x, tmArgs b k5 (p5, e5) = x := ⟨_, rfl⟩
  rw [hx6] at h
  simp only at h
  split at h
  · rename_i h1; simp only [Prod.mk.injEq] at h; exact absurd h.2.2 h1
  · rename_i h1
    obtain ⟨⟨d, p7, e7⟩, hx7⟩ : ∃ x, rvec b (p6, e6) = x := ⟨_, rfl⟩
    rw [hx7] at h h1
    have he7 : e7 = 0 := Decidable.not_not.1 h1
    subst he7
    simp only [Prod.mk.injEq, and_true] at h
    obtain ⟨rfl, rfl⟩ := h
    have h6 : e5 = 0 := by
      by_cases h5 : e5 = 0
      · exact h5
      · rw [tmArgs_err h5] at hx6
        simp only [Prod.mk.injEq] at hx6
        obtain ⟨_, rfl, rfl⟩ := hx6
        rw [rvec_err h5] at hx7
        simp only [Prod.mk.injEq] at hx7
        exact absurd hx7.2.2 h5
    subst h6
    unfold tmArgs at hx6
    rw [if_pos rfl] at hx6
    have i6 := rnums_in (l := b) k5.toNat [] (p5, 0) i5.1 (by simp) (fun _ h => by cases h) rfl
    rw [hx6] at i6
    obtain ⟨rfl, v1, v2, v3⟩ := rvec_inv i6.1 hx7
    obtain ⟨ns, a1, a2, a3, a4, a5⟩ := rnums_inv k5.toNat [] ars p5 p6 0 rfl hx6
    rw [List.nil_append] at a1
    subst a1
    obtain ⟨hx5', hk5⟩ := rmost_inv hx5
    obtain ⟨rfl, n5, m5, q5, s5⟩ := rnum_inv hx5'
    obtain ⟨rfl, n4, m4, q4, s4⟩ := rnum_inv hx4
    obtain ⟨rfl, n3, m3', q3, s3⟩ := rnum_inv hx3
    obtain ⟨rfl, n2, m2, q2, s2⟩ := rnum_inv hx2
    obtain ⟨_, n1, m1', q1, s1⟩ := rnum_inv hx1
    have hk : k5 = (ars.length : Int) := by omega
    subst hk
    rw [Int.toNat_natCast] at q5 s5
    have hok : okM ⟨k1, k2, k3, k4, ars, d⟩ := by
      refine ⟨fun n hn => ?_, by show ars.length ≤ 64; omega, v1⟩
      rcases List.mem_append.1 hn with hm | hm
      · unfold headM at hm
        simp only [List.mem_cons, List.not_mem_nil, or_false] at hm
        rcases hm with rfl | rfl | rfl | rfl | rfl
        · exact ⟨n1, m1'⟩
        · exact ⟨n2, m2⟩
        · exact ⟨n3, m3'⟩
        · exact ⟨n4, m4⟩
        · exact ⟨n5, m5⟩
      · exact a3 n hm
    have hb : b = bytesM ⟨k1, k2, k3, k4, ars, d⟩ ++ b.drop p7 := by
      have hB : bytesM ⟨k1, k2, k3, k4, ars, d⟩ = putL k1.toNat ++ (putL k2.toNat ++ (putL k3.toNat ++ (putL k4.toNat ++ (putL ars.length ++ (flatN ars ++ (putL d.length ++ d)))))) := by
        unfold bytesM
        rw [flatN_append]
        simp [flatN, headM]
      rw [hB]
      simp only [List.append_assoc]
      rw [← v3, ← a5, ← s5, ← s4, ← s3, ← s2, ← s1, List.drop_zero]
    have hlen : (bytesM ⟨k1, k2, k3, k4, ars, d⟩).length = p7 := by
      have hB : bytesM ⟨k1, k2, k3, k4, ars, d⟩ = putL k1.toNat ++ (putL k2.toNat ++ (putL k3.toNat ++ (putL k4.toNat ++ (putL ars.length ++ (flatN ars ++ (putL d.length ++ d)))))) := by
        unfold bytesM
        rw [flatN_append]
        simp [flatN, headM]
      rw [hB]
      simp only [List.length_append]
      clear i1 i2 i3 i4 i5 i6
      have v2' : p7 = p6 + (putL d.length).length + d.length := v2
      omega
    have hpos := bytesM_pos ⟨k1, k2, k3, k4, ars, d⟩
    have hl := congrArg List.length hb
    rw [List.length_append, List.length_drop] at hl
    refine ⟨p7, rfl, by omega, by omega, ?_, hok⟩
    rw [msgL_of_ok hok]
    have : b.take p7 = bytesM ⟨k1, k2, k3, k4, ars, d⟩ := by
      conv => lhs; rw [hb, ← hlen]
      exact List.take_left
    rw [this]
end Go.Proofs.Ytbjgemipmlimoaa
