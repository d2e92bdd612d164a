/- The plain laws of wire's messages: what was written is read as what it was; cut, it is short; what is read is written as these bytes. No program in sight. -/
import Derived.Test.YtbjgemipmlimoaaWireTakeMsg
namespace Go.Proofs.Ytbjgemipmlimoaa
open Go.RowKit

theorem rnum_err {l : List UInt8} {p : Nat} {e : Int} (he : e ≠ 0) : rnum l (p, e) = (0, (p, e)) := if_pos he
theorem rmost_err {l : List UInt8} {m : Int} {p : Nat} {e : Int} (he : e ≠ 0) : rmost l m (p, e) = (0, (p, e)) := by
  unfold rmost; rw [rnum_err he, if_neg (fun h => he h.1)]
theorem rvec_err {l : List UInt8} {p : Nat} {e : Int} (he : e ≠ 0) : rvec l (p, e) = ([], (p, e)) := by
  have h1 : rvec1 l (p, e) = (0, (p, e)) := by unfold rvec1; rw [rmost_err he, if_neg (fun h => he h.1)]
  unfold rvec; rw [h1, if_pos he]
theorem tmArgs_err {l : List UInt8} {k : Int} {p : Nat} {e : Int} (he : e ≠ 0) : tmArgs l k (p, e) = ([], (p, e)) := if_neg he

/-- a number is read, or is short -/
theorem rnum_cut {L rest : List UInt8} {p c n : Nat} (hn : n < 9223372036854775808) (hp : p ≤ c) (h : L.drop p = putL n ++ rest) :
    rnum (L.take c) (p, 0) = if p + (putL n).length ≤ c then ((n : Int), (p + (putL n).length, 0)) else (0, (p, 20)) := by
  have hd : (L.take c).drop p = (putL n ++ rest).take (c - p) := by rw [List.drop_take, h]
  unfold rnum
  rw [if_neg (by simp)]
  simp only [hd]
  by_cases h2 : p + (putL n).length ≤ c
  · rw [if_pos h2]
    have e : (putL n ++ rest).take (c - p) = putL n ++ rest.take (c - p - (putL n).length) := by rw [List.take_append, List.take_of_length_le (by omega)]
    rw [e, takeL_put n _ (by omega), if_neg (by simp), if_neg (by simp only; omega)]
  · rw [if_neg h2]
    have e : (putL n ++ rest).take (c - p) = (putL n).take (c - p) := by rw [List.take_append_of_le_length (by omega)]
    rw [e, takeL_cut (by omega) (by omega), if_pos (by simp)]
    rfl
theorem rnum_put {L rest : List UInt8} {p n : Nat} (hn : n < 9223372036854775808) (h : L.drop p = putL n ++ rest) : rnum L (p, 0) = ((n : Int), (p + (putL n).length, 0)) := by
  have hl := congrArg List.length h
  rw [List.length_drop, List.length_append] at hl
  have hpos := putL_pos n
  have := rnum_cut (c := L.length) hn (by omega) h
  rw [List.take_length, if_pos (by omega)] at this
  exact this

theorem drop_add {L a rest : List UInt8} {p : Nat} (h : L.drop p = a ++ rest) : L.drop (p + a.length) = rest := by
  rw [← List.drop_drop, h, List.drop_left]

theorem rnums_cut {L : List UInt8} {c : Nat} : ∀ (ns : List Int) (rest : List UInt8) (p : Nat) (acc : List Int), (∀ n ∈ ns, 0 ≤ n ∧ n ≤ 9223372036854775807) → p ≤ c → L.drop p = flatN ns ++ rest →
    (p + (flatN ns).length ≤ c ∧ rnums (L.take c) ns.length acc (p, 0) = (acc ++ ns, (p + (flatN ns).length, 0))) ∨ (c < p + (flatN ns).length ∧ ∃ q, rnums (L.take c) ns.length acc (p, 0) = ([], (q, 20)))
  | [], rest, p, acc, _, hp, _ => by left; simp [flatN, rnums]; exact hp
  | n :: ns, rest, p, acc, h0, hp, h => by
    obtain ⟨k, rfl⟩ : ∃ k : Nat, n = (k : Int) := ⟨n.toNat, by have := h0 n (List.mem_cons_self ..); omega⟩
    have hk := h0 k (List.mem_cons_self ..)
    have hf : flatN ((k : Int) :: ns) = putL k ++ flatN ns := by simp [flatN]
    rw [hf, List.append_assoc] at h
    have hr := rnum_cut (by omega) hp h
    rw [hf, List.length_append, List.length_cons, rnums, hr]
    by_cases hc : p + (putL k).length ≤ c
    · rw [if_pos hc]
      simp only [ne_eq, not_true_eq_false, if_false]
      rcases rnums_cut ns rest (p + (putL k).length) (acc ++ [(k : Int)]) (fun m hm => h0 m (List.mem_cons_of_mem _ hm)) hc (drop_add h) with ⟨h1, h2⟩ | ⟨h1, h2⟩
      · left
        refine ⟨by omega, ?_⟩
        rw [h2]
        simp [Nat.add_assoc]
      · right
        exact ⟨by omega, h2⟩
    · rw [if_neg hc]
      right
      refine ⟨by omega, p, ?_⟩
      rw [if_pos (by simp)]
theorem rnums_put {L : List UInt8} (ns : List Int) (rest : List UInt8) (p : Nat) (acc : List Int) (h0 : ∀ n ∈ ns, 0 ≤ n ∧ n ≤ 9223372036854775807) (hp : p ≤ L.length) (h : L.drop p = flatN ns ++ rest) :
    rnums L ns.length acc (p, 0) = (acc ++ ns, (p + (flatN ns).length, 0)) := by
  have hl := congrArg List.length h
  rw [List.length_drop, List.length_append] at hl
  rcases rnums_cut (c := L.length) ns rest p acc h0 hp h with ⟨_, h2⟩ | ⟨h1, _⟩
  · rwa [List.take_length] at h2
  · omega

theorem rvec_put {L d rest : List UInt8} {p : Nat} (hd : d.length ≤ 65536) (h : L.drop p = putL d.length ++ (d ++ rest)) : rvec L (p, 0) = (d, (p + (putL d.length).length + d.length, 0)) := by
  have hl := congrArg List.length h
  rw [List.length_drop, List.length_append, List.length_append] at hl
  have hpos := putL_pos d.length
  have h1 := rnum_put (by omega) h
  have h2 : rmost L 65536 (p, 0) = ((d.length : Int), (p + (putL d.length).length, 0)) := by
    unfold rmost; rw [h1, if_neg (by simp only; omega)]
  have h3 : rvec1 L (p, 0) = ((d.length : Int), (p + (putL d.length).length, 0)) := by
    unfold rvec1; rw [h2, if_neg (by simp only; omega)]
  unfold rvec
  rw [h3, if_neg (by simp)]
  simp only [Int.toNat_natCast]
  rw [drop_add h, List.take_left]
theorem rvec_cut {L d rest : List UInt8} {p c : Nat} (hd : d.length ≤ 65536) (hp : p ≤ c) (h : L.drop p = putL d.length ++ (d ++ rest)) (hc : c < p + (putL d.length).length + d.length) :
    ∃ q, rvec (L.take c) (p, 0) = ([], (q, 20)) := by
  have hl := congrArg List.length h
  rw [List.length_drop, List.length_append, List.length_append] at hl
  have hpos := putL_pos d.length
  have h1 := rnum_cut (by omega) hp h
  by_cases h4 : p + (putL d.length).length ≤ c
  · rw [if_pos h4] at h1
    have h2 : rmost (L.take c) 65536 (p, 0) = ((d.length : Int), (p + (putL d.length).length, 0)) := by
      unfold rmost; rw [h1, if_neg (by simp only; omega)]
    have hlc : (L.take c).length = c := by rw [List.length_take]; omega
    have h3 : rvec1 (L.take c) (p, 0) = ((d.length : Int), (p + (putL d.length).length, 20)) := by
      unfold rvec1; rw [h2, if_pos (by simp only; rw [hlc]; exact ⟨trivial, by omega⟩)]
    exact ⟨_, by unfold rvec; rw [h3, if_pos (by simp)]⟩
  · rw [if_neg h4] at h1
    have h2 : rmost (L.take c) 65536 (p, 0) = (0, (p, 20)) := by unfold rmost; rw [h1, if_neg (by simp)]
    have h3 : rvec1 (L.take c) (p, 0) = (0, (p, 20)) := by unfold rvec1; rw [h2, if_neg (by simp)]
    exact ⟨p, by unfold rvec; rw [h3, if_pos (by simp)]⟩

/-- a message that may be written -/
def okM (m : Ms) : Prop := (∀ n ∈ headM m ++ m.args, 0 ≤ n ∧ n ≤ 9223372036854775807) ∧ m.args.length ≤ 64 ∧ m.data.length ≤ 65536
def bytesM (m : Ms) : List UInt8 := flatN (headM m ++ m.args) ++ (putL m.data.length ++ m.data)
theorem msgL_ok {m : Ms} (h63 : I63 [m.kind, m.frm, m.to, m.id]) (ha : I63 m.args) (h : (msgL m).2 = 0) : okM m ∧ msgL m = (bytesM m, 0) := by
  unfold msgL at h ⊢
  split at h
  · rename_i h1; exact absurd h h1
  · rename_i h1
    rw [if_neg h1]
    split at h
    · simp at h
    · rename_i h2
      rw [if_neg h2]
      split at h
      · rename_i h3; exact absurd h h3
      · rename_i h3
        rw [if_neg h3]
        have hd : m.data.length ≤ 65536 := by
          unfold vecL at h3
          split at h3
          · assumption
          · simp at h3
        have hn : ∀ n ∈ headM m ++ m.args, 0 ≤ n := by
          unfold numsL at h1
          split at h1
          · assumption
          · simp at h1
        refine ⟨⟨fun n hn' => ⟨hn n hn', ?_⟩, by omega, hd⟩, ?_⟩
        · rcases List.mem_append.1 hn' with hm | hm
          · unfold headM at hm
            simp only [List.mem_cons, List.not_mem_nil, or_false] at hm
            rcases hm with rfl | rfl | rfl | rfl | rfl
            · exact (h63 _ (by simp)).2
            · exact (h63 _ (by simp)).2
            · exact (h63 _ (by simp)).2
            · exact (h63 _ (by simp)).2
            · omega
          · exact (ha n hm).2
        · unfold numsL vecL bytesM
          rw [if_pos hn, if_pos hd]
theorem msgL_err {m : Ms} (h : (msgL m).2 ≠ 0) : (msgL m).1 = [] := by
  unfold msgL at h ⊢
  repeat' split
  all_goals first | rfl | (exfalso; simp_all)
theorem bytesM_pos (m : Ms) : 0 < (bytesM m).length := by
  have := putL_pos m.data.length
  unfold bytesM; simp; omega

theorem bytesM_split (m : Ms) (h : okM m) : ∃ a b c d k : Nat, m.kind = a ∧ m.frm = b ∧ m.to = c ∧ m.id = d ∧ m.args.length = k ∧ a < 9223372036854775808 ∧ b < 9223372036854775808 ∧ c < 9223372036854775808 ∧ d < 9223372036854775808 ∧
    bytesM m = putL a ++ (putL b ++ (putL c ++ (putL d ++ (putL k ++ (flatN m.args ++ (putL m.data.length ++ m.data)))))) := by
  obtain ⟨h1, h2, h3⟩ := h
  have ha := h1 m.kind (by simp [headM])
  have hb := h1 m.frm (by simp [headM])
  have hc := h1 m.to (by simp [headM])
  have hd := h1 m.id (by simp [headM])
  refine ⟨m.kind.toNat, m.frm.toNat, m.to.toNat, m.id.toNat, m.args.length, by omega, by omega, by omega, by omega, rfl, by omega, by omega, by omega, by omega, ?_⟩
  unfold bytesM
  rw [flatN_append]
  simp [flatN, headM]

set_option maxHeartbeats 1000000 in
/-- what was written is read as what it was, whatever stands behind it -/
theorem takeMsg_back {m : Ms} (h : okM m) (rest : List UInt8) : takeMsgL (bytesM m ++ rest) = (m, ((bytesM m).length : Int), 0) := by
  obtain ⟨a, b, c, d, k, ea, eb, ec, ed, ek, ha, hb, hc, hd, hs⟩ := bytesM_split m h
  obtain ⟨h1, h2, h3⟩ := h
  have hL : bytesM m ++ rest = putL a ++ (putL b ++ (putL c ++ (putL d ++ (putL k ++ (flatN m.args ++ (putL m.data.length ++ (m.data ++ rest))))))) := by rw [hs]; simp
  have hlen := congrArg List.length hs
  generalize hLL : bytesM m ++ rest = L at hL
  have d0 : L.drop 0 = putL a ++ (putL b ++ (putL c ++ (putL d ++ (putL k ++ (flatN m.args ++ (putL m.data.length ++ (m.data ++ rest))))))) := hL
  have r1 := rnum_put ha d0
  have d1 := drop_add d0
  have r2 := rnum_put hb d1
  have d2 := drop_add d1
  have r3 := rnum_put hc d2
  have d3 := drop_add d2
  have r4 := rnum_put hd d3
  have d4 := drop_add d3
  have r5 := rnum_put (by omega) d4
  have d5 := drop_add d4
  have r5' : rmost L 64 (0 + (putL a).length + (putL b).length + (putL c).length + (putL d).length, 0) = ((k : Int), (0 + (putL a).length + (putL b).length + (putL c).length + (putL d).length + (putL k).length, 0)) := by
    unfold rmost; rw [r5, if_neg (by simp only; omega)]
  have hp5 : 0 + (putL a).length + (putL b).length + (putL c).length + (putL d).length + (putL k).length ≤ L.length := by
    have := congrArg List.length hL; simp only [List.length_append] at this; omega
  have r6 := rnums_put m.args (putL m.data.length ++ (m.data ++ rest)) _ [] (fun n hn => h1 n (List.mem_append_right _ hn)) hp5 d5
  have d6 := drop_add d5
  have r7 := rvec_put h3 d6
  have h6 : tmHead L = ((a : Int), (b : Int), (c : Int), (d : Int), (k : Int), (0 + (putL a).length + (putL b).length + (putL c).length + (putL d).length + (putL k).length, 0)) := by
    unfold tmHead
    simp only [r1, r2, r3, r4, r5']
  have h7 : tmArgs L (k : Int) (0 + (putL a).length + (putL b).length + (putL c).length + (putL d).length + (putL k).length, 0) = (m.args, (0 + (putL a).length + (putL b).length + (putL c).length + (putL d).length + (putL k).length + (flatN m.args).length, 0)) := by
    unfold tmArgs
    rw [if_pos rfl, Int.toNat_natCast]
    rw [ek] at r6
    rw [r6, List.nil_append]
  unfold takeMsgL
  simp only [h6, h7, r7]
  rw [if_neg (by simp)]
  simp only [List.length_append] at hlen
  rw [← ea, ← eb, ← ec, ← ed, hlen]
  simp only [Prod.mk.injEq, true_and, and_true]
  omega

set_option maxHeartbeats 1000000 in
/-- cut, it is short -/
theorem takeMsg_cut {m : Ms} (h : okM m) {cut : Nat} (hcut : cut < (bytesM m).length) : takeMsgL ((bytesM m).take cut) = (m0s, 0, 20) := by
  obtain ⟨a, b, c, d, k, ea, eb, ec, ed, ek, ha, hb, hc, hd, hs⟩ := bytesM_split m h
  obtain ⟨h1, h2, h3⟩ := h
  have hlen := congrArg List.length hs
  simp only [List.length_append] at hlen
  generalize bytesM m = L at hs hlen hcut ⊢
  have d0 : L.drop 0 = putL a ++ (putL b ++ (putL c ++ (putL d ++ (putL k ++ (flatN m.args ++ (putL m.data.length ++ m.data)))))) := hs
  have d1 := drop_add d0
  have d2 := drop_add d1
  have d3 := drop_add d2
  have d4 := drop_add d3
  have d5 := drop_add d4
  have d6 := drop_add d5
  have bad : ∀ (x y z u : Int) (q : Nat), tmHead (L.take cut) = (x, y, z, u, 0, (q, 20)) → takeMsgL (L.take cut) = (m0s, 0, 20) := by
    intro x y z u q hh
    unfold takeMsgL
    simp only [hh]
    rw [tmArgs_err (by decide)]
    simp only
    rw [rvec_err (by decide)]
    rfl
  have hE : ∀ q : Nat, rnum (L.take cut) (q, 20) = (0, (q, 20)) := fun q => rnum_err (by decide)
  have hM : ∀ q : Nat, rmost (L.take cut) 64 (q, 20) = (0, (q, 20)) := fun q => rmost_err (by decide)
  have r1 := rnum_cut (c := cut) ha (Nat.zero_le _) d0
  by_cases c1 : 0 + (putL a).length ≤ cut
  · rw [if_pos c1] at r1
    have r2 := rnum_cut hb c1 d1
    by_cases c2 : 0 + (putL a).length + (putL b).length ≤ cut
    · rw [if_pos c2] at r2
      have r3 := rnum_cut hc c2 d2
      by_cases c3 : 0 + (putL a).length + (putL b).length + (putL c).length ≤ cut
      · rw [if_pos c3] at r3
        have r4 := rnum_cut hd c3 d3
        by_cases c4 : 0 + (putL a).length + (putL b).length + (putL c).length + (putL d).length ≤ cut
        · rw [if_pos c4] at r4
          have r5 := rnum_cut (by omega) c4 d4
          by_cases c5 : 0 + (putL a).length + (putL b).length + (putL c).length + (putL d).length + (putL k).length ≤ cut
          · rw [if_pos c5] at r5
            have r5' : rmost (L.take cut) 64 (0 + (putL a).length + (putL b).length + (putL c).length + (putL d).length, 0) = ((k : Int), (0 + (putL a).length + (putL b).length + (putL c).length + (putL d).length + (putL k).length, 0)) := by
              unfold rmost; rw [r5, if_neg (by simp only; omega)]
            have h6 : tmHead (L.take cut) = ((a : Int), (b : Int), (c : Int), (d : Int), (k : Int), (0 + (putL a).length + (putL b).length + (putL c).length + (putL d).length + (putL k).length, 0)) := by
              unfold tmHead
              simp only [r1, r2, r3, r4, r5']
            rcases rnums_cut m.args (putL m.data.length ++ m.data) _ [] (fun n hn => h1 n (List.mem_append_right _ hn)) c5 d5 with ⟨c6, r6⟩ | ⟨c6, q, r6⟩
            · obtain ⟨q, r7⟩ := rvec_cut (rest := []) h3 c6 (by rw [List.append_nil]; exact d6) (by omega)
              unfold takeMsgL tmArgs
              simp only [h6, if_true, Int.toNat_natCast]
              rw [ek] at r6
              rw [r6]
              simp only
              rw [r7]
              rfl
            · unfold takeMsgL tmArgs
              simp only [h6, if_true, Int.toNat_natCast]
              rw [ek] at r6
              rw [r6]
              simp only
              rw [rvec_err (by decide)]
              rfl
          · rw [if_neg c5] at r5
            have r5' : rmost (L.take cut) 64 (0 + (putL a).length + (putL b).length + (putL c).length + (putL d).length, 0) = (0, (0 + (putL a).length + (putL b).length + (putL c).length + (putL d).length, 20)) := by
              unfold rmost; rw [r5, if_neg (by simp)]
            exact bad _ _ _ _ _ (by unfold tmHead; simp only [r1, r2, r3, r4, r5']; rfl)
        · rw [if_neg c4] at r4
          exact bad _ _ _ _ _ (by unfold tmHead; simp only [r1, r2, r3, r4, hM]; rfl)
      · rw [if_neg c3] at r3
        exact bad _ _ _ _ _ (by unfold tmHead; simp only [r1, r2, r3, hE, hM]; rfl)
    · rw [if_neg c2] at r2
      exact bad _ _ _ _ _ (by unfold tmHead; simp only [r1, r2, hE, hM]; rfl)
  · rw [if_neg c1] at r1
    exact bad _ _ _ _ _ (by unfold tmHead; simp only [r1, hE, hM]; rfl)
end Go.Proofs.Ytbjgemipmlimoaa
