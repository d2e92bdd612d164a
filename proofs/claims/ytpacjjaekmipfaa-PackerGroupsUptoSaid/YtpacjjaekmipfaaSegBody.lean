/- Headers' and records' frames: plain laws. No program in sight. -/
import Derived.Test.YtpacjjaekmipfaaSegHead
namespace Go.Proofs.Ytpacjjaekmipfaa
open Go.RowKit

def OkRc (r : Rc) : Prop := I63 (recN r)
theorem checkL_ok {r : Rc} (h : checkL r = 0) : r.data.length ≤ 32768 ∧ ∀ n ∈ recN r, 0 ≤ n := by
  have h1 : r.data.length ≤ 32768 := by
    unfold checkL at h
    (repeat' split at h) <;> first | omega | (exfalso; omega)
  refine ⟨h1, fun n hn => ?_⟩
  have h2 : 0 ≤ r.kind ∧ 0 ≤ r.lba ∧ 0 ≤ r.n ∧ 0 ≤ r.ver ∧ 0 ≤ r.zone ∧ 0 ≤ r.off := by
    unfold checkL at h
    (repeat' split at h) <;> first | omega | (exfalso; omega)
  simp only [recN, List.mem_cons, List.not_mem_nil, or_false] at hn
  rcases hn with rfl | rfl | rfl | rfl | rfl | rfl <;> omega

/-- a record's body -/
def bodyR (r : Rc) : List UInt8 := flatN (recN r) ++ (putL r.data.length ++ r.data)
/-- a frame's bytes -/
def frB (x : List UInt8) : List UInt8 := putL x.length ++ x ++ fixL (crcL x)
theorem frameL_ok {x : List UInt8} (h : x.length ≤ 65536) : frameL x = (frB x, 0) := by
  unfold frameL vecL frB
  rw [if_pos h]; simp
theorem bodyR_le {r : Rc} (hr : OkRc r) (h : checkL r = 0) : (bodyR r).length ≤ 40000 := by
  have h1 := (checkL_ok h).1
  have h2 := flatN_len hr
  have h3 : (recN r).length = 6 := rfl
  have h4 := putL_len10 (n := r.data.length) (by omega)
  unfold bodyR
  simp only [List.length_append]
  omega
theorem recL_ok {r : Rc} (hr : OkRc r) (h : checkL r = 0) : recL r = (frB (bodyR r), 0) := by
  have h1 := checkL_ok h
  have hn : numsL (recN r) = (flatN (recN r), 0) := if_pos h1.2
  have hv : vecL r.data = (putL r.data.length ++ r.data, 0) := if_pos (by omega)
  unfold recL
  rw [if_neg (by simp [h]), hn, hv]
  simp only [ne_eq, not_true_eq_false, if_false]
  exact frameL_ok (by have := bodyR_le hr h; unfold bodyR at this; omega)
theorem recL_no {r : Rc} (h : checkL r ≠ 0) : recL r = ([], checkL r) := by unfold recL; rw [if_pos h]


theorem frB_len (x : List UInt8) : (frB x).length = (putL x.length).length + x.length + 4 := by simp [frB, fixL]; omega
theorem takeVec_put {x rest : List UInt8} (hx : x.length ≤ 65536) : takeVecL (putL x.length ++ (x ++ rest)) = (x, (((putL x.length).length + x.length : Nat) : Int), 0) := by
  have h := rvec_put (L := putL x.length ++ (x ++ rest)) (p := 0) hx rfl
  unfold takeVecL
  rw [h]; simp
theorem takeF_of {b x : List UInt8} {n e : Int} (h : takeVecL b = (x, n, e)) : takeF b = if e ≠ 0 then ([], 0, false) else (x, n + 4, decide ((takeFL (b.drop n.toNat)).2 = 0) && decide ((takeFL (b.drop n.toNat)).1 = crcL x)) := by
  unfold takeF
  rw [h]
theorem takeF_fr {x rest : List UInt8} (hx : x.length ≤ 65536) : takeF (frB x ++ rest) = (x, ((frB x).length : Int), true) := by
  have e : frB x ++ rest = putL x.length ++ (x ++ (fixL (crcL x) ++ rest)) := by simp [frB]
  have hd : (frB x ++ rest).drop ((putL x.length).length + x.length) = fixL (crcL x) ++ rest := by
    rw [e, ← List.append_assoc, ← List.length_append, List.drop_left]
  have ht : takeVecL (frB x ++ rest) = (x, (((putL x.length).length + x.length : Nat) : Int), 0) := by rw [e]; exact takeVec_put hx
  rw [takeF_of ht, if_neg (by simp), Int.toNat_natCast]
  obtain ⟨y, hy⟩ : ∃ y, takeFL ((frB x ++ rest).drop ((putL x.length).length + x.length)) = y := ⟨_, rfl⟩
  rw [hy]
  rw [hd, take_fix (crcL_lt x)] at hy
  subst hy
  rw [frB_len]
  simp
/-- of a frame that is cut nothing is taken -/
theorem takeF_cut {x : List UInt8} (hx : x.length ≤ 65536) {c : Nat} (hc : c < (frB x).length) : (takeF ((frB x).take c)).2.2 = false := by
  rw [frB_len] at hc
  unfold takeF
  by_cases h : c < (putL x.length).length + x.length
  · have hl : (frB x).drop 0 = putL x.length ++ (x ++ fixL (crcL x)) := by simp [frB]
    obtain ⟨q, h1⟩ := rvec_cut (L := frB x) (p := 0) (c := c) hx (Nat.zero_le _) hl (by omega)
    have h2 : (takeVecL ((frB x).take c)).2.2 ≠ 0 := by unfold takeVecL; rw [h1]; simp
    rw [if_pos h2]
  · have e : (frB x).take c = putL x.length ++ (x ++ (fixL (crcL x)).take (c - ((putL x.length).length + x.length))) := by
      unfold frB
      rw [List.take_append, List.take_of_length_le (by simp; omega), List.length_append, List.append_assoc]
    have hd : ((frB x).take c).drop ((putL x.length).length + x.length) = (fixL (crcL x)).take (c - ((putL x.length).length + x.length)) := by
      rw [e, ← List.append_assoc, ← List.length_append, List.drop_left]
    have hf := takeFL_short (b := (fixL (crcL x)).take (c - ((putL x.length).length + x.length))) (by simp [fixL]; omega)
    have ht : takeVecL ((frB x).take c) = (x, (((putL x.length).length + x.length : Nat) : Int), 0) := by rw [e]; exact takeVec_put hx
    have ho := takeF_of ht
    unfold takeF at ho
    rw [ho, if_neg (by simp), Int.toNat_natCast]
    obtain ⟨y, hy⟩ : ∃ y, takeFL (((frB x).take c).drop ((putL x.length).length + x.length)) = y := ⟨_, rfl⟩
    rw [hy]
    rw [hd, hf] at hy
    subst hy
    simp
end Go.Proofs.Ytpacjjaekmipfaa
