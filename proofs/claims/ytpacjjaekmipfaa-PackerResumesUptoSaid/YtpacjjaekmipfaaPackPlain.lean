/- What packer computes, as plain functions. No program in sight. -/
import Derived.Test.YtpacjjaekmipfaaSegBody
namespace Go.Proofs.Ytpacjjaekmipfaa

/-- a pack -/
structure Pk where
  h : Hd
  zone : Int
  cap : Int
  at_ : Int
  buf : List UInt8
  l : List Rc
def p0k : Pk := ⟨⟨0, 0, 0⟩, 0, 0, 0, [], []⟩
def roomL (p : Pk) : Int := max (p.cap - p.at_ - p.buf.length) 0
/-- records' frames, one behind the other -/
def frsL : List Rc → List UInt8
  | [] => []
  | r :: l => (recL r).1 ++ frsL l
/-- why records may not be, the first one's reason -/
def errL : List Rc → Int
  | [] => 0
  | r :: l => if (recL r).2 ≠ 0 then (recL r).2 else errL l
/-- where records' bytes stand -/
def plsL : Int → List Rc → List Int
  | _, [] => []
  | b, r :: l => (b + (recL r).1.length - 4 - r.data.length) :: plsL (b + (recL r).1.length) l
def addL (p : Pk) (l : List Rc) : Pk × List Int × Int :=
  if errL l ≠ 0 then (p0k, [], errL l)
  else if roomL p < (frsL l).length then (p0k, [], 40)
  else (⟨p.h, p.zone, p.cap, p.at_, p.buf ++ frsL l, p.l ++ l⟩, plsL (p.at_ + p.buf.length) l, 0)
def beginL (h : Hd) (zone most : Int) : Pk × Int :=
  if (headL h).2 ≠ 0 then (p0k, (headL h).2)
  else if ¬(0 ≤ zone ∧ 1 ≤ most ∧ most ≤ 65536) then (p0k, 1)
  else if most < (headL h).1.length then (p0k, 40)
  else (⟨h, zone, most, 0, (headL h).1, []⟩, 0)
/-- what Flush leaves -/
def flushP (p : Pk) : Pk := if p.buf = [] then p else ⟨p.h, p.zone, p.cap, p.at_ + p.buf.length, [], []⟩

theorem frsL_append (l m : List Rc) : frsL (l ++ m) = frsL l ++ frsL m := by
  induction l with
  | nil => rfl
  | cons r l ih => simp [frsL, ih]
theorem errL_snoc (l : List Rc) (r : Rc) : errL (l ++ [r]) = if errL l ≠ 0 then errL l else (recL r).2 := by
  induction l with
  | nil => simp [errL]; exact fun h => h.symm
  | cons x l ih =>
    rw [List.cons_append]
    unfold errL
    by_cases h : (recL x).2 = 0
    · simp only [h, ne_eq, not_true_eq_false, if_false]; rw [ih]
    · simp [h]
theorem plsL_append (l m : List Rc) : ∀ b : Int, plsL b (l ++ m) = plsL b l ++ plsL (b + (frsL l).length) m := by
  induction l with
  | nil => intro b; simp [plsL, frsL]
  | cons r l ih =>
    intro b
    simp only [List.cons_append, plsL, frsL, ih, List.length_append, Int.natCast_add]
    rw [show b + ((recL r).1.length : Int) + ((frsL l).length : Int) = b + (((recL r).1.length : Int) + ((frsL l).length : Int)) by omega]
theorem plsL_len (l : List Rc) : ∀ b : Int, (plsL b l).length = l.length := by
  induction l with
  | nil => intro b; rfl
  | cons r l ih => intro b; simp [plsL, ih]
/-- a record's frame, its length -/
theorem recL_len {r : Rc} (hr : OkRc r) : (recL r).1.length ≤ 40030 ∧ ((recL r).2 = 0 → r.data.length + 4 ≤ (recL r).1.length ∧ 5 ≤ (recL r).1.length) := by
  by_cases h : checkL r = 0
  · rw [recL_ok hr h]
    have h1 := bodyR_le hr h
    have h2 := frB_len (bodyR r)
    have h3 := putL_len10 (n := (bodyR r).length) (by omega)
    have h4 := putL_pos (bodyR r).length
    have h5 : r.data.length ≤ (bodyR r).length := by unfold bodyR; simp only [List.length_append]; omega
    dsimp only
    constructor
    · omega
    · intro _; omega
  · rw [recL_no h]
    exact ⟨by simp, fun h' => absurd h' h⟩
end Go.Proofs.Ytpacjjaekmipfaa
