/- What Send sends of few messages; plain. -/
import Derived.Test.YtbjgemipmlimoaaLive13
import Derived.Test.YtbjgemipmlimoaaWireInv
namespace Go.Proofs.Ytbjgemipmlimoaa
open Go.RowKit

def okB (m : Ms) : Bool := decide ((msgL m).2 = 0)
theorem sendQ_all (cap : Int) : ∀ (l q : List Ms) (k : Nat), ((q.length + l.length : Nat) : Int) ≤ cap → sendQ cap l q k = (q ++ l.filter okB, k + (l.filter okB).length)
  | [], q, k, _ => by simp [sendQ]
  | m :: l, q, k, h => by
    have hl : ((q.length : Nat) : Int) < cap := by simp at h; omega
    unfold sendQ
    by_cases hm : (msgL m).2 = 0
    · have ho : okB m = true := by simp [okB, hm]
      rw [if_pos ⟨hm, hl⟩, sendQ_all cap l _ _ (by simp at h ⊢; omega), List.filter_cons_of_pos ho]
      simp only [List.append_assoc, List.singleton_append, List.length_cons, Prod.mk.injEq, true_and]
      omega
    · have ho : ¬ okB m = true := by simp [okB, hm]
      rw [if_neg (fun h => hm h.1), sendQ_all cap l _ _ (by simp at h ⊢; omega), List.filter_cons_of_neg ho]
theorem filter_snoc (l : List Ms) {j : Nat} (h : j < l.length) : (l.take (j + 1)).filter okB = if okB l[j] = true then (l.take j).filter okB ++ [l[j]] else (l.take j).filter okB := by
  rw [List.take_succ_eq_append_getElem h, List.filter_append]
  split <;> simp [*]

/-- how great messages are -/
def totM : List Ms → Nat
  | [] => 0
  | m :: l => 10 + m.args.length + m.data.length + totM l
theorem sumW_tot : ∀ (l : List Ms) (s : Int), 0 ≤ s → s + totM l ≤ 9223372036854775807 → sumW l s = s + totM l
  | [], s, _, _ => by simp [sumW, totM]
  | m :: l, s, h0, h => by
    simp only [totM] at h ⊢
    unfold sumW
    have e : wrap64 (s + (10 + (m.args.length : Int) + (m.data.length : Int))) = s + (10 + (m.args.length : Int) + (m.data.length : Int)) := by unfold wrap64; omega
    rw [e, sumW_tot l _ (by omega) (by omega)]
    omega
theorem totM_le : ∀ (l : List Ms), (∀ m ∈ l, m.args.length ≤ 140737488355328 ∧ m.data.length ≤ 140737488355328) → totM l ≤ 300000000000000 * l.length
  | [], _ => by simp [totM]
  | m :: l, h => by
    have h1 := h m (List.mem_cons_self ..)
    have h2 := totM_le l (fun x hx => h x (List.mem_cons_of_mem _ hx))
    simp only [totM, List.length_cons]
    omega
theorem totM_mem {l : List Ms} {m : Ms} (h : m ∈ l) : m.args.length + m.data.length ≤ totM l := by
  induction l with
  | nil => cases h
  | cons a l ih =>
    simp only [totM]
    rcases List.mem_cons.1 h with rfl | h
    · omega
    · have := ih h; omega
theorem lensL {w : World} {K : Nat → Prop} : ∀ {cs : List Value} {l : List Ms}, CellsL Rp.msg w K cs l → ∀ m ∈ l, (m.args.length ≤ 140737488355328 ∧ m.data.length ≤ 140737488355328) ∧ I63 [m.kind, m.frm, m.to, m.id] ∧ I63 m.args
  | _, [], _, m, hm => by cases hm
  | _, a :: l, ⟨c1, c2, _, h1, h2⟩, m, hm => by
    rcases List.mem_cons.1 hm with rfl | hm
    · obtain ⟨A1, c1, A2, c2, rfl, him⟩ := rp_isM h1
      refine ⟨him.lens, ?_, him.i63⟩
      obtain ⟨_, _, _, _, _, _, _, h⟩ := him
      exact h
    · exact lensL h2 m hm
theorem IsL.lens {w : World} {K : Nat → Prop} {v : Value} {l : List Ms} (h : IsL Rp.msg w K v l) : ∀ m ∈ l, (m.args.length ≤ 140737488355328 ∧ m.data.length ≤ 140737488355328) ∧ I63 [m.kind, m.frm, m.to, m.id] ∧ I63 m.args := by
  obtain ⟨_, _, _, _, _, h, _⟩ := h; exact lensL h
/-- few messages that are not too great -/
theorem notBig {w : World} {K : Nat → Prop} {v : Value} {l : List Ms} (h : IsL Rp.msg w K v l) (hl : l.length ≤ 10000) (hb : bigL l = false) : ∀ m ∈ l, m.args.length + m.data.length ≤ 200000 := by
  have h1 := totM_le l (fun m hm => (h.lens m hm).1)
  have h2 : ¬ 200000 < sumW l 0 := of_decide_eq_false hb
  rw [sumW_tot l 0 (by omega) (by omega)] at h2
  intro m hm
  have := totM_mem hm
  omega
theorem ArgsLe.of {l : List Ms} (h : ∀ m ∈ l, m.args.length + m.data.length ≤ 200000) : ArgsLe l := fun m hm => by have := h m hm; omega
theorem ArgsLe.sub {l r : List Ms} (h : ArgsLe l) (hs : ∀ m ∈ r, m ∈ l) : ArgsLe r := fun m hm => h m (hs m hm)
theorem ArgsLe.app {l r : List Ms} (h : ArgsLe l) (h' : ArgsLe r) : ArgsLe (l ++ r) := fun m hm => by
  rcases List.mem_append.1 hm with hm | hm
  · exact h m hm
  · exact h' m hm
end Go.Proofs.Ytbjgemipmlimoaa
