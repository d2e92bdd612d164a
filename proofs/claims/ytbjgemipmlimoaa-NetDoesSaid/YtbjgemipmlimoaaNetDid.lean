/- What Send sends: messages of the list, in its order, each writable; plain. -/
/- What body does where it tells no error; what was writable stays so; plain. -/
import Derived.Test.YtbjgemipmlimoaaNetPlain
import Derived.Test.YtbjgemipmlimoaaNetCutN
namespace Go.Proofs.Ytbjgemipmlimoaa
open Go.RowKit

theorem okB_args {m : Ms} (h : okB m = true) : m.args.length ≤ 64 := by
  have h := of_decide_eq_true h
  unfold msgL at h
  split at h
  · rename_i h1; exact absurd h h1
  · split at h
    · simp at h
    · omega
theorem sendQ_form (cap : Int) : ∀ (l q : List Ms) (k : Nat), ∃ t, t.Sublist l ∧ sendQ cap l q k = (q ++ t, k + t.length) ∧ (∀ m ∈ t, okB m = true) ∧ ((q.length : Int) ≤ cap → ((q ++ t).length : Int) ≤ cap)
  | [], q, k => ⟨[], List.Sublist.refl _, by simp [sendQ], by simp, by simp⟩
  | m :: l, q, k => by
    unfold sendQ
    by_cases h : (msgL m).2 = 0 ∧ (q.length : Int) < cap
    · rw [if_pos h]
      obtain ⟨t, h1, h2, h3, h4⟩ := sendQ_form cap l (q ++ [m]) (k + 1)
      refine ⟨m :: t, h1.cons_cons m, by rw [h2]; simp; omega, fun x hx => ?_, fun _ => ?_⟩
      · rcases List.mem_cons.1 hx with rfl | hx
        · simp [okB, h.1]
        · exact h3 x hx
      · have := h4 (by have := h.2; simp; omega)
        simpa using this
    · rw [if_neg h]
      obtain ⟨t, h1, h2, h3, h4⟩ := sendQ_form cap l q k
      exact ⟨t, h1.cons m, h2, h3, h4⟩
end Go.Proofs.Ytbjgemipmlimoaa
namespace Go.Proofs.Ytbjgemipmlimoaa
open Go.RowKit

/-- d done to the queue q with the number i and the messages l: q' behind it, k told, x taken -/
def Did (cap : Int) (q : List Ms) (d i : Int) (l q' : List Ms) (k : Int) (x : Ms) : Prop :=
  (d = 0 ∧ ∃ t, t.Sublist l ∧ q' = q ++ t ∧ k = (t.length : Int) ∧ (∀ m ∈ t, okB m = true) ∧ ((q.length : Int) ≤ cap → ((q ++ t).length : Int) ≤ cap)) ∨
  (d = 1 ∧ ∃ j : Nat, i = (j : Int) ∧ q[j]? = some x ∧ q' = q.take j ++ q.drop (j + 1)) ∨
  (d = 2 ∧ ∃ j : Nat, q' = q.take j ++ q.drop (j + 1)) ∨
  (d = 3 ∧ ∃ (j : Nat) (m : Ms), i = (j : Int) ∧ q[j]? = some m ∧ q' = q ++ [m] ∧ (q.length : Int) < cap) ∨
  (d = 4 ∧ ∃ (j : Nat) (m : Ms), q[j]? = some m ∧ q' = q.take j ++ q.drop (j + 1) ++ [m]) ∨
  ((d < 0 ∨ 4 < d) ∧ q'.Sublist q)
theorem pick_mem {q : List Ms} {j : Nat} {m : Ms} (h : m ∈ q.take j ++ q.drop (j + 1)) : m ∈ q := by
  rcases List.mem_append.1 h with h | h
  · exact List.mem_of_mem_take h
  · exact List.mem_of_mem_drop h
theorem Did.ok {cap : Int} {q : List Ms} {d i : Int} {l q' : List Ms} {k : Int} {x : Ms} (h : Did cap q d i l q' k x) (hq : ∀ m ∈ q, okB m = true) : ∀ m ∈ q', okB m = true := by
  intro m hm
  rcases h with ⟨_, t, _, rfl, _, h2, _⟩ | ⟨_, j, _, _, rfl⟩ | ⟨_, j, rfl⟩ | ⟨_, j, y, _, hy, rfl, _⟩ | ⟨_, j, y, hy, rfl⟩ | ⟨_, hs⟩
  · rcases List.mem_append.1 hm with hm | hm
    · exact hq m hm
    · exact h2 m hm
  · exact hq m (pick_mem hm)
  · exact hq m (pick_mem hm)
  · rcases List.mem_append.1 hm with hm | hm
    · exact hq m hm
    · rw [List.mem_singleton.1 hm]; exact hq y (List.mem_of_getElem? hy)
  · rcases List.mem_append.1 hm with hm | hm
    · exact hq m (pick_mem hm)
    · rw [List.mem_singleton.1 hm]; exact hq y (List.mem_of_getElem? hy)
  · exact hq m (hs.subset hm)
theorem okB_le {q : List Ms} (hq : ∀ m ∈ q, okB m = true) : ArgsLe q := fun m hm => by have := okB_args (hq m hm); omega
end Go.Proofs.Ytbjgemipmlimoaa
