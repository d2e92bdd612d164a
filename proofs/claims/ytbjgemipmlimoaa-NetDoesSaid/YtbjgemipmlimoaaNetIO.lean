/- What net.Write and net.Read come to; plain. -/
import Derived.Test.YtbjgemipmlimoaaNetPlain
import Derived.Test.YtbjgemipmlimoaaWireBack
namespace Go.Proofs.Ytbjgemipmlimoaa
open Go.RowKit

/-- messages' bytes one behind the other -/
def flatM (l : List Ms) : List UInt8 := (l.map fun m => (msgL m).1).flatten
/-- what Write answers -/
def writeL (l : List Ms) : List UInt8 × Int := if ∀ m ∈ l, (msgL m).2 = 0 then (flatM l, 0) else ([], 1)
theorem flatM_snoc (l : List Ms) {j : Nat} (h : j < l.length) : flatM (l.take (j + 1)) = flatM (l.take j) ++ (msgL l[j]).1 := by
  unfold flatM; rw [List.take_succ_eq_append_getElem h, List.map_append, List.flatten_append]; rw [List.map_cons, List.map_nil, List.flatten_cons, List.flatten_nil, List.append_nil]
theorem msgL_len {m : Ms} (h63 : I63 [m.kind, m.frm, m.to, m.id]) (ha : I63 m.args) : (msgL m).1.length ≤ 70000 := by
  by_cases h : (msgL m).2 = 0
  · obtain ⟨h1, h2⟩ := msgL_ok h63 ha h
    rw [h2]; exact bytesM_len h1
  · rw [msgL_err h]; simp
theorem flatM_len {l : List Ms} (h : ∀ m ∈ l, I63 [m.kind, m.frm, m.to, m.id] ∧ I63 m.args) : (flatM l).length ≤ 70000 * l.length := by
  induction l with
  | nil => simp [flatM]
  | cons m l ih =>
    have h1 := ih (fun x hx => h x (List.mem_cons_of_mem _ hx))
    have h2 := msgL_len (h m (List.mem_cons_self ..)).1 (h m (List.mem_cons_self ..)).2
    have e : flatM (m :: l) = (msgL m).1 ++ flatM l := by simp [flatM]
    rw [e, List.length_append, List.length_cons]
    omega

/-- messages off bytes -/
def readG : Nat → List UInt8 → List Ms → Option (List Ms)
  | 0, b, q => if b = [] then some q else none
  | n + 1, b, q => if b = [] then some q else if (takeMsgL b).2.2 = 0 then readG n (b.drop (takeMsgL b).2.1.toNat) (q ++ [(takeMsgL b).1]) else none
/-- what Read answers: capacity, messages, error -/
def readN (b : List UInt8) (most : Int) : Int × List Ms × Int :=
  if (newN most).2 ≠ 0 then (0, [], (newN most).2) else match readG b.length b [] with
    | none => (0, [], 21)
    | some q => if most < q.length then (0, [], 2) else (most, q, 0)

theorem readG_back : ∀ (q : List Ms) (n : Nat) (acc : List Ms), (∀ m ∈ q, okM m) → (flatM q).length ≤ n → readG n (flatM q) acc = some (acc ++ q)
  | [], n, acc, _, _ => by cases n <;> simp [readG, flatM]
  | m :: q, n, acc, h, hn => by
    have hm := h m (List.mem_cons_self ..)
    have e : flatM (m :: q) = bytesM m ++ flatM q := by simp [flatM, msgL_of_ok hm]
    have hp := bytesM_pos m
    rw [e, List.length_append] at hn
    obtain ⟨n, rfl⟩ : ∃ k, n = k + 1 := ⟨n - 1, by omega⟩
    rw [e]
    have hne : ¬ bytesM m ++ flatM q = [] := by intro h; have := congrArg List.length h; simp at this; simp [this.1] at hp
    have hb := takeMsg_back hm (flatM q)
    unfold readG
    rw [if_neg hne, hb]
    simp only [if_true, Int.toNat_natCast, List.drop_left]
    rw [readG_back q n (acc ++ [m]) (fun x hx => h x (List.mem_cons_of_mem _ hx)) (by omega)]
    simp
theorem readG_one : ∀ (n : Nat) (b : List UInt8) (acc p : List Ms), readG n b acc = some p → ∃ q, p = acc ++ q ∧ flatM q = b ∧ ∀ m ∈ q, okM m
  | 0, b, acc, p, h => by
    unfold readG at h
    split at h
    · rename_i hb; injection h with h; exact ⟨[], by simp [h], by simp [flatM, hb], by simp⟩
    · cases h
  | n + 1, b, acc, p, h => by
    unfold readG at h
    split at h
    · rename_i hb; injection h with h; exact ⟨[], by simp [h], by simp [flatM, hb], by simp⟩
    · split at h
      · rename_i hb he
        obtain ⟨m, k, e, ht⟩ : ∃ m k e, takeMsgL b = (m, k, e) := ⟨_, _, _, rfl⟩
        rw [ht] at h he
        simp only at h he
        subst he
        obtain ⟨j, rfl, hj1, hj2, hml, hok⟩ := takeMsg_one ht
        rw [Int.toNat_natCast] at h
        obtain ⟨q, e1, e2, e3⟩ := readG_one n _ _ _ h
        refine ⟨m :: q, by rw [e1]; simp, ?_, ?_⟩
        · have : flatM (m :: q) = (msgL m).1 ++ flatM q := by simp [flatM]
          rw [this, hml, e2]; simp
        · intro x hx
          rcases List.mem_cons.1 hx with rfl | hx
          · exact hok
          · exact e3 x hx
      · cases h
theorem writeL_ok {q : List Ms} (h : ∀ m ∈ q, okM m) : writeL q = (flatM q, 0) := if_pos fun m hm => by rw [msgL_of_ok (h m hm)]
end Go.Proofs.Ytbjgemipmlimoaa
