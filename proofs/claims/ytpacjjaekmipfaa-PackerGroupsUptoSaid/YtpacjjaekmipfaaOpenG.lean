/- A slice of whatever is represented among the arguments, opened. Over any program. -/
import Derived.Test.YtpacjjaekmipfaaRep
namespace Go.Proofs.Ytpacjjaekmipfaa
open Go.RowKit Go.WideShapes Go.ChangeShapes Go.Deep

section
variable {H : Type} {enc : TypeId × Value → H} {P : Program} {w : World}

theorem rows_of {α : Type} (R : Rp α) (K : Nat → Prop) (a : Addr) (len : Nat) (he : ∀ i, i < len → ∃ cs al, R.is w K cs al ∧ ∀ (j : Nat) u, cs[j]? = some u → w.cell? (a.add (i * R.size + j)) = some u) :
    ∃ cs l, l.length = len ∧ CellsL R w K cs l ∧ ∀ (j : Nat) u, cs[j]? = some u → w.cell? (a.add j) = some u := by
  induction len with
  | zero => exact ⟨[], [], rfl, rfl, fun j u hu => by simp at hu⟩
  | succ n ih =>
    obtain ⟨cs, l, hl, hc, hr⟩ := ih fun i hi => he i (by omega)
    obtain ⟨c1, al, h1, h2⟩ := he n (by omega)
    refine ⟨cs ++ c1, l ++ [al], by simp [hl], hc.snoc h1, fun j u hu => ?_⟩
    have hlen := hc.len
    rw [hl] at hlen
    rcases Nat.lt_or_ge j cs.length with hj | hj
    · rw [List.getElem?_append_left hj] at hu; exact hr j u hu
    · rw [List.getElem?_append_right hj] at hu
      have := h2 _ u hu
      rwa [hlen, show n * R.size + (j - n * R.size) = j by omega] at this

theorem open_list {t e : TypeId} {fuel : Nat} {cs : List Value} {x : DataW H × List MemPlace} {α : Type} (R : Rp α) (ht : P.underlying t = some (.slice e)) (ce : P.cellsOf e = R.size) (be : 0 < P.bytesOf e) (hpos : 0 < R.size)
    (h : DataW.trod enc P w 0 (fun _ => true) true fuel t cs = some x) (hs : Small P t x.1)
    (hR : ∀ (n : Nat) (cs' : List Value) (y : DataW H × List MemPlace), DataW.trod enc P w 0 (fun _ => true) true n e cs' = some y → Small P e y.1 → ∃ a, R.is w (· < w.heap.size) cs' a) :
    ∃ v l, cs = [v] ∧ IsL R w (· < w.heap.size) v l ∧ l.length * P.bytesOf e ≤ 140737488351232 := by
  rcases open_slice ht h with ⟨rfl, _⟩ | ⟨a, len, cap, m, n, D, Pl, rfl, _, hl, hm, hmm, rfl, hi⟩
  · exact ⟨_, [], rfl, IsL.nil_ _ _, by simp⟩
  · simp only [if_true] at hmm
    have hmm' := hmm.symm
    subst hmm'
    obtain ⟨hb, hel⟩ := Small.slice ht hs
    simp only [List.length_map, List.length_range] at hb
    have hr := reach47
    rw [ce] at hi
    obtain ⟨cs, l, hll, hcl, hcc⟩ := rows_of (w := w) R (· < w.heap.size) a len fun i hil => by
      obtain ⟨cs', hc, htr⟩ := hi i (by omega)
      obtain ⟨al, hal⟩ := hR n cs' _ htr (hel _ (List.mem_map.2 ⟨i, List.mem_range.2 hil, rfl⟩))
      obtain ⟨_, hlen, hat⟩ := World.cells?_some hc
      refine ⟨cs', al, hal, fun j u hu => ?_⟩
      have hj := (List.getElem?_eq_some_iff.1 hu).1
      have h0 := hat j (by have := R.len hal; omega)
      rw [add_of_add] at h0
      rw [h0, hu]
    have hle : len * P.bytesOf e ≤ (len + (cap - len)) * P.bytesOf e := Nat.mul_le_mul_right _ (by omega)
    have hle2 : len * 1 ≤ len * P.bytesOf e := Nat.mul_le_mul_left _ be
    subst hll
    refine ⟨_, l, rfl, ⟨some a, cap, cs, rfl, ?_, hcl, by omega, by unfold maxLen at hm; omega, by omega⟩, by omega⟩
    have hR2 : Reads w (fun _ => True) R.size (some a) l.length cs := ⟨hcl.len, fun _ => ⟨a, rfl, trivial, hcc⟩⟩
    exact (hR2.lt hpos).more fun b hb => hb.2
end
end Go.Proofs.Ytpacjjaekmipfaa
