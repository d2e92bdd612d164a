/- Lists of lists of records among the arguments, opened. -/
import Derived.Test.YtlippmghgagdaaaGreatPackAdd1
namespace Go.Proofs.YtlippmghgagdaaaGreat
open Go.RowKit Go.WideShapes Go.ChangeShapes Go.Deep

theorem bulk_mem {H : Type} {d : DataW H} {l : List (DataW H)} (h : d ∈ l) : Rows.uptoBulk d ≤ Rows.uptoBulkAll l := by
  induction l with
  | nil => cases h
  | cons x r ih =>
    simp only [Rows.uptoBulkAll]
    rcases List.mem_cons.1 h with e | e
    · subst e; omega
    · have := ih e; omega
/-- records, so many at most -/
def Rp.rcs (B : Nat) : Rp (List Rc) := ⟨1, fun w K cs l => (∃ v, cs = [v] ∧ IsL Rp.rc w K v l) ∧ l.length ≤ B, by rintro _ _ _ _ ⟨⟨v, rfl, _⟩, _⟩; rfl,
  by rintro _ _ _ _ _ ⟨⟨v, e, h⟩, hB⟩ hk; exact ⟨⟨v, e, h.keep hk⟩, hB⟩, by rintro _ _ _ _ _ ⟨⟨v, e, h⟩, hB⟩ hk; exact ⟨⟨v, e, h.more hk⟩, hB⟩,
  by rintro _ _ _ _ ⟨⟨v, rfl, h⟩, _⟩ u hu; simp at hu; subst hu; exact RpL.one h⟩

section
variable {H : Type} {enc : TypeId × Value → H} {P : Program} {w : World}
theorem open_listB {t e : TypeId} {fuel : Nat} {cs : List Value} {x : DataW H × List MemPlace} {α : Type} (R : Rp α) (ht : P.underlying t = some (.slice e)) (ce : P.cellsOf e = R.size) (be : 0 < P.bytesOf e) (hpos : 0 < R.size)
    (h : DataW.trod enc P w 0 (fun _ => true) true fuel t cs = some x) (hs : Small P t x.1)
    (hR : ∀ (n : Nat) (cs' : List Value) (y : DataW H × List MemPlace), DataW.trod enc P w 0 (fun _ => true) true n e cs' = some y → Small P e y.1 → Rows.uptoBulk y.1 ≤ Rows.uptoBulk x.1 → ∃ a, R.is w (· < w.heap.size) cs' a) :
    ∃ v l, cs = [v] ∧ IsL R w (· < w.heap.size) v l ∧ l.length * P.bytesOf e ≤ 140737488351232 := by
  rcases open_slice ht h with ⟨rfl, _⟩ | ⟨a, len, cap, m, n, D, Pl, rfl, _, hl, hm, hmm, rfl, hi⟩
  · exact ⟨_, [], rfl, IsL.nil_ _ _, by simp⟩
  · simp only [if_true] at hmm
    have hmm' := hmm.symm
    subst hmm'
    obtain ⟨hb, hel⟩ := Small.slice ht hs
    simp only [List.length_map, List.length_range] at hb
    have hr := reach47
    rw [ce] at hi
    obtain ⟨cs, l, hll, hcl, hcc⟩ := rows_of (w := w) R (· < w.heap.size) a len fun i hil => by
      obtain ⟨cs', hc, htr⟩ := hi i (by omega)
      have hmem : D i ∈ List.map D (List.range len) := List.mem_map.2 ⟨i, List.mem_range.2 hil, rfl⟩
      obtain ⟨al, hal⟩ := hR n cs' _ htr (hel _ hmem) (by
        have h1 := bulk_mem hmem
        have h2 : Rows.uptoBulkAll (List.map D (List.range len)) ≤ Rows.uptoBulk (DataW.slice (List.map D (List.range len)) (List.map (fun j => D (len + j)) (List.range (cap - len)))) := by simp only [Rows.uptoBulk]; omega
        exact Nat.le_trans h1 h2)
      obtain ⟨_, hlen, hat⟩ := World.cells?_some hc
      refine ⟨cs', al, hal, fun j u hu => ?_⟩
      have hj := (List.getElem?_eq_some_iff.1 hu).1
      have h0 := hat j (by have := R.len hal; omega)
      rw [add_of_add] at h0
      rw [h0, hu]
    have hle : len * P.bytesOf e ≤ (len + (cap - len)) * P.bytesOf e := Nat.mul_le_mul_right _ (by omega)
    have hle2 : len * 1 ≤ len * P.bytesOf e := Nat.mul_le_mul_left _ be
    subst hll
    refine ⟨_, l, rfl, ⟨some a, cap, cs, rfl, ?_, hcl, by omega, by unfold maxLen at hm; omega, by omega⟩, by omega⟩
    have hR2 : Reads w (fun _ => True) R.size (some a) l.length cs := ⟨hcl.len, fun _ => ⟨a, rfl, trivial, hcc⟩⟩
    exact (hR2.lt hpos).more fun b hb => hb.2
end
section
variable {H : Type} {enc : TypeId × Value → H} {w : World}
theorem Tryz.cL_rcs : Tryz.prog.cellsOf 33 = 1 := by kernel_rfl
theorem Tryz.bL_rcs : Tryz.prog.bytesOf 33 = 24 := by kernel_rfl
set_option maxRecDepth 100000 in
theorem open_LLA_rc {base : Nat} {v : Value} {d : DataW H} {p : List MemPlace} (hv : Value.okWide Tryz.prog w .any base 24 v) (h : DataW.Trod enc Tryz.prog w 0 (fun _ => true) true 24 v d p) (hs : Small Tryz.prog 24 d) :
    ∃ l, IsL (Rp.rcs (Rows.uptoBulk d)) w (· < w.heap.size) v l := by
  obtain ⟨A, n, c, rfl⟩ := okWide_slice Tryz.underlying24 hv
  obtain ⟨fuel, hf⟩ := h
  obtain ⟨v', l, hcs, hB, _⟩ := open_listB (Rp.rcs (Rows.uptoBulk d)) Tryz.underlying24 Tryz.cL_rcs (by rw [Tryz.bL_rcs]; decide) (show 0 < 1 by decide) hf hs fun n cs' y hy hsy hby => by
    obtain ⟨v, l, e, hL, _⟩ := open_L_rc hy hsy
    subst e
    refine ⟨l, ⟨v, rfl, hL⟩, ?_⟩
    obtain ⟨A, c, rfl, _⟩ := hL.form
    exact Nat.le_trans (bulk_slice (d := y.1) (p := y.2) Tryz.underlying33 ⟨n, by simpa [Value.cells] using hy⟩) hby
  have : Value.slice A n c = v' := by simpa [Value.cells] using hcs
  rw [this]
  exact ⟨l, hB⟩
end
end Go.Proofs.YtlippmghgagdaaaGreat
