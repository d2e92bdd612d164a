/- Arguments opened: what a value that reads as data is, in the words of the walks. Over any program. -/
import Derived.Test.YtpacjjaekmipfaaMore
import Derived.ProofKit
import Derived.OpenShut
import Derived.SizedLaws
import Derived.Deep.Slices
namespace Go.Proofs.Ytpacjjaekmipfaa
open Go.RowKit Go.WideShapes Go.ChangeShapes Go.Deep

section
variable {H : Type} {enc : TypeId × Value → H} {P : Program} {w : World}

/-- every string, slice and map of the datum takes no more than the form's reach -/
def Small (P : Program) (t : TypeId) (d : DataW H) : Prop := ∀ n ∈ d.weights P t, n ≤ reachBytes

theorem Small.of_args {ts : List TypeId} {ds : List (DataW H)} (h : (DataW.weightsEach P ts ds).all (· ≤ reachBytes) = true) {j : Nat} {t : TypeId} {d : DataW H} (ht : ts[j]? = some t) (hd : ds[j]? = some d) : Small P t d := by
  intro n hn
  have := List.all_eq_true.1 h _ (DataW.weights_mem_each ht hd n hn)
  simpa using this

theorem weights_mem_all {e : TypeId} {l : List (DataW H)} {d : DataW H} (hd : d ∈ l) {n : Nat} (hn : n ∈ d.weights P e) : n ∈ DataW.weightsAll P e l := by
  induction l with
  | nil => cases hd
  | cons a l ih =>
    simp only [DataW.weightsAll, List.mem_append]
    rcases List.mem_cons.1 hd with rfl | hd
    · exact .inl hn
    · exact .inr (ih hd)

theorem Small.slice {t e : TypeId} {elems spare : List (DataW H)} (ht : P.underlying t = some (.slice e)) (h : Small P t (.slice elems spare)) :
    (elems.length + spare.length) * P.bytesOf e ≤ reachBytes ∧ ∀ d ∈ elems, Small P e d := by
  refine ⟨h _ (by simp [DataW.weights, ht]), fun d hd n hn => h n ?_⟩
  simp only [DataW.weights, ht, List.mem_cons, List.mem_append]
  exact .inr (.inl (weights_mem_all hd hn))

theorem Small.struct {t : TypeId} {fs : Array Field} {parts : List (DataW H)} (ht : P.underlying t = some (.struct fs)) (h : Small P t (.agg parts)) {j : Nat} {f : Field} {d : DataW H} (hf : fs[j]? = some f) (hd : parts[j]? = some d) : Small P f.type d := by
  intro n hn
  refine h n ?_
  simp only [DataW.weights, ht]
  exact DataW.weights_mem_each (by rw [List.getElem?_map, Array.getElem?_toList, hf]; rfl) hd n hn

theorem reach47 : reachBytes ≤ 140737488351232 := by decide

theorem byte_range {n : Int} (h : (Lit.int .u8 n).wf = true) : (UInt8.ofNat n.toNat).toNat = n := by
  have := bounds_u8 h
  have h2 : (UInt8.ofNat n.toNat).toNat = n.toNat := by simp; omega
  omega

/-- []byte -/
theorem open_bytes {t e : TypeId} {fuel : Nat} {cs : List Value} {x : DataW H × List MemPlace} (ht : P.underlying t = some (.slice e)) (he : P.underlying e = some (.int .u8)) (ce : P.cellsOf e = 1) (be : P.bytesOf e = 1)
    (h : DataW.trod enc P w 0 (fun _ => true) true fuel t cs = some x) (hs : Small P t x.1) : ∃ v l, cs = [v] ∧ IsB w (· < w.heap.size) v l := by
  rcases open_ints ht he ce h with ⟨rfl, _⟩ | ⟨a, len, cap, zs, rfl, _, hl, hm, hz, rfl, hcell, hwf⟩
  · exact ⟨_, [], rfl, IsB.nil_ _ _⟩
  · simp only [if_true] at hz
    have hb := (Small.slice ht hs).1
    rw [be] at hb
    simp only [lits, List.length_map, List.length_take, List.length_drop] at hb
    have := reach47
    have hlen : ((zs.take len).map fun z => UInt8.ofNat z.toNat).length = len := by rw [List.length_map, List.length_take]; omega
    have hc8 : cells8 ((zs.take len).map fun z => UInt8.ofNat z.toNat) = (zs.take len).map (Value.int .u8) := by
      unfold cells8
      rw [List.map_map]
      apply List.map_congr_left
      intro z hzm
      have := byte_range (hwf z (List.mem_of_mem_take hzm))
      simp only [Function.comp_apply, B8]
      rw [this]
    refine ⟨_, (zs.take len).map fun z => UInt8.ofNat z.toNat, rfl, some a, cap, by rw [hlen], ?_, by omega, by unfold maxLen at hm; omega, by omega⟩
    have hR : Reads w (fun _ => True) 1 (some a) len (cells8 ((zs.take len).map fun z => UInt8.ofNat z.toNat)) := by
      rw [hc8]
      refine ⟨by rw [List.length_map, List.length_take]; omega, fun _ => ⟨a, rfl, trivial, fun j u hu => ?_⟩⟩
      rw [List.getElem?_map, List.getElem?_take] at hu
      split at hu
      · have hj : j < zs.length := by omega
        rw [List.getElem?_eq_getElem hj] at hu
        rw [hcell j hj, List.getD_eq_getElem?_getD, List.getElem?_eq_getElem hj]
        simpa using hu
      · simp at hu
    rw [hlen]
    exact (hR.lt (by omega)).more fun b hb => hb.2

/-- a slice of elements of one cell, each opened by its own reading -/
theorem open_cells {t e : TypeId} {fuel : Nat} {cs : List Value} {x : DataW H × List MemPlace} {α : Type} [Inhabited α] (R : Value → α → Prop) (ht : P.underlying t = some (.slice e)) (ce : P.cellsOf e = 1)
    (h : DataW.trod enc P w 0 (fun _ => true) true fuel t cs = some x) (hs : Small P t x.1)
    (hR : ∀ (n : Nat) (cs' : List Value) (y : DataW H × List MemPlace), DataW.trod enc P w 0 (fun _ => true) true n e cs' = some y → Small P e y.1 → ∃ v a, cs' = [v] ∧ R v a) :
    ∃ (SA : Option Addr) (c : Nat) (vs : List Value) (ls : List α), cs = [.slice SA ls.length c] ∧ Reads w (· < w.heap.size) 1 SA ls.length vs ∧ vs.length = ls.length ∧ (∀ (i : Nat) v a, vs[i]? = some v → ls[i]? = some a → R v a) ∧
      ls.length * P.bytesOf e ≤ 140737488351232 ∧ ls.length ≤ c ∧ c ≤ 9223372036854775807 := by
  rcases open_slice ht h with ⟨rfl, _⟩ | ⟨a, len, cap, m, n, D, Pl, rfl, _, hl, hm, hmm, rfl, hi⟩
  · exact ⟨none, 0, [], [], rfl, Reads.none_, rfl, fun i v a h1 => by simp at h1, by simp, Nat.le_refl _, by omega⟩
  · simp only [if_true] at hmm
    have hmm' := hmm.symm
    subst hmm'
    obtain ⟨hb, hel⟩ := Small.slice ht hs
    simp only [List.length_map, List.length_range] at hb
    have hr := reach47
    rw [ce] at hi
    have each : ∀ i, i < len → ∃ y : Value × α, w.cell? (a.add i) = some y.1 ∧ R y.1 y.2 := by
      intro i hil
      obtain ⟨cs', hc, htr⟩ := hi i (by omega)
      obtain ⟨v, al, rfl, hRv⟩ := hR n cs' _ htr (hel _ (List.mem_map.2 ⟨i, List.mem_range.2 hil, rfl⟩))
      obtain ⟨_, _, hat⟩ := World.cells?_some hc
      have h0 := hat 0 (by omega)
      rw [Nat.mul_one] at h0
      refine ⟨(v, al), ?_, hRv⟩
      simpa [add_of_add] using h0
    obtain ⟨y, hy⟩ := choose_lt each
    refine ⟨some a, cap, (List.range len).map fun i => (y i).1, (List.range len).map fun i => (y i).2, by simp, ?_, by simp, ?_, ?_, by simp; omega, by unfold maxLen at hm; omega⟩
    · have hR2 : Reads w (fun _ => True) 1 (some a) len ((List.range len).map fun i => (y i).1) := by
        refine ⟨by simp, fun _ => ⟨a, rfl, trivial, fun j u hu => ?_⟩⟩
        rw [List.getElem?_map] at hu
        rcases Nat.lt_or_ge j len with hj | hj
        · rw [List.getElem?_range hj] at hu
          simp only [Option.map_some, Option.some.injEq] at hu
          rw [← hu]; exact (hy j hj).1
        · rw [List.getElem?_eq_none (by simpa using hj)] at hu; cases hu
      simpa using (hR2.lt (by omega)).more fun b hb => hb.2
    · intro i v al h1 h2
      rw [List.getElem?_map] at h1 h2
      rcases Nat.lt_or_ge i len with hj | hj
      · rw [List.getElem?_range hj] at h1 h2
        simp only [Option.map_some, Option.some.injEq] at h1 h2
        rw [← h1, ← h2]; exact (hy i hj).2
      · rw [List.getElem?_eq_none (by simpa using hj)] at h1; cases h1
    · simp only [List.length_map, List.length_range]
      have : len * P.bytesOf e ≤ (len + (cap - len)) * P.bytesOf e := Nat.mul_le_mul_right _ (by omega)
      omega

/-- an argument reads behind the call as it read before it -/
theorem args_stay {t : TypeId} (hl : laidOutB P = true) (hr : P.readableRec t = true) (hrow : t < P.types.size) {W W' : World} {v : Value} {d : DataW H} {ps : List MemPlace}
    (h : DataW.Trod enc P W 0 (fun _ => true) true t v d ps) (hb : Below W.heap.size W W') (hlt : ∀ x ∈ ps, x.block < W.heap.size) {sp : Nat → Bool} (hsp : ∀ x ∈ ps, sp x.block = true) :
    DataW.Trod enc P W' 0 sp true t v d ps :=
  WideElems.Trod_stays hl hr hrow h (fun x hx => hb.same (hlt x hx)) hsp
end

end Go.Proofs.Ytpacjjaekmipfaa
