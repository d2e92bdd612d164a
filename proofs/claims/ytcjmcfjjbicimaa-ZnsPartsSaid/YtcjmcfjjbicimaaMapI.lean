/- A map of the call's own from ints to anything: inserts of new keys, a look-up. Over any program. -/
import Derived.Test.YtcjmcfjjbicimaaMore
import Derived.MapKept
import Derived.Maps.Own
namespace Go.Proofs.Ytcjmcfjjbicimaa
open Go.RowKit Go.MapKept Go.ChangeMaps

def entI : List (Int × Value) → Nat → List MapEntry
  | [], _ => []
  | p :: l, i => ⟨.int .i64 p.1, p.2, i⟩ :: entI l (i + 1)
def mapI (l : List (Int × Value)) : Obj := .map (entI l 0).toArray l.length
def valI (z : Value) : List (Int × Value) → Int → Value
  | [], _ => z
  | p :: l, k => if k = p.1 then p.2 else valI z l k
theorem entI_push (l : List (Int × Value)) (p : Int × Value) (i : Nat) : entI (l ++ [p]) i = entI l i ++ [⟨.int .i64 p.1, p.2, i + l.length⟩] := by
  induction l generalizing i with
  | nil => rfl
  | cons q l ih => simp only [List.cons_append, entI, ih, List.length_cons]; rw [show i + 1 + l.length = i + (l.length + 1) by omega]
theorem findI_new (key : Int) : ∀ (l : List (Int × Value)) (i j : Nat), (∀ p ∈ l, p.1 ≠ key) → Instr.findNow (.int .i64) (.int .i64 key) (entI l i) j = some none
  | [], _, _, _ => rfl
  | p :: l, i, j, h => by
    have h1 : (key == p.1) = false := by simpa using fun e => h p (List.mem_cons_self ..) e.symm
    simp only [entI, Instr.findNow, Instr.sameNow, if_true, h1]
    exact findI_new key l _ _ fun q hq => h q (List.mem_cons_of_mem _ hq)
theorem findI (z : Value) (key : Int) : ∀ (l : List (Int × Value)) (i j : Nat), ∃ r, Instr.findNow (.int .i64) (.int .i64 key) (entI l i) j = some r ∧ (match r with | some x => x.2 | none => z) = valI z l key
  | [], _, _ => ⟨none, rfl, rfl⟩
  | p :: l, i, j => by
    by_cases h : key = p.1
    · refine ⟨some (j, p.2), ?_, by simp [valI, h]⟩
      have h1 : (key == p.1) = true := by simpa using h
      simp only [entI, Instr.findNow, Instr.sameNow, if_true, h1]
    · have h1 : (key == p.1) = false := by simpa using h
      obtain ⟨r, e, hr⟩ := findI z key l (i + 1) (j + 1)
      exact ⟨r, by simp only [entI, Instr.findNow, Instr.sameNow, if_true, h1, e], by rw [hr]; simp [valI, h]⟩

theorem eql_func_fnil {P : Program} (w : World) {t : TypeId} {ps rs : Array TypeId} {b : Bool} (f : Fn) (xs ys : Array Value) (ht : P.underlying t = some (.func ps rs b)) :
    (binOp .eql t (.func f xs ys) .nilFunc).run P w = .ok (.bool false) w := by
  have h : ∀ d : Nat, (Op.equalIn (d + 1) t (.func f xs ys) .nilFunc).run P w = .ok false w := fun d => by
    simp [Op.equalIn, run_underlying ht]
  simp only [binOp]
  simp [Op.equal, Op.maxDepth, h 9999]
theorem eql_fnil_fnil {P : Program} (w : World) {t : TypeId} {ps rs : Array TypeId} {b : Bool} (ht : P.underlying t = some (.func ps rs b)) :
    (binOp .eql t .nilFunc .nilFunc).run P w = .ok (.bool true) w := by
  have h : ∀ d : Nat, (Op.equalIn (d + 1) t .nilFunc .nilFunc).run P w = .ok true w := fun d => by
    simp [Op.equalIn, run_underlying ht]
  simp only [binOp]
  simp [Op.equal, Op.maxDepth, h 9999]

/-- block b is the map l; nothing below B has turned since w0 -/
structure MapB (B : Nat) (w0 w : World) (b : Nat) (l : List (Int × Value)) : Prop where
  heap : w.heap[b]? = some (mapI l)
  below : Below B w0 w
  base : B ≤ b
section
variable {B b : Nat} {w0 w w' : World} {l : List (Int × Value)} {P : Program}
theorem MapB.lt (h : MapB B w0 w b l) : b < w.heap.size := (Array.getElem?_eq_some_iff.1 h.heap).1
theorem MapB.step (h : MapB B w0 w b l) (hb : Below w.heap.size w w') : MapB B w0 w' b l :=
  ⟨(hb.block b h.lt).trans h.heap, h.below.trans (hb.mono (Nat.le_trans h.base (Nat.le_of_lt h.lt))), h.base⟩
theorem MapB.made (h : Below B w0 w) (hB : B ≤ w.heap.size) : MapB B w0 (w.alloc (.map #[] 0)) w.heap.size [] :=
  ⟨(MapKept.heap_alloc w _).1, h.alloc hB _, hB⟩
theorem wpList_insertI {ops : Array Oper} {rest : List Oper} {o : Oper} {a : Act} {Q : Exit → Act → World → Prop}
    (hg : o.guard = none) (m x v : Operand) (t : TypeId) (hop : o.op = Op.insert t m x v)
    (k e : TypeId) (ht : P.underlying t = some (.map k e)) (hk : P.underlying k = some (.int .i64))
    (hm : a.eval m = .map (some b)) (hM : MapB B w0 w b l) (key : Int) (val : Value) (hx : a.eval x = .int .i64 key) (hv : a.eval v = val) (hnew : ∀ p ∈ l, p.1 ≠ key)
    (hK : ∀ w', MapB B w0 w' b (l ++ [(key, val)]) → wpList P ops Q rest (a.put o.dst undef) w') :
    wpList P ops Q (o :: rest) a w := by
  refine wpList_plain hg fun K' hK' => ?_
  have hrun : (Instr.mapUpdate t (.map (some b)) (.int .i64 key) val).run P w = .ok () (setBlock w b (mapI (l ++ [(key, val)]))) := by
    have e1 : (entI (l ++ [(key, val)]) 0).toArray = (entI l 0).toArray.push ⟨.int .i64 key, val, l.length⟩ := by rw [entI_push]; simp
    have hb := hM.heap
    unfold mapI at hb
    have hf := run_findKey (P := P) (w := w) hk (findI_new key l 0 0 hnew)
    simp [Instr.mapUpdate, run_underlying ht, MapKept.run_getObj_map hb, run_checkKey hk (show IsKey (.int .i64) (.int .i64 key) from rfl), hf, MapKept.run_setObj_map _ hb, Result.andThen, setBlock, mapI, e1]
  unfold Oper.wp
  simp [execOp, hop, hm, hx, hv, hrun, Result.andThen]
  refine hK' _ _ (hK _ ⟨?_, ?_, hM.base⟩)
  · exact heap_setBlock_same hM.heap _
  · refine ⟨hM.below.os, hM.below.tape, hM.below.output, by simpa [setBlock] using hM.below.size, fun i hi => ?_⟩
    have hne : i ≠ b := by have := hM.base; omega
    exact (heap_setBlock_other hM.heap _ hne).trans (hM.below.block i hi)
theorem wpList_lookupI {ops : Array Oper} {rest : List Oper} {o : Oper} {a : Act} {Q : Exit → Act → World → Prop}
    (hg : o.guard = none) (m x : Operand) (t : TypeId) (hop : o.op = Op.lookup t m x false)
    (k e : TypeId) (ht : P.underlying t = some (.map k e)) (hk : P.underlying k = some (.int .i64)) (z : Value) (hz : (zeroValue e).run P w = .ok z w)
    (hm : a.eval m = .map (some b)) (hM : MapB B w0 w b l) (key : Int) (hx : a.eval x = .int .i64 key)
    (hK : wpList P ops Q rest (a.put o.dst (valI z l key)) w) :
    wpList P ops Q (o :: rest) a w := by
  refine wpList_plain hg fun K' hK' => ?_
  have hrun : (Instr.lookup t (.map (some b)) (.int .i64 key) false).run P w = .ok (valI z l key) w := by
    obtain ⟨r, hr, hv⟩ := findI z key l 0 0
    have hb := hM.heap
    unfold mapI at hb
    have hf := run_findKey (P := P) (w := w) hk hr
    rcases r with _ | ⟨j, y⟩
    · have hv' : z = valI z l key := hv
      simp [Instr.lookup, run_underlying ht, MapKept.run_getObj_map hb, run_checkKey hk (show IsKey (.int .i64) (.int .i64 key) from rfl), hf, hz, Result.andThen]
      exact hv'
    · have hv' : y = valI z l key := hv
      simp [Instr.lookup, run_underlying ht, MapKept.run_getObj_map hb, run_checkKey hk (show IsKey (.int .i64) (.int .i64 key) from rfl), hf, Result.andThen]
      exact hv'
  unfold Oper.wp
  simp [execOp, hop, hm, hx, hrun, Result.andThen]
  exact hK' _ _ hK
end
end Go.Proofs.Ytcjmcfjjbicimaa
