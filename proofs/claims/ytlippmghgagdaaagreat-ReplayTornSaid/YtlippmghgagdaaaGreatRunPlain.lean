import Derived.Test.YtlippmghgagdaaaGreatReplayPlain
import Derived.Test.YtlippmghgagdaaaGreatZnsDo
import Derived.Test.YtlippmghgagdaaaGreatRep

/- quicksetlaw16.run, plainly: the log of what was written, and what each block has then. -/
namespace Go.Proofs.YtlippmghgagdaaaGreat
open Go.RowKit

structure Wr where
  zone : Int
  lba : Int
  n : Int
  by_ : UInt8
  trim : Bool
def wrZ (Z : Int) (x : Wr) : Int := (x.zone.tmod Z + Z) % Z
def wrL (x : Wr) : Int := (x.lba.tmod 50 + 50) % 50
def wrN (x : Wr) : Int := 1 + (x.n.tmod 5 + 5) % 5
/-- the i-th write's record -/
def wrR (i : Nat) (x : Wr) : Rc := ⟨if x.trim then 2 else 1, wrL x, wrN x, i + 1, 0, 0, if x.trim then [] else List.replicate (16 * wrN x).toNat x.by_⟩
theorem wrL_in (x : Wr) : 0 ≤ wrL x ∧ wrL x < 50 := by unfold wrL; omega
theorem wrN_in (x : Wr) : 1 ≤ wrN x ∧ wrN x ≤ 5 := by unfold wrN; omega
theorem wrZ_in {Z : Int} (hZ : 0 < Z) (x : Wr) : 0 ≤ wrZ Z x ∧ wrZ Z x < Z := ⟨Int.emod_nonneg _ (by omega), Int.emod_lt_of_pos _ hZ⟩
theorem wr_good {i : Nat} (x : Wr) (hi : i ≤ 1000) : GoodR 55 (wrR i x) := by
  have h1 := wrL_in x
  have h2 := wrN_in x
  unfold wrR
  refine ⟨?_, ?_, ?_, ?_, ⟨rfl, rfl⟩, fun h => ?_, fun h => ?_⟩
  · cases x.trim <;> simp
  · simp only; omega
  · simp only; omega
  · simp only; omega
  · cases hx : x.trim with
    | true => simp [hx] at h
    | false => simp only [Bool.false_eq_true, if_false, List.length_replicate]; omega
  · cases hx : x.trim with
    | true => simp
    | false => simp [hx] at h

/-- one write: what the log has then -/
def runStep (Z : Int) (i : Nat) (x : Wr) (log : List (Nat × Rc)) : List (Nat × Rc) :=
  if (addL (packR log (wrZ Z x).toNat) [wrR i x]).2.2 = 0 then log ++ [((wrZ Z x).toNat, wrR i x)] else log
def logAt (Z : Int) (l : List Wr) : Nat → List (Nat × Rc)
  | 0 => []
  | j + 1 => match l[j]? with
    | some x => runStep Z j x (logAt Z l j)
    | none => logAt Z l j
theorem logAt_succ {Z : Int} {l : List Wr} {j : Nat} {x : Wr} (h : l[j]? = some x) : logAt Z l (j + 1) = runStep Z j x (logAt Z l j) := by
  show (match l[j]? with | some x => runStep Z j x (logAt Z l j) | none => logAt Z l j) = _
  rw [h]
/-- what a write does: it fits, or nothing is done -/
theorem runStep_or {n : Nat} {Z : Int} (hZ : Z = n ∧ 1 ≤ n ∧ n ≤ 64) {log : List (Nat × Rc)} (h : GoodLog n 55 log) (i : Nat) (x : Wr) (hi : i ≤ 1000) (hv : ∀ y ∈ log, y.2.ver ≤ i) :
    (addL (packR log (wrZ Z x).toNat) [wrR i x] = (p0k, [], 40) ∧ runStep Z i x log = log) ∨
    (addL (packR log (wrZ Z x).toNat) [wrR i x] = (⟨hdK (wrZ Z x).toNat, (wrZ Z x).toNat, 4000, (zoneB log (wrZ Z x).toNat).length, nextB log (wrZ Z x).toNat (wrR i x), [wrR i x]⟩, plsL ((zoneB log (wrZ Z x).toNat).length + (packR log (wrZ Z x).toNat).buf.length) [wrR i x], 0) ∧
      (zoneB log (wrZ Z x).toNat).length + (nextB log (wrZ Z x).toNat (wrR i x)).length ≤ 4000 ∧ runStep Z i x log = log ++ [((wrZ Z x).toNat, wrR i x)] ∧ GoodLog n 55 (log ++ [((wrZ Z x).toNat, wrR i x)])) := by
  have hg := wr_good x hi
  have hz := wrZ_in (Z := Z) (by omega) x
  unfold runStep
  rcases packR_add (log := log) (k := (wrZ Z x).toNat) hg (by omega) with h1 | ⟨h1, h2⟩
  · rw [h1]
    exact .inl ⟨rfl, by rw [if_neg (by decide)]⟩
  · refine .inr ⟨h1, h2, by rw [h1]; exact if_pos rfl, h.add (by omega) hg (fun y hy => ?_) h2⟩
    have := hv y hy
    show y.2.ver < ((i : Int) + 1)
    omega
theorem logAt_good {n : Nat} {Z : Int} (hZ : Z = n ∧ 1 ≤ n ∧ n ≤ 64) (l : List Wr) : ∀ (j : Nat), j ≤ 1000 → GoodLog n 55 (logAt Z l j) ∧ ∀ y ∈ logAt Z l j, y.2.ver ≤ j
  | 0, _ => ⟨GoodLog.nil _ _, by simp [logAt]⟩
  | j + 1, hj => by
    obtain ⟨h1, h2⟩ := logAt_good hZ l j (by omega)
    have h3 : ∀ y ∈ logAt Z l j, y.2.ver ≤ ((j + 1 : Nat) : Int) := fun y hy => by have := h2 y hy; omega
    cases hx : l[j]? with
    | none =>
      have e : logAt Z l (j + 1) = logAt Z l j := by
        show (match l[j]? with | some x => runStep Z j x (logAt Z l j) | none => logAt Z l j) = _
        rw [hx]
      rw [e]
      exact ⟨h1, h3⟩
    | some x =>
      rw [logAt_succ hx]
      rcases runStep_or hZ h1 j x (by omega) h2 with ⟨_, e⟩ | ⟨_, _, e, hg⟩
      · rw [e]; exact ⟨h1, h3⟩
      · rw [e]
        refine ⟨hg, fun y hy => ?_⟩
        rcases List.mem_append.1 hy with hy | hy
        · exact h3 y hy
        · simp only [List.mem_singleton] at hy
          subst hy
          show ((j : Int) + 1) ≤ _
          omega

/-- the last record of a block -/
def lastC (log : List (Nat × Rc)) (b : Int) : Option Rc := (log.reverse.find? fun x => decide (x.2.lba ≤ b ∧ b < x.2.lba + x.2.n)).map (·.2)
theorem lastC_snoc (log : List (Nat × Rc)) (z : Nat) (r : Rc) (b : Int) : lastC (log ++ [(z, r)]) b = if r.lba ≤ b ∧ b < r.lba + r.n then some r else lastC log b := by
  unfold lastC
  rw [List.reverse_append, List.reverse_singleton, List.singleton_append, List.find?_cons]
  by_cases h : r.lba ≤ b ∧ b < r.lba + r.n
  · simp [h]
  · simp [h]
theorem lastC_none {log : List (Nat × Rc)} {b : Int} (h : lastC log b = none) : ∀ x ∈ log, ¬ covR x.2 b := by
  intro x hx hc
  unfold lastC at h
  rw [Option.map_eq_none_iff, List.find?_eq_none] at h
  exact h x (List.mem_reverse.2 hx) (decide_eq_true hc)
theorem lastC_some {log : List (Nat × Rc)} {b : Int} {r : Rc} (hp : log.Pairwise (fun x y => x.2.ver < y.2.ver)) (h : lastC log b = some r) : ∃ z, (z, r) ∈ log ∧ covR r b ∧ ∀ y ∈ log, covR y.2 b → y.2.ver ≤ r.ver := by
  unfold lastC at h
  obtain ⟨x, hx, rfl⟩ := Option.map_eq_some_iff.1 h
  obtain ⟨hc, l1, l2, e, hn⟩ := List.find?_eq_some_iff_append.1 hx
  have hx2 : x ∈ log := List.mem_reverse.1 (List.mem_of_find?_eq_some hx)
  simp only [decide_eq_true_eq] at hc
  refine ⟨x.1, hx2, hc, fun y hy hyc => ?_⟩
  have hy2 : y ∈ l1 ++ x :: l2 := by rw [← e]; exact List.mem_reverse.2 hy
  have hp2 : (l1 ++ x :: l2).Pairwise (fun x y => y.2.ver < x.2.ver) := by rw [← e]; exact List.pairwise_reverse.2 hp
  rcases List.mem_append.1 hy2 with hy2 | hy2
  · have := hn y hy2
    rw [Bool.not_eq_true', decide_eq_false_iff_not] at this
    exact absurd hyc this
  · rcases List.mem_cons.1 hy2 with rfl | hy2
    · exact Int.le_refl _
    · have := (List.pairwise_cons.1 (List.pairwise_append.1 hp2).2.1).1 y hy2
      omega
/-- what a block has -/
def strB (l : List UInt8) : Value := .string ⟨l.toArray⟩
/-- what is wanted of each block: by the log -/
def WantOk (m : List (Int × Value)) (log : List (Nat × Rc)) : Prop := (∀ b, getI m b = (lastC log b).map fun r => strB (contR r b)) ∧ (m.map (·.1)).Nodup
/-- in the midst of a record's blocks -/
def WantMid (m : List (Int × Value)) (log : List (Nat × Rc)) (lba : Int) (k : Nat) (v : Value) : Prop := (∀ b, getI m b = if lba ≤ b ∧ b < lba + k then some v else (lastC log b).map fun r => strB (contR r b)) ∧ (m.map (·.1)).Nodup
theorem upd_keys : ∀ (m : List (Int × Value)) (k : Int) (v : Value), (updI m k v).map (·.1) = if k ∈ m.map (·.1) then m.map (·.1) else m.map (·.1) ++ [k]
  | [], k, v => by simp [updI]
  | p :: m, k, v => by
    unfold updI
    by_cases h : k = p.1
    · rw [if_pos h, if_pos (by rw [h]; simp)]
      simp [h]
    · rw [if_neg h, List.map_cons, upd_keys m k v]
      by_cases h2 : k ∈ m.map (·.1)
      · rw [if_pos h2, if_pos (by rw [List.map_cons]; exact List.mem_cons_of_mem _ h2)]; rfl
      · rw [if_neg h2, if_neg (by rw [List.map_cons, List.mem_cons]; exact fun e => e.elim h h2)]; rfl
theorem upd_nodup {m : List (Int × Value)} (h : (m.map (·.1)).Nodup) (k : Int) (v : Value) : ((updI m k v).map (·.1)).Nodup := by
  rw [upd_keys]
  split
  · exact h
  · rename_i h2
    rw [List.nodup_append]
    exact ⟨h, by simp, fun a ha b hb e => by simp only [List.mem_singleton] at hb; subst hb; exact h2 (e ▸ ha)⟩
theorem WantOk.nil : WantOk [] [] := ⟨fun _ => rfl, List.nodup_nil⟩
theorem WantOk.mid {m : List (Int × Value)} {log : List (Nat × Rc)} (h : WantOk m log) (lba : Int) (v : Value) : WantMid m log lba 0 v := ⟨fun b => by rw [if_neg (by omega)]; exact h.1 b, h.2⟩
theorem WantMid.set {m : List (Int × Value)} {log : List (Nat × Rc)} {lba : Int} {k : Nat} {v : Value} (h : WantMid m log lba k v) : WantMid (updI m (lba + k) v) log lba (k + 1) v := by
  refine ⟨fun b => ?_, upd_nodup h.2 _ _⟩
  rw [getI_upd, h.1 b]
  by_cases hb : b = lba + k
  · rw [if_pos hb, if_pos (by omega)]
  · rw [if_neg hb]
    by_cases h2 : lba ≤ b ∧ b < lba + k
    · rw [if_pos h2, if_pos (by omega)]
    · rw [if_neg h2, if_neg (by omega)]
theorem WantMid.set2 {m : List (Int × Value)} {log : List (Nat × Rc)} {lba : Int} {k : Nat} {v u : Value} (h : WantMid m log lba k v) : WantMid (updI (updI m (lba + k) u) (lba + k) v) log lba (k + 1) v := by
  have h1 := h.set
  refine ⟨fun b => ?_, upd_nodup (upd_nodup h.2 _ _) _ _⟩
  rw [← h1.1 b, getI_upd, getI_upd, getI_upd]
  by_cases hb : b = lba + k
  · rw [if_pos hb, if_pos hb]
  · rw [if_neg hb, if_neg hb, if_neg hb]
theorem cont_wr {i : Nat} {x : Wr} {b : Int} (h : covR (wrR i x) b) : contR (wrR i x) b = List.replicate 16 (if x.trim then 0 else x.by_) := by
  have h2 := wrN_in x
  unfold covR at h
  unfold contR
  cases hx : x.trim with
  | true => simp [wrR, hx, zeros]
  | false =>
    have e : (wrR i x).lba = wrL x ∧ (wrR i x).n = wrN x ∧ (wrR i x).kind = 1 ∧ (wrR i x).data = List.replicate (16 * wrN x).toNat x.by_ := by simp [wrR, hx]
    rw [e.1, e.2.1] at h
    rw [e.1, e.2.2.1, e.2.2.2, if_neg (by decide), List.drop_replicate, List.take_replicate]
    have : min 16 ((16 * wrN x).toNat - (16 * (b - wrL x)).toNat) = 16 := by omega
    rw [this]
    rfl
theorem WantMid.done {m : List (Int × Value)} {log : List (Nat × Rc)} {i z : Nat} {x : Wr} (h : WantMid m log (wrL x) (wrN x).toNat (strB (List.replicate 16 (if x.trim then 0 else x.by_)))) : WantOk m (log ++ [(z, wrR i x)]) := by
  have hn := wrN_in x
  refine ⟨fun b => ?_, h.2⟩
  rw [h.1 b, lastC_snoc]
  show _ = Option.map _ (if wrL x ≤ b ∧ b < wrL x + wrN x then some (wrR i x) else lastC log b)
  by_cases hb : wrL x ≤ b ∧ b < wrL x + wrN x
  · rw [if_pos (by omega), if_pos hb, Option.map_some, cont_wr (show covR (wrR i x) b from hb)]
  · rw [if_neg (by omega), if_neg hb]
theorem get_mem : ∀ (m : List (Int × Value)) (k : Int), (getI m k).isSome = true ↔ k ∈ m.map (·.1)
  | [], k => by simp [getI]
  | p :: m, k => by
    unfold getI
    rw [List.map_cons, List.mem_cons]
    by_cases h : k = p.1
    · simp [h]
    · rw [if_neg h, get_mem m k]; simp [h]
/-- how many blocks are wanted -/
theorem WantOk.count {m : List (Int × Value)} {log : List (Nat × Rc)} (h : WantOk m log) (hin : ∀ x ∈ log, 0 ≤ x.2.lba ∧ x.2.lba + x.2.n ≤ 60) : m.length = ((List.range 60).filter fun i => (lastC log ((0 : Int) + (i : Nat))).isSome).length := by
  have hk : ∀ b, b ∈ m.map (·.1) ↔ (lastC log b).isSome = true := fun b => by rw [← get_mem, h.1 b, Option.isSome_map]
  have hin2 : ∀ b, (lastC log b).isSome = true → 0 ≤ b ∧ b < 60 := by
    intro b hb
    obtain ⟨r, hr⟩ := Option.isSome_iff_exists.1 hb
    unfold lastC at hr
    obtain ⟨x, hx, rfl⟩ := Option.map_eq_some_iff.1 hr
    have h1 := hin x (List.mem_reverse.1 (List.mem_of_find?_eq_some hx))
    have h2 := List.find?_some hx
    simp only [decide_eq_true_eq] at h2
    omega
  have hp : (m.map (·.1)).Perm (((List.range 60).filter fun i => (lastC log ((0 : Int) + (i : Nat))).isSome).map fun (i : Nat) => (i : Int)) := by
    refine (List.perm_ext_iff_of_nodup h.2 ?_).2 fun b => ?_
    · rw [List.Nodup, List.pairwise_map]
      exact (List.nodup_range.filter _).imp fun h e => h (by exact_mod_cast e)
    · rw [hk b, List.mem_map]
      constructor
      · intro hb
        have := hin2 b hb
        exact ⟨b.toNat, List.mem_filter.2 ⟨List.mem_range.2 (by omega), by rw [Int.zero_add, show ((b.toNat : Nat) : Int) = b by omega]; exact hb⟩, by omega⟩
      · rintro ⟨i, hi, rfl⟩
        have := (List.mem_filter.1 hi).2
        rwa [Int.zero_add] at this
  have := hp.length_eq
  simpa using this
end Go.Proofs.YtlippmghgagdaaaGreat

/- Writes among the arguments, opened. -/
namespace Go.Proofs.YtlippmghgagdaaaGreat
open Go.RowKit Go.WideShapes Go.ChangeShapes Go.Deep Go.Joins

/-- a Write in memory -/
def Rp.wr : Rp Wr := ⟨5, fun _ _ cs x => cs = [.int .i64 x.zone, .int .i64 x.lba, .int .i64 x.n, .int .u8 (x.by_.toNat : Int), .bool x.trim] ∧ I63 [x.zone, x.lba, x.n],
  by rintro _ _ _ _ ⟨rfl, _⟩; rfl, fun h _ => h, fun h _ => h, by
    rintro _ _ _ _ ⟨rfl, _⟩ u hu
    simp only [List.mem_cons, List.not_mem_nil, or_false] at hu
    rcases hu with rfl | rfl | rfl | rfl | rfl <;> rfl⟩
theorem Tryz.cbool : Tryz.prog.cellsOf 4 = 1 := by kernel_rfl
theorem Tryz.cells_wr : Tryz.prog.cellsOf 81 = 5 := by kernel_rfl
set_option maxRecDepth 100000 in
theorem open_wr {H : Type} {enc : TypeId × Value → H} {w : World} {n : Nat} {cs : List Value} {x : DataW H × List MemPlace} (h : DataW.trod enc Tryz.prog w 0 (fun _ => true) true n 81 cs = some x) (hs : Small Tryz.prog 81 x.1) :
    ∃ o, Rp.wr.is w (· < w.heap.size) cs o := by
  obtain ⟨xs, m, _, rfl, hlen, hl, hf⟩ := DataW.trod_struct Tryz.underlying81 h
  rw [Tryz.cells_wr] at hlen
  match cs, hlen, xs, hl with
  | [c0, c1, c2, c3, c4], _, [y0, y1, y2, y3, y4], _ =>
    have g0 := hf 0 _ rfl
    replace g0 : DataW.trod enc Tryz.prog w 0 (fun _ => true) true m 3 [c0] = some y0 := by simpa [Tryz.ci] using g0
    obtain ⟨a0, e0, _, w0⟩ := DataW.trod_int Tryz.underlying3 g0
    have b0 := bounds_i64 w0
    have g1 := hf 1 _ rfl
    replace g1 : DataW.trod enc Tryz.prog w 0 (fun _ => true) true m 3 [c1] = some y1 := by simpa [Tryz.ci] using g1
    obtain ⟨a1, e1, _, w1⟩ := DataW.trod_int Tryz.underlying3 g1
    have b1 := bounds_i64 w1
    have g2 := hf 2 _ rfl
    replace g2 : DataW.trod enc Tryz.prog w 0 (fun _ => true) true m 3 [c2] = some y2 := by simpa [Tryz.ci] using g2
    obtain ⟨a2, e2, _, w2⟩ := DataW.trod_int Tryz.underlying3 g2
    have b2 := bounds_i64 w2
    have g3 := hf 3 _ rfl
    replace g3 : DataW.trod enc Tryz.prog w 0 (fun _ => true) true m 5 [c3] = some y3 := by simpa [Tryz.cb] using g3
    obtain ⟨a3, e3, _, w3⟩ := DataW.trod_int Tryz.underlying5 g3
    have b3 := byte_range w3
    have g4 := hf 4 _ rfl
    replace g4 : DataW.trod enc Tryz.prog w 0 (fun _ => true) true m 4 [c4] = some y4 := by simpa [Tryz.cbool] using g4
    obtain ⟨a4, e4, _⟩ := DataW.trod_bool Tryz.underlying4 g4
    simp only [List.cons.injEq, and_true] at e0 e1 e2 e3 e4
    subst e0 e1 e2 e3 e4
    exact ⟨⟨a0, a1, a2, UInt8.ofNat a3.toNat, a4⟩, ⟨(by show _ = [_, _, _, Value.int .u8 (((UInt8.ofNat a3.toNat).toNat : Nat) : Int), _]; rw [b3]), by intro n hn; simp only [List.mem_cons, List.not_mem_nil, or_false] at hn; rcases hn with rfl | rfl | rfl <;> omega⟩⟩

theorem Tryz.cL_wr : Tryz.prog.cellsOf 59 = 1 := by kernel_rfl
theorem Tryz.bytes_wr : Tryz.prog.bytesOf 81 = 32 := by kernel_rfl
set_option maxRecDepth 100000 in
theorem open_L_wr {H : Type} {enc : TypeId × Value → H} {w : World} {n : Nat} {cs : List Value} {x : DataW H × List MemPlace} (h : DataW.trod enc Tryz.prog w 0 (fun _ => true) true n 59 cs = some x) (hs : Small Tryz.prog 59 x.1) :
    ∃ v l, cs = [v] ∧ IsL Rp.wr w (· < w.heap.size) v l ∧ l.length * 32 ≤ 140737488351232 := by
  obtain ⟨v, l, e, hL, hb⟩ := open_list Rp.wr Tryz.underlying59 Tryz.cells_wr (by rw [Tryz.bytes_wr]; decide) (by decide) h hs fun _ _ _ h s => open_wr h s
  rw [Tryz.bytes_wr] at hb
  exact ⟨v, l, e, hL, hb⟩
set_option maxRecDepth 100000 in
theorem open_LA_wr {H : Type} {enc : TypeId × Value → H} {w : World} {base : Nat} {v : Value} {d : DataW H} {p : List MemPlace} (hv : Value.okWide Tryz.prog w .any base 59 v) (h : DataW.Trod enc Tryz.prog w 0 (fun _ => true) true 59 v d p) (hs : Small Tryz.prog 59 d) :
    ∃ l, IsL Rp.wr w (· < w.heap.size) v l ∧ l.length * 32 ≤ 140737488351232 := by
  obtain ⟨A, n, c, rfl⟩ := okWide_slice Tryz.underlying59 hv
  obtain ⟨fuel, hf⟩ := h
  obtain ⟨v', l, hcs, hB⟩ := open_L_wr hf hs
  have : Value.slice A n c = v' := by simpa [Value.cells] using hcs
  rw [this]
  exact ⟨l, hB⟩


end Go.Proofs.YtlippmghgagdaaaGreat
