/- A map of the call's own from ints to integers: look-up, update, delete. Over any program. -/
import Derived.Test.YtjahaflkdpmhpaaGreatRep
import Derived.OpenShut
import Derived.SizedLaws
import Derived.ProofKit
import Derived.Laws.CopyRow
import Derived.Laws.CopyOwn
import Derived.Maps.OwnSet
import Derived.Maps.OwnOps
import Derived.Maps.Views
namespace Go.Proofs.YtjahaflkdpmhpaaGreat
open Go.RowKit Go.WideShapes Go.ChangeShapes Go.Deep
structure A3 where
 a : Int
 b : Int
 c : Int
def Rp.a3 : Rp A3 := ⟨3, fun _ _ cs o => cs = [.int .i64 o.a, .int .i64 o.b, .int .i64 o.c] ∧ (-9223372036854775808 ≤ o.a ∧ o.a ≤ 9223372036854775807) ∧ (-9223372036854775808 ≤ o.b ∧ o.b ≤ 9223372036854775807) ∧ (-9223372036854775808 ≤ o.c ∧ o.c ≤ 9223372036854775807),
 by rintro _ _ _ _ ⟨rfl, _⟩; rfl,
 fun h _ => h,
 fun h _ => h,
 by
  rintro _ _ _ _ ⟨rfl, _⟩ u hu
  simp only [List.mem_cons, List.not_mem_nil, or_false] at hu
  rcases hu with rfl | rfl | rfl <;> rfl⟩
theorem Tryz.cells_a3 : Tryz.prog.cellsOf 64 = 3 := by kernel_rfl
theorem Tryz.ci3 : Tryz.prog.cellsOf 3 = 1 := by kernel_rfl
set_option maxRecDepth 100000 in
theorem open_a3 {H : Type} {enc : TypeId × Value → H} {w : World} {n : Nat} {cs : List Value} {x : DataW H × List MemPlace} (h : DataW.trod enc Tryz.prog w 0 (fun _ => true) true n 64 cs = some x) :
 ∃ o, Rp.a3.is w (· < w.heap.size) cs o := by
 obtain ⟨xs, m, _, rfl, hlen, hl, hf⟩ := DataW.trod_array Tryz.underlying64 h
 rw [Tryz.cells_a3] at hlen
 match cs, hlen, xs, hl with
 | [c0, c1, c2], _, [y0, y1, y2], _ =>
   have g0 := hf 0 (by omega)
   replace g0 : DataW.trod enc Tryz.prog w 0 (fun _ => true) true m 3 [c0] = some y0 := by simpa [Tryz.ci3] using g0
   obtain ⟨a0, e0, _, w0⟩ := DataW.trod_int Tryz.underlying3 g0
   have b0 := bounds_i64 w0
   have g1 := hf 1 (by omega)
   replace g1 : DataW.trod enc Tryz.prog w 0 (fun _ => true) true m 3 [c1] = some y1 := by simpa [Tryz.ci3] using g1
   obtain ⟨a1, e1, _, w1⟩ := DataW.trod_int Tryz.underlying3 g1
   have b1 := bounds_i64 w1
   have g2 := hf 2 (by omega)
   replace g2 : DataW.trod enc Tryz.prog w 0 (fun _ => true) true m 3 [c2] = some y2 := by simpa [Tryz.ci3] using g2
   obtain ⟨a2, e2, _, w2⟩ := DataW.trod_int Tryz.underlying3 g2
   have b2 := bounds_i64 w2
   simp only [List.cons.injEq, and_true] at e0 e1 e2
   subst e0 e1 e2
   exact ⟨⟨a0, a1, a2⟩, rfl, ⟨b0.1, b0.2⟩, ⟨b1.1, b1.2⟩, ⟨b2.1, b2.2⟩⟩
theorem Tryz.bytes_a3 : Tryz.prog.bytesOf 64 = 24 := by kernel_rfl
set_option maxRecDepth 100000 in
theorem open_L_a3 {H : Type} {enc : TypeId × Value → H} {w : World} {n : Nat} {cs : List Value} {x : DataW H × List MemPlace} (h : DataW.trod enc Tryz.prog w 0 (fun _ => true) true n 62 cs = some x) (hs : Small Tryz.prog 62 x.1) :
 ∃ v l, cs = [v] ∧ IsL Rp.a3 w (· < w.heap.size) v l ∧ l.length * 24 ≤ 140737488351232 := by
 obtain ⟨v, l, e, hL, hb⟩ := open_list Rp.a3 Tryz.underlying62 Tryz.cells_a3 (by rw [Tryz.bytes_a3]; decide) (by decide) h hs fun _ _ _ h _ => open_a3 h
 rw [Tryz.bytes_a3] at hb
 exact ⟨v, l, e, hL, hb⟩
set_option maxRecDepth 100000 in
theorem open_LA_a3 {H : Type} {enc : TypeId × Value → H} {w : World} {base : Nat} {v : Value} {d : DataW H} {p : List MemPlace} (hv : Value.okWide Tryz.prog w .any base 62 v) (h : DataW.Trod enc Tryz.prog w 0 (fun _ => true) true 62 v d p) (hs : Small Tryz.prog 62 d) :
 ∃ l, IsL Rp.a3 w (· < w.heap.size) v l ∧ l.length * 24 ≤ 140737488351232 := by
 obtain ⟨A, n, c, rfl⟩ := okWide_slice Tryz.underlying62 hv
 obtain ⟨fuel, hf⟩ := h
 obtain ⟨v', l, hcs, hB⟩ := open_L_a3 hf hs
 have : Value.slice A n c = v' := by simpa [Value.cells] using hcs
 rw [this]
 exact ⟨l, hB⟩
theorem a3_at {w : World} {K : Nat → Prop} {A : Option Addr} {n c : Nat} {l : List A3} (h : IsL Rp.a3 w K (.slice A n c) l) {j : Nat} {e : A3} (hj : l[j]? = some e) :
 ∃ ad, A = some ad ∧ K ad.block ∧ w.cell? (ad.add (j * 3)) = some (.int .i64 e.a) ∧ w.cell? ⟨(ad.add (j * 3)).block, (ad.add (j * 3)).off + 1, none⟩ = some (.int .i64 e.b) ∧ w.cell? ⟨(ad.add (j * 3)).block, (ad.add (j * 3)).off + 2, none⟩ = some (.int .i64 e.c) ∧
   (-9223372036854775808 ≤ e.a ∧ e.a ≤ 9223372036854775807) ∧ (-9223372036854775808 ≤ e.b ∧ e.b ≤ 9223372036854775807) ∧ (-9223372036854775808 ≤ e.c ∧ e.c ≤ 9223372036854775807) := by
 obtain ⟨ad, es, hA, hKad, ⟨rfl, r0, r1, r2⟩, hcell⟩ := h.at_ hj
 have hsz : Rp.a3.size = 3 := rfl
 rw [hsz] at hcell
 refine ⟨ad, hA, hKad, ?_, ?_, ?_, r0, r1, r2⟩
 · rw [← addr0 (ad.add (j * 3))]; exact hcell 0 _ rfl
 · rw [← addrS _ 1 (by decide)]; exact hcell 1 _ rfl
 · rw [← addrS _ 2 (by decide)]; exact hcell 2 _ rfl
end Go.Proofs.YtjahaflkdpmhpaaGreat
namespace Go.Proofs.YtjahaflkdpmhpaaGreat
open Go.RowKit
theorem run_copy_rowK {P : Program} (w : World) (dT sT ty elem : TypeId) (k g o dLen dCap : Nat) (ad : Addr) (sLen sCap : Nat) (cur : Array Value) (t : TypeId) (cs : List Value)
 (hu : P.underlying dT = some (.slice elem)) (hs : (P.info? elem).map (·.size) = some k) (hg : w.heap[g]? = some (.cells cur t (0, 0))) (n : Nat) (hm : Nat.min sLen dLen = n) (hn : cs.length = n * k)
 (hsrc : ∀ j v, cs[j]? = some v → w.cell? (ad.add j) = some v) (hfit : o + cs.length ≤ cur.size) (h1 : ∀ v ∈ cs, v.oneCell' = true) :
 (Builtin.copy_ #[dT, sT] ty #[.slice (some ⟨g, o, none⟩) dLen dCap, .slice (some ad) sLen sCap]).run P w = .ok (goInt n) (w.setRow g (splice cur.toList o cs).toArray) := by
 have hl := run_loadCells_list (P := P) w ad cs hsrc
 have hst := run_storeCells_at (P := P) g o t cs 0 cur w hg (by simpa using hfit) h1
 have hsp : (cur.toList.take (o + 0) ++ cs ++ cur.toList.drop (o + 0 + cs.length)) = splice cur.toList o cs := by unfold splice; rw [List.append_assoc, Nat.add_zero]
 rw [hsp] at hst
 rw [hn] at hl
 cases hq : P.info? elem with
 | none => simp [hq] at hs
 | some i =>
   have hi : i.size = k := by simpa [hq] using hs
   simp [Builtin.copy_, run_underlying hu, Builtin.lenOf, Builtin.firstCells, sizeOf, typeInfo, hq, hi, hm, hl, hst]
theorem wpList_copyK {P : Program} {w w' : World} {ops : Array Oper} {rest : List Oper} {o : Oper} {a : Act} {Q : Exit → Act → World → Prop} (hgd : o.guard = none) (d s : Operand) (t t' : TypeId)
 (ho : o.op = .call { callee := .builtin .copy, args := #[d, s], argTypes := #[t, t'] }) (v u : Value) (hd : a.eval d = v) (hs : a.eval s = u) {v' : Value}
 (hr : (Builtin.copy_ #[t, t'] o.type #[v, u]).run P w = .ok v' w') (h : wpList P ops Q rest (a.put o.dst v') w') : wpList P ops Q (o :: rest) a w :=
 wpList_plain hgd fun _ hK => by
  unfold Oper.wp execOp
  simp only [ho, resolve, invoke, builtin, Sem.run_bind, Sem.run_pure, Result.andThen_ok, List.map_toArray, List.map_cons, List.map_nil, hd, hs, hr]
  exact hK _ _ h
theorem step_copyK {P : Program} {ops : Array Oper} {o : Oper} {a : Act} {w : World} {K : Act → World → Prop} {Q : Exit → Act → World → Prop} {E : Prop}
 (hg : o.guard = none) (d x : Operand) (dT sT : TypeId) (hop : o.op = Op.call { callee := Callee.builtin Builtin.copy, args := #[d, x], argTypes := #[dT, sT] })
 (v u : Value) (hd : a.eval d = v) (hx : a.eval x = u) {v' : Value} {w' : World} (hr : (Builtin.copy_ #[dT, sT] o.type #[v, u]).run P w = .ok v' w') (hK : K (a.put o.dst v') w') :
 if Region.wanted o (yielded ops a.tmps) = true then Oper.wp P o a w K Q else E := by
 have hw : Region.wanted o (yielded ops a.tmps) = true := by simp [Region.wanted, hg]
 rw [if_pos hw]
 unfold Oper.wp
 simp [execOp, hop, resolve, invoke, builtin, hd, hx, hr, Result.andThen]
 exact hK
theorem splice_len {α : Type} (L : List α) (off : Nat) (cs : List α) (h : off + cs.length ≤ L.length) : (splice L off cs).length = L.length := length_splice L off cs h
theorem splice_insert {α : Type} {cur xs vs : List α} {a k m : Nat} (hv : vs.length = k) (hx : cur.take m = xs) (hm : xs.length = m) (ha : a ≤ m) (hc : m + k ≤ cur.length) :
 (splice (splice cur (a + k) (xs.drop a)) a vs).take (m + k) = xs.take a ++ vs ++ xs.drop a := by
 have hd : (xs.drop a).length = m - a := by rw [List.length_drop, hm]
 have h1 : splice cur (a + k) (xs.drop a) = cur.take (a + k) ++ (xs.drop a ++ cur.drop (a + k + (m - a))) := by unfold splice; rw [hd]
 have h2 : (splice cur (a + k) (xs.drop a)).take a = xs.take a := by
  rw [h1, List.take_append_of_le_length (by rw [List.length_take]; omega), List.take_take, ← hx, List.take_take, Nat.min_eq_left (by omega), Nat.min_eq_left ha]
 have h3 : (splice cur (a + k) (xs.drop a)).drop (a + k) = xs.drop a ++ cur.drop (a + k + (m - a)) := by
  rw [h1, List.drop_left' (by rw [List.length_take]; omega)]
 show (List.take a (splice cur (a + k) (xs.drop a)) ++ (vs ++ List.drop (a + vs.length) (splice cur (a + k) (xs.drop a)))).take (m + k) = _
 rw [h2, hv, h3, ← List.append_assoc, ← List.append_assoc, List.take_append_of_le_length (by simp only [List.length_append, List.length_take, hd, hv, hm]; omega), List.take_of_length_le (by simp only [List.length_append, List.length_take, hd, hv, hm]; omega)]
theorem splice_insert2 {α : Type} {C xs vs : List α} {a k m : Nat} (hv : vs.length = k) (hx : C.take a = xs.take a) (hm : xs.length = m) (ha : a ≤ m) :
 (splice (splice C a vs) (a + k) (xs.drop a)).take (m + k) = xs.take a ++ vs ++ xs.drop a := by
 have hd : (xs.drop a).length = m - a := by rw [List.length_drop, hm]
 have h1 : splice C a vs = (xs.take a ++ vs) ++ C.drop (a + k) := by unfold splice; rw [hx, hv, List.append_assoc]
 have hl : (xs.take a ++ vs).length = a + k := by rw [List.length_append, List.length_take, hm, hv]; omega
 have h2 : (splice C a vs).take (a + k) = xs.take a ++ vs := by rw [h1, List.take_left' hl]
 show (List.take (a + k) (splice C a vs) ++ (xs.drop a ++ List.drop (a + k + (xs.drop a).length) (splice C a vs))).take (m + k) = _
 rw [h2, ← List.append_assoc, List.take_append_of_le_length (by rw [List.length_append, hl, hd]; omega), List.take_of_length_le (by rw [List.length_append, hl, hd]; omega)]
end Go.Proofs.YtjahaflkdpmhpaaGreat
namespace Go.Proofs.YtjahaflkdpmhpaaGreat
open Go.RowKit Go.Maps Go.WideMaps
def IntM (P : Program) (k e : TypeId) (q : IntKind) (w : World) (b n : Nat) (f : Int → Int) : Prop :=
 ∃ D : DataW Unit, w.ownsMap P k (plainElem P e) b n D ∧ IsMap D ∧ ∀ s, D.atKey (.int .i64 s) (.lit (.int q 0)) = .lit (.int q (f s))
section
variable {P : Program} {k e : TypeId} {q : IntKind} {w w' : World} {b n : Nat} {f : Int → Int}
theorem IntM.made (w : World) : IntM P k e q (w.alloc (.map #[] 0)) w.heap.size 0 (fun _ => 0) :=
 ⟨.map [], World.ownsMap_made w P k _, isMap_empty, fun _ => rfl⟩
theorem IntM.lt (h : IntM P k e q w b n f) : b < w.heap.size := by obtain ⟨D, h, _⟩ := h; exact h.lt
theorem IntM.kept {row : Option Nat} (h : IntM P k e q w b n f) (hg : w.grownBy w' row) (hne : some b ≠ row) : IntM P k e q w' b n f := by
 obtain ⟨D, h1, h2⟩ := h; exact ⟨D, h1.kept hg hne, h2⟩
theorem IntM.step (h : IntM P k e q w b n f) (hb : Below w.heap.size w w') : IntM P k e q w' b n f := h.kept ⟨hb.os, hb.tape, hb.output, hb.size, fun i hi _ => hb.block i hi⟩ (row := none) (by simp)
theorem IntM.turned {S : Nat → Prop} (h : IntM P k e q w b n f) (ht : Turned w w' S) (hS : ¬ S b) : IntM P k e q w' b n f := by
 obtain ⟨D, ⟨es, clock, hb, r⟩, h2⟩ := h
 exact ⟨D, ⟨es, clock, (ht.block b (Array.getElem?_eq_some_iff.1 hb).1 hS).trans hb, r⟩, h2⟩
theorem Stable.intM : Stable (fun w => IntM P k e q w b n f) := fun _ _ h hb => h.step hb
theorem IntM.look (h : IntM P k e q w b n f) (hk : P.underlying k = some (.int .i64)) {t : TypeId} (ht : P.underlying t = some (.map k e)) (he : P.underlying e = some (.int q)) (hz : (zeroValue e).run P w = .ok (.int q 0) w) (s : Int)
 (hs : -9223372036854775808 ≤ s ∧ s ≤ 9223372036854775807) : (Instr.lookup t (.map (some b)) (.int .i64 s) false).run P w = .ok (.int q (f s)) w := by
 obtain ⟨D, hown, _, hat⟩ := h
 have hwf : (Lit.int .i64 s).wf = true := by simp [Lit.wf, IntKind.min, IntKind.max, IntKind.signed, IntKind.bits]; omega
 obtain ⟨c, hrun, hc, _⟩ := hown.lookup_int (int_keyed hk) ht he hz (keyOf_int_mk hk hwf)
 rw [hat] at hc
 injection hc with hc
 injection hc with _ hc
 rw [hrun, hc]
variable {ops : Array Oper} {rest : List Oper} {o : Oper} {a : Act} {Q : Exit → Act → World → Prop}
theorem wpList_setJ (hg : o.guard = none) (m x v : Operand) (t : TypeId) (hop : o.op = Op.mapUpdate t m x v)
 (k e : TypeId) (q : IntKind) (hk : P.underlying k = some (.int .i64)) (ht : P.underlying t = some (.map k e)) (he : P.underlying e = some (.int q))
 (b n : Nat) (f : Int → Int) (hm : a.eval m = .map (some b)) (hM : IntM P k e q w b n f) (hn : n < maxLen) (s c : Int) (hx : a.eval x = .int .i64 s) (hv : a.eval v = .int q c) (hs : -9223372036854775808 ≤ s ∧ s ≤ 9223372036854775807) (hc : (Lit.int q c).wf = true)
 (hK : ∀ w', IntM P k e q w' b (n + 1) (fun i => if i = s then c else f i) → w.grownBy w' (some b) → wpList P ops Q rest (a.put o.dst undef) w') : wpList P ops Q (o :: rest) a w := by
 obtain ⟨D, hown, hD, hat⟩ := hM
 have hwf : (Lit.int .i64 s).wf = true := by simp [Lit.wf, IntKind.min, IntKind.max, IntKind.signed, IntKind.bits]; omega
 refine wpList_mapUpdate_own w hg m x v t hop k e (int_keyed hk) ht _ b n D hm hown hn _ _ _ hx hv (keyOf_int_mk hk hwf) _ _ (plainElem_int he hc) fun w' h1 h2 => hK w' ⟨_, h1, hD.put _ _, fun i => ?_⟩ h2
 by_cases e1 : i = s
 · subst e1; rw [atKey_put_same hD (show WideAt.IsKeyLit (.int .i64 i) from trivial)]; simp
 · rw [atKey_put_other (by simpa using e1), hat]; simp [e1]
theorem wpList_delJ (hg : o.guard = none) (m x : Operand) (t k : TypeId) (hop : o.op = Op.call { callee := Callee.builtin Builtin.delete, args := #[m, x], argTypes := #[t, k] })
 (e : TypeId) (q : IntKind) (hk : P.underlying k = some (.int .i64)) (ht : P.underlying t = some (.map k e))
 (b n : Nat) (f : Int → Int) (hm : a.eval m = .map (some b)) (hM : IntM P k e q w b n f) (s : Int) (hx : a.eval x = .int .i64 s) (hs : -9223372036854775808 ≤ s ∧ s ≤ 9223372036854775807)
 (hK : ∀ w', IntM P k e q w' b n (fun i => if i = s then 0 else f i) → w.grownBy w' (some b) → wpList P ops Q rest (a.put o.dst (.tuple #[])) w') : wpList P ops Q (o :: rest) a w := by
 obtain ⟨D, hown, hD, hat⟩ := hM
 have hwf : (Lit.int .i64 s).wf = true := by simp [Lit.wf, IntKind.min, IntKind.max, IntKind.signed, IntKind.bits]; omega
 refine wpList_delete_own w hg m x t k hop e (int_keyed hk) ht _ b n D hm hown _ _ hx (keyOf_int_mk hk hwf) fun w' h1 h2 => hK w' ⟨_, h1, hD.del _, fun i => ?_⟩ h2.grown
 by_cases e1 : i = s
 · subst e1; rw [atKey_del_same]; simp
 · rw [atKey_del_other (by simpa using e1), hat]; simp [e1]
end
end Go.Proofs.YtjahaflkdpmhpaaGreat
