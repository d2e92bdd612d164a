/- A block that holds structs one behind the other, written in place. -/
import Derived.Test.YtbjgemipmlimoaaMsgAt
import Derived.Test.YtbjgemipmlimoaaRep
import Derived.Laws.CopyRow
import Derived.Laws.IdiomCopy
namespace Go.Proofs.Ytbjgemipmlimoaa
open Go.RowKit

theorem CellsL.set {α : Type} {R : Rp α} {w : World} {K : Nat → Prop} {cs es : List Value} {l : List α} {a : α} {i : Nat} (h : CellsL R w K cs l) (ha : R.is w K es a) (hi : i < l.length) : CellsL R w K (cs.take (i * R.size) ++ es ++ cs.drop ((i + 1) * R.size)) (l.set i a) := by
  rw [List.set_eq_take_append_cons_drop, if_pos hi]
  have := ((h.take i).snoc ha).append (h.drop (i + 1))
  simpa using this

theorem set6_eq (l : List Value) (o : Nat) (x0 x1 x2 x3 x4 x5 : Value) (h : o + 6 ≤ l.length) :
    (((((l.set o x0).set (o + 1) x1).set (o + 2) x2).set (o + 3) x3).set (o + 4) x4).set (o + 5) x5 = l.take o ++ [x0, x1, x2, x3, x4, x5] ++ l.drop (o + 6) := by
  have e : l = l.take o ++ l.drop o := (List.take_append_drop o l).symm
  have hd : l.drop o = [l[o], l[o + 1], l[o + 2], l[o + 3], l[o + 4], l[o + 5]] ++ l.drop (o + 6) := by
    rw [List.drop_eq_getElem_cons (by omega), List.drop_eq_getElem_cons (by omega), List.drop_eq_getElem_cons (by omega), List.drop_eq_getElem_cons (by omega), List.drop_eq_getElem_cons (by omega), List.drop_eq_getElem_cons (by omega)]
    rfl
  have hl : (l.take o).length = o := by rw [List.length_take]; omega
  generalize l.take o = a at e hl ⊢
  generalize l.drop (o + 6) = b at hd ⊢
  rw [hd] at e
  generalize l[o] = y0 at e; generalize l[o + 1] = y1 at e; generalize l[o + 2] = y2 at e; generalize l[o + 3] = y3 at e; generalize l[o + 4] = y4 at e; generalize l[o + 5] = y5 at e
  clear hd h
  subst e hl
  simp

abbrev FreeL (W : World) (g o : Nat) : Prop :=
  W.frozen? ⟨g, o, none⟩ = false ∧ W.frozen? ⟨g, o + 1, none⟩ = false ∧ W.frozen? ⟨g, o + 2, none⟩ = false ∧ W.frozen? ⟨g, o + 3, none⟩ = false ∧ W.frozen? ⟨g, o + 4, none⟩ = false ∧ W.frozen? ⟨g, o + 5, none⟩ = false
abbrev MsgL (W : World) (g o : Nat) (m : Ms) (A1 : Option Addr) (c1 : Nat) (A2 : Option Addr) (c2 : Nat) : Prop :=
  W.cell? ⟨g, o, none⟩ = some (.int .i64 m.kind) ∧ W.cell? ⟨g, o + 1, none⟩ = some (.int .i64 m.frm) ∧ W.cell? ⟨g, o + 2, none⟩ = some (.int .i64 m.to) ∧
    W.cell? ⟨g, o + 3, none⟩ = some (.int .i64 m.id) ∧ W.cell? ⟨g, o + 4, none⟩ = some (.slice A1 m.args.length c1) ∧ W.cell? ⟨g, o + 5, none⟩ = some (.slice A2 m.data.length c2)
/-- block g holds the messages l, then others -/
def RowL (w : World) (g : Nat) (t : TypeId) (K : Nat → Prop) (l : List Ms) : Prop := ∃ cs sp, Blk w g t (cs ++ sp).toArray ∧ CellsL Rp.msg w K cs l

theorem RowL.of {w : World} {base : Nat} {t : TypeId} {K : Nat → Prop} {g n c : Nat} {cs : List Value} {l : List Ms} (h : w.ownsRow base t 6 (.slice (some ⟨g, 0, none⟩) n c) n cs) (hcl : CellsL Rp.msg w K cs l) : RowL w g t K l := by
  rcases h.2 with ⟨h2, _⟩ | ⟨g', cap, cur, hv, hg, hh, h3, h4, h5, h6⟩
  · cases h2
  · injection hv with e1 e2 e3
    injection e1 with e1
    injection e1 with e1
    subst e1 e3
    refine ⟨cs, cur.toList.drop (n * 6), ?_, hcl⟩
    unfold Blk
    rw [hh, ← h6, List.take_append_drop]
section
variable {w w' : World} {g : Nat} {t : TypeId} {K : Nat → Prop} {l : List Ms} {m : Ms}
theorem RowL.lt (h : RowL w g t K l) : g < w.heap.size := by obtain ⟨cs, sp, h1, _⟩ := h; exact h1.lt
theorem RowL.step (h : RowL w g t K l) (hb : Below w.heap.size w w') : RowL w' g t K l := by
  obtain ⟨cs, sp, h1, h2⟩ := h; exact ⟨cs, sp, h1.step hb, h2.step hb⟩
theorem RowL.add (g o : Nat) : ((⟨g, 0, none⟩ : Addr).add o) = ⟨g, o, none⟩ := by unfold Addr.add; split <;> simp_all
theorem RowL.at_ (h : RowL w g t K l) {j : Nat} (hm : l[j]? = some m) : ∃ A1 c1 A2 c2, IsM w K (mv m A1 c1 A2 c2) m ∧ MsgL w g (j * 6) m A1 c1 A2 c2 ∧ FreeL w g (j * 6) := by
  obtain ⟨cs, sp, h1, h2⟩ := h
  obtain ⟨es, hes, hcell⟩ := h2.at_ hm
  obtain ⟨A1, c1, A2, c2, rfl, him⟩ := rp_isM hes
  have hc : ∀ (k : Nat) u, (cellsM m A1 c1 A2 c2)[k]? = some u → w.cell? ⟨g, j * 6 + k, none⟩ = some u := fun k u hu => by
    rw [h1.cell]
    have := hcell k u hu
    have e : Rp.msg.size = 6 := rfl
    rw [e] at this
    simp only [List.getElem?_toArray]
    rw [List.getElem?_append_left (List.getElem?_eq_some_iff.1 this).1]
    exact this
  unfold cellsM at hc
  exact ⟨A1, c1, A2, c2, him, ⟨hc 0 _ rfl, hc 1 _ rfl, hc 2 _ rfl, hc 3 _ rfl, hc 4 _ rfl, hc 5 _ rfl⟩, h1.frozen _, h1.frozen _, h1.frozen _, h1.frozen _, h1.frozen _, h1.frozen _⟩
/-- a message's cells stored at o in block g -/
abbrev setM (w : World) (g o : Nat) (m : Ms) (A1 : Option Addr) (c1 : Nat) (A2 : Option Addr) (c2 : Nat) : World :=
  (((((w.setCell ⟨g, o, none⟩ (.int .i64 m.kind)).setCell ⟨g, o + 1, none⟩ (.int .i64 m.frm)).setCell ⟨g, o + 2, none⟩ (.int .i64 m.to)).setCell ⟨g, o + 3, none⟩ (.int .i64 m.id)).setCell ⟨g, o + 4, none⟩ (.slice A1 m.args.length c1)).setCell ⟨g, o + 5, none⟩ (.slice A2 m.data.length c2)
theorem grow_setM {w0 : World} (h : w0.grownBy w (some g)) (o : Nat) (m : Ms) (A1 : Option Addr) (c1 : Nat) (A2 : Option Addr) (c2 : Nat) : w0.grownBy (setM w g o m A1 c1 A2 c2) (some g) :=
  grow_set (grow_set (grow_set (grow_set (grow_set (grow_set h _ _) _ _) _ _) _ _) _ _) _ _
theorem CellsL.grown {α : Type} {R : Rp α} {cs : List Value} {l : List α} {row : Option Nat} (h : CellsL R w K cs l) (hg : w.grownBy w' row) (hK : ∀ b, K b → some b ≠ row) : CellsL R w' K cs l :=
  h.keep fun p hp hl => World.cell?_of_block (hg.block p.block hl (hK _ hp))
theorem Rp.grown {α : Type} {R : Rp α} {cs : List Value} {a : α} {row : Option Nat} (h : R.is w K cs a) (hg : w.grownBy w' row) (hK : ∀ b, K b → some b ≠ row) : R.is w' K cs a :=
  R.keep h fun p hp hl => World.cell?_of_block (hg.block p.block hl (hK _ hp))
theorem RowL.put (h : RowL w g t K l) {i : Nat} (hi : i < l.length) {A1 : Option Addr} {c1 : Nat} {A2 : Option Addr} {c2 : Nat} (him : IsM w K (mv m A1 c1 A2 c2) m) (hK : ∀ b, K b → b ≠ g) :
    RowL (setM w g (i * 6) m A1 c1 A2 c2) g t K (l.set i m) := by
  have hg := grow_setM (World.grownBy.refl w (some g)) (i * 6) m A1 c1 A2 c2
  obtain ⟨cs, sp, h1, h2⟩ := h
  have hlen : cs.length = l.length * 6 := h2.len
  have hK' : ∀ b, K b → some b ≠ some g := fun b hb e => hK b hb (by injection e)
  have hs := (h2.set (isM_cells him) hi).grown hg hK'
  refine ⟨_, sp, ?_, hs⟩
  have hb := ((((((h1.set_ (i * 6) (.int .i64 m.kind)).set_ (i * 6 + 1) (.int .i64 m.frm)).set_ (i * 6 + 2) (.int .i64 m.to)).set_ (i * 6 + 3) (.int .i64 m.id)).set_ (i * 6 + 4) (.slice A1 m.args.length c1)).set_ (i * 6 + 5) (.slice A2 m.data.length c2))
  have hfit : i * 6 + 6 ≤ (cs ++ sp).length := by rw [List.length_append]; omega
  have e := set6_eq (cs ++ sp) (i * 6) (.int .i64 m.kind) (.int .i64 m.frm) (.int .i64 m.to) (.int .i64 m.id) (.slice A1 m.args.length c1) (.slice A2 m.data.length c2) hfit
  simp only [List.setIfInBounds_toArray] at hb
  rw [e] at hb
  rw [List.take_append_of_le_length (by omega), List.drop_append_of_le_length (by omega)] at hb
  have e2 : (i + 1) * Rp.msg.size = i * 6 + 6 := by show (i + 1) * 6 = _; omega
  rw [e2]
  have e3 : Rp.msg.size = 6 := rfl
  rw [e3]
  simpa [cellsM] using hb
/-- the first k of them, as a slice -/
theorem RowL.slice (h : RowL w g t K l) {k c : Nat} (hk : k ≤ l.length) (hkc : k ≤ c) (hc : c ≤ 9223372036854775807) (hl : k ≤ 140737488355328) : IsL Rp.msg w (fun b => b = g ∨ K b) (.slice (some ⟨g, 0, none⟩) k c) (l.take k) := by
  obtain ⟨cs, sp, h1, h2⟩ := h
  have hlen : cs.length = l.length * 6 := h2.len
  have e : (l.take k).length = k := by rw [List.length_take]; omega
  refine ⟨_, c, cs.take (k * 6), by rw [e], ?_, (h2.take k).more fun b hb => .inr hb, by omega, hc, by omega⟩
  rw [e]
  refine ⟨by show _ = k * 6; rw [List.length_take]; omega, fun _ => ⟨_, rfl, .inl rfl, fun j u hu => ?_⟩⟩
  rw [RowL.add, h1.cell]
  rw [List.getElem?_take] at hu
  split at hu
  · simp only [List.getElem?_toArray]
    rw [List.getElem?_append_left (List.getElem?_eq_some_iff.1 hu).1]; exact hu
  · cases hu
end

/-- 'clear(s)' of structs in a block that is known whole -/
theorem run_clear_row {P : Program} (w : World) (t e : TypeId) (z : Value) (size : Nat) (ht : P.underlying t = some (.slice e)) (hv : ∀ w, (zeroValue e).run P w = .ok z w) (hz : z.cells.size = size) (hs : 0 < size) (h1 : ∀ v ∈ z.cells, v.oneCell' = true)
    (g o n c : Nat) (t' : TypeId) (cur : Array Value) (hg : Blk w g t' cur) (hn : 0 < n) (hfit : o + n * size ≤ cur.size) :
    ∃ cs' : List Value, cs'.length = n * size ∧ ∀ ty, (Builtin.clear_ #[t] ty #[.slice (some ⟨g, o, none⟩) n c]).run P w = .ok (.tuple #[]) (w.setRow g (cur.toList.take o ++ cs' ++ cur.toList.drop (o + cs'.length)).toArray) := by
  have hl : (Builtin.zeroCells z.cells n).toList.length = n * size := by rw [← hz, ← size_zeroCells]; simp
  have hst := run_storeCells_at P g o t' (Builtin.zeroCells z.cells n).toList 0 cur w hg (by simp only [Nat.add_zero]; omega) (by
    intro v hv
    simp only [Builtin.zeroCells, Array.toList_map, List.mem_map] at hv
    obtain ⟨i, _, rfl⟩ := hv
    have : i % z.cells.size < z.cells.size := Nat.mod_lt _ (by omega)
    rw [getElem!_pos z.cells _ this]
    exact h1 _ (Array.getElem_mem this))
  simp only [Nat.add_zero] at hst
  refine ⟨_, hl, fun ty => ?_⟩
  obtain ⟨m, rfl⟩ : ∃ m, n = m + 1 := ⟨n - 1, by omega⟩
  simp [Builtin.clear_, run_underlying ht, hv, hst]

theorem RowL.clear {P : Program} {w : World} {g : Nat} {t te ts : TypeId} {K : Nat → Prop} {l : List Ms} {z : Value} (h : RowL w g t K l) (ht : P.underlying ts = some (.slice te)) (hv : ∀ w, (zeroValue te).run P w = .ok z w) (hz : z.cells.size = 6) (h1 : ∀ v ∈ z.cells, v.oneCell' = true)
    {k c : Nat} (hk : k < l.length) (hK : ∀ b, K b → b ≠ g) :
    ∃ w', RowL w' g t K (l.take k) ∧ w.grownBy w' (some g) ∧ ∀ ty, (Builtin.clear_ #[ts] ty #[.slice (some ⟨g, k * 6, none⟩) (l.length - k) c]).run P w = .ok (.tuple #[]) w' := by
  obtain ⟨cs, sp, hb, hcl⟩ := h
  have hlen : cs.length = l.length * 6 := hcl.len
  obtain ⟨cs', hl', hrun⟩ := run_clear_row (P := P) w ts te z 6 ht hv hz (by omega) h1 g (k * 6) (l.length - k) c t _ hb (by omega) (by simp; omega)
  refine ⟨_, ⟨cs.take (k * 6), cs' ++ (cs ++ sp).drop (k * 6 + cs'.length), ?_, ?_⟩, ?_, hrun⟩
  · have := setRow_heap w g _ ((cs ++ sp).take (k * 6) ++ cs' ++ (cs ++ sp).drop (k * 6 + cs'.length)).toArray t (0, 0) hb
    unfold Blk
    refine this.trans ?_
    rw [List.take_append_of_le_length (by omega), List.append_assoc]
  · exact (hcl.take k).keep fun p hp _ => cell_setRow_other w g _ p (hK _ hp)
  · exact ⟨rfl, rfl, rfl, by simp, fun b _ hne => setRow_other w g b _ (fun e => hne (by rw [e]))⟩
end Go.Proofs.Ytbjgemipmlimoaa
