/- Steps of a drawn region by hand, the order's side conditions as theorems of their own over the region's operations, which are read off the function by its number. Over any program. -/
import Derived.Test.YtjahaflkdpmhpaaGreatRep
import Derived.Deep.RegionHeld
import Derived.Lib.Hide
namespace Go.Proofs.YtjahaflkdpmhpaaGreat
open Go.RowKit
def Nx (a b : Act) : Prop := a = b
theorem Nx.same (a : Act) : Nx a a := rfl
section
variable {P : Program} {ops : Array Oper} {Q : Exit → Act → World → Prop} {md : Region.Mode} {S : World → Prop}
theorem wT (i d : Nat) {op : Op} {ty : TypeId} {pos : String} {af : Array Edge} {gd : Option (Nat × Bool)} {v : Value} {fuel : Nat} {listed : Array Bool} {a a' : Act} {w : World}
 (h : wpAnyH P md ops Q S fuel (listed.setIfInBounds i true) a' w) (hi : ops[i]? = some ⟨some d, op, ty, pos, af, gd⟩ := by rfl)
 (hs : Region.noSelect ops = true := by kernel_rfl) (hf : Region.free md ops listed i = true := by kernel_rfl) (hr : (Region.ready md ops listed).contains i = true := by kernel_rfl)
 (hw : Region.wanted ⟨some d, op, ty, pos, af, gd⟩ (yielded ops a.tmps) = true := by rfl)
 (hy : ∀ w, S w → (execOp a.eval ⟨some d, op, ty, pos, af, gd⟩).run P w = .ok (.value v) w := by intro w hSw; (try dsimp only at hSw); go_simp; with_reducible rfl)
 (hp : Nx (a.put (some d) v) a' := by (simp only [Act.put, List.setIfInBounds_toArray, List.set_cons_zero, List.set_cons_succ]); exact Nx.same _)
 (hQ : ∀ c a w, Q (.panic c) (a.put (some d) v) w → Q (.panic c) a w := by exact fun _ _ _ h => h) (hS : S w := by assumption) : wpAnyH P md ops Q S (fuel + 1) listed a w := by
 have hp' : a.put (some d) v = a' := hp
 subst hp'
 exact wpAnyH_take hi hs hf hr hQ (Or.inl ⟨hw, hy⟩) hS h
theorem wU (i d : Nat) {op : Op} {ty : TypeId} {pos : String} {af : Array Edge} {gd : Option (Nat × Bool)} {fuel : Nat} {listed : Array Bool} {a a' : Act} {w : World}
 (h : wpAnyH P md ops Q S fuel (listed.setIfInBounds i true) a' w) (hi : ops[i]? = some ⟨some d, op, ty, pos, af, gd⟩ := by rfl)
 (hs : Region.noSelect ops = true := by kernel_rfl) (hf : Region.free md ops listed i = true := by kernel_rfl) (hr : (Region.ready md ops listed).contains i = true := by kernel_rfl)
 (hw : Region.wanted ⟨some d, op, ty, pos, af, gd⟩ (yielded ops a.tmps) = false := by kernel_rfl)
 (hp : Nx (a.put (some d) undef) a' := by (simp only [Act.put, List.setIfInBounds_toArray, List.set_cons_zero, List.set_cons_succ]); exact Nx.same _)
 (hQ : ∀ c a w, Q (.panic c) (a.put (some d) undef) w → Q (.panic c) a w := by exact fun _ _ _ h => h) (hS : S w := by assumption) : wpAnyH P md ops Q S (fuel + 1) listed a w := by
 have hp' : a.put (some d) undef = a' := hp
 subst hp'
 exact wpAnyH_take hi hs hf hr hQ (Or.inr ⟨hw, rfl⟩) hS h
end
theorem at_alloc {K : World → Prop} {w : World} {t : TypeId} {cs : Array Value} (h : ∀ wy, Below w.heap.size w wy → Blk wy w.heap.size t cs → K wy) : K (w.alloc (.cells cs t)) :=
 h _ ((Below.refl _ _).alloc (Nat.le_refl _) _) (Blk.new _ _ _ rfl)
theorem Turned.upon {B g : Nat} {a w w' : World} (h : Below B a w) (ht : Turned w w' (fun b => b = g)) (hg : B ≤ g) (hB : B ≤ a.heap.size) : Below B a w' :=
 h.trans (ht.below (fun k hk => by subst hk; exact hg) (Nat.le_trans hB h.size))
theorem at_st3 {K : World → Prop} {w : World} {g : Nat} {t : TypeId} {u0 u1 u2 : Value} (hB : Blk w g t #[u0, u1, u2]) (x0 x1 x2 : Value)
 (h : ∀ wy, Turned w wy (fun b => b = g) → Blk wy g t #[x0, x1, x2] → K wy) : K (((w.setCell ⟨g, 0, none⟩ x0).setCell ⟨g, 1, none⟩ x1).setCell ⟨g, 2, none⟩ x2) := by
 have t0 := Turned.refl w (fun b => b = g)
 have t1 := t0.set (g := g) rfl 0 x0
 replace hB : Blk _ g t #[x0, u1, u2] := hB.set_ 0 x0
 have t2 := t1.set (g := g) rfl 1 x1
 replace hB : Blk _ g t #[x0, x1, u2] := hB.set_ 1 x1
 have t3 := t2.set (g := g) rfl 2 x2
 replace hB : Blk _ g t #[x0, x1, x2] := hB.set_ 2 x2
 exact h _ t3 hB
theorem at_st4 {K : World → Prop} {w : World} {g : Nat} {t : TypeId} {u0 u1 u2 u3 : Value} (hB : Blk w g t #[u0, u1, u2, u3]) (x0 x1 x2 x3 : Value)
 (h : ∀ wy, Turned w wy (fun b => b = g) → Blk wy g t #[x0, x1, x2, x3] → K wy) : K ((((w.setCell ⟨g, 0, none⟩ x0).setCell ⟨g, 1, none⟩ x1).setCell ⟨g, 2, none⟩ x2).setCell ⟨g, 3, none⟩ x3) := by
 have t0 := Turned.refl w (fun b => b = g)
 have t1 := t0.set (g := g) rfl 0 x0
 replace hB : Blk _ g t #[x0, u1, u2, u3] := hB.set_ 0 x0
 have t2 := t1.set (g := g) rfl 1 x1
 replace hB : Blk _ g t #[x0, x1, u2, u3] := hB.set_ 1 x1
 have t3 := t2.set (g := g) rfl 2 x2
 replace hB : Blk _ g t #[x0, x1, x2, u3] := hB.set_ 2 x2
 have t4 := t3.set (g := g) rfl 3 x3
 replace hB : Blk _ g t #[x0, x1, x2, x3] := hB.set_ 3 x3
 exact h _ t4 hB
theorem at_st7 {K : World → Prop} {w : World} {g : Nat} {t : TypeId} {u0 u1 u2 u3 u4 u5 u6 : Value} (hB : Blk w g t #[u0, u1, u2, u3, u4, u5, u6]) (x0 x1 x2 x3 x4 x5 x6 : Value)
 (h : ∀ wy, Turned w wy (fun b => b = g) → Blk wy g t #[x0, x1, x2, x3, x4, x5, x6] → K wy) : K (((((((w.setCell ⟨g, 0, none⟩ x0).setCell ⟨g, 1, none⟩ x1).setCell ⟨g, 2, none⟩ x2).setCell ⟨g, 3, none⟩ x3).setCell ⟨g, 4, none⟩ x4).setCell ⟨g, 5, none⟩ x5).setCell ⟨g, 6, none⟩ x6) := by
 have t0 := Turned.refl w (fun b => b = g)
 have t1 := t0.set (g := g) rfl 0 x0
 replace hB : Blk _ g t #[x0, u1, u2, u3, u4, u5, u6] := hB.set_ 0 x0
 have t2 := t1.set (g := g) rfl 1 x1
 replace hB : Blk _ g t #[x0, x1, u2, u3, u4, u5, u6] := hB.set_ 1 x1
 have t3 := t2.set (g := g) rfl 2 x2
 replace hB : Blk _ g t #[x0, x1, x2, u3, u4, u5, u6] := hB.set_ 2 x2
 have t4 := t3.set (g := g) rfl 3 x3
 replace hB : Blk _ g t #[x0, x1, x2, x3, u4, u5, u6] := hB.set_ 3 x3
 have t5 := t4.set (g := g) rfl 4 x4
 replace hB : Blk _ g t #[x0, x1, x2, x3, x4, u5, u6] := hB.set_ 4 x4
 have t6 := t5.set (g := g) rfl 5 x5
 replace hB : Blk _ g t #[x0, x1, x2, x3, x4, x5, u6] := hB.set_ 5 x5
 have t7 := t6.set (g := g) rfl 6 x6
 replace hB : Blk _ g t #[x0, x1, x2, x3, x4, x5, x6] := hB.set_ 6 x6
 exact h _ t7 hB
theorem at_st8 {K : World → Prop} {w : World} {g : Nat} {t : TypeId} {u0 u1 u2 u3 u4 u5 u6 u7 : Value} (hB : Blk w g t #[u0, u1, u2, u3, u4, u5, u6, u7]) (x0 x1 x2 x3 x4 x5 x6 x7 : Value)
 (h : ∀ wy, Turned w wy (fun b => b = g) → Blk wy g t #[x0, x1, x2, x3, x4, x5, x6, x7] → K wy) : K ((((((((w.setCell ⟨g, 0, none⟩ x0).setCell ⟨g, 1, none⟩ x1).setCell ⟨g, 2, none⟩ x2).setCell ⟨g, 3, none⟩ x3).setCell ⟨g, 4, none⟩ x4).setCell ⟨g, 5, none⟩ x5).setCell ⟨g, 6, none⟩ x6).setCell ⟨g, 7, none⟩ x7) := by
 have t0 := Turned.refl w (fun b => b = g)
 have t1 := t0.set (g := g) rfl 0 x0
 replace hB : Blk _ g t #[x0, u1, u2, u3, u4, u5, u6, u7] := hB.set_ 0 x0
 have t2 := t1.set (g := g) rfl 1 x1
 replace hB : Blk _ g t #[x0, x1, u2, u3, u4, u5, u6, u7] := hB.set_ 1 x1
 have t3 := t2.set (g := g) rfl 2 x2
 replace hB : Blk _ g t #[x0, x1, x2, u3, u4, u5, u6, u7] := hB.set_ 2 x2
 have t4 := t3.set (g := g) rfl 3 x3
 replace hB : Blk _ g t #[x0, x1, x2, x3, u4, u5, u6, u7] := hB.set_ 3 x3
 have t5 := t4.set (g := g) rfl 4 x4
 replace hB : Blk _ g t #[x0, x1, x2, x3, x4, u5, u6, u7] := hB.set_ 4 x4
 have t6 := t5.set (g := g) rfl 5 x5
 replace hB : Blk _ g t #[x0, x1, x2, x3, x4, x5, u6, u7] := hB.set_ 5 x5
 have t7 := t6.set (g := g) rfl 6 x6
 replace hB : Blk _ g t #[x0, x1, x2, x3, x4, x5, x6, u7] := hB.set_ 6 x6
 have t8 := t7.set (g := g) rfl 7 x7
 replace hB : Blk _ g t #[x0, x1, x2, x3, x4, x5, x6, x7] := hB.set_ 7 x7
 exact h _ t8 hB
end Go.Proofs.YtjahaflkdpmhpaaGreat
namespace Go.Proofs.YtjahaflkdpmhpaaGreat
open Go.RowKit
noncomputable def opsIn (id : Nat) : Code → Option (Array Oper)
 | .region i ops _ => match Nat.beq i id with
   | true => some ops
   | false => none
 | .seq a b => match opsIn id a with
   | some o => some o
   | none => opsIn id b
 | .cond _ a b => match opsIn id a with
   | some o => some o
   | none => opsIn id b
 | .block _ c => opsIn id c
 | .loop c => opsIn id c
 | .scope c => opsIn id c
 | .rangeFunc _ _ a c => match opsIn id a with
   | some o => some o
   | none => opsIn id c
 | _ => none
noncomputable def opsOf (id : Nat) (f : Func) : Array Oper := match f.body with
 | some c => match opsIn id c with
   | some o => o
   | none => #[]
 | none => #[]
def mark (n : Nat) : List Nat → Array Bool
 | [] => Array.replicate n false
 | i :: r => (mark n r).setIfInBounds i true
def okT (ops : Array Oper) (r : List Nat) (i : Nat) : Bool := Region.free .any ops (mark ops.size r) i && (Region.ready .any ops (mark ops.size r)).contains i
def okR (ops : Array Oper) (r : List Nat) : List Nat := Region.ready .any ops (mark ops.size r)
section
variable {P : Program} {ops rg : Array Oper} {Q : Exit → Act → World → Prop} {S : World → Prop} {fuel : Nat} {a : Act} {w : World}
theorem wpC_start {id : Nat} (rg : Array Oper) (he : ops = rg) (hm : P.follows .mixedOrders = true) (hS : S w.drew)
 (h : Hid (ops = rg) → S w.drew → wpAnyH P .any ops Q S ops.size (mark ops.size []) a w.drew) : (Code.region id ops true).wp P Q a w :=
 wp_region_held_drew hm hS (h (Lib.hid he))
theorem wpC_take (r : List Nat) {i : Nat} {oi : Oper} {v : Value} (he : Hid (ops = rg)) (hs : Region.noSelect rg = true) (ht : okT rg r i = true) (hi : ops[i]? = some oi)
 (hQ : ∀ c a w, Q (.panic c) (a.put oi.dst v) w → Q (.panic c) a w) (hy : YieldsIf P ops S oi v a) (hS : S w)
 (h : wpAnyH P .any ops Q S fuel (mark ops.size (i :: r)) (a.put oi.dst v) w) : wpAnyH P .any ops Q S (fuel + 1) (mark ops.size r) a w := by
 have he := he.out
 subst he
 unfold okT at ht
 rw [Bool.and_eq_true] at ht
 exact wpAnyH_take hi hs ht.1 ht.2 hQ hy hS h
theorem wC (i d : Nat) {r : List Nat} {op : Op} {ty : TypeId} {pos : String} {af : Array Edge} {gd : Option (Nat × Bool)} {v : Value} {a' : Act} (he : Hid (ops = rg)) (hs : Region.noSelect rg = true) (ht : okT rg r i = true)
 (h : wpAnyH P .any ops Q S fuel (mark ops.size (i :: r)) a' w) (hi : ops[i]? = some ⟨some d, op, ty, pos, af, gd⟩ := by rfl)
 (hw : Region.wanted ⟨some d, op, ty, pos, af, gd⟩ (yielded ops a.tmps) = true := by rfl)
 (hy : ∀ w, S w → (execOp a.eval ⟨some d, op, ty, pos, af, gd⟩).run P w = .ok (.value v) w := by intro w hSw; (try dsimp only at hSw); go_simp; with_reducible rfl)
 (hp : Nx (a.put (some d) v) a' := by (simp only [Act.put, List.setIfInBounds_toArray, List.set_cons_zero, List.set_cons_succ]); exact Nx.same _)
 (hQ : ∀ c a w, Q (.panic c) (a.put (some d) v) w → Q (.panic c) a w := by exact fun _ _ _ h => h) (hS : S w := by assumption) : wpAnyH P .any ops Q S (fuel + 1) (mark ops.size r) a w := by
 have hp' : a.put (some d) v = a' := hp
 subst hp'
 exact wpC_take r he hs ht hi hQ (Or.inl ⟨hw, hy⟩) hS h
theorem wCU (i d : Nat) {r : List Nat} {op : Op} {ty : TypeId} {pos : String} {af : Array Edge} {gd : Option (Nat × Bool)} {a' : Act} (he : Hid (ops = rg)) (hs : Region.noSelect rg = true) (ht : okT rg r i = true)
 (h : wpAnyH P .any ops Q S fuel (mark ops.size (i :: r)) a' w) (hi : ops[i]? = some ⟨some d, op, ty, pos, af, gd⟩ := by rfl)
 (hw : Region.wanted ⟨some d, op, ty, pos, af, gd⟩ (yielded ops a.tmps) = false := by kernel_rfl)
 (hp : Nx (a.put (some d) undef) a' := by (simp only [Act.put, List.setIfInBounds_toArray, List.set_cons_zero, List.set_cons_succ]); exact Nx.same _)
 (hQ : ∀ c a w, Q (.panic c) (a.put (some d) undef) w → Q (.panic c) a w := by exact fun _ _ _ h => h) (hS : S w := by assumption) : wpAnyH P .any ops Q S (fuel + 1) (mark ops.size r) a w := by
 have hp' : a.put (some d) undef = a' := hp
 subst hp'
 exact wpC_take r he hs ht hi hQ (Or.inr ⟨hw, rfl⟩) hS h
theorem wpC_ready (r : List Nat) {rs : List Nat} (he : Hid (ops = rg)) (hr : okR rg r = rs) (hne : rs ≠ [])
 (h : AllReadyH P .any ops Q S fuel (mark ops.size r) a w rs) : wpAnyH P .any ops Q S (fuel + 1) (mark ops.size r) a w := by
 have he := he.out
 subst he
 exact wpAnyH_ready hr hne h
theorem wpC_done (r : List Nat) (he : Hid (ops = rg)) (hr : okR rg r = []) (h : Q .normal a w) : ∀ fuel, wpAnyH P .any ops Q S fuel (mark ops.size r) a w := by
 have he := he.out
 subst he
 exact wpAnyH_done hr h
end
end Go.Proofs.YtjahaflkdpmhpaaGreat
