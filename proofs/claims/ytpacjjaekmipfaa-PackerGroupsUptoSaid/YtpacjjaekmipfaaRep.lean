/- How data lie in memory, in general: a representation, slices of what is represented, and all that is known at a place of a long walk. Over any program. -/
import Derived.Test.YtpacjjaekmipfaaMore
import Derived.Test.YtpacjjaekmipfaaMs
import Derived.Test.YtpacjjaekmipfaaOpen
import Derived.Deep.RegionLaw
namespace Go.Proofs.Ytpacjjaekmipfaa
open Go.RowKit

theorem IsB.one {w : World} {K : Nat → Prop} {v : Value} {l : List UInt8} (h : IsB w K v l) : v.oneCell' = true := by
  obtain ⟨A, c, rfl, _⟩ := h; rfl

/-- cells that read as an α, what they point to in blocks of which K holds -/
structure Rp (α : Type) where
  size : Nat
  is : World → (Nat → Prop) → List Value → α → Prop
  len : ∀ {w : World} {K : Nat → Prop} {cs : List Value} {a : α}, is w K cs a → cs.length = size
  keep : ∀ {w w' : World} {K : Nat → Prop} {cs : List Value} {a : α}, is w K cs a → (∀ p : Addr, K p.block → p.block < w.heap.size → w'.cell? p = w.cell? p) → is w' K cs a
  more : ∀ {w : World} {K K' : Nat → Prop} {cs : List Value} {a : α}, is w K cs a → (∀ b, K b → K' b) → is w K' cs a
  one : ∀ {w : World} {K : Nat → Prop} {cs : List Value} {a : α}, is w K cs a → ∀ u ∈ cs, u.oneCell' = true

theorem Blk.far3 {w : World} {g g' : Nat} {t : TypeId} {cs : Array Value} {x y z : Value} (h : Blk w g t cs) (hne : g ≠ g') : Blk (((w.setCell ⟨g', 0, none⟩ x).setCell ⟨g', 1, none⟩ y).setCell ⟨g', 2, none⟩ z) g t cs :=
  ((h.far (p := ⟨g', 0, none⟩) hne _).far (p := ⟨g', 1, none⟩) hne _).far (p := ⟨g', 2, none⟩) hne _

theorem addr0 (a : Addr) : a.add 0 = a := by simp [Addr.add]
theorem addrS (a : Addr) (i : Nat) (h : i ≠ 0) : a.add i = ⟨a.block, a.off + i, none⟩ := by unfold Addr.add; simp [h]

section
variable {α : Type} {R : Rp α} {w w' : World} {K K' : Nat → Prop} {cs : List Value} {a : α}
theorem Rp.step (h : R.is w K cs a) (hb : Below w.heap.size w w') : R.is w' K cs a := R.keep h fun _ _ hp => hb.cell hp
theorem Rp.alloc (h : R.is w K cs a) (o : Obj) : R.is (w.alloc o) K cs a := R.keep h fun p _ hp => World.cell?_alloc_lt w o p hp

def Rp.int : Rp Int := ⟨1, fun _ _ cs n => cs = [.int .i64 n] ∧ -9223372036854775808 ≤ n ∧ n ≤ 9223372036854775807, by rintro _ _ _ _ ⟨rfl, _⟩; rfl, fun h _ => h, fun h _ => h, by rintro _ _ _ _ ⟨rfl, _⟩ u hu; simp at hu; subst hu; rfl⟩
def Rp.bool : Rp Bool := ⟨1, fun _ _ cs b => cs = [.bool b], by rintro _ _ _ _ rfl; rfl, fun h _ => h, fun h _ => h, by rintro _ _ _ _ rfl u hu; simp at hu; subst hu; rfl⟩
def Rp.bytes : Rp (List UInt8) := ⟨1, fun w K cs l => ∃ v, cs = [v] ∧ IsB w K v l, by rintro _ _ _ _ ⟨v, rfl, _⟩; rfl,
  by rintro _ _ _ _ _ ⟨v, e, h⟩ hk; exact ⟨v, e, h.keep hk⟩, by rintro _ _ _ _ _ ⟨v, e, h⟩ hk; exact ⟨v, e, h.more hk⟩,
  by rintro _ _ _ _ ⟨v, rfl, A, c, rfl, _⟩ u hu; simp at hu; subst hu; rfl⟩
def Rp.pair {β : Type} (R : Rp α) (S : Rp β) : Rp (α × β) := ⟨R.size + S.size, fun w K cs p => ∃ c1 c2, cs = c1 ++ c2 ∧ R.is w K c1 p.1 ∧ S.is w K c2 p.2,
  by rintro _ _ _ _ ⟨c1, c2, rfl, h1, h2⟩; rw [List.length_append, R.len h1, S.len h2],
  by rintro _ _ _ _ _ ⟨c1, c2, e, h1, h2⟩ hk; exact ⟨c1, c2, e, R.keep h1 hk, S.keep h2 hk⟩,
  by rintro _ _ _ _ _ ⟨c1, c2, e, h1, h2⟩ hk; exact ⟨c1, c2, e, R.more h1 hk, S.more h2 hk⟩,
  by
    rintro _ _ _ _ ⟨c1, c2, rfl, h1, h2⟩ u hu
    rcases List.mem_append.1 hu with hu | hu
    · exact R.one h1 u hu
    · exact S.one h2 u hu⟩

/-- cells that read as an α one behind the other -/
def CellsL (R : Rp α) (w : World) (K : Nat → Prop) : List Value → List α → Prop
  | cs, [] => cs = []
  | cs, a :: l => ∃ c1 c2, cs = c1 ++ c2 ∧ R.is w K c1 a ∧ CellsL R w K c2 l

variable {l m : List α} {ds : List Value}
theorem CellsL.len (h : CellsL R w K cs l) : cs.length = l.length * R.size := by
  induction l generalizing cs with
  | nil => cases h; simp
  | cons a l ih =>
    obtain ⟨c1, c2, rfl, h1, h2⟩ := h
    rw [List.length_append, R.len h1, ih h2, List.length_cons, Nat.add_mul, Nat.one_mul, Nat.add_comm]
theorem CellsL.keep (h : CellsL R w K cs l) (hk : ∀ p : Addr, K p.block → p.block < w.heap.size → w'.cell? p = w.cell? p) : CellsL R w' K cs l := by
  induction l generalizing cs with
  | nil => exact h
  | cons a l ih => obtain ⟨c1, c2, e, h1, h2⟩ := h; exact ⟨c1, c2, e, R.keep h1 hk, ih h2⟩
theorem CellsL.more (h : CellsL R w K cs l) (hk : ∀ b, K b → K' b) : CellsL R w K' cs l := by
  induction l generalizing cs with
  | nil => exact h
  | cons a l ih => obtain ⟨c1, c2, e, h1, h2⟩ := h; exact ⟨c1, c2, e, R.more h1 hk, ih h2⟩
theorem CellsL.one (h : CellsL R w K cs l) : ∀ u ∈ cs, u.oneCell' = true := by
  induction l generalizing cs with
  | nil => cases h; simp
  | cons a l ih =>
    obtain ⟨c1, c2, rfl, h1, h2⟩ := h
    intro u hu
    rcases List.mem_append.1 hu with hu | hu
    · exact R.one h1 u hu
    · exact ih h2 u hu
theorem CellsL.append (h : CellsL R w K cs l) (h' : CellsL R w K ds m) : CellsL R w K (cs ++ ds) (l ++ m) := by
  induction l generalizing cs with
  | nil => cases h; simpa using h'
  | cons a l ih => obtain ⟨c1, c2, rfl, h1, h2⟩ := h; exact ⟨c1, c2 ++ ds, by simp, h1, ih h2⟩
theorem CellsL.single (h : R.is w K cs a) : CellsL R w K cs [a] := ⟨cs, [], by simp, h, rfl⟩
theorem CellsL.snoc (h : CellsL R w K cs l) (h' : R.is w K ds a) : CellsL R w K (cs ++ ds) (l ++ [a]) := h.append (CellsL.single h')
theorem CellsL.step (h : CellsL R w K cs l) (hb : Below w.heap.size w w') : CellsL R w' K cs l := h.keep fun _ _ hp => hb.cell hp
theorem CellsL.alloc (h : CellsL R w K cs l) (o : Obj) : CellsL R (w.alloc o) K cs l := h.keep fun p _ hp => World.cell?_alloc_lt w o p hp
theorem CellsL.drop (h : CellsL R w K cs l) (k : Nat) : CellsL R w K (cs.drop (k * R.size)) (l.drop k) := by
  induction l generalizing cs k with
  | nil => cases h; simp [CellsL]
  | cons a l ih =>
    obtain ⟨c1, c2, rfl, h1, h2⟩ := h
    rcases k with _ | k
    · simpa using ⟨c1, c2, rfl, h1, h2⟩
    · have e := R.len h1
      have : (k + 1) * R.size = c1.length + k * R.size := by rw [e, Nat.add_mul, Nat.one_mul, Nat.add_comm]
      rw [this, List.drop_length_add_append, List.drop_succ_cons]
      exact ih h2 k
theorem CellsL.take (h : CellsL R w K cs l) (k : Nat) : CellsL R w K (cs.take (k * R.size)) (l.take k) := by
  induction l generalizing cs k with
  | nil => cases h; simp [CellsL]
  | cons a l ih =>
    obtain ⟨c1, c2, rfl, h1, h2⟩ := h
    rcases k with _ | k
    · simp [CellsL]
    · have e := R.len h1
      have : (k + 1) * R.size = c1.length + k * R.size := by rw [e, Nat.add_mul, Nat.one_mul, Nat.add_comm]
      rw [this, List.take_length_add_append, List.take_succ_cons]
      exact ⟨c1, _, rfl, h1, ih h2 k⟩
/-- the i-th one's own cells -/
theorem CellsL.at_ (h : CellsL R w K cs l) {i : Nat} {x : α} (hx : l[i]? = some x) : ∃ es, R.is w K es x ∧ ∀ (j : Nat) u, es[j]? = some u → cs[i * R.size + j]? = some u := by
  induction l generalizing cs i with
  | nil => simp at hx
  | cons a l ih =>
    obtain ⟨c1, c2, rfl, h1, h2⟩ := h
    have e := R.len h1
    rcases i with _ | i
    · simp only [List.getElem?_cons_zero, Option.some.injEq] at hx
      subst hx
      refine ⟨c1, h1, fun j u hu => ?_⟩
      rw [Nat.zero_mul, Nat.zero_add, List.getElem?_append_left (List.getElem?_eq_some_iff.1 hu).1]
      exact hu
    · obtain ⟨es, hes, hj⟩ := ih h2 (i := i) (by simpa using hx)
      refine ⟨es, hes, fun j u hu => ?_⟩
      have : (i + 1) * R.size + j = c1.length + (i * R.size + j) := by rw [e, Nat.add_mul, Nat.one_mul]; omega
      rw [this, List.getElem?_append_right (by omega), Nat.add_sub_cancel_left]
      exact hj j u hu

/-- the slice value is the list l -/
def IsL (R : Rp α) (w : World) (K : Nat → Prop) (v : Value) (l : List α) : Prop :=
  ∃ A c cs, v = .slice A l.length c ∧ Reads w K R.size A l.length cs ∧ CellsL R w K cs l ∧ l.length ≤ c ∧ c ≤ 9223372036854775807 ∧ l.length ≤ 140737488355328
variable {v : Value}
theorem IsL.keep (h : IsL R w K v l) (hk : ∀ p : Addr, K p.block → p.block < w.heap.size → w'.cell? p = w.cell? p) : IsL R w' K v l := by
  obtain ⟨A, c, cs, e, h1, h2, h3⟩ := h; exact ⟨A, c, cs, e, h1.keep hk, h2.keep hk, h3⟩
theorem IsL.more (h : IsL R w K v l) (hk : ∀ b, K b → K' b) : IsL R w K' v l := by
  obtain ⟨A, c, cs, e, h1, h2, h3⟩ := h; exact ⟨A, c, cs, e, h1.more hk, h2.more hk, h3⟩
theorem IsL.step (h : IsL R w K v l) (hb : Below w.heap.size w w') : IsL R w' K v l := h.keep fun _ _ hp => hb.cell hp
theorem IsL.alloc (h : IsL R w K v l) (o : Obj) : IsL R (w.alloc o) K v l := h.keep fun p _ hp => World.cell?_alloc_lt w o p hp
theorem IsL.drew (h : IsL R w K v l) : IsL R w.drew K v l := h.keep fun _ _ _ => rfl
theorem IsL.nil_ (w : World) (K : Nat → Prop) : IsL R w K (.slice none 0 0) [] := ⟨none, 0, [], rfl, Reads.none_, rfl, by simp, by omega, by simp⟩
theorem IsL.len (h : IsL R w K v l) : l.length ≤ 140737488355328 := by obtain ⟨A, c, cs, e, h1, h2, h3, h4, h5⟩ := h; exact h5
theorem IsL.form (h : IsL R w K v l) : ∃ A c, v = .slice A l.length c ∧ l.length ≤ c ∧ c ≤ 9223372036854775807 := by obtain ⟨A, c, cs, e, h1, h2, h3, h4, h5⟩ := h; exact ⟨A, c, e, h3, h4⟩
theorem IsL.open_ {A : Option Addr} {n c : Nat} (h : IsL R w K (.slice A n c) l) : n = l.length ∧ (∃ cs, Reads w K R.size A l.length cs ∧ CellsL R w K cs l) ∧ l.length ≤ c ∧ c ≤ 9223372036854775807 ∧ l.length ≤ 140737488355328 := by
  obtain ⟨A', c', cs, e, h1, h2, h3⟩ := h
  injection e with e1 e2 e3
  subst e1; subst e3
  exact ⟨e2, ⟨cs, h1, h2⟩, h3⟩
/-- the i-th element: where it lies -/
theorem IsL.at_ {A : Option Addr} {n c : Nat} (h : IsL R w K (.slice A n c) l) {i : Nat} {x : α} (hx : l[i]? = some x) :
    ∃ ad es, A = some ad ∧ K ad.block ∧ R.is w K es x ∧ ∀ (j : Nat) u, es[j]? = some u → w.cell? ((ad.add (i * R.size)).add j) = some u := by
  obtain ⟨A', c', cs, e, h1, h2, h3⟩ := h
  injection e with e1 e2 e3
  subst e1
  have hi := (List.getElem?_eq_some_iff.1 hx).1
  obtain ⟨ad, ea, hK, hc⟩ := h1.2 (by omega)
  obtain ⟨es, hes, hj⟩ := h2.at_ hx
  exact ⟨ad, es, ea, hK, hes, fun j u hu => by rw [add_of_add]; exact hc _ u (hj j u hu)⟩

/-- what the call owns: a row of its own that reads as the list l, what its elements point to in blocks of which K holds -/
def OwnL (R : Rp α) (w : World) (base : Nat) (e : TypeId) (K : Nat → Prop) (v : Value) (l : List α) : Prop :=
  ∃ A c cs, v = .slice A l.length c ∧ w.ownsRow base e R.size (.slice A l.length c) l.length cs ∧ CellsL R w K cs l
variable {base base' : Nat} {e : TypeId}
theorem OwnL.nil_ (w : World) (base : Nat) (e : TypeId) (K : Nat → Prop) : OwnL R w base e K (.slice none 0 0) [] := ⟨none, 0, [], rfl, World.ownsRow_nil _ _ _ _, rfl⟩
theorem OwnL.more (h : OwnL R w base e K v l) (hk : ∀ b, K b → K' b) : OwnL R w base e K' v l := by
  obtain ⟨A, c, cs, e1, h1, h2⟩ := h; exact ⟨A, c, cs, e1, h1, h2.more hk⟩
theorem OwnL.lower (h : OwnL R w base e K v l) (hb : base' ≤ base) : OwnL R w base' e K v l := by
  obtain ⟨A, c, cs, e1, h1, h2⟩ := h; exact ⟨A, c, cs, e1, own_base h1 hb, h2⟩
theorem OwnL.step (h : OwnL R w base e K v l) (hb : Below w.heap.size w w') : OwnL R w' base e K v l := by
  obtain ⟨A, c, cs, e1, h1, h2⟩ := h; exact ⟨A, c, cs, e1, own_below h1 hb (Nat.le_refl _), h2.step hb⟩
theorem OwnL.isL (h : OwnL R w base e K v l) (hl : l.length ≤ 140737488355328) : IsL R w (fun b => base ≤ b ∨ K b) v l := by
  obtain ⟨A, c, cs, rfl, h1, h2⟩ := h
  exact ⟨A, c, cs, rfl, (Reads.of_own_ge h1).more (fun _ h => .inl h), h2.more (fun _ h => .inr h), own_cap h1, own_cap63 h1, hl⟩
end

theorem RpL.one {α : Type} {R : Rp α} {w : World} {K : Nat → Prop} {v : Value} {l : List α} (h : IsL R w K v l) : v.oneCell' = true := by
  obtain ⟨A, c, rfl, _⟩ := h.form; rfl
def Rp.list {α : Type} (R : Rp α) : Rp (List α) := ⟨1, fun w K cs l => ∃ v, cs = [v] ∧ IsL R w K v l, by rintro _ _ _ _ ⟨v, rfl, _⟩; rfl,
  by rintro _ _ _ _ _ ⟨v, e, h⟩ hk; exact ⟨v, e, h.keep hk⟩, by rintro _ _ _ _ _ ⟨v, e, h⟩ hk; exact ⟨v, e, h.more hk⟩,
  by rintro _ _ _ _ ⟨v, rfl, h⟩ u hu; simp at hu; subst hu; exact RpL.one h⟩

/-- a list of numbers in range -/
def I63 (l : List Int) : Prop := ∀ n ∈ l, -9223372036854775808 ≤ n ∧ n ≤ 9223372036854775807
theorem cells_ints {w : World} {K : Nat → Prop} : ∀ {l : List Int}, I63 l → CellsL Rp.int w K (l.map I64) l
  | [], _ => rfl
  | n :: l, h => ⟨[.int .i64 n], l.map I64, rfl, ⟨rfl, h n (List.mem_cons_self ..)⟩, cells_ints fun m hm => h m (List.mem_cons_of_mem _ hm)⟩
theorem ints_cells {w : World} {K : Nat → Prop} : ∀ {l : List Int} {cs : List Value}, CellsL Rp.int w K cs l → cs = l.map I64 ∧ I63 l
  | [], _, h => ⟨h, fun _ h => by cases h⟩
  | n :: l, _, ⟨c1, c2, e, ⟨h1, h2⟩, h3⟩ => by
    obtain ⟨e2, h4⟩ := ints_cells h3
    refine ⟨by rw [e, h1, e2]; rfl, fun m hm => ?_⟩
    rcases List.mem_cons.1 hm with rfl | hm
    · exact h2
    · exact h4 m hm
theorem IsB.lt {w : World} {K : Nat → Prop} {v : Value} {l : List UInt8} (h : IsB w K v l) : IsB w (fun b => K b ∧ b < w.heap.size) v l := by
  obtain ⟨A, c, rfl, hr, h1⟩ := h; exact ⟨A, c, rfl, hr.lt (by omega), h1⟩

/-- what stays so while no cell that is there is written -/
def Stable (f : World → Prop) : Prop := ∀ w w' : World, f w → Below w.heap.size w w' → f w'
theorem Stable.bytes {K : Nat → Prop} {v : Value} {l : List UInt8} : Stable (fun w => IsB w K v l) := fun _ _ h hb => h.step hb
theorem Stable.list {α : Type} {R : Rp α} {K : Nat → Prop} {v : Value} {l : List α} : Stable (fun w => IsL R w K v l) := fun _ _ h hb => h.step hb
theorem Stable.rp {α : Type} {R : Rp α} {K : Nat → Prop} {cs : List Value} {a : α} : Stable (fun w => R.is w K cs a) := fun _ _ h hb => Rp.step h hb

/-- all that is known at a place: what is kept since w0, the blocks known whole, other facts -/
structure Kn (B : Nat) (w0 w : World) (bs : List (Nat × TypeId × Array Value)) (fs : List (World → Prop)) : Prop where
  below : Below B w0 w
  base : B ≤ w.heap.size
  blk : ∀ p ∈ bs, Blk w p.1 p.2.1 p.2.2
  fact : ∀ f ∈ fs, Stable f ∧ f w

section
variable {B : Nat} {w0 w w' : World} {bs : List (Nat × TypeId × Array Value)} {fs : List (World → Prop)}
theorem Kn.start (w : World) : Kn w.heap.size w w [] [] := ⟨Below.refl _ _, Nat.le_refl _, by simp, by simp⟩
theorem Kn.step (h : Kn B w0 w bs fs) (hb : Below w.heap.size w w') : Kn B w0 w' bs fs :=
  ⟨h.below.trans (hb.mono h.base), Nat.le_trans h.base hb.size, fun p hp => (h.blk p hp).step hb, fun f hf => ⟨(h.fact f hf).1, (h.fact f hf).1 _ _ (h.fact f hf).2 hb⟩⟩
theorem Kn.alloc (h : Kn B w0 w bs fs) (o : Obj) : Kn B w0 (w.alloc o) bs fs := h.step ((Below.refl _ _).alloc (Nat.le_refl _) o)
theorem Kn.drew (h : Kn B w0 w bs fs) : Kn B w0 w.drew bs fs := h.step (Below.refl _ _).drew
theorem Kn.push (h : Kn B w0 w bs fs) (t : TypeId) (cs : Array Value) : Kn B w0 (w.alloc (.cells cs t)) ((w.heap.size, t, cs) :: bs) fs :=
  let g := h.alloc (.cells cs t)
  ⟨g.below, g.base, fun p hp => by rcases List.mem_cons.1 hp with rfl | hp; exact Blk.new w t cs rfl; exact g.blk p hp, g.fact⟩
theorem Kn.give (h : Kn B w0 w bs fs) {f : World → Prop} (hs : Stable f) (hf : f w) : Kn B w0 w bs (f :: fs) :=
  ⟨h.below, h.base, h.blk, fun p hp => by rcases List.mem_cons.1 hp with rfl | hp; exact ⟨hs, hf⟩; exact h.fact p hp⟩
theorem Kn.get (h : Kn B w0 w bs fs) {f : World → Prop} (hf : f ∈ fs) : f w := (h.fact f hf).2
theorem Kn.at_ (h : Kn B w0 w bs fs) {g : Nat} {t : TypeId} {cs : Array Value} (hm : (g, t, cs) ∈ bs) : Blk w g t cs := h.blk _ hm
theorem Kn.rules (h : Kn B w0 w bs fs) {g : Nat} {t : TypeId} {cs : Array Value} (hm : (g, t, cs) ∈ bs) : (∀ o, w.cell? ⟨g, o, none⟩ = cs[o]?) ∧ (∀ o, w.frozen? ⟨g, o, none⟩ = false) ∧ g < w.heap.size :=
  ⟨(h.blk _ hm).cell, (h.blk _ hm).frozen, (h.blk _ hm).lt⟩
end
end Go.Proofs.Ytpacjjaekmipfaa
