/- What is known at a place of a long walk, in one: what is kept since w0, the blocks known whole, the values that are bytes. -/
import Derived.Test.YtcjmcfjjbicimaaZonePlain
import Derived.Test.YtcjmcfjjbicimaaMore
import Derived.Deep.RegionLaw
namespace Go.Proofs.Ytcjmcfjjbicimaa
open Go.RowKit

structure Env (B : Nat) (w0 w : World) (bs : List (Nat × TypeId × Array Value)) (xs : List (Value × List UInt8)) : Prop where
  below : Below B w0 w
  base : B ≤ w.heap.size
  blk : ∀ p ∈ bs, Blk w p.1 p.2.1 p.2.2
  byt : ∀ p ∈ xs, IsB w (fun _ => True) p.1 p.2

section
variable {B : Nat} {w0 w w' : World} {bs : List (Nat × TypeId × Array Value)} {xs : List (Value × List UInt8)}

theorem Env.start (w : World) : Env w.heap.size w w [] [] := ⟨Below.refl _ _, Nat.le_refl _, by simp, by simp⟩
theorem Env.step (h : Env B w0 w bs xs) (hb : Below w.heap.size w w') : Env B w0 w' bs xs :=
  ⟨h.below.trans (hb.mono h.base), Nat.le_trans h.base hb.size, fun p hp => (h.blk p hp).step hb, fun p hp => (h.byt p hp).step hb⟩
theorem Env.alloc (h : Env B w0 w bs xs) (o : Obj) : Env B w0 (w.alloc o) bs xs := h.step ((Below.refl _ _).alloc (Nat.le_refl _) o)
theorem Env.drew (h : Env B w0 w bs xs) : Env B w0 w.drew bs xs := ⟨h.below.drew, h.base, fun p hp => (h.blk p hp).drew, fun p hp => (h.byt p hp).drew⟩
theorem Env.push (h : Env B w0 w bs xs) (t : TypeId) (cs : Array Value) : Env B w0 (w.alloc (.cells cs t)) ((w.heap.size, t, cs) :: bs) xs :=
  let g := h.alloc (.cells cs t)
  ⟨g.below, g.base, fun p hp => by rcases List.mem_cons.1 hp with rfl | hp; exact Blk.new w t cs rfl; exact g.blk p hp, g.byt⟩
theorem Env.give (h : Env B w0 w bs xs) {K : Nat → Prop} {v : Value} {l : List UInt8} (hv : IsB w K v l) : Env B w0 w bs ((v, l) :: xs) :=
  ⟨h.below, h.base, h.blk, fun p hp => by rcases List.mem_cons.1 hp with rfl | hp; exact hv.more (fun _ _ => trivial); exact h.byt p hp⟩
theorem Env.zone (h : Env B w0 w bs xs) {A : Option Addr} {c : Nat} (z : Zn) (hm : (Value.slice A z.d.length c, z.d) ∈ xs) : IsZ w (fun _ => True) (.agg #[.int .i64 z.st, .int .i64 z.fe, .slice A z.d.length c]) z :=
  ⟨A, c, rfl, h.byt _ hm⟩
theorem Env.rules (h : Env B w0 w bs xs) {g : Nat} {t : TypeId} {cs : Array Value} (hm : (g, t, cs) ∈ bs) : (∀ o, w.cell? ⟨g, o, none⟩ = cs[o]?) ∧ (∀ o, w.frozen? ⟨g, o, none⟩ = false) ∧ g < w.heap.size :=
  ⟨(h.blk _ hm).cell, (h.blk _ hm).frozen, (h.blk _ hm).lt⟩
end

section
variable {α : Type} {a b c d e f g : α} {l : List α}
theorem m0 : a ∈ a :: l := List.mem_cons_self ..
theorem m1 : b ∈ a :: b :: l := List.mem_cons_of_mem _ m0
theorem m2 : c ∈ a :: b :: c :: l := List.mem_cons_of_mem _ m1
theorem m3 : d ∈ a :: b :: c :: d :: l := List.mem_cons_of_mem _ m2
theorem m4 : e ∈ a :: b :: c :: d :: e :: l := List.mem_cons_of_mem _ m3
theorem m5 : f ∈ a :: b :: c :: d :: e :: f :: l := List.mem_cons_of_mem _ m4
theorem m6 : g ∈ a :: b :: c :: d :: e :: f :: g :: l := List.mem_cons_of_mem _ m5
end

theorem own_one {w : World} {B g : Nat} (u : Value) (e : TypeId) (hB : B ≤ w.heap.size) (hg : w.heap.size = g) : (w.alloc (.cells #[u] e)).ownsRow B e 1 (.slice (some ⟨g, 0, none⟩) 1 1) 1 [u] := by
  subst hg
  exact ⟨by simp, .inr ⟨w.heap.size, 1, #[u], rfl, hB, heap_alloc_new w _, by simp, by simp [maxLen], by simp, by simp⟩⟩

/-- 'append(s, x..)' as one step of a region that draws -/
theorem step_appN {P : Program} {w : World} {ops : Array Oper} {o : Oper} {a : Act} {K0 : Act → World → Prop} {Q : Exit → Act → World → Prop} {E : Prop} (hgd : o.guard = none) (s x : Operand) (t : TypeId)
    (ho : o.op = .call { callee := .builtin .append, args := #[s, x], argTypes := #[t, t] })
    (base : Nat) (e : TypeId) (i : TypeInfo) (z : Value) (size bytes : Nat) (ht : P.underlying t = some (.slice e)) (hi : P.info? e = some i) (hz : i.zero = some z)
    (hsize : i.size = size) (hby : i.bytes = bytes) (hzs : z.cells.size = size) (hsz : 0 < size)
    {v : Value} {n : Nat} {xs : List Value} (hs : a.eval s = v) (hown : w.ownsRow base e size v n xs)
    {K : Nat → Prop} {A : Option Addr} {m c : Nat} {news : List Value} (hx : a.eval x = .slice A m c) (hr : Reads w K size A m news) (h1 : ∀ u ∈ news, u.oneCell' = true)
    (h63 : n + m ≤ maxLen) (hbytes : (n + m) * bytes ≤ 140737488355328) (hbase : base ≤ w.heap.size)
    (h : ∀ A' c' w', w'.ownsRow base e size (.slice A' (n + m) c') (n + m) (xs ++ news) → Grew base w w' v (.slice A' (n + m) c') → K0 (a.put o.dst (.slice A' (n + m) c')) w') :
    if Region.wanted o (yielded ops a.tmps) = true then Oper.wp P o a w K0 Q else E := by
  have hw : Region.wanted o (yielded ops a.tmps) = true := by simp [Region.wanted, hgd]
  rw [if_pos hw]
  obtain ⟨v', w', hrun, h2, h3, h4⟩ := run_append_any (P := P) w base t o.type e i z size bytes ht hi hz hsize hby hzs hsz v n xs hown K A m c news hr h1 h63 hbytes hbase
  obtain ⟨A', c', rfl⟩ := own_slice h2
  unfold Oper.wp execOp
  simp only [ho, resolve, invoke, builtin, Sem.run_bind, Sem.run_pure, Result.andThen_ok, List.map_toArray, List.map_cons, List.map_nil, hs, hx, hrun]
  refine h A' c' w' h2 ⟨(Below.refl _ _).grown h3 hbase (own_lt hown), h3, ?_⟩
  rcases h4 with h4 | h4
  · exact .inl h4
  · exact .inr ⟨_, h4, Nat.le_refl _⟩

theorem isB_joined {w : World} {base : Nat} {e : TypeId} {A : Option Addr} {c n m : Nat} {a b : List UInt8} (h : w.ownsRow base e 1 (.slice A (n + m) c) (n + m) (cells8 a ++ cells8 b)) (ha : a.length = n) (hb : b.length = m) (hl : n + m ≤ 140737488355328) :
    IsB w (fun _ => True) (.slice A (n + m) c) (a ++ b) := by
  subst ha hb
  rw [← List.length_append] at h hl ⊢
  refine (IsB.of_own (e := e) (base := base) ?_ hl).more (fun _ _ => trivial)
  have : cells8 (a ++ b) = cells8 a ++ cells8 b := by unfold cells8; rw [List.map_append]
  rw [this]; exact h
end Go.Proofs.Ytcjmcfjjbicimaa
