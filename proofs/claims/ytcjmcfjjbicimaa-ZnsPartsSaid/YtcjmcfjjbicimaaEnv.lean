/- What is known at a place of a long walk, in one: what is kept since w0, the blocks known whole, the values that are bytes. -/
import Derived.Test.YtcjmcfjjbicimaaZonePlain
import Derived.Test.YtcjmcfjjbicimaaMore
import Derived.Test.YtcjmcfjjbicimaaMs
import Derived.Test.YtcjmcfjjbicimaaStepApp
import Derived.Deep.RegionLaw
namespace Go.Proofs.Ytcjmcfjjbicimaa
open Go.RowKit

structure Env (B : Nat) (w0 w : World) (bs : List (Nat × TypeId × Array Value)) (xs : List (Value × List UInt8)) : Prop where
  below : Below B w0 w
  base : B ≤ w.heap.size
  blk : ∀ p ∈ bs, Blk w p.1 p.2.1 p.2.2
  byt : ∀ p ∈ xs, IsB w (fun _ => True) p.1 p.2

section
variable {B : Nat} {w0 w w' : World} {bs : List (Nat × TypeId × Array Value)} {xs : List (Value × List UInt8)}

theorem Env.start (w : World) : Env w.heap.size w w [] [] := ⟨Below.refl _ _, Nat.le_refl _, by simp, by simp⟩
theorem Env.step (h : Env B w0 w bs xs) (hb : Below w.heap.size w w') : Env B w0 w' bs xs :=
  ⟨h.below.trans (hb.mono h.base), Nat.le_trans h.base hb.size, fun p hp => (h.blk p hp).step hb, fun p hp => (h.byt p hp).step hb⟩
theorem Env.alloc (h : Env B w0 w bs xs) (o : Obj) : Env B w0 (w.alloc o) bs xs := h.step ((Below.refl _ _).alloc (Nat.le_refl _) o)
theorem Env.drew (h : Env B w0 w bs xs) : Env B w0 w.drew bs xs := ⟨h.below.drew, h.base, fun p hp => (h.blk p hp).drew, fun p hp => (h.byt p hp).drew⟩
theorem Env.push (h : Env B w0 w bs xs) (t : TypeId) (cs : Array Value) : Env B w0 (w.alloc (.cells cs t)) ((w.heap.size, t, cs) :: bs) xs :=
  let g := h.alloc (.cells cs t)
  ⟨g.below, g.base, fun p hp => by rcases List.mem_cons.1 hp with rfl | hp; exact Blk.new w t cs rfl; exact g.blk p hp, g.byt⟩
theorem Env.give (h : Env B w0 w bs xs) {K : Nat → Prop} {v : Value} {l : List UInt8} (hv : IsB w K v l) : Env B w0 w bs ((v, l) :: xs) :=
  ⟨h.below, h.base, h.blk, fun p hp => by rcases List.mem_cons.1 hp with rfl | hp; exact hv.more (fun _ _ => trivial); exact h.byt p hp⟩
theorem Env.zone (h : Env B w0 w bs xs) {A : Option Addr} {c : Nat} (z : Zn) (hm : (Value.slice A z.d.length c, z.d) ∈ xs) : IsZ w (fun _ => True) (.agg #[.int .i64 z.st, .int .i64 z.fe, .slice A z.d.length c]) z :=
  ⟨A, c, rfl, h.byt _ hm⟩
theorem Env.rules (h : Env B w0 w bs xs) {g : Nat} {t : TypeId} {cs : Array Value} (hm : (g, t, cs) ∈ bs) : (∀ o, w.cell? ⟨g, o, none⟩ = cs[o]?) ∧ (∀ o, w.frozen? ⟨g, o, none⟩ = false) ∧ g < w.heap.size :=
  ⟨(h.blk _ hm).cell, (h.blk _ hm).frozen, (h.blk _ hm).lt⟩
end

theorem own_one {w : World} {B g : Nat} (u : Value) (e : TypeId) (hB : B ≤ w.heap.size) (hg : w.heap.size = g) : (w.alloc (.cells #[u] e)).ownsRow B e 1 (.slice (some ⟨g, 0, none⟩) 1 1) 1 [u] := by
  subst hg
  exact ⟨by simp, .inr ⟨w.heap.size, 1, #[u], rfl, hB, heap_alloc_new w _, by simp, by simp [maxLen], by simp, by simp⟩⟩

theorem isB_joined {w : World} {base : Nat} {e : TypeId} {A : Option Addr} {c n m : Nat} {a b : List UInt8} (h : w.ownsRow base e 1 (.slice A (n + m) c) (n + m) (cells8 a ++ cells8 b)) (ha : a.length = n) (hb : b.length = m) (hl : n + m ≤ 140737488355328) :
    IsB w (fun _ => True) (.slice A (n + m) c) (a ++ b) := by
  subst ha hb
  rw [← List.length_append] at h hl ⊢
  refine (IsB.of_own (e := e) (base := base) ?_ hl).more (fun _ _ => trivial)
  have : cells8 (a ++ b) = cells8 a ++ cells8 b := by unfold cells8; rw [List.map_append]
  rw [this]; exact h
end Go.Proofs.Ytcjmcfjjbicimaa
