/- Zones as plain data, and what zone's functions answer. No program in sight. -/
import Derived.Test.YtcjmcfjjbicimaaLib
namespace Go.Proofs.Ytcjmcfjjbicimaa
open Go.RowKit

structure Zn where
  st : Int
  fe : Int
  d : List UInt8

/-- a zone's value: its bytes at A -/
def zv (z : Zn) (A : Option Addr) (c : Nat) : Value := .agg #[.int .i64 z.st, .int .i64 z.fe, .slice A z.d.length c]
/-- the zero zone: beside an error -/
def z0 : Zn := ⟨0, 0, []⟩

/-- v is the zone z, its bytes in blocks of which K holds -/
def IsZ (w : World) (K : Nat → Prop) (v : Value) (z : Zn) : Prop := ∃ A c, v = zv z A c ∧ IsB w K (.slice A z.d.length c) z.d
/-- v is the zone z, its bytes the call's own, beyond 'base' -/
def OwnZ (w : World) (base : Nat) (v : Value) (z : Zn) : Prop := ∃ A c, v = zv z A c ∧ w.ownsRow base 5 1 (.slice A z.d.length c) z.d.length (cells8 z.d)

theorem IsZ.step {w w' : World} {K : Nat → Prop} {v : Value} {z : Zn} (h : IsZ w K v z) (hb : Below w.heap.size w w') : IsZ w' K v z := by
  obtain ⟨A, c, rfl, hr⟩ := h; exact ⟨A, c, rfl, hr.step hb⟩
theorem IsZ.alloc {w : World} {K : Nat → Prop} {v : Value} {z : Zn} (h : IsZ w K v z) (o : Obj) : IsZ (w.alloc o) K v z := by
  obtain ⟨A, c, rfl, hr⟩ := h; exact ⟨A, c, rfl, hr.alloc o⟩
theorem IsZ.drew {w : World} {K : Nat → Prop} {v : Value} {z : Zn} (h : IsZ w K v z) : IsZ w.drew K v z := h
theorem IsZ.more {w : World} {K K' : Nat → Prop} {v : Value} {z : Zn} (h : IsZ w K v z) (hK : ∀ b, K b → K' b) : IsZ w K' v z := by
  obtain ⟨A, c, rfl, hr⟩ := h; exact ⟨A, c, rfl, hr.more hK⟩
theorem OwnZ.isZ {w : World} {base : Nat} {v : Value} {z : Zn} (h : OwnZ w base v z) (hl : z.d.length ≤ 140737488355328) : IsZ w (fun b => base ≤ b) v z := by
  obtain ⟨A, c, rfl, hr⟩ := h; exact ⟨A, c, rfl, IsB.of_own hr hl⟩
theorem OwnZ.base {w : World} {base base' : Nat} {v : Value} {z : Zn} (h : OwnZ w base v z) (hb : base' ≤ base) : OwnZ w base' v z := by
  obtain ⟨A, c, rfl, hr⟩ := h; exact ⟨A, c, rfl, own_base hr hb⟩
theorem OwnZ.step {w w' : World} {base : Nat} {v : Value} {z : Zn} (h : OwnZ w base v z) (hb : Below w.heap.size w w') : OwnZ w' base v z := by
  obtain ⟨A, c, rfl, hr⟩ := h; exact ⟨A, c, rfl, own_below hr hb (Nat.le_refl _)⟩
theorem OwnZ.zero (w : World) (base : Nat) : OwnZ w base (.agg #[.int .i64 0, .int .i64 0, .slice none 0 0]) z0 := ⟨none, 0, rfl, World.ownsRow_nil _ _ _ _⟩

/-- what may be (P4.1) -/
def okZ (z : Zn) (most : Int) : Prop :=
  1 ≤ most ∧ most ≤ 65536 ∧ 0 ≤ z.fe ∧ ((z.st = 0 ∧ z.d.length = 0) ∨ ((z.st = 1 ∨ z.st = 3) ∧ 0 < z.d.length ∧ (z.d.length : Int) < most) ∨ (z.st = 2 ∧ (z.d.length : Int) < most) ∨ (z.st = 4 ∧ (z.d.length : Int) ≤ most))
instance (z : Zn) (most : Int) : Decidable (okZ z most) := inferInstanceAs (Decidable (_ ∧ _))
def chkZ (z : Zn) (most : Int) : Int := if okZ z most then 0 else 1

/-- the bounds of a state's bytes -/
def bndZ (st most : Int) : Int × Int :=
  if st = 0 then (0, 0) else if st = 1 ∨ st = 3 then (1, most - 1) else if st = 2 then (0, most - 1) else if st = 4 then (0, most) else (0, -1)

theorem okZ_iff (z : Zn) (most : Int) : okZ z most ↔ (1 ≤ most ∧ most ≤ 65536 ∧ 0 ≤ z.fe ∧ (bndZ z.st most).1 ≤ z.d.length ∧ (z.d.length : Int) ≤ (bndZ z.st most).2) := by
  unfold okZ bndZ
  repeat' split
  all_goals (simp only; omega)

def roomZ (z : Zn) (most : Int) (b : List UInt8) : Int :=
  if ¬ okZ z most ∨ b.length = 0 then 1 else if z.st = 4 then 41 else if (z.d.length : Int) + b.length ≤ most then 0 else 40

def grownZ (z : Zn) (most : Int) (b : List UInt8) : Zn :=
  ⟨if (z.d.length : Int) + b.length = most then 4 else if b.length = 0 then z.st else if z.st = 2 then 2 else 1, z.fe, z.d ++ b⟩

theorem roomZ_zero {z : Zn} {most : Int} {b : List UInt8} (h : roomZ z most b = 0) : okZ z most ∧ 0 < b.length ∧ z.st ≠ 4 ∧ (z.d.length : Int) + b.length ≤ most := by
  unfold roomZ at h
  split at h
  · cases h
  · rename_i h1
    split at h
    · cases h
    · rename_i h2
      split at h
      · rename_i h3
        exact ⟨Decidable.not_not.1 (fun hh => h1 (.inl hh)), Nat.pos_of_ne_zero (fun hh => h1 (.inr hh)), h2, h3⟩
      · cases h

/-- what Append answers: the zone, where, the error -/
def appZ (z : Zn) (most : Int) (b : List UInt8) : Zn × Int × Int :=
  if roomZ z most b = 0 then (grownZ z most b, z.d.length, 0) else (z0, 0, roomZ z most b)
/-- what Torn answers -/
def tornZ (z : Zn) (most : Int) (b : List UInt8) (keep : Int) : Zn × Int :=
  if roomZ z most b ≠ 0 then (z0, roomZ z most b) else if 0 ≤ keep ∧ keep ≤ b.length then (grownZ z most (b.take keep.toNat), 0) else (z0, 1)

def openZ (z : Zn) (most : Int) : Zn × Int := if ¬ okZ z most then (z0, 1) else if z.st = 4 then (z0, 41) else (⟨2, z.fe, z.d⟩, 0)
def closeZ (z : Zn) : Zn × Int := if z.st = 0 ∨ z.st = 4 then (z0, 41) else (⟨if z.d.length = 0 then 0 else 3, z.fe, z.d⟩, 0)
def finZ (z : Zn) : Zn := ⟨4, z.fe, z.d⟩
def rstZ (z : Zn) : Zn := ⟨0, z.fe, []⟩
/-- what Read answers -/
def readZ (z : Zn) (off n : Int) : List UInt8 × Int :=
  if 0 ≤ off ∧ 0 ≤ n ∧ off + n ≤ z.d.length then ((z.d.drop off.toNat).take n.toNat, 0) else ([], 1)

end Go.Proofs.Ytcjmcfjjbicimaa
