/- Devices as values; a new device; zones made of nothing. -/
import Derived.Test.YtcjmcfjjbicimaaZnsPlain
import Derived.Test.YtcjmcfjjbicimaaSlZ
import Derived.Test.YtcjmcfjjbicimaaZnsCopy
import Derived.Test.YtcjmcfjjbicimaaZoneRef
import Derived.Test.YtcjmcfjjbicimaaAway
namespace Go.Proofs.Ytcjmcfjjbicimaa
open Go.RowKit

/-- a device, a command, an answer as values -/
def IsD (w : World) (v : Value) (d : Zd) : Prop := ∃ A c, v = .agg #[.int .i64 d.cap, .int .i64 d.opn, .int .i64 d.act, .slice A d.z.length c] ∧ IsL Rp.zone w (fun _ => True) (.slice A d.z.length c) d.z
def IsC (w : World) (v : Value) (c : Cm) : Prop := ∃ A k, v = .agg #[.int .i64 c.op, .int .i64 c.zone, .int .i64 c.epoch, .int .i64 c.off, .int .i64 c.n, .slice A c.data.length k] ∧ IsB w (fun _ => True) (.slice A c.data.length k) c.data
def IsDn (w : World) (v : Value) (x : Dn) : Prop := ∃ A k, v = .agg #[.int .i64 x.e, .int .i64 x.at_, .slice A x.data.length k] ∧ IsB w (fun _ => True) (.slice A x.data.length k) x.data
theorem IsD.step {w w' : World} {v : Value} {d : Zd} (h : IsD w v d) (hb : Below w.heap.size w w') : IsD w' v d := by obtain ⟨A, c, e, h⟩ := h; exact ⟨A, c, e, h.step hb⟩
theorem IsC.step {w w' : World} {v : Value} {c : Cm} (h : IsC w v c) (hb : Below w.heap.size w w') : IsC w' v c := by obtain ⟨A, k, e, h⟩ := h; exact ⟨A, k, e, h.step hb⟩
theorem IsDn.step {w w' : World} {v : Value} {c : Dn} (h : IsDn w v c) (hb : Below w.heap.size w w') : IsDn w' v c := by obtain ⟨A, k, e, h⟩ := h; exact ⟨A, k, e, h.step hb⟩
theorem Stable.isD {v : Value} {d : Zd} : Stable (fun w => IsD w v d) := fun _ _ h hb => h.step hb
theorem Stable.isC {v : Value} {d : Cm} : Stable (fun w => IsC w v d) := fun _ _ h hb => h.step hb
theorem Stable.isDn {v : Value} {d : Dn} : Stable (fun w => IsDn w v d) := fun _ _ h hb => h.step hb

/-- the value is the device d; its zones lie in a block of which P holds -/
def DevAt (w : World) (P : Nat → Prop) (v : Value) (d : Zd) : Prop :=
  ∃ A c, v = .agg #[.int .i64 d.cap, .int .i64 d.opn, .int .i64 d.act, .slice A d.z.length c] ∧ IsL Rp.zone w (fun _ => True) (.slice A d.z.length c) d.z ∧ (0 < d.z.length → ∃ ad, A = some ad ∧ P ad.block)
theorem DevAt.isD {w : World} {P : Nat → Prop} {v : Value} {d : Zd} (h : DevAt w P v d) : IsD w v d := by obtain ⟨A, c, e, h, _⟩ := h; exact ⟨A, c, e, h⟩
theorem DevAt.step {w w' : World} {P : Nat → Prop} {v : Value} {d : Zd} (h : DevAt w P v d) (hb : Below w.heap.size w w') : DevAt w' P v d := by obtain ⟨A, c, e, h, h2⟩ := h; exact ⟨A, c, e, h.step hb, h2⟩
theorem DevAt.more {w : World} {P P' : Nat → Prop} {v : Value} {d : Zd} (h : DevAt w P v d) (hP : ∀ b, P b → P' b) : DevAt w P' v d := by
  obtain ⟨A, c, e, h, h2⟩ := h; exact ⟨A, c, e, h, fun hp => let ⟨ad, e, h⟩ := h2 hp; ⟨ad, e, hP _ h⟩⟩
theorem DevAt.lt {w : World} {P : Nat → Prop} {v : Value} {d : Zd} (h : DevAt w P v d) : DevAt w (fun b => P b ∧ b < w.heap.size) v d := by
  obtain ⟨A, c, e, h, h2⟩ := h
  refine ⟨A, c, e, h, fun hp => ?_⟩
  obtain ⟨ad, rfl, hP⟩ := h2 hp
  obtain ⟨ad', B, dd, e1, hlt, _⟩ := IsL.zone_at h (List.getElem?_eq_getElem hp)
  injection e1 with e1; subst e1
  exact ⟨ad, rfl, hP, hlt⟩
theorem Stable.devAt {P : Nat → Prop} {v : Value} {d : Zd} : Stable (fun w => DevAt w P v d) := fun _ _ h hb => h.step hb
/-- a block of no bytes -/
def NoB (cs : Array Value) : Prop := ∀ (o : Nat) (n : Int), cs[o]? ≠ some (Value.int .u8 n)
theorem CellsL.zturned {w w' : World} {g : Nat} {t : TypeId} {cs9 : Array Value} (hB : Blk w g t cs9) (hc : NoB cs9) (ht : Turned w w' (fun b => b = g)) {K : Nat → Prop} {l : List Zn} {cs : List Value} (h : CellsL Rp.zone w K cs l) : CellsL Rp.zone w' K cs l :=
  ((h.zaway hB hc).turned ht (fun _ hb e => hb.2 e)).more fun _ hb => hb.1
theorem IsB.boxed {w w' : World} {g : Nat} {t : TypeId} {cs9 : Array Value} {K : Nat → Prop} {v : Value} {l : List UInt8} (h : IsB w K v l) (hB : Blk w g t cs9) (hc : NoB cs9) (ht : Turned w w' (fun b => b = g)) : IsB w' K v l :=
  ((h.away hB hc).turned ht (fun _ hb e => hb.2 e)).more fun _ hb => hb.1
/-- a block of no bytes, in which the zones do not lie, is written -/
theorem DevAt.boxed {w w' : World} {P : Nat → Prop} {v : Value} {d : Zd} {g : Nat} {t : TypeId} {cs9 : Array Value} (h : DevAt w P v d) (hB : Blk w g t cs9) (hc : NoB cs9) (hP : ¬ P g) (ht : Turned w w' (fun b => b = g)) : DevAt w' P v d := by
  obtain ⟨A, c, e, ⟨A', c', cs, e2, hr, hcl, h3⟩, h2⟩ := h
  refine ⟨A, c, e, ⟨A', c', cs, e2, ?_, hcl.zturned hB hc ht, h3⟩, h2⟩
  injection e2 with e21 _ _
  subst e21
  obtain ⟨h1, hr⟩ := hr
  refine ⟨h1, fun hn => ?_⟩
  obtain ⟨ad, ea, _, hcell⟩ := hr hn
  obtain ⟨ad', ea', hPa⟩ := h2 hn
  rw [ea] at ea'
  injection ea' with ea'
  subst ea'
  refine ⟨ad, ea, trivial, fun j u hu => ?_⟩
  have h0 := hcell j u hu
  have hlt := World.block_lt_of_cell? w _ h0
  rw [block_of_add] at hlt
  rw [← h0]
  exact World.cell?_of_block (by rw [block_of_add]; exact ht.block _ hlt (fun e => hP (by rw [← e]; exact hPa)))
theorem IsDn.boxed {w w' : World} {v : Value} {x : Dn} {g : Nat} {t : TypeId} {cs9 : Array Value} (h : IsDn w v x) (hB : Blk w g t cs9) (hc : NoB cs9) (ht : Turned w w' (fun b => b = g)) : IsDn w' v x := by
  obtain ⟨A, k, e, h⟩ := h; exact ⟨A, k, e, h.boxed hB hc ht⟩
theorem noB_d (a b c : Int) (A : Option Addr) (n k : Nat) : NoB #[.int .i64 a, .int .i64 b, .int .i64 c, .slice A n k] := by
  intro o n
  rcases o with _ | _ | _ | _ | o <;> simp
theorem noB_n (a b : Int) (A : Option Addr) (n k : Nat) : NoB #[.int .i64 a, .int .i64 b, .slice A n k] := by
  intro o n
  rcases o with _ | _ | _ | o <;> simp

/-- a new device -/
def newD (zones most opn act : Int) : Zd × Int :=
  if zones < 1 ∨ 64 < zones then (⟨0, 0, 0, []⟩, 1) else if chkD ⟨most, opn, act, List.replicate zones.toNat z0⟩ = 0 then (⟨most, opn, act, List.replicate zones.toNat z0⟩, 0) else (⟨0, 0, 0, []⟩, 1)

theorem made_flat (z : Array Value) (n : Nat) : (madeCells z (n * z.size)).toList = (List.replicate n z.toList).flatten := by
  have h : ∀ k, (madeCells z k).toList = (List.range k).map (fun i => z[i % z.size]!) := fun k => by simp [madeCells]
  induction n with
  | zero => simp [h]
  | succ n ih =>
    rw [List.replicate_succ', List.flatten_append, ← ih, h, h, Nat.add_mul, Nat.one_mul, List.range_add, List.map_append, List.map_map]
    congr 1
    simp only [List.flatten_cons, List.flatten_nil, List.append_nil]
    apply List.ext_getElem
    · simp
    · intro i h1 h2
      have h3 : i < z.size := by simpa using h1
      simp [Nat.mod_eq_of_lt h3, h3]
theorem cells_z0 (w : World) (K : Nat → Prop) (n : Nat) : CellsL Rp.zone w K (List.replicate n [.int .i64 0, .int .i64 0, .slice none 0 0]).flatten (List.replicate n z0) := by
  induction n with
  | zero => rfl
  | succ n ih =>
    rw [List.replicate_succ, List.replicate_succ, List.flatten_cons]
    exact ⟨_, _, rfl, ⟨_, rfl, IsB.nil_ _ _⟩, ih⟩

/-- two devices are the same -/
def sameD (a b : Zd) : Bool := a.cap == b.cap && a.opn == b.opn && a.act == b.act && a.z.length == b.z.length && (List.range a.z.length).all (fun i => sameZ (a.z.getD i z0) (b.z.getD i z0))
theorem sameD_iff {a b : Zd} : sameD a b = true ↔ a = b := by
  unfold sameD
  simp only [Bool.and_eq_true, beq_iff_eq, List.all_eq_true, List.mem_range, sameZ_iff]
  constructor
  · rintro ⟨⟨⟨⟨h1, h2⟩, h3⟩, h4⟩, h5⟩
    obtain ⟨a1, a2, a3, az⟩ := a
    obtain ⟨b1, b2, b3, bz⟩ := b
    simp only at *
    subst h1 h2 h3
    congr 1
    apply List.ext_getElem h4
    intro i hi hi'
    have := h5 i hi
    rw [List.getD_eq_getElem?_getD, List.getD_eq_getElem?_getD, List.getElem?_eq_getElem hi, List.getElem?_eq_getElem hi'] at this
    exact this
  · rintro rfl; simp
/-- two answers are the same -/
def sameDn (a b : Dn) : Bool := a.e == b.e && a.at_ == b.at_ && a.data == b.data
theorem sameDn_iff {a b : Dn} : sameDn a b = true ↔ a = b := by
  obtain ⟨a1, a2, a3⟩ := a
  obtain ⟨b1, b2, b3⟩ := b
  simp [sameDn, and_assoc]
end Go.Proofs.Ytcjmcfjjbicimaa
