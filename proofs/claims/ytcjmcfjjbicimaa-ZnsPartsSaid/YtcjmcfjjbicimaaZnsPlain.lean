/- What zns does; plain. -/
import Derived.Test.YtcjmcfjjbicimaaRepZ
namespace Go.Proofs.Ytcjmcfjjbicimaa
open Go.RowKit

structure Dn where
  e : Int
  at_ : Int
  data : List UInt8
def dn0 : Dn := ⟨0, 0, []⟩

/-- a device that may be -/
def okD (d : Zd) : Prop :=
  (1 ≤ d.z.length ∧ d.z.length ≤ 64 ∧ 1 ≤ d.cap ∧ d.cap ≤ 65536 ∧ 1 ≤ d.opn ∧ d.opn ≤ d.act ∧ d.act ≤ d.z.length) ∧ (cntZ openS d.z : Int) ≤ d.opn ∧ (cntZ activeS d.z : Int) ≤ d.act ∧ ∀ z ∈ d.z, okZ z d.cap
instance (d : Zd) : Decidable (okD d) := inferInstanceAs (Decidable (_ ∧ _))
def chkD (d : Zd) : Int := if okD d then 0 else 1

/-- the first zone that is open since something was appended -/
def impl? (zs : List Zn) : Nat := zs.findIdx (fun z => z.st == 1)
/-- room for one more zone, the i-th, that is open: an error, the zones -/
def roomK (d : Zd) (i : Nat) : Int × List Zn :=
  if (d.z.getD i z0).st ∈ openS then (0, d.z)
  else if ¬ (d.z.getD i z0).st ∈ activeS ∧ d.act ≤ (cntZ activeS d.z : Int) then (44, d.z)
  else if (cntZ openS d.z : Int) < d.opn then (0, d.z)
  else if impl? d.z < d.z.length then (0, d.z.set (impl? d.z) (closeZ (d.z.getD (impl? d.z) z0)).1) else (43, d.z)

def appendK (d : Zd) (i : Nat) (c : Cm) : Int × List Zn × Dn :=
  let r := appZ (d.z.getD i z0) d.cap c.data
  if r.2.2 ≠ 0 then (r.2.2, d.z, dn0)
  else if (roomK d i).1 ≠ 0 then ((roomK d i).1, (roomK d i).2, dn0) else (0, (roomK d i).2.set i r.1, ⟨0, r.2.1, []⟩)
def tornK (d : Zd) (i : Nat) (c : Cm) : Int × List Zn × Dn :=
  let r := appendK d i c
  if r.1 ≠ 0 then (r.1, r.2.1, dn0)
  else let t := tornZ (d.z.getD i z0) d.cap c.data c.n
    if t.2 = 0 then (0, r.2.1.set i t.1, dn0) else (t.2, r.2.1, dn0)
def openK (d : Zd) (i : Nat) : Int × List Zn × Dn :=
  let r := openZ (d.z.getD i z0) d.cap
  if r.2 ≠ 0 then (r.2, d.z, dn0)
  else if (roomK d i).1 ≠ 0 then ((roomK d i).1, (roomK d i).2, dn0) else (0, (roomK d i).2.set i r.1, dn0)
def closeK (d : Zd) (i : Nat) : Int × List Zn × Dn :=
  let r := closeZ (d.z.getD i z0)
  if r.2 = 0 then (0, d.z.set i r.1, dn0) else (r.2, d.z, dn0)
def readK (d : Zd) (i : Nat) (c : Cm) : Int × List Zn × Dn :=
  let r := readZ (d.z.getD i z0) c.off c.n
  (r.2, d.z, ⟨0, 0, r.1⟩)
def fenceK (d : Zd) (i : Nat) (c : Cm) : Int × List Zn × Dn :=
  if c.epoch ≤ (d.z.getD i z0).fe then (42, d.z, dn0) else (0, d.z.set i ⟨(d.z.getD i z0).st, c.epoch, (d.z.getD i z0).d⟩, dn0)
/-- a command to a zone that is there -/
def doK (d : Zd) (i : Nat) (c : Cm) : Int × List Zn × Dn :=
  if c.op = 1 then appendK d i c else if c.op = 2 then readK d i c else if c.op = 3 then (0, d.z.set i (rstZ (d.z.getD i z0)), dn0) else if c.op = 4 then (0, d.z.set i (finZ (d.z.getD i z0)), dn0)
  else if c.op = 5 then openK d i else if c.op = 6 then closeK d i else if c.op = 7 then fenceK d i c else tornK d i c
/-- what Do answers -/
def doZ (d : Zd) (c : Cm) : Zd × Dn :=
  if ¬ (1 ≤ c.op ∧ c.op ≤ 8) ∨ ¬ okD d ∨ ¬ (0 ≤ c.zone ∧ c.zone < d.z.length) then (d, ⟨1, 0, []⟩)
  else if c.op ≠ 7 ∧ c.epoch ≠ (d.z.getD c.zone.toNat z0).fe then (d, ⟨42, 0, []⟩)
  else
    let r := doK d c.zone.toNat c
    if r.1 ≠ 0 then (d, ⟨r.1, 0, []⟩) else if c.op = 8 ∧ c.n = 0 then (d, dn0) else (⟨d.cap, d.opn, d.act, r.2.1⟩, r.2.2)
end Go.Proofs.Ytcjmcfjjbicimaa
