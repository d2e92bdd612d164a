/-
  No cell of these rows narrows 'for every input' (looked for: loops, veiled, ifaces, maps, wideKeys, modest, calm, conditions, laid).
  DERIVED. THE GIVEN ROWS OF THIS SEAT. 11 by the template 'for every input the law returns true; each argument reads behind the call as it read before'; 0 by the template 'total and deterministic' (their statements: YtcjmcfjjbicimaaTotals.lean).
  GIVEN WITH THE SEED: the statements are not yours to turn. If you find one false, say at which input.
  Laid BY PROGRAM, IN A SANDBOX (cutbox-rows.mjs): the forced cells as the released guide's own fill.sh prints them over the translation 00b32257bd3e9c8b… (all of the seat's roots in one cut). By AI agents, Wed Nov 11 2026. No macro, syntax, notation, axiom, sorry.
-/
import Derived.Test.YtcjmcfjjbicimaaChecked
import GoSem.Claim
import GoSem.ClaimJoined
import GoSem.ClaimMapViews
import Derived.JoinedTies
import Derived.KernelRfl
namespace Go.Proofs.Ytcjmcfjjbicimaa
/- THE CELL 'sum', in the pinned program and in every row, IS THE sha256 OF THE DUMP (.gsa) THAT YtcjmcfjjbicimaaProg.lean LOADS. Nothing in Lean hashes anything: it is a label: what it is worth is what the hold of that sum in a sandbox is worth. -/
noncomputable def Try.pinned : Pinned := { name := "ytcjmcfjjbicimaa", sum := "00b32257bd3e9c8b219ee164e8218542ee811fce1dda27e809168610f6e87bc2", checked := Try.checked }
namespace Rows
def none {H : Type} : Left H := { results := [], args := [] }

/-- 'quicksetlaw04.ZoneReads': WHATEVER THE INPUT: true; the input reads as it did. -/
def zoneReadsSpec : ChangeSpec := { name := "zoneReads", fn := fun _ => fun
  | [d1, d2] => { results := [.lit (.bool true)], args := [d1, d2] }
  | _ => none }
def zoneReadsRow : OpenClaim := { program := "ytcjmcfjjbicimaa", sum := "00b32257bd3e9c8b219ee164e8218542ee811fce1dda27e809168610f6e87bc2", func := "quickset/quicksetlaw04.ZoneReads", spec := "zoneReads", apart := false }
def ZoneReadsSaid : Prop := zoneReadsRow.holds Try.pinned (OpenSpec.ofChange zoneReadsSpec)

/-- ITS FALSE NEIGHBOUR: 'it returns false'. Refute it at one input. -/
def zoneReadsWrong : ChangeSpec := { name := "zoneReads", fn := fun _ => fun
  | [d1, d2] => { results := [.lit (.bool false)], args := [d1, d2] }
  | _ => none }
def ZoneReadsWrongFalsely : Prop := zoneReadsRow.holds Try.pinned (OpenSpec.ofChange zoneReadsWrong)

/-- 'quicksetlaw04.ZoneAppends': WHATEVER THE INPUT: true; the input reads as it did. -/
def zoneAppendsSpec : ChangeSpec := { name := "zoneAppends", fn := fun _ => fun
  | [d1, d2, d3, d4] => { results := [.lit (.bool true)], args := [d1, d2, d3, d4] }
  | _ => none }
def zoneAppendsRow : OpenClaim := { program := "ytcjmcfjjbicimaa", sum := "00b32257bd3e9c8b219ee164e8218542ee811fce1dda27e809168610f6e87bc2", func := "quickset/quicksetlaw04.ZoneAppends", spec := "zoneAppends", apart := false }
def ZoneAppendsSaid : Prop := zoneAppendsRow.holds Try.pinned (OpenSpec.ofChange zoneAppendsSpec)

/-- ITS FALSE NEIGHBOUR: 'it returns false'. Refute it at one input. -/
def zoneAppendsWrong : ChangeSpec := { name := "zoneAppends", fn := fun _ => fun
  | [d1, d2, d3, d4] => { results := [.lit (.bool false)], args := [d1, d2, d3, d4] }
  | _ => none }
def ZoneAppendsWrongFalsely : Prop := zoneAppendsRow.holds Try.pinned (OpenSpec.ofChange zoneAppendsWrong)

/-- 'quicksetlaw04.ZoneTorn': WHATEVER THE INPUT: true; the input reads as it did. -/
def zoneTornSpec : ChangeSpec := { name := "zoneTorn", fn := fun _ => fun
  | [d1, d2, d3, d4] => { results := [.lit (.bool true)], args := [d1, d2, d3, d4] }
  | _ => none }
def zoneTornRow : OpenClaim := { program := "ytcjmcfjjbicimaa", sum := "00b32257bd3e9c8b219ee164e8218542ee811fce1dda27e809168610f6e87bc2", func := "quickset/quicksetlaw04.ZoneTorn", spec := "zoneTorn", apart := false }
def ZoneTornSaid : Prop := zoneTornRow.holds Try.pinned (OpenSpec.ofChange zoneTornSpec)

/-- ITS FALSE NEIGHBOUR: 'it returns false'. Refute it at one input. -/
def zoneTornWrong : ChangeSpec := { name := "zoneTorn", fn := fun _ => fun
  | [d1, d2, d3, d4] => { results := [.lit (.bool false)], args := [d1, d2, d3, d4] }
  | _ => none }
def ZoneTornWrongFalsely : Prop := zoneTornRow.holds Try.pinned (OpenSpec.ofChange zoneTornWrong)

/-- 'quicksetlaw04.ZoneCounts': WHATEVER THE INPUT: true; the input reads as it did. -/
def zoneCountsSpec : ChangeSpec := { name := "zoneCounts", fn := fun _ => fun
  | [d] => { results := [.lit (.bool true)], args := [d] }
  | _ => none }
def zoneCountsRow : OpenClaim := { program := "ytcjmcfjjbicimaa", sum := "00b32257bd3e9c8b219ee164e8218542ee811fce1dda27e809168610f6e87bc2", func := "quickset/quicksetlaw04.ZoneCounts", spec := "zoneCounts", apart := false }
def ZoneCountsSaid : Prop := zoneCountsRow.holds Try.pinned (OpenSpec.ofChange zoneCountsSpec)

/-- ITS FALSE NEIGHBOUR: 'it returns false'. Refute it at one input. -/
def zoneCountsWrong : ChangeSpec := { name := "zoneCounts", fn := fun _ => fun
  | [d] => { results := [.lit (.bool false)], args := [d] }
  | _ => none }
def ZoneCountsWrongFalsely : Prop := zoneCountsRow.holds Try.pinned (OpenSpec.ofChange zoneCountsWrong)

/-- 'quicksetlaw04.ZoneResets': WHATEVER THE INPUT: true; the input reads as it did. -/
def zoneResetsSpec : ChangeSpec := { name := "zoneResets", fn := fun _ => fun
  | [d1, d2, d3] => { results := [.lit (.bool true)], args := [d1, d2, d3] }
  | _ => none }
def zoneResetsRow : OpenClaim := { program := "ytcjmcfjjbicimaa", sum := "00b32257bd3e9c8b219ee164e8218542ee811fce1dda27e809168610f6e87bc2", func := "quickset/quicksetlaw04.ZoneResets", spec := "zoneResets", apart := false }
def ZoneResetsSaid : Prop := zoneResetsRow.holds Try.pinned (OpenSpec.ofChange zoneResetsSpec)

/-- ITS FALSE NEIGHBOUR: 'it returns false'. Refute it at one input. -/
def zoneResetsWrong : ChangeSpec := { name := "zoneResets", fn := fun _ => fun
  | [d1, d2, d3] => { results := [.lit (.bool false)], args := [d1, d2, d3] }
  | _ => none }
def ZoneResetsWrongFalsely : Prop := zoneResetsRow.holds Try.pinned (OpenSpec.ofChange zoneResetsWrong)

/-- 'quicksetlaw04.ZoneKeeps': WHATEVER THE INPUT: true; the input reads as it did. -/
def zoneKeepsSpec : ChangeSpec := { name := "zoneKeeps", fn := fun _ => fun
  | [d1, d2] => { results := [.lit (.bool true)], args := [d1, d2] }
  | _ => none }
def zoneKeepsRow : OpenClaim := { program := "ytcjmcfjjbicimaa", sum := "00b32257bd3e9c8b219ee164e8218542ee811fce1dda27e809168610f6e87bc2", func := "quickset/quicksetlaw04.ZoneKeeps", spec := "zoneKeeps", apart := false }
def ZoneKeepsSaid : Prop := zoneKeepsRow.holds Try.pinned (OpenSpec.ofChange zoneKeepsSpec)

/-- ITS FALSE NEIGHBOUR: 'it returns false'. Refute it at one input. -/
def zoneKeepsWrong : ChangeSpec := { name := "zoneKeeps", fn := fun _ => fun
  | [d1, d2] => { results := [.lit (.bool false)], args := [d1, d2] }
  | _ => none }
def ZoneKeepsWrongFalsely : Prop := zoneKeepsRow.holds Try.pinned (OpenSpec.ofChange zoneKeepsWrong)

/-- 'quicksetlaw05.ZnsNews': WHATEVER THE INPUT: true; the input reads as it did. -/
def znsNewsSpec : ChangeSpec := { name := "znsNews", fn := fun _ => fun
  | [d1, d2, d3, d4] => { results := [.lit (.bool true)], args := [d1, d2, d3, d4] }
  | _ => none }
def znsNewsRow : OpenClaim := { program := "ytcjmcfjjbicimaa", sum := "00b32257bd3e9c8b219ee164e8218542ee811fce1dda27e809168610f6e87bc2", func := "quickset/quicksetlaw05.ZnsNews", spec := "znsNews", unfollowed := true, recurses := true, apart := false }
def ZnsNewsSaid : Prop := znsNewsRow.holds Try.pinned (OpenSpec.ofChange znsNewsSpec)

/-- ITS FALSE NEIGHBOUR: 'it returns false'. Refute it at one input. -/
def znsNewsWrong : ChangeSpec := { name := "znsNews", fn := fun _ => fun
  | [d1, d2, d3, d4] => { results := [.lit (.bool false)], args := [d1, d2, d3, d4] }
  | _ => none }
def ZnsNewsWrongFalsely : Prop := znsNewsRow.holds Try.pinned (OpenSpec.ofChange znsNewsWrong)

/-- 'quicksetlaw05.ZnsFences': WHATEVER THE INPUT: true; the input reads as it did. -/
def znsFencesSpec : ChangeSpec := { name := "znsFences", fn := fun _ => fun
  | [d1, d2] => { results := [.lit (.bool true)], args := [d1, d2] }
  | _ => none }
def znsFencesRow : OpenClaim := { program := "ytcjmcfjjbicimaa", sum := "00b32257bd3e9c8b219ee164e8218542ee811fce1dda27e809168610f6e87bc2", func := "quickset/quicksetlaw05.ZnsFences", spec := "znsFences", unfollowed := true, recurses := true, apart := false }
def ZnsFencesSaid : Prop := znsFencesRow.holds Try.pinned (OpenSpec.ofChange znsFencesSpec)

/-- ITS FALSE NEIGHBOUR: 'it returns false'. Refute it at one input. -/
def znsFencesWrong : ChangeSpec := { name := "znsFences", fn := fun _ => fun
  | [d1, d2] => { results := [.lit (.bool false)], args := [d1, d2] }
  | _ => none }
def ZnsFencesWrongFalsely : Prop := znsFencesRow.holds Try.pinned (OpenSpec.ofChange znsFencesWrong)

/-- 'quicksetlaw05.ZnsKeeps': WHATEVER THE INPUT: true; the input reads as it did. -/
def znsKeepsSpec : ChangeSpec := { name := "znsKeeps", fn := fun _ => fun
  | [d1, d2] => { results := [.lit (.bool true)], args := [d1, d2] }
  | _ => none }
def znsKeepsRow : OpenClaim := { program := "ytcjmcfjjbicimaa", sum := "00b32257bd3e9c8b219ee164e8218542ee811fce1dda27e809168610f6e87bc2", func := "quickset/quicksetlaw05.ZnsKeeps", spec := "znsKeeps", unfollowed := true, recurses := true, apart := false }
def ZnsKeepsSaid : Prop := znsKeepsRow.holds Try.pinned (OpenSpec.ofChange znsKeepsSpec)

/-- ITS FALSE NEIGHBOUR: 'it returns false'. Refute it at one input. -/
def znsKeepsWrong : ChangeSpec := { name := "znsKeeps", fn := fun _ => fun
  | [d1, d2] => { results := [.lit (.bool false)], args := [d1, d2] }
  | _ => none }
def ZnsKeepsWrongFalsely : Prop := znsKeepsRow.holds Try.pinned (OpenSpec.ofChange znsKeepsWrong)

/-- 'quicksetlaw05.ZnsLimits': WHATEVER THE INPUT: true; the input reads as it did. -/
def znsLimitsSpec : ChangeSpec := { name := "znsLimits", fn := fun _ => fun
  | [d1, d2, d3, d4] => { results := [.lit (.bool true)], args := [d1, d2, d3, d4] }
  | _ => none }
def znsLimitsRow : OpenClaim := { program := "ytcjmcfjjbicimaa", sum := "00b32257bd3e9c8b219ee164e8218542ee811fce1dda27e809168610f6e87bc2", func := "quickset/quicksetlaw05.ZnsLimits", spec := "znsLimits", unfollowed := true, recurses := true, apart := false }
def ZnsLimitsSaid : Prop := znsLimitsRow.holds Try.pinned (OpenSpec.ofChange znsLimitsSpec)

/-- ITS FALSE NEIGHBOUR: 'it returns false'. Refute it at one input. -/
def znsLimitsWrong : ChangeSpec := { name := "znsLimits", fn := fun _ => fun
  | [d1, d2, d3, d4] => { results := [.lit (.bool false)], args := [d1, d2, d3, d4] }
  | _ => none }
def ZnsLimitsWrongFalsely : Prop := znsLimitsRow.holds Try.pinned (OpenSpec.ofChange znsLimitsWrong)

/-- 'quicksetlaw05.ZnsParts': WHATEVER THE INPUT: true; the input reads as it did. -/
def znsPartsSpec : ChangeSpec := { name := "znsParts", fn := fun _ => fun
  | [d1, d2, d3] => { results := [.lit (.bool true)], args := [d1, d2, d3] }
  | _ => none }
def znsPartsRow : OpenClaim := { program := "ytcjmcfjjbicimaa", sum := "00b32257bd3e9c8b219ee164e8218542ee811fce1dda27e809168610f6e87bc2", func := "quickset/quicksetlaw05.ZnsParts", spec := "znsParts", unfollowed := true, recurses := true, apart := false }
def ZnsPartsSaid : Prop := znsPartsRow.holds Try.pinned (OpenSpec.ofChange znsPartsSpec)

/-- ITS FALSE NEIGHBOUR: 'it returns false'. Refute it at one input. -/
def znsPartsWrong : ChangeSpec := { name := "znsParts", fn := fun _ => fun
  | [d1, d2, d3] => { results := [.lit (.bool false)], args := [d1, d2, d3] }
  | _ => none }
def ZnsPartsWrongFalsely : Prop := znsPartsRow.holds Try.pinned (OpenSpec.ofChange znsPartsWrong)

/- THE SECOND FORM. 'bulk': how many values and letters a reading holds, each counted each time it is reached (what is shared counts as often as it is met; a slice's spare places count too). A statement '..UptoSaid' is the law's where the arguments, and the package variables that the reading takes, are together of bulk at most 1048576: NARROWER than '..Said'. Prove '..Said' where nothing that the law and all that it calls make is longer than what came in: it says more and counts as full. Else prove '..UptoSaid'. A law counts once. -/
mutual
def uptoBulk {H : Type} : DataW H → Nat
  | .lit (.string bytes) => bytes.length + 1
  | .lit _ => 1
  | .nil => 1
  | .ptr d => uptoBulk d + 1
  | .slice elems spare => uptoBulkAll elems + uptoBulkAll spare + 1
  | .agg parts => uptoBulkAll parts + 1
  | .iface _ d => uptoBulk d + 1
  | .map entries => uptoBulkEntries entries + 1
  | .held _ => 1
def uptoBulkAll {H : Type} : List (DataW H) → Nat
  | [] => 0
  | d :: r => uptoBulk d + uptoBulkAll r
def uptoBulkEntries {H : Type} : List (Lit × DataW H) → Nat
  | [] => 0
  | x :: r => uptoBulkEntry x + uptoBulkEntries r
def uptoBulkEntry {H : Type} : Lit × DataW H → Nat
  | (.string bytes, d) => bytes.length + uptoBulk d + 1
  | (_, d) => uptoBulk d + 1
 end
def uptoSmall : (H : Type) → List (DataW H) → Bool := fun _ ds => decide (uptoBulkAll ds ≤ 1048576)
def OpenSpec.upto (s : _root_.Go.ChangeSpec) : _root_.Go.OpenSpec := { _root_.Go.OpenSpec.ofChange s with cond := some uptoSmall }

/-- 'quicksetlaw04.ZoneReads', WHERE WHAT IT READS IS OF BULK AT MOST 1048576: true; the input reads as it did. -/
def zoneReadsUptoRow : OpenClaim := { program := "ytcjmcfjjbicimaa", sum := "00b32257bd3e9c8b219ee164e8218542ee811fce1dda27e809168610f6e87bc2", func := "quickset/quicksetlaw04.ZoneReads", spec := "zoneReads", apart := false, narrowed := true }
def ZoneReadsUptoSaid : Prop := zoneReadsUptoRow.holds Try.pinned (OpenSpec.upto zoneReadsSpec)

/-- 'quicksetlaw04.ZoneAppends', WHERE WHAT IT READS IS OF BULK AT MOST 1048576: true; the input reads as it did. -/
def zoneAppendsUptoRow : OpenClaim := { program := "ytcjmcfjjbicimaa", sum := "00b32257bd3e9c8b219ee164e8218542ee811fce1dda27e809168610f6e87bc2", func := "quickset/quicksetlaw04.ZoneAppends", spec := "zoneAppends", apart := false, narrowed := true }
def ZoneAppendsUptoSaid : Prop := zoneAppendsUptoRow.holds Try.pinned (OpenSpec.upto zoneAppendsSpec)

/-- 'quicksetlaw04.ZoneTorn', WHERE WHAT IT READS IS OF BULK AT MOST 1048576: true; the input reads as it did. -/
def zoneTornUptoRow : OpenClaim := { program := "ytcjmcfjjbicimaa", sum := "00b32257bd3e9c8b219ee164e8218542ee811fce1dda27e809168610f6e87bc2", func := "quickset/quicksetlaw04.ZoneTorn", spec := "zoneTorn", apart := false, narrowed := true }
def ZoneTornUptoSaid : Prop := zoneTornUptoRow.holds Try.pinned (OpenSpec.upto zoneTornSpec)

/-- 'quicksetlaw04.ZoneCounts', WHERE WHAT IT READS IS OF BULK AT MOST 1048576: true; the input reads as it did. -/
def zoneCountsUptoRow : OpenClaim := { program := "ytcjmcfjjbicimaa", sum := "00b32257bd3e9c8b219ee164e8218542ee811fce1dda27e809168610f6e87bc2", func := "quickset/quicksetlaw04.ZoneCounts", spec := "zoneCounts", apart := false, narrowed := true }
def ZoneCountsUptoSaid : Prop := zoneCountsUptoRow.holds Try.pinned (OpenSpec.upto zoneCountsSpec)

/-- 'quicksetlaw04.ZoneResets', WHERE WHAT IT READS IS OF BULK AT MOST 1048576: true; the input reads as it did. -/
def zoneResetsUptoRow : OpenClaim := { program := "ytcjmcfjjbicimaa", sum := "00b32257bd3e9c8b219ee164e8218542ee811fce1dda27e809168610f6e87bc2", func := "quickset/quicksetlaw04.ZoneResets", spec := "zoneResets", apart := false, narrowed := true }
def ZoneResetsUptoSaid : Prop := zoneResetsUptoRow.holds Try.pinned (OpenSpec.upto zoneResetsSpec)

/-- 'quicksetlaw04.ZoneKeeps', WHERE WHAT IT READS IS OF BULK AT MOST 1048576: true; the input reads as it did. -/
def zoneKeepsUptoRow : OpenClaim := { program := "ytcjmcfjjbicimaa", sum := "00b32257bd3e9c8b219ee164e8218542ee811fce1dda27e809168610f6e87bc2", func := "quickset/quicksetlaw04.ZoneKeeps", spec := "zoneKeeps", apart := false, narrowed := true }
def ZoneKeepsUptoSaid : Prop := zoneKeepsUptoRow.holds Try.pinned (OpenSpec.upto zoneKeepsSpec)

/-- 'quicksetlaw05.ZnsNews', WHERE WHAT IT READS IS OF BULK AT MOST 1048576: true; the input reads as it did. -/
def znsNewsUptoRow : OpenClaim := { program := "ytcjmcfjjbicimaa", sum := "00b32257bd3e9c8b219ee164e8218542ee811fce1dda27e809168610f6e87bc2", func := "quickset/quicksetlaw05.ZnsNews", spec := "znsNews", unfollowed := true, recurses := true, apart := false, narrowed := true }
def ZnsNewsUptoSaid : Prop := znsNewsUptoRow.holds Try.pinned (OpenSpec.upto znsNewsSpec)

/-- 'quicksetlaw05.ZnsFences', WHERE WHAT IT READS IS OF BULK AT MOST 1048576: true; the input reads as it did. -/
def znsFencesUptoRow : OpenClaim := { program := "ytcjmcfjjbicimaa", sum := "00b32257bd3e9c8b219ee164e8218542ee811fce1dda27e809168610f6e87bc2", func := "quickset/quicksetlaw05.ZnsFences", spec := "znsFences", unfollowed := true, recurses := true, apart := false, narrowed := true }
def ZnsFencesUptoSaid : Prop := znsFencesUptoRow.holds Try.pinned (OpenSpec.upto znsFencesSpec)

/-- 'quicksetlaw05.ZnsKeeps', WHERE WHAT IT READS IS OF BULK AT MOST 1048576: true; the input reads as it did. -/
def znsKeepsUptoRow : OpenClaim := { program := "ytcjmcfjjbicimaa", sum := "00b32257bd3e9c8b219ee164e8218542ee811fce1dda27e809168610f6e87bc2", func := "quickset/quicksetlaw05.ZnsKeeps", spec := "znsKeeps", unfollowed := true, recurses := true, apart := false, narrowed := true }
def ZnsKeepsUptoSaid : Prop := znsKeepsUptoRow.holds Try.pinned (OpenSpec.upto znsKeepsSpec)

/-- 'quicksetlaw05.ZnsLimits', WHERE WHAT IT READS IS OF BULK AT MOST 1048576: true; the input reads as it did. -/
def znsLimitsUptoRow : OpenClaim := { program := "ytcjmcfjjbicimaa", sum := "00b32257bd3e9c8b219ee164e8218542ee811fce1dda27e809168610f6e87bc2", func := "quickset/quicksetlaw05.ZnsLimits", spec := "znsLimits", unfollowed := true, recurses := true, apart := false, narrowed := true }
def ZnsLimitsUptoSaid : Prop := znsLimitsUptoRow.holds Try.pinned (OpenSpec.upto znsLimitsSpec)

/-- 'quicksetlaw05.ZnsParts', WHERE WHAT IT READS IS OF BULK AT MOST 1048576: true; the input reads as it did. -/
def znsPartsUptoRow : OpenClaim := { program := "ytcjmcfjjbicimaa", sum := "00b32257bd3e9c8b219ee164e8218542ee811fce1dda27e809168610f6e87bc2", func := "quickset/quicksetlaw05.ZnsParts", spec := "znsParts", unfollowed := true, recurses := true, apart := false, narrowed := true }
def ZnsPartsUptoSaid : Prop := znsPartsUptoRow.holds Try.pinned (OpenSpec.upto znsPartsSpec)

end Rows
end Go.Proofs.Ytcjmcfjjbicimaa
