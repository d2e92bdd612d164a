/- The walks of ref02.SameMsgs, ref13.Same of what is the same. -/
import Derived.Test.YtbjgemipmlimoaaMsgAt
import Derived.Test.YtbjgemipmlimoaaSameMsg
import Derived.Deep.RegionHeld3
namespace Go.Proofs.Ytbjgemipmlimoaa
open Go.RowKit

set_option maxRecDepth 100000 in
set_option maxHeartbeats 4000000 in
theorem sameMsgs_any (v u : Value) (l : List Ms) (K K' : Nat → Prop) (w : World) (hv : IsL Rp.msg w K v l) (hu : IsL Rp.msg w K' u l) :
    Calls Try.prog 62 #[v, u] w fun e w' => e = .returned (.bool true) ∧ Below w.heap.size w w' := by
  have hv0 := hv
  have hu0 := hu
  obtain ⟨A, c, rfl, _⟩ := hv.form
  obtain ⟨A', c', rfl, _⟩ := hu.form
  have hlen := hv.len
  go_enter Try.func62, Try.ntmps62
  go_wp2_with fail
  go_loopw [13] (fun i wr => ∃ j : Nat, i = .int .i64 j ∧ j ≤ l.length ∧ Below w.heap.size w wr) (fun i _ => l.length - (intOf i).toNat)
  case atStart => exact ⟨0, rfl, Nat.zero_le _, Below.refl _ _⟩
  case round =>
    obtain ⟨j, rfl, hj, hb⟩ := hrel
    have hsz := hb.size
    by_cases hlt : j < l.length
    · obtain ⟨ad, A1, c1, A2, c2, rfl, hadb, him, hc⟩ := (hv0.step hb).msg_at (List.getElem?_eq_getElem hlt)
      obtain ⟨ad', A3, c3, A4, c4, rfl, hadb', him', hc'⟩ := (hu0.step hb).msg_at (List.getElem?_eq_getElem hlt)
      generalize l[j] = m at him him' hc hc'
      have HQ : Hid (∀ W, Below wr.heap.size wr W → MsgAt W (ad.add (j * 6)) m A1 c1 A2 c2 ∧ MsgAt W (ad'.add (j * 6)) m A3 c3 A4 c4) := Lib.hid fun W h => ⟨hc.step h, hc'.step h⟩
      have HM : Hid (IsM wr K (mv m A1 c1 A2 c2) m ∧ IsM wr K' (mv m A3 c3 A4 c4) m) := Lib.hid ⟨him, him'⟩
      clear hc hc' him him' hv hu
      have j1 : (j : Int) < (l.length : Int) := by omega
      have j0 : (0 : Int) ≤ (j : Int) := by omega
      unfold mv at HM
      go_wp2_with fail
      go_region_held3 (fun W => MsgAt W (ad.add (j * 6)) m A1 c1 A2 c2 ∧ MsgAt W (ad'.add (j * 6)) m A3 c3 A4 c4)
        (first | with_reducible exact HQ.out _ (Below.refl _ _).drew | with_reducible exact HQ.out _ (hb1))
        (first
          | (go_at_call 28
             refine (sameMsg_any _ _ m K K' _ (IsM.step HM.out.1 (Below.refl _ _).drew) (IsM.step HM.out.2 (Below.refl _ _).drew)).mono ?_
             rintro e w2 ⟨rfl, hb1⟩
             replace hb1 : Below wr.heap.size wr w2 := (Below.refl _ _).drew.trans hb1))
      go_wp2
      go_roundw
      case rel => exact ⟨j + 1, by go_num, by omega, hb.trans (hb1.mono hsz)⟩
      case measure => simp [intOf]; omega
    · obtain rfl : j = l.length := by omega
      go_wp2
      go_ret
      exact ⟨rfl, hb⟩

set_option maxRecDepth 100000 in
set_option maxHeartbeats 1000000 in
theorem same13_any (v u : Value) (n : Nt) (K K' : Nat → Prop) (w : World) (hv : IsN w K v n) (hu : IsN w K' u n) :
    Calls Try.prog 31 #[v, u] w fun e w' => e = .returned (.bool true) ∧ Below w.heap.size w w' := by
  obtain ⟨A, c, rfl, hq⟩ := hv
  obtain ⟨A', c', rfl, hq'⟩ := hu
  have E := ((((Kn.start w).give Stable.list hq).give Stable.list hq').push 38 #[.int .i64 n.cap, .slice A n.q.length c]).push 38 #[.int .i64 n.cap, .slice A' n.q.length c']
  clear hq hq'
  go_enter Try.func31, Try.ntmps31
  go_wp2_with fail
  refine (sameMsgs_any _ _ n.q K K' _ (E.get m1) (E.get m0)).mono ?_
  rintro e w2 ⟨rfl, hb1⟩
  replace E := E.step hb1
  go_wp2
  go_ret
  exact ⟨rfl, E.below⟩
end Go.Proofs.Ytbjgemipmlimoaa
