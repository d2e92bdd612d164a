/- quicksetref02.SameInts and SameMsg of what is the same. -/
import Derived.Test.YtbjgemipmlimoaaMsg
import Derived.Test.YtbjgemipmlimoaaWireMsg
namespace Go.Proofs.Ytbjgemipmlimoaa
open Go.RowKit

set_option maxRecDepth 100000 in
set_option maxHeartbeats 1000000 in
theorem sameInts_any (v u : Value) (l : List Int) (K K' : Nat → Prop) (w : World) (hv : IsL Rp.int w K v l) (hu : IsL Rp.int w K' u l) :
    Calls Try.prog 38 #[v, u] w fun e w' => e = .returned (.bool true) ∧ Below w.heap.size w w' := by
  obtain ⟨A, c, cs, rfl, hr, hcl, hlc, hcc, hl⟩ := hv
  obtain ⟨rfl, h63⟩ := ints_cells hcl
  obtain ⟨A', c', cs', rfl, hr', hcl', hlc', hcc', _⟩ := hu
  obtain ⟨rfl, _⟩ := ints_cells hcl'
  clear hcl hcl'
  go_enter Try.func38, Try.ntmps38
  go_wp2
  go_loopw [13] (fun i wr => ∃ j : Nat, i = .int .i64 j ∧ j ≤ l.length ∧ Below w.heap.size w wr) (fun i _ => l.length - (intOf i).toNat)
  case atStart => exact ⟨0, rfl, Nat.zero_le _, Below.refl _ _⟩
  case round =>
    obtain ⟨j, rfl, hj, hb⟩ := hrel
    by_cases hlt : j < l.length
    · obtain ⟨ad, x, rfl, _, hx, hc⟩ := (hr.step hb).at_ hlt
      obtain ⟨ad', x', rfl, _, hx', hc'⟩ := (hr'.step hb).at_ hlt
      rw [hx] at hx'
      obtain rfl : x = x' := by injection hx'
      simp only [List.getElem?_map, List.getElem?_eq_getElem hlt, Option.map_some, Option.some.injEq] at hx
      subst hx
      unfold I64 at hc hc'
      clear hx'
      generalize l[j] = n at hc hc'
      have j1 : (j : Int) < (l.length : Int) := by omega
      have j0 : (0 : Int) ≤ (j : Int) := by omega
      go_wp2
      go_quiet (fail)
      go_wp2
      go_roundw
      case rel => exact ⟨j + 1, by go_num, by omega, below_drewN hb _⟩
      case measure => simp [intOf]; omega
    · obtain rfl : j = l.length := by omega
      go_wp2
      go_ret
      exact ⟨rfl, hb⟩

set_option maxRecDepth 100000 in
set_option maxHeartbeats 1000000 in
theorem sameMsg_any (v u : Value) (m : Ms) (K K' : Nat → Prop) (w : World) (hv : IsM w K v m) (hu : IsM w K' u m) :
    Calls Try.prog 28 #[v, u] w fun e w' => e = .returned (.bool true) ∧ Below w.heap.size w w' := by
  obtain ⟨A1, c1, A2, c2, rfl, h1, h2, h63⟩ := hv
  obtain ⟨A3, c3, A4, c4, rfl, h3, h4, _⟩ := hu
  unfold mv
  have E := (((((((Kn.start w).give Stable.list h1).give Stable.bytes h2).give Stable.list h3).give Stable.bytes h4).push 45 #[.int .i64 m.kind, .int .i64 m.frm, .int .i64 m.to, .int .i64 m.id, .slice A1 m.args.length c1, .slice A2 m.data.length c2]).push 45 #[.int .i64 m.kind, .int .i64 m.frm, .int .i64 m.to, .int .i64 m.id, .slice A3 m.args.length c3, .slice A4 m.data.length c4])
  go_enter Try.func28, Try.ntmps28
  go_wp2_with fail
  refine (sameInts_any _ _ m.args _ _ _ (E.get m3) (E.get m1)).mono ?_
  rintro e w1 ⟨rfl, hb1⟩
  replace E := E.step hb1
  obtain ⟨q1, f1, t1⟩ := E.rules m1
  obtain ⟨q2, f2, t2⟩ := E.rules m0
  rw [World.size_alloc] at q2 f2 t2
  have hs1 := run_string_of (P := Try.prog) (cap := c2) (n := m.data.length) (l := m.data) w1 24 9 5 Try.underlying24 Try.underlying5 Try.underlying9 rfl (IsB.open_ (E.get m2)).2.1
  have hs2 := run_string_of (P := Try.prog) (cap := c4) (n := m.data.length) (l := m.data) w1 24 9 5 Try.underlying24 Try.underlying5 Try.underlying9 rfl (IsB.open_ (E.get m0)).2.1
  go_wp2
  go_ret
  exact ⟨rfl, E.below⟩
end Go.Proofs.Ytbjgemipmlimoaa
