/- The walks of Used, and of few: are a device and commands small? -/
import Derived.Test.YtcjmcfjjbicimaaZnsPlain2
namespace Go.Proofs.Ytcjmcfjjbicimaa
open Go.RowKit

def sumZ : List Zn → Int → Int
  | [], s => s
  | z :: l, s => sumZ l (wrap64 (s + (z.d.length : Int)))
def sumC : List Cm → Int → Int
  | [], s => s
  | c :: l, s => sumC l (wrap64 (s + (c.data.length : Int)))
def totZ (l : List Zn) : Nat := (l.map (fun z => z.d.length)).sum
def totC (l : List Cm) : Nat := (l.map (fun c => c.data.length)).sum
theorem sumZ_tot : ∀ (l : List Zn) (s : Int), 0 ≤ s → s + totZ l ≤ 9223372036854775807 → sumZ l s = s + totZ l
  | [], s, _, _ => by simp [sumZ, totZ]
  | z :: l, s, h0, h => by
    have h1 : totZ (z :: l) = z.d.length + totZ l := by simp [totZ]
    unfold sumZ
    have e : wrap64 (s + (z.d.length : Int)) = s + (z.d.length : Int) := by unfold wrap64; omega
    rw [e, sumZ_tot l _ (by omega) (by omega)]
    omega
theorem sumC_tot : ∀ (l : List Cm) (s : Int), 0 ≤ s → s + totC l ≤ 9223372036854775807 → sumC l s = s + totC l
  | [], s, _, _ => by simp [sumC, totC]
  | z :: l, s, h0, h => by
    have h1 : totC (z :: l) = z.data.length + totC l := by simp [totC]
    unfold sumC
    have e : wrap64 (s + (z.data.length : Int)) = s + (z.data.length : Int) := by unfold wrap64; omega
    rw [e, sumC_tot l _ (by omega) (by omega)]
    omega
def fewB (d : Zd) (l : List Cm) : Bool := decide (sumC l (sumZ d.z 0) < 200000) && decide (d.z.length < 200) && decide (l.length < 200)

/-- a command's cells -/
def cellsC (c : Cm) (A : Option Addr) (k : Nat) : List Value := [.int .i64 c.op, .int .i64 c.zone, .int .i64 c.epoch, .int .i64 c.off, .int .i64 c.n, .slice A c.data.length k]
structure RangeC (c : Cm) : Prop where
  op : -9223372036854775808 ≤ c.op ∧ c.op ≤ 9223372036854775807
  zone : -9223372036854775808 ≤ c.zone ∧ c.zone ≤ 9223372036854775807
  epoch : -9223372036854775808 ≤ c.epoch ∧ c.epoch ≤ 9223372036854775807
  off : -9223372036854775808 ≤ c.off ∧ c.off ≤ 9223372036854775807
  n : -9223372036854775808 ≤ c.n ∧ c.n ≤ 9223372036854775807
theorem rp_isC {w : World} {K : Nat → Prop} {cs : List Value} {c : Cm} (h : Rp.cmd.is w K cs c) : ∃ A k, cs = cellsC c A k ∧ IsB w K (.slice A c.data.length k) c.data ∧ RangeC c := by
  obtain ⟨v, rfl, h1, r⟩ := h
  have h0 := h1
  obtain ⟨A, c, rfl, _⟩ := h1
  exact ⟨A, c, rfl, h0, r.1, r.2.1, r.2.2.1, r.2.2.2.1, r.2.2.2.2⟩
abbrev CmdAt (W : World) (a : Addr) (c : Cm) (A : Option Addr) (k : Nat) : Prop :=
  W.cell? a = some (.int .i64 c.op) ∧ W.cell? ⟨a.block, a.off + 1, none⟩ = some (.int .i64 c.zone) ∧ W.cell? ⟨a.block, a.off + 2, none⟩ = some (.int .i64 c.epoch) ∧ W.cell? ⟨a.block, a.off + 3, none⟩ = some (.int .i64 c.off) ∧ W.cell? ⟨a.block, a.off + 4, none⟩ = some (.int .i64 c.n) ∧ W.cell? ⟨a.block, a.off + 5, none⟩ = some (.slice A c.data.length k)
theorem IsL.cmd_at {w : World} {K : Nat → Prop} {A : Option Addr} {n c : Nat} {l : List Cm} (h : IsL Rp.cmd w K (.slice A n c) l) {j : Nat} {x : Cm} (hx : l[j]? = some x) :
    ∃ ad B k, A = some ad ∧ ad.block < w.heap.size ∧ K ad.block ∧ IsB w K (.slice B x.data.length k) x.data ∧ RangeC x ∧ CmdAt w (ad.add (j * 6)) x B k := by
  obtain ⟨ad, es, rfl, hK, hes, hcell⟩ := h.at_ hx
  obtain ⟨B, k, rfl, hB, hr⟩ := rp_isC hes
  unfold cellsC at hcell
  have h0 : w.cell? (ad.add (j * 6)) = some (.int .i64 x.op) := by rw [← addr0 (ad.add (j * 6))]; exact hcell 0 _ rfl
  have hlt := World.block_lt_of_cell? w _ h0
  rw [block_of_add] at hlt
  refine ⟨ad, B, k, rfl, hlt, hK, hB, hr, h0, ?_, ?_, ?_, ?_, ?_⟩
  · rw [← addrS _ 1 (by decide)]; exact hcell 1 _ rfl
  · rw [← addrS _ 2 (by decide)]; exact hcell 2 _ rfl
  · rw [← addrS _ 3 (by decide)]; exact hcell 3 _ rfl
  · rw [← addrS _ 4 (by decide)]; exact hcell 4 _ rfl
  · rw [← addrS _ 5 (by decide)]; exact hcell 5 _ rfl

set_option maxRecDepth 100000 in
set_option maxHeartbeats 2000000 in
theorem used_any (d : Zd) (v : Value) (w : World) (hd : IsD w v d) :
    Calls Try.prog 55 #[v] w fun e w' => e = .returned (.int .i64 (sumZ d.z 0)) ∧ Below w.heap.size w w' := by
  obtain ⟨A, c, rfl, hL⟩ := hd
  obtain ⟨_, _, hlc, hcc, hlen⟩ := hL.open_
  have E := ((Kn.start w).give Stable.list hL).push 53 #[.int .i64 d.cap, .int .i64 d.opn, .int .i64 d.act, .slice A d.z.length c]
  go_enter Try.func55, Try.ntmps55
  go_wp2
  generalize hwA : w.alloc (.cells #[.int .i64 d.cap, .int .i64 d.opn, .int .i64 d.act, .slice A d.z.length c] 53) = wA at E ⊢
  clear hwA
  go_loopw [3, 9] (fun s i wr => ∃ (j : Nat) (k : Int), i = .int .i64 j ∧ j ≤ d.z.length ∧ s = .int .i64 k ∧ sumZ (d.z.drop j) k = sumZ d.z 0 ∧ Below wA.heap.size wA wr) (fun _ i _ => d.z.length - (intOf i).toNat)
  case atStart => exact ⟨0, 0, rfl, Nat.zero_le _, rfl, rfl, Below.refl _ _⟩
  case round =>
    obtain ⟨j, k, rfl, hj, rfl, hs, hb⟩ := hrel
    replace E := E.step hb
    have HS := Lib.hid hs
    clear hs
    by_cases hlt : j < d.z.length
    · have hd0 : d.z.drop j = d.z[j] :: d.z.drop (j + 1) := List.drop_eq_getElem_cons hlt
      have hs2 : sumZ (d.z.drop (j + 1)) (wrap64 (k + (d.z[j].d.length : Int))) = sumZ d.z 0 := by
        have := HS.out; rw [hd0] at this; exact this
      obtain ⟨ad, B, cB, rfl, hadb, _, hB, hc0, hc1, hc2⟩ := IsL.zone_at (E.get m0) (List.getElem?_eq_getElem hlt)
      generalize d.z[j] = z at hB hc0 hc1 hc2 hs2
      have HS2 := Lib.hid hs2
      clear hs2 hd0 HS hB
      have j1 : (j : Int) < (d.z.length : Int) := by omega
      have j0 : (0 : Int) ≤ (j : Int) := by omega
      go_wp2
      go_roundw
      case rel => exact ⟨j + 1, _, by go_num, by omega, rfl, HS2.out, hb.alloc hb.size _⟩
      case measure => simp [intOf]; omega
    · obtain rfl : j = d.z.length := by omega
      go_wp2
      go_ret
      have e := HS.out
      rw [List.drop_length] at e
      have e2 : k = sumZ d.z 0 := e
      rw [e2]
      exact ⟨rfl, E.below⟩

set_option maxRecDepth 100000 in
set_option maxHeartbeats 2000000 in
theorem refUsed_any (d : Zd) (v : Value) (w : World) (hd : IsD w v d) :
    Calls Try.prog 57 #[v] w fun e w' => e = .returned (.int .i64 (sumZ d.z 0)) ∧ Below w.heap.size w w' := by
  obtain ⟨A, c, rfl, hL⟩ := hd
  obtain ⟨_, _, hlc, hcc, hlen⟩ := hL.open_
  have E := ((Kn.start w).give Stable.list hL).push 53 #[.int .i64 d.cap, .int .i64 d.opn, .int .i64 d.act, .slice A d.z.length c]
  go_enter Try.func57, Try.ntmps57
  go_wp2
  generalize hwA : w.alloc (.cells #[.int .i64 d.cap, .int .i64 d.opn, .int .i64 d.act, .slice A d.z.length c] 53) = wA at E ⊢
  clear hwA
  go_loopw [3, 9] (fun s i wr => ∃ (j : Nat) (k : Int), i = .int .i64 j ∧ j ≤ d.z.length ∧ s = .int .i64 k ∧ sumZ (d.z.drop j) k = sumZ d.z 0 ∧ Below wA.heap.size wA wr) (fun _ i _ => d.z.length - (intOf i).toNat)
  case atStart => exact ⟨0, 0, rfl, Nat.zero_le _, rfl, rfl, Below.refl _ _⟩
  case round =>
    obtain ⟨j, k, rfl, hj, rfl, hs, hb⟩ := hrel
    replace E := E.step hb
    have HS := Lib.hid hs
    clear hs
    by_cases hlt : j < d.z.length
    · have hd0 : d.z.drop j = d.z[j] :: d.z.drop (j + 1) := List.drop_eq_getElem_cons hlt
      have hs2 : sumZ (d.z.drop (j + 1)) (wrap64 (k + (d.z[j].d.length : Int))) = sumZ d.z 0 := by
        have := HS.out; rw [hd0] at this; exact this
      obtain ⟨ad, B, cB, rfl, hadb, _, hB, hc0, hc1, hc2⟩ := IsL.zone_at (E.get m0) (List.getElem?_eq_getElem hlt)
      generalize d.z[j] = z at hB hc0 hc1 hc2 hs2
      have HS2 := Lib.hid hs2
      clear hs2 hd0 HS hB
      have j1 : (j : Int) < (d.z.length : Int) := by omega
      have j0 : (0 : Int) ≤ (j : Int) := by omega
      go_wp2
      go_roundw
      case rel => exact ⟨j + 1, _, by go_num, by omega, rfl, HS2.out, hb.alloc hb.size _⟩
      case measure => simp [intOf]; omega
    · obtain rfl : j = d.z.length := by omega
      go_wp2
      go_ret
      have e := HS.out
      rw [List.drop_length] at e
      have e2 : k = sumZ d.z 0 := e
      rw [e2]
      exact ⟨rfl, E.below⟩

set_option maxRecDepth 100000 in
set_option maxHeartbeats 2000000 in
theorem few_any (d : Zd) (l : List Cm) (v u : Value) (K : Nat → Prop) (w : World) (hd : IsD w v d) (hl : IsL Rp.cmd w K u l) :
    Calls Try.prog 38 #[v, u] w fun e w' => e = .returned (.bool (fewB d l)) ∧ Below w.heap.size w w' := by
  obtain ⟨A, c, rfl, hL⟩ := hd
  obtain ⟨Al, cl, rfl, hllc, hlcc⟩ := hl.form
  have hlen := hL.len
  have hlenl := hl.len
  have E := (((Kn.start w).give Stable.list hL).give Stable.list hl).push 53 #[.int .i64 d.cap, .int .i64 d.opn, .int .i64 d.act, .slice A d.z.length c]
  obtain ⟨r, hr⟩ : ∃ r, fewB d l = r := ⟨_, rfl⟩
  rw [hr]
  have HR := Lib.hid hr
  clear hr
  go_enter Try.func38, Try.ntmps38
  go_wp2_with (go_at_call 57; refine (refUsed_any d _ _ ⟨A, c, rfl, E.get m1⟩).mono ?_; rintro e w2 ⟨rfl, hb2⟩; replace E := E.step hb2)
  obtain ⟨s0, hs0⟩ : ∃ s0, sumZ d.z 0 = s0 := ⟨_, rfl⟩
  rw [hs0]
  have HS0 := Lib.hid hs0
  clear hs0 hb2
  go_loopw [5, 12] (fun s i wr => ∃ (j : Nat) (k : Int), i = .int .i64 j ∧ j ≤ l.length ∧ s = .int .i64 k ∧ sumC (l.drop j) k = sumC l s0 ∧ Below w2.heap.size w2 wr) (fun _ i _ => l.length - (intOf i).toNat)
  case atStart => exact ⟨0, s0, rfl, Nat.zero_le _, rfl, rfl, Below.refl _ _⟩
  case round =>
    obtain ⟨j, k, rfl, hj, rfl, hs, hb⟩ := hrel
    replace E := E.step hb
    have HS := Lib.hid hs
    clear hs
    by_cases hlt : j < l.length
    · have hd0 : l.drop j = l[j] :: l.drop (j + 1) := List.drop_eq_getElem_cons hlt
      have hs2 : sumC (l.drop (j + 1)) (wrap64 (k + (l[j].data.length : Int))) = sumC l s0 := by
        have := HS.out; rw [hd0] at this; exact this
      obtain ⟨ad, B, cB, rfl, hadb, _, hB, _, hc0, hc1, hc2, hc3, hc4, hc5⟩ := IsL.cmd_at (E.get m0) (List.getElem?_eq_getElem hlt)
      generalize l[j] = z at hB hc0 hc1 hc2 hc3 hc4 hc5 hs2
      have HS2 := Lib.hid hs2
      clear hs2 hd0 HS hB
      have j1 : (j : Int) < (l.length : Int) := by omega
      have j0 : (0 : Int) ≤ (j : Int) := by omega
      go_wp2
      go_roundw
      case rel => exact ⟨j + 1, _, by go_num, by omega, rfl, HS2.out, hb.alloc hb.size _⟩
      case measure => simp [intOf]; omega
    · obtain rfl : j = l.length := by omega
      have e := HS.out
      rw [List.drop_length] at e
      have e2 : k = sumC l s0 := e
      have hrk : r = (decide (k < 200000) && decide (d.z.length < 200) && decide (l.length < 200)) := by rw [← HR.out, fewB, HS0.out, e2]
      have HRK := Lib.hid hrk
      clear hrk e2 e HS HR HS0
      obtain ⟨q0, f0, t0⟩ := E.rules m0
      go_wp2
      all_goals
        go_ret
        refine ⟨congrArg (fun x => Ending.returned (.bool x)) ?_, E.below⟩
        rw [HRK.out, Bool.eq_iff_iff]
        clear E q0 f0 t0 HRK
        simp
        omega
end Go.Proofs.Ytcjmcfjjbicimaa
