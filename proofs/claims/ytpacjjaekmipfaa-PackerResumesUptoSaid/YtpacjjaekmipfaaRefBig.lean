/- The walk of ref03's Big; a record of a slice, its cells. -/
import Derived.Test.YtpacjjaekmipfaaPackAdd1
namespace Go.Proofs.Ytpacjjaekmipfaa
open Go.RowKit

theorem rc_at {w : World} {K : Nat → Prop} {A : Option Addr} {n c : Nat} {l : List Rc} (h : IsL Rp.rc w K (.slice A n c) l) {j : Nat} {r : Rc} (hj : l[j]? = some r) :
    ∃ ad Ad cd, A = some ad ∧ K ad.block ∧ IsB w K (.slice Ad r.data.length cd) r.data ∧ OkRc r ∧
      w.cell? (ad.add (j * 7)) = some (.int .i64 r.kind) ∧ w.cell? ⟨(ad.add (j * 7)).block, (ad.add (j * 7)).off + 1, none⟩ = some (.int .i64 r.lba) ∧ w.cell? ⟨(ad.add (j * 7)).block, (ad.add (j * 7)).off + 2, none⟩ = some (.int .i64 r.n) ∧
      w.cell? ⟨(ad.add (j * 7)).block, (ad.add (j * 7)).off + 3, none⟩ = some (.int .i64 r.ver) ∧ w.cell? ⟨(ad.add (j * 7)).block, (ad.add (j * 7)).off + 4, none⟩ = some (.int .i64 r.zone) ∧ w.cell? ⟨(ad.add (j * 7)).block, (ad.add (j * 7)).off + 5, none⟩ = some (.int .i64 r.off) ∧
      w.cell? ⟨(ad.add (j * 7)).block, (ad.add (j * 7)).off + 6, none⟩ = some (.slice Ad r.data.length cd) := by
  obtain ⟨ad, es, hA, hKad, hes, hcell⟩ := h.at_ hj
  have hok := rc_ok hes
  obtain ⟨vd, rfl, hvd, _⟩ := hes
  obtain ⟨Ad, cd, rfl, _⟩ := isB_form hvd
  have hsz7 : Rp.rc.size = 7 := rfl
  rw [hsz7] at hcell
  refine ⟨ad, Ad, cd, hA, hKad, hvd, hok, ?_, ?_, ?_, ?_, ?_, ?_, ?_⟩
  · rw [← addr0 (ad.add (j * 7))]; exact hcell 0 _ rfl
  · rw [← addrS _ 1 (by decide)]; exact hcell 1 _ rfl
  · rw [← addrS _ 2 (by decide)]; exact hcell 2 _ rfl
  · rw [← addrS _ 3 (by decide)]; exact hcell 3 _ rfl
  · rw [← addrS _ 4 (by decide)]; exact hcell 4 _ rfl
  · rw [← addrS _ 5 (by decide)]; exact hcell 5 _ rfl
  · rw [← addrS _ 6 (by decide)]; exact hcell 6 _ rfl

/-- how great records are, as an int has it -/
def sumRW : List Rc → Int → Int
  | [], s => s
  | r :: l, s => sumRW l (wrap64 (s + ((r.data.length : Int) + 20)))
def bigR (most : Int) (l : List Rc) : Bool := decide (most < sumRW l 0)

set_option maxRecDepth 100000 in
set_option maxHeartbeats 2000000 in
theorem bigR_any (most : Int) (v : Value) (l : List Rc) (K : Nat → Prop) (w : World) (hv : IsL Rp.rc w K v l) :
    Calls Try.prog 11 #[.int .i64 most, v] w fun e w' => e = .returned (.bool (bigR most l)) ∧ Below w.heap.size w w' := by
  obtain ⟨res, hres⟩ : ∃ res, res = bigR most l := ⟨_, rfl⟩
  rw [← hres]
  have HRES := Lib.hid hres; clear hres
  have hv0 := hv
  obtain ⟨A, c, rfl, _⟩ := hv.form
  have hlen := hv.len
  go_enter Try.func11, Try.ntmps11
  go_wp2_with fail
  go_loopw [5, 10] (fun s i wr => ∃ (j : Nat) (k : Int), i = .int .i64 j ∧ j ≤ l.length ∧ s = .int .i64 k ∧ sumRW (l.drop j) k = sumRW l 0 ∧ Below w.heap.size w wr) (fun _ i _ => l.length - (intOf i).toNat)
  case atStart => exact ⟨0, 0, rfl, Nat.zero_le _, rfl, rfl, Below.refl _ _⟩
  case round =>
    obtain ⟨j, k, rfl, hj, rfl, hsum, hb⟩ := hrel
    have HSUM := Lib.hid hsum; clear hsum
    have hsz := hb.size
    by_cases hlt : j < l.length
    · have htk : l.drop j = l[j] :: l.drop (j + 1) := List.drop_eq_getElem_cons hlt
      obtain ⟨ad, Ad, cd, rfl, hKad, hvd, _, hc0, hc1, hc2, hc3, hc4, hc5, hc6⟩ := rc_at (hv0.step hb) (List.getElem?_eq_getElem hlt)
      generalize l[j] = r at hvd hc0 hc1 hc2 hc3 hc4 hc5 hc6 htk
      have HTK := Lib.hid htk; clear htk
      obtain ⟨_, _, _, hd⟩ := isB_form hvd
      go_wp2
      go_roundw
      case rel => exact ⟨j + 1, _, by go_num, by omega, rfl, by rw [← HSUM.out, HTK.out]; rfl, hb.alloc hsz _⟩
      case measure => simp [intOf]; omega
    · obtain rfl : j = l.length := by omega
      go_wp2
      go_ret
      have e := HSUM.out
      rw [List.drop_length] at e
      have e2 : k = sumRW l 0 := e
      refine ⟨?_, hb⟩
      rw [HRES.out]
      unfold bigR
      rw [← e2]
      rfl
end Go.Proofs.Ytpacjjaekmipfaa
