/- The walk of quicksetlaw05.live. -/
import Derived.Test.YtcjmcfjjbicimaaZnsAll
import Derived.Test.YtcjmcfjjbicimaaZnsNew
namespace Go.Proofs.Ytcjmcfjjbicimaa
open Go.RowKit

def liveC : List Cm := [⟨7, 1, 5, 0, 0, []⟩, ⟨1, 1, 4, 0, 0, [97]⟩, ⟨1, 1, 5, 0, 0, [97]⟩]
theorem live_new : (newD 3 10 1 2).2 = 0 := by decide +kernel
theorem live_newz : (newD 3 10 1 2).1.z.length = 3 := by decide +kernel
theorem live_all : (allZ (newD 3 10 1 2).1 liveC).2 = [(0, 0), (42, 0), (0, 0)] := by decide +kernel
theorem live_used : sumZ (allZ (newD 3 10 1 2).1 liveC).1.z 0 = 1 := by decide +kernel

theorem IsL.ans_at {w : World} {K : Nat → Prop} {A : Option Addr} {n c : Nat} {l : List (Int × Int)} (h : IsL Rp.ans w K (.slice A n c) l) {j : Nat} {x : Int × Int} (hx : l[j]? = some x) :
    ∃ ad, A = some ad ∧ w.cell? (ad.add (j * 3)) = some (.int .i64 x.1) ∧ w.cell? ⟨(ad.add (j * 3)).block, (ad.add (j * 3)).off + 1, none⟩ = some (.int .i64 x.2) := by
  obtain ⟨ad, es, rfl, hK, ⟨B, n2, c2, rfl⟩, hcell⟩ := h.at_ hx
  refine ⟨ad, rfl, ?_, ?_⟩
  · rw [← addr0 (ad.add (j * 3))]; exact hcell 0 _ rfl
  · rw [← addrS _ 1 (by decide)]; exact hcell 1 _ rfl

set_option linter.unusedSimpArgs false in
set_option maxRecDepth 100000 in
set_option maxHeartbeats 8000000 in
theorem live05_any (w : World) : Calls Try.prog 34 #[] w fun e w' => e = .returned (.bool true) ∧ Below w.heap.size w w' := by
  have kc := run_bytes_const (P := Try.prog) 24 5 Try.underlying24 Try.underlying5
  go_enter Try.func34, Try.ntmps34
  go_wp2_with fail
  refine (new_any 3 10 1 2 _).mono ?_
  have hz3 := live_newz
  have hall := live_all
  have hused := live_used
  rw [live_new]
  generalize (newD 3 10 1 2).1 = d at hz3 hall hused ⊢
  have HZ3 := Lib.hid hz3; have HALL := Lib.hid hall; have HUSED := Lib.hid hused
  clear hz3 hall hused
  rintro e w1 ⟨v, rfl, ⟨A, k, rfl, hL⟩, hb1⟩
  have hLt := hL.zlt
  clear hL
  go_wp2_with fail
  obtain ⟨W2, hW2⟩ : ∃ W2, (((w1.alloc (.cells #[.int .i64 d.cap, .int .i64 d.opn, .int .i64 d.act, .slice A d.z.length k] 53)).alloc (.cells #[.int .u8 97] 5 (1, 2))).alloc (.cells #[.int .u8 97] 5 (1, 2))).alloc (.cells #[.int .i64 7, .int .i64 1, .int .i64 5, .int .i64 0, .int .i64 0, .slice none 0 0, .int .i64 1, .int .i64 1, .int .i64 4, .int .i64 0, .int .i64 0, .slice (some ⟨w1.heap.size + 1, 0, none⟩) 1 1, .int .i64 1, .int .i64 1, .int .i64 5, .int .i64 0, .int .i64 0, .slice (some ⟨w1.heap.size + 1 + 1, 0, none⟩) 1 1] 62) = W2 := ⟨_, rfl⟩
  have hs2 : W2.heap.size = w1.heap.size + 4 := by rw [← hW2]; simp [World.size_alloc]
  have hL2 : IsL Rp.zone W2 (fun b => b < W2.heap.size) (.slice A d.z.length k) d.z := by
    rw [hs2, ← hW2]
    exact ((((hLt.alloc _).alloc _).alloc _).alloc _).more fun b hb => by have := hb.2; omega
  have hB2 : Blk W2 w1.heap.size 53 #[.int .i64 d.cap, .int .i64 d.opn, .int .i64 d.act, .slice A d.z.length k] := by
    rw [← hW2]
    exact (((Blk.new w1 _ _ rfl).alloc _).alloc _).alloc _
  have hbW : Below w.heap.size w W2 := by
    rw [← hW2]
    exact (((hb1.alloc hb1.size _).alloc (by simp only [World.size_alloc]; have := hb1.size; omega) _).alloc (by simp only [World.size_alloc]; have := hb1.size; omega) _).alloc (by simp only [World.size_alloc]; have := hb1.size; omega) _
  have hC2 : IsL Rp.cmd W2 (fun b => b < W2.heap.size) (.slice (some ⟨w1.heap.size + 1 + 1 + 1, 0, none⟩) 3 3) liveC := by
    have hba : IsB W2 (fun b => b < W2.heap.size) (.slice (some ⟨w1.heap.size + 1, 0, none⟩) 1 1) [97] := by
      rw [hs2, ← hW2]
      exact (((IsB.new (l := [97]) (n := 1) (g := w1.heap.size + 1) (w := w1.alloc (.cells #[.int .i64 d.cap, .int .i64 d.opn, .int .i64 d.act, .slice A d.z.length k] 53)) (by simp) rfl rfl (by decide)).alloc _).alloc _).more fun b hb => by (have hb' := hb); (show b < w1.heap.size + 4); omega
    have hbb : IsB W2 (fun b => b < W2.heap.size) (.slice (some ⟨w1.heap.size + 1 + 1, 0, none⟩) 1 1) [97] := by
      rw [hs2, ← hW2]
      exact ((IsB.new (l := [97]) (n := 1) (g := w1.heap.size + 1 + 1) (w := (w1.alloc (.cells #[.int .i64 d.cap, .int .i64 d.opn, .int .i64 d.act, .slice A d.z.length k] 53)).alloc (.cells #[.int .u8 97] 5 (1, 2))) (by simp) rfl rfl (by decide)).alloc _).more fun b hb => by (have hb' := hb); (show b < w1.heap.size + 4); omega
    refine ⟨_, 3, _, rfl, ?_, ⟨cellsC ⟨7, 1, 5, 0, 0, []⟩ none 0, _, rfl, ⟨_, rfl, IsB.nil_ _ _, by decide, by decide, by decide, by decide, by decide⟩, cellsC ⟨1, 1, 4, 0, 0, [97]⟩ (some ⟨w1.heap.size + 1, 0, none⟩) 1, _, rfl, ⟨_, rfl, hba, by decide, by decide, by decide, by decide, by decide⟩, cellsC ⟨1, 1, 5, 0, 0, [97]⟩ (some ⟨w1.heap.size + 1 + 1, 0, none⟩) 1, [], rfl, ⟨_, rfl, hbb, by decide, by decide, by decide, by decide, by decide⟩, rfl⟩, by decide, by omega, by decide⟩
    rw [hs2, ← hW2]
    exact (Reads.new (g := w1.heap.size + 1 + 1 + 1) (by simp) rfl rfl).more fun b hb => by (have hb' := hb); (show b < w1.heap.size + 4); omega
  rw [hW2]
  clear hW2 hLt
  refine (all_any d liveC A k _ _ _ hL2 hC2 (fun _ h => h) (by rw [HZ3.out]; decide) (by decide)).mono ?_
  rintro e w3 ⟨v3, A9, c9, rfl, hD3, hI3, hb3⟩
  have hD3' := hD3
  obtain ⟨A3, k3, rfl, _⟩ := hD3'
  rw [HALL.out] at hI3
  have hB3 := hB2.step hb3
  obtain ⟨q3, f3⟩ := hB3.rules
  have t3 := hB3.lt
  have hU := HUSED.out
  generalize (allZ d liveC).1 = d2 at hD3 hU ⊢
  have HU := Lib.hid hU
  clear hU
  go_upto_region 3 with fail
  have hA := (((hB3.set_ 0 (.int .i64 d2.cap)).set_ 1 (.int .i64 d2.opn)).set_ 2 (.int .i64 d2.act)).set_ 3 (.slice A3 d2.z.length k3)
  have ht := ((((Turned.refl w3 (fun b => b = w1.heap.size)).set (g := w1.heap.size) rfl 0 (.int .i64 d2.cap)).set (g := w1.heap.size) rfl 1 (.int .i64 d2.opn)).set (g := w1.heap.size) rfl 2 (.int .i64 d2.act)).set (g := w1.heap.size) rfl 3 (.slice A3 d2.z.length k3)
  generalize (((w3.setCell ⟨w1.heap.size, 0, none⟩ (.int .i64 d2.cap)).setCell ⟨w1.heap.size, 1, none⟩ (.int .i64 d2.opn)).setCell ⟨w1.heap.size, 2, none⟩ (.int .i64 d2.act)).setCell ⟨w1.heap.size, 3, none⟩ (.slice A3 d2.z.length k3) = w5 at hA ht ⊢
  have hD5 := (hD3.boxed hB3 (noB_d _ _ _ _ _ _) (by omega) ht).isD
  have hI5 := hI3.turned ht (fun b hb e => by omega)
  obtain ⟨ad, rfl, e0, _⟩ := IsL.ans_at hI5 (j := 0) rfl
  obtain ⟨_, h1, e1, _⟩ := IsL.ans_at hI5 (j := 1) rfl
  injection h1 with h1; subst h1
  obtain ⟨_, h1, e2, e3⟩ := IsL.ans_at hI5 (j := 2) rfl
  injection h1 with h1; subst h1
  have hb5 : Below w.heap.size w w5 := (hbW.trans (hb3.mono hbW.size)).trans (ht.below (fun b hb => by have := hb1.size; omega) (by have := hb3.size; have := hb1.size; omega))
  clear q3 f3 t3 hI3 hI5 hD3 hB3 ht hb3
  obtain ⟨q5, f5⟩ := hA.rules
  have t5 := hA.lt
  simp only [Nat.zero_mul, addr0, Nat.reduceMul] at e0 e1 e2 e3
  rw [addrS ad 3 (by decide)] at e1
  rw [addrS ad 6 (by decide)] at e2 e3
  have e4 : w5.cell? ⟨ad.block, ad.off + 7, none⟩ = some (.int .i64 0) := e3
  go_wp2_with fail
  refine (used_any d2 _ _ hD5).mono ?_
  rw [HU.out]
  rintro e w6 ⟨rfl, hb6⟩
  go_wp2
  go_ret
  exact ⟨rfl, hb5.trans (hb6.mono hb5.size)⟩
end Go.Proofs.Ytcjmcfjjbicimaa
