/- The walks of packer.Resume (that goes on), packer.Flush of a pack without bytes. -/
import Derived.Test.YtpacjjaekmipfaaPackFlush
import Derived.Test.YtpacjjaekmipfaaSegBody
import Derived.Deep.DeepCutAuto
namespace Go.Proofs.Ytpacjjaekmipfaa
open Go.RowKit

set_option maxRecDepth 100000 in
set_option maxHeartbeats 2000000 in
theorem resume_any (h : Hd) (n : Nat) (vl va : Value) (w : World) (hn : n ≤ 60000) :
    Calls Try.prog 28 #[.agg #[.bool true, .int .i64 h.host, .int .i64 h.epoch, .int .i64 h.seq, vl, va, .int .i64 n], .int .i64 4, .int .i64 60000, .int .i64 n] w fun e w' =>
      e = .returned (.tuple #[pkV ⟨h, 4, 60000, n, [], []⟩ (.slice none 0 0) (.slice none 0 0), .int .i64 0]) ∧ Below w.heap.size w w' := by
  unfold pkV
  have E := ((Kn.start w).push 51 #[.bool true, .int .i64 h.host, .int .i64 h.epoch, .int .i64 h.seq, vl, va, .int .i64 n]).push 29 #[.int .i64 0, .int .i64 0, .int .i64 0, .int .i64 0, .int .i64 0, .int .i64 0, .slice none 0 0, .slice none 0 0]
  simp only [World.size_alloc] at E
  have d1 : ¬ (n : Int) < (n : Int) := by omega
  have d2 : ¬ (60000 : Int) < (n : Int) := by omega
  go_enter Try.func28, Try.ntmps28
  go_upto_region 1 with fail
  obtain ⟨w1, hw1⟩ : ∃ w1, (w.alloc (.cells #[.bool true, .int .i64 h.host, .int .i64 h.epoch, .int .i64 h.seq, vl, va, .int .i64 n] 51)).alloc (.cells #[.int .i64 0, .int .i64 0, .int .i64 0, .int .i64 0, .int .i64 0, .int .i64 0, .slice none 0 0, .slice none 0 0] 29) = w1 := ⟨_, rfl⟩
  rw [hw1] at E ⊢
  clear hw1
  obtain ⟨q1, f1, t1⟩ := E.rules m1
  obtain ⟨q0, f0, t0⟩ := E.rules m0
  go_wp2_with fail
  refine (good_any 4 60000 _).mono ?_
  rintro e w2 ⟨rfl, rfl⟩
  have h2' : decide ((0 : Int) ≤ 4 ∧ (1 : Int) ≤ 60000 ∧ (60000 : Int) ≤ 65536) = true := by decide
  rw [h2']
  clear h2'
  go_wp2_with fail
  have h8 := st8_all (E.at_ m0) (.int .i64 h.host) (.int .i64 h.epoch) (.int .i64 h.seq) (.int .i64 4) (.int .i64 60000) (.int .i64 n) (.slice none 0 0) (.slice none 0 0)
  obtain ⟨w9, hw9⟩ : ∃ w9, st8 w2 (w.heap.size + 1) (.int .i64 h.host) (.int .i64 h.epoch) (.int .i64 h.seq) (.int .i64 4) (.int .i64 60000) (.int .i64 n) (.slice none 0 0) (.slice none 0 0) = w9 := ⟨_, rfl⟩
  rw [hw9] at h8
  unfold st8 at hw9
  rw [hw9]
  have hb2 := below_turned E.below h8.2 (by omega) E.below.size
  obtain ⟨q9, f9⟩ := h8.1.rules
  exact bodyPost_ret (v := .tuple #[.agg #[.int .i64 h.host, .int .i64 h.epoch, .int .i64 h.seq, .int .i64 4, .int .i64 60000, .int .i64 n, .slice none 0 0, .slice none 0 0], .int .i64 0]) (by simp [results, Try.results28, go_sem, q9]) rfl ⟨rfl, hb2⟩

set_option maxRecDepth 100000 in
set_option maxHeartbeats 4000000 in
theorem flush_none (v : Value) (p : Pk) (K : Nat → Prop) (w : World) (hv : IsPk w K v p) (hK : ∀ b, K b → b < w.heap.size) (hp : OkPk p) (hne : p.buf = []) :
    Calls Try.prog 17 #[v] w fun e w' => ∃ A c A' c', e = .returned (.tuple #[cmdV 0 0 0 (.slice none 0 0), pkV p (.slice A p.buf.length c) (.slice A' p.l.length c'), .bool false]) ∧ Below w.heap.size w w' := by
  obtain ⟨vb, vl, rfl, hb, hl⟩ := hv
  obtain ⟨_, _, hcap, hat, hbl, hll⟩ := hp
  have hb0 := hb
  have hl0 := hl
  obtain ⟨A, c, rfl, hbr, hbc, hbc2, _⟩ := hb
  obtain ⟨A2, c2, rfl, hlc, hlc2⟩ := hl.form
  have hn0 : p.buf.length = 0 := by rw [hne]; rfl
  have E := (((((Kn.start w).give Stable.bytes hb0).give Stable.list hl0).push 29 #[.int .i64 p.h.host, .int .i64 p.h.epoch, .int .i64 p.h.seq, .int .i64 p.zone, .int .i64 p.cap, .int .i64 p.at_, .slice A p.buf.length c, .slice A2 p.l.length c2]).push 44 #[.int .i64 0, .int .i64 0, .int .i64 0, .int .i64 0, .int .i64 0, .slice none 0 0]).push 29 #[.int .i64 0, .int .i64 0, .int .i64 0, .int .i64 0, .int .i64 0, .int .i64 0, .slice none 0 0, .slice none 0 0]
  simp only [World.size_alloc] at E
  have hcp := fun W (h1 : IsPk W K (pkV p (.slice A p.buf.length c) (.slice A2 p.l.length c2)) p) h2 => copied15_any _ p K W h1 h2 (by omega) hll
  unfold pkV cmdV at *
  obtain ⟨n, hn⟩ : ∃ n, p.l.length = n := ⟨_, rfl⟩
  rw [hn0, hn] at E hcp ⊢
  clear hbr hb0 hl0 hl hlc hn0 hbl hll
  go_enter Try.func17, Try.ntmps17
  go_upto_region 1 with fail
  obtain ⟨w2, hw2⟩ : ∃ w2, ((w.alloc (.cells #[.int .i64 p.h.host, .int .i64 p.h.epoch, .int .i64 p.h.seq, .int .i64 p.zone, .int .i64 p.cap, .int .i64 p.at_, .slice A 0 c, .slice A2 n c2] 29)).alloc (.cells #[.int .i64 0, .int .i64 0, .int .i64 0, .int .i64 0, .int .i64 0, .slice none 0 0] 44)).alloc (.cells #[.int .i64 0, .int .i64 0, .int .i64 0, .int .i64 0, .int .i64 0, .int .i64 0, .slice none 0 0, .slice none 0 0] 29) = w2 := ⟨_, rfl⟩
  rw [hw2] at E ⊢
  clear hw2
  obtain ⟨q2, f2, t2⟩ := E.rules m2
  go_wp2_with fail
  refine (hcp _ ⟨_, _, rfl, E.get m1, E.get m0⟩ (fun b hb => by have := hK b hb; have := E.base; omega)).mono ?_
  rintro e w3 ⟨A3, c3, A4, c4, rfl, _, _, hb3⟩
  replace E := E.step hb3
  obtain ⟨q1, f1, t1⟩ := E.rules m1
  obtain ⟨q0, f0, t0⟩ := E.rules m0
  have hbE := E.below
  obtain ⟨hB6, hT6⟩ := b6_all (E.at_ m1) (.int .i64 0) (.int .i64 0) (.int .i64 0) (.int .i64 0) (.int .i64 0) (.slice none 0 0)
  obtain ⟨hB8, hT8⟩ := st8_all ((E.at_ m0).turned hT6 (by omega)) (.int .i64 p.h.host) (.int .i64 p.h.epoch) (.int .i64 p.h.seq) (.int .i64 p.zone) (.int .i64 p.cap) (.int .i64 p.at_) (.slice A3 0 c3) (.slice A4 n c4)
  unfold st8 at hB8 hT8
  have hB6' := hB6.turned hT8 (by omega)
  have hbe := below_turned (below_turned hbE hT6 (by omega) (by omega)) hT8 (by omega) (by have := hT6.size; omega)
  go_wp2_with fail
  generalize ((((((((((((((w3.setCell ⟨w.heap.size + 1, 0, none⟩ (.int .i64 0)).setCell ⟨w.heap.size + 1, 1, none⟩ (.int .i64 0)).setCell ⟨w.heap.size + 1, 2, none⟩ (.int .i64 0)).setCell ⟨w.heap.size + 1, 3, none⟩ (.int .i64 0)).setCell ⟨w.heap.size + 1, 4, none⟩ (.int .i64 0)).setCell ⟨w.heap.size + 1, 5, none⟩ (.slice none 0 0)).setCell ⟨w.heap.size + 1 + 1, 0, none⟩ (.int .i64 p.h.host)).setCell ⟨w.heap.size + 1 + 1, 1, none⟩ (.int .i64 p.h.epoch)).setCell ⟨w.heap.size + 1 + 1, 2, none⟩ (.int .i64 p.h.seq)).setCell ⟨w.heap.size + 1 + 1, 3, none⟩ (.int .i64 p.zone)).setCell ⟨w.heap.size + 1 + 1, 4, none⟩ (.int .i64 p.cap)).setCell ⟨w.heap.size + 1 + 1, 5, none⟩ (.int .i64 p.at_)).setCell ⟨w.heap.size + 1 + 1, 6, none⟩ (.slice A3 0 c3)).setCell ⟨w.heap.size + 1 + 1, 7, none⟩ (.slice A4 n c4)) = w9 at hB6' hB8 hbe ⊢
  obtain ⟨q8, f8⟩ := hB6'.rules
  obtain ⟨q9, f9⟩ := hB8.rules
  exact bodyPost_ret (v := .tuple #[.agg #[.int .i64 0, .int .i64 0, .int .i64 0, .int .i64 0, .int .i64 0, .slice none 0 0], .agg #[.int .i64 p.h.host, .int .i64 p.h.epoch, .int .i64 p.h.seq, .int .i64 p.zone, .int .i64 p.cap, .int .i64 p.at_, .slice A3 0 c3, .slice A4 n c4], .bool false]) (by simp [results, Try.results17, go_sem, q8, q9]) rfl ⟨A3, c3, A4, c4, rfl, hbe⟩
end Go.Proofs.Ytpacjjaekmipfaa
