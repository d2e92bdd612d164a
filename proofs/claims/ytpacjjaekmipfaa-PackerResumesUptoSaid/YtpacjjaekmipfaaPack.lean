/- The walks of packer.Room, Begin. -/
import Derived.Test.YtpacjjaekmipfaaPackPlain
import Derived.Test.YtpacjjaekmipfaaSegBody
import Derived.Test.YtpacjjaekmipfaaRep
import Derived.Test.YtpacjjaekmipfaaSlR
import Derived.Laws.CopyOwn
namespace Go.Proofs.Ytpacjjaekmipfaa
open Go.RowKit

def pkV (p : Pk) (vb vl : Value) : Value := .agg #[.int .i64 p.h.host, .int .i64 p.h.epoch, .int .i64 p.h.seq, .int .i64 p.zone, .int .i64 p.cap, .int .i64 p.at_, vb, vl]
/-- v is the pack p -/
def IsPk (w : World) (K : Nat → Prop) (v : Value) (p : Pk) : Prop := ∃ vb vl, v = pkV p vb vl ∧ IsB w K vb p.buf ∧ IsL Rp.rc w K vl p.l
/-- numbers within reach of sums -/
def OkPk (p : Pk) : Prop := OkHd p.h ∧ (-9223372036854775808 ≤ p.zone ∧ p.zone ≤ 9223372036854775807) ∧ (0 ≤ p.cap ∧ p.cap ≤ 1099511627776) ∧ (0 ≤ p.at_ ∧ p.at_ ≤ 1099511627776) ∧ p.buf.length ≤ 1099511627776 ∧ p.l.length ≤ 1000000000000

set_option maxRecDepth 100000 in
set_option maxHeartbeats 1600000 in
theorem room_any (v : Value) (p : Pk) (K : Nat → Prop) (w : World) (hv : IsPk w K v p) (hp : OkPk p) :
    Calls Try.prog 15 #[v] w fun e w' => e = .returned (.int .i64 (roomL p)) ∧ Below w.heap.size w w' := by
  obtain ⟨vb, vl, rfl, hb, hl⟩ := hv
  obtain ⟨_, _, hcap, hat, hbl, _⟩ := hp
  obtain ⟨A, c, rfl, _⟩ := hb
  unfold pkV roomL
  go_enter Try.func15, Try.ntmps15
  go_wp2
  go_ret
  exact ⟨rfl, (Below.refl _ _).alloc (Nat.le_refl _) _⟩

set_option maxRecDepth 100000 in
set_option maxHeartbeats 1600000 in
theorem good_any (zone most : Int) (w : World) :
    Calls Try.prog 29 #[.int .i64 zone, .int .i64 most] w fun e w' => e = .returned (.bool (decide (0 ≤ zone ∧ 1 ≤ most ∧ most ≤ 65536))) ∧ w' = w := by
  by_cases h1 : 0 ≤ zone
  · by_cases h2 : 1 ≤ most
    · by_cases h3 : most ≤ 65536
      · rw [show decide (0 ≤ zone ∧ 1 ≤ most ∧ most ≤ 65536) = true by simp; omega]
        go_enter Try.func29, Try.ntmps29
        go_wp2
        go_ret
        exact ⟨rfl, rfl⟩
      · rw [show decide (0 ≤ zone ∧ 1 ≤ most ∧ most ≤ 65536) = false by simp; omega]
        go_enter Try.func29, Try.ntmps29
        go_wp2
        go_ret
        exact ⟨rfl, rfl⟩
    · rw [show decide (0 ≤ zone ∧ 1 ≤ most ∧ most ≤ 65536) = false by simp; omega]
      go_enter Try.func29, Try.ntmps29
      go_wp2
      go_ret
      exact ⟨rfl, rfl⟩
  · rw [show decide (0 ≤ zone ∧ 1 ≤ most ∧ most ≤ 65536) = false by simp; omega]
    go_enter Try.func29, Try.ntmps29
    go_wp2
    go_ret
    exact ⟨rfl, rfl⟩

/-- eight cells stored in a block -/
def st8 (w : World) (a : Nat) (x0 x1 x2 x3 x4 x5 x6 x7 : Value) : World := (((((((w.setCell ⟨a, 0, none⟩ x0).setCell ⟨a, 1, none⟩ x1).setCell ⟨a, 2, none⟩ x2).setCell ⟨a, 3, none⟩ x3).setCell ⟨a, 4, none⟩ x4).setCell ⟨a, 5, none⟩ x5).setCell ⟨a, 6, none⟩ x6).setCell ⟨a, 7, none⟩ x7
theorem b8_0 {w : World} {a : Nat} {ta : TypeId} {u0 u1 u2 u3 u4 u5 u6 u7 : Value} (h : Blk w a ta #[u0, u1, u2, u3, u4, u5, u6, u7]) (x : Value) : Blk (w.setCell ⟨a, 0, none⟩ x) a ta #[x, u1, u2, u3, u4, u5, u6, u7] := h.set_ 0 x
theorem b8_1 {w : World} {a : Nat} {ta : TypeId} {u0 u1 u2 u3 u4 u5 u6 u7 : Value} (h : Blk w a ta #[u0, u1, u2, u3, u4, u5, u6, u7]) (x : Value) : Blk (w.setCell ⟨a, 1, none⟩ x) a ta #[u0, x, u2, u3, u4, u5, u6, u7] := h.set_ 1 x
theorem b8_2 {w : World} {a : Nat} {ta : TypeId} {u0 u1 u2 u3 u4 u5 u6 u7 : Value} (h : Blk w a ta #[u0, u1, u2, u3, u4, u5, u6, u7]) (x : Value) : Blk (w.setCell ⟨a, 2, none⟩ x) a ta #[u0, u1, x, u3, u4, u5, u6, u7] := h.set_ 2 x
theorem b8_3 {w : World} {a : Nat} {ta : TypeId} {u0 u1 u2 u3 u4 u5 u6 u7 : Value} (h : Blk w a ta #[u0, u1, u2, u3, u4, u5, u6, u7]) (x : Value) : Blk (w.setCell ⟨a, 3, none⟩ x) a ta #[u0, u1, u2, x, u4, u5, u6, u7] := h.set_ 3 x
theorem b8_4 {w : World} {a : Nat} {ta : TypeId} {u0 u1 u2 u3 u4 u5 u6 u7 : Value} (h : Blk w a ta #[u0, u1, u2, u3, u4, u5, u6, u7]) (x : Value) : Blk (w.setCell ⟨a, 4, none⟩ x) a ta #[u0, u1, u2, u3, x, u5, u6, u7] := h.set_ 4 x
theorem b8_5 {w : World} {a : Nat} {ta : TypeId} {u0 u1 u2 u3 u4 u5 u6 u7 : Value} (h : Blk w a ta #[u0, u1, u2, u3, u4, u5, u6, u7]) (x : Value) : Blk (w.setCell ⟨a, 5, none⟩ x) a ta #[u0, u1, u2, u3, u4, x, u6, u7] := h.set_ 5 x
theorem b8_6 {w : World} {a : Nat} {ta : TypeId} {u0 u1 u2 u3 u4 u5 u6 u7 : Value} (h : Blk w a ta #[u0, u1, u2, u3, u4, u5, u6, u7]) (x : Value) : Blk (w.setCell ⟨a, 6, none⟩ x) a ta #[u0, u1, u2, u3, u4, u5, x, u7] := h.set_ 6 x
theorem b8_7 {w : World} {a : Nat} {ta : TypeId} {u0 u1 u2 u3 u4 u5 u6 u7 : Value} (h : Blk w a ta #[u0, u1, u2, u3, u4, u5, u6, u7]) (x : Value) : Blk (w.setCell ⟨a, 7, none⟩ x) a ta #[u0, u1, u2, u3, u4, u5, u6, x] := h.set_ 7 x
theorem st8_all {w : World} {a : Nat} {ta : TypeId} {u0 u1 u2 u3 u4 u5 u6 u7 : Value} (hA : Blk w a ta #[u0, u1, u2, u3, u4, u5, u6, u7]) (x0 x1 x2 x3 x4 x5 x6 x7 : Value) :
    Blk (st8 w a x0 x1 x2 x3 x4 x5 x6 x7) a ta #[x0, x1, x2, x3, x4, x5, x6, x7] ∧ Turned w (st8 w a x0 x1 x2 x3 x4 x5 x6 x7) (fun k => k = a) := by
  unfold st8
  exact ⟨(b8_7 (b8_6 (b8_5 (b8_4 (b8_3 (b8_2 (b8_1 (b8_0 hA x0) x1) x2) x3) x4) x5) x6) x7), (((((((((Turned.refl w (fun k => k = a)).set (g := a) rfl 0 x0).set (g := a) rfl 1 x1).set (g := a) rfl 2 x2).set (g := a) rfl 3 x3).set (g := a) rfl 4 x4).set (g := a) rfl 5 x5).set (g := a) rfl 6 x6).set (g := a) rfl 7 x7)⟩
theorem below_turned {w w' w'' : World} {B a : Nat} (h : Below B w w') (ht : Turned w' w'' (fun k => k = a)) (ha : B ≤ a) (hB : B ≤ w'.heap.size) : Below B w w'' :=
  h.trans ⟨ht.os, ht.tape, ht.output, ht.size, fun k hk => ht.block k (by omega) (by omega)⟩

set_option maxRecDepth 100000 in
set_option maxHeartbeats 1600000 in
theorem pbegin_any (h : Hd) (zone most : Int) (w : World) (hh : OkHd h) :
    Calls Try.prog 12 #[hdV h, .int .i64 zone, .int .i64 most] w fun e w' => ∃ A c, e = .returned (.tuple #[pkV (beginL h zone most).1 (.slice A (beginL h zone most).1.buf.length c) (.slice none 0 0), .int .i64 (beginL h zone most).2]) ∧
      w'.ownsRow w.heap.size 5 1 (.slice A (beginL h zone most).1.buf.length c) (beginL h zone most).1.buf.length (cells8 (beginL h zone most).1.buf) ∧ Below w.heap.size w w' := by
  have hc := fun W => head_any h W hh
  unfold hdV pkV beginL at *
  obtain ⟨hb, hhb⟩ : ∃ hb, headL h = hb := ⟨_, rfl⟩
  rw [hhb] at hc ⊢
  clear hhb
  obtain ⟨hb, he⟩ := hb
  simp only at hc ⊢
  have E := ((Kn.start w).push 23 #[.int .i64 h.host, .int .i64 h.epoch, .int .i64 h.seq]).push 29 #[.int .i64 0, .int .i64 0, .int .i64 0, .int .i64 0, .int .i64 0, .int .i64 0, .slice none 0 0, .slice none 0 0]
  rw [World.size_alloc] at E
  by_cases h1 : he = 0
  · subst h1
    rw [if_neg (by simp)]
    by_cases h2 : 0 ≤ zone ∧ 1 ≤ most ∧ most ≤ 65536
    · rw [if_neg (fun h => h h2)]
      have h2' : decide (0 ≤ zone ∧ 1 ≤ most ∧ most ≤ 65536) = true := decide_eq_true h2
      by_cases h3 : most < (hb.length : Int)
      · rw [if_pos h3]
        go_enter Try.func12, Try.ntmps12
        go_wp2_with fail
        refine (hc _).mono ?_
        rintro e w1 ⟨A1, c1, rfl, own1, hb1⟩
        replace E := E.step hb1
        obtain ⟨q1, f1, t1⟩ := E.rules m0
        go_wp2_with fail
        refine (good_any zone most _).mono ?_
        rintro e w2 ⟨rfl, rfl⟩
        rw [h2']
        clear h2'
        go_wp2_with fail
        have h8 := st8_all (E.at_ m0) (.int .i64 0) (.int .i64 0) (.int .i64 0) (.int .i64 0) (.int .i64 0) (.int .i64 0) (.slice none 0 0) (.slice none 0 0)
        obtain ⟨w9, hw9⟩ : ∃ w9, st8 w2 (w.heap.size + 1) (.int .i64 0) (.int .i64 0) (.int .i64 0) (.int .i64 0) (.int .i64 0) (.int .i64 0) (.slice none 0 0) (.slice none 0 0) = w9 := ⟨_, rfl⟩
        rw [hw9] at h8
        unfold st8 at hw9
        rw [hw9]
        have hb2 := below_turned E.below h8.2 (by omega) E.below.size
        obtain ⟨q9, f9⟩ := h8.1.rules
        refine bodyPost_ret (v := .tuple #[.agg #[.int .i64 0, .int .i64 0, .int .i64 0, .int .i64 0, .int .i64 0, .int .i64 0, .slice none 0 0, .slice none 0 0], .int .i64 40]) (by simp [results, Try.results12, go_sem, q9]) rfl ⟨none, 0, rfl, World.ownsRow_nil _ _ _ _, hb2⟩
      · rw [if_neg h3]
        go_enter Try.func12, Try.ntmps12
        go_wp2_with fail
        refine (hc _).mono ?_
        rintro e w1 ⟨A1, c1, rfl, own1, hb1⟩
        replace E := E.step hb1
        obtain ⟨q1, f1, t1⟩ := E.rules m0
        go_wp2_with fail
        refine (good_any zone most _).mono ?_
        rintro e w2 ⟨rfl, rfl⟩
        rw [h2']
        clear h2'
        obtain ⟨q2, f2, t2⟩ := E.rules m1
        go_wp2_with fail
        have h8 := st8_all (E.at_ m0) (.int .i64 h.host) (.int .i64 h.epoch) (.int .i64 h.seq) (.int .i64 zone) (.int .i64 most) (.int .i64 0) (.slice A1 hb.length c1) (.slice none 0 0)
        obtain ⟨w9, hw9⟩ : ∃ w9, st8 w2 (w.heap.size + 1) (.int .i64 h.host) (.int .i64 h.epoch) (.int .i64 h.seq) (.int .i64 zone) (.int .i64 most) (.int .i64 0) (.slice A1 hb.length c1) (.slice none 0 0) = w9 := ⟨_, rfl⟩
        rw [hw9] at h8
        unfold st8 at hw9
        rw [hw9]
        have hb2 := below_turned E.below h8.2 (by omega) E.below.size
        obtain ⟨q9, f9⟩ := h8.1.rules
        refine bodyPost_ret (v := .tuple #[.agg #[.int .i64 h.host, .int .i64 h.epoch, .int .i64 h.seq, .int .i64 zone, .int .i64 most, .int .i64 0, .slice A1 hb.length c1, .slice none 0 0], .int .i64 0]) (by simp [results, Try.results12, go_sem, q9]) rfl ⟨A1, c1, rfl, ?_, hb2⟩
        exact own_base (own_turned own1 h8.2 (by simp)) (by simp; omega)
    · rw [if_pos h2]
      have h2' : decide (0 ≤ zone ∧ 1 ≤ most ∧ most ≤ 65536) = false := decide_eq_false h2
      go_enter Try.func12, Try.ntmps12
      go_wp2_with fail
      refine (hc _).mono ?_
      rintro e w1 ⟨A1, c1, rfl, own1, hb1⟩
      replace E := E.step hb1
      obtain ⟨q1, f1, t1⟩ := E.rules m0
      go_wp2_with fail
      refine (good_any zone most _).mono ?_
      rintro e w2 ⟨rfl, rfl⟩
      rw [h2']
      clear h2'
      go_wp2_with fail
      have h8 := st8_all (E.at_ m0) (.int .i64 0) (.int .i64 0) (.int .i64 0) (.int .i64 0) (.int .i64 0) (.int .i64 0) (.slice none 0 0) (.slice none 0 0)
      obtain ⟨w9, hw9⟩ : ∃ w9, st8 w2 (w.heap.size + 1) (.int .i64 0) (.int .i64 0) (.int .i64 0) (.int .i64 0) (.int .i64 0) (.int .i64 0) (.slice none 0 0) (.slice none 0 0) = w9 := ⟨_, rfl⟩
      rw [hw9] at h8
      unfold st8 at hw9
      rw [hw9]
      have hb2 := below_turned E.below h8.2 (by omega) E.below.size
      obtain ⟨q9, f9⟩ := h8.1.rules
      refine bodyPost_ret (v := .tuple #[.agg #[.int .i64 0, .int .i64 0, .int .i64 0, .int .i64 0, .int .i64 0, .int .i64 0, .slice none 0 0, .slice none 0 0], .int .i64 1]) (by simp [results, Try.results12, go_sem, q9]) rfl ⟨none, 0, rfl, World.ownsRow_nil _ _ _ _, hb2⟩
  · rw [if_pos h1]
    have h1' : ((he : Int) != 0) = true := by simp [h1]
    clear h1
    go_enter Try.func12, Try.ntmps12
    go_wp2_with fail
    refine (hc _).mono ?_
    rintro e w1 ⟨A1, c1, rfl, own1, hb1⟩
    replace E := E.step hb1
    obtain ⟨q1, f1, t1⟩ := E.rules m0
    go_wp2_with fail
    have h8 := st8_all (E.at_ m0) (.int .i64 0) (.int .i64 0) (.int .i64 0) (.int .i64 0) (.int .i64 0) (.int .i64 0) (.slice none 0 0) (.slice none 0 0)
    obtain ⟨w9, hw9⟩ : ∃ w9, st8 w1 (w.heap.size + 1) (.int .i64 0) (.int .i64 0) (.int .i64 0) (.int .i64 0) (.int .i64 0) (.int .i64 0) (.slice none 0 0) (.slice none 0 0) = w9 := ⟨_, rfl⟩
    rw [hw9] at h8
    unfold st8 at hw9
    rw [hw9]
    have hb2 := below_turned E.below h8.2 (by omega) E.below.size
    obtain ⟨q9, f9⟩ := h8.1.rules
    refine bodyPost_ret (v := .tuple #[.agg #[.int .i64 0, .int .i64 0, .int .i64 0, .int .i64 0, .int .i64 0, .int .i64 0, .slice none 0 0, .slice none 0 0], .int .i64 he]) (by simp [results, Try.results12, go_sem, q9]) rfl ⟨none, 0, rfl, World.ownsRow_nil _ _ _ _, hb2⟩
end Go.Proofs.Ytpacjjaekmipfaa
