/- The walks of wire.TakeNums, TakeVec. -/
import Derived.Test.YtbjgemipmlimoaaReader
import Derived.Test.YtbjgemipmlimoaaRep
namespace Go.Proofs.Ytbjgemipmlimoaa
open Go.RowKit

/-- what TakeNums answers -/
def takeNumsL (l : List UInt8) (many : Int) : List Int × Int × Int :=
  if many < 0 then ([], 0, 1) else if (rnums l many.toNat [] (0, 0)).2.2 ≠ 0 then ([], 0, (rnums l many.toNat [] (0, 0)).2.2) else ((rnums l many.toNat [] (0, 0)).1, ((rnums l many.toNat [] (0, 0)).2.1 : Int), 0)
/-- what TakeVec answers -/
def takeVecL (l : List UInt8) : List UInt8 × Int × Int :=
  if (rvec l (0, 0)).2.2 ≠ 0 then ([], 0, (rvec l (0, 0)).2.2) else ((rvec l (0, 0)).1, ((rvec l (0, 0)).2.1 : Int), 0)

theorem isB_new {w : World} {K : Nat → Prop} {v : Value} {l : List UInt8} (h : IsB w K v l) (o : Obj) : IsB (w.alloc o) (fun b => b ≠ w.heap.size) v l := by
  have := h.lt
  exact (this.alloc o).more fun b hb => by omega

set_option maxRecDepth 100000 in
set_option maxHeartbeats 1000000 in
theorem takeNums_any (v : Value) (l : List UInt8) (many : Int) (K : Nat → Prop) (w : World) (hb : IsB w K v l) (hl : l.length ≤ 10000000000000) (hm : many ≤ 9223372036854775807) :
    Calls Try.prog 37 #[v, .int .i64 many] w fun e w' => ∃ A' c', e = .returned (.tuple #[.slice A' (takeNumsL l many).1.length c', .int .i64 (takeNumsL l many).2.1, .int .i64 (takeNumsL l many).2.2]) ∧
      w'.ownsRow w.heap.size 3 1 (.slice A' (takeNumsL l many).1.length c') (takeNumsL l many).1.length ((takeNumsL l many).1.map I64) ∧ Below w.heap.size w w' := by
  have hb0 := hb
  obtain ⟨A, c, rfl, hr, hlc, hcc, _⟩ := hb
  unfold takeNumsL
  by_cases hneg : many < 0
  · rw [if_pos hneg]
    go_enter Try.func37, Try.ntmps37
    go_wp2
    go_ret3
    exact ⟨none, 0, rfl, World.ownsRow_nil _ _ _ _, Below.refl _ _⟩
  · rw [if_neg hneg]
    obtain ⟨k, rfl⟩ : ∃ k : Nat, many = (k : Int) := ⟨many.toNat, by omega⟩
    rw [Int.toNat_natCast]
    have hB := Blk.new w 98 #[.slice A l.length c, .int .i64 0, .int .i64 0] rfl
    have hct := nums_any w.heap.size 0 c k A l (w.alloc (.cells #[.slice A l.length c, .int .i64 0, .int .i64 0] 98)) hB (isB_new hb0 _) (Nat.zero_le _) hl (by omega)
    obtain ⟨r, hr0⟩ : ∃ r, rnums l k [] (0, 0) = r := ⟨_, rfl⟩
    rw [hr0] at hct ⊢
    obtain ⟨ns, p', er⟩ := r
    simp only at hct ⊢
    have HC := Lib.hid hct; clear hct hr0
    have hb1 : Below w.heap.size w (w.alloc (.cells #[.slice A l.length c, .int .i64 0, .int .i64 0] 98)) := (Below.refl _ _).alloc (Nat.le_refl _) _
    by_cases her : er = 0
    · have hx : (er != 0) = false := by simpa using her
      rw [if_neg (by simpa using her)]
      subst her
      go_enter Try.func37, Try.ntmps37
      go_wp2_with fail
      refine HC.out.mono ?_
      rintro e w1 ⟨A1, c1, rfl, own1, hB1, hg1⟩
      obtain ⟨q1, f1⟩ := hB1.rules
      have t1 := hB1.lt
      go_wp2
      go_quiet (fail)
      go_wp2
      go_ret3
      exact ⟨A1, c1, rfl, own_base own1 (by simp), below_drewN (hb1.trans (below_grow hg1 (Nat.le_refl _) (by simp))) _⟩
    · have hx : (er != 0) = true := by simpa using her
      rw [if_pos (by simpa using her)]
      clear her
      go_enter Try.func37, Try.ntmps37
      go_wp2_with fail
      refine HC.out.mono ?_
      rintro e w1 ⟨A1, c1, rfl, own1, hB1, hg1⟩
      obtain ⟨q1, f1⟩ := hB1.rules
      have t1 := hB1.lt
      go_wp2
      go_quiet (fail)
      go_wp2
      go_ret3
      exact ⟨none, 0, rfl, World.ownsRow_nil _ _ _ _, below_drewN (hb1.trans (below_grow hg1 (Nat.le_refl _) (by simp))) _⟩

set_option maxRecDepth 100000 in
set_option maxHeartbeats 1000000 in
theorem takeVec_any (v : Value) (l : List UInt8) (K : Nat → Prop) (w : World) (hb : IsB w K v l) :
    Calls Try.prog 36 #[v] w fun e w' => ∃ A' c', e = .returned (.tuple #[.slice A' (takeVecL l).1.length c', .int .i64 (takeVecL l).2.1, .int .i64 (takeVecL l).2.2]) ∧
      w'.ownsRow w.heap.size 5 1 (.slice A' (takeVecL l).1.length c') (takeVecL l).1.length (cells8 (takeVecL l).1) ∧ Below w.heap.size w w' := by
  have hb0 := hb
  obtain ⟨A, c, rfl, hr, hlc, hcc, _⟩ := hb
  unfold takeVecL
  have hB := Blk.new w 98 #[.slice A l.length c, .int .i64 0, .int .i64 0] rfl
  have hct := vec_any w.heap.size 0 c A 0 l (w.alloc (.cells #[.slice A l.length c, .int .i64 0, .int .i64 0] 98)) hB (isB_new hb0 _) (Nat.zero_le _)
  obtain ⟨r, hr0⟩ : ∃ r, rvec l (0, 0) = r := ⟨_, rfl⟩
  rw [hr0] at hct ⊢
  obtain ⟨ns, p', er⟩ := r
  simp only at hct ⊢
  have HC := Lib.hid hct; clear hct hr0
  have hb1 : Below w.heap.size w (w.alloc (.cells #[.slice A l.length c, .int .i64 0, .int .i64 0] 98)) := (Below.refl _ _).alloc (Nat.le_refl _) _
  by_cases her : er = 0
  · have hx : (er != 0) = false := by simpa using her
    rw [if_neg (by simpa using her)]
    subst her
    go_enter Try.func36, Try.ntmps36
    go_wp2_with fail
    refine HC.out.mono ?_
    rintro e w1 ⟨A1, c1, rfl, own1, hB1, hg1⟩
    obtain ⟨q1, f1⟩ := hB1.rules
    have t1 := hB1.lt
    go_wp2
    go_quiet (fail)
    go_wp2
    go_ret3
    exact ⟨A1, c1, rfl, own_base own1 (by simp), below_drewN (hb1.trans (below_grow hg1 (Nat.le_refl _) (by simp))) _⟩
  · have hx : (er != 0) = true := by simpa using her
    rw [if_pos (by simpa using her)]
    clear her
    go_enter Try.func36, Try.ntmps36
    go_wp2_with fail
    refine HC.out.mono ?_
    rintro e w1 ⟨A1, c1, rfl, own1, hB1, hg1⟩
    obtain ⟨q1, f1⟩ := hB1.rules
    have t1 := hB1.lt
    go_wp2
    go_quiet (fail)
    go_wp2
    go_ret3
    exact ⟨none, 0, rfl, World.ownsRow_nil _ _ _ _, below_drewN (hb1.trans (below_grow hg1 (Nat.le_refl _) (by simp))) _⟩
end Go.Proofs.Ytbjgemipmlimoaa
