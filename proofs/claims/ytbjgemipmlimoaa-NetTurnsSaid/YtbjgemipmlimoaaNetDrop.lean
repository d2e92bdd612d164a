/- The walk of net.Drop. -/
import Derived.Test.YtbjgemipmlimoaaNetTake
namespace Go.Proofs.Ytbjgemipmlimoaa
open Go.RowKit

set_option maxRecDepth 100000 in
set_option maxHeartbeats 8000000 in
theorem dropN_ok (v : Value) (n : Nt) (k : Nat) (m : Ms) (K : Nat → Prop) (w : World) (hv : IsN w K v n) (hm : n.q[k]? = some m) (hnl : ArgsLe n.q) (hn8 : n.q.length ≤ 200000000000) :
    Calls Try.prog 30 #[v, .int .i64 k] w fun e w' => ∃ A' c', e = .returned (.tuple #[.agg #[.int .i64 n.cap, .slice A' (n.q.take k ++ n.q.drop (k + 1)).length c'], .int .i64 0]) ∧
      OwnR Rp.msg w' w.heap.size 45 (fun b => w.heap.size ≤ b) (.slice A' (n.q.take k ++ n.q.drop (k + 1)).length c') (n.q.take k ++ n.q.drop (k + 1)) ∧ Below w.heap.size w w' := by
  obtain ⟨q', hq'⟩ : ∃ q', n.q.take k ++ n.q.drop (k + 1) = q' := ⟨_, rfl⟩
  rw [hq']
  have HQ' := Lib.hid hq'; clear hq'
  obtain ⟨A, c, rfl, hnq⟩ := hv
  have E := (((Kn.start w).give Stable.list hnq).push 38 #[.int .i64 n.cap, .slice A n.q.length c]).push 38 #[.int .i64 0, .slice none 0 0]
  rw [World.size_alloc] at E
  clear hnq
  go_enter Try.func30, Try.ntmps30
  go_wp2_with fail
  refine (takeN_ok _ n k m K _ ⟨_, _, rfl, E.get m0⟩ hm hnl hn8).mono ?_
  rw [HQ'.out]
  rintro e w1 ⟨A1, c1, vm, rfl, own1, him, hb1⟩
  obtain ⟨A5, c5, A6, c6, rfl, hrp⟩ := isM_rp him.lt
  unfold mv
  replace E := E.step hb1
  have B4 := E.at_ m0
  have own2 := (own1.lower (base' := w.heap.size) (by simp; omega)).more (X' := fun b => w.heap.size + 1 < b) (fun b hb hlt => by simp at hb; omega)
  clear own1 him hrp hb1
  have hbA : Below w1.heap.size w1 ((w1.alloc (.cells #[.int .i64 n.cap, .slice A1 q'.length c1] 38)).alloc (.cells #[.int .i64 m.kind, .int .i64 m.frm, .int .i64 m.to, .int .i64 m.id, .slice A5 m.args.length c5, .slice A6 m.data.length c6] 45)) := ((Below.refl _ _).alloc (Nat.le_refl _) _).alloc (by simp) _
  replace own2 := own2.step hbA
  replace B4 := B4.step hbA
  obtain ⟨q4, f4⟩ := B4.rules
  have t4 := (E.at_ m0).lt
  have hW := E.below.trans (hbA.mono E.below.size)
  go_wp2
  have F := ((B4.set_ 0 (.int .i64 n.cap)).set_ 1 (.slice A1 q'.length c1)).rules
  clear q4 f4
  refine bodyPost_ret (v := .tuple #[.agg #[.int .i64 n.cap, .slice A1 q'.length c1], .int .i64 0]) (by simp [results, Try.results30, go_sem, F.1]) rfl ⟨A1, c1, rfl, ?_, ?_⟩
  · exact ((own2.far B4 (by decide) (by omega) 0 _).far (B4.set_ 0 _) (by decide) (by omega) 1 _).more (fun b hb _ => by omega)
  · exact (hW.setCell (by show w.heap.size ≤ w.heap.size + 1; omega) _).setCell (by show w.heap.size ≤ w.heap.size + 1; omega) _

set_option maxRecDepth 100000 in
set_option maxHeartbeats 8000000 in
theorem dropN_no (v : Value) (n : Nt) (i : Int) (K : Nat → Prop) (w : World) (hv : IsN w K v n) (hno : ¬ (0 ≤ i ∧ i < (n.q.length : Int))) :
    Calls Try.prog 30 #[v, .int .i64 i] w fun e w' => e = .returned (.tuple #[.agg #[.int .i64 0, .slice none 0 0], .int .i64 4]) ∧ Below w.heap.size w w' := by
  obtain ⟨A, c, rfl, hnq⟩ := hv
  have E := (((Kn.start w).give Stable.list hnq).push 38 #[.int .i64 n.cap, .slice A n.q.length c]).push 38 #[.int .i64 0, .slice none 0 0]
  rw [World.size_alloc] at E
  clear hnq
  go_enter Try.func30, Try.ntmps30
  go_wp2_with fail
  refine (takeN_no _ n i K _ ⟨_, _, rfl, E.get m0⟩ hno).mono ?_
  rintro e w1 ⟨rfl, hb1⟩
  replace E := E.step hb1
  have B4 := E.at_ m0
  clear hb1
  obtain ⟨q4, f4⟩ := (B4.alloc (.cells #[.int .i64 0, .slice none 0 0] 38)).alloc (.cells #[.int .i64 0, .int .i64 0, .int .i64 0, .int .i64 0, .slice none 0 0, .slice none 0 0] 45) |>.rules
  have t4 := B4.lt
  have s1 := E.below.size
  have hW := (E.below.alloc s1 (.cells #[.int .i64 0, .slice none 0 0] 38)).alloc (Nat.le_trans s1 (by simp)) (.cells #[.int .i64 0, .int .i64 0, .int .i64 0, .int .i64 0, .slice none 0 0, .slice none 0 0] 45)
  go_wp2
  have F := ((((B4.alloc (.cells #[.int .i64 0, .slice none 0 0] 38)).alloc (.cells #[.int .i64 0, .int .i64 0, .int .i64 0, .int .i64 0, .slice none 0 0, .slice none 0 0] 45)).set_ 0 (.int .i64 0)).set_ 1 (.slice none 0 0)).rules
  clear q4 f4
  refine bodyPost_ret (v := .tuple #[.agg #[.int .i64 0, .slice none 0 0], .int .i64 4]) (by simp [results, Try.results30, go_sem, F.1]) rfl ⟨rfl, ?_⟩
  exact (hW.setCell (by show w.heap.size ≤ w.heap.size + 1; omega) _).setCell (by show w.heap.size ≤ w.heap.size + 1; omega) _
end Go.Proofs.Ytbjgemipmlimoaa
