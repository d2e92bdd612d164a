/- The walks of quicksetref13.Drop, Later: printed by gen/refacts.py from those of net. -/
import Derived.Test.YtbjgemipmlimoaaRefTakeN
namespace Go.Proofs.Ytbjgemipmlimoaa
open Go.RowKit

set_option maxRecDepth 100000 in
set_option maxHeartbeats 8000000 in
theorem rdropN_ok (v : Value) (n : Nt) (k : Nat) (m : Ms) (K : Nat → Prop) (w : World) (hv : IsN w K v n) (hm : n.q[k]? = some m) (hnl : ArgsLe n.q) (hn8 : n.q.length ≤ 200000000000) :
    Calls Try.prog 75 #[v, .int .i64 k] w fun e w' => ∃ A' c', e = .returned (.tuple #[.agg #[.int .i64 n.cap, .slice A' (n.q.take k ++ n.q.drop (k + 1)).length c'], .int .i64 0]) ∧
      OwnR Rp.msg w' w.heap.size 45 (fun b => w.heap.size ≤ b) (.slice A' (n.q.take k ++ n.q.drop (k + 1)).length c') (n.q.take k ++ n.q.drop (k + 1)) ∧ Below w.heap.size w w' := by
  obtain ⟨q', hq'⟩ : ∃ q', n.q.take k ++ n.q.drop (k + 1) = q' := ⟨_, rfl⟩
  rw [hq']
  have HQ' := Lib.hid hq'; clear hq'
  obtain ⟨A, c, rfl, hnq⟩ := hv
  have E := (((Kn.start w).give Stable.list hnq).push 38 #[.int .i64 n.cap, .slice A n.q.length c]).push 38 #[.int .i64 0, .slice none 0 0]
  rw [World.size_alloc] at E
  clear hnq
  go_enter Try.func75, Try.ntmps75
  go_wp2_with fail
  refine (rtakeN_ok _ n k m K _ ⟨_, _, rfl, E.get m0⟩ hm hnl hn8).mono ?_
  rw [HQ'.out]
  rintro e w1 ⟨A1, c1, vm, rfl, own1, him, hb1⟩
  obtain ⟨A5, c5, A6, c6, rfl, hrp⟩ := isM_rp him.lt
  unfold mv
  replace E := E.step hb1
  have B4 := E.at_ m0
  have own2 := (own1.lower (base' := w.heap.size) (by simp; omega)).more (X' := fun b => w.heap.size + 1 < b) (fun b hb hlt => by simp at hb; omega)
  clear own1 him hrp hb1
  have hbA : Below w1.heap.size w1 ((w1.alloc (.cells #[.int .i64 n.cap, .slice A1 q'.length c1] 38)).alloc (.cells #[.int .i64 m.kind, .int .i64 m.frm, .int .i64 m.to, .int .i64 m.id, .slice A5 m.args.length c5, .slice A6 m.data.length c6] 45)) := ((Below.refl _ _).alloc (Nat.le_refl _) _).alloc (by simp) _
  replace own2 := own2.step hbA
  replace B4 := B4.step hbA
  obtain ⟨q4, f4⟩ := B4.rules
  have t4 := (E.at_ m0).lt
  have hW := E.below.trans (hbA.mono E.below.size)
  go_wp2
  have F := ((B4.set_ 0 (.int .i64 n.cap)).set_ 1 (.slice A1 q'.length c1)).rules
  clear q4 f4
  refine bodyPost_ret (v := .tuple #[.agg #[.int .i64 n.cap, .slice A1 q'.length c1], .int .i64 0]) (by simp [results, Try.results75, go_sem, F.1]) rfl ⟨A1, c1, rfl, ?_, ?_⟩
  · exact ((own2.far B4 (by decide) (by omega) 0 _).far (B4.set_ 0 _) (by decide) (by omega) 1 _).more (fun b hb _ => by omega)
  · exact (hW.setCell (by show w.heap.size ≤ w.heap.size + 1; omega) _).setCell (by show w.heap.size ≤ w.heap.size + 1; omega) _


set_option maxRecDepth 100000 in
set_option maxHeartbeats 8000000 in
theorem rdropN_no (v : Value) (n : Nt) (i : Int) (K : Nat → Prop) (w : World) (hv : IsN w K v n) (hno : ¬ (0 ≤ i ∧ i < (n.q.length : Int))) :
    Calls Try.prog 75 #[v, .int .i64 i] w fun e w' => e = .returned (.tuple #[.agg #[.int .i64 0, .slice none 0 0], .int .i64 4]) ∧ Below w.heap.size w w' := by
  obtain ⟨A, c, rfl, hnq⟩ := hv
  have E := (((Kn.start w).give Stable.list hnq).push 38 #[.int .i64 n.cap, .slice A n.q.length c]).push 38 #[.int .i64 0, .slice none 0 0]
  rw [World.size_alloc] at E
  clear hnq
  go_enter Try.func75, Try.ntmps75
  go_wp2_with fail
  refine (rtakeN_no _ n i K _ ⟨_, _, rfl, E.get m0⟩ hno).mono ?_
  rintro e w1 ⟨rfl, hb1⟩
  replace E := E.step hb1
  have B4 := E.at_ m0
  clear hb1
  obtain ⟨q4, f4⟩ := (B4.alloc (.cells #[.int .i64 0, .slice none 0 0] 38)).alloc (.cells #[.int .i64 0, .int .i64 0, .int .i64 0, .int .i64 0, .slice none 0 0, .slice none 0 0] 45) |>.rules
  have t4 := B4.lt
  have s1 := E.below.size
  have hW := (E.below.alloc s1 (.cells #[.int .i64 0, .slice none 0 0] 38)).alloc (Nat.le_trans s1 (by simp)) (.cells #[.int .i64 0, .int .i64 0, .int .i64 0, .int .i64 0, .slice none 0 0, .slice none 0 0] 45)
  go_wp2
  have F := ((((B4.alloc (.cells #[.int .i64 0, .slice none 0 0] 38)).alloc (.cells #[.int .i64 0, .int .i64 0, .int .i64 0, .int .i64 0, .slice none 0 0, .slice none 0 0] 45)).set_ 0 (.int .i64 0)).set_ 1 (.slice none 0 0)).rules
  clear q4 f4
  refine bodyPost_ret (v := .tuple #[.agg #[.int .i64 0, .slice none 0 0], .int .i64 4]) (by simp [results, Try.results75, go_sem, F.1]) rfl ⟨rfl, ?_⟩
  exact (hW.setCell (by show w.heap.size ≤ w.heap.size + 1; omega) _).setCell (by show w.heap.size ≤ w.heap.size + 1; omega) _

set_option maxRecDepth 100000 in
set_option maxHeartbeats 8000000 in
theorem rlaterN_ok (v : Value) (n : Nt) (k : Nat) (m : Ms) (K : Nat → Prop) (w : World) (hv : IsN w K v n) (hm : n.q[k]? = some m) (hnl : ArgsLe n.q) (hn8 : n.q.length ≤ 200000000000) :
    Calls Try.prog 77 #[v, .int .i64 k] w fun e w' => ∃ A' c', e = .returned (.tuple #[.agg #[.int .i64 n.cap, .slice A' (n.q.take k ++ n.q.drop (k + 1) ++ [m]).length c'], .int .i64 0]) ∧
      OwnR Rp.msg w' w.heap.size 45 (fun b => w.heap.size ≤ b) (.slice A' (n.q.take k ++ n.q.drop (k + 1) ++ [m]).length c') (n.q.take k ++ n.q.drop (k + 1) ++ [m]) ∧ Below w.heap.size w w' := by
  obtain ⟨i0, hi, hz0, hz1, hz2⟩ := info_parts Try.infM
  have hql : (n.q.take k ++ n.q.drop (k + 1)).length ≤ 200000000000 := by
    have := (List.getElem?_eq_some_iff.1 hm).1
    rw [List.length_append, List.length_take, List.length_drop]; omega
  obtain ⟨q', hq'⟩ : ∃ q', n.q.take k ++ n.q.drop (k + 1) = q' := ⟨_, rfl⟩
  rw [hq'] at hql ⊢
  have HQ' := Lib.hid hq'; clear hq'
  obtain ⟨A, c, rfl, hnq⟩ := hv
  have E := (((Kn.start w).give Stable.list hnq).push 38 #[.int .i64 n.cap, .slice A n.q.length c]).push 38 #[.int .i64 0, .slice none 0 0]
  rw [World.size_alloc] at E
  clear hnq
  go_enter Try.func77, Try.ntmps77
  go_wp2_with fail
  refine (rtakeN_ok _ n k m K _ ⟨_, _, rfl, E.get m0⟩ hm hnl hn8).mono ?_
  rw [HQ'.out]
  rintro e w1 ⟨A1, c1, vm, rfl, own1, him, hb1⟩
  obtain ⟨A5, c5, A6, c6, rfl, hrp⟩ := isM_rp him.lt
  unfold mv
  replace E := E.step hb1
  have hg0 := (E.at_ m0).lt
  have own2 := (own1.lower (base' := w.heap.size) (by simp; omega)).more (X' := fun b => w.heap.size + 1 < b ∧ b ≠ w1.heap.size) (fun b hb hlt => ⟨by simp at hb; omega, by omega⟩)
  have hrp2 := Rp.msg.more (K' := fun b => (w.heap.size + 1 < b ∧ b ≠ w1.heap.size) ∧ b < w1.heap.size ∧ some b ≠ (Value.slice A1 q'.length c1).ownBlock) hrp (fun b hb => by
    obtain ⟨⟨h1, h2⟩, h3⟩ := hb
    simp at h1
    exact ⟨⟨by omega, by omega⟩, h3, h2⟩)
  clear own1 him hrp hb1
  have hbA : Below w1.heap.size w1 ((w1.alloc (.cells #[.int .i64 n.cap, .slice A1 q'.length c1] 38)).alloc (.cells #[.int .i64 m.kind, .int .i64 m.frm, .int .i64 m.to, .int .i64 m.id, .slice A5 m.args.length c5, .slice A6 m.data.length c6] 45)) := ((Below.refl _ _).alloc (Nat.le_refl _) _).alloc (by simp) _
  replace own2 := own2.step hbA
  replace hrp2 := Rp.step hrp2 hbA
  replace E := (E.push 38 #[.int .i64 n.cap, .slice A1 q'.length c1]).push 45 #[.int .i64 m.kind, .int .i64 m.frm, .int .i64 m.to, .int .i64 m.id, .slice A5 m.args.length c5, .slice A6 m.data.length c6]
  rw [World.size_alloc] at E
  go_upto_region 4 with fail
  clear hbA
  generalize (w1.alloc (.cells #[.int .i64 n.cap, .slice A1 q'.length c1] 38)).alloc (.cells #[.int .i64 m.kind, .int .i64 m.frm, .int .i64 m.to, .int .i64 m.id, .slice A5 m.args.length c5, .slice A6 m.data.length c6] 45) = w3 at own2 hrp2 E ⊢
  obtain ⟨hjj, cs, own5, cl5⟩ := own2.open_
  clear hjj
  replace own5 : w3.ownsRow w.heap.size 45 6 (.slice A1 q'.length c1) q'.length cs := own5
  have hrow := OwnR.rowlt own2
  have B6 := E.at_ m1
  have B7 := E.at_ m0
  have B4 := E.at_ m2
  obtain ⟨q6, f6⟩ := B6.rules
  obtain ⟨q7, f7⟩ := B7.rules
  have t6 := B6.lt
  have t7 := B7.lt
  have HOWN := Lib.hid own5
  have HCL := Lib.hid cl5
  have HRP := Lib.hid hrp2
  have hw3 : w.heap.size ≤ w3.heap.size := E.below.size
  clear own5 cl5 hrp2
  go_wp2_with (at_builtin; refine wpList_appN rfl _ _ _ rfl w.heap.size 45 i0 _ 6 80 Try.underlying35 hi hz0 hz1 hz2 rfl (by omega) rfl (HOWN.out.alloc _) rfl (Reads.new (xs := cellsM m A5 c5 A6 c6) (n := 1) rfl rfl rfl) (by intro u hu; simp [cellsM] at hu; rcases hu with rfl | rfl | rfl | rfl | rfl | rfl <;> rfl) (by simp only [maxLen]; omega) (by omega) (by simp; omega) ?_; intro A9 c9 wP own6 hg6; have hsP := hg6.below.size; have D6P := (B6.alloc _).grew (HOWN.out.alloc _) (by decide) hg6; have D4P := (B4.alloc _).grew (HOWN.out.alloc _) (by decide) hg6; obtain ⟨qP, fP⟩ := D6P.rules; have tP := D6P.lt; obtain ⟨q4, f4⟩ := D4P.rules; have t4 := D4P.lt)
  have hlq : (q' ++ [m]).length = q'.length + 1 := by simp
  have hO : OwnR Rp.msg wP w.heap.size 45 (fun b => w.heap.size + 1 < b ∧ b ≠ w1.heap.size) (.slice A9 (q'.length + 1) c9) (q' ++ [m]) := by
    have h2 := (HCL.out.alloc (.cells (cellsM m A5 c5 A6 c6).toArray 45)).more (K' := fun b => (w.heap.size + 1 < b ∧ b ≠ w1.heap.size) ∧ b < (w3.alloc (.cells (cellsM m A5 c5 A6 c6).toArray 45)).heap.size ∧ some b ≠ (Value.slice A1 q'.length c1).ownBlock) (fun b hb => ⟨hb.1, by simp; omega, hb.2.2⟩)
    have h3 := Rp.msg.more (K' := fun b => (w.heap.size + 1 < b ∧ b ≠ w1.heap.size) ∧ b < (w3.alloc (.cells (cellsM m A5 c5 A6 c6).toArray 45)).heap.size ∧ some b ≠ (Value.slice A1 q'.length c1).ownBlock) (Rp.alloc HRP.out (.cells (cellsM m A5 c5 A6 c6).toArray 45)) (fun b hb => ⟨hb.1, by simp; omega, hb.2.2⟩)
    exact OwnR.push (A' := A9) (c' := c9) (w' := wP) (e := 45) (base := w.heap.size) h2 h3 own6 hg6
  have hne : w.heap.size + 1 ≠ w1.heap.size := by omega
  have D4 := ((D4P.far (p := ⟨w1.heap.size, 1, none⟩) hne (.slice A9 (q'.length + 1) c9)).set_ 0 (.int .i64 n.cap)).set_ 1 (.slice A9 (q'.length + 1) c9)
  have F := D4.rules
  have hW3 : Below w.heap.size w wP := (E.below.alloc hw3 _).trans hg6.below
  clear q4 f4 qP fP q6 f6 q7 f7
  rw [hlq]
  refine bodyPost_ret (v := .tuple #[.agg #[.int .i64 n.cap, .slice A9 (q'.length + 1) c9], .int .i64 0]) (by simp [results, Try.results77, go_sem, F.1]) rfl ⟨A9, c9, rfl, ?_, ?_⟩
  · exact (((hO.far D6P (by decide) (by omega) 1 _).far (D4P.far (p := ⟨w1.heap.size, 1, none⟩) hne _) (by decide) (by omega) 0 _).far ((D4P.far (p := ⟨w1.heap.size, 1, none⟩) hne _).set_ 0 _) (by decide) (by omega) 1 _).more (fun b hb _ => by omega)
  · exact ((hW3.setCell (by show w.heap.size ≤ w1.heap.size; omega) _).setCell (by show w.heap.size ≤ w.heap.size + 1; omega) _).setCell (by show w.heap.size ≤ w.heap.size + 1; omega) _


set_option maxRecDepth 100000 in
set_option maxHeartbeats 8000000 in
theorem rlaterN_no (v : Value) (n : Nt) (i : Int) (K : Nat → Prop) (w : World) (hv : IsN w K v n) (hno : ¬ (0 ≤ i ∧ i < (n.q.length : Int))) :
    Calls Try.prog 77 #[v, .int .i64 i] w fun e w' => e = .returned (.tuple #[.agg #[.int .i64 0, .slice none 0 0], .int .i64 4]) ∧ Below w.heap.size w w' := by
  obtain ⟨A, c, rfl, hnq⟩ := hv
  have E := (((Kn.start w).give Stable.list hnq).push 38 #[.int .i64 n.cap, .slice A n.q.length c]).push 38 #[.int .i64 0, .slice none 0 0]
  rw [World.size_alloc] at E
  clear hnq
  go_enter Try.func77, Try.ntmps77
  go_wp2_with fail
  refine (rtakeN_no _ n i K _ ⟨_, _, rfl, E.get m0⟩ hno).mono ?_
  rintro e w1 ⟨rfl, hb1⟩
  replace E := E.step hb1
  have B4 := E.at_ m0
  clear hb1
  obtain ⟨q4, f4⟩ := (B4.alloc (.cells #[.int .i64 0, .slice none 0 0] 38)).alloc (.cells #[.int .i64 0, .int .i64 0, .int .i64 0, .int .i64 0, .slice none 0 0, .slice none 0 0] 45) |>.rules
  have t4 := B4.lt
  have s1 := E.below.size
  have hW := (E.below.alloc s1 (.cells #[.int .i64 0, .slice none 0 0] 38)).alloc (Nat.le_trans s1 (by simp)) (.cells #[.int .i64 0, .int .i64 0, .int .i64 0, .int .i64 0, .slice none 0 0, .slice none 0 0] 45)
  go_wp2
  have F := ((((B4.alloc (.cells #[.int .i64 0, .slice none 0 0] 38)).alloc (.cells #[.int .i64 0, .int .i64 0, .int .i64 0, .int .i64 0, .slice none 0 0, .slice none 0 0] 45)).set_ 0 (.int .i64 0)).set_ 1 (.slice none 0 0)).rules
  clear q4 f4
  refine bodyPost_ret (v := .tuple #[.agg #[.int .i64 0, .slice none 0 0], .int .i64 4]) (by simp [results, Try.results77, go_sem, F.1]) rfl ⟨rfl, ?_⟩
  exact (hW.setCell (by show w.heap.size ≤ w.heap.size + 1; omega) _).setCell (by show w.heap.size ≤ w.heap.size + 1; omega) _
end Go.Proofs.Ytbjgemipmlimoaa
