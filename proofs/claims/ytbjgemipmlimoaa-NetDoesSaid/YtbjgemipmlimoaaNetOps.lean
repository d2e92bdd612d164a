/- The walk of net.Later. -/
/- The walk of net.Drop. -/
/- The walk of net.Double. -/
import Derived.Test.YtbjgemipmlimoaaNetTake
namespace Go.Proofs.Ytbjgemipmlimoaa
open Go.RowKit

set_option maxRecDepth 100000 in
set_option maxHeartbeats 8000000 in
theorem laterN_ok (v : Value) (n : Nt) (k : Nat) (m : Ms) (K : Nat → Prop) (w : World) (hv : IsN w K v n) (hm : n.q[k]? = some m) (hnl : ArgsLe n.q) (hn8 : n.q.length ≤ 200000000000) :
    Calls Try.prog 26 #[v, .int .i64 k] w fun e w' => ∃ A' c', e = .returned (.tuple #[.agg #[.int .i64 n.cap, .slice A' (n.q.take k ++ n.q.drop (k + 1) ++ [m]).length c'], .int .i64 0]) ∧
      OwnR Rp.msg w' w.heap.size 45 (fun b => w.heap.size ≤ b) (.slice A' (n.q.take k ++ n.q.drop (k + 1) ++ [m]).length c') (n.q.take k ++ n.q.drop (k + 1) ++ [m]) ∧ Below w.heap.size w w' := by
  obtain ⟨i0, hi, hz0, hz1, hz2⟩ := info_parts Try.infM
  have hql : (n.q.take k ++ n.q.drop (k + 1)).length ≤ 200000000000 := by
    have := (List.getElem?_eq_some_iff.1 hm).1
    rw [List.length_append, List.length_take, List.length_drop]; omega
  obtain ⟨q', hq'⟩ : ∃ q', n.q.take k ++ n.q.drop (k + 1) = q' := ⟨_, rfl⟩
  rw [hq'] at hql ⊢
  have HQ' := Lib.hid hq'; clear hq'
  obtain ⟨A, c, rfl, hnq⟩ := hv
  have E := (((Kn.start w).give Stable.list hnq).push 38 #[.int .i64 n.cap, .slice A n.q.length c]).push 38 #[.int .i64 0, .slice none 0 0]
  rw [World.size_alloc] at E
  clear hnq
  go_enter Try.func26, Try.ntmps26
  go_wp2_with fail
  refine (takeN_ok _ n k m K _ ⟨_, _, rfl, E.get m0⟩ hm hnl hn8).mono ?_
  rw [HQ'.out]
  rintro e w1 ⟨A1, c1, vm, rfl, own1, him, hb1⟩
  obtain ⟨A5, c5, A6, c6, rfl, hrp⟩ := isM_rp him.lt
  unfold mv
  replace E := E.step hb1
  have hg0 := (E.at_ m0).lt
  have own2 := (own1.lower (base' := w.heap.size) (by simp; omega)).more (X' := fun b => w.heap.size + 1 < b ∧ b ≠ w1.heap.size) (fun b hb hlt => ⟨by simp at hb; omega, by omega⟩)
  have hrp2 := Rp.msg.more (K' := fun b => (w.heap.size + 1 < b ∧ b ≠ w1.heap.size) ∧ b < w1.heap.size ∧ some b ≠ (Value.slice A1 q'.length c1).ownBlock) hrp (fun b hb => by
    obtain ⟨⟨h1, h2⟩, h3⟩ := hb
    simp at h1
    exact ⟨⟨by omega, by omega⟩, h3, h2⟩)
  clear own1 him hrp hb1
  have hbA : Below w1.heap.size w1 ((w1.alloc (.cells #[.int .i64 n.cap, .slice A1 q'.length c1] 38)).alloc (.cells #[.int .i64 m.kind, .int .i64 m.frm, .int .i64 m.to, .int .i64 m.id, .slice A5 m.args.length c5, .slice A6 m.data.length c6] 45)) := ((Below.refl _ _).alloc (Nat.le_refl _) _).alloc (by simp) _
  replace own2 := own2.step hbA
  replace hrp2 := Rp.step hrp2 hbA
  replace E := (E.push 38 #[.int .i64 n.cap, .slice A1 q'.length c1]).push 45 #[.int .i64 m.kind, .int .i64 m.frm, .int .i64 m.to, .int .i64 m.id, .slice A5 m.args.length c5, .slice A6 m.data.length c6]
  rw [World.size_alloc] at E
  go_upto_region 4 with fail
  clear hbA
  generalize (w1.alloc (.cells #[.int .i64 n.cap, .slice A1 q'.length c1] 38)).alloc (.cells #[.int .i64 m.kind, .int .i64 m.frm, .int .i64 m.to, .int .i64 m.id, .slice A5 m.args.length c5, .slice A6 m.data.length c6] 45) = w3 at own2 hrp2 E ⊢
  obtain ⟨hjj, cs, own5, cl5⟩ := own2.open_
  clear hjj
  replace own5 : w3.ownsRow w.heap.size 45 6 (.slice A1 q'.length c1) q'.length cs := own5
  have hrow := OwnR.rowlt own2
  have B6 := E.at_ m1
  have B7 := E.at_ m0
  have B4 := E.at_ m2
  obtain ⟨q6, f6⟩ := B6.rules
  obtain ⟨q7, f7⟩ := B7.rules
  have t6 := B6.lt
  have t7 := B7.lt
  have HOWN := Lib.hid own5
  have HCL := Lib.hid cl5
  have HRP := Lib.hid hrp2
  have hw3 : w.heap.size ≤ w3.heap.size := E.below.size
  clear own5 cl5 hrp2
  go_wp2_with (at_builtin; refine wpList_appN rfl _ _ _ rfl w.heap.size 45 i0 _ 6 80 Try.underlying35 hi hz0 hz1 hz2 rfl (by omega) rfl (HOWN.out.alloc _) rfl (Reads.new (xs := cellsM m A5 c5 A6 c6) (n := 1) rfl rfl rfl) (by intro u hu; simp [cellsM] at hu; rcases hu with rfl | rfl | rfl | rfl | rfl | rfl <;> rfl) (by simp only [maxLen]; omega) (by omega) (by simp; omega) ?_; intro A9 c9 wP own6 hg6; have hsP := hg6.below.size; have D6P := (B6.alloc _).grew (HOWN.out.alloc _) (by decide) hg6; have D4P := (B4.alloc _).grew (HOWN.out.alloc _) (by decide) hg6; obtain ⟨qP, fP⟩ := D6P.rules; have tP := D6P.lt; obtain ⟨q4, f4⟩ := D4P.rules; have t4 := D4P.lt)
  have hlq : (q' ++ [m]).length = q'.length + 1 := by simp
  have hO : OwnR Rp.msg wP w.heap.size 45 (fun b => w.heap.size + 1 < b ∧ b ≠ w1.heap.size) (.slice A9 (q'.length + 1) c9) (q' ++ [m]) := by
    have h2 := (HCL.out.alloc (.cells (cellsM m A5 c5 A6 c6).toArray 45)).more (K' := fun b => (w.heap.size + 1 < b ∧ b ≠ w1.heap.size) ∧ b < (w3.alloc (.cells (cellsM m A5 c5 A6 c6).toArray 45)).heap.size ∧ some b ≠ (Value.slice A1 q'.length c1).ownBlock) (fun b hb => ⟨hb.1, by simp; omega, hb.2.2⟩)
    have h3 := Rp.msg.more (K' := fun b => (w.heap.size + 1 < b ∧ b ≠ w1.heap.size) ∧ b < (w3.alloc (.cells (cellsM m A5 c5 A6 c6).toArray 45)).heap.size ∧ some b ≠ (Value.slice A1 q'.length c1).ownBlock) (Rp.alloc HRP.out (.cells (cellsM m A5 c5 A6 c6).toArray 45)) (fun b hb => ⟨hb.1, by simp; omega, hb.2.2⟩)
    exact OwnR.push (A' := A9) (c' := c9) (w' := wP) (e := 45) (base := w.heap.size) h2 h3 own6 hg6
  have hne : w.heap.size + 1 ≠ w1.heap.size := by omega
  have D4 := ((D4P.far (p := ⟨w1.heap.size, 1, none⟩) hne (.slice A9 (q'.length + 1) c9)).set_ 0 (.int .i64 n.cap)).set_ 1 (.slice A9 (q'.length + 1) c9)
  have F := D4.rules
  have hW3 : Below w.heap.size w wP := (E.below.alloc hw3 _).trans hg6.below
  clear q4 f4 qP fP q6 f6 q7 f7
  rw [hlq]
  refine bodyPost_ret (v := .tuple #[.agg #[.int .i64 n.cap, .slice A9 (q'.length + 1) c9], .int .i64 0]) (by simp [results, Try.results26, go_sem, F.1]) rfl ⟨A9, c9, rfl, ?_, ?_⟩
  · exact (((hO.far D6P (by decide) (by omega) 1 _).far (D4P.far (p := ⟨w1.heap.size, 1, none⟩) hne _) (by decide) (by omega) 0 _).far ((D4P.far (p := ⟨w1.heap.size, 1, none⟩) hne _).set_ 0 _) (by decide) (by omega) 1 _).more (fun b hb _ => by omega)
  · exact ((hW3.setCell (by show w.heap.size ≤ w1.heap.size; omega) _).setCell (by show w.heap.size ≤ w.heap.size + 1; omega) _).setCell (by show w.heap.size ≤ w.heap.size + 1; omega) _

set_option maxRecDepth 100000 in
set_option maxHeartbeats 8000000 in
theorem laterN_no (v : Value) (n : Nt) (i : Int) (K : Nat → Prop) (w : World) (hv : IsN w K v n) (hno : ¬ (0 ≤ i ∧ i < (n.q.length : Int))) :
    Calls Try.prog 26 #[v, .int .i64 i] w fun e w' => e = .returned (.tuple #[.agg #[.int .i64 0, .slice none 0 0], .int .i64 4]) ∧ Below w.heap.size w w' := by
  obtain ⟨A, c, rfl, hnq⟩ := hv
  have E := (((Kn.start w).give Stable.list hnq).push 38 #[.int .i64 n.cap, .slice A n.q.length c]).push 38 #[.int .i64 0, .slice none 0 0]
  rw [World.size_alloc] at E
  clear hnq
  go_enter Try.func26, Try.ntmps26
  go_wp2_with fail
  refine (takeN_no _ n i K _ ⟨_, _, rfl, E.get m0⟩ hno).mono ?_
  rintro e w1 ⟨rfl, hb1⟩
  replace E := E.step hb1
  have B4 := E.at_ m0
  clear hb1
  obtain ⟨q4, f4⟩ := (B4.alloc (.cells #[.int .i64 0, .slice none 0 0] 38)).alloc (.cells #[.int .i64 0, .int .i64 0, .int .i64 0, .int .i64 0, .slice none 0 0, .slice none 0 0] 45) |>.rules
  have t4 := B4.lt
  have s1 := E.below.size
  have hW := (E.below.alloc s1 (.cells #[.int .i64 0, .slice none 0 0] 38)).alloc (Nat.le_trans s1 (by simp)) (.cells #[.int .i64 0, .int .i64 0, .int .i64 0, .int .i64 0, .slice none 0 0, .slice none 0 0] 45)
  go_wp2
  have F := ((((B4.alloc (.cells #[.int .i64 0, .slice none 0 0] 38)).alloc (.cells #[.int .i64 0, .int .i64 0, .int .i64 0, .int .i64 0, .slice none 0 0, .slice none 0 0] 45)).set_ 0 (.int .i64 0)).set_ 1 (.slice none 0 0)).rules
  clear q4 f4
  refine bodyPost_ret (v := .tuple #[.agg #[.int .i64 0, .slice none 0 0], .int .i64 4]) (by simp [results, Try.results26, go_sem, F.1]) rfl ⟨rfl, ?_⟩
  exact (hW.setCell (by show w.heap.size ≤ w.heap.size + 1; omega) _).setCell (by show w.heap.size ≤ w.heap.size + 1; omega) _
end Go.Proofs.Ytbjgemipmlimoaa
namespace Go.Proofs.Ytbjgemipmlimoaa
open Go.RowKit

set_option maxRecDepth 100000 in
set_option maxHeartbeats 8000000 in
theorem dropN_ok (v : Value) (n : Nt) (k : Nat) (m : Ms) (K : Nat → Prop) (w : World) (hv : IsN w K v n) (hm : n.q[k]? = some m) (hnl : ArgsLe n.q) (hn8 : n.q.length ≤ 200000000000) :
    Calls Try.prog 30 #[v, .int .i64 k] w fun e w' => ∃ A' c', e = .returned (.tuple #[.agg #[.int .i64 n.cap, .slice A' (n.q.take k ++ n.q.drop (k + 1)).length c'], .int .i64 0]) ∧
      OwnR Rp.msg w' w.heap.size 45 (fun b => w.heap.size ≤ b) (.slice A' (n.q.take k ++ n.q.drop (k + 1)).length c') (n.q.take k ++ n.q.drop (k + 1)) ∧ Below w.heap.size w w' := by
  obtain ⟨q', hq'⟩ : ∃ q', n.q.take k ++ n.q.drop (k + 1) = q' := ⟨_, rfl⟩
  rw [hq']
  have HQ' := Lib.hid hq'; clear hq'
  obtain ⟨A, c, rfl, hnq⟩ := hv
  have E := (((Kn.start w).give Stable.list hnq).push 38 #[.int .i64 n.cap, .slice A n.q.length c]).push 38 #[.int .i64 0, .slice none 0 0]
  rw [World.size_alloc] at E
  clear hnq
  go_enter Try.func30, Try.ntmps30
  go_wp2_with fail
  refine (takeN_ok _ n k m K _ ⟨_, _, rfl, E.get m0⟩ hm hnl hn8).mono ?_
  rw [HQ'.out]
  rintro e w1 ⟨A1, c1, vm, rfl, own1, him, hb1⟩
  obtain ⟨A5, c5, A6, c6, rfl, hrp⟩ := isM_rp him.lt
  unfold mv
  replace E := E.step hb1
  have B4 := E.at_ m0
  have own2 := (own1.lower (base' := w.heap.size) (by simp; omega)).more (X' := fun b => w.heap.size + 1 < b) (fun b hb hlt => by simp at hb; omega)
  clear own1 him hrp hb1
  have hbA : Below w1.heap.size w1 ((w1.alloc (.cells #[.int .i64 n.cap, .slice A1 q'.length c1] 38)).alloc (.cells #[.int .i64 m.kind, .int .i64 m.frm, .int .i64 m.to, .int .i64 m.id, .slice A5 m.args.length c5, .slice A6 m.data.length c6] 45)) := ((Below.refl _ _).alloc (Nat.le_refl _) _).alloc (by simp) _
  replace own2 := own2.step hbA
  replace B4 := B4.step hbA
  obtain ⟨q4, f4⟩ := B4.rules
  have t4 := (E.at_ m0).lt
  have hW := E.below.trans (hbA.mono E.below.size)
  go_wp2
  have F := ((B4.set_ 0 (.int .i64 n.cap)).set_ 1 (.slice A1 q'.length c1)).rules
  clear q4 f4
  refine bodyPost_ret (v := .tuple #[.agg #[.int .i64 n.cap, .slice A1 q'.length c1], .int .i64 0]) (by simp [results, Try.results30, go_sem, F.1]) rfl ⟨A1, c1, rfl, ?_, ?_⟩
  · exact ((own2.far B4 (by decide) (by omega) 0 _).far (B4.set_ 0 _) (by decide) (by omega) 1 _).more (fun b hb _ => by omega)
  · exact (hW.setCell (by show w.heap.size ≤ w.heap.size + 1; omega) _).setCell (by show w.heap.size ≤ w.heap.size + 1; omega) _

set_option maxRecDepth 100000 in
set_option maxHeartbeats 8000000 in
theorem dropN_no (v : Value) (n : Nt) (i : Int) (K : Nat → Prop) (w : World) (hv : IsN w K v n) (hno : ¬ (0 ≤ i ∧ i < (n.q.length : Int))) :
    Calls Try.prog 30 #[v, .int .i64 i] w fun e w' => e = .returned (.tuple #[.agg #[.int .i64 0, .slice none 0 0], .int .i64 4]) ∧ Below w.heap.size w w' := by
  obtain ⟨A, c, rfl, hnq⟩ := hv
  have E := (((Kn.start w).give Stable.list hnq).push 38 #[.int .i64 n.cap, .slice A n.q.length c]).push 38 #[.int .i64 0, .slice none 0 0]
  rw [World.size_alloc] at E
  clear hnq
  go_enter Try.func30, Try.ntmps30
  go_wp2_with fail
  refine (takeN_no _ n i K _ ⟨_, _, rfl, E.get m0⟩ hno).mono ?_
  rintro e w1 ⟨rfl, hb1⟩
  replace E := E.step hb1
  have B4 := E.at_ m0
  clear hb1
  obtain ⟨q4, f4⟩ := (B4.alloc (.cells #[.int .i64 0, .slice none 0 0] 38)).alloc (.cells #[.int .i64 0, .int .i64 0, .int .i64 0, .int .i64 0, .slice none 0 0, .slice none 0 0] 45) |>.rules
  have t4 := B4.lt
  have s1 := E.below.size
  have hW := (E.below.alloc s1 (.cells #[.int .i64 0, .slice none 0 0] 38)).alloc (Nat.le_trans s1 (by simp)) (.cells #[.int .i64 0, .int .i64 0, .int .i64 0, .int .i64 0, .slice none 0 0, .slice none 0 0] 45)
  go_wp2
  have F := ((((B4.alloc (.cells #[.int .i64 0, .slice none 0 0] 38)).alloc (.cells #[.int .i64 0, .int .i64 0, .int .i64 0, .int .i64 0, .slice none 0 0, .slice none 0 0] 45)).set_ 0 (.int .i64 0)).set_ 1 (.slice none 0 0)).rules
  clear q4 f4
  refine bodyPost_ret (v := .tuple #[.agg #[.int .i64 0, .slice none 0 0], .int .i64 4]) (by simp [results, Try.results30, go_sem, F.1]) rfl ⟨rfl, ?_⟩
  exact (hW.setCell (by show w.heap.size ≤ w.heap.size + 1; omega) _).setCell (by show w.heap.size ≤ w.heap.size + 1; omega) _
end Go.Proofs.Ytbjgemipmlimoaa
namespace Go.Proofs.Ytbjgemipmlimoaa
open Go.RowKit

set_option maxRecDepth 100000 in
set_option maxHeartbeats 8000000 in
theorem doubleN_ok (v : Value) (n : Nt) (k : Nat) (m : Ms) (K : Nat → Prop) (w : World) (hv : IsN w K v n) (hm : n.q[k]? = some m) (hcap : (n.q.length : Int) < n.cap) (hnl : ArgsLe n.q) (hn8 : n.q.length ≤ 200000000000) :
    Calls Try.prog 29 #[v, .int .i64 k] w fun e w' => ∃ A' c', e = .returned (.tuple #[.agg #[.int .i64 n.cap, .slice A' (n.q ++ [m]).length c'], .int .i64 0]) ∧
      OwnR Rp.msg w' w.heap.size 45 (fun b => w.heap.size ≤ b) (.slice A' (n.q ++ [m]).length c') (n.q ++ [m]) ∧ Below w.heap.size w w' := by
  have hAL : ArgsLe (n.q ++ [m]) := by
    intro x hx
    rcases List.mem_append.1 hx with hx | hx
    · exact hnl x hx
    · rw [List.mem_singleton.1 hx]; exact hnl m (List.mem_of_getElem? hm)
  have hql : (n.q ++ [m]).length ≤ 200000000001 := by simp; omega
  have hk := (List.getElem?_eq_some_iff.1 hm).1
  have htd : (n.q.drop k).take 1 = [m] := by
    rw [List.drop_eq_getElem_cons hk, List.take_succ_cons, List.take_zero, (List.getElem?_eq_some_iff.1 hm).2]
  have HTD := Lib.hid htd; clear htd
  obtain ⟨q', hq'⟩ : ∃ q', n.q ++ [m] = q' := ⟨_, rfl⟩
  rw [hq'] at hAL hql ⊢
  have HQ' := Lib.hid hq'; clear hq'
  obtain ⟨A, c, rfl, hnq⟩ := hv
  have E := (((Kn.start w).give Stable.list hnq).push 38 #[.int .i64 n.cap, .slice A n.q.length c]).push 38 #[.int .i64 0, .slice none 0 0]
  rw [World.size_alloc] at E
  clear hnq
  have hdec : decide (0 ≤ (k : Int) ∧ (k : Int) < (n.q.length : Int)) = true := decide_eq_true ⟨by omega, by omega⟩
  have HD := Lib.hid hdec; clear hdec
  go_enter Try.func29, Try.ntmps29
  go_wp2_with fail
  refine (has_any _ n k K _ ⟨_, _, rfl, E.get m0⟩).mono ?_
  rw [HD.out]
  rintro e w1 ⟨rfl, hb1⟩
  replace E := E.step hb1
  clear hb1
  obtain ⟨_, ⟨cs, hrd, hcl⟩, hlc, hcc, _⟩ := (E.get m0).open_
  obtain ⟨ad, es, rfl, _, hes, hcell⟩ := (E.get m0).at_ hm
  clear hes hcell hrd hcl
  have hg1 : decide (n.cap ≤ (n.q.length : Int)) = false := decide_eq_false (by omega)
  obtain ⟨q2, f2, t2⟩ := E.rules m1
  have HQ : Hid (∀ W, Below w1.heap.size w1 W → (∀ o, W.cell? ⟨w.heap.size, o, none⟩ = (#[.int .i64 n.cap, .slice (some ad) n.q.length c] : Array Value)[o]?)) := Lib.hid (fun W h => ((E.step h).rules m1).1)
  have HS : Hid (∀ W, Below w1.heap.size w1 W → ∀ u0 u1 : Value, (∀ o, ((W.setCell ⟨w.heap.size + 1, 0, none⟩ u0).setCell ⟨w.heap.size + 1, 1, none⟩ u1).cell? ⟨w.heap.size, o, none⟩ = (#[.int .i64 n.cap, .slice (some ad) n.q.length c] : Array Value)[o]?)) :=
    Lib.hid (fun W h u0 u1 => ((((E.step h).at_ m1).far (p := ⟨w.heap.size + 1, 0, none⟩) (by show w.heap.size ≠ w.heap.size + 1; omega) u0).far (p := ⟨w.heap.size + 1, 1, none⟩) (by show w.heap.size ≠ w.heap.size + 1; omega) u1).cell)
  have hmid := ((E.get m0).cut (k := k) (by omega)).pre (k := 1) (by omega)
  rw [HTD.out] at hmid
  have hck : ¬ c = k := by omega
  rw [if_neg hck] at hmid
  replace hmid : IsL Rp.msg w1 K (.slice (some (ad.add (k * 6))) 1 (c - k)) [m] := hmid
  have hC := concatM_two w1.heap.size n.q.length 1 c (c - k) (some ad) (some (ad.add (k * 6))) n.q [m] K (w1.alloc (.cells #[.slice (some ad) n.q.length c, .slice (some (ad.add (k * 6))) 1 (c - k)] 35)).drew
    ((Reads.new (xs := [.slice (some ad) n.q.length c, .slice (some (ad.add (k * 6))) 1 (c - k)]) (by simp) rfl rfl).drew.more (fun _ _ => trivial)) ((E.get m0).alloc _).drew (hmid.alloc _).drew (by simp; omega)
  rw [HQ'.out] at hC
  have hb1 : Below w1.heap.size w1 (w1.alloc (.cells #[.slice (some ad) n.q.length c, .slice (some (ad.add (k * 6))) 1 (c - k)] 35)).drew := ((Below.refl _ _).alloc (Nat.le_refl _) _).drew
  clear HQ'
  go_upto_region 5 with fail
  have hwk : IntKind.i64.wrap ((k : Int) + 1) = (k : Int) + 1 := by
    exact IntWalk.i64_in _ (by omega)
  have i0 : (0 : Int) ≤ (k : Int) := by omega
  have i1 : (k : Int) ≤ (k : Int) + 1 := by omega
  have i2 : (k : Int) ≤ (c : Int) := by omega
  have i3 : (0 : Int) ≤ (k : Int) + 1 := by omega
  have i4 : (k : Int) + 1 ≤ (c : Int) := by omega
  have i6 : ((k : Int) + 1).toNat = k + 1 := by omega
  go_region_held3 (fun W => (∀ o, W.cell? ⟨w.heap.size, o, none⟩ = (#[.int .i64 n.cap, .slice (some ad) n.q.length c] : Array Value)[o]?))
    (first | with_reducible exact HS.out wW hbW _ _ | with_reducible exact HQ.out _ (Below.refl _ _).drew | with_reducible exact HQ.out _ hb1 | with_reducible exact HQ.out _ hbC | with_reducible exact HQ.out _ hbW)
    (first
      | (go_at_call 61
         refine hC.mono ?_
         rintro e wC ⟨AC, cC, rfl, hisC, hbC⟩
         replace hbC := hb1.trans (hbC.mono hb1.size))
      | (go_at_call 55
         refine (with_any _ _ n q' K (fun _ => True) _ ⟨_, _, rfl, (E.step hbC).get m0⟩ hisC hAL (by omega)).mono ?_
         rintro e wW ⟨AW, cW, rfl, hown, hbW⟩
         replace hbW := hbC.trans (hbW.mono hbC.size)
         obtain ⟨q4, f4, t4⟩ := (E.step hbW).rules m0))
  have B4 := (E.step hbW).at_ m0
  have s1 := hbC.size
  have s2 := hbW.size
  have hl4 := (E.at_ m0).lt
  have F := ((B4.set_ 0 (.int .i64 n.cap)).set_ 1 (.slice AW q'.length cW)).rules
  clear q4 f4 t4 hC HQ HS
  go_wp2
  refine bodyPost_ret (v := .tuple #[.agg #[.int .i64 n.cap, .slice AW q'.length cW], .int .i64 0]) (by simp [results, Try.results29, go_sem, F.1]) rfl ⟨AW, cW, rfl, ?_, ?_⟩
  · exact ((hown.farb (by omega) (by omega) 0 _).farb (by omega) (by omega) 1 _).lower (by omega) |>.more (fun b hb _ => by omega)
  · exact ((E.below.trans (hbW.mono E.below.size)).setCell (by show w.heap.size ≤ w.heap.size + 1; omega) _).setCell (by show w.heap.size ≤ w.heap.size + 1; omega) _

set_option maxRecDepth 100000 in
set_option maxHeartbeats 8000000 in
theorem doubleN_no (v : Value) (n : Nt) (i : Int) (K : Nat → Prop) (w : World) (hv : IsN w K v n) (hno : ¬ (0 ≤ i ∧ i < (n.q.length : Int))) :
    Calls Try.prog 29 #[v, .int .i64 i] w fun e w' => e = .returned (.tuple #[.agg #[.int .i64 0, .slice none 0 0], .int .i64 4]) ∧ Below w.heap.size w w' := by
  obtain ⟨A, c, rfl, hnq⟩ := hv
  have E := (((Kn.start w).give Stable.list hnq).push 38 #[.int .i64 n.cap, .slice A n.q.length c]).push 38 #[.int .i64 0, .slice none 0 0]
  rw [World.size_alloc] at E
  clear hnq
  have HD := Lib.hid (decide_eq_false hno)
  go_enter Try.func29, Try.ntmps29
  go_wp2_with fail
  refine (has_any _ n i K _ ⟨_, _, rfl, E.get m0⟩).mono ?_
  rw [HD.out]
  rintro e w1 ⟨rfl, hb1⟩
  replace E := E.step hb1
  clear hb1
  have B4 := E.at_ m0
  obtain ⟨q4, f4⟩ := B4.rules
  obtain ⟨q2, f2, t2⟩ := E.rules m1
  have t4 := B4.lt
  go_wp2
  have F := ((B4.set_ 0 (.int .i64 0)).set_ 1 (.slice none 0 0)).rules
  clear q4 f4 q2 f2
  refine bodyPost_ret (v := .tuple #[.agg #[.int .i64 0, .slice none 0 0], .int .i64 4]) (by simp [results, Try.results29, go_sem, F.1]) rfl ⟨rfl, ?_⟩
  exact (E.below.setCell (by show w.heap.size ≤ w.heap.size + 1; omega) _).setCell (by show w.heap.size ≤ w.heap.size + 1; omega) _

set_option maxRecDepth 100000 in
set_option maxHeartbeats 8000000 in
theorem doubleN_full (v : Value) (n : Nt) (i : Int) (K : Nat → Prop) (w : World) (hv : IsN w K v n) (hh : 0 ≤ i ∧ i < (n.q.length : Int)) (hcap : n.cap ≤ (n.q.length : Int)) :
    Calls Try.prog 29 #[v, .int .i64 i] w fun e w' => e = .returned (.tuple #[.agg #[.int .i64 0, .slice none 0 0], .int .i64 2]) ∧ Below w.heap.size w w' := by
  obtain ⟨A, c, rfl, hnq⟩ := hv
  have E := (((Kn.start w).give Stable.list hnq).push 38 #[.int .i64 n.cap, .slice A n.q.length c]).push 38 #[.int .i64 0, .slice none 0 0]
  rw [World.size_alloc] at E
  clear hnq
  have HD := Lib.hid (decide_eq_true hh)
  go_enter Try.func29, Try.ntmps29
  go_wp2_with fail
  refine (has_any _ n i K _ ⟨_, _, rfl, E.get m0⟩).mono ?_
  rw [HD.out]
  rintro e w1 ⟨rfl, hb1⟩
  replace E := E.step hb1
  clear hb1
  have B4 := E.at_ m0
  obtain ⟨q4, f4⟩ := B4.rules
  obtain ⟨q2, f2, t2⟩ := E.rules m1
  have t4 := B4.lt
  have hg1 : decide (n.cap ≤ (n.q.length : Int)) = true := decide_eq_true hcap
  clear hcap hh
  go_wp2
  have F := ((B4.set_ 0 (.int .i64 0)).set_ 1 (.slice none 0 0)).rules
  clear q4 f4 q2 f2
  refine bodyPost_ret (v := .tuple #[.agg #[.int .i64 0, .slice none 0 0], .int .i64 2]) (by simp [results, Try.results29, go_sem, F.1]) rfl ⟨rfl, ?_⟩
  exact (E.below.setCell (by show w.heap.size ≤ w.heap.size + 1; omega) _).setCell (by show w.heap.size ≤ w.heap.size + 1; omega) _
end Go.Proofs.Ytbjgemipmlimoaa
