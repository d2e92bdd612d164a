/- The acts of the reference check at every number, and the walk of quicksetlaw13.model: printed by gen/refacts.py from XNetAct. -/
import Derived.Test.YtbjgemipmlimoaaNetAct
import Derived.Test.YtbjgemipmlimoaaRefOps
import Derived.Test.YtbjgemipmlimoaaRefSend
import Derived.Test.YtbjgemipmlimoaaRefCut
namespace Go.Proofs.Ytbjgemipmlimoaa
open Go.RowKit

section
variable (v : Value) (n : Nt) (i : Int) (K : Nat → Prop) (w : World) (hv : IsN w K v n) (hnl : ArgsLe n.q) (hn8 : n.q.length ≤ 100000000000)
include hv hnl hn8
theorem rtake_act : Calls Try.prog 74 #[v, .int .i64 i] w fun e w' => ∃ nv vm, e = .returned (.tuple #[nv, vm, .int .i64 (takeA n i).2.2]) ∧
    IsN w' (w.heap.size ≤ ·) nv (takeA n i).1 ∧ IsM w' (w.heap.size ≤ ·) vm (takeA n i).2.1 ∧ Below w.heap.size w w' := by
  rcases atN_cases n i with ⟨k, m, rfl, hm, ha, hr⟩ | ⟨hno, ha⟩
  · unfold takeA; rw [ha]; simp only [hr]
    refine (rtakeN_ok v n k m K w hv hm hnl (by omega)).mono ?_
    rintro e w' ⟨A', c', vm, rfl, h1, h3, hb⟩
    exact ⟨_, vm, rfl, OwnR.net h1 (by have := rest_len n hn8 k; omega), h3.more fun _ hb => hb.1, hb⟩
  · unfold takeA; rw [ha]
    refine (rtakeN_no v n i K w hv hno).mono ?_
    rintro e w' ⟨rfl, hb⟩
    exact ⟨_, _, rfl, IsN.zero _ _, IsM.zero _ _, hb⟩
theorem rdrop_act : Calls Try.prog 75 #[v, .int .i64 i] w fun e w' => ∃ nv, e = .returned (.tuple #[nv, .int .i64 (dropA n i).2]) ∧
    IsN w' (w.heap.size ≤ ·) nv (dropA n i).1 ∧ Below w.heap.size w w' := by
  rcases atN_cases n i with ⟨k, m, rfl, hm, ha, hr⟩ | ⟨hno, ha⟩
  · unfold dropA; rw [ha]; simp only [hr]
    refine (rdropN_ok v n k m K w hv hm hnl (by omega)).mono ?_
    rintro e w' ⟨A', c', rfl, h1, hb⟩
    exact ⟨_, rfl, OwnR.net h1 (by have := rest_len n hn8 k; omega), hb⟩
  · unfold dropA; rw [ha]
    refine (rdropN_no v n i K w hv hno).mono ?_
    rintro e w' ⟨rfl, hb⟩
    exact ⟨_, rfl, IsN.zero _ _, hb⟩
theorem rdouble_act : Calls Try.prog 76 #[v, .int .i64 i] w fun e w' => ∃ nv, e = .returned (.tuple #[nv, .int .i64 (doubleA n i).2]) ∧
    IsN w' (w.heap.size ≤ ·) nv (doubleA n i).1 ∧ Below w.heap.size w w' := by
  rcases atN_cases n i with ⟨k, m, rfl, hm, ha, hr⟩ | ⟨hno, ha⟩
  · have hk := (List.getElem?_eq_some_iff.1 hm).1
    by_cases hc : (n.q.length : Int) < n.cap
    · unfold doubleA; rw [ha]; simp only [if_pos hc]
      refine (rdoubleN_ok v n k m K w hv hm hc hnl (by omega)).mono ?_
      rintro e w' ⟨A', c', rfl, h1, hb⟩
      exact ⟨_, rfl, OwnR.net h1 (by simp; omega), hb⟩
    · unfold doubleA; rw [ha]; simp only [if_neg hc]
      refine (rdoubleN_full v n k K w hv ⟨by omega, by omega⟩ (by omega)).mono ?_
      rintro e w' ⟨rfl, hb⟩
      exact ⟨_, rfl, IsN.zero _ _, hb⟩
  · unfold doubleA; rw [ha]
    refine (rdoubleN_no v n i K w hv hno).mono ?_
    rintro e w' ⟨rfl, hb⟩
    exact ⟨_, rfl, IsN.zero _ _, hb⟩
theorem rlater_act : Calls Try.prog 77 #[v, .int .i64 i] w fun e w' => ∃ nv, e = .returned (.tuple #[nv, .int .i64 (laterA n i).2]) ∧
    IsN w' (w.heap.size ≤ ·) nv (laterA n i).1 ∧ Below w.heap.size w w' := by
  rcases atN_cases n i with ⟨k, m, rfl, hm, ha, hr⟩ | ⟨hno, ha⟩
  · unfold laterA; rw [ha]; simp only [hr]
    refine (rlaterN_ok v n k m K w hv hm hnl (by omega)).mono ?_
    rintro e w' ⟨A', c', rfl, h1, hb⟩
    exact ⟨_, rfl, OwnR.net h1 (by rw [List.length_append]; have := rest_len n hn8 k; simp only [List.length_singleton]; omega), hb⟩
  · unfold laterA; rw [ha]
    refine (rlaterN_no v n i K w hv hno).mono ?_
    rintro e w' ⟨rfl, hb⟩
    exact ⟨_, rfl, IsN.zero _ _, hb⟩
theorem rcut_act : Calls Try.prog 78 #[v, .int .i64 i] w fun e w' => ∃ nv, e = .returned (.tuple #[nv, .int .i64 (cutA n i).2]) ∧
    IsN w' (w.heap.size ≤ ·) nv (cutA n i).1 ∧ Below w.heap.size w w' := by
  refine (rcutN_any v n i K w hv hnl (by omega)).mono ?_
  rintro e w' ⟨A', c', rfl, h1, hb⟩
  exact ⟨_, rfl, OwnR.net h1 (by have := List.length_filter_le (notN i) n.q; omega), hb⟩
theorem rsend_act (lv : Value) (l : List Ms) (K' : Nat → Prop) (hq : IsL Rp.msg w K' lv l) (hl : ∀ m ∈ l, m.args.length ≤ 17592186043904) (hl8 : l.length ≤ 2000000000000) (hcap9 : n.cap ≤ 100000000000) (hnc : (n.q.length : Int) ≤ n.cap) :
    Calls Try.prog 73 #[v, lv] w fun e w' => ∃ nv, e = .returned (.tuple #[nv, .int .i64 (sendA n l).2]) ∧
    IsN w' (w.heap.size ≤ ·) nv (sendA n l).1 ∧ Below w.heap.size w w' := by
  refine (rsend_big v lv n l K K' w hv hq hl hnl hl8 hn8 hcap9).mono ?_
  rintro e w' ⟨A', c', rfl, h1, hb⟩
  refine ⟨_, rfl, OwnR.net h1 ?_, hb⟩
  obtain ⟨t, _, h2, _, h3⟩ := sendQ_form n.cap l n.q 0
  have := h3 hnc
  rw [h2]; show (n.q ++ t).length ≤ _
  omega
end

set_option maxRecDepth 100000 in
set_option maxHeartbeats 4000000 in
theorem model_any (v lv : Value) (n : Nt) (d i : Int) (l : List Ms) (K K' : Nat → Prop) (w : World) (hv : IsN w K v n) (hq : IsL Rp.msg w K' lv l) (ho : OkAct n ⟨d, i, l⟩) :
    Calls Try.prog 50 #[v, .agg #[.int .i64 d, .int .i64 i, lv]] w fun e w' => ∃ nv vm, e = .returned (.tuple #[nv, vm, .int .i64 (actA n ⟨d, i, l⟩).2.2.1, .int .i64 (actA n ⟨d, i, l⟩).2.2.2]) ∧
    IsN w' (w.heap.size ≤ ·) nv (actA n ⟨d, i, l⟩).1 ∧ IsM w' (w.heap.size ≤ ·) vm (actA n ⟨d, i, l⟩).2.1 ∧ Below w.heap.size w w' := by
  obtain ⟨res, hres⟩ : ∃ res, actA n ⟨d, i, l⟩ = res := ⟨_, rfl⟩
  rw [hres]
  have hq0 := hq
  have hv0 := hv
  obtain ⟨Al, cl, rfl, hlc, hcc⟩ := hq.form
  obtain ⟨A, c, rfl, hnq⟩ := hv
  have E := ((((((Kn.start w).give Stable.net hv0).give Stable.list hq0).push 38 #[.int .i64 n.cap, .slice A n.q.length c]).push 73 #[.int .i64 d, .int .i64 i, .slice Al l.length cl]).push 38 #[.int .i64 0, .slice none 0 0]).push 45 #[.int .i64 0, .int .i64 0, .int .i64 0, .int .i64 0, .slice none 0 0, .slice none 0 0] |>.push 45 #[.int .i64 0, .int .i64 0, .int .i64 0, .int .i64 0, .slice none 0 0, .slice none 0 0]
  rw [World.size_alloc, World.size_alloc, World.size_alloc, World.size_alloc] at E
  clear hnq hv0 hq0 hq
  by_cases h0 : d = 0
  · subst h0
    have hr : res = ((sendA n l).1, mz, 0, (sendA n l).2) := by rw [← hres]; rfl
    clear hres; subst hr
    obtain ⟨⟨rn, rk⟩, hra⟩ : ∃ ra, sendA n l = ra := ⟨_, rfl⟩
    have hcall := fun W hv hq => rsend_act (.agg #[.int .i64 n.cap, .slice A n.q.length c]) n K W hv ho.args ho.len (.slice Al l.length cl) l K' hq ho.sent ho.many ho.cap ho.room
    rw [hra] at hcall ⊢
    have HC := Lib.hid hcall; clear hcall hra ho
    go_enter Try.func50, Try.ntmps50
    go_wp2_with fail
    refine (HC.out _ (E.get m1) (E.get m0)).mono ?_
    rintro e w1 ⟨nv, rfl, hn, hb⟩
    replace E := E.step hb
    have hs := hb.size
    simp only [World.size_alloc] at hs
    simp only [World.size_alloc] at hn
    clear hb
    obtain ⟨A1, c1, rfl, hn1⟩ := hn
    obtain ⟨q1, f1, t1⟩ := E.rules m0
    obtain ⟨q2, f2, t2⟩ := E.rules m1
    obtain ⟨q3, f3, t3⟩ := E.rules m2
    obtain ⟨q4, f4, t4⟩ := E.rules m4
    go_wp2
    go_region
    go_wp2
    refine bodyPost_ret (v := .tuple #[.agg #[.int .i64 rn.cap, .slice A1 rn.q.length c1], .agg #[.int .i64 0, .int .i64 0, .int .i64 0, .int .i64 0, .slice none 0 0, .slice none 0 0], .int .i64 0, .int .i64 rk]) (by simp [results, Try.results50, go_sem, q2, q3]) rfl ⟨_, _, rfl, ⟨A1, c1, rfl, (hn1.turned (S := fun b => b < w.heap.size + 1 + 1 + 1 + 1 + 1) ?_ ?_).more fun b hb => by have : _ ≤ b := hb; show w.heap.size ≤ b; omega⟩, IsM.zero _ _, ?_⟩
    · refine Turned.drew ?_
      repeat' (refine Turned.set ?_ (by show _ < _; omega) _ _)
      exact Turned.refl _ _
    · intro b hb; have := hb; show ¬ _ < _; omega
    · refine Below.drew ?_
      repeat' (refine Below.setCell ?_ (by dsimp only; omega) _)
      exact E.below
  by_cases h1 : d = 1
  · subst h1
    have hr : res = ((takeA n i).1, (takeA n i).2.1, (takeA n i).2.2, 0) := by rw [← hres]; rfl
    clear hres; subst hr
    obtain ⟨⟨rn, rm, re⟩, hra⟩ : ∃ ra, takeA n i = ra := ⟨_, rfl⟩
    have hcall := fun W hv => rtake_act (.agg #[.int .i64 n.cap, .slice A n.q.length c]) n i K W hv ho.args ho.len
    rw [hra] at hcall ⊢
    have HC := Lib.hid hcall; clear hcall hra ho
    go_enter Try.func50, Try.ntmps50
    go_wp2_with fail
    refine (HC.out _ (E.get m1)).mono ?_
    rintro e w1 ⟨nv, vm, rfl, hn, hm, hb⟩
    replace E := E.step hb
    have hs := hb.size
    simp only [World.size_alloc] at hs
    simp only [World.size_alloc] at hn hm
    clear hb
    obtain ⟨A1, c1, rfl, hn1⟩ := hn
    obtain ⟨A2, c2, A3, c3, rfl, hm1⟩ := id hm
    clear hm1
    unfold mv at hm ⊢
    obtain ⟨q1, f1, t1⟩ := E.rules m0
    obtain ⟨q2, f2, t2⟩ := E.rules m1
    obtain ⟨q3, f3, t3⟩ := E.rules m2
    obtain ⟨q4, f4, t4⟩ := E.rules m4
    go_wp2
    go_region
    go_wp2
    refine bodyPost_ret (v := .tuple #[.agg #[.int .i64 rn.cap, .slice A1 rn.q.length c1], .agg #[.int .i64 rm.kind, .int .i64 rm.frm, .int .i64 rm.to, .int .i64 rm.id, .slice A2 rm.args.length c2, .slice A3 rm.data.length c3], .int .i64 re, .int .i64 0]) (by simp [results, Try.results50, go_sem, q2, q3]) rfl ⟨_, _, rfl, ⟨A1, c1, rfl, (hn1.turned (S := fun b => b < w.heap.size + 1 + 1 + 1 + 1 + 1) ?_ ?_).more fun b hb => by have : _ ≤ b := hb; show w.heap.size ≤ b; omega⟩, (hm.turned (S := fun b => b < w.heap.size + 1 + 1 + 1 + 1 + 1) ?_ ?_).more fun b hb => by have : _ ≤ b := hb; show w.heap.size ≤ b; omega, ?_⟩
    · refine Turned.drew ?_
      repeat' (refine Turned.set ?_ (by show _ < _; omega) _ _)
      exact Turned.refl _ _
    · intro b hb; have : _ ≤ b := hb; show ¬ _ < _; omega
    · refine Turned.drew ?_
      repeat' (refine Turned.set ?_ (by show _ < _; omega) _ _)
      exact Turned.refl _ _
    · intro b hb; have : _ ≤ b := hb; show ¬ _ < _; omega
    · refine Below.drew ?_
      repeat' (refine Below.setCell ?_ (by dsimp only; omega) _)
      exact E.below
  by_cases h2 : d = 2
  · subst h2
    have hr : res = ((dropA n i).1, mz, (dropA n i).2, 0) := by rw [← hres]; rfl
    clear hres; subst hr
    obtain ⟨⟨rn, re⟩, hra⟩ : ∃ ra, dropA n i = ra := ⟨_, rfl⟩
    have hcall := fun W hv => rdrop_act (.agg #[.int .i64 n.cap, .slice A n.q.length c]) n i K W hv ho.args ho.len
    rw [hra] at hcall ⊢
    have HC := Lib.hid hcall; clear hcall hra ho
    go_enter Try.func50, Try.ntmps50
    go_wp2_with fail
    refine (HC.out _ (E.get m1)).mono ?_
    rintro e w1 ⟨nv, rfl, hn, hb⟩
    replace E := E.step hb
    have hs := hb.size
    simp only [World.size_alloc] at hs
    simp only [World.size_alloc] at hn
    clear hb
    obtain ⟨A1, c1, rfl, hn1⟩ := hn
    obtain ⟨q1, f1, t1⟩ := E.rules m0
    obtain ⟨q2, f2, t2⟩ := E.rules m1
    obtain ⟨q3, f3, t3⟩ := E.rules m2
    obtain ⟨q4, f4, t4⟩ := E.rules m4
    go_wp2
    go_region
    go_wp2
    refine bodyPost_ret (v := .tuple #[.agg #[.int .i64 rn.cap, .slice A1 rn.q.length c1], .agg #[.int .i64 0, .int .i64 0, .int .i64 0, .int .i64 0, .slice none 0 0, .slice none 0 0], .int .i64 re, .int .i64 0]) (by simp [results, Try.results50, go_sem, q2, q3]) rfl ⟨_, _, rfl, ⟨A1, c1, rfl, (hn1.turned (S := fun b => b < w.heap.size + 1 + 1 + 1 + 1 + 1) ?_ ?_).more fun b hb => by have : _ ≤ b := hb; show w.heap.size ≤ b; omega⟩, IsM.zero _ _, ?_⟩
    · refine Turned.drew ?_
      repeat' (refine Turned.set ?_ (by show _ < _; omega) _ _)
      exact Turned.refl _ _
    · intro b hb; have := hb; show ¬ _ < _; omega
    · refine Below.drew ?_
      repeat' (refine Below.setCell ?_ (by dsimp only; omega) _)
      exact E.below
  by_cases h3 : d = 3
  · subst h3
    have hr : res = ((doubleA n i).1, mz, (doubleA n i).2, 0) := by rw [← hres]; rfl
    clear hres; subst hr
    obtain ⟨⟨rn, re⟩, hra⟩ : ∃ ra, doubleA n i = ra := ⟨_, rfl⟩
    have hcall := fun W hv => rdouble_act (.agg #[.int .i64 n.cap, .slice A n.q.length c]) n i K W hv ho.args ho.len
    rw [hra] at hcall ⊢
    have HC := Lib.hid hcall; clear hcall hra ho
    go_enter Try.func50, Try.ntmps50
    go_wp2_with fail
    refine (HC.out _ (E.get m1)).mono ?_
    rintro e w1 ⟨nv, rfl, hn, hb⟩
    replace E := E.step hb
    have hs := hb.size
    simp only [World.size_alloc] at hs
    simp only [World.size_alloc] at hn
    clear hb
    obtain ⟨A1, c1, rfl, hn1⟩ := hn
    obtain ⟨q1, f1, t1⟩ := E.rules m0
    obtain ⟨q2, f2, t2⟩ := E.rules m1
    obtain ⟨q3, f3, t3⟩ := E.rules m2
    obtain ⟨q4, f4, t4⟩ := E.rules m4
    go_wp2
    go_region
    go_wp2
    refine bodyPost_ret (v := .tuple #[.agg #[.int .i64 rn.cap, .slice A1 rn.q.length c1], .agg #[.int .i64 0, .int .i64 0, .int .i64 0, .int .i64 0, .slice none 0 0, .slice none 0 0], .int .i64 re, .int .i64 0]) (by simp [results, Try.results50, go_sem, q2, q3]) rfl ⟨_, _, rfl, ⟨A1, c1, rfl, (hn1.turned (S := fun b => b < w.heap.size + 1 + 1 + 1 + 1 + 1) ?_ ?_).more fun b hb => by have : _ ≤ b := hb; show w.heap.size ≤ b; omega⟩, IsM.zero _ _, ?_⟩
    · refine Turned.drew ?_
      repeat' (refine Turned.set ?_ (by show _ < _; omega) _ _)
      exact Turned.refl _ _
    · intro b hb; have := hb; show ¬ _ < _; omega
    · refine Below.drew ?_
      repeat' (refine Below.setCell ?_ (by dsimp only; omega) _)
      exact E.below
  by_cases h4 : d = 4
  · subst h4
    have hr : res = ((laterA n i).1, mz, (laterA n i).2, 0) := by rw [← hres]; rfl
    clear hres; subst hr
    obtain ⟨⟨rn, re⟩, hra⟩ : ∃ ra, laterA n i = ra := ⟨_, rfl⟩
    have hcall := fun W hv => rlater_act (.agg #[.int .i64 n.cap, .slice A n.q.length c]) n i K W hv ho.args ho.len
    rw [hra] at hcall ⊢
    have HC := Lib.hid hcall; clear hcall hra ho
    go_enter Try.func50, Try.ntmps50
    go_wp2_with fail
    refine (HC.out _ (E.get m1)).mono ?_
    rintro e w1 ⟨nv, rfl, hn, hb⟩
    replace E := E.step hb
    have hs := hb.size
    simp only [World.size_alloc] at hs
    simp only [World.size_alloc] at hn
    clear hb
    obtain ⟨A1, c1, rfl, hn1⟩ := hn
    obtain ⟨q1, f1, t1⟩ := E.rules m0
    obtain ⟨q2, f2, t2⟩ := E.rules m1
    obtain ⟨q3, f3, t3⟩ := E.rules m2
    obtain ⟨q4, f4, t4⟩ := E.rules m4
    go_wp2
    go_region
    go_wp2
    refine bodyPost_ret (v := .tuple #[.agg #[.int .i64 rn.cap, .slice A1 rn.q.length c1], .agg #[.int .i64 0, .int .i64 0, .int .i64 0, .int .i64 0, .slice none 0 0, .slice none 0 0], .int .i64 re, .int .i64 0]) (by simp [results, Try.results50, go_sem, q2, q3]) rfl ⟨_, _, rfl, ⟨A1, c1, rfl, (hn1.turned (S := fun b => b < w.heap.size + 1 + 1 + 1 + 1 + 1) ?_ ?_).more fun b hb => by have : _ ≤ b := hb; show w.heap.size ≤ b; omega⟩, IsM.zero _ _, ?_⟩
    · refine Turned.drew ?_
      repeat' (refine Turned.set ?_ (by show _ < _; omega) _ _)
      exact Turned.refl _ _
    · intro b hb; have := hb; show ¬ _ < _; omega
    · refine Below.drew ?_
      repeat' (refine Below.setCell ?_ (by dsimp only; omega) _)
      exact E.below
  · have hr : res = ((cutA n i).1, mz, 0, (cutA n i).2) := by rw [← hres]; unfold actA; rw [if_neg h0, if_neg h1, if_neg h2, if_neg h3, if_neg h4]
    clear hres; subst hr
    obtain ⟨⟨rn, rk⟩, hra⟩ : ∃ ra, cutA n i = ra := ⟨_, rfl⟩
    have hcall := fun W hv => rcut_act (.agg #[.int .i64 n.cap, .slice A n.q.length c]) n i K W hv ho.args ho.len
    rw [hra] at hcall ⊢
    have HC := Lib.hid hcall; clear hcall hra ho
    go_enter Try.func50, Try.ntmps50
    go_wp2_with fail
    refine (HC.out _ (E.get m1)).mono ?_
    rintro e w1 ⟨nv, rfl, hn, hb⟩
    replace E := E.step hb
    have hs := hb.size
    simp only [World.size_alloc] at hs
    simp only [World.size_alloc] at hn
    clear hb
    obtain ⟨A1, c1, rfl, hn1⟩ := hn
    obtain ⟨q1, f1, t1⟩ := E.rules m0
    obtain ⟨q2, f2, t2⟩ := E.rules m1
    obtain ⟨q3, f3, t3⟩ := E.rules m2
    obtain ⟨q4, f4, t4⟩ := E.rules m4
    go_wp2
    go_region
    go_wp2
    refine bodyPost_ret (v := .tuple #[.agg #[.int .i64 rn.cap, .slice A1 rn.q.length c1], .agg #[.int .i64 0, .int .i64 0, .int .i64 0, .int .i64 0, .slice none 0 0, .slice none 0 0], .int .i64 0, .int .i64 rk]) (by simp [results, Try.results50, go_sem, q2, q3]) rfl ⟨_, _, rfl, ⟨A1, c1, rfl, (hn1.turned (S := fun b => b < w.heap.size + 1 + 1 + 1 + 1 + 1) ?_ ?_).more fun b hb => by have : _ ≤ b := hb; show w.heap.size ≤ b; omega⟩, IsM.zero _ _, ?_⟩
    · refine Turned.drew ?_
      repeat' (refine Turned.set ?_ (by show _ < _; omega) _ _)
      exact Turned.refl _ _
    · intro b hb; have := hb; show ¬ _ < _; omega
    · refine Below.drew ?_
      repeat' (refine Below.setCell ?_ (by dsimp only; omega) _)
      exact E.below

end Go.Proofs.Ytbjgemipmlimoaa
