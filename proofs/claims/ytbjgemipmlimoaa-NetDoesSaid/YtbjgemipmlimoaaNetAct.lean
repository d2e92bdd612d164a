/- The acts upon a net at every number, each one's contract with a plain answer; then the walk of quicksetlaw13.body. -/
import Derived.Test.YtbjgemipmlimoaaNetDid
import Derived.Test.YtbjgemipmlimoaaNetOps
import Derived.Test.YtbjgemipmlimoaaNetCutN
import Derived.Test.YtbjgemipmlimoaaAct13
import Derived.Test.YtbjgemipmlimoaaRep
namespace Go.Proofs.Ytbjgemipmlimoaa
open Go.RowKit

def mz : Ms := ⟨0, 0, 0, 0, [], []⟩
def nz : Nt := ⟨0, []⟩
theorem IsM.zero (w : World) (K : Nat → Prop) : IsM w K (.agg #[.int .i64 0, .int .i64 0, .int .i64 0, .int .i64 0, .slice none 0 0, .slice none 0 0]) mz :=
  ⟨none, 0, none, 0, rfl, IsL.nil_ _ _, IsB.nil_ _ _, by intro n hn; simp [mz] at hn; omega⟩
theorem FreeM.zero (w : World) : FreeM w (.agg #[.int .i64 0, .int .i64 0, .int .i64 0, .int .i64 0, .slice none 0 0, .slice none 0 0]) mz := ⟨none, 0, none, 0, rfl, FreeB.zero⟩
theorem IsN.zero (w : World) (K : Nat → Prop) : IsN w K (.agg #[.int .i64 0, .slice none 0 0]) nz := ⟨none, 0, rfl, IsL.nil_ _ _⟩
/-- the i-th message -/
def atN (n : Nt) (i : Int) : Option Ms := if 0 ≤ i then n.q[i.toNat]? else none
/-- all others -/
def restN (n : Nt) (i : Int) : List Ms := n.q.take i.toNat ++ n.q.drop (i.toNat + 1)
def takeA (n : Nt) (i : Int) : Nt × Ms × Int := match atN n i with | some m => (⟨n.cap, restN n i⟩, m, 0) | none => (nz, mz, 4)
def dropA (n : Nt) (i : Int) : Nt × Int := match atN n i with | some _ => (⟨n.cap, restN n i⟩, 0) | none => (nz, 4)
def doubleA (n : Nt) (i : Int) : Nt × Int := match atN n i with | some m => if (n.q.length : Int) < n.cap then (⟨n.cap, n.q ++ [m]⟩, 0) else (nz, 2) | none => (nz, 4)
def laterA (n : Nt) (i : Int) : Nt × Int := match atN n i with | some m => (⟨n.cap, restN n i ++ [m]⟩, 0) | none => (nz, 4)
def sendA (n : Nt) (l : List Ms) : Nt × Int := (⟨n.cap, (sendQ n.cap l n.q 0).1⟩, (sendQ n.cap l n.q 0).2)
def cutA (n : Nt) (node : Int) : Nt × Int := (⟨n.cap, n.q.filter (notN node)⟩, (n.q.length : Int) - ((n.q.filter (notN node)).length : Int))
/-- what an act answers: the net, a message, an error, a number -/
def actA (n : Nt) (o : An) : Nt × Ms × Int × Int :=
  if o.d = 0 then ((sendA n o.l).1, mz, 0, (sendA n o.l).2)
  else if o.d = 1 then ((takeA n o.i).1, (takeA n o.i).2.1, (takeA n o.i).2.2, 0)
  else if o.d = 2 then ((dropA n o.i).1, mz, (dropA n o.i).2, 0)
  else if o.d = 3 then ((doubleA n o.i).1, mz, (doubleA n o.i).2, 0)
  else if o.d = 4 then ((laterA n o.i).1, mz, (laterA n o.i).2, 0)
  else ((cutA n o.i).1, mz, 0, (cutA n o.i).2)
theorem atN_cases (n : Nt) (i : Int) : (∃ (k : Nat) (m : Ms), i = (k : Int) ∧ n.q[k]? = some m ∧ atN n i = some m ∧ restN n i = n.q.take k ++ n.q.drop (k + 1)) ∨ (¬ (0 ≤ i ∧ i < (n.q.length : Int)) ∧ atN n i = none) := by
  by_cases h : 0 ≤ i ∧ i < (n.q.length : Int)
  · have hk : i.toNat < n.q.length := by omega
    refine .inl ⟨i.toNat, n.q[i.toNat], by omega, List.getElem?_eq_getElem hk, ?_, rfl⟩
    unfold atN; rw [if_pos h.1, List.getElem?_eq_getElem hk]
  · refine .inr ⟨h, ?_⟩
    unfold atN
    split
    · exact List.getElem?_eq_none (by omega)
    · rfl

/-- a row of the call's own, as a net's -/
theorem OwnR.net {w' : World} {base : Nat} {A : Option Addr} {c : Nat} {l : List Ms} {cap : Int} (h : OwnR Rp.msg w' base 45 (fun b => base ≤ b) (.slice A l.length c) l) (hl : l.length ≤ 140737488355328) : IsN w' (base ≤ ·) (.agg #[.int .i64 cap, .slice A l.length c]) ⟨cap, l⟩ :=
  ⟨A, c, rfl, h.isL hl (fun _ h => h) (fun _ h => h)⟩
theorem rest_len (n : Nt) (hn8 : n.q.length ≤ 100000000000) (k : Nat) : (n.q.take k ++ n.q.drop (k + 1)).length ≤ 100000000001 := by simp; omega
section
variable (v : Value) (n : Nt) (i : Int) (K : Nat → Prop) (w : World) (hv : IsN w K v n) (hnl : ArgsLe n.q) (hn8 : n.q.length ≤ 100000000000)
include hv hnl hn8
theorem take_act : Calls Try.prog 27 #[v, .int .i64 i] w fun e w' => ∃ nv vm g, e = .returned (.tuple #[nv, vm, .int .i64 (takeA n i).2.2]) ∧
    IsN w' (fun b => w.heap.size ≤ b ∧ b < g) nv (takeA n i).1 ∧ IsM w' (fun b => w.heap.size ≤ b ∧ g ≤ b) vm (takeA n i).2.1 ∧ FreeM w' vm (takeA n i).2.1 ∧ Below w.heap.size w w' := by
  rcases atN_cases n i with ⟨k, m, rfl, hm, ha, hr⟩ | ⟨hno, ha⟩
  · unfold takeA; rw [ha]; simp only [hr]
    refine (takeN_free v n k m K w hv hm hnl (by omega)).mono ?_
    rintro e w' ⟨A', c', vm, g, rfl, h1, h2, h3, hf, hb⟩
    exact ⟨_, vm, g, rfl, ⟨A', c', rfl, h2⟩, h3.more fun _ hb => ⟨hb.1, hb.2.1⟩, hf, hb⟩
  · unfold takeA; rw [ha]
    refine (takeN_no v n i K w hv hno).mono ?_
    rintro e w' ⟨rfl, hb⟩
    exact ⟨_, _, 0, rfl, IsN.zero _ _, IsM.zero _ _, FreeM.zero _, hb⟩
theorem drop_act : Calls Try.prog 30 #[v, .int .i64 i] w fun e w' => ∃ nv, e = .returned (.tuple #[nv, .int .i64 (dropA n i).2]) ∧
    IsN w' (w.heap.size ≤ ·) nv (dropA n i).1 ∧ Below w.heap.size w w' := by
  rcases atN_cases n i with ⟨k, m, rfl, hm, ha, hr⟩ | ⟨hno, ha⟩
  · unfold dropA; rw [ha]; simp only [hr]
    refine (dropN_ok v n k m K w hv hm hnl (by omega)).mono ?_
    rintro e w' ⟨A', c', rfl, h1, hb⟩
    exact ⟨_, rfl, OwnR.net h1 (by have := rest_len n hn8 k; omega), hb⟩
  · unfold dropA; rw [ha]
    refine (dropN_no v n i K w hv hno).mono ?_
    rintro e w' ⟨rfl, hb⟩
    exact ⟨_, rfl, IsN.zero _ _, hb⟩
theorem double_act : Calls Try.prog 29 #[v, .int .i64 i] w fun e w' => ∃ nv, e = .returned (.tuple #[nv, .int .i64 (doubleA n i).2]) ∧
    IsN w' (w.heap.size ≤ ·) nv (doubleA n i).1 ∧ Below w.heap.size w w' := by
  rcases atN_cases n i with ⟨k, m, rfl, hm, ha, hr⟩ | ⟨hno, ha⟩
  · have hk := (List.getElem?_eq_some_iff.1 hm).1
    by_cases hc : (n.q.length : Int) < n.cap
    · unfold doubleA; rw [ha]; simp only [if_pos hc]
      refine (doubleN_ok v n k m K w hv hm hc hnl (by omega)).mono ?_
      rintro e w' ⟨A', c', rfl, h1, hb⟩
      exact ⟨_, rfl, OwnR.net h1 (by simp; omega), hb⟩
    · unfold doubleA; rw [ha]; simp only [if_neg hc]
      refine (doubleN_full v n k K w hv ⟨by omega, by omega⟩ (by omega)).mono ?_
      rintro e w' ⟨rfl, hb⟩
      exact ⟨_, rfl, IsN.zero _ _, hb⟩
  · unfold doubleA; rw [ha]
    refine (doubleN_no v n i K w hv hno).mono ?_
    rintro e w' ⟨rfl, hb⟩
    exact ⟨_, rfl, IsN.zero _ _, hb⟩
theorem later_act : Calls Try.prog 26 #[v, .int .i64 i] w fun e w' => ∃ nv, e = .returned (.tuple #[nv, .int .i64 (laterA n i).2]) ∧
    IsN w' (w.heap.size ≤ ·) nv (laterA n i).1 ∧ Below w.heap.size w w' := by
  rcases atN_cases n i with ⟨k, m, rfl, hm, ha, hr⟩ | ⟨hno, ha⟩
  · unfold laterA; rw [ha]; simp only [hr]
    refine (laterN_ok v n k m K w hv hm hnl (by omega)).mono ?_
    rintro e w' ⟨A', c', rfl, h1, hb⟩
    exact ⟨_, rfl, OwnR.net h1 (by rw [List.length_append]; have := rest_len n hn8 k; simp only [List.length_singleton]; omega), hb⟩
  · unfold laterA; rw [ha]
    refine (laterN_no v n i K w hv hno).mono ?_
    rintro e w' ⟨rfl, hb⟩
    exact ⟨_, rfl, IsN.zero _ _, hb⟩
theorem cut_act : Calls Try.prog 32 #[v, .int .i64 i] w fun e w' => ∃ nv, e = .returned (.tuple #[nv, .int .i64 (cutA n i).2]) ∧
    IsN w' (w.heap.size ≤ ·) nv (cutA n i).1 ∧ Below w.heap.size w w' := by
  refine (cutN_any v n i K w hv hnl (by omega)).mono ?_
  rintro e w' ⟨A', c', rfl, h1, hb⟩
  exact ⟨_, rfl, OwnR.net h1 (by have := List.length_filter_le (notN i) n.q; omega), hb⟩
theorem send_act (lv : Value) (l : List Ms) (K' : Nat → Prop) (hq : IsL Rp.msg w K' lv l) (hl : ∀ m ∈ l, m.args.length ≤ 17592186043904) (hl8 : l.length ≤ 2000000000000) (hcap9 : n.cap ≤ 100000000000) (hnc : (n.q.length : Int) ≤ n.cap) :
    Calls Try.prog 24 #[v, lv] w fun e w' => ∃ nv, e = .returned (.tuple #[nv, .int .i64 (sendA n l).2]) ∧
    IsN w' (w.heap.size ≤ ·) nv (sendA n l).1 ∧ Below w.heap.size w w' := by
  refine (send_big v lv n l K K' w hv hq hl hnl hl8 hn8 hcap9).mono ?_
  rintro e w' ⟨A', c', rfl, h1, hb⟩
  refine ⟨_, rfl, OwnR.net h1 ?_, hb⟩
  obtain ⟨t, _, h2, _, h3⟩ := sendQ_form n.cap l n.q 0
  have := h3 hnc
  rw [h2]; show (n.q ++ t).length ≤ _
  omega
end

/-- the acts' arguments are small enough -/
structure OkAct (n : Nt) (o : An) : Prop where
  args : ArgsLe n.q
  len : n.q.length ≤ 100000000000
  cap : n.cap ≤ 100000000000
  room : (n.q.length : Int) ≤ n.cap
  sent : ∀ m ∈ o.l, m.args.length ≤ 17592186043904
  many : o.l.length ≤ 2000000000000

theorem IsM.turned {w w' : World} {K S : Nat → Prop} {v : Value} {m : Ms} (h : IsM w K v m) (ht : Turned w w' S) (hK : ∀ b, K b → ¬ S b) : IsM w' K v m := by
  obtain ⟨A1, c1, A2, c2, e, h1, h2, h3⟩ := h; exact ⟨A1, c1, A2, c2, e, h1.turned ht hK, h2.turned ht hK, h3⟩
theorem IsN.turned {w w' : World} {K S : Nat → Prop} {v : Value} {n : Nt} (h : IsN w K v n) (ht : Turned w w' S) (hK : ∀ b, K b → ¬ S b) : IsN w' K v n := by
  obtain ⟨A, c, e, h1⟩ := h; exact ⟨A, c, e, h1.turned ht hK⟩

set_option maxRecDepth 100000 in
set_option maxHeartbeats 4000000 in
theorem body_free (v lv : Value) (n : Nt) (d i : Int) (l : List Ms) (K K' : Nat → Prop) (w : World) (hv : IsN w K v n) (hq : IsL Rp.msg w K' lv l) (ho : OkAct n ⟨d, i, l⟩) :
    Calls Try.prog 44 #[v, .agg #[.int .i64 d, .int .i64 i, lv]] w fun e w' => ∃ nv vm KN KM, e = .returned (.tuple #[nv, vm, .int .i64 (actA n ⟨d, i, l⟩).2.2.1, .int .i64 (actA n ⟨d, i, l⟩).2.2.2]) ∧
    IsN w' KN nv (actA n ⟨d, i, l⟩).1 ∧ IsM w' KM vm (actA n ⟨d, i, l⟩).2.1 ∧ (∀ b, KN b → w.heap.size ≤ b) ∧ (∀ b, KM b → w.heap.size ≤ b ∧ ¬ KN b) ∧ FreeM w' vm (actA n ⟨d, i, l⟩).2.1 ∧ Below w.heap.size w w' := by
  obtain ⟨res, hres⟩ : ∃ res, actA n ⟨d, i, l⟩ = res := ⟨_, rfl⟩
  rw [hres]
  have hq0 := hq
  have hv0 := hv
  obtain ⟨Al, cl, rfl, hlc, hcc⟩ := hq.form
  obtain ⟨A, c, rfl, hnq⟩ := hv
  have E := ((((((Kn.start w).give Stable.net hv0).give Stable.list hq0).push 38 #[.int .i64 n.cap, .slice A n.q.length c]).push 73 #[.int .i64 d, .int .i64 i, .slice Al l.length cl]).push 38 #[.int .i64 0, .slice none 0 0]).push 45 #[.int .i64 0, .int .i64 0, .int .i64 0, .int .i64 0, .slice none 0 0, .slice none 0 0] |>.push 45 #[.int .i64 0, .int .i64 0, .int .i64 0, .int .i64 0, .slice none 0 0, .slice none 0 0]
  rw [World.size_alloc, World.size_alloc, World.size_alloc, World.size_alloc] at E
  clear hnq hv0 hq0 hq
  by_cases h0 : d = 0
  · subst h0
    have hr : res = ((sendA n l).1, mz, 0, (sendA n l).2) := by rw [← hres]; rfl
    clear hres; subst hr
    obtain ⟨⟨rn, rk⟩, hra⟩ : ∃ ra, sendA n l = ra := ⟨_, rfl⟩
    have hcall := fun W hv hq => send_act (.agg #[.int .i64 n.cap, .slice A n.q.length c]) n K W hv ho.args ho.len (.slice Al l.length cl) l K' hq ho.sent ho.many ho.cap ho.room
    rw [hra] at hcall ⊢
    have HC := Lib.hid hcall; clear hcall hra ho
    go_enter Try.func44, Try.ntmps44
    go_wp2_with fail
    refine (HC.out _ (E.get m1) (E.get m0)).mono ?_
    rintro e w1 ⟨nv, rfl, hn, hb⟩
    replace E := E.step hb
    have hs := hb.size
    simp only [World.size_alloc] at hs
    simp only [World.size_alloc] at hn
    clear hb
    obtain ⟨A1, c1, rfl, hn1⟩ := hn
    obtain ⟨q1, f1, t1⟩ := E.rules m0
    obtain ⟨q2, f2, t2⟩ := E.rules m1
    obtain ⟨q3, f3, t3⟩ := E.rules m2
    obtain ⟨q4, f4, t4⟩ := E.rules m4
    go_wp2
    go_region
    go_wp2
    refine bodyPost_ret (v := .tuple #[.agg #[.int .i64 rn.cap, .slice A1 rn.q.length c1], .agg #[.int .i64 0, .int .i64 0, .int .i64 0, .int .i64 0, .slice none 0 0, .slice none 0 0], .int .i64 0, .int .i64 rk]) (by simp [results, Try.results44, go_sem, q2, q3]) rfl ⟨_, _, _, (fun _ => False), rfl, ⟨A1, c1, rfl, hn1.turned (S := fun b => b < w.heap.size + 1 + 1 + 1 + 1 + 1) ?_ ?_⟩, IsM.zero _ _, fun b hb => by have : _ ≤ b := hb; omega, fun b hb => hb.elim, FreeM.zero _, ?_⟩
    · refine Turned.drew ?_
      repeat' (refine Turned.set ?_ (by show _ < _; omega) _ _)
      exact Turned.refl _ _
    · intro b hb; have := hb; show ¬ _ < _; omega
    · refine Below.drew ?_
      repeat' (refine Below.setCell ?_ (by dsimp only; omega) _)
      exact E.below
  by_cases h1 : d = 1
  · subst h1
    have hr : res = ((takeA n i).1, (takeA n i).2.1, (takeA n i).2.2, 0) := by rw [← hres]; rfl
    clear hres; subst hr
    obtain ⟨⟨rn, rm, re⟩, hra⟩ : ∃ ra, takeA n i = ra := ⟨_, rfl⟩
    have hcall := fun W hv => take_act (.agg #[.int .i64 n.cap, .slice A n.q.length c]) n i K W hv ho.args ho.len
    rw [hra] at hcall ⊢
    have HC := Lib.hid hcall; clear hcall hra ho
    go_enter Try.func44, Try.ntmps44
    go_wp2_with fail
    refine (HC.out _ (E.get m1)).mono ?_
    rintro e w1 ⟨nv, vm, g, rfl, hn, hm, hfr, hb⟩
    have HFR := Lib.hid hfr; clear hfr
    replace E := E.step hb
    have hs := hb.size
    simp only [World.size_alloc] at hs
    simp only [World.size_alloc] at hn hm
    clear hb
    obtain ⟨A1, c1, rfl, hn1⟩ := hn
    obtain ⟨A2, c2, A3, c3, rfl, hm1⟩ := id hm
    clear hm1
    unfold mv at hm ⊢
    obtain ⟨q1, f1, t1⟩ := E.rules m0
    obtain ⟨q2, f2, t2⟩ := E.rules m1
    obtain ⟨q3, f3, t3⟩ := E.rules m2
    obtain ⟨q4, f4, t4⟩ := E.rules m4
    go_wp2
    go_region
    go_wp2
    refine bodyPost_ret (v := .tuple #[.agg #[.int .i64 rn.cap, .slice A1 rn.q.length c1], .agg #[.int .i64 rm.kind, .int .i64 rm.frm, .int .i64 rm.to, .int .i64 rm.id, .slice A2 rm.args.length c2, .slice A3 rm.data.length c3], .int .i64 re, .int .i64 0]) (by simp [results, Try.results44, go_sem, q2, q3]) rfl ⟨_, _, _, _, rfl, ⟨A1, c1, rfl, hn1.turned (S := fun b => b < w.heap.size + 1 + 1 + 1 + 1 + 1) ?_ ?_⟩, hm.turned (S := fun b => b < w.heap.size + 1 + 1 + 1 + 1 + 1) ?_ ?_, fun b hb => by have := hb.1; omega, fun b hb => ⟨by have := hb.1; omega, fun h => by have := h.2; have := hb.2; omega⟩, ?_, ?_⟩
    · refine Turned.drew ?_
      repeat' (refine Turned.set ?_ (by show _ < _; omega) _ _)
      exact Turned.refl _ _
    · intro b hb; have := hb.1; show ¬ _ < _; omega
    · refine Turned.drew ?_
      repeat' (refine Turned.set ?_ (by show _ < _; omega) _ _)
      exact Turned.refl _ _
    · intro b hb; have := hb.1; show ¬ _ < _; omega
    · show FreeM _ _ _
      refine FreeM.step (w := _) ?_ (Below.refl _ _).drew
      repeat' (refine FreeM.set ?_ _ _)
      exact HFR.out
    · refine Below.drew ?_
      repeat' (refine Below.setCell ?_ (by dsimp only; omega) _)
      exact E.below
  by_cases h2 : d = 2
  · subst h2
    have hr : res = ((dropA n i).1, mz, (dropA n i).2, 0) := by rw [← hres]; rfl
    clear hres; subst hr
    obtain ⟨⟨rn, re⟩, hra⟩ : ∃ ra, dropA n i = ra := ⟨_, rfl⟩
    have hcall := fun W hv => drop_act (.agg #[.int .i64 n.cap, .slice A n.q.length c]) n i K W hv ho.args ho.len
    rw [hra] at hcall ⊢
    have HC := Lib.hid hcall; clear hcall hra ho
    go_enter Try.func44, Try.ntmps44
    go_wp2_with fail
    refine (HC.out _ (E.get m1)).mono ?_
    rintro e w1 ⟨nv, rfl, hn, hb⟩
    replace E := E.step hb
    have hs := hb.size
    simp only [World.size_alloc] at hs
    simp only [World.size_alloc] at hn
    clear hb
    obtain ⟨A1, c1, rfl, hn1⟩ := hn
    obtain ⟨q1, f1, t1⟩ := E.rules m0
    obtain ⟨q2, f2, t2⟩ := E.rules m1
    obtain ⟨q3, f3, t3⟩ := E.rules m2
    obtain ⟨q4, f4, t4⟩ := E.rules m4
    go_wp2
    go_region
    go_wp2
    refine bodyPost_ret (v := .tuple #[.agg #[.int .i64 rn.cap, .slice A1 rn.q.length c1], .agg #[.int .i64 0, .int .i64 0, .int .i64 0, .int .i64 0, .slice none 0 0, .slice none 0 0], .int .i64 re, .int .i64 0]) (by simp [results, Try.results44, go_sem, q2, q3]) rfl ⟨_, _, _, (fun _ => False), rfl, ⟨A1, c1, rfl, hn1.turned (S := fun b => b < w.heap.size + 1 + 1 + 1 + 1 + 1) ?_ ?_⟩, IsM.zero _ _, fun b hb => by have : _ ≤ b := hb; omega, fun b hb => hb.elim, FreeM.zero _, ?_⟩
    · refine Turned.drew ?_
      repeat' (refine Turned.set ?_ (by show _ < _; omega) _ _)
      exact Turned.refl _ _
    · intro b hb; have := hb; show ¬ _ < _; omega
    · refine Below.drew ?_
      repeat' (refine Below.setCell ?_ (by dsimp only; omega) _)
      exact E.below
  by_cases h3 : d = 3
  · subst h3
    have hr : res = ((doubleA n i).1, mz, (doubleA n i).2, 0) := by rw [← hres]; rfl
    clear hres; subst hr
    obtain ⟨⟨rn, re⟩, hra⟩ : ∃ ra, doubleA n i = ra := ⟨_, rfl⟩
    have hcall := fun W hv => double_act (.agg #[.int .i64 n.cap, .slice A n.q.length c]) n i K W hv ho.args ho.len
    rw [hra] at hcall ⊢
    have HC := Lib.hid hcall; clear hcall hra ho
    go_enter Try.func44, Try.ntmps44
    go_wp2_with fail
    refine (HC.out _ (E.get m1)).mono ?_
    rintro e w1 ⟨nv, rfl, hn, hb⟩
    replace E := E.step hb
    have hs := hb.size
    simp only [World.size_alloc] at hs
    simp only [World.size_alloc] at hn
    clear hb
    obtain ⟨A1, c1, rfl, hn1⟩ := hn
    obtain ⟨q1, f1, t1⟩ := E.rules m0
    obtain ⟨q2, f2, t2⟩ := E.rules m1
    obtain ⟨q3, f3, t3⟩ := E.rules m2
    obtain ⟨q4, f4, t4⟩ := E.rules m4
    go_wp2
    go_region
    go_wp2
    refine bodyPost_ret (v := .tuple #[.agg #[.int .i64 rn.cap, .slice A1 rn.q.length c1], .agg #[.int .i64 0, .int .i64 0, .int .i64 0, .int .i64 0, .slice none 0 0, .slice none 0 0], .int .i64 re, .int .i64 0]) (by simp [results, Try.results44, go_sem, q2, q3]) rfl ⟨_, _, _, (fun _ => False), rfl, ⟨A1, c1, rfl, hn1.turned (S := fun b => b < w.heap.size + 1 + 1 + 1 + 1 + 1) ?_ ?_⟩, IsM.zero _ _, fun b hb => by have : _ ≤ b := hb; omega, fun b hb => hb.elim, FreeM.zero _, ?_⟩
    · refine Turned.drew ?_
      repeat' (refine Turned.set ?_ (by show _ < _; omega) _ _)
      exact Turned.refl _ _
    · intro b hb; have := hb; show ¬ _ < _; omega
    · refine Below.drew ?_
      repeat' (refine Below.setCell ?_ (by dsimp only; omega) _)
      exact E.below
  by_cases h4 : d = 4
  · subst h4
    have hr : res = ((laterA n i).1, mz, (laterA n i).2, 0) := by rw [← hres]; rfl
    clear hres; subst hr
    obtain ⟨⟨rn, re⟩, hra⟩ : ∃ ra, laterA n i = ra := ⟨_, rfl⟩
    have hcall := fun W hv => later_act (.agg #[.int .i64 n.cap, .slice A n.q.length c]) n i K W hv ho.args ho.len
    rw [hra] at hcall ⊢
    have HC := Lib.hid hcall; clear hcall hra ho
    go_enter Try.func44, Try.ntmps44
    go_wp2_with fail
    refine (HC.out _ (E.get m1)).mono ?_
    rintro e w1 ⟨nv, rfl, hn, hb⟩
    replace E := E.step hb
    have hs := hb.size
    simp only [World.size_alloc] at hs
    simp only [World.size_alloc] at hn
    clear hb
    obtain ⟨A1, c1, rfl, hn1⟩ := hn
    obtain ⟨q1, f1, t1⟩ := E.rules m0
    obtain ⟨q2, f2, t2⟩ := E.rules m1
    obtain ⟨q3, f3, t3⟩ := E.rules m2
    obtain ⟨q4, f4, t4⟩ := E.rules m4
    go_wp2
    go_region
    go_wp2
    refine bodyPost_ret (v := .tuple #[.agg #[.int .i64 rn.cap, .slice A1 rn.q.length c1], .agg #[.int .i64 0, .int .i64 0, .int .i64 0, .int .i64 0, .slice none 0 0, .slice none 0 0], .int .i64 re, .int .i64 0]) (by simp [results, Try.results44, go_sem, q2, q3]) rfl ⟨_, _, _, (fun _ => False), rfl, ⟨A1, c1, rfl, hn1.turned (S := fun b => b < w.heap.size + 1 + 1 + 1 + 1 + 1) ?_ ?_⟩, IsM.zero _ _, fun b hb => by have : _ ≤ b := hb; omega, fun b hb => hb.elim, FreeM.zero _, ?_⟩
    · refine Turned.drew ?_
      repeat' (refine Turned.set ?_ (by show _ < _; omega) _ _)
      exact Turned.refl _ _
    · intro b hb; have := hb; show ¬ _ < _; omega
    · refine Below.drew ?_
      repeat' (refine Below.setCell ?_ (by dsimp only; omega) _)
      exact E.below
  · have hr : res = ((cutA n i).1, mz, 0, (cutA n i).2) := by rw [← hres]; unfold actA; rw [if_neg h0, if_neg h1, if_neg h2, if_neg h3, if_neg h4]
    clear hres; subst hr
    obtain ⟨⟨rn, rk⟩, hra⟩ : ∃ ra, cutA n i = ra := ⟨_, rfl⟩
    have hcall := fun W hv => cut_act (.agg #[.int .i64 n.cap, .slice A n.q.length c]) n i K W hv ho.args ho.len
    rw [hra] at hcall ⊢
    have HC := Lib.hid hcall; clear hcall hra ho
    go_enter Try.func44, Try.ntmps44
    go_wp2_with fail
    refine (HC.out _ (E.get m1)).mono ?_
    rintro e w1 ⟨nv, rfl, hn, hb⟩
    replace E := E.step hb
    have hs := hb.size
    simp only [World.size_alloc] at hs
    simp only [World.size_alloc] at hn
    clear hb
    obtain ⟨A1, c1, rfl, hn1⟩ := hn
    obtain ⟨q1, f1, t1⟩ := E.rules m0
    obtain ⟨q2, f2, t2⟩ := E.rules m1
    obtain ⟨q3, f3, t3⟩ := E.rules m2
    obtain ⟨q4, f4, t4⟩ := E.rules m4
    go_wp2
    go_region
    go_wp2
    refine bodyPost_ret (v := .tuple #[.agg #[.int .i64 rn.cap, .slice A1 rn.q.length c1], .agg #[.int .i64 0, .int .i64 0, .int .i64 0, .int .i64 0, .slice none 0 0, .slice none 0 0], .int .i64 0, .int .i64 rk]) (by simp [results, Try.results44, go_sem, q2, q3]) rfl ⟨_, _, _, (fun _ => False), rfl, ⟨A1, c1, rfl, hn1.turned (S := fun b => b < w.heap.size + 1 + 1 + 1 + 1 + 1) ?_ ?_⟩, IsM.zero _ _, fun b hb => by have : _ ≤ b := hb; omega, fun b hb => hb.elim, FreeM.zero _, ?_⟩
    · refine Turned.drew ?_
      repeat' (refine Turned.set ?_ (by show _ < _; omega) _ _)
      exact Turned.refl _ _
    · intro b hb; have := hb; show ¬ _ < _; omega
    · refine Below.drew ?_
      repeat' (refine Below.setCell ?_ (by dsimp only; omega) _)
      exact E.below

theorem body_any (v lv : Value) (n : Nt) (d i : Int) (l : List Ms) (K K' : Nat → Prop) (w : World) (hv : IsN w K v n) (hq : IsL Rp.msg w K' lv l) (ho : OkAct n ⟨d, i, l⟩) :
    Calls Try.prog 44 #[v, .agg #[.int .i64 d, .int .i64 i, lv]] w fun e w' => ∃ nv vm KN KM, e = .returned (.tuple #[nv, vm, .int .i64 (actA n ⟨d, i, l⟩).2.2.1, .int .i64 (actA n ⟨d, i, l⟩).2.2.2]) ∧
    IsN w' KN nv (actA n ⟨d, i, l⟩).1 ∧ IsM w' KM vm (actA n ⟨d, i, l⟩).2.1 ∧ (∀ b, KN b → w.heap.size ≤ b) ∧ (∀ b, KM b → w.heap.size ≤ b ∧ ¬ KN b) ∧ Below w.heap.size w w' :=
  (body_free v lv n d i l K K' w hv hq ho).mono fun _ _ ⟨nv, vm, KN, KM, h1, h2, h3, h4, h5, _, h6⟩ => ⟨nv, vm, KN, KM, h1, h2, h3, h4, h5, h6⟩
end Go.Proofs.Ytbjgemipmlimoaa
