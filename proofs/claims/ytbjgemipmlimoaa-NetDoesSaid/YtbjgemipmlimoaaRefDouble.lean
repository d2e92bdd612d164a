/- The walk of quicksetref13.Double. -/
import Derived.Test.YtbjgemipmlimoaaRefTakeN
namespace Go.Proofs.Ytbjgemipmlimoaa
open Go.RowKit

/-- several elements behind -/
theorem OwnR.appL {α : Type} {R : Rp α} {w w' : World} {base : Nat} {e : TypeId} {X : Nat → Prop} {A A' : Option Addr} {n n' c c' : Nat} {cs news : List Value} {l l2 : List α} (hn : l.length = n) (hn' : (l ++ l2).length = n')
    (h2 : CellsL R w (fun b => X b ∧ b < w.heap.size ∧ some b ≠ (Value.slice A n c).ownBlock) cs l) (h3 : CellsL R w (fun b => X b ∧ b < w.heap.size ∧ some b ≠ (Value.slice A n c).ownBlock) news l2)
    (h4 : w'.ownsRow base e R.size (.slice A' n' c') n' (cs ++ news)) (hg : Grew base w w' (.slice A n c) (.slice A' n' c')) :
    OwnR R w' base e X (.slice A' n' c') (l ++ l2) := by
  subst hn; subst hn'
  refine ⟨A', c', cs ++ news, rfl, h4, ?_⟩
  refine ((h2.append h3).keep (w' := w') fun p hp hl => World.cell?_of_block (hg.grown.block p.block hl hp.2.2)).more fun b hb => ⟨hb.1, by have := hg.grown.size; omega, ?_⟩
  rcases hg.at_ with h5 | ⟨g, h5, h6⟩
  · rw [h5]; exact hb.2.2
  · rw [h5]
    intro e
    injection e with e
    have := hb.2.1
    omega

theorem is_appC {P : Program} {w : World} {ops : Array Oper} {o : Oper} {a : Act} {K0 : Act → World → Prop} {Q : Exit → Act → World → Prop} {E : Prop} (s x : Operand) (t : TypeId)
    (_ho : o.op = .call { callee := .builtin .append, args := #[s, x], argTypes := #[t, t] })
    (h : if Region.wanted o (yielded ops a.tmps) = true then Oper.wp P o a w K0 Q else E) : if Region.wanted o (yielded ops a.tmps) = true then Oper.wp P o a w K0 Q else E := h

theorem rcopy_one (v : Value) (m : Ms) (K : Nat → Prop) (w : World) (hv : IsL Rp.msg w K v [m]) (hl : m.args.length ≤ 17592186043904) :
    Calls Try.prog 49 #[v] w fun e w' => ∃ A' c' cs, e = .returned (.slice A' 1 c') ∧ w'.ownsRow w.heap.size 45 6 (.slice A' 1 c') 1 cs ∧ (∀ u ∈ cs, u.oneCell' = true) ∧ CellsL Rp.msg w' (fun b => w.heap.size ≤ b ∧ b < w'.heap.size) cs [m] ∧ Below w.heap.size w w' := by
  refine (rcopy_any v [m] K w hv (by intro x hx; rw [List.mem_singleton.1 hx]; exact hl) (by simp)).mono ?_
  rintro e w' ⟨A', c', rfl, hown, hb⟩
  obtain ⟨-, cs, h1, h2⟩ := hown.open_
  exact ⟨A', c', cs, rfl, h1, h2.one, h2.more fun b hb => ⟨hb.1, hb.2.1⟩, hb⟩

set_option maxRecDepth 100000 in
set_option maxHeartbeats 8000000 in
theorem rdoubleN_ok (v : Value) (n : Nt) (k : Nat) (m : Ms) (K : Nat → Prop) (w : World) (hv : IsN w K v n) (hm : n.q[k]? = some m) (hcap : (n.q.length : Int) < n.cap) (hnl : ArgsLe n.q) (hn8 : n.q.length ≤ 200000000000) :
    Calls Try.prog 76 #[v, .int .i64 k] w fun e w' => ∃ A' c', e = .returned (.tuple #[.agg #[.int .i64 n.cap, .slice A' (n.q ++ [m]).length c'], .int .i64 0]) ∧
      OwnR Rp.msg w' w.heap.size 45 (fun b => w.heap.size ≤ b) (.slice A' (n.q ++ [m]).length c') (n.q ++ [m]) ∧ Below w.heap.size w w' := by
  obtain ⟨i0, hi, hz0, hz1, hz2⟩ := info_parts Try.infM
  have hml := args17 hnl m (List.mem_of_getElem? hm)
  have hk := (List.getElem?_eq_some_iff.1 hm).1
  have htd : (n.q.drop k).take 1 = [m] := by
    rw [List.drop_eq_getElem_cons hk, List.take_succ_cons, List.take_zero, (List.getElem?_eq_some_iff.1 hm).2]
  have HTD := Lib.hid htd; clear htd
  have hl' : (n.q ++ [m]).length = n.q.length + 1 := by simp
  rw [hl']
  have HL' := Lib.hid hl'; clear hl'
  obtain ⟨A, c, rfl, hnq⟩ := hv
  have HM := Lib.hid hm; clear hm
  have E := (((Kn.start w).give Stable.list hnq).push 38 #[.int .i64 n.cap, .slice A n.q.length c]).push 38 #[.int .i64 0, .slice none 0 0]
  rw [World.size_alloc] at E
  clear hnq
  have hg0 : decide ((k : Int) < 0) = false := decide_eq_false (by omega)
  have hg1 : decide ((n.q.length : Int) ≤ (k : Int)) = false := decide_eq_false (by omega)
  have hg2 : decide (n.q.length ≤ k) = false := decide_eq_false (by omega)
  have hg3 : decide (n.cap ≤ (n.q.length : Int)) = false := decide_eq_false (by omega)
  go_enter Try.func76, Try.ntmps76
  go_wp2_with fail
  refine (rcopy_any _ n.q K _ (E.get m0) (args17 hnl) (by omega)).mono ?_
  rintro e w1 ⟨A7, c7, rfl, own1, hb1⟩
  replace E := E.step hb1
  have hs1 := hb1.size
  simp only [World.size_alloc] at hs1
  obtain ⟨ad, A1, c1, A2, c2, rfl, hrow, hadb, hadl, -, -⟩ := OwnR.msg_at own1 HM.out
  simp only [World.size_alloc] at own1 hadb
  have hL := own1.isLt (X' := fun b => w.heap.size + 1 + 1 ≤ b) (by omega) (fun b _ h => h) (fun b _ h => h)
  have hcapc : n.q.length ≤ c7 := by obtain ⟨-, -, h, -⟩ := hL.open_; exact h
  have hc63 : c7 ≤ 9223372036854775807 := by obtain ⟨-, -, -, h, -⟩ := hL.open_; exact h
  have hmid := (hL.cut (k := k) (by omega)).pre (k := 1) (by omega)
  rw [HTD.out, if_neg (show ¬ c7 = k by omega)] at hmid
  replace hmid : IsL Rp.msg w1 (fun b => w.heap.size + 1 + 1 ≤ b) (.slice (some (ad.add (k * 6))) 1 (c7 - k)) [m] := hmid
  have HMID := Lib.hid hmid
  have HROW := Lib.hid hrow; have HOWN := Lib.hid (own1.more (X' := fun b => w.heap.size + 1 + 1 ≤ b ∧ b < w1.heap.size) (fun b h1 h2 => ⟨h1, h2⟩)); have HADB := Lib.hid hadb
  clear hrow own1 hadb hb1 hL hmid
  go_upto_region 6 with fail
  obtain ⟨-, cs, own5, cl5⟩ := HOWN.out.open_
  replace own5 : w1.ownsRow (w.heap.size + 1 + 1) 45 6 (.slice (some ad) n.q.length c7) n.q.length cs := own5
  have HO5 := Lib.hid own5; have HCL := Lib.hid cl5
  clear own5 cl5
  obtain ⟨q2, f2, t2⟩ := E.rules m1
  have HQ : Hid (∀ W, Below w1.heap.size w1 W → (∀ o, W.cell? ⟨w.heap.size, o, none⟩ = (#[.int .i64 n.cap, .slice A n.q.length c] : Array Value)[o]?)) := Lib.hid (fun W h => ((E.step h).rules m1).1)
  have HS2 : Hid (∀ W, Blk W w.heap.size 38 #[.int .i64 n.cap, .slice A n.q.length c] → ∀ u0 u1 : Value, (∀ o, ((W.setCell ⟨w.heap.size + 1, 0, none⟩ u0).setCell ⟨w.heap.size + 1, 1, none⟩ u1).cell? ⟨w.heap.size, o, none⟩ = (#[.int .i64 n.cap, .slice A n.q.length c] : Array Value)[o]?)) :=
    Lib.hid (fun W h u0 u1 => (h.far2 (x := u0) (y := u1) (g' := w.heap.size + 1) (by omega)).cell)
  have hwk : IntKind.i64.wrap ((k : Int) + 1) = (k : Int) + 1 := IntWalk.i64_in _ (by omega)
  have hck : ¬ c7 = k := by omega
  have i0' : (0 : Int) ≤ (k : Int) := by omega
  have i1 : (k : Int) ≤ (k : Int) + 1 := by omega
  have i2 : (k : Int) ≤ (c7 : Int) := by omega
  have i3 : (0 : Int) ≤ (k : Int) + 1 := by omega
  have i4 : (k : Int) + 1 ≤ (c7 : Int) := by omega
  have i6 : ((k : Int) + 1).toNat = k + 1 := by omega
  have hb0 : Below w1.heap.size w1 w1.drew := (Below.refl _ _).drew
  go_region_held3 (fun W => (∀ o, W.cell? ⟨w.heap.size, o, none⟩ = (#[.int .i64 n.cap, .slice A n.q.length c] : Array Value)[o]?))
    (first | with_reducible exact HS2.out _ BQ _ _ | with_reducible exact BQ.cell | with_reducible exact HQ.out _ hbC | with_reducible exact HQ.out _ hb0)
    (first
    | (refine is_appC (.tmp 29) (.tmp 35) _ (by rfl) ?_
       refine step_appN (by rfl) (.tmp 29) (.tmp 35) _ (by rfl) (w.heap.size + 1 + 1) 45 i0 _ 6 80 Try.underlying35 hi hz0 hz1 hz2 rfl (by omega) (by rfl) (own_below HO5.out hbC (Nat.le_refl _)) (by rfl) (Reads.of_own HC.out.1) HC.out.2.1 (by simp only [maxLen]; omega) (by omega) (by have := hbC.size; omega) ?_
       intro A11 c11 wQ own11 hg11
       have BQ := Blk.below ((E.step hbC).at_ m1) hg11.below (by omega)
       have B4 := Blk.below ((E.step hbC).at_ m0) hg11.below (by omega)
       obtain ⟨qq4, ff4⟩ := B4.rules
       have tt4 := B4.lt)
    | (go_at_call 49
       refine (rcopy_one _ m _ _ (HMID.out.step hb0) hml).mono ?_
       rintro e wC ⟨AC, cC, xs, rfl, ownC, hoC, hclC, hbC⟩
       have HC := Lib.hid (And.intro ownC (And.intro hoC hclC))
       clear ownC hoC hclC
       replace hbC := hb0.trans (hbC.mono hb0.size))
    | fail)
  have sC := hbC.size
  have hO : OwnR Rp.msg wQ (w.heap.size + 1 + 1) 45 (fun b => w.heap.size + 1 + 1 ≤ b) (.slice A11 (n.q.length + 1) c11) (n.q ++ [m]) := by
    refine OwnR.appL rfl HL'.out ((HCL.out.step hbC).more fun b hb => ⟨hb.1.1, by omega, hb.2.2⟩) (HC.out.2.2.more fun b hb => ⟨by have : w1.heap.size ≤ b := hb.1; omega, hb.2, fun e => ?_⟩) own11 hg11
    rw [HROW.out] at e
    injection e with e
    have : w1.heap.size ≤ b := hb.1
    omega
  have D4 := B4.set2 (x := .int .i64 n.cap) (y := .slice A11 (n.q.length + 1) c11)
  have F4 := D4.rules
  have hW : Below w.heap.size w wQ := (E.below.trans (hbC.mono E.below.size)).trans (hg11.below.mono (by omega))
  clear qq4 ff4 tt4 HQ HS2 q2 f2
  go_wp2
  refine bodyPost_ret (v := .tuple #[.agg #[.int .i64 n.cap, .slice A11 (n.q.length + 1) c11], .int .i64 0]) (by simp [results, Try.results76, go_sem, F4.1]) rfl ⟨A11, c11, rfl, ?_, ?_⟩
  · exact ((hO.farb (by omega) (by omega) 0 _).farb (by omega) (by omega) 1 _).lower (by omega) |>.more (fun b hb _ => by omega)
  · exact (hW.setCell (by show w.heap.size ≤ w.heap.size + 1; omega) _).setCell (by show w.heap.size ≤ w.heap.size + 1; omega) _

set_option maxRecDepth 100000 in
set_option maxHeartbeats 8000000 in
theorem rdoubleN_no (v : Value) (n : Nt) (i : Int) (K : Nat → Prop) (w : World) (hv : IsN w K v n) (hno : ¬ (0 ≤ i ∧ i < (n.q.length : Int))) :
    Calls Try.prog 76 #[v, .int .i64 i] w fun e w' => e = .returned (.tuple #[.agg #[.int .i64 0, .slice none 0 0], .int .i64 4]) ∧ Below w.heap.size w w' := by
  obtain ⟨A, c, rfl, hnq⟩ := hv
  have E := (((Kn.start w).give Stable.list hnq).push 38 #[.int .i64 n.cap, .slice A n.q.length c]).push 38 #[.int .i64 0, .slice none 0 0]
  rw [World.size_alloc] at E
  clear hnq
  have h' : (decide (i < 0) = true) ∨ (decide (i < 0) = false ∧ decide ((n.q.length : Int) ≤ i) = true) := by
    simp only [decide_eq_true_eq, decide_eq_false_iff_not]; omega
  clear hno
  rcases h' with h1 | ⟨h1, h2⟩
  all_goals
    go_enter Try.func76, Try.ntmps76
    have B4 := E.at_ m0
    obtain ⟨q4, f4⟩ := B4.rules
    obtain ⟨q2, f2, t2⟩ := E.rules m1
    have t4 := B4.lt
    go_wp2
    have F := ((B4.set_ 0 (.int .i64 0)).set_ 1 (.slice none 0 0)).rules
    clear q4 f4 q2 f2
    refine bodyPost_ret (v := .tuple #[.agg #[.int .i64 0, .slice none 0 0], .int .i64 4]) (by simp [results, Try.results76, go_sem]) rfl ⟨rfl, ?_⟩
    exact E.below

set_option maxRecDepth 100000 in
set_option maxHeartbeats 8000000 in
theorem rdoubleN_full (v : Value) (n : Nt) (i : Int) (K : Nat → Prop) (w : World) (hv : IsN w K v n) (hh : 0 ≤ i ∧ i < (n.q.length : Int)) (hcap : n.cap ≤ (n.q.length : Int)) :
    Calls Try.prog 76 #[v, .int .i64 i] w fun e w' => e = .returned (.tuple #[.agg #[.int .i64 0, .slice none 0 0], .int .i64 2]) ∧ Below w.heap.size w w' := by
  obtain ⟨A, c, rfl, hnq⟩ := hv
  have E := (((Kn.start w).give Stable.list hnq).push 38 #[.int .i64 n.cap, .slice A n.q.length c]).push 38 #[.int .i64 0, .slice none 0 0]
  rw [World.size_alloc] at E
  clear hnq
  have h1 : decide (i < 0) = false := decide_eq_false (by omega)
  have h2 : decide ((n.q.length : Int) ≤ i) = false := decide_eq_false (by omega)
  go_enter Try.func76, Try.ntmps76
  have B4 := E.at_ m0
  obtain ⟨q4, f4⟩ := B4.rules
  obtain ⟨q2, f2, t2⟩ := E.rules m1
  have t4 := B4.lt
  have hg1 : decide (n.cap ≤ (n.q.length : Int)) = true := decide_eq_true hcap
  clear hcap hh
  go_wp2
  have F := ((B4.set_ 0 (.int .i64 0)).set_ 1 (.slice none 0 0)).rules
  clear q4 f4 q2 f2
  refine bodyPost_ret (v := .tuple #[.agg #[.int .i64 0, .slice none 0 0], .int .i64 2]) (by simp [results, Try.results76, go_sem]) rfl ⟨rfl, ?_⟩
  exact E.below
end Go.Proofs.Ytbjgemipmlimoaa
