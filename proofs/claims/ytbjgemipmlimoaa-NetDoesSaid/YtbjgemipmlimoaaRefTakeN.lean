/- The walk of quicksetref13.Take. -/
import Derived.Test.YtbjgemipmlimoaaRefCopy
import Derived.Test.YtbjgemipmlimoaaNetTake
import Derived.Deep.RegionHeld3
namespace Go.Proofs.Ytbjgemipmlimoaa
open Go.RowKit

/-- the k-th message of a row of the call's own -/
theorem OwnR.msg_at {w : World} {base : Nat} {e : TypeId} {X : Nat → Prop} {A : Option Addr} {n c : Nat} {l : List Ms} (h : OwnR Rp.msg w base e X (.slice A n c) l) {k : Nat} {m : Ms} (hm : l[k]? = some m) :
    ∃ ad A1 c1 A2 c2, A = some ad ∧ (Value.slice A n c).ownBlock = some ad.block ∧ base ≤ ad.block ∧ ad.block < w.heap.size ∧ IsM w (fun b => X b ∧ b < w.heap.size ∧ some b ≠ (Value.slice A n c).ownBlock) (mv m A1 c1 A2 c2) m ∧ MsgAt w (ad.add (k * 6)) m A1 c1 A2 c2 := by
  obtain ⟨rfl, cs, h1, h2⟩ := h.open_
  have hk := (List.getElem?_eq_some_iff.1 hm).1
  obtain ⟨g, cap, hv, _, hlt⟩ := World.ownsRow.form h1 (by omega)
  have hA : A = some ⟨g, 0, none⟩ := by injection hv
  subst hA
  obtain ⟨es, hes, hj⟩ := h2.at_ hm
  obtain ⟨A1, c1, A2, c2, rfl, him⟩ := rp_isM hes
  have hcell : ∀ (j : Nat) u, (cellsM m A1 c1 A2 c2)[j]? = some u → w.cell? (((⟨g, 0, none⟩ : Addr).add (k * 6)).add j) = some u := fun j u hu => by
    obtain ⟨ad, e, _, hc⟩ := (Reads.of_own h1).2 (by omega)
    injection e with e
    subst e
    rw [add_of_add]
    exact hc _ u (hj j u hu)
  unfold cellsM at hcell
  refine ⟨_, A1, c1, A2, c2, rfl, rfl, (h1.lt g rfl).1, (h1.lt g rfl).2, him, ?_, ?_, ?_, ?_, ?_, ?_⟩
  · rw [← addr0 (Addr.add _ (k * 6))]; exact hcell 0 _ rfl
  · rw [← addrS _ 1 (by decide)]; exact hcell 1 _ rfl
  · rw [← addrS _ 2 (by decide)]; exact hcell 2 _ rfl
  · rw [← addrS _ 3 (by decide)]; exact hcell 3 _ rfl
  · rw [← addrS _ 4 (by decide)]; exact hcell 4 _ rfl
  · rw [← addrS _ 5 (by decide)]; exact hcell 5 _ rfl

theorem args17 {l : List Ms} (h : ArgsLe l) : ∀ m ∈ l, m.args.length ≤ 17592186043904 := fun m hm => by have := h m hm; omega

set_option maxRecDepth 100000 in
set_option maxHeartbeats 8000000 in
theorem rtakeN_ok (v : Value) (n : Nt) (k : Nat) (m : Ms) (K : Nat → Prop) (w : World) (hv : IsN w K v n) (hm : n.q[k]? = some m) (hnl : ArgsLe n.q) (hn8 : n.q.length ≤ 200000000000) :
    Calls Try.prog 74 #[v, .int .i64 k] w fun e w' => ∃ A' c' vm, e = .returned (.tuple #[.agg #[.int .i64 n.cap, .slice A' (n.q.take k ++ n.q.drop (k + 1)).length c'], vm, .int .i64 0]) ∧
      OwnR Rp.msg w' w.heap.size 45 (fun b => w.heap.size ≤ b) (.slice A' (n.q.take k ++ n.q.drop (k + 1)).length c') (n.q.take k ++ n.q.drop (k + 1)) ∧
      IsM w' (fun b => w.heap.size ≤ b ∧ some b ≠ (Value.slice A' (n.q.take k ++ n.q.drop (k + 1)).length c').ownBlock) vm m ∧ Below w.heap.size w w' := by
  obtain ⟨i0, hi, hz0, hz1, hz2⟩ := info_parts Try.infM
  obtain ⟨q', hq'⟩ : ∃ q', n.q.take k ++ n.q.drop (k + 1) = q' := ⟨_, rfl⟩
  have hql : k + (n.q.length - (k + 1)) = q'.length := by rw [← hq']; have := (List.getElem?_eq_some_iff.1 hm).1; simp; omega
  have HQL := Lib.hid hql; clear hql
  rw [hq']
  have HQ' := Lib.hid hq'; clear hq'
  obtain ⟨A, c, rfl, hnq⟩ := hv
  have hk := (List.getElem?_eq_some_iff.1 hm).1
  have HM := Lib.hid hm; clear hm
  have E := ((((Kn.start w).give Stable.list hnq).push 38 #[.int .i64 n.cap, .slice A n.q.length c]).push 38 #[.int .i64 0, .slice none 0 0]).push 45 #[.int .i64 0, .int .i64 0, .int .i64 0, .int .i64 0, .slice none 0 0, .slice none 0 0]
  rw [World.size_alloc, World.size_alloc] at E
  clear hnq
  have hg0 : decide ((k : Int) < 0) = false := decide_eq_false (by omega)
  have hg1 : decide ((n.q.length : Int) ≤ (k : Int)) = false := decide_eq_false (by omega)
  have hg2 : decide (n.q.length ≤ k) = false := decide_eq_false (by omega)
  go_enter Try.func74, Try.ntmps74
  go_wp2_with fail
  refine (rcopy_any _ n.q K _ (E.get m0) (args17 hnl) (by omega)).mono ?_
  rintro e w1 ⟨A7, c7, rfl, own1, hb1⟩
  replace E := E.step hb1
  have hs1 := hb1.size
  simp only [World.size_alloc] at hs1
  obtain ⟨ad, A1, c1, A2, c2, rfl, hrow, hadb, hadl, him, hc0, hc1, hc2, hc3, hc4, hc5⟩ := OwnR.msg_at own1 HM.out
  simp only [World.size_alloc] at him own1 hadb
  have HROW := Lib.hid hrow; have HIM := Lib.hid him; have HOWN := Lib.hid (own1.more (X' := fun b => w.heap.size + 1 + 1 + 1 ≤ b ∧ b < w1.heap.size) (fun b h1 h2 => ⟨h1, h2⟩)); have HADB := Lib.hid hadb
  clear hrow him own1 hadb hb1
  go_upto_region 5 with fail
  replace E := E.push 45 #[.int .i64 m.kind, .int .i64 m.frm, .int .i64 m.to, .int .i64 m.id, .slice A1 m.args.length c1, .slice A2 m.data.length c2]
  have hbA : Below w1.heap.size w1 (w1.alloc (.cells #[.int .i64 m.kind, .int .i64 m.frm, .int .i64 m.to, .int .i64 m.id, .slice A1 m.args.length c1, .slice A2 m.data.length c2] 45)) := (Below.refl _ _).alloc (Nat.le_refl _) _
  have HIM2 := Lib.hid (IsM.step HIM.out hbA)
  obtain ⟨-, cs, own5, cl5⟩ := (OwnR.step HOWN.out hbA).open_
  replace own5 : (w1.alloc (.cells #[.int .i64 m.kind, .int .i64 m.frm, .int .i64 m.to, .int .i64 m.id, .slice A1 m.args.length c1, .slice A2 m.data.length c2] 45)).ownsRow (w.heap.size + 1 + 1 + 1) 45 6 (.slice (some ad) n.q.length c7) n.q.length cs := own5
  have hcap7 := own_cap own5
  have hcap63 := own_cap63 own5
  have hr := Reads.of_own own5
  have hr1 := hr.pre (k := k) (by omega)
  have hr2 := hr.cut (k := k + 1) (cap := c7) (by omega) hcap7
  have ho1 : ∀ u ∈ cs.take (k * 6), u.oneCell' = true := fun u hu => cl5.one u (List.mem_of_mem_take hu)
  have ho2 : ∀ u ∈ cs.drop ((k + 1) * 6), u.oneCell' = true := fun u hu => cl5.one u (List.mem_of_mem_drop hu)
  obtain ⟨A3, hA3⟩ : ∃ A3, (if c7 = k + 1 then some ad else some (ad.add ((k + 1) * 6))) = A3 := ⟨_, rfl⟩
  rw [show (if c7 = k + 1 then some ad else Option.map (fun x => x.add ((k + 1) * 6)) (some ad)) = A3 from hA3] at hr2
  have hcl : CellsL Rp.msg (w1.alloc (.cells #[.int .i64 m.kind, .int .i64 m.frm, .int .i64 m.to, .int .i64 m.id, .slice A1 m.args.length c1, .slice A2 m.data.length c2] 45)) (fun b => w.heap.size + 1 + 1 + 1 ≤ b ∧ b < w1.heap.size) (cs.take (k * 6) ++ cs.drop ((k + 1) * 6)) q' := by
    rw [← HQ'.out]
    exact ((cl5.take k).append (cl5.drop (k + 1))).more fun b hb => hb.1
  have HCL := Lib.hid hcl; have HO1 := Lib.hid ho1; have HO2 := Lib.hid ho2
  clear hcl ho1 ho2 cl5 own5 hr hbA hc0 hc1 hc2 hc3 hc4 hc5
  generalize hw2 : w1.alloc (.cells #[.int .i64 m.kind, .int .i64 m.frm, .int .i64 m.to, .int .i64 m.id, .slice A1 m.args.length c1, .slice A2 m.data.length c2] 45) = w2 at E HIM2 hr1 hr2 HCL ⊢
  clear hw2
  have HR1 : Hid (∀ W, Below w2.heap.size w2 W → Reads W _ 6 (some ad) k (cs.take (k * 6))) := Lib.hid fun W h => hr1.step h
  have HR2 : Hid (∀ W, Below w2.heap.size w2 W → Reads W _ 6 A3 (n.q.length - (k + 1)) (cs.drop ((k + 1) * 6))) := Lib.hid fun W h => hr2.step h
  have HQ : Hid (∀ W, Below w2.heap.size w2 W → (∀ o, W.cell? ⟨w.heap.size, o, none⟩ = (#[.int .i64 n.cap, .slice A n.q.length c] : Array Value)[o]?) ∧ (∀ o, W.cell? ⟨w1.heap.size, o, none⟩ = (#[.int .i64 m.kind, .int .i64 m.frm, .int .i64 m.to, .int .i64 m.id, .slice A1 m.args.length c1, .slice A2 m.data.length c2] : Array Value)[o]?)) := Lib.hid (fun W h => ⟨((E.step h).rules m3).1, ((E.step h).rules m0).1⟩)
  have hs1' : ∀ W : World, ((∀ o, W.cell? ⟨w.heap.size, o, none⟩ = (#[.int .i64 n.cap, .slice A n.q.length c] : Array Value)[o]?) ∧ (∀ o, W.cell? ⟨w1.heap.size, o, none⟩ = (#[.int .i64 m.kind, .int .i64 m.frm, .int .i64 m.to, .int .i64 m.id, .slice A1 m.args.length c1, .slice A2 m.data.length c2] : Array Value)[o]?)) → ∀ (x i : Nat) (u : Value), x < 2 → ((∀ o, (W.setCell ⟨w.heap.size + x + 1, i, none⟩ u).cell? ⟨w.heap.size, o, none⟩ = (#[.int .i64 n.cap, .slice A n.q.length c] : Array Value)[o]?) ∧ (∀ o, (W.setCell ⟨w.heap.size + x + 1, i, none⟩ u).cell? ⟨w1.heap.size, o, none⟩ = (#[.int .i64 m.kind, .int .i64 m.frm, .int .i64 m.to, .int .i64 m.id, .slice A1 m.args.length c1, .slice A2 m.data.length c2] : Array Value)[o]?)) := by
    intro W h x i u hx
    exact ⟨fun o => by rw [World.cell?_setCell_other _ _ _ _ (by first | (simp; done) | (simp; omega))]; exact h.1 o, fun o => by rw [World.cell?_setCell_other _ _ _ _ (by first | (simp; done) | (simp; omega))]; exact h.2 o⟩
  have HS := Lib.hid hs1'; clear hs1'
  have HS2 : Hid (∀ W, Below w2.heap.size w2 W → ∀ u0 u1 : Value, (∀ o, ((W.setCell ⟨w.heap.size + 1, 0, none⟩ u0).setCell ⟨w.heap.size + 1, 1, none⟩ u1).cell? ⟨w.heap.size, o, none⟩ = (#[.int .i64 n.cap, .slice A n.q.length c] : Array Value)[o]?) ∧ (∀ o, ((W.setCell ⟨w.heap.size + 1, 0, none⟩ u0).setCell ⟨w.heap.size + 1, 1, none⟩ u1).cell? ⟨w1.heap.size, o, none⟩ = (#[.int .i64 m.kind, .int .i64 m.frm, .int .i64 m.to, .int .i64 m.id, .slice A1 m.args.length c1, .slice A2 m.data.length c2] : Array Value)[o]?)) := Lib.hid fun W h u0 u1 => HS.out _ (HS.out _ (HQ.out _ h) 0 0 u0 (by omega)) 0 1 u1 (by omega)
  have HS8 : Hid (∀ W, Below w2.heap.size w2 W → ∀ u0 u1 u2 u3 u4 u5 u6 u7 : Value, (∀ o, ((((((((W.setCell ⟨w.heap.size + 1, 0, none⟩ u0).setCell ⟨w.heap.size + 1, 1, none⟩ u1).setCell ⟨w.heap.size + 1 + 1, 0, none⟩ u2).setCell ⟨w.heap.size + 1 + 1, 1, none⟩ u3).setCell ⟨w.heap.size + 1 + 1, 2, none⟩ u4).setCell ⟨w.heap.size + 1 + 1, 3, none⟩ u5).setCell ⟨w.heap.size + 1 + 1, 4, none⟩ u6).setCell ⟨w.heap.size + 1 + 1, 5, none⟩ u7).cell? ⟨w.heap.size, o, none⟩ = (#[.int .i64 n.cap, .slice A n.q.length c] : Array Value)[o]?) ∧ (∀ o, ((((((((W.setCell ⟨w.heap.size + 1, 0, none⟩ u0).setCell ⟨w.heap.size + 1, 1, none⟩ u1).setCell ⟨w.heap.size + 1 + 1, 0, none⟩ u2).setCell ⟨w.heap.size + 1 + 1, 1, none⟩ u3).setCell ⟨w.heap.size + 1 + 1, 2, none⟩ u4).setCell ⟨w.heap.size + 1 + 1, 3, none⟩ u5).setCell ⟨w.heap.size + 1 + 1, 4, none⟩ u6).setCell ⟨w.heap.size + 1 + 1, 5, none⟩ u7).cell? ⟨w1.heap.size, o, none⟩ = (#[.int .i64 m.kind, .int .i64 m.frm, .int .i64 m.to, .int .i64 m.id, .slice A1 m.args.length c1, .slice A2 m.data.length c2] : Array Value)[o]?)) := Lib.hid fun W h u0 u1 u2 u3 u4 u5 u6 u7 => HS.out _ (HS.out _ (HS.out _ (HS.out _ (HS.out _ (HS.out _ (HS2.out _ h u0 u1) 1 0 u2 (by omega)) 1 1 u3 (by omega)) 1 2 u4 (by omega)) 1 3 u5 (by omega)) 1 4 u6 (by omega)) 1 5 u7 (by omega)
  clear hr1 hr2
  obtain ⟨q2, f2, t2⟩ := E.rules m3
  obtain ⟨q8, f8, t8⟩ := E.rules m0
  have hwk : IntKind.i64.wrap ((k : Int) + 1) = (k : Int) + 1 := IntWalk.i64_in _ (by omega)
  have i0' : (0 : Int) ≤ (k : Int) := by omega
  have i2 : (k : Int) ≤ (c7 : Int) := by omega
  have i3 : (0 : Int) ≤ (k : Int) + 1 := by omega
  have i4 : (k : Int) + 1 ≤ (n.q.length : Int) := by omega
  have i5 : (n.q.length : Int) ≤ (c7 : Int) := by omega
  have i6 : ((k : Int) + 1).toNat = k + 1 := by omega
  have hb0 : Below w2.heap.size w2 w2.drew := (Below.refl _ _).drew
  go_region_held3 (fun W => (∀ o, W.cell? ⟨w.heap.size, o, none⟩ = (#[.int .i64 n.cap, .slice A n.q.length c] : Array Value)[o]?) ∧ (∀ o, W.cell? ⟨w1.heap.size, o, none⟩ = (#[.int .i64 m.kind, .int .i64 m.frm, .int .i64 m.to, .int .i64 m.id, .slice A1 m.args.length c1, .slice A2 m.data.length c2] : Array Value)[o]?))
    (first | with_reducible exact HS8.out _ hbQ _ _ _ _ _ _ _ _ | with_reducible exact HS2.out _ hbQ _ _ | with_reducible exact HQ.out _ hbQ | with_reducible exact HQ.out _ hbP | with_reducible exact HQ.out _ hb0)
    (first
    | (refine step_appN (by rfl) (.const (.slice none 0 0)) (.tmp 31) _ (by rfl) w2.heap.size 45 i0 _ 6 80 Try.underlying35 hi hz0 hz1 hz2 rfl (by omega) (by rfl) (World.ownsRow_nil _ _ _ _) (by rfl) (HR1.out _ hb0) HO1.out (by simp only [maxLen]; omega) (by omega) (by simp) ?_
       intro A10 c10 wP own10 hg10
       have hbP : Below w2.heap.size w2 wP := hb0.trans hg10.below)
    | (refine step_appN (by rfl) (.tmp 32) (.tmp 36) _ (by rfl) w2.heap.size 45 i0 _ 6 80 Try.underlying35 hi hz0 hz1 hz2 rfl (by omega) (by first | rfl | (simp only [Nat.zero_add]; rfl)) (own10) (by rfl) (HR2.out _ hbP) HO2.out (by simp only [maxLen]; omega) (by omega) (hbP.size) ?_
       intro A11 c11 wQ own11 hg11
       have hbQ : Below w2.heap.size w2 wQ := hbP.trans hg11.below
       obtain ⟨qq4, ff4, tt4⟩ := (E.step hbQ).rules m2
       obtain ⟨qq5, ff5, tt5⟩ := (E.step hbQ).rules m1)
    | fail)
  simp only [Nat.zero_add, List.nil_append] at own11
  rw [HQL.out] at own11 ⊢
  have B4 := (E.step hbQ).at_ m2
  have B5 := (E.step hbQ).at_ m1
  have hne : w.heap.size + 1 ≠ w.heap.size + 1 + 1 := by omega
  have D4 := (((((((B4.set_ 0 (.int .i64 n.cap)).set_ 1 (.slice A11 q'.length c11)).far (p := ⟨w.heap.size + 1 + 1, 0, none⟩) hne (.int .i64 m.kind)).far (p := ⟨w.heap.size + 1 + 1, 1, none⟩) hne (.int .i64 m.frm)).far (p := ⟨w.heap.size + 1 + 1, 2, none⟩) hne (.int .i64 m.to)).far (p := ⟨w.heap.size + 1 + 1, 3, none⟩) hne (.int .i64 m.id)).far (p := ⟨w.heap.size + 1 + 1, 4, none⟩) hne (.slice A1 m.args.length c1)).far (p := ⟨w.heap.size + 1 + 1, 5, none⟩) hne (.slice A2 m.data.length c2)
  have D5 := (((((((B5.far (p := ⟨w.heap.size + 1, 0, none⟩) hne.symm (.int .i64 n.cap)).far (p := ⟨w.heap.size + 1, 1, none⟩) hne.symm (.slice A11 q'.length c11)).set_ 0 (.int .i64 m.kind)).set_ 1 (.int .i64 m.frm)).set_ 2 (.int .i64 m.to)).set_ 3 (.int .i64 m.id)).set_ 4 (.slice A1 m.args.length c1)).set_ 5 (.slice A2 m.data.length c2)
  have F4 := D4.rules
  have F5 := D5.rules
  have hrowQ := own11.lt
  have sQ := hbQ.size
  have hw12 : w1.heap.size < w2.heap.size := (E.at_ m0).lt
  have hO : OwnR Rp.msg wQ w2.heap.size 45 (fun b => w.heap.size + 1 + 1 + 1 ≤ b) (.slice A11 q'.length c11) q' :=
    ⟨A11, c11, _, rfl, own11, (HCL.out.step hbQ).more fun b hb => ⟨hb.1, by omega, fun e => by have := (hrowQ b e.symm).1; omega⟩⟩
  clear qq4 ff4 tt4 qq5 ff5 tt5 HQ HS HS2 HS8 q2 f2 q8 f8
  go_wp2
  refine bodyPost_ret (v := .tuple #[.agg #[.int .i64 n.cap, .slice A11 q'.length c11], mv m A1 c1 A2 c2, .int .i64 0]) (by simp [results, Try.results74, go_sem, F4.1, F5.1, mv]) rfl ⟨A11, c11, _, rfl, ?_, ?_, ?_⟩
  · exact ((((((((hO.farb (by omega) (by omega) 0 _).farb (by omega) (by omega) 1 _).farb (by omega) (by omega) 0 _).farb (by omega) (by omega) 1 _).farb (by omega) (by omega) 2 _).farb (by omega) (by omega) 3 _).farb (by omega) (by omega) 4 _).farb (by omega) (by omega) 5 _).lower (by omega) |>.more (fun b hb _ => by omega)
  · refine (((((((((HIM2.out.step hbQ).far (by omega) 0 _).far (by omega) 1 _).far (by omega) 0 _).far (by omega) 1 _).far (by omega) 2 _).far (by omega) 3 _).far (by omega) 4 _).far (by omega) 5 _).more (fun b hb => ⟨by omega, fun e => ?_⟩)
    have := (hrowQ b e.symm).1
    have := hb.2.1
    omega
  · exact ((((((((E.below.trans (hbQ.mono E.below.size)).setCell (by show w.heap.size ≤ w.heap.size + 1; omega) _).setCell (by show w.heap.size ≤ w.heap.size + 1; omega) _).setCell (by show w.heap.size ≤ w.heap.size + 1 + 1; omega) _).setCell (by show w.heap.size ≤ w.heap.size + 1 + 1; omega) _).setCell (by show w.heap.size ≤ w.heap.size + 1 + 1; omega) _).setCell (by show w.heap.size ≤ w.heap.size + 1 + 1; omega) _).setCell (by show w.heap.size ≤ w.heap.size + 1 + 1; omega) _).setCell (by show w.heap.size ≤ w.heap.size + 1 + 1; omega) _

set_option maxRecDepth 100000 in
set_option maxHeartbeats 8000000 in
theorem rtakeN_no (v : Value) (n : Nt) (i : Int) (K : Nat → Prop) (w : World) (hv : IsN w K v n) (hno : ¬ (0 ≤ i ∧ i < (n.q.length : Int))) :
    Calls Try.prog 74 #[v, .int .i64 i] w fun e w' => e = .returned (.tuple #[.agg #[.int .i64 0, .slice none 0 0], .agg #[.int .i64 0, .int .i64 0, .int .i64 0, .int .i64 0, .slice none 0 0, .slice none 0 0], .int .i64 4]) ∧ Below w.heap.size w w' := by
  obtain ⟨A, c, rfl, hnq⟩ := hv
  clear hnq
  have h' : (decide (i < 0) = true) ∨ (decide (i < 0) = false ∧ decide ((n.q.length : Int) ≤ i) = true) := by
    simp only [decide_eq_true_eq, decide_eq_false_iff_not]; omega
  clear hno
  rcases h' with h1 | ⟨h1, h2⟩
  all_goals
    have E := (((Kn.start w).push 38 #[.int .i64 n.cap, .slice A n.q.length c]).push 38 #[.int .i64 0, .slice none 0 0]).push 45 #[.int .i64 0, .int .i64 0, .int .i64 0, .int .i64 0, .slice none 0 0, .slice none 0 0]
    rw [World.size_alloc, World.size_alloc] at E
    go_enter Try.func74, Try.ntmps74
    go_wp2
    refine bodyPost_ret (v := .tuple #[.agg #[.int .i64 0, .slice none 0 0], .agg #[.int .i64 0, .int .i64 0, .int .i64 0, .int .i64 0, .slice none 0 0, .slice none 0 0], .int .i64 4]) (by simp [results, Try.results74, go_sem]) rfl ⟨rfl, E.below⟩
end Go.Proofs.Ytbjgemipmlimoaa
