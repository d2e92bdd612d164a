/- The walk of quicksetlaw13.NetOrder. -/
import Derived.Test.YtbjgemipmlimoaaNetPlain
import Derived.Test.YtbjgemipmlimoaaNetLater
import Derived.Test.YtbjgemipmlimoaaSame13
import Derived.Test.YtbjgemipmlimoaaRefMsg
import Derived.Deep.DeepCutAuto
import Derived.Deep.DrawnRows
namespace Go.Proofs.Ytbjgemipmlimoaa
open Go.RowKit

def WantInv (w w3 wr : World) (l : List Ms) (wv i : Value) : Prop :=
  ∃ (j : Nat) (A9 : Option Addr) (c9 : Nat), i = .int .i64 j ∧ j ≤ l.length ∧ wv = .slice A9 ((l.take j).filter okB).length c9 ∧ OwnR Rp.msg wr w3.heap.size 45 (fun b => b < w.heap.size) (.slice A9 ((l.take j).filter okB).length c9) ((l.take j).filter okB) ∧ Below w3.heap.size w3 wr

def TakeInv (w wr : World) (g : Nat) (q : List Ms) (v i : Value) : Prop :=
  ∃ (j : Nat) (r : List Ms) (A : Option Addr) (c : Nat), i = .int .i64 j ∧ j ≤ q.length ∧ q.drop j = r ∧ Blk wr g 38 #[.int .i64 300, .slice A r.length c] ∧ IsL Rp.msg wr (· ≠ g) (.slice A r.length c) r ∧ IsL Rp.msg wr (· ≠ g) v q ∧ Below w.heap.size w wr

def NetBox (w0 w : World) (g : Nat) (q : List Ms) (v : Value) (want : List Ms) : Prop :=
  ∃ A c, Blk w g 38 #[.int .i64 300, .slice A q.length c] ∧ IsL Rp.msg w (· ≠ g) (.slice A q.length c) q ∧ IsL Rp.msg w (· ≠ g) v want ∧ Below w0.heap.size w0 w

set_option maxRecDepth 100000 in
set_option maxHeartbeats 8000000 in
theorem netOrder_any (v : Value) (l : List Ms) (off : Int) (w : World) (hv : IsL Rp.msg w (· < w.heap.size) v l) :
    Calls Try.prog 5 #[v, .int .i64 off] w fun e w' => e = .returned (.bool true) ∧ Below w.heap.size w w' := by
  obtain ⟨i0, hi, hz0, hz1, hz2⟩ := info_parts Try.infM
  have hv0 := hv
  obtain ⟨A, c, rfl, hlc, hcc⟩ := hv.form
  have hlen := hv.len
  have E := (Kn.start w).give Stable.list hv0
  by_cases hbig : bigL l = true
  · have HB := Lib.hid hbig; clear hbig
    go_enter Try.func5, Try.ntmps5
    go_wp2_with fail
    refine (live13_any _).mono ?_
    rintro e w1 ⟨rfl, hb1⟩
    replace E := E.step hb1
    go_wp2_with fail
    refine (big13_any _ l _ w1 (E.get m0)).mono ?_
    rw [HB.out]
    rintro e w2 ⟨rfl, hb2⟩
    replace E := E.step hb2
    go_wp2
    go_ret
    exact ⟨rfl, E.below⟩
  · have hbf := Bool.eq_false_iff.2 hbig
    have HB := Lib.hid hbf
    clear hbig
    by_cases h200 : 200 < l.length
    · have h200' : (200 : Int) < (l.length : Int) := by omega
      clear hbf
      go_enter Try.func5, Try.ntmps5
      go_wp2_with fail
      refine (live13_any _).mono ?_
      rintro e w1 ⟨rfl, hb1⟩
      replace E := E.step hb1
      go_wp2_with fail
      refine (big13_any _ l _ w1 (E.get m0)).mono ?_
      rw [HB.out]
      rintro e w2 ⟨rfl, hb2⟩
      replace E := E.step hb2
      go_wp2
      go_ret
      exact ⟨rfl, E.below⟩
    · have h200' : ¬ (200 : Int) < (l.length : Int) := by omega
      have hall := notBig hv0 (by omega) hbf
      have hargs := ArgsLe.of hall
      clear hall
      have hsq := sendQ_all 300 l [] 0 (by simp; omega)
      have hfl := List.length_filter_le okB l
      have hfm : ArgsLe (l.filter okB) := hargs.sub fun m hm => (List.mem_filter.1 hm).1
      simp only [List.nil_append, Nat.zero_add] at hsq
      have HSQ := Lib.hid hsq; clear hsq hbf
      have hn1 : newN 300 = (300, 0) := rfl
      have HN := Lib.hid hn1; clear hn1
      go_enter Try.func5, Try.ntmps5
      go_wp2_with fail
      refine (live13_any _).mono ?_
      rintro e w1 ⟨rfl, hb1⟩
      replace E := E.step hb1
      go_wp2_with fail
      refine (big13_any _ l _ w1 (E.get m0)).mono ?_
      rw [HB.out]
      rintro e w2 ⟨rfl, hb2⟩
      replace E := E.step hb2
      go_wp2_with fail
      refine (netNew_any 300 _).mono ?_
      rw [HN.out]
      rintro e w3 ⟨rfl, hb3⟩
      replace E := (E.step hb3).push 38 #[.int .i64 300, .slice none 0 0]
      have hg6 : w.heap.size ≤ w3.heap.size := by have := hb1.size; have := hb2.size; have := hb3.size; omega
      clear hb1 hb2 hb3
      go_wp2_with fail
      refine (send_any _ _ ⟨300, []⟩ l (fun _ => True) _ _ ⟨none, 0, rfl, IsL.nil_ _ _⟩ (E.get m0) hargs (by intro m hm; simp at hm) (by omega) (by simp)).mono ?_
      rw [HSQ.out]
      rintro e w4 ⟨A4, c4, rfl, own4, hb4⟩
      simp only at own4
      replace E := E.step hb4
      have s4 := hb4.size
      simp at s4
      have hq4 := (own4.isL (X' := fun b => b ≠ w3.heap.size) (by omega) (fun b hb => by simp at hb; omega) (fun b hb => by simp at hb; omega))
      clear own4 hb4
      obtain ⟨q1, f1, t1⟩ := E.rules m0
      go_wp2_with fail
      clear q1 f1
      have hbel := E.below
      have hq4' := hq4.far2 (fun h => h rfl) (.int .i64 300) (.slice A4 (l.filter okB).length c4)
      have B6 := (E.at_ m0).set2 (x := .int .i64 300) (y := .slice A4 (l.filter okB).length c4)
      have hv4 := IsL.far2 (E.get m0) (show ¬ w3.heap.size < w.heap.size by omega) (.int .i64 300) (.slice A4 (l.filter okB).length c4)
      replace hbel := below_set2 (x := .int .i64 300) (y := .slice A4 (l.filter okB).length c4) hbel hg6
      have hsz5 := size_set2 (w := w4) (g := w3.heap.size) (x := .int .i64 300) (y := .slice A4 (l.filter okB).length c4)
      generalize (w4.setCell ⟨w3.heap.size, 0, none⟩ (.int .i64 300)).setCell ⟨w3.heap.size, 1, none⟩ (.slice A4 (l.filter okB).length c4) = w5 at hq4' B6 hv4 hbel hsz5 ⊢
      have s5 : w3.heap.size < w5.heap.size := B6.lt
      clear hsz5 E hq4
      have E := (((Kn.from_ hbel hbel.size).give Stable.list hq4').give Stable.list hv4).know B6
      clear hq4' hv4 B6 hbel
      go_loopw [9, 44] (fun a i wr => WantInv w w5 wr l a i) (fun _ i _ => l.length - (intOf i).toNat)
      case atStart => exact ⟨0, none, 0, rfl, Nat.zero_le _, rfl, OwnR.nil_ _ _ _ _, Below.refl _ _⟩
      case round =>
        obtain ⟨j, A9, c9, rfl, hj, rfl, hown, hb⟩ := hrel
        have hsz := hb.size
        by_cases hlt : j < l.length
        · have hsn := filter_snoc l hlt
          have hml := hargs l[j] (List.getElem_mem hlt)
          obtain ⟨ad, A1, c1, A2, c2, rfl, hadb, him, hc0, hc1, hc2, hc3, hc4, hc5⟩ := IsL.msg_at ((E.step hb).get m0) (List.getElem?_eq_getElem hlt)
          generalize l[j] = m at him hc0 hc1 hc2 hc3 hc4 hc5 hsn hml
          have HSN := Lib.hid hsn; clear hsn
          obtain ⟨r, hr⟩ : ∃ r, msgL m = r := ⟨_, rfl⟩
          obtain ⟨rb, re⟩ := r
          have hok : okB m = decide (re = 0) := by unfold okB; rw [hr]
          have HOK := Lib.hid hok; clear hok
          have HR := Lib.hid hr; clear hr
          have hfj := List.length_filter_le okB (l.take j)
          rw [List.length_take] at hfj
          have hfj' : ((l.take j).filter okB).length ≤ j := by omega
          clear hfj
          obtain ⟨acc, hacc⟩ : ∃ acc, (l.take j).filter okB = acc := ⟨_, rfl⟩
          rw [hacc] at hown hfj' HSN ⊢
          clear hacc
          have F := (((Kn.start wr).give Stable.msg him).give (f := fun W => OwnR Rp.msg W w5.heap.size 45 (fun b => b < w.heap.size) (.slice A9 acc.length c9) acc) (fun _ _ h hb => OwnR.step h hb) hown).push 45 #[.int .i64 m.kind, .int .i64 m.frm, .int .i64 m.to, .int .i64 m.id, .slice A1 m.args.length c1, .slice A2 m.data.length c2]
          clear hown him
          go_wp2_with fail
          refine (rmsg_any _ m _ _ (F.get m1) (by omega)).mono ?_
          rw [HR.out]
          rintro e w6 ⟨A7, c7, rfl, own7, hb6⟩
          replace F := F.step hb6
          clear own7 hb6 hc0 hc1 hc2 hc3 hc4 hc5
          have hW6 := hb.trans (F.below.mono hsz)
          have hs6 := F.base
          obtain ⟨q1, f1, t1⟩ := F.rules m0
          by_cases hre : re = 0
          · have hreb : (re == 0) = true := by simpa using hre
            have hok : okB m = true := by rw [HOK.out]; simpa using hre
            have HO := Lib.hid hok; clear hok hre
            have hown := F.get m0
            have hrow := OwnR.rowlt hown
            obtain ⟨hjj, cs, own5, cl5⟩ := OwnR.open_ hown
            clear hjj
            replace own5 : w6.ownsRow w5.heap.size 45 6 (.slice A9 acc.length c9) acc.length cs := own5
            have him := F.get m1
            have HIM := Lib.hid him
            have HCL := Lib.hid cl5
            clear cl5 him hown
            have hown6 := own5.alloc (.cells #[.int .i64 m.kind, .int .i64 m.frm, .int .i64 m.to, .int .i64 m.id, .slice A1 m.args.length c1, .slice A2 m.data.length c2] 45)
            go_wp2_with (at_builtin; refine wpList_appN rfl _ _ _ rfl w5.heap.size 45 i0 _ 6 80 Try.underlying35 hi hz0 hz1 hz2 rfl (by omega) rfl hown6 rfl (Reads.new (xs := cellsM m A1 c1 A2 c2) (n := 1) rfl rfl rfl) (by intro u hu; simp [cellsM] at hu; rcases hu with rfl | rfl | rfl | rfl | rfl | rfl <;> rfl) (by simp only [maxLen]; omega) (by omega) (by simp; omega) ?_; intro A8 c8 w7 own8 hg8)
            go_roundw
            case rel =>
              refine ⟨j + 1, A8, c8, by go_num, by omega, by rw [HSN.out, if_pos HO.out]; simp, ?_, (hW6.alloc hW6.size _).trans hg8.below⟩
              rw [HSN.out, if_pos HO.out]
              simp only [List.length_append, List.length_singleton]
              exact OwnR.put rfl HCL.out (HIM.out.more fun b hb => ⟨hb, by omega, fun e => by have := (hrow b e.symm).1; omega⟩) own8 hg8
            case measure => simp [intOf]; omega
          · have hreb : (re == 0) = false := by simpa using hre
            have hok : ¬ okB m = true := by rw [HOK.out]; simpa using hre
            have HO := Lib.hid hok; clear hok hre
            go_wp2
            go_roundw
            case rel => exact ⟨j + 1, A9, c9, by go_num, by omega, by rw [HSN.out, if_neg HO.out], by rw [HSN.out, if_neg HO.out]; exact F.get m0, hW6⟩
            case measure => simp [intOf]; omega
        · obtain rfl : j = l.length := by omega
          rw [List.take_length] at hown ⊢
          replace E := E.step hb
          have hw9 := hown.isL (X' := fun b => b ≠ w3.heap.size) (by omega) (fun b hb => by omega) (fun b hb => by omega)
          replace E := E.give Stable.list hw9
          have hgw : w3.heap.size < wr.heap.size := by omega
          clear hown hb hw9 HSQ hargs HB
          have hwl : (l.filter okB).length ≤ 200 := by omega
          generalize l.filter okB = q at *
          clear hfl
          go_upto_if 65 with fail
          go_cut [9] (fun s9 wx => ∃ q', NetBox w wx w3.heap.size q' s9 q' ∧ ArgsLe q' ∧ q'.length ≤ 200)
          case first =>
            by_cases hk : 0 < q.length
            · have hn1 := Int.tmod_lt_of_pos off (show (0 : Int) < (q.length : Int) by omega)
              have hn2 := Int.lt_tmod_of_pos off (show (0 : Int) < (q.length : Int) by omega)
              obtain ⟨o, ho⟩ : ∃ j : Nat, off.tmod (q.length : Int) % (q.length : Int) = (j : Int) := ⟨(off.tmod (q.length : Int) % (q.length : Int)).toNat, by have := Int.emod_nonneg (off.tmod (q.length : Int)) (show (q.length : Int) ≠ 0 by omega); omega⟩
              have hol : (o : Int) < (q.length : Int) := by have := Int.emod_lt_of_pos (off.tmod (q.length : Int)) (show (0 : Int) < (q.length : Int) by omega); omega
              obtain ⟨q1, f1, t1⟩ := E.rules m0
              obtain ⟨m, hm⟩ : ∃ m, q[o]? = some m := ⟨q[o], List.getElem?_eq_getElem (by omega)⟩
              obtain ⟨q', hq'⟩ : ∃ q', q.take o ++ q.drop (o + 1) ++ [m] = q' := ⟨_, rfl⟩
              have hql : q'.length = q.length := by rw [← hq']; simp; omega
              have hqa : ArgsLe q' := by
                rw [← hq']
                exact (hfm.cut o).app (hfm.sub fun x hx => by rw [List.mem_singleton.1 hx]; exact List.mem_of_getElem? hm)
              have hla := fun v K W hv => laterN_ok v ⟨300, q⟩ o m K W hv hm hfm (by simp only; omega)
              simp only at hla
              rw [hq'] at hla
              have HLA := Lib.hid hla; clear hla
              have HQ' := Lib.hid hq'; clear hq'
              have HM := Lib.hid hm; clear hm
              have HQL := Lib.hid hql; clear hql
              go_wp2_with fail
              refine (HLA.out _ _ _ ⟨A4, c4, rfl, E.get m2⟩).mono ?_
              rintro e w7 ⟨A5, c5, rfl, own5, hb7⟩
              replace E := E.step hb7
              have hq5 := own5.isL (X' := fun b => b ≠ w3.heap.size) (by have := HQL.out; omega) (fun b hb => by omega) (fun b hb => by omega)
              clear q1 f1 t1 own5
              obtain ⟨q1, f1, t1⟩ := E.rules m0
              have B6 := ((E.at_ m0).set2 (x := .int .i64 300) (y := .slice A5 q'.length c5)).alloc (.cells #[.int .i64 300, .slice A5 q'.length c5] 38)
              have hw9 := (IsL.far2 (E.get m0) (fun h => h rfl) (.int .i64 300) (.slice A5 q'.length c5)).alloc (.cells #[.int .i64 300, .slice A5 q'.length c5] 38)
              have hv9 := (hq5.far2 (fun h => h rfl) (.int .i64 300) (.slice A5 q'.length c5)).alloc (.cells #[.int .i64 300, .slice A5 q'.length c5] 38)
              have hbel := (below_set2 (x := .int .i64 300) (y := .slice A5 q'.length c5) E.below hg6).alloc (by rw [size_set2]; exact E.below.size) (.cells #[.int .i64 300, .slice A5 q'.length c5] 38)
              clear hq5 hb7 E
              go_wp2_with fail
              clear q1 f1 t1
              generalize ((w7.setCell ⟨w3.heap.size, 0, none⟩ (.int .i64 300)).setCell ⟨w3.heap.size, 1, none⟩ (.slice A5 q'.length c5)).alloc (.cells #[.int .i64 300, .slice A5 q'.length c5] 38) = w8 at B6 hw9 hv9 hbel ⊢
              obtain ⟨ad, A1, c1, A2, c2, rfl, hadb, him, hc⟩ := IsL.msg_at hw9 HM.out
              obtain ⟨za, zd, hlc9, hcc9, ze⟩ := hw9.open_
              clear za zd ze
              obtain ⟨za, ⟨cs1, hr1, hcl1⟩, zb, zd, ze⟩ := (hw9.pre (k := o) (by omega)).open_
              clear za zb zd ze
              have hcut := hw9.cut (k := o + 1) (by omega)
              obtain ⟨A3, hA3⟩ : ∃ A3, (if c9 = o + 1 then some ad else some (ad.add ((o + 1) * 6))) = A3 := ⟨_, rfl⟩
              rw [show (if c9 = o + 1 then some ad else some (ad.add ((o + 1) * Rp.msg.size))) = A3 from hA3] at hcut
              obtain ⟨za, ⟨cs2, hr2, hcl2⟩, zb, zd, ze⟩ := hcut.open_
              clear za zb zd ze
              have e1 : (q.take o).length = o := by rw [List.length_take]; omega
              have e2 : (q.drop (o + 1)).length = q.length - (o + 1) := by rw [List.length_drop]
              rw [e1] at hr1
              rw [e2] at hr2
              have HQ : Hid (∀ W, Below w8.heap.size w8 W → MsgAt W (ad.add (o * 6)) m A1 c1 A2 c2) := Lib.hid fun W h => hc.step h
              have HR1 : Hid (∀ W, Below w8.heap.size w8 W → Reads W (fun b => b ≠ w3.heap.size) 6 (some ad) o cs1) := Lib.hid fun W h => hr1.step h
              have HR2 : Hid (∀ W, Below w8.heap.size w8 W → Reads W (fun b => b ≠ w3.heap.size) 6 A3 (q.length - (o + 1)) cs2) := Lib.hid fun W h => hr2.step h
              have HCL1 := Lib.hid hcl1; have HCL2 := Lib.hid hcl2; have HIM := Lib.hid him
              have HO1 := Lib.hid hcl1.one; have HO2 := Lib.hid hcl2.one
              clear hcl1 hcl2 him hr1 hr2 hcut hc e1 e2
              have hwk : IntKind.i64.wrap ((o : Int) + 1) = (o : Int) + 1 := IntWalk.i64_in _ (by omega)
              have i0' : (0 : Int) ≤ (o : Int) := by omega
              have i2 : (o : Int) ≤ (c9 : Int) := by omega
              have i3 : (0 : Int) ≤ (o : Int) + 1 := by omega
              have i4 : (o : Int) + 1 ≤ (q.length : Int) := by omega
              have i5 : (q.length : Int) ≤ (c9 : Int) := by omega
              have i6 : ((o : Int) + 1).toNat = o + 1 := by omega
              have hb0 : Below w8.heap.size w8 w8.drew := (Below.refl _ _).drew
              have hbA : Below w8.heap.size w8 (w8.alloc (.cells #[.int .i64 m.kind, .int .i64 m.frm, .int .i64 m.to, .int .i64 m.id, .slice A1 m.args.length c1, .slice A2 m.data.length c2] 45)).drew := ((Below.refl _ _).alloc (Nat.le_refl _) _).drew
              have hCN : ∀ W : World, RdC (W.alloc (.cells #[.int .i64 m.kind, .int .i64 m.frm, .int .i64 m.to, .int .i64 m.id, .slice A1 m.args.length c1, .slice A2 m.data.length c2] 45)) W.heap.size (cellsM m A1 c1 A2 c2) := fun W => RdC.new (cs := cellsM m A1 c1 A2 c2) rfl
              have HCN := Lib.hid hCN; clear hCN
              go_region_held3 (fun W => MsgAt W (ad.add (o * 6)) m A1 c1 A2 c2)
                (first | with_reducible exact HQ.out _ hbS | with_reducible exact HQ.out _ hbQ | with_reducible exact HQ.out _ (hbQ.alloc hbQ.size _) | with_reducible exact HQ.out _ hbP | with_reducible exact HQ.out _ (hbP.alloc hbP.size _) | with_reducible exact HQ.out _ hb0 | with_reducible exact HQ.out _ hbA)
                (first
                | (refine step_appN (by rfl) (.const (.slice none 0 0)) (.tmp 84) _ (by rfl) w8.heap.size 45 i0 _ 6 80 Try.underlying35 hi hz0 hz1 hz2 rfl (by omega) (by rfl) (World.ownsRow_nil _ _ _ _) (by rfl) (HR1.out _ hb0) HO1.out (by simp only [maxLen]; omega) (by omega) (by simp) ?_
                   intro A10 c10 wP own10 hg10
                   have hbP : Below w8.heap.size w8 wP := hb0.trans hg10.below)
                | (refine step_appN (by rfl) (.const (.slice none 0 0)) (.tmp 84) _ (by rfl) w8.heap.size 45 i0 _ 6 80 Try.underlying35 hi hz0 hz1 hz2 rfl (by omega) (by rfl) (World.ownsRow_nil _ _ _ _) (by rfl) (HR1.out _ hbA) HO1.out (by simp only [maxLen]; omega) (by omega) (by simp) ?_
                   intro A10 c10 wP own10 hg10
                   have hbP : Below w8.heap.size w8 wP := hbA.trans hg10.below
                   have RA : RdC wP w8.heap.size (cellsM m A1 c1 A2 c2) := RdC.grown (w := (w8.alloc (.cells #[.int .i64 m.kind, .int .i64 m.frm, .int .i64 m.to, .int .i64 m.id, .slice A1 m.args.length c1, .slice A2 m.data.length c2] 45)).drew) (HCN.out w8) hg10.grown (by simp [Value.ownBlock]))
                | (refine step_appN (by rfl) (.tmp 85) (.tmp 89) _ (by rfl) w8.heap.size 45 i0 _ 6 80 Try.underlying35 hi hz0 hz1 hz2 rfl (by omega) (by first | rfl | (simp only [Nat.zero_add]; rfl)) (own10) (by rfl) (HR2.out _ hbP) HO2.out (by simp only [maxLen]; omega) (by omega) (hbP.size) ?_
                   intro A11 c11 wQ own11 hg11
                   have hbQ : Below w8.heap.size w8 wQ := hbP.trans hg11.below
                   have RA2 := RA.grown hg11.grown (fun e => by
                     rcases hg10.at_ with h | ⟨g, h, hg⟩
                     · have e2 := Eq.trans e h; simp [Value.ownBlock] at e2
                     · have e2 := Eq.trans e h; injection e2 with e2; simp at hg; omega))
                | (refine step_appN (by rfl) (.tmp 85) (.tmp 89) _ (by rfl) w8.heap.size 45 i0 _ 6 80 Try.underlying35 hi hz0 hz1 hz2 rfl (by omega) (by first | rfl | (simp only [Nat.zero_add]; rfl)) (own10) (by rfl) (HR2.out _ hbP) HO2.out (by simp only [maxLen]; omega) (by omega) (hbP.size) ?_
                   intro A11 c11 wQ own11 hg11
                   have hbQ : Below w8.heap.size w8 wQ := hbP.trans hg11.below)
                | (refine step_appN (by rfl) (.tmp 85) (.tmp 89) _ (by rfl) w8.heap.size 45 i0 _ 6 80 Try.underlying35 hi hz0 hz1 hz2 rfl (by omega) (by first | rfl | (simp only [Nat.zero_add]; rfl)) (own10.alloc _) (by rfl) (HR2.out _ (hbP.alloc hbP.size _)) HO2.out (by simp only [maxLen]; omega) (by omega) ((hbP.alloc hbP.size _).size) ?_
                   intro A11 c11 wQ own11 hg11
                   have hbQ : Below w8.heap.size w8 wQ := (hbP.alloc hbP.size _).trans hg11.below
                   have RB2 := (HCN.out wP).grown hg11.grown (fun e => by have := (own10.lt _ e.symm).2; omega))
                | (refine step_appN (by rfl) (.tmp 90) (.tmp 95) _ (by rfl) w8.heap.size 45 i0 _ 6 80 Try.underlying35 hi hz0 hz1 hz2 rfl (by omega) (by first | rfl | (simp only [Nat.zero_add]; rfl)) (own11) (by rfl) (RA2) cellsM_one (by simp only [maxLen]; omega) (by omega) (hbQ.size) ?_
                   intro A12 c12 wS own12 hg12
                   have hbS : Below w8.heap.size w8 wS := hbQ.trans hg12.below)
                | (refine step_appN (by rfl) (.tmp 90) (.tmp 95) _ (by rfl) w8.heap.size 45 i0 _ 6 80 Try.underlying35 hi hz0 hz1 hz2 rfl (by omega) (by first | rfl | (simp only [Nat.zero_add]; rfl)) (own11) (by rfl) (RB2) cellsM_one (by simp only [maxLen]; omega) (by omega) (hbQ.size) ?_
                   intro A12 c12 wS own12 hg12
                   have hbS : Below w8.heap.size w8 wS := hbQ.trans hg12.below)
                | (refine step_appN (by rfl) (.tmp 90) (.tmp 95) _ (by rfl) w8.heap.size 45 i0 _ 6 80 Try.underlying35 hi hz0 hz1 hz2 rfl (by omega) (by first | rfl | (simp only [Nat.zero_add]; rfl)) (own11.alloc _) (by rfl) (HCN.out wQ) cellsM_one (by simp only [maxLen]; omega) (by omega) ((hbQ.alloc hbQ.size _).size) ?_
                   intro A12 c12 wS own12 hg12
                   have hbS : Below w8.heap.size w8 wS := (hbQ.alloc hbQ.size _).trans hg12.below))
              all_goals
                have hN : o + (q.length - (o + 1)) + 1 = q'.length := by have := HQL.out; omega
                simp only [Nat.zero_add, List.nil_append] at own12
                rw [hN] at own12
                have HN9 := Lib.hid hN
                clear hN
                have hcl := (((HCL1.out.append HCL2.out).append (CellsL.single (isM_cells HIM.out))).step hbS)
                rw [HQ'.out] at hcl
                have h38 := B6.lt
                have hF : IsL Rp.msg wS (· ≠ w3.heap.size) (.slice A12 q'.length c12) q' :=
                  ⟨A12, c12, _, rfl, (Reads.of_own_ge own12).more (fun b hb => by show b ≠ w3.heap.size; omega), hcl, own_cap own12, own_cap63 own12, by have := HQL.out; omega⟩
                go_wp2_with fail
                go_meet
                exact ⟨q', ⟨A5, c5, B6.step hbS, hv9.step hbS, by rw [HN9.out]; exact hF, hbel.trans (hbS.mono hbel.size)⟩, hqa, by have := HQL.out; omega⟩
            · go_wp2_with fail
              go_meet
              exact ⟨q, ⟨A4, c4, E.at_ m0, E.get m2, E.get m0, E.below⟩, hfm, hwl⟩
          case rest =>
            obtain ⟨q', ⟨A8, c8, B6, hq6, hw6, hbx⟩, hargs', hl'⟩ := hcut
            obtain ⟨Aw, cw, rfl, hlcw, hccw⟩ := hw6.form
            clear E hfm hwl
            have hg6' := B6.lt
            go_wp2_with fail
            go_loopw [99] (fun i wr => TakeInv w wr w3.heap.size q' (.slice Aw q'.length cw) i) (fun i _ => q'.length - (intOf i).toNat)
            case atStart => exact ⟨0, q', A8, c8, rfl, Nat.zero_le _, rfl, B6, hq6, hw6, hbx⟩
            case round =>
              obtain ⟨j, r, A7, c7, rfl, hj, hr, C6, hr6, hw, hb⟩ := hrel
              clear B6 hq6 hw6 hbx hg6'
              by_cases hlt : j < q'.length
              · obtain ⟨ad, A1, c1, A2, c2, rfl, hadb, him, hc0, hc1, hc2, hc3, hc4, hc5⟩ := hw.msg_at (List.getElem?_eq_getElem hlt)
                have htk : q'.drop j = q'[j] :: q'.drop (j + 1) := List.drop_eq_getElem_cons hlt
                rw [hr] at htk
                generalize q'[j] = m at htk him hc0 hc1 hc2 hc3 hc4 hc5
                obtain ⟨r', hr'⟩ : ∃ r', q'.drop (j + 1) = r' := ⟨_, rfl⟩
                rw [hr'] at htk
                have HR' := Lib.hid hr'; clear hr'
                have hra : ArgsLe r := hargs'.sub fun x hx => by rw [← hr] at hx; exact List.mem_of_mem_drop hx
                have hrl : r.length ≤ 200 := by rw [← hr, List.length_drop]; omega
                subst htk
                have HR := Lib.hid hr; clear hr
                have hla := fun v K W hv => takeN_ok v ⟨300, m :: r'⟩ 0 m K W hv rfl hra (by simp only; omega)
                simp only [List.take_zero, List.nil_append, Nat.zero_add, List.drop_succ_cons, List.drop_zero] at hla
                have HLA := Lib.hid hla; clear hla
                have E := (((Kn.from_ hb hb.size).know C6).give Stable.list hr6).give Stable.list hw |>.give Stable.msg him |>.push 45 #[.int .i64 m.kind, .int .i64 m.frm, .int .i64 m.to, .int .i64 m.id, .slice A1 m.args.length c1, .slice A2 m.data.length c2]
                obtain ⟨q1, f1⟩ := C6.rules
                have t1 := C6.lt
                clear him hr6 hw
                go_wp2_with fail
                refine (HLA.out _ _ _ ⟨A7, c7, rfl, E.get m2⟩).mono ?_
                rintro e w6 ⟨A3, c3, vm, rfl, own3, him3, hb3⟩
                obtain ⟨A5, c5, A6, c6, rfl, hrp⟩ := isM_rp him3
                have s3 := hb3.size
                simp at s3
                have him5 := him3.more (K' := fun b => b ≠ w3.heap.size) (fun b hb => by have := hb.1; simp at this; omega)
                have hr5 := own3.isL (X' := fun b => b ≠ w3.heap.size) (by simp at hrl; omega) (fun b hb => by simp at hb; omega) (fun b hb => by simp at hb; omega)
                replace E := ((E.step hb3).give Stable.list hr5).give Stable.msg him5
                clear own3 him3 hb3 hr5 him5 hrp q1 f1
                obtain ⟨q1, f1, t2⟩ := E.rules m0
                obtain ⟨q2, f2, t3⟩ := E.rules m1
                replace E := (E.push 38 #[.int .i64 300, .slice A3 r'.length c3]).push 45 #[.int .i64 m.kind, .int .i64 m.frm, .int .i64 m.to, .int .i64 m.id, .slice A5 m.args.length c5, .slice A6 m.data.length c6]
                rw [World.size_alloc] at E
                unfold mv
                go_wp2_with fail
                refine (sameMsg_any _ _ m _ _ _ (E.get m0) (E.get m2)).mono ?_
                rintro e w7 ⟨rfl, hb7⟩
                replace E := E.step hb7
                clear q1 f1 q2 f2 t2 t3 hb7
                obtain ⟨q1, f1, t2⟩ := E.rules m1
                obtain ⟨q2, f2, t3⟩ := E.rules m3
                go_wp2_with fail
                go_roundw
                case rel => exact ⟨j + 1, r', A3, c3, by go_num, by omega, HR'.out, (E.at_ m3).set2, IsL.far2 (E.get m1) (fun h => h rfl) _ _, IsL.far2 (E.get m3) (fun h => h rfl) _ _, below_set2 E.below hg6⟩
                case measure => simp [intOf]; omega
              · obtain rfl : j = q'.length := by omega
                rw [List.drop_length] at hr
                subst hr
                obtain ⟨q1, f1⟩ := C6.rules
                go_wp2
                go_ret
                exact ⟨rfl, hb⟩
end Go.Proofs.Ytbjgemipmlimoaa
