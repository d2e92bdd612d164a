/- The walk of quicksetlaw13.NetCuts. -/
import Derived.Test.YtbjgemipmlimoaaNetCutN
import Derived.Test.YtbjgemipmlimoaaSame13
import Derived.Deep.DeepCutAuto
import Derived.Deep.DrawnRows
namespace Go.Proofs.Ytbjgemipmlimoaa
open Go.RowKit

theorem toL_none (node : Int) : ∀ (l : List Ms) (i : Nat), toL node i (l.filter (notN node)) = []
  | [], i => rfl
  | m :: l, i => by
    by_cases h : notN node m = true
    · rw [List.filter_cons_of_pos h]
      have h2 : ¬ m.to = node := fun e => by simp [notN, ofN, e] at h
      simp only [toL, if_neg h2]
      exact toL_none node l (i + 1)
    · rw [List.filter_cons_of_neg h]
      exact toL_none node l i
theorem cut_at (node : Int) (l : List Ms) {j : Nat} {m : Ms} (hm : l[j]? = some m) (h : ofN node m = false) : (l.filter (notN node))[((l.take j).filter (notN node)).length]? = some m := by
  have hj := (List.getElem?_eq_some_iff.1 hm).1
  have e : l.filter (notN node) = (l.take j).filter (notN node) ++ (m :: (l.drop (j + 1)).filter (notN node)) := by
    conv => lhs; rw [← List.take_append_drop j l, List.filter_append, List.drop_eq_getElem_cons hj]
    rw [(List.getElem?_eq_some_iff.1 hm).2, List.filter_cons_of_pos (by simp [notN, h])]
  rw [e, List.getElem?_append_right (Nat.le_refl _)]
  simp

set_option maxRecDepth 100000 in
set_option maxHeartbeats 8000000 in
theorem netCuts_any (v : Value) (l : List Ms) (node : Int) (w : World) (hv : IsL Rp.msg w (· < w.heap.size) v l) :
    Calls Try.prog 7 #[v, .int .i64 node] w fun e w' => e = .returned (.bool true) ∧ Below w.heap.size w w' := by
  have hv0 := hv
  obtain ⟨A, c, rfl, hlc, hcc⟩ := hv.form
  have hlen := hv.len
  have E := (Kn.start w).give Stable.list hv0
  by_cases hbig : bigL l = true
  · have HB := Lib.hid hbig; clear hbig
    go_enter Try.func7, Try.ntmps7
    go_wp2_with fail
    refine (live13_any _).mono ?_
    rintro e w1 ⟨rfl, hb1⟩
    replace E := E.step hb1
    go_wp2_with fail
    refine (big13_any _ l _ w1 (E.get m0)).mono ?_
    rw [HB.out]
    rintro e w2 ⟨rfl, hb2⟩
    replace E := E.step hb2
    go_wp2
    go_ret
    exact ⟨rfl, E.below⟩
  · have hbf := Bool.eq_false_iff.2 hbig
    have HB := Lib.hid hbf
    clear hbig
    by_cases h200 : 200 < l.length
    · have h200' : (200 : Int) < (l.length : Int) := by omega
      clear hbf
      go_enter Try.func7, Try.ntmps7
      go_wp2_with fail
      refine (live13_any _).mono ?_
      rintro e w1 ⟨rfl, hb1⟩
      replace E := E.step hb1
      go_wp2_with fail
      refine (big13_any _ l _ w1 (E.get m0)).mono ?_
      rw [HB.out]
      rintro e w2 ⟨rfl, hb2⟩
      replace E := E.step hb2
      go_wp2
      go_ret
      exact ⟨rfl, E.below⟩
    · have h200' : ¬ (200 : Int) < (l.length : Int) := by omega
      have hall := notBig hv0 (by omega) hbf
      have hargs := ArgsLe.of hall
      clear hall
      have hsq := sendQ_all 300 l [] 0 (by simp; omega)
      have hfl := List.length_filter_le okB l
      have hfm : ArgsLe (l.filter okB) := hargs.sub fun m hm => (List.mem_filter.1 hm).1
      simp only [List.nil_append, Nat.zero_add] at hsq
      obtain ⟨q, hqq⟩ : ∃ q, l.filter okB = q := ⟨_, rfl⟩
      rw [hqq] at hsq hfl hfm
      have HSQ := Lib.hid hsq; clear hsq hbf hqq
      have hn1 : newN 300 = (300, 0) := rfl
      have HN := Lib.hid hn1; clear hn1
      go_enter Try.func7, Try.ntmps7
      go_wp2_with fail
      refine (live13_any _).mono ?_
      rintro e w1 ⟨rfl, hb1⟩
      replace E := E.step hb1
      go_wp2_with fail
      refine (big13_any _ l _ w1 (E.get m0)).mono ?_
      rw [HB.out]
      rintro e w2 ⟨rfl, hb2⟩
      replace E := E.step hb2
      go_wp2_with fail
      refine (netNew_any 300 _).mono ?_
      rw [HN.out]
      rintro e w3 ⟨rfl, hb3⟩
      replace E := (E.step hb3).push 38 #[.int .i64 300, .slice none 0 0]
      have hg6 : w.heap.size ≤ w3.heap.size := by have := hb1.size; have := hb2.size; have := hb3.size; omega
      clear hb1 hb2 hb3
      go_wp2_with fail
      refine (send_any _ _ ⟨300, []⟩ l (fun _ => True) _ _ ⟨none, 0, rfl, IsL.nil_ _ _⟩ (E.get m0) hargs (by intro m hm; simp at hm) (by omega) (by simp)).mono ?_
      rw [HSQ.out]
      rintro e w4 ⟨A4, c4, rfl, own4, hb4⟩
      simp only at own4
      replace E := E.step hb4
      have s4 := hb4.size
      simp at s4
      have hq4 := (own4.isLt (X' := fun b => w3.heap.size < b ∧ b < w4.heap.size) (by omega) (fun b hb hb2 => by simp at hb2; omega) (fun b hb hb2 => by simp at hb2; omega))
      clear own4 hb4
      obtain ⟨q1, f1, t1⟩ := E.rules m0
      have hbel := E.below
      have hq4' := hq4.far2 (g := w3.heap.size) (by omega) (.int .i64 300) (.slice A4 q.length c4)
      have B6 := (E.at_ m0).set2 (x := .int .i64 300) (y := .slice A4 q.length c4)
      have hv4 := IsL.far2 (E.get m0) (show ¬ w3.heap.size < w.heap.size by omega) (.int .i64 300) (.slice A4 q.length c4)
      replace hbel := below_set2 (x := .int .i64 300) (y := .slice A4 q.length c4) hbel hg6
      have hsz5 := size_set2 (w := w4) (g := w3.heap.size) (x := .int .i64 300) (y := .slice A4 q.length c4)
      go_wp2_with fail
      clear q1 f1
      generalize (w4.setCell ⟨w3.heap.size, 0, none⟩ (.int .i64 300)).setCell ⟨w3.heap.size, 1, none⟩ (.slice A4 q.length c4) = w5 at hq4' B6 hv4 hbel hsz5 ⊢
      have s5 : w3.heap.size < w5.heap.size := B6.lt
      have s45 : w4.heap.size ≤ w5.heap.size := by omega
      clear hsz5 E hq4
      have E := (((Kn.from_ hbel hbel.size).give Stable.list hq4').give Stable.list hv4).know B6
      clear hq4' hv4 B6 hbel
      obtain ⟨q2, hq2⟩ : ∃ q2, q.filter (notN node) = q2 := ⟨_, rfl⟩
      have h2l : q2.length ≤ q.length := by rw [← hq2]; exact List.length_filter_le _ _
      have hto := toL_none node q 0
      have hcn := fun v K W hv => cutN_any v ⟨300, q⟩ node K W hv hfm (by simp only; omega)
      simp only at hcn
      rw [hq2] at hcn hto
      have HTO := Lib.hid hto; clear hto
      have HCN := Lib.hid hcn; clear hcn
      have HQ2 := Lib.hid hq2; clear hq2
      refine (HCN.out _ _ _ ⟨A4, c4, rfl, E.get m1⟩).mono ?_
      rintro e w6 ⟨A5, c5, rfl, own5, hb6⟩
      have hc5 := own5.isL (X' := fun _ => True) (by omega) (fun _ _ => trivial) (fun _ _ => trivial)
      replace E := ((E.step hb6).give Stable.list hc5).push 38 #[.int .i64 300, .slice A5 q2.length c5]
      clear own5 hb6 hc5
      go_wp2_with fail
      refine (to_any _ ⟨300, q2⟩ node _ _ ⟨A5, c5, rfl, E.get m0⟩ (by simp only; omega)).mono ?_
      rw [HTO.out]
      rintro e w7 ⟨A6, c6, rfl, own6, hb7⟩
      replace E := E.step hb7
      clear own6 hb7
      obtain ⟨q1, f1, t2⟩ := E.rules m0
      obtain ⟨q3, f3, t3⟩ := E.rules m1
      go_wp2_with fail
      clear q1 f1 q3 f3
      go_loopw [11, 13, 58] (fun x11 x13 i wr => ∃ (j k : Nat), i = .int .i64 j ∧ x11 = .int .i64 k ∧ j ≤ q.length ∧ ((q.take j).filter (notN node)).length = k ∧ Below w7.heap.size w7 wr ∧ (∃ y, x13 = y)) (fun _ _ i _ => q.length - (intOf i).toNat)
      case atStart => exact ⟨0, 0, rfl, rfl, Nat.zero_le _, rfl, Below.refl _ _, _, rfl⟩
      case round =>
        obtain ⟨j, k, rfl, rfl, hj, hk, hb, y, rfl⟩ := hrel
        have hsz := hb.size
        have F := E.step hb
        by_cases hlt : j < q.length
        · obtain ⟨ad, A1, c1, A2, c2, rfl, hadb, him, hc0, hc1, hc2, hc3, hc4, hc5⟩ := IsL.msg_at (F.get m2) (List.getElem?_eq_getElem hlt)
          have hst := not_step node q hlt
          have hca := fun h => cut_at node q (List.getElem?_eq_getElem hlt) h
          rw [hk, HQ2.out] at hca
          generalize q[j] = m at hst him hc0 hc1 hc2 hc3 hc4 hc5 hca
          have hk1 : k ≤ j := by rw [← hk]; exact Nat.le_trans (List.length_filter_le _ _) (List.length_take_le _ _)
          have HK := Lib.hid hk
          have HST := Lib.hid hst
          have HCA := Lib.hid hca
          clear hst hca hk
          by_cases h1 : m.frm = node
          · have hb1 : (m.frm == node) = true := by simpa using h1
            have hof : ofN node m = true := by simp [ofN, hb1]
            have HOF := Lib.hid hof
            clear h1 hof
            go_wp2
            exact ⟨⟨j + 1, k, by go_num, rfl, by omega, by rw [HST.out, if_pos HOF.out]; exact HK.out, hb.alloc hsz _, _, rfl⟩, by simp [intOf]; omega⟩
          · have hb1 : (m.frm == node) = false := by simpa using h1
            clear h1
            by_cases h2 : m.to = node
            · have hb2 : (m.to == node) = true := by simpa using h2
              have hof : ofN node m = true := by simp [ofN, hb2]
              have HOF := Lib.hid hof
              clear h2 hof
              go_wp2
              exact ⟨⟨j + 1, k, by go_num, rfl, by omega, by rw [HST.out, if_pos HOF.out]; exact HK.out, hb.alloc hsz _, _, rfl⟩, by simp [intOf]; omega⟩
            · have hb2 : (m.to == node) = false := by simpa using h2
              have hof : ofN node m = false := by simp [ofN, hb1, hb2]
              have hm2 := HCA.out hof
              have hkl := (List.getElem?_eq_some_iff.1 hm2).1
              have HOF := Lib.hid hof
              obtain ⟨ad', A3, c3, A7, c7, rfl, hadb', him', hc'⟩ := IsL.msg_at (F.get m0) hm2
              clear h2 hof hm2
              have F2 := (F.give Stable.msg him).give Stable.msg him' |>.give Stable.msgAt hc' |>.push 45 #[.int .i64 m.kind, .int .i64 m.frm, .int .i64 m.to, .int .i64 m.id, .slice A1 m.args.length c1, .slice A2 m.data.length c2]
              have hbA := hb.alloc hsz (.cells #[.int .i64 m.kind, .int .i64 m.frm, .int .i64 m.to, .int .i64 m.id, .slice A1 m.args.length c1, .slice A2 m.data.length c2] 45)
              clear him him' hc'
              go_upto_region 16 with fail
              generalize hwA : wr.alloc (.cells #[.int .i64 m.kind, .int .i64 m.frm, .int .i64 m.to, .int .i64 m.id, .slice A1 m.args.length c1, .slice A2 m.data.length c2] 45) = wA at F2 hbA ⊢
              clear hwA hc0 hc1 hc2 hc3 hc4 hc5
              have HQ : Hid (∀ W, Below wA.heap.size wA W → (∀ o, W.cell? ⟨w6.heap.size, o, none⟩ = (#[.int .i64 300, .slice (some ad') q2.length c5] : Array Value)[o]?) ∧
                (∀ o, W.cell? ⟨wr.heap.size, o, none⟩ = (#[.int .i64 m.kind, .int .i64 m.frm, .int .i64 m.to, .int .i64 m.id, .slice A1 m.args.length c1, .slice A2 m.data.length c2] : Array Value)[o]?) ∧ MsgAt W (ad'.add (k * 6)) m A3 c3 A7 c7) :=
                Lib.hid fun W h => ⟨((F2.step h).rules m1).1, ((F2.step h).rules m0).1, (F2.step h).get m0⟩
              have d1 : decide ((q2.length : Int) ≤ (k : Int)) = false := by simp; omega
              have d2 : decide (q2.length ≤ k) = false := by simp; omega
              have j0 : (0 : Int) ≤ (k : Int) := by omega
              have j1 : (k : Int) < (q2.length : Int) := by omega
              have hb0 : Below wA.heap.size wA wA.drew := (Below.refl _ _).drew
              go_region_held3 (fun W => (∀ o, W.cell? ⟨w6.heap.size, o, none⟩ = (#[.int .i64 300, .slice (some ad') q2.length c5] : Array Value)[o]?) ∧
                (∀ o, W.cell? ⟨wr.heap.size, o, none⟩ = (#[.int .i64 m.kind, .int .i64 m.frm, .int .i64 m.to, .int .i64 m.id, .slice A1 m.args.length c1, .slice A2 m.data.length c2] : Array Value)[o]?) ∧ MsgAt W (ad'.add (k * 6)) m A3 c3 A7 c7)
                (first | with_reducible exact HQ.out _ hb0 | with_reducible exact HQ.out _ hbN)
                (first
                  | (go_at_call 28
                     refine (sameMsg_any _ _ m _ _ _ ((F2.step hb0).get m1) ((F2.step hb0).get m2)).mono ?_
                     rintro e wN ⟨rfl, hb8⟩
                     have hbN : Below wA.heap.size wA wN := hb0.trans hb8))
              go_wp2
              exact ⟨⟨j + 1, k + 1, by go_num, by go_num, by omega, by rw [HST.out, if_neg (by rw [HOF.out]; simp), List.length_append, HK.out]; rfl, hbA.trans (hbN.mono hbA.size), _, rfl⟩, by simp [intOf]; omega⟩
        · obtain rfl : j = q.length := by omega
          rw [List.take_length, HQ2.out] at hk
          subst hk
          obtain ⟨q1, f1⟩ := (F.at_ m0).rules
          go_wp2
          go_ret
          exact ⟨rfl, F.below⟩
end Go.Proofs.Ytbjgemipmlimoaa
