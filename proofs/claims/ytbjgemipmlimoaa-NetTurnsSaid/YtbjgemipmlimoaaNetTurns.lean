/- The walk of quicksetlaw13.NetTurns. -/
import Derived.Test.YtbjgemipmlimoaaNetPlain
import Derived.Test.YtbjgemipmlimoaaNetLater
import Derived.Test.YtbjgemipmlimoaaNetDouble
import Derived.Test.YtbjgemipmlimoaaNetDrop
import Derived.Test.YtbjgemipmlimoaaSame13
import Derived.Deep.DeepCutAuto
namespace Go.Proofs.Ytbjgemipmlimoaa
open Go.RowKit

def TurnInv (w wr : World) (g6 g11 top : Nat) (q : List Ms) (A4 : Option Addr) (c4 : Nat) (ev i : Value) : Prop :=
  ∃ (j : Nat) (r : List Ms) (A : Option Addr) (c : Nat), i = .int .i64 j ∧ j ≤ q.length ∧ q.drop j ++ q.take j = r ∧ Blk wr g11 38 #[.int .i64 100, .slice A r.length c] ∧ IsL Rp.msg wr (· ≠ g11) (.slice A r.length c) r ∧
    Blk wr g6 38 #[.int .i64 100, .slice A4 q.length c4] ∧ IsL Rp.msg wr (fun b => g6 < b ∧ b < top) (.slice A4 q.length c4) q ∧ Below w.heap.size w wr ∧ (∃ x, ev = x)

set_option maxRecDepth 100000 in
set_option maxHeartbeats 8000000 in
theorem netTurns_any (v : Value) (l : List Ms) (ii : Int) (w : World) (hv : IsL Rp.msg w (· < w.heap.size) v l) :
    Calls Try.prog 6 #[v, .int .i64 ii] w fun e w' => e = .returned (.bool true) ∧ Below w.heap.size w w' := by
  have hv0 := hv
  obtain ⟨A, c, rfl, hlc, hcc⟩ := hv.form
  have hlen := hv.len
  have E := (Kn.start w).give Stable.list hv0
  by_cases hbig : bigL l = true
  · have HB := Lib.hid hbig; clear hbig
    go_enter Try.func6, Try.ntmps6
    go_wp2_with fail
    refine (live13_any _).mono ?_
    rintro e w1 ⟨rfl, hb1⟩
    replace E := E.step hb1
    go_wp2_with fail
    refine (big13_any _ l _ w1 (E.get m0)).mono ?_
    rw [HB.out]
    rintro e w2 ⟨rfl, hb2⟩
    replace E := E.step hb2
    go_wp2
    go_ret
    exact ⟨rfl, E.below⟩
  · have hbf := Bool.eq_false_iff.2 hbig
    have HB := Lib.hid hbf
    clear hbig
    by_cases h60 : 60 < l.length
    · have h60' : (60 : Int) < (l.length : Int) := by omega
      clear hbf
      go_enter Try.func6, Try.ntmps6
      go_wp2_with fail
      refine (live13_any _).mono ?_
      rintro e w1 ⟨rfl, hb1⟩
      replace E := E.step hb1
      go_wp2_with fail
      refine (big13_any _ l _ w1 (E.get m0)).mono ?_
      rw [HB.out]
      rintro e w2 ⟨rfl, hb2⟩
      replace E := E.step hb2
      go_wp2
      go_ret
      exact ⟨rfl, E.below⟩
    · have h60' : ¬ (60 : Int) < (l.length : Int) := by omega
      have hall := notBig hv0 (by omega) hbf
      have hargs := ArgsLe.of hall
      clear hall
      have hsq := sendQ_all 100 l [] 0 (by simp; omega)
      have hfl := List.length_filter_le okB l
      have hfm : ArgsLe (l.filter okB) := hargs.sub fun m hm => (List.mem_filter.1 hm).1
      simp only [List.nil_append, Nat.zero_add] at hsq
      obtain ⟨q, hqq⟩ : ∃ q, l.filter okB = q := ⟨_, rfl⟩
      rw [hqq] at hsq hfl hfm
      have HSQ := Lib.hid hsq; clear hsq hbf hqq
      have hn1 : newN 100 = (100, 0) := rfl
      have HN := Lib.hid hn1; clear hn1
      go_enter Try.func6, Try.ntmps6
      go_wp2_with fail
      refine (live13_any _).mono ?_
      rintro e w1 ⟨rfl, hb1⟩
      replace E := E.step hb1
      go_wp2_with fail
      refine (big13_any _ l _ w1 (E.get m0)).mono ?_
      rw [HB.out]
      rintro e w2 ⟨rfl, hb2⟩
      replace E := E.step hb2
      go_wp2_with fail
      refine (netNew_any 100 _).mono ?_
      rw [HN.out]
      rintro e w3 ⟨rfl, hb3⟩
      replace E := (E.step hb3).push 38 #[.int .i64 100, .slice none 0 0]
      have hg6 : w.heap.size ≤ w3.heap.size := by have := hb1.size; have := hb2.size; have := hb3.size; omega
      clear hb1 hb2 hb3
      go_wp2_with fail
      refine (send_any _ _ ⟨100, []⟩ l (fun _ => True) _ _ ⟨none, 0, rfl, IsL.nil_ _ _⟩ (E.get m0) hargs (by intro m hm; simp at hm) (by omega) (by simp)).mono ?_
      rw [HSQ.out]
      rintro e w4 ⟨A4, c4, rfl, own4, hb4⟩
      simp only at own4
      replace E := E.step hb4
      have s4 := hb4.size
      simp at s4
      have hq4 := (own4.isLt (X' := fun b => w3.heap.size < b ∧ b < w4.heap.size) (by omega) (fun b hb hb2 => by simp at hb2; omega) (fun b hb hb2 => by simp at hb2; omega))
      clear own4 hb4
      obtain ⟨q1, f1, t1⟩ := E.rules m0
      by_cases hk0 : q.length = 0
      · have hkb : ((q.length : Int) == 0) = true := by simpa using hk0
        clear hk0
        go_wp2
        go_ret
        exact ⟨rfl, below_set2 E.below hg6⟩
      have hkb : ((q.length : Int) == 0) = false := by simpa using hk0
      have hn1 := Int.tmod_lt_of_pos ii (show (0 : Int) < (q.length : Int) by omega)
      have hn2 := Int.lt_tmod_of_pos ii (show (0 : Int) < (q.length : Int) by omega)
      obtain ⟨o, ho⟩ : ∃ j : Nat, ii.tmod (q.length : Int) % (q.length : Int) = (j : Int) := ⟨(ii.tmod (q.length : Int) % (q.length : Int)).toNat, by have := Int.emod_nonneg (ii.tmod (q.length : Int)) (show (q.length : Int) ≠ 0 by omega); omega⟩
      have hol : (o : Int) < (q.length : Int) := by have := Int.emod_lt_of_pos (ii.tmod (q.length : Int)) (show (0 : Int) < (q.length : Int) by omega); omega
      obtain ⟨m, hm⟩ : ∃ m, q[o]? = some m := ⟨q[o], List.getElem?_eq_getElem (by omega)⟩
      have hqa : ArgsLe (q ++ [m]) := hfm.app (hfm.sub fun x hx => by rw [List.mem_singleton.1 hx]; exact List.mem_of_getElem? hm)
      have hlen2 : (q ++ [m]).length = q.length + 1 := by simp
      have hdo := fun v K W hv => doubleN_ok v ⟨100, q⟩ o m K W hv hm (by simp only; omega) hfm (by simp only; omega)
      have hdr := fun v K W hv => dropN_ok v ⟨100, q ++ [m]⟩ q.length m K W hv (by simp) hqa (by simp only [hlen2]; omega)
      simp only at hdo hdr
      have hcut : (q ++ [m]).take q.length ++ (q ++ [m]).drop (q.length + 1) = q := by simp
      rw [hcut] at hdr
      rw [hlen2] at hdo
      have HDO := Lib.hid hdo; clear hdo
      have HDR := Lib.hid hdr; clear hdr
      have HM := Lib.hid hm; clear hm
      have HL2 := Lib.hid hlen2; clear hlen2 hcut hk0
      have hbel := E.below
      have hq4' := hq4.far2 (g := w3.heap.size) (by omega) (.int .i64 100) (.slice A4 q.length c4)
      have B6 := (E.at_ m0).set2 (x := .int .i64 100) (y := .slice A4 q.length c4)
      have hv4 := IsL.far2 (E.get m0) (show ¬ w3.heap.size < w.heap.size by omega) (.int .i64 100) (.slice A4 q.length c4)
      replace hbel := below_set2 (x := .int .i64 100) (y := .slice A4 q.length c4) hbel hg6
      have hsz5 := size_set2 (w := w4) (g := w3.heap.size) (x := .int .i64 100) (y := .slice A4 q.length c4)
      go_wp2_with fail
      clear q1 f1
      generalize (w4.setCell ⟨w3.heap.size, 0, none⟩ (.int .i64 100)).setCell ⟨w3.heap.size, 1, none⟩ (.slice A4 q.length c4) = w5 at hq4' B6 hv4 hbel hsz5 ⊢
      have s5 : w3.heap.size < w5.heap.size := B6.lt
      have s45 : w4.heap.size ≤ w5.heap.size := by omega
      clear hsz5 E hq4
      have E := (((Kn.from_ hbel hbel.size).give Stable.list hq4').give Stable.list hv4).know B6
      clear hq4' hv4 B6 hbel
      refine (HDO.out _ _ _ ⟨A4, c4, rfl, E.get m1⟩).mono ?_
      rintro e w6 ⟨A5, c5, rfl, own5, hb6⟩
      have s6 := hb6.size
      have hd5 := own5.isLt (X' := fun b => b ≠ w6.heap.size) (by have := HL2.out; omega) (fun b hb _ => by omega) (fun b hb _ => by omega)
      replace E := ((E.step hb6).give Stable.list hd5).push 38 #[.int .i64 100, .slice A5 (q.length + 1) c5]
      clear own5 hb6 hd5
      go_wp2_with fail
      refine (HDR.out _ _ _ ⟨A5, c5, by simp, by simpa using E.get m0⟩).mono ?_
      rintro e w7 ⟨A6, c6, rfl, own6, hb7⟩
      have s7 := hb7.size
      simp at s7
      replace E := E.step hb7
      have hd6 := own6.isL (X' := fun b => b ≠ w6.heap.size) (by omega) (fun b hb => by simp at hb; omega) (fun b hb => by simp at hb; omega)
      have hbel := below_set2 (x := .int .i64 100) (y := .slice A6 q.length c6) E.below (show w.heap.size ≤ w6.heap.size by omega)
      have B9 := (E.at_ m0).set2 (x := .int .i64 100) (y := .slice A6 q.length c6)
      have B6 := (E.at_ m1).far2 (g' := w6.heap.size) (x := .int .i64 100) (y := .slice A6 q.length c6) (by omega)
      have hq6 := IsL.far2 (g := w6.heap.size) (E.get m2) (by omega) (.int .i64 100) (.slice A6 q.length c6)
      have hd7 := IsL.far2 (g := w6.heap.size) hd6 (by omega) (.int .i64 100) (.slice A6 q.length c6)
      obtain ⟨q1, f1, t2⟩ := E.rules m0
      obtain ⟨q2, f2, t3⟩ := E.rules m1
      have hsz8 := size_set2 (w := w7) (g := w6.heap.size) (x := .int .i64 100) (y := .slice A6 q.length c6)
      clear own6 hb7 hd6 E
      go_wp2_with fail
      clear q1 f1 q2 f2
      generalize (w7.setCell ⟨w6.heap.size, 0, none⟩ (.int .i64 100)).setCell ⟨w6.heap.size, 1, none⟩ (.slice A6 q.length c6) = w8 at hbel B9 B6 hq6 hd7 hsz8 ⊢
      have s8 : w7.heap.size ≤ w8.heap.size := by omega
      have E := ((((Kn.from_ hbel hbel.size).give Stable.list hq6).give Stable.list hd7).know B6).know B9
      clear hbel B9 B6 hq6 hd7 hsz8
      refine (same13_any _ _ ⟨100, q⟩ _ _ _ ⟨A6, c6, rfl, E.get m0⟩ ⟨A4, c4, rfl, E.get m1⟩).mono ?_
      rintro e w9 ⟨rfl, hb9⟩
      have s9 := hb9.size
      replace E := E.step hb9
      clear hb9
      obtain ⟨q1, f1, t4⟩ := E.rules m1
      replace E := E.push 38 #[.int .i64 100, .slice A4 q.length c4]
      go_wp2_with fail
      clear q1 f1
      generalize hw10 : w9.alloc (.cells #[.int .i64 100, .slice A4 q.length c4] 38) = w10 at E ⊢
      clear hw10
      go_loopw [10, 75] (fun ev i wr => TurnInv w wr w3.heap.size w9.heap.size w4.heap.size q A4 c4 ev i) (fun _ i _ => q.length - (intOf i).toNat)
      case atStart => exact ⟨0, q, A4, c4, rfl, Nat.zero_le _, by simp, E.at_ m0, IsL.more (E.get m1) (fun b hb => by omega), E.at_ m2, E.get m1, E.below, _, rfl⟩
      case round =>
        obtain ⟨j, r, A7, c7, rfl, hj, hr, C11, hr7, C6, hq7, hb, x, rfl⟩ := hrel
        have F := (((Kn.from_ hb hb.size).give Stable.list hr7).give Stable.list hq7).know C6 |>.know C11
        clear hr7 hq7 C6 C11 hb E
        obtain ⟨q1, f1, t5⟩ := F.rules m0
        obtain ⟨q2, f2, t6⟩ := F.rules m1
        by_cases hlt : j < q.length
        · have hd : q.drop j = q[j] :: q.drop (j + 1) := List.drop_eq_getElem_cons hlt
          have ht : q.take (j + 1) = q.take j ++ [q[j]] := List.take_succ_eq_append_getElem hlt
          have hra : ArgsLe r := by
            rw [← hr]
            exact (hfm.sub fun x hx => List.mem_of_mem_drop hx).app (hfm.sub fun x hx => List.mem_of_mem_take hx)
          have hrl : r.length = q.length := by rw [← hr]; simp; omega
          have hr0 : r[0]? = some q[j] := by rw [← hr, hd]; rfl
          have hnx : r.take 0 ++ r.drop (0 + 1) ++ [q[j]] = q.drop (j + 1) ++ q.take (j + 1) := by
            rw [← hr, hd, ht]
            simp only [List.cons_append, List.take_zero, List.nil_append, Nat.zero_add, List.drop_succ_cons, List.drop_zero, List.append_assoc]
          obtain ⟨r', hr'⟩ : ∃ r', q.drop (j + 1) ++ q.take (j + 1) = r' := ⟨_, rfl⟩
          have hla := fun v K W hv => laterN_ok v ⟨100, r⟩ 0 q[j] K W hv hr0 hra (by simp only; omega)
          simp only at hla
          rw [hnx, hr'] at hla
          have hrl' : r'.length = q.length := by rw [← hr']; simp; omega
          have HLA := Lib.hid hla
          have HR' := Lib.hid hr'
          have HRL := Lib.hid hrl
          have HRL' := Lib.hid hrl'
          clear hla hr' hnx hr0 hd ht hrl hrl' hr
          go_wp2_with fail
          refine (HLA.out _ _ _ ⟨A7, c7, rfl, F.get m1⟩).mono ?_
          rintro e w11 ⟨A8, c8, rfl, own8, hb11⟩
          have s11 := hb11.size
          have hr8 := own8.isL (X' := fun b => b ≠ w9.heap.size) (by have := HRL'.out; omega) (fun b hb => by omega) (fun b hb => by omega)
          replace F := F.step hb11
          clear own8 hb11 q1 f1 q2 f2
          obtain ⟨q1, f1, t7⟩ := F.rules m0
          obtain ⟨q2, f2, t8⟩ := F.rules m1
          go_wp2_with fail
          go_roundw
          case rel => exact ⟨j + 1, r', A8, c8, by go_num, by omega, HR'.out, (F.at_ m0).set2, hr8.far2 (fun h => h rfl) _ _, (F.at_ m1).far2 (by omega), IsL.far2 (F.get m0) (by omega) _ _, below_set2 F.below (by omega), _, rfl⟩
          case measure => simp [intOf]; omega
        · obtain rfl : j = q.length := by omega
          have hrq : r = q := by rw [← hr]; simp
          subst hrq
          clear hr
          go_wp2_with fail
          refine (same13_any _ _ ⟨100, r⟩ _ _ _ ⟨A7, c7, rfl, F.get m1⟩ ⟨A4, c4, rfl, F.get m0⟩).mono ?_
          rintro e w11 ⟨rfl, hb11⟩
          go_wp2
          go_ret
          exact ⟨rfl, (F.step hb11).below⟩
end Go.Proofs.Ytbjgemipmlimoaa
