/- The walk of the document's Torn. -/
import Derived.Test.YtcjmcfjjbicimaaZoneRefA
import Derived.Test.YtcjmcfjjbicimaaRep
import Derived.Deep.DeepCutAuto
import Derived.Deep.RegionWith
namespace Go.Proofs.Ytcjmcfjjbicimaa
open Go.RowKit

set_option maxRecDepth 100000 in
set_option maxHeartbeats 4000000 in
theorem refTorn_any (v sv : Value) (z : Zn) (most keep : Int) (l : List UInt8) (K K' : Nat → Prop) (w : World) (hz : IsZ w K v z) (hs : IsB w K' sv l) :
    Calls Try.prog 21 #[v, .int .i64 most, sv, .int .i64 keep] w fun e w' => ∃ v', e = .returned (.tuple #[v', .int .i64 (tornZ z most l keep).2]) ∧ OwnZ w' w.heap.size v' (tornZ z most l keep).1 ∧ Below w.heap.size w w' := by
  obtain ⟨A, c, rfl, hsb⟩ := hz
  have hs0 := hs
  obtain ⟨A2, c2, rfl, _, hlc2, hcc2, _⟩ := hs
  unfold zv
  have E : Kn w.heap.size w ((w.alloc (.cells #[.int .i64 z.st, .int .i64 z.fe, .slice A z.d.length c] 26)).alloc (.cells #[.int .i64 0, .int .i64 0, .slice none 0 0] 26))
      [(w.heap.size + 1, 26, #[.int .i64 0, .int .i64 0, .slice none 0 0]), (w.heap.size, 26, #[.int .i64 z.st, .int .i64 z.fe, .slice A z.d.length c])]
      [fun w => IsB w K' (.slice A2 l.length c2) l, fun w => IsB w K (.slice A z.d.length c) z.d] := by
    have h := ((((Kn.start w).give Stable.bytes hsb).give Stable.bytes hs0).push 26 #[.int .i64 z.st, .int .i64 z.fe, .slice A z.d.length c]).push 26 #[.int .i64 0, .int .i64 0, .slice none 0 0]
    simpa using h
  clear hsb hs0
  obtain ⟨r, hr⟩ : ∃ r, appZ z most l = r := ⟨_, rfl⟩
  obtain ⟨x, a, er⟩ := r
  have HR := Lib.hid hr
  by_cases her : er = 0
  · have hroom : roomZ z most l = 0 := by
      unfold appZ at hr
      split at hr
      · assumption
      · simp only [Prod.mk.injEq] at hr; omega
    subst her
    have HG := Lib.hid (grown_nil hroom)
    have HT := Lib.hid (fun k (h1 : 0 < k) (h2 : k ≤ l.length) => room_take hroom (k := k) h1 h2)
    have htz : tornZ z most l keep = if 0 ≤ keep ∧ keep ≤ l.length then (grownZ z most (l.take keep.toNat), 0) else (z0, 1) := by unfold tornZ; rw [if_neg (by simpa using hroom)]
    rw [htz]
    have hl0 := (roomZ_zero hroom).2.1
    have hfit := (roomZ_zero hroom).2.2.2
    have hmost := (roomZ_zero hroom).1.2.1
    clear hr hroom htz
    by_cases hk : 0 ≤ keep ∧ keep ≤ l.length
    · rw [if_pos hk]
      obtain ⟨hk0, hk1⟩ := hk
      obtain ⟨k, rfl⟩ : ∃ k : Nat, keep = (k : Int) := ⟨keep.toNat, by omega⟩
      rw [Int.toNat_natCast]
      have hkl : k ≤ l.length := by omega
      by_cases hkz : k = 0
      · subst hkz
        rw [List.take_zero, HG.out]
        go_enter Try.func21, Try.ntmps21
        go_wp2_with fail
        refine (refAppend_any _ _ z most l _ _ _ ⟨A, c, rfl, E.get m1⟩ (E.get m0)).mono ?_
        rw [HR.out]
        rintro e w1 ⟨v1, rfl, ⟨A4, c4, rfl, own4⟩, hb1⟩
        have E1 := E.step hb1
        obtain ⟨q1, f1, t1⟩ := E1.rules m0
        obtain ⟨q2, f2, t2⟩ := E1.rules m1
        unfold zv
        go_wp2_with fail
        have E2 := E1.push 26 #[.int .i64 x.st, .int .i64 x.fe, .slice A4 x.d.length c4]
        refine (copy_any _ z _ _ ⟨A, c, rfl, E2.get m1⟩).mono ?_
        rintro e w2 ⟨v2, rfl, ⟨A5, c5, rfl, own5⟩, hb2⟩
        have E3 := E2.step hb2
        clear q1 f1 t1 q2 f2 t2
        obtain ⟨q1, f1, t1⟩ := E3.rules m1
        unfold zv
        go_wp2_with fail
        have B2 := ((E3.at_ m1).set3 (x := .int .i64 z.st) (y := .int .i64 z.fe) (z := .slice A5 z.d.length c5)).rules
        refine bodyPost_ret (v := .tuple #[.agg #[.int .i64 z.st, .int .i64 z.fe, .slice A5 z.d.length c5], .int .i64 0]) (by simp [results, Try.results21, go_sem, B2.1]) rfl ⟨_, rfl, ⟨A5, c5, rfl, own_setBlk3 (own_base own5 E2.base) (E3.at_ m1) (by decide)⟩, ?_⟩
        exact below_set3 E3.below (by omega)
      · have HT2 := Lib.hid (HT.out k (by omega) hkl)
        have hkb : ((k : Int) == 0) = false := beq_eq_false_iff_ne.2 (by omega)
        have hkc : (k : Int) ≤ (c2 : Int) := by omega
        have hkc0 : (0 : Int) ≤ (k : Int) := by omega
        have HA2 : Hid (appZ z most (l.take k) = (grownZ z most (l.take k), (z.d.length : Int), 0)) := Lib.hid (if_pos HT2.out)
        clear hkz
        have hpre := fun (w : World) (h : IsB w K' (.slice A2 l.length c2) l) => IsB.pre h hkl
        have hfl : z.d.length + (l.take k).length ≤ 65536 := by have := List.length_take_le k l; omega
        generalize l.take k = m at HA2 hpre hfl ⊢
        have hgl : (grownZ z most m).d.length ≤ 65536 := by show (z.d ++ m).length ≤ _; rw [List.length_append]; exact hfl
        generalize grownZ z most m = y at HA2 hgl ⊢
        go_enter Try.func21, Try.ntmps21
        go_wp2_with fail
        refine (refAppend_any _ _ z most l _ _ _ ⟨A, c, rfl, E.get m1⟩ (E.get m0)).mono ?_
        rw [HR.out]
        rintro e w1 ⟨v1, rfl, ⟨A4, c4, rfl, own4⟩, hb1⟩
        have E1 := E.step hb1
        obtain ⟨q1, f1, t1⟩ := E1.rules m0
        obtain ⟨q2, f2, t2⟩ := E1.rules m1
        unfold zv
        have E2 := E1.push 26 #[.int .i64 x.st, .int .i64 x.fe, .slice A4 x.d.length c4]
        go_upto_region 8 with fail
        generalize w1.alloc (.cells #[.int .i64 x.st, .int .i64 x.fe, .slice A4 x.d.length c4] 26) = wx at E2 ⊢
        clear q1 f1 t1 q2 f2 t2
        replace E2 := E2.give Stable.bytes (hpre _ (E2.get m0))
        obtain ⟨q1, f1, t1⟩ := E2.rules m1
        obtain ⟨q2, f2, t2⟩ := E2.rules m2
        go_cut [12, 13] (fun s12 s13 wy => ∃ g A5 c5, s12 = .int .i64 0 ∧ s13 = .pointer (some ⟨g, 0, none⟩) ∧ Below w.heap.size w wy ∧ Blk wy g 26 #[.int .i64 y.st, .int .i64 y.fe, .slice A5 y.d.length c5] ∧
          Blk wy (w.heap.size + 1) 26 #[.int .i64 0, .int .i64 0, .slice none 0 0] ∧ wy.ownsRow w.heap.size 5 1 (.slice A5 y.d.length c5) y.d.length (cells8 y.d))
        case first =>
          go_region_with (
            (go_at_call 19
             refine (refAppend_any _ _ z most m (fun b => K b) (fun b => K' b) _ ?_ ?_).mono ?_
             (first | exact ⟨A, c, rfl, E2.get m2⟩ | exact ⟨A, c, rfl, E2.drew.get m2⟩ | exact ⟨A, c, rfl, (E2.drew.alloc _).get m2⟩)
             (first | exact E2.get m0 | exact E2.drew.get m0 | exact (E2.drew.alloc _).get m0)
             rw [HA2.out]
             rintro e w2 ⟨v2, rfl, ⟨A5, c5, rfl, own5⟩, hb2⟩
             have E3 := (by first | exact E2.drew.step hb2 | exact (E2.drew.push 26 #[.int .i64 0, .int .i64 0, .slice none 0 0]).step hb2)
             try (obtain ⟨q3, f3, t3⟩ := E3.rules (g := wx.heap.size) m0)
             unfold zv))
          all_goals (go_wp2_with fail; go_meet)
          all_goals
            have hb0 := E2.base
            first
              | exact ⟨_, A5, c5, rfl, rfl, (E3.alloc _).below, Blk.new _ _ _ rfl, (E3.at_ m1).alloc _, (own_base own5 hb0).alloc _⟩
              | exact ⟨_, A5, c5, rfl, rfl, below_set3 E3.below hb0, (E3.at_ m0).set3, (E3.at_ m2).far3 (by show _ ≠ wx.heap.size; omega), own_setBlk3 (own_base own5 (by simp; omega)) (E3.at_ m0) (by decide)⟩
        case rest =>
          obtain ⟨g, A5, c5, rfl, rfl, hbc, Bg, B8, own8⟩ := hcut
          obtain ⟨q1, f1⟩ := Bg.rules
          obtain ⟨q2, f2⟩ := B8.rules
          have hg2 : w.heap.size + 1 < wc.heap.size := B8.lt
          go_wp2_with fail
          have B2 := (B8.set3 (x := .int .i64 y.st) (y := .int .i64 y.fe) (z := .slice A5 y.d.length c5)).rules
          refine bodyPost_ret (v := .tuple #[.agg #[.int .i64 y.st, .int .i64 y.fe, .slice A5 y.d.length c5], .int .i64 0]) (by simp [results, Try.results21, go_sem, B2.1]) rfl ⟨_, rfl, ⟨A5, c5, rfl, own_setBlk3 own8 B8 (by decide)⟩, ?_⟩
          exact below_set3 hbc (by omega)
    · rw [if_neg hk]
      have hkk : (keep < 0) ∨ ¬ keep < 0 ∧ (l.length : Int) < keep := by omega
      clear hk
      rcases hkk with hk | ⟨hk, hk2⟩
      all_goals
        go_enter Try.func21, Try.ntmps21
        go_wp2_with fail
        refine (refAppend_any _ _ z most l _ _ _ ⟨A, c, rfl, E.get m1⟩ (E.get m0)).mono ?_
        rw [HR.out]
        rintro e w1 ⟨v1, rfl, ⟨A4, c4, rfl, own4⟩, hb1⟩
        have E1 := E.step hb1
        obtain ⟨q1, f1, t1⟩ := E1.rules m0
        unfold zv
        go_wp2_with fail
        have B2 := (((E1.at_ m0).set3 (x := .int .i64 0) (y := .int .i64 0) (z := .slice none 0 0)).alloc (.cells #[.int .i64 x.st, .int .i64 x.fe, .slice A4 x.d.length c4] 26)).rules
        refine bodyPost_ret (v := .tuple #[.agg #[.int .i64 0, .int .i64 0, .slice none 0 0], .int .i64 1]) (by simp [results, Try.results21, go_sem, B2.1]) rfl ⟨_, rfl, OwnZ.zero _ _, ?_⟩
        exact (below_set3 E1.below (by omega)).alloc (by have := E1.base; simpa [World.setCell] using this) _
  · have hroom : roomZ z most l ≠ 0 := by
      unfold appZ at hr
      split at hr
      · simp only [Prod.mk.injEq] at hr; omega
      · assumption
    have htz : tornZ z most l keep = (z0, er) := by
      unfold tornZ; rw [if_pos hroom]
      unfold appZ at hr; rw [if_neg hroom] at hr
      simp only [Prod.mk.injEq] at hr; rw [hr.2.2]
    rw [htz]
    have hrb : (er != 0) = true := by simpa using her
    clear hr hroom htz her
    go_enter Try.func21, Try.ntmps21
    go_wp2_with fail
    refine (refAppend_any _ _ z most l _ _ _ ⟨A, c, rfl, E.get m1⟩ (E.get m0)).mono ?_
    rw [HR.out]
    rintro e w1 ⟨v1, rfl, ⟨A4, c4, rfl, own4⟩, hb1⟩
    have E1 := E.step hb1
    obtain ⟨q1, f1, t1⟩ := E1.rules m0
    unfold zv
    go_wp2_with fail
    have B2 := (((E1.at_ m0).set3 (x := .int .i64 0) (y := .int .i64 0) (z := .slice none 0 0)).alloc (.cells #[.int .i64 x.st, .int .i64 x.fe, .slice A4 x.d.length c4] 26)).rules
    refine bodyPost_ret (v := .tuple #[.agg #[.int .i64 0, .int .i64 0, .slice none 0 0], .int .i64 er]) (by simp [results, Try.results21, go_sem, B2.1]) rfl ⟨_, rfl, OwnZ.zero _ _, ?_⟩
    exact (below_set3 E1.below (by omega)).alloc (by have := E1.base; simpa [World.setCell] using this) _
end Go.Proofs.Ytcjmcfjjbicimaa
