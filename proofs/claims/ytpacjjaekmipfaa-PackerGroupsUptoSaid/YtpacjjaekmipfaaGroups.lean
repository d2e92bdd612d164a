/- The walk of PackerGroups. -/
import Derived.Test.YtpacjjaekmipfaaGroupOne
import Derived.Deep.DeepMust
namespace Go.Proofs.Ytpacjjaekmipfaa
open Go.RowKit

theorem IsPk.parts {w : World} {K : Nat → Prop} {vb vl : Value} {p : Pk} (h : IsPk w K (pkV p vb vl) p) : IsB w K vb p.buf ∧ IsL Rp.rc w K vl p.l := by
  obtain ⟨v1, v2, e, h1, h2⟩ := h
  unfold pkV at e
  injection e with e
  simp only [Array.mk.injEq, List.cons.injEq, and_true, true_and] at e
  obtain ⟨rfl, rfl⟩ := e
  exact ⟨h1, h2⟩
theorem Stable.reads {K : Nat → Prop} {size n : Nat} {A : Option Addr} {xs : List Value} : Stable (fun w => Reads w K size A n xs) := fun _ _ h hb => h.step hb
set_option maxRecDepth 100000 in
set_option maxHeartbeats 16000000 in
theorem packerGroups_any (h : Hd) (lv : Value) (l : List Rc) (w : World) (hh : OkHd h) (hl : IsL Rp.rc w (· < w.heap.size) lv l) (hll : l.length ≤ 1048576) :
    Calls Try.prog 4 #[hdV h, lv] w fun e w' => e = .returned (.bool true) ∧ Below w.heap.size w w' := by
  have hl0 := hl
  obtain ⟨Al, cl, rfl, hlc, hlc2⟩ := hl.form
  have hok := isL_ok hl
  obtain ⟨i0, hi, hz0, hz1, hz2⟩ := info_parts Try.info5
  obtain ⟨i1, hi1, hy0, hy1, hy2⟩ := info_parts Try.infInt
  have E := ((Kn.start w).give Stable.list hl0).push 23 #[.int .i64 h.host, .int .i64 h.epoch, .int .i64 h.seq]
  unfold hdV
  go_enter Try.func4, Try.ntmps4
  go_wp2_with fail
  refine (live15_any _).mono ?_
  rintro e w1 ⟨rfl, hb1⟩
  replace E := E.step hb1
  go_wp2_with fail
  refine (bigR_any 20000 _ l _ _ (E.get m0)).mono ?_
  rintro e w2 ⟨rfl, hb2⟩
  replace E := E.step hb2
  obtain ⟨q0, f0, t0⟩ := E.rules m0
  cases hbig : bigR 20000 l with
  | true =>
    go_wp2
    go_ret
    exact ⟨rfl, E.below⟩
  | false =>
    go_wp2_with fail
    refine (pbegin_any h 1 60000 _ hh).mono ?_
    rintro e w3 ⟨A5, c5, rfl, own3, hb3⟩
    replace E := E.step hb3
    have hs3 := E.below.size
    unfold pkV
    by_cases hbe : (beginL h 1 60000).2 = 0
    · obtain ⟨hbg, hbl, hbh⟩ := beginL_ok hbe
      have hpos := headL_pos hbh
      rw [hbg] at own3 ⊢
      simp only at own3 ⊢
      clear hbg hbe hbh
      generalize (headL h).1 = hb at own3 hbl hpos ⊢
      have hB3 : IsB w3 (fun b => b < w3.heap.size) (.slice A5 hb.length c5) hb := (IsB.of_own own3 (by omega)).lt.more (fun b hb => hb.2)
      clear own3 q0 f0 t0
      replace E := (E.give Stable.bytes hB3).push 29 (grC h 0 (.slice A5 hb.length c5) (.slice none 0 0))
      obtain ⟨q0, f0, t0⟩ := E.rules m0
      have hp0 : ∀ W, IsB W (fun b => b < w3.heap.size) (.slice A5 hb.length c5) hb → IsPk W (fun b => b < w3.heap.size) (.agg (grC h 0 (.slice A5 hb.length c5) (.slice none 0 0))) ⟨h, 1, 60000, 0, hb, []⟩ := fun W h => ⟨_, _, rfl, h, IsL.nil_ _ _⟩
      have hokp : OkPk ⟨h, 1, 60000, 0, hb, []⟩ := ⟨hh, by simp, by simp, by simp, by simp only; omega, by simp⟩
      go_wp2_with fail
      refine (add_any _ _ ⟨h, 1, 60000, 0, hb, []⟩ l (fun b => b < w3.heap.size) _ _ (hp0 _ (E.get m0)) (fun b hb => by rw [World.size_alloc]; omega) hokp (E.get m1) (by omega)).mono ?_
      rintro e w4 ⟨pv, A6, c6, rfl, ⟨vb, vl, rfl, hB4, hL4⟩, own4, hb4⟩
      obtain ⟨A7, c7, rfl, _⟩ := isB_form hB4
      obtain ⟨A8, c8, rfl, _⟩ := hL4.form
      obtain ⟨ra, hra⟩ : ∃ ra, addL ⟨h, 1, 60000, 0, hb, []⟩ l = ra := ⟨_, rfl⟩
      rw [hra] at hB4 hL4 own4 ⊢
      have HRA := Lib.hid hra
      clear hra
      obtain ⟨pa, pt, fa⟩ := ra
      simp only at hB4 hL4 own4 ⊢
      have hpa : IsPk w4 (fun b => b < w4.heap.size) (pkV pa (.slice A7 pa.buf.length c7) (.slice A8 pa.l.length c8)) pa := ⟨_, _, rfl, hB4.more (fun b hb => hb.1), hL4.more (fun b hb => hb.1)⟩
      have E4 := E.step hb4
      replace E := ((((E.step hb4).give Stable.pk hpa).give Stable.reads ((Reads.of_own own4).more (K' := fun b => b < w4.heap.size) (fun b hb => (own4.lt b hb.symm).2))).push 29 #[.int .i64 pa.h.host, .int .i64 pa.h.epoch, .int .i64 pa.h.seq, .int .i64 pa.zone, .int .i64 pa.cap, .int .i64 pa.at_, .slice A7 pa.buf.length c7, .slice A8 pa.l.length c8]).push 29 (grC h 0 (.slice A5 hb.length c5) (.slice none 0 0)) |>.push 29 (grC h 0 (.slice A5 hb.length c5) (.slice none 0 0))
      simp only [World.size_alloc] at E
      unfold pkV
      clear hB4 hL4 hpa q0 f0 t0 hB3
      obtain ⟨q0, f0, t0⟩ := E4.rules m0
      have hs4 := hb4.size
      simp only [World.size_alloc] at hs4
      have hlt4 := own4.lt
      go_upto_region 10 with fail
      obtain ⟨w5, hw5⟩ : ∃ w5, ((w4.alloc (.cells #[.int .i64 pa.h.host, .int .i64 pa.h.epoch, .int .i64 pa.h.seq, .int .i64 pa.zone, .int .i64 pa.cap, .int .i64 pa.at_, .slice A7 pa.buf.length c7, .slice A8 pa.l.length c8] 29)).alloc (.cells (grC h 0 (.slice A5 hb.length c5) (.slice none 0 0)) 29)).alloc (.cells (grC h 0 (.slice A5 hb.length c5) (.slice none 0 0)) 29) = w5 := ⟨_, rfl⟩
      have hs5 : w5.heap.size = w4.heap.size + 1 + 1 + 1 := by rw [← hw5]; simp
      rw [hw5] at E ⊢
      have HS5 := Lib.hid hs5
      clear hw5 hs5 E4 q0 f0 t0
      go_wp2_with fail
      go_loopw [13, 14, 52] (fun v13 v14 i wr => GrRel w5 h hb l (w4.heap.size + 1) (w4.heap.size + 1 + 1) v13 v14 i wr) (fun _ _ i _ => l.length - (intOf i).toNat)
      case atStart =>
        have hB5 := (E.get m2).more (K' := grK (w4.heap.size + 1) (w4.heap.size + 1 + 1) (.slice none 0 0) (.slice none 0 0)) (fun b hb => ⟨⟨by omega, by omega⟩, by simp [Value.ownBlock], by simp [Value.ownBlock]⟩)
        refine ⟨0, hb, [], 0, hb, [], [], A5, c5, none, 0, A5, c5, none, 0, none, 0, none, 0, rfl, Nat.zero_le _, rfl, by simp [frsL]; omega, by simp [frsL], rfl, rfl, rfl, fun h => absurd h (by omega), Nat.le_refl _, rfl, World.ownsRow_nil _ _ _ _, rfl, World.ownsRow_nil _ _ _ _, E.at_ m1, ⟨_, _, rfl, hB5, IsL.nil_ _ _⟩, E.at_ m0, ⟨_, _, rfl, hB5, IsL.nil_ _ _⟩, Turned.refl _ _⟩
      case round =>
        obtain ⟨j, ob, ol, sa, sb, sl, bs, A1, c1, A2, c2, A3, c3, A4, c4, A9, c9, A10, c10, rfl, G⟩ := hrel
        have e13 := G.p13
        have e14 := G.p14
        subst e13 e14
        have hs5 := HS5.out
        have hsz := G.trn.size
        have hbw := E.below.trans (G.trn.below (B := w.heap.size) (fun k hk => by have := E.below.size; omega) E.below.size)
        have hlr : IsL Rp.rc wr (· < w.heap.size) (.slice Al l.length cl) l := IsL.turned (E.get m3) G.trn (fun b hb => by omega)
        have hwb := hbw.size
        clear hs5
        by_cases hlt : j < l.length
        · obtain ⟨ad, Ad, cd, rfl, hKad, hvd, hokr, hc0, hc1, hc2, hc3, hc4, hc5, hc6⟩ := rc_at hlr (List.getElem?_eq_getElem hlt)
          have hjr : l[j]? = some l[j] := List.getElem?_eq_getElem hlt
          generalize l[j] = r at hvd hokr hc0 hc1 hc2 hc3 hc4 hc5 hc6 hjr
          have HJ := Lib.hid hjr
          clear hjr
          have F := (((((((Kn.start wr).give Stable.bytes hvd).give Stable.pk G.k11.lt).give Stable.pk G.k12.lt).give Stable.ownI G.o13).give Stable.ownI G.o14).know G.b11).know G.b12 |>.push 34 #[.int .i64 r.kind, .int .i64 r.lba, .int .i64 r.n, .int .i64 r.ver, .int .i64 r.zone, .int .i64 r.off, .slice Ad r.data.length cd]
          have hol := congrArg List.length G.hol
          rw [List.length_take] at hol
          have hobl := congrArg List.length G.hob
          rw [List.length_append] at hobl
          have hfit := G.fit
          have hob3 : ob.length ≤ 60000 := by omega
          have hol3 : ol.length ≤ 1048576 := by omega
          have HOB := Lib.hid hobl
          have HFIT := Lib.hid hfit
          clear hobl hol hfit
          have hok1 : OkPk ⟨h, 1, 60000, 0, ob, ol⟩ := ⟨hh, by simp, by simp, by simp, by simp only; omega, by simp only; omega⟩
          obtain ⟨q0, f0, t0⟩ := F.rules m2
          obtain ⟨q1, f1, t1⟩ := F.rules m1
          have hrl := recL_len hokr
          have herr := errL_one r
          have hfrs := frsL_one r
          have hadd1 := add_any (.agg (grC h 0 (.slice A1 ob.length c1) (.slice A2 ol.length c2))) (.slice (some ⟨wr.heap.size + 1, 0, none⟩) 1 1) ⟨h, 1, 60000, 0, ob, ol⟩ [r] (fun b => grK (w4.heap.size + 1) (w4.heap.size + 1 + 1) (.slice A9 j c9) (.slice A10 bs.length c10) b ∧ b < wr.heap.size) (fun b => b = wr.heap.size + 1 ∨ b < w.heap.size)
            ((wr.alloc (.cells #[.int .i64 r.kind, .int .i64 r.lba, .int .i64 r.n, .int .i64 r.ver, .int .i64 r.zone, .int .i64 r.off, .slice Ad r.data.length cd] 34)).alloc (.cells #[.int .i64 r.kind, .int .i64 r.lba, .int .i64 r.n, .int .i64 r.ver, .int .i64 r.zone, .int .i64 r.off, .slice Ad r.data.length cd] 34)) ((F.alloc (.cells #[.int .i64 r.kind, .int .i64 r.lba, .int .i64 r.n, .int .i64 r.ver, .int .i64 r.zone, .int .i64 r.off, .slice Ad r.data.length cd] 34)).get m3) (fun b hb => by simp; omega) hok1 (isL_rc1 (by simp) (F.get m4) hokr) (by simp)
          have hst : Below wr.heap.size wr ((wr.alloc (.cells #[.int .i64 r.kind, .int .i64 r.lba, .int .i64 r.n, .int .i64 r.ver, .int .i64 r.zone, .int .i64 r.off, .slice Ad r.data.length cd] 34)).alloc (.cells #[.int .i64 r.kind, .int .i64 r.lba, .int .i64 r.n, .int .i64 r.ver, .int .i64 r.zone, .int .i64 r.off, .slice Ad r.data.length cd] 34)) := ((Below.refl _ _).alloc (Nat.le_refl _) _).alloc (by simp) _
          by_cases hgo : (recL r).2 = 0 ∧ ((recL r).1.length : Int) ≤ 60000 - hb.length - (frsL (l.take j)).length
          · obtain ⟨hfe, hfi⟩ := hgo
            clear hadd1 hst herr hfrs
            have hp1 := add_one (wr.alloc (.cells #[.int .i64 r.kind, .int .i64 r.lba, .int .i64 r.n, .int .i64 r.ver, .int .i64 r.zone, .int .i64 r.off, .slice Ad r.data.length cd] 34)) ⟨h, 1, 60000, 0, ob, ol⟩ r (.slice A1 ob.length c1) (.slice A2 ol.length c2) Ad cd (wr.heap.size + 1) (fun b => grK (w4.heap.size + 1) (w4.heap.size + 1 + 1) (.slice A9 j c9) (.slice A10 bs.length c10) b ∧ b < wr.heap.size) (fun b => b < w.heap.size) (by simp) (F.get m3) (fun b hb => by simp; omega) hok1 (F.get m4) hokr hfe (by unfold roomL; simp only; have := HOB.out; omega)
            obtain ⟨fb, hfb⟩ : ∃ fb, (recL r).1 = fb := ⟨_, rfl⟩
            obtain ⟨px, hpx⟩ : ∃ px, plsL (ob.length : Int) [r] = px := ⟨_, rfl⟩
            obtain ⟨ob2, hob2⟩ : ∃ ob2, ob ++ fb = ob2 := ⟨_, rfl⟩
            obtain ⟨ol2, hol2⟩ : ∃ ol2, ol ++ [r] = ol2 := ⟨_, rfl⟩
            have hpx63 : I63 px := by
              rw [← hpx]
              have := recL_len hokr
              exact plsL_i63 (by omega) (by rw [frsL_one]; omega) (by rw [errL_one]; exact hfe) (by intro x hx; rw [List.mem_singleton] at hx; rw [hx]; exact hokr)
            have hpxl : px.length = 1 := by rw [← hpx, plsL_len]; rfl
            simp only [hfb, hob2, hol2, Int.zero_add, hpx] at hp1
            have HP1 := Lib.hid hp1
            rw [hfb] at hrl hfi
            obtain ⟨hfl, hfg⟩ := hrl
            have hfg1 := (hfg hfe).2
            have hob4 : ob2.length ≤ 60000 := by rw [← hob2, List.length_append]; have := HOB.out; omega
            have hol4 : ol2.length ≤ 1048577 := by rw [← hol2, List.length_append]; simp; omega
            have HFB := Lib.hid hfb; have HPX := Lib.hid hpx; have HO2 := Lib.hid hob2; have HL2 := Lib.hid hol2; have HFI := Lib.hid hfi; have HPL := Lib.hid hpxl; have HFE := Lib.hid hfe
            clear hp1 hfb hpx hob2 hol2 hfi hfg hpxl hfe
            go_wp2_with fail
            refine HP1.out.mono ?_
            rintro e w6 ⟨A11, c11, A12, c12, A13, c13, rfl, hq1, own6, hb6⟩
            simp only [World.size_alloc] at hq1 own6
            have F6 := F.step hb6
            have hs6 := hb6.size
            simp only [World.size_alloc] at hs6
            have hhv := F6.get m4
            have hk12 := F6.get m2
            have o13 := F6.get m1
            have o14 := F6.get m0
            replace F6 := ((F6.give Stable.pk hq1).give Stable.ownI own6).push 29 #[.int .i64 h.host, .int .i64 h.epoch, .int .i64 h.seq, .int .i64 1, .int .i64 60000, .int .i64 0, .slice A11 ob2.length c11, .slice A12 ol2.length c12]
            have h13 := G.o13.lt
            have h14 := G.o14.lt
            have h6 := own6.lt
            have hs5 := HS5.out
            unfold pkV
            clear q0 f0 t0 q1 f1 t1
            obtain ⟨q0, f0, t0⟩ := F6.rules m0
            obtain ⟨q1, f1, t1⟩ := F6.rules m3
            clear hs5
            go_upto_region 19 with fail
            have h8 := st8_all (F6.at_ m3) (.int .i64 h.host) (.int .i64 h.epoch) (.int .i64 h.seq) (.int .i64 1) (.int .i64 60000) (.int .i64 0) (.slice A11 ob2.length c11) (.slice A12 ol2.length c12)
            unfold st8 at h8
            obtain ⟨c8b, T8⟩ := h8
            have hs5 := HS5.out
            have hszF := F6.below.size
            have trn8 := (G.trn.step F6.below).trans (T8.mono (fun k hk => .inl hk))
            have k12b := (F6.get m4).turned T8 (fun b hb => hb.1.1.1)
            have hq1b := (F6.get m1).turned T8 (fun b hb => by have := hb.2; rcases this with h | h; exact h.1.1.1; omega)
            have o13b := own_turned (F6.get m3) T8 (by omega)
            have o14b := own_turned (F6.get m2) T8 (by omega)
            have own6b := own_turned (F6.get m0) T8 (by omega)
            have hvdb := (F6.get m6).turned T8 (fun b hb => by omega)
            have b12b := (F6.at_ m2).turned T8 (by simp)
            have rbb := (F6.at_ m1).turned T8 (by omega)
            have hs8 := T8.size
            rw [World.size_alloc] at hs8
            clear F6 T8 own6 o13 o14 hk12 hhv hq1 q0 f0 t0 q1 f1 t1 hs5
            generalize (((((((((w6.alloc (.cells #[.int .i64 h.host, .int .i64 h.epoch, .int .i64 h.seq, .int .i64 1, .int .i64 60000, .int .i64 0, .slice A11 ob2.length c11, .slice A12 ol2.length c12] 29)).setCell ⟨w4.heap.size + 1, 0, none⟩ (.int .i64 h.host)).setCell ⟨w4.heap.size + 1, 1, none⟩ (.int .i64 h.epoch)).setCell ⟨w4.heap.size + 1, 2, none⟩ (.int .i64 h.seq)).setCell ⟨w4.heap.size + 1, 3, none⟩ (.int .i64 1)).setCell ⟨w4.heap.size + 1, 4, none⟩ (.int .i64 60000)).setCell ⟨w4.heap.size + 1, 5, none⟩ (.int .i64 0)).setCell ⟨w4.heap.size + 1, 6, none⟩ (.slice A11 ob2.length c11)).setCell ⟨w4.heap.size + 1, 7, none⟩ (.slice A12 ol2.length c12)) = w8 at c8b trn8 k12b hq1b o13b o14b own6b hvdb b12b rbb hs8 ⊢
            have hr6 := Reads.of_own own6b
            have ho6 : ∀ u ∈ px.map I64, u.oneCell' = true := by intro u hu; simp only [List.mem_map] at hu; obtain ⟨x, _, rfl⟩ := hu; rfl
            have hjm : j ≤ 1048576 := by omega
            go_wp2_with (first
              | (at_builtin; go_must (refine wpList_appN rfl _ _ _ rfl w5.heap.size 3 i1 _ 1 8 Try.underlying37 hi1 hy0 hy1 hy2 rfl (by omega) rfl o13b rfl hr6 ho6 (by simp only [maxLen]; omega) (by omega) (by omega) ?_)
                 intro A14 c14 w9 o13c hg9
                 have b12c := b12b.grew o13b (by decide) hg9
                 have rbc := rbb.grew o13b (by decide) hg9
                 obtain ⟨q0, f0⟩ := b12c.rules
                 obtain ⟨q1, f1⟩ := rbc.rules
                 have t0 := b12c.lt
                 have t1 := rbc.lt))
            have hs5 := HS5.out
            have k12c := (k12b.grew hg9 (fun b hb => hb.1.2.1)).lt
            have hq1c := (hq1b.grew hg9 (fun b hb => by rcases hb.2 with hh | hh; exact hh.1.2.1; exact fun e => by have := (h13 b e.symm).2; omega)).lt
            have o14c := own_grew o14b o13b (by decide) hg9
            have own6c : w9.ownsRow (wr.heap.size + 1) 3 1 (.slice A13 1 c13) 1 (px.map I64) := own_grew' own6b (by
              cases hob : (Value.slice A13 1 c13).ownBlock with
              | none => exact .inl rfl
              | some b => exact .inr fun e => by have h1 := (h6 b hob).1; have h2 := (h13 b e.symm).2; omega) hg9
            have hvdc := hvdb.keep (w' := w9) fun q h1 h2 => World.cell?_of_block (hg9.grown.block _ h2 (fun e => by have := (h13 _ e.symm).1; omega))
            have c8c := c8b.grew o13b (by decide) hg9
            have trn9 := trn8.later hg9.below (Nat.le_refl _)
            have hs9 := hg9.below.size
            have C := ((((((((Kn.start w9).give Stable.bytes hvdc).give Stable.pk k12c).give Stable.pk hq1c).give Stable.ownI o13c).give Stable.ownI o14c).give Stable.ownI own6c).know c8c).know b12c |>.know rbc
            have hbyl := congrArg List.length G.by_
            rw [List.length_append] at hbyl
            have hata := G.at_
            have hsum : sa + (sb.length : Int) = (ob.length : Int) := by rw [hata]; omega
            have hsa0 : 0 ≤ sa ∧ sa ≤ 60000 := by omega
            have hsb3 : sb.length ≤ 60000 ∧ bs.length ≤ 60000 := by omega
            have hsl3 := G.lst
            have hp2 := add_one w9 ⟨h, 1, 60000, sa, sb, sl⟩ r (.slice A3 sb.length c3) (.slice A4 sl.length c4) Ad cd w9.heap.size _ _ rfl (C.get m4) (fun b hb => hb.2) ⟨hh, by simp, by simp, by simp only; omega, by simp only; omega, by simp only; omega⟩ (C.get m5) hokr HFE.out (by have := HFI.out; have := HOB.out; rw [HFB.out]; unfold roomL; simp only; omega)
            obtain ⟨sb2, hsb2⟩ : ∃ sb2, sb ++ fb = sb2 := ⟨_, rfl⟩
            obtain ⟨sl2, hsl2⟩ : ∃ sl2, sl ++ [r] = sl2 := ⟨_, rfl⟩
            simp only [HFB.out, hsb2, hsl2, hsum, HPX.out] at hp2
            have hsb4 : sb2.length ≤ 200000 ∧ 1 ≤ sb2.length := by rw [← hsb2, List.length_append]; omega
            have hsl4 : sl2.length ≤ 2000000 := by rw [← hsl2, List.length_append]; simp; omega
            have HP2 := Lib.hid hp2; have HSB := Lib.hid hsb2; have HSL := Lib.hid hsl2; have HSUM := Lib.hid hsum; have HBYL := Lib.hid hbyl; have HATA := Lib.hid hata
            clear hp2 hsb2 hsl2 hsum hbyl hata hs5
            refine HP2.out.mono ?_
            rintro e w10 ⟨A15, c15, A16, c16, A17, c17, rfl, hq2, own10, hb10⟩
            replace C := (((C.step hb10).give Stable.pk hq2).give Stable.ownI own10).push 29 #[.int .i64 h.host, .int .i64 h.epoch, .int .i64 h.seq, .int .i64 1, .int .i64 60000, .int .i64 sa, .slice A15 sb2.length c15, .slice A16 sl2.length c16]
            unfold pkV
            clear q0 f0 t0 q1 f1 t1 k12c hq1c o14c own6c hvdc c8c hq2
            go_wp2_with fail
            refine (sameInts_any _ _ px _ _ _ (isL_own_ints (C.get m0) HPL.out hpx63 (by omega)) (isL_own_ints (C.get m2) HPL.out hpx63 (by omega))).mono ?_
            rintro e w11 ⟨rfl, hb11⟩
            replace C := C.step hb11
            obtain ⟨q0, f0, t0⟩ := C.rules m0
            have hne2 : sb2 ≠ [] := by intro e; rw [e] at hsb4; simp at hsb4
            have hp3 := fun K W hW => flush_some (pkV ⟨h, 1, 60000, sa, sb2, sl2⟩ (.slice A15 sb2.length c15) (.slice A16 sl2.length c16)) ⟨h, 1, 60000, sa, sb2, sl2⟩ K W hW ⟨hh, by simp, by simp, by simp only; omega, by simp only; omega, by simp only; omega⟩ hne2
            have hfp : flushP ⟨h, 1, 60000, sa, sb2, sl2⟩ = ⟨h, 1, 60000, sa + sb2.length, [], []⟩ := by unfold flushP; rw [if_neg hne2]
            simp only [hfp] at hp3
            clear hfp hne2
            go_wp2_with fail
            refine (hp3 _ _ (C.get m1)).mono ?_
            rintro e w12 ⟨A18, c18, rfl, own12, hb12⟩
            have hs11 := C.below.size
            have hs12 := hb12.size
            replace C := ((C.step hb12).give Stable.ownI own12).push 44 #[.int .i64 1, .int .i64 1, .int .i64 h.epoch, .int .i64 0, .int .i64 0, .slice A18 sb2.length c18] |>.push 29 #[.int .i64 h.host, .int .i64 h.epoch, .int .i64 h.seq, .int .i64 1, .int .i64 60000, .int .i64 (sa + sb2.length), .slice none 0 0, .slice none 0 0]
            simp only [World.size_alloc] at C
            unfold cmdV pkV
            clear q0 f0 t0 hp3 own12
            obtain ⟨q0, f0, t0⟩ := C.rules m1
            go_upto_region 24 with fail
            obtain ⟨w13, hw13⟩ : ∃ w13, ((w12.alloc (.cells #[.int .i64 1, .int .i64 1, .int .i64 h.epoch, .int .i64 0, .int .i64 0, .slice A18 sb2.length c18] 44)).alloc (.cells #[.int .i64 h.host, .int .i64 h.epoch, .int .i64 h.seq, .int .i64 1, .int .i64 60000, .int .i64 (sa + sb2.length), .slice none 0 0, .slice none 0 0] 29)) = w13 := ⟨_, rfl⟩
            have hs13 : w13.heap.size = w12.heap.size + 1 + 1 := by rw [← hw13]; simp
            rw [hw13] at C q0 f0 t0 ⊢
            have HS13 := Lib.hid hs13
            clear hw13 hs13
            have hr12 := Reads.of_own (C.get m0)
            have o14d := C.get m4
            go_upto_region 25 with (first
              | (at_builtin; go_must (refine wpList_appN rfl _ _ _ rfl w5.heap.size 5 i0 _ 1 1 Try.underlying27 hi hz0 hz1 hz2 rfl (by omega) rfl o14d rfl hr12 (cells8_one sb2) (by simp only [maxLen]; omega) (by omega) (by have := C.below.size; omega) ?_)
                 intro A20 c20 w14 o14e hg14))
            have hs5 := HS5.out
            have hs13 := HS13.out
            have hs14 := hg14.below.size
            have hszC := C.below.size
            have o13e := own_grew (C.get m5) o14d (by decide) hg14
            have hq1e := IsPk.grew (C.get m6) hg14 (fun b hb => by rcases hb.1.2 with hh | hh; exact hh.1.2.2; exact fun e => by have := (h14 b e.symm).2; omega)
            have c8e := (C.at_ m5).grew o14d (by decide) hg14
            have b12e := (C.at_ m4).grew o14d (by decide) hg14
            have zbe := (C.at_ m0).grew o14d (by decide) hg14
            have trn14 := (trn9.step C.below).later hg14.below (Nat.le_refl _)
            have h8 := st8_all b12e (.int .i64 h.host) (.int .i64 h.epoch) (.int .i64 h.seq) (.int .i64 1) (.int .i64 60000) (.int .i64 (sa + sb2.length)) (.slice none 0 0) (.slice none 0 0)
            unfold st8 at h8
            obtain ⟨b12f, T25⟩ := h8
            have o13f := own_turned o13e T25 (by omega)
            have o14f := own_turned o14e T25 (by omega)
            have hq1f := hq1e.turned T25 (fun b hb => by rcases hb.1.2 with hh | hh; exact hh.1.1.2; omega)
            have c8f := c8e.turned T25 (by simp)
            have trnf := trn14.trans (T25.mono (fun k hk => .inr hk))
            obtain ⟨q1, f1⟩ := zbe.rules
            obtain ⟨q2, f2⟩ := b12e.rules
            have t1 := zbe.lt
            have t2 := b12e.lt
            clear C q0 f0 t0 o13e o14e hq1e c8e b12e zbe hr12 o14d hs5
            go_wp2_with fail
            have htk := take_snoc l HJ.out
            have herr0 := G.err
            have hfit0 := HFIT.out
            have hob0 := G.hob
            have hfx : frsL (l.take (j + 1)) = frsL (l.take j) ++ fb := by rw [htk, frsL_snoc, HFB.out]
            refine ⟨⟨j + 1, ob2, ol2, sa + sb2.length, [], [], bs ++ sb2, A11, c11, A12, c12, none, 0, none, 0, A14, c14, A20, c20, by go_num, ?_⟩, by simp [intOf]; omega⟩
            refine { le := by omega, err := by rw [htk, errL_snoc, if_neg (by simp [herr0])]; exact HFE.out, fit := ?_, hob := ?_, hol := ?_, at_ := ?_, by_ := ?_, buf := fun _ => rfl, lst := Nat.zero_le _, p13 := rfl, o13 := ?_, p14 := by rw [List.length_append], o14 := ?_, b11 := c8f, k11 := ?_, b12 := b12f, k12 := ⟨_, _, rfl, isB_nil _ _, IsL.nil_ _ _⟩, trn := trnf }
            · rw [hfx, List.length_append]; have := HFI.out; omega
            · rw [hfx, ← HO2.out, hob0, List.append_assoc]
            · rw [htk, ← HL2.out, G.hol]
            · rw [List.length_append, HATA.out]; omega
            · rw [List.append_nil, ← HSB.out, ← List.append_assoc, G.by_, HO2.out]
            · rw [htk, plsL_append, List.map_append, show ((hb.length : Int) + ((frsL (l.take j)).length : Int)) = (ob.length : Int) by have := HOB.out; omega, HPX.out]
              exact o13f
            · rw [List.length_append, cells8_append]
              exact o14f
            · refine IsPk.more hq1f (fun b hb => ?_)
              refine ⟨⟨?_, ?_⟩, ?_, ?_⟩
              · rcases hb.1.2 with hh | hh
                · exact hh.1.1.1
                · have := HS5.out; omega
              · rcases hb.1.2 with hh | hh
                · exact hh.1.1.2
                · have := HS5.out; omega
              · rcases hg9.at_ with h5 | ⟨g', h5, h6'⟩
                · rw [h5]
                  rcases hb.1.2 with hh | hh
                  · exact hh.1.2.1
                  · exact fun e => by have := (h13 b e.symm).2; omega
                · rw [h5]
                  intro e
                  injection e with e
                  have := hb.1.1
                  omega
              · rcases hg14.at_ with h5 | ⟨g', h5, h6'⟩
                · rw [h5]
                  rcases hb.1.2 with hh | hh
                  · exact hh.1.2.2
                  · exact fun e => by have := (h14 b e.symm).2; omega
                · rw [h5]
                  intro e
                  injection e with e
                  have := hb.2
                  omega
          · have hno : (recL r).2 ≠ 0 ∨ (60000 : Int) - hb.length - (frsL (l.take j)).length < (recL r).1.length := by
              rcases Int.lt_or_le (60000 - hb.length - (frsL (l.take j)).length : Int) ((recL r).1.length : Int) with h2 | h2
              · exact .inr h2
              · exact .inl fun hfe => hgo ⟨hfe, h2⟩
            have hy : (addL ⟨h, 1, 60000, 0, ob, ol⟩ [r]).1 = p0k ∧ (addL ⟨h, 1, 60000, 0, ob, ol⟩ [r]).2.1 = [] ∧ (addL ⟨h, 1, 60000, 0, ob, ol⟩ [r]).2.2 ≠ 0 := by
              by_cases hfe : (recL r).2 = 0
              · have h2 := hno.resolve_left (fun h => h hfe)
                rw [add_full _ (by rw [herr]; exact hfe) (by rw [hfrs]; unfold roomL; simp only; have := HOB.out; omega)]
                exact ⟨rfl, rfl, by simp⟩
              · rw [add_err _ herr hfe]; exact ⟨rfl, rfl, hfe⟩
            have hfa : fa ≠ 0 := by
              have := add_out (h := h) (hb := hb) HJ.out G.err hno (by have := HFIT.out; omega)
              rw [HRA.out] at this
              exact this
            clear hno
            have hfa' : ((fa : Int) != 0) = true := by simpa using hfa
            obtain ⟨y, hyy⟩ : ∃ y, addL ⟨h, 1, 60000, 0, ob, ol⟩ [r] = y := ⟨_, rfl⟩
            rw [hyy] at hadd1 hy
            obtain ⟨y1, y2, y3⟩ := y
            obtain ⟨hy1, hy2, hy3⟩ := hy
            simp only at hy1 hy2 hy3
            subst hy1 hy2
            have hy3' : ((y3 : Int) != 0) = true := by simpa using hy3
            have HA := Lib.hid hadd1
            clear hadd1 hyy hgo hfa hy3
            go_wp2_with fail
            refine HA.out.mono ?_
            rintro e w6 ⟨pv, A11, c11, rfl, ⟨vb, vl, rfl, hB6, hL6⟩, own6, hb6⟩
            obtain ⟨A12, c12, rfl, _⟩ := isB_form hB6
            obtain ⟨A13, c13, rfl, _⟩ := hL6.form
            have hbx := hbw.trans ((hst.trans (hb6.mono hst.size)).mono hwb)
            have hby := hbx.alloc hbx.size (.cells #[.int .i64 0, .int .i64 0, .int .i64 0, .int .i64 0, .int .i64 0, .int .i64 0, .slice A12 0 c12, .slice A13 0 c13] 29)
            unfold pkV p0k
            clear hB6 hL6 own6
            go_wp2
            go_ret
            exact ⟨rfl, hby⟩
        · obtain rfl : j = l.length := by have := G.le; omega
          have herr0 := G.err
          have hfit0 := G.fit
          have hob0 := G.hob
          have hol0 := G.hol
          rw [List.take_length] at herr0 hfit0 hob0 hol0
          subst hol0
          have hpl := hpos
          have hobl0 := congrArg List.length hob0
          rw [List.length_append] at hobl0
          have hobl : ob.length ≤ 60000 ∧ 5 ≤ ob.length := by omega
          clear hobl0
          have hi63 : I63 (plsL hb.length ol) := plsL_i63 (by omega) (by omega) herr0 hok
          have e := HRA.out
          rw [add_in herr0 (by omega), ← hob0] at e
          simp only [Prod.mk.injEq] at e
          obtain ⟨rfl, rfl, rfl⟩ := e
          have hs5 := HS5.out
          have hpk8 := (E.get m1).turned G.trn (fun b hb => by omega)
          have hr9 := (E.get m0).keep (w' := wr) (G.trn.cells (K := fun b => b < w4.heap.size) (fun b hb => by omega))
          have hb8 := (E.at_ m2).turned G.trn (by omega)
          have hc6 := own_cap own4
          have hc63 := own_cap63 own4
          rw [plsL_len] at hr9 hc6
          have o13 := G.o13
          rw [List.take_length] at o13
          have F := ((((((Kn.start wr).give Stable.pk hpk8).give Stable.reads hr9).give Stable.pk G.k11).give Stable.ownI o13).give Stable.ownI G.o14).know hb8 |>.know G.b11 |>.know G.b12
          obtain ⟨q0, f0, t0⟩ := F.rules m2
          obtain ⟨q1, f1, t1⟩ := F.rules m1
          obtain ⟨q2, f2, t2⟩ := F.rules m0
          rw [plsL_len]
          clear hr9 hpk8 hb8 hs5 o13 herr0 hob0 hfit0
          have hlen0 := plsL_len ol (hb.length : Int)
          go_wp2_with fail
          obtain ⟨p1, p2⟩ := IsPk.parts (p := ⟨h, 1, 60000, 0, ob, ol⟩) (F.get m4)
          obtain ⟨p3, p4⟩ := IsPk.parts (p := ⟨h, 1, 60000, 0, ob, ol⟩) (F.get m2)
          refine (samePk_any ⟨h, 1, 60000, 0, ob, ol⟩ A7 A8 A1 A2 c7 c8 c1 c2 _ _ wr p1 p2 p3 p4).mono ?_
          rintro e w6 ⟨rfl, hb6⟩
          replace F := F.step hb6
          clear p1 p2 p3 p4 q0 f0 t0 q1 f1 t1 q2 f2 t2
          obtain ⟨q0, f0, t0⟩ := F.rules m2
          go_wp2_with fail
          refine (sameInts_any _ _ (plsL hb.length ol) _ _ _ ⟨A6, c6, _, by rw [hlen0], by rw [hlen0]; exact F.get m3, cells_ints hi63, by rw [hlen0]; exact hc6, hc63, by rw [hlen0]; omega⟩ (isL_own_ints (F.get m1) hlen0 hi63 (by omega))).mono ?_
          rintro e w7 ⟨rfl, hb7⟩
          replace F := F.step hb7
          clear q0 f0 t0
          obtain ⟨q0, f0, t0⟩ := F.rules m2
          have hneo : ob ≠ [] := by intro e; rw [e] at hobl; simp at hobl
          have hp3 := fun K W hW => flush_some (pkV ⟨h, 1, 60000, 0, ob, ol⟩ (.slice A7 ob.length c7) (.slice A8 ol.length c8)) ⟨h, 1, 60000, 0, ob, ol⟩ K W hW ⟨hh, by simp, by simp, by simp, by simp only; omega, by simp only; omega⟩ hneo
          have hfp : flushP ⟨h, 1, 60000, 0, ob, ol⟩ = ⟨h, 1, 60000, ob.length, [], []⟩ := by unfold flushP; rw [if_neg hneo]; simp
          simp only [hfp] at hp3
          clear hfp hneo
          go_wp2_with fail
          refine (hp3 _ _ (F.get m4)).mono ?_
          rintro e w8 ⟨A18, c18, rfl, own8, hb8⟩
          replace F := ((F.step hb8).give Stable.ownI own8).push 44 #[.int .i64 1, .int .i64 1, .int .i64 h.epoch, .int .i64 0, .int .i64 0, .slice A18 ob.length c18] |>.push 29 #[.int .i64 h.host, .int .i64 h.epoch, .int .i64 h.seq, .int .i64 1, .int .i64 60000, .int .i64 ob.length, .slice none 0 0, .slice none 0 0]
          simp only [World.size_alloc] at F
          unfold cmdV pkV
          have hbf := hbw.trans (F.below.mono hwb)
          clear hp3 own8 q0 f0 t0
          by_cases hl0' : ol.length = 0
          · have hl0i : ((ol.length : Int) == 0) = true := by simp [hl0']
            clear hl0'
            go_wp2
            go_ret
            exact ⟨rfl, hbf⟩
          · have hl0i : ((ol.length : Int) == 0) = false := by simpa using hl0'
            have hsb := G.buf (by omega)
            have hby := G.by_
            rw [hsb, List.append_nil] at hby
            have hat := G.at_
            subst hby hsb hat
            obtain ⟨q0, f0, t0⟩ := F.rules m0
            obtain ⟨q1, f1, t1⟩ := F.rules m1
            obtain ⟨q2, f2, t2⟩ := F.rules m2
            have hs1 := run_string_of (P := Try.prog) (cap := c18) (n := bs.length) (l := bs) _ 27 9 5 Try.underlying27 Try.underlying5 Try.underlying9 rfl (IsB.open_ (IsB.of_own (F.get m0) (by omega))).2.1
            have hs2 := run_string_of (P := Try.prog) (cap := c10) (n := bs.length) (l := bs) _ 27 9 5 Try.underlying27 Try.underlying5 Try.underlying9 rfl (IsB.open_ (IsB.of_own (F.get m1) (by omega))).2.1
            clear F hl0' G
            go_wp2
            go_ret
            exact ⟨rfl, hbf⟩
    · have hbe' : ((beginL h 1 60000).2 != 0) = true := by simpa using hbe
      have hbx := E.below.alloc hs3 (.cells #[.int .i64 (beginL h 1 60000).1.h.host, .int .i64 (beginL h 1 60000).1.h.epoch, .int .i64 (beginL h 1 60000).1.h.seq, .int .i64 (beginL h 1 60000).1.zone, .int .i64 (beginL h 1 60000).1.cap, .int .i64 (beginL h 1 60000).1.at_, .slice A5 (beginL h 1 60000).1.buf.length c5, .slice none 0 0] 29)
      go_wp2
      go_ret
      exact ⟨rfl, hbx⟩
end Go.Proofs.Ytpacjjaekmipfaa
