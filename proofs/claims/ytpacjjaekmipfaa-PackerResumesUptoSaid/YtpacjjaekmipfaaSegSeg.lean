/- The walk of seg.Seg. -/
import Derived.Test.YtpacjjaekmipfaaRefBig
import Derived.Deep.DeepMust
namespace Go.Proofs.Ytpacjjaekmipfaa
open Go.RowKit

/-- what Seg answers -/
def segP (h : Hd) (l : List Rc) : List UInt8 × Int := if (headL h).2 ≠ 0 then ([], (headL h).2) else if errL l ≠ 0 then ([], errL l) else ((headL h).1 ++ frsL l, 0)
theorem headL_le (h : Hd) : (headL h).1.length ≤ 65560 := by
  unfold headL
  by_cases h1 : (numsL (headN h)).2 = 0
  · rw [if_neg (by simp [h1])]; exact frameL_le _
  · rw [if_pos h1]; simp
def SegInv (w wr : World) (h : Hd) (l : List Rc) (v6 v7 i : Value) : Prop :=
  ∃ (j : Nat) (ob : List UInt8) (ev : Int) (A : Option Addr) (c : Nat), i = .int .i64 j ∧ j ≤ l.length ∧ v6 = .slice A ob.length c ∧ v7 = .int .i64 ev ∧ ob.length ≤ 65560 + 40030 * j ∧
    wr.ownsRow (w.heap.size + 1) 5 1 (.slice A ob.length c) ob.length (cells8 ob) ∧ (ev = 0 → (headL h).2 = 0 ∧ errL (l.take j) = 0 ∧ ob = (headL h).1 ++ frsL (l.take j)) ∧ (ev ≠ 0 → segP h l = ([], ev)) ∧ Below w.heap.size w wr

set_option maxRecDepth 100000 in
set_option maxHeartbeats 4000000 in
theorem seg_any (h : Hd) (lv : Value) (l : List Rc) (K : Nat → Prop) (w : World) (hh : OkHd h) (hl : IsL Rp.rc w K lv l) (hll : l.length ≤ 100000000) :
    Calls Try.prog 20 #[hdV h, lv] w fun e w' => ∃ A c, e = .returned (.tuple #[.slice A (segP h l).1.length c, .int .i64 (segP h l).2]) ∧
      w'.ownsRow w.heap.size 5 1 (.slice A (segP h l).1.length c) (segP h l).1.length (cells8 (segP h l).1) ∧ Below w.heap.size w w' := by
  obtain ⟨res, hres⟩ : ∃ res, segP h l = res := ⟨_, rfl⟩
  rw [hres]
  have hl0 := hl
  obtain ⟨Al, cl, rfl, hlc, hlc2⟩ := hl.form
  have hok := isL_ok hl
  obtain ⟨i0, hi, hz0, hz1, hz2⟩ := info_parts Try.info5
  have hhd := fun W => head_any h W hh
  have hhle := headL_le h
  have hseg0 : (headL h).2 ≠ 0 → segP h l = ([], (headL h).2) := fun h1 => if_pos h1
  have hseg1 : (headL h).2 = 0 → ∀ e, errL l = e → e ≠ 0 → segP h l = ([], e) := fun h1 e h2 h3 => by unfold segP; rw [if_neg (by simp [h1]), if_pos (by rw [h2]; exact h3), h2]
  have hseg2 : (headL h).2 = 0 → errL l = 0 → segP h l = ((headL h).1 ++ frsL l, 0) := fun h1 h2 => by unfold segP; rw [if_neg (by simp [h1]), if_neg (by simp [h2])]
  have HS0 := Lib.hid hseg0; have HS1 := Lib.hid hseg1; have HS2 := Lib.hid hseg2; have HRES := Lib.hid hres
  clear hseg0 hseg1 hseg2 hres
  obtain ⟨y, hy⟩ : ∃ y, headL h = y := ⟨_, rfl⟩
  have HY := Lib.hid hy
  rw [hy] at hhd hhle
  clear hy
  obtain ⟨hb, he⟩ := y
  simp only at hhd hhle
  unfold hdV at hhd ⊢
  have HHD := Lib.hid hhd
  clear hhd
  go_enter Try.func20, Try.ntmps20
  go_wp2_with fail
  refine (HHD.out _).mono ?_
  rintro e w1 ⟨A1, c1, rfl, own1, hb1⟩
  rw [World.size_alloc] at own1
  have hbw1 : Below w.heap.size w w1 := ((Below.refl _ _).alloc (Nat.le_refl _) _).trans (hb1.mono (by simp))
  have hs1 := hb1.size
  rw [World.size_alloc] at hs1
  go_wp2_with fail
  go_loopw [6, 7, 18] (fun v6 v7 i wr => SegInv w wr h l v6 v7 i) (fun _ _ i _ => l.length - (intOf i).toNat)
  case atStart =>
    refine ⟨0, hb, he, A1, c1, rfl, Nat.zero_le _, rfl, rfl, by omega, own1, fun h0 => ⟨by rw [HY.out]; exact h0, rfl, by rw [HY.out]; simp [frsL]⟩, fun h0 => ?_, hbw1⟩
    have := HS0.out (by rw [HY.out]; exact h0)
    rw [this, HY.out]
  case round =>
    obtain ⟨j, ob, ev, A2, c2, rfl, hj, rfl, rfl, hobl, own2, hgood, hbad, hbw⟩ := hrel
    have hsz := hbw.size
    have HG := Lib.hid hgood; have HB := Lib.hid hbad
    clear hgood hbad
    by_cases hlt : j < l.length
    · obtain ⟨ad, Ad, cd, rfl, _, hvd, hokr, hc0, hc1, hc2, hc3, hc4, hc5, hc6⟩ := rc_at (hl0.step hbw) (List.getElem?_eq_getElem hlt)
      have hjr : l[j]? = some l[j] := List.getElem?_eq_getElem hlt
      generalize l[j] = r at hvd hokr hc0 hc1 hc2 hc3 hc4 hc5 hc6 hjr
      have HJ := Lib.hid hjr
      clear hjr
      have E := (((Kn.start wr).give Stable.bytes hvd).give (f := fun W => W.ownsRow (w.heap.size + 1) 5 1 (.slice A2 ob.length c2) ob.length (cells8 ob)) (fun _ _ h hb => own_below h hb (Nat.le_refl _)) own2).push 34 #[.int .i64 r.kind, .int .i64 r.lba, .int .i64 r.n, .int .i64 r.ver, .int .i64 r.zone, .int .i64 r.off, .slice Ad r.data.length cd]
      by_cases hev : ev = 0
      · have hrec := fun W h => rec_any r (.slice Ad r.data.length cd) K W hokr h
        unfold rcV at hrec
        have hrl := (recL_len hokr).1
        obtain ⟨y, hy2⟩ : ∃ y, recL r = y := ⟨_, rfl⟩
        have HR := Lib.hid hy2
        rw [hy2] at hrec hrl
        obtain ⟨fb, fe⟩ := y
        simp only at hrec hrl
        obtain ⟨hg1, hg2, hg3⟩ := HG.out hev
        have hev' : ((ev : Int) != 0) = false := by simp [hev]
        have HG1 := Lib.hid hg1; have HG2 := Lib.hid hg2; have HG3 := Lib.hid hg3
        clear hy2 hev hg1 hg2 hg3
        go_wp2_with fail
        refine (hrec _ (E.get m1)).mono ?_
        rintro e w4 ⟨A4, c4, rfl, own4, hb4⟩
        have F := E.step hb4
        have hs4 := F.below.size
        have own2' := F.get m0
        have hr4 := Reads.of_own own4
        go_wp2_with (at_builtin; go_must (refine wpList_appN rfl _ _ _ rfl (w.heap.size + 1) 5 i0 _ 1 1 Try.underlying27 hi hz0 hz1 hz2 rfl (by omega) rfl own2' rfl hr4 (cells8_one fb) (by simp only [maxLen]; omega) (by omega) (by have := (F.at_ m0).lt; omega) ?_); intro A6 c6 w6 own6 hg6)
        refine ⟨⟨j + 1, ob ++ fb, fe, A6, c6, by go_num, by omega, by rw [List.length_append], rfl, by rw [List.length_append]; omega, by rw [List.length_append, cells8_append]; exact own6, fun h0 => ⟨HG1.out, ?_, ?_⟩, fun h0 => ?_, hbw.trans ((F.below.mono hsz).trans (hg6.below.mono (by omega)))⟩, by simp [intOf]; omega⟩
        · rw [take_snoc l HJ.out, errL_snoc, if_neg (by simp [HG2.out]), HR.out]; exact h0
        · rw [take_snoc l HJ.out, frsL_snoc, HR.out, HG3.out, List.append_assoc]
        · exact HS1.out HG1.out fe (by rw [errL_here l HJ.out HG2.out (by rw [HR.out]; exact h0), HR.out]) h0
      · have hev' : ((ev : Int) != 0) = true := by simpa using hev
        have hbx := hbw.alloc hsz (.cells #[.int .i64 r.kind, .int .i64 r.lba, .int .i64 r.n, .int .i64 r.ver, .int .i64 r.zone, .int .i64 r.off, .slice Ad r.data.length cd] 34)
        have e9 := HB.out hev
        rw [HRES.out] at e9
        subst e9
        clear E hev
        go_wp2
        go_ret2
        exact ⟨none, 0, rfl, World.ownsRow_nil _ _ _ _, hbx⟩
    · obtain rfl : j = l.length := by omega
      by_cases hev : ev = 0
      · obtain ⟨hg1, hg2, hg3⟩ := HG.out hev
        rw [List.take_length] at hg2 hg3
        have e9 := HS2.out hg1 hg2
        rw [HRES.out, ← hg3] at e9
        subst e9
        have hev' : ((ev : Int) != 0) = false := by simp [hev]
        clear hev hg1 hg2 hg3
        go_wp2
        go_ret2
        exact ⟨A2, c2, rfl, own_base own2 (by omega), hbw⟩
      · have hev' : ((ev : Int) != 0) = true := by simpa using hev
        have e9 := HB.out hev
        rw [HRES.out] at e9
        subst e9
        clear hev
        go_wp2
        go_ret2
        exact ⟨none, 0, rfl, World.ownsRow_nil _ _ _ _, hbw⟩
end Go.Proofs.Ytpacjjaekmipfaa
