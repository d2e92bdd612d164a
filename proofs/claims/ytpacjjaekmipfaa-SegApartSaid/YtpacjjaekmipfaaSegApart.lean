/- The walk of SegApart. -/
import Derived.Test.YtpacjjaekmipfaaSegEnd
import Derived.Test.YtpacjjaekmipfaaLive03
import Derived.Test.YtpacjjaekmipfaaSameSeg
import Derived.Test.YtpacjjaekmipfaaSameness
import Derived.BigQuiet
import Derived.Deep.DeepCutAuto
import Derived.Deep.RegionWith
import Derived.Deep.RegionHeld3
namespace Go.Proofs.Ytpacjjaekmipfaa
open Go.RowKit

theorem str_beq (x y : List UInt8) : ((⟨x.toArray⟩ : ByteArray).toList == (⟨y.toArray⟩ : ByteArray).toList) = decide (x = y) := by
  rw [ByteArray.toList_mk, ByteArray.toList_mk, Bool.eq_iff_iff]
  simp
theorem rec_err {r : Rc} (h : OkRc r) : ((recL r).2 = 0 ∧ checkL r = 0) ∨ ((recL r).2 ≠ 0 ∧ checkL r ≠ 0) := by
  by_cases hc : checkL r = 0
  · exact .inl ⟨by rw [recL_ok h hc], hc⟩
  · exact .inr ⟨fun he => hc (recL_check he), hc⟩

/-- two records in a slice, just built -/
theorem isL_rc2 {w : World} {K K' : Nat → Prop} {r s : Rc} {v u : Value} (hv : IsB w K v r.data) (hu : IsB w K' u s.data) (hr : OkRc r) (hs : OkRc s) :
    IsL Rp.rc (w.alloc (.cells #[.int .i64 r.kind, .int .i64 r.lba, .int .i64 r.n, .int .i64 r.ver, .int .i64 r.zone, .int .i64 r.off, v, .int .i64 s.kind, .int .i64 s.lba, .int .i64 s.n, .int .i64 s.ver, .int .i64 s.zone, .int .i64 s.off, u] 34)) (fun _ => True) (.slice (some ⟨w.heap.size, 0, none⟩) 2 2) [r, s] :=
  ⟨_, 2, _, rfl, (Reads.new (n := 2) (size := 7) rfl rfl rfl).more (fun _ _ => trivial), ⟨_, _, rfl, rc_is' ((hv.alloc _).more fun _ _ => trivial) hr, CellsL.single (rc_is' ((hu.alloc _).more fun _ _ => trivial) hs)⟩, by simp, by omega, by simp⟩

set_option maxRecDepth 100000 in
set_option maxHeartbeats 8000000 in
theorem segApart_any (h g : Hd) (a b : Rc) (va vb : Value) (K K' : Nat → Prop) (w : World) (hh : OkHd h) (hg : OkHd g) (ha : OkRc a) (hb : OkRc b) (hva : IsB w K va a.data) (hvb : IsB w K' vb b.data) :
    Calls Try.prog 8 #[hdV h, hdV g, rcV a va, rcV b vb] w fun e w' => e = .returned (.bool true) ∧ Below w.heap.size w w' := by
  obtain ⟨Aa, ca, rfl, hla⟩ := isB_form hva
  obtain ⟨Ab, cb, rfl, hlb⟩ := isB_form hvb
  have E := ((((((Kn.start w).give Stable.bytes hva.lt).give Stable.bytes hvb.lt).push 23 #[.int .i64 h.host, .int .i64 h.epoch, .int .i64 h.seq]).push 23 #[.int .i64 g.host, .int .i64 g.epoch, .int .i64 g.seq]).push 34 #[.int .i64 a.kind, .int .i64 a.lba, .int .i64 a.n, .int .i64 a.ver, .int .i64 a.zone, .int .i64 a.off, .slice Aa a.data.length ca]).push 34 #[.int .i64 b.kind, .int .i64 b.lba, .int .i64 b.n, .int .i64 b.ver, .int .i64 b.zone, .int .i64 b.off, .slice Ab b.data.length cb]
  simp only [World.size_alloc] at E
  have hbg := fun W h1 h2 => bigR_any 200000 _ [a, b] _ _ (isL_rc2 (w := W) (K := fun k => K k ∧ k < w.heap.size) (K' := fun k => K' k ∧ k < w.heap.size) (v := .slice Aa a.data.length ca) (u := .slice Ab b.data.length cb) h1 h2 ha hb)
  have hch := head_any h
  have hcg := head_any g
  unfold hdV at hch hcg
  unfold hdV rcV
  go_enter Try.func8, Try.ntmps8
  go_wp2_with fail
  refine (live03_any _).mono ?_
  rintro e w1 ⟨rfl, hb1⟩
  replace E := E.step hb1
  obtain ⟨q0, f0, t0⟩ := E.rules m0
  obtain ⟨q1, f1, t1⟩ := E.rules m1
  go_wp2_with fail
  refine (hbg _ (E.get m1) (E.get m0)).mono ?_
  rintro e w2 ⟨rfl, hb2⟩
  replace E := (E.alloc _).step hb2
  cases hbig : bigR 200000 [a, b] with
  | true =>
    go_wp2
    go_ret
    exact ⟨rfl, E.below⟩
  | false =>
    clear hbig hbg q0 f0 t0 q1 f1 t1
    obtain ⟨q2, f2, t2⟩ := E.rules m2
    obtain ⟨q3, f3, t3⟩ := E.rules m3
    obtain ⟨xh, eh, hxh⟩ : ∃ xh eh, headL h = (xh, eh) := ⟨_, _, rfl⟩
    obtain ⟨xg, eg, hxg⟩ : ∃ xg eg, headL g = (xg, eg) := ⟨_, _, rfl⟩
    rw [hxh] at hch
    rw [hxg] at hcg
    dsimp only at hch hcg
    go_wp2_with fail
    refine (hch _ hh).mono ?_
    rintro e w3 ⟨A3, c3, rfl, own3, hb3⟩
    replace E := E.step hb3
    have hw3 : IsB w3 (fun _ => True) (.slice A3 xh.length c3) xh := (IsB.of_own own3 (by have := headL_le h; rw [hxh] at this; dsimp only at this; omega)).more fun _ _ => trivial
    replace E := E.give Stable.bytes hw3
    obtain ⟨q2, f2, t2⟩ := E.rules m2
    clear hch own3 hw3
    go_wp2_with fail
    refine (hcg _ hg).mono ?_
    rintro e w4 ⟨A4, c4, rfl, own4, hb4⟩
    replace E := E.step hb4
    have hw4 : IsB w4 (fun _ => True) (.slice A4 xg.length c4) xg := (IsB.of_own own4 (by have := headL_le g; rw [hxg] at this; dsimp only at this; omega)).more fun _ _ => trivial
    replace E := E.give Stable.bytes hw4
    obtain ⟨q2, f2, t2⟩ := E.rules m2
    obtain ⟨q3, f3, t3⟩ := E.rules m3
    clear hcg own4 hw4
    go_upto_region 6 with fail
    go_cut [46] (fun s wx => s = .bool false ∧ Below w4.heap.size w4 wx)
    case first =>
      by_cases he : eh = 0 ∧ eg = 0
      · obtain ⟨rfl, rfl⟩ := he
        have hinj := headL_inj hh hg (by rw [hxh]) (by rw [hxg])
        rw [hxh, hxg] at hinj
        dsimp only at hinj
        obtain ⟨sx, hsx⟩ : ∃ sx : ByteArray, sx = ⟨xh.toArray⟩ := ⟨_, rfl⟩
        obtain ⟨sy, hsy⟩ : ∃ sy : ByteArray, sy = ⟨xg.toArray⟩ := ⟨_, rfl⟩
        have hcv1 : ∀ N, (convert 27 9 (.slice A3 xh.length c3)).run Try.prog (w4.drewN N) = .ok (.string sx) (w4.drewN N) := fun N => by rw [hsx]; exact run_string_of (K := fun _ => True) _ _ _ 5 Try.underlying27 Try.underlying5 Try.underlying9 rfl (IsB.open_ (E.get m1)).2.1
        have hcv2 : ∀ N, (convert 27 9 (.slice A4 xg.length c4)).run Try.prog (w4.drewN N) = .ok (.string sy) (w4.drewN N) := fun N => by rw [hsy]; exact run_string_of (K := fun _ => True) _ _ _ 5 Try.underlying27 Try.underlying5 Try.underlying9 rfl (IsB.open_ (E.get m0)).2.1
        have hst : (sx.toList == sy.toList) = decide (h = g) := by rw [hsx, hsy, str_beq]; simp only [hinj]
        obtain ⟨h1, h2, h3⟩ := h
        obtain ⟨g1, g2, g3⟩ := g
        simp only [Hd.mk.injEq] at hst
        dsimp only at q2 q3 E
        clear hinj hsx hsy hxh hxg hh hg
        by_cases k1 : h1 = g1
        · subst k1
          by_cases k2 : h2 = g2
          · subst k2
            by_cases k3 : h3 = g3
            · subst k3
              have hst2 : (sx.toList == sy.toList) = true := by rw [hst]; simp
              clear hst
              go_quiet (fail)
              go_wp2_with fail
              go_meet
              exact ⟨rfl, below_drewN (Below.refl _ _) _⟩
            · have hst2 : (sx.toList == sy.toList) = false := by rw [hst]; simp [k3]
              have d3 : (h3 == g3) = false := by simp [k3]
              clear hst k3
              go_quiet (fail)
              go_wp2_with fail
              go_meet
              exact ⟨rfl, below_drewN (Below.refl _ _) _⟩
          · have hst2 : (sx.toList == sy.toList) = false := by rw [hst]; simp [k2]
            have d3 : (h2 == g2) = false := by simp [k2]
            clear hst k2
            go_quiet (fail)
            go_wp2_with fail
            go_meet
            exact ⟨rfl, below_drewN (Below.refl _ _) _⟩
        · have hst2 : (sx.toList == sy.toList) = false := by rw [hst]; simp [k1]
          have d3 : (h1 == g1) = false := by simp [k1]
          clear hst k1
          go_quiet (fail)
          go_wp2_with fail
          go_meet
          exact ⟨rfl, below_drewN (Below.refl _ _) _⟩
      · by_cases he1 : eh = 0
        · have d1 : (eh == 0) = true := by simp [he1]
          have d2 : (eg == 0) = false := by simp; exact fun h => he ⟨he1, h⟩
          clear he he1
          go_quiet (fail)
          go_wp2_with fail
          go_meet
          exact ⟨rfl, below_drewN (Below.refl _ _) _⟩
        · have d1 : (eh == 0) = false := by simp [he1]
          clear he he1
          go_quiet (fail)
          go_wp2_with fail
          go_meet
          exact ⟨rfl, below_drewN (Below.refl _ _) _⟩
    case rest =>
      obtain ⟨rfl, hbc⟩ := hcut
      replace E := E.step hbc
      clear q2 f2 t2 q3 f3 t3 hxh hxg hh hg
      obtain ⟨q0, f0, t0⟩ := E.rules m0
      obtain ⟨q1, f1, t1⟩ := E.rules m1
      have hinj := recL_inj ha hb
      have hea := rec_err ha
      have heb := rec_err hb
      have hca := fun W h => rec_any a (.slice Aa a.data.length ca) (fun k => K k ∧ k < w.heap.size) W ha h
      have hcb := fun W h => rec_any b (.slice Ab b.data.length cb) (fun k => K' k ∧ k < w.heap.size) W hb h
      have hlna := (recL_len ha).1
      have hlnb := (recL_len hb).1
      obtain ⟨xa, ea, hxa⟩ : ∃ xa ea, recL a = (xa, ea) := ⟨_, _, rfl⟩
      obtain ⟨xb, eb, hxb⟩ : ∃ xb eb, recL b = (xb, eb) := ⟨_, _, rfl⟩
      rw [hxa] at hca hea hinj hlna
      rw [hxb] at hcb heb hinj hlnb
      unfold rcV at hca hcb
      dsimp only at hca hcb hea heb hinj hlna hlnb
      clear hxa hxb
      have HJ := Lib.hid hinj
      have HEA := Lib.hid hea
      have HEB := Lib.hid heb
      clear hinj hea heb
      go_wp2_with fail
      refine (hca _ (E.get m3)).mono ?_
      rintro e w5 ⟨A5, c5, rfl, own5, hb5⟩
      replace E := E.step hb5
      have hw5 : IsB w5 (fun _ => True) (.slice A5 xa.length c5) xa := (IsB.of_own own5 (by omega)).more fun _ _ => trivial
      replace E := E.give Stable.bytes hw5
      obtain ⟨q0, f0, t0⟩ := E.rules m0
      obtain ⟨q1, f1, t1⟩ := E.rules m1
      clear own5 hw5 hca
      go_wp2_with fail
      refine (hcb _ (E.get m3)).mono ?_
      rintro e w6 ⟨A6, c6, rfl, own6, hb6⟩
      replace E := E.step hb6
      have hw6 : IsB w6 (fun _ => True) (.slice A6 xb.length c6) xb := (IsB.of_own own6 (by omega)).more fun _ _ => trivial
      replace E := E.give Stable.bytes hw6
      obtain ⟨q0, f0, t0⟩ := E.rules m0
      obtain ⟨q1, f1, t1⟩ := E.rules m1
      clear own6 hw6 hcb
      by_cases hgood : ea = 0 ∧ eb = 0
      · obtain ⟨rfl, rfl⟩ := hgood
        obtain ⟨sx, hsx⟩ : ∃ sx : ByteArray, sx = ⟨xa.toArray⟩ := ⟨_, rfl⟩
        obtain ⟨sy, hsy⟩ : ∃ sy : ByteArray, sy = ⟨xb.toArray⟩ := ⟨_, rfl⟩
        obtain ⟨D, hD⟩ : ∃ D, decide (a = b) = D := ⟨_, rfl⟩
        have hst : (sx.toList == sy.toList) = D := by
          rw [hsx, hsy, str_beq, ← hD]
          simp only [HJ.out rfl rfl]
        have hsab := fun W (hW : Below w6.heap.size w6 W) => sameness_any a b (.slice Aa a.data.length ca) (.slice Ab b.data.length cb) _ _ W ((E.step hW).get m5) ((E.step hW).get m4)
        have hsaa := fun W (hW : Below w6.heap.size w6 W) => sameness_any a a (.slice Aa a.data.length ca) (.slice Aa a.data.length ca) _ _ W ((E.step hW).get m5) ((E.step hW).get m5)
        simp only [hD, decide_true] at hsab hsaa
        unfold rcV at hsab hsaa
        have HSAB := Lib.hid hsab; have HSAA := Lib.hid hsaa
        have HKC : Hid (∀ W, Below w6.heap.size w6 W → (∀ o, W.cell? ⟨w.heap.size + 1 + 1, o, none⟩ = #[Value.int .i64 a.kind, .int .i64 a.lba, .int .i64 a.n, .int .i64 a.ver, .int .i64 a.zone, .int .i64 a.off, .slice Aa a.data.length ca][o]?) ∧
            (∀ o, W.cell? ⟨w.heap.size + 1 + 1 + 1, o, none⟩ = #[Value.int .i64 b.kind, .int .i64 b.lba, .int .i64 b.n, .int .i64 b.ver, .int .i64 b.zone, .int .i64 b.off, .slice Ab b.data.length cb][o]?) ∧
            (convert 27 9 (.slice A5 xa.length c5)).run Try.prog W = .ok (.string sx) W ∧ (convert 27 9 (.slice A6 xb.length c6)).run Try.prog W = .ok (.string sy) W) := Lib.hid fun W hW => by
          refine ⟨((E.step hW).rules m1).1, ((E.step hW).rules m0).1, ?_, ?_⟩
          · rw [hsx]; exact run_string_of (K := fun _ => True) _ _ _ 5 Try.underlying27 Try.underlying5 Try.underlying9 rfl (IsB.open_ ((E.step hW).get m1)).2.1
          · rw [hsy]; exact run_string_of (K := fun _ => True) _ _ _ 5 Try.underlying27 Try.underlying5 Try.underlying9 rfl (IsB.open_ ((E.step hW).get m0)).2.1
        have hbF := E.below
        have hbd := (Below.refl w6.heap.size w6).drew
        clear hsab hsaa hsx hsy hD E q0 f0 t0 q1 f1 t1 HEA HEB HJ
        go_upto_region 12 with fail
        go_cut [8] (fun s wx => s = .bool true ∧ Below w6.heap.size w6 wx)
        case first =>
          go_region_held3 (fun W : World => (∀ o, W.cell? ⟨w.heap.size + 1 + 1, o, none⟩ = #[Value.int .i64 a.kind, .int .i64 a.lba, .int .i64 a.n, .int .i64 a.ver, .int .i64 a.zone, .int .i64 a.off, .slice Aa a.data.length ca][o]?) ∧
            (∀ o, W.cell? ⟨w.heap.size + 1 + 1 + 1, o, none⟩ = #[Value.int .i64 b.kind, .int .i64 b.lba, .int .i64 b.n, .int .i64 b.ver, .int .i64 b.zone, .int .i64 b.off, .slice Ab b.data.length cb][o]?) ∧
            (convert 27 9 (.slice A5 xa.length c5)).run Try.prog W = .ok (.string sx) W ∧ (convert 27 9 (.slice A6 xb.length c6)).run Try.prog W = .ok (.string sy) W)
            (first | with_reducible exact HKC.out _ hbB | with_reducible exact HKC.out _ hbA | with_reducible exact HKC.out _ hbd)
            (first
              | (go_at_call 27; refine (HSAA.out _ hbA).mono ?_; rintro ex wB ⟨rfl, hbB⟩; replace hbB := hbA.trans (hbB.mono hbA.size))
              | (go_at_call 27; refine (HSAB.out _ hbd).mono ?_; rintro ex wA ⟨rfl, hbA⟩; replace hbA := hbd.trans hbA))
          go_wp2_with fail
          go_meet
          exact ⟨rfl, hbB⟩
        case rest =>
          obtain ⟨rfl, hbx⟩ := hcut
          have hbf := hbF.trans (hbx.mono hbF.size)
          go_wp2
          go_ret
          exact ⟨rfl, hbf⟩
      · have hka := fun W => check_any a Aa ca W ha hla
        have hkb := fun W => check_any b Ab cb W hb hlb
        unfold rcV at hka hkb
        have hea := HEA.out
        have heb := HEB.out
        generalize checkL a = ka at hka hea
        generalize checkL b = kb at hkb heb
        obtain ⟨B, hB1, hB2, hB3⟩ : ∃ B, (ea == 0) = B ∧ (ka == 0) = B ∧ (ea != 0) = !B := by
          rcases hea with ⟨h1, h2⟩ | ⟨h1, h2⟩
          · exact ⟨true, by simp [h1], by simp [h2], by simp [h1]⟩
          · exact ⟨false, by simp [h1], by simp [h2], by simp [h1]⟩
        obtain ⟨B', hB1', hB2', hB3'⟩ : ∃ B, (eb == 0) = B ∧ (kb == 0) = B ∧ (eb != 0) = !B := by
          rcases heb with ⟨h1, h2⟩ | ⟨h1, h2⟩
          · exact ⟨true, by simp [h1], by simp [h2], by simp [h1]⟩
          · exact ⟨false, by simp [h1], by simp [h2], by simp [h1]⟩
        have hBB : (B && B') = false := by
          rw [← hB1, ← hB1', Bool.and_eq_false_iff]
          simp only [beq_eq_false_iff_ne]
          by_cases h1 : ea = 0
          · exact .inr fun h2 => hgood ⟨h1, h2⟩
          · exact .inl h1
        clear hgood hea heb HEA HEB HJ
        rcases B <;> rcases B' <;> simp only [Bool.and_self, Bool.and_true, Bool.and_false, Bool.true_eq_false, Bool.not_true, Bool.not_false] at hBB hB3 hB3'
        all_goals go_wp2_with fail
        all_goals refine (hka _).mono ?_
        all_goals rintro e w7 ⟨rfl, hb7⟩
        all_goals replace E := E.step hb7
        all_goals obtain ⟨q0, f0, t0⟩ := E.rules m0
        all_goals go_wp2_with fail
        all_goals refine (hkb _).mono ?_
        all_goals rintro e w8 ⟨rfl, hb8⟩
        all_goals replace E := E.step hb8
        all_goals have hbf := E.below
        all_goals go_wp2
        all_goals go_ret
        all_goals exact ⟨rfl, hbf⟩
end Go.Proofs.Ytpacjjaekmipfaa
