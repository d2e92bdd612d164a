/- The walk of quicksetlaw05.ZnsFences. -/
import Derived.Test.YtcjmcfjjbicimaaZnsLive
import Derived.Test.YtcjmcfjjbicimaaRefCheck05
import Derived.Test.YtcjmcfjjbicimaaRefSame05
import Derived.Test.YtcjmcfjjbicimaaZnsLaw
namespace Go.Proofs.Ytcjmcfjjbicimaa
open Go.RowKit

theorem CellsL.clt {w : World} {K : Nat → Prop} : ∀ {l : List Cm} {cs : List Value}, CellsL Rp.cmd w K cs l → CellsL Rp.cmd w (fun b => K b ∧ b < w.heap.size) cs l
  | [], _, h => h
  | _ :: _, _, ⟨c1, c2, e, ⟨v, e1, h1, h1'⟩, h2⟩ => ⟨c1, c2, e, ⟨v, e1, h1.lt, h1'⟩, h2.clt⟩
theorem IsL.clt {w : World} {K : Nat → Prop} {v : Value} {l : List Cm} (h : IsL Rp.cmd w K v l) : IsL Rp.cmd w (fun b => K b ∧ b < w.heap.size) v l := by
  obtain ⟨A, c, cs, e, h1, h2, h3⟩ := h; exact ⟨A, c, cs, e, h1.lt (by show 0 < 6; omega), h2.clt, h3⟩
theorem fewB_true {d : Zd} {l : List Cm} (h : fewB d l = true) : d.z.length < 200 ∧ l.length < 200 := by
  unfold fewB at h
  simp only [Bool.and_eq_true, decide_eq_true_eq] at h
  exact ⟨h.1.2, h.2⟩

set_option linter.unusedSimpArgs false in
set_option maxRecDepth 100000 in
set_option maxHeartbeats 16000000 in
theorem znsFences_any (d : Zd) (l : List Cm) (v u : Value) (K : Nat → Prop) (w : World) (hd : IsD w v d) (hl : IsL Rp.cmd w K u l) :
    Calls Try.prog 10 #[v, u] w fun e w' => e = .returned (.bool true) ∧ Below w.heap.size w w' := by
  obtain ⟨A0, k0, rfl, hL0⟩ := hd
  obtain ⟨Al, cl, rfl, hllc, hlcc⟩ := hl.form
  have hl0 := hl.clt
  clear hl
  have E := ((Kn.start w).give Stable.list hL0).push 53 #[.int .i64 d.cap, .int .i64 d.opn, .int .i64 d.act, .slice A0 d.z.length k0]
  clear hL0
  go_enter Try.func10, Try.ntmps10
  go_wp2_with fail
  refine (live05_any _).mono ?_
  rintro e w1 ⟨rfl, hb1⟩
  replace E := E.step hb1
  clear hb1
  obtain ⟨q0, f0, t0⟩ := E.rules m0
  go_wp2_with fail
  refine (few_any d l _ _ _ _ ⟨A0, k0, rfl, E.get m0⟩ (hl0.keep fun p hp _ => E.below.cell hp.2)).mono ?_
  rintro e w2 ⟨rfl, hb2⟩
  replace E := E.step hb2
  clear hb2 q0 f0 t0
  obtain ⟨q0, f0, t0⟩ := E.rules m0
  obtain ⟨fb, hfb⟩ : ∃ fb, fewB d l = fb := ⟨_, rfl⟩
  rw [hfb]
  cases fb with
  | false =>
    clear hfb
    go_wp2
    go_ret
    exact ⟨rfl, E.below⟩
  | true =>
    obtain ⟨hd200, hl200⟩ := fewB_true hfb
    clear hfb
    go_wp2_with fail
    refine (refChk05_any d _ _ _ (E.get m0)).mono ?_
    rintro e w3 ⟨rfl, hb3⟩
    replace E := E.step hb3
    clear hb3 q0 f0 t0
    obtain ⟨q0, f0, t0⟩ := E.rules m0
    by_cases hok : okD d
    · rw [show chkD d = 0 from if_pos hok]
      have HOK := Lib.hid hok
      clear hok
      go_wp2
      have hB := Blk.new w3 53 #[.int .i64 d.cap, .int .i64 d.opn, .int .i64 d.act, .slice A0 d.z.length k0] rfl
      have hD : DevAt (w3.alloc (.cells #[.int .i64 d.cap, .int .i64 d.opn, .int .i64 d.act, .slice A0 d.z.length k0] 53)) (fun b => b ≠ w3.heap.size) (.agg #[.int .i64 d.cap, .int .i64 d.opn, .int .i64 d.act, .slice A0 d.z.length k0]) d := by
        refine ⟨A0, k0, rfl, (E.get m0).alloc _, fun hp => ?_⟩
        obtain ⟨ad, _, _, e, hlt, _⟩ := IsL.zone_at (E.get m0) (List.getElem?_eq_getElem hp)
        exact ⟨ad, e, by omega⟩
      have hbA := E.below.alloc E.below.size (.cells #[.int .i64 d.cap, .int .i64 d.opn, .int .i64 d.act, .slice A0 d.z.length k0] 53)
      have hxs := E.below.size
      obtain ⟨xb, hxb⟩ : ∃ xb, w3.heap.size = xb := ⟨_, rfl⟩
      rw [hxb] at hB hD hxs ⊢
      clear hxb E q0 f0 t0
      go_loopw [8, 9, 10, 11, 12, 29] (fun p8 p9 p10 p11 p12 i wr => ∃ (j : Nat) (x : Zd) (A : Option Addr) (k : Nat), i = .int .i64 j ∧ j ≤ l.length ∧ Hid (okD x ∧ x.z.length = d.z.length) ∧ Blk wr xb 53 #[.int .i64 x.cap, .int .i64 x.opn, .int .i64 x.act, .slice A x.z.length k] ∧
        DevAt wr (fun b => b ≠ xb) (.agg #[.int .i64 x.cap, .int .i64 x.opn, .int .i64 x.act, .slice A x.z.length k]) x ∧ Below w.heap.size w wr ∧ (∃ y8, p8 = y8) ∧ (∃ y9, p9 = y9) ∧ (∃ y10, p10 = y10) ∧ (∃ y11, p11 = y11) ∧ (∃ y12, p12 = y12)) (fun _ _ _ _ _ i _ => l.length - (intOf i).toNat)
      case atStart => exact ⟨0, d, A0, k0, rfl, Nat.zero_le _, Lib.hid ⟨HOK.out, rfl⟩, hB, hD, hbA, ⟨_, rfl⟩, ⟨_, rfl⟩, ⟨_, rfl⟩, ⟨_, rfl⟩, _, rfl⟩
      case round =>
        clear hB hD hbA
        obtain ⟨j, x, A, k, rfl, hj, HX, hB, hD, hbr, ⟨y8, rfl⟩, ⟨y9, rfl⟩, ⟨y10, rfl⟩, ⟨y11, rfl⟩, y12, rfl⟩ := hrel
        obtain ⟨wo, rfl⟩ : ∃ wo : World, wo = wr := ⟨_, rfl⟩
        by_cases hltj : j < l.length
        · obtain ⟨c, hc⟩ : ∃ c, l[j] = c := ⟨_, rfl⟩
          obtain ⟨ad, B, kB, rfl, hadb, _, hBc, hrg, hc0, hc1, hc2, hc3, hc4, hc5⟩ := IsL.cmd_at (hl0.keep fun p hp _ => hbr.cell hp.2 : IsL Rp.cmd wo _ (.slice Al l.length cl) l) (List.getElem?_eq_getElem hltj)
          rw [hc] at hBc hrg hc0 hc1 hc2 hc3 hc4 hc5
          clear hc
          have j1 : (j : Int) < (l.length : Int) := by omega
          have j0 : (0 : Int) ≤ (j : Int) := by omega
          have F := ((((Kn.from_ hbr hbr.size).give Stable.bytes hBc).give Stable.devAt hD).know hB).push 62 #[.int .i64 c.op, .int .i64 c.zone, .int .i64 c.epoch, .int .i64 c.off, .int .i64 c.n, .slice B c.data.length kB]
          have hLx : IsL Rp.zone wo (fun _ => True) (.slice A x.z.length k) x.z := by
            obtain ⟨_, _, e, h, _⟩ := hD
            injection e with e
            simp only [Array.mk.injEq, List.cons.injEq, Value.slice.injEq, and_true] at e
            obtain ⟨_, _, _, rfl, _, rfl⟩ := e
            exact h
          replace F := F.give Stable.list (hLx.alloc _)
          have hxo := hB.lt
          clear hBc hD hB hLx
          obtain ⟨q1, f1, t1⟩ := F.rules m1
          have hW : (wo.alloc (.cells #[.int .i64 c.op, .int .i64 c.zone, .int .i64 c.epoch, .int .i64 c.off, .int .i64 c.n, .slice B c.data.length kB] 62)).heap.size = wo.heap.size + 1 := World.size_alloc _ _
          go_wp2_with fail
          refine (do_any x c A k B kB _ _ ((F.get m0).zlt) (fun b hb => hb.2) ((F.get m2).lt.more fun b hb => ⟨trivial, hb.2⟩) (by rw [HX.out.2]; omega) hrg.off.2).mono ?_
          obtain ⟨r, hr⟩ : ∃ r, doZ x c = r := ⟨_, rfl⟩
          rw [hr]
          have HR := Lib.hid hr
          clear hr
          rintro e w4 ⟨v1, v2, rfl, ⟨A5, k5, rfl, hL5, hA5⟩, ⟨A6, k6, rfl, hB6⟩, hb4⟩
          have hDy : DevAt w4 (fun b => b ≠ xb) (.agg #[.int .i64 r.1.cap, .int .i64 r.1.opn, .int .i64 r.1.act, .slice A5 r.1.z.length k5]) r.1 :=
            ⟨A5, k5, rfl, hL5.more fun _ _ => trivial, fun hp => let ⟨ad, e, h⟩ := hA5 hp; ⟨ad, e, by rw [hW] at h; intro e2; omega⟩⟩
          replace F := (((F.step hb4).give Stable.devAt hDy).give Stable.list (hL5.more fun _ _ => trivial : IsL Rp.zone w4 (fun _ => True) _ _)).push 53 #[.int .i64 r.1.cap, .int .i64 r.1.opn, .int .i64 r.1.act, .slice A5 r.1.z.length k5] |>.push 64 #[.int .i64 r.2.e, .int .i64 r.2.at_, .slice A6 r.2.data.length k6]
          rw [World.size_alloc] at F
          have hs4 : wo.heap.size + 1 ≤ w4.heap.size := by have := hb4.size; omega
          clear hL5 hA5 hB6 hDy hb4 hc0 hc1 hc2 hc3 hc4 hc5 q1 f1 t1
          go_upto_region 11 with fail
          generalize hW5 : (w4.alloc (.cells #[.int .i64 r.1.cap, .int .i64 r.1.opn, .int .i64 r.1.act, .slice A5 r.1.z.length k5] 53)).alloc (.cells #[.int .i64 r.2.e, .int .i64 r.2.at_, .slice A6 r.2.data.length k6] 64) = W5 at F ⊢
          clear hW5
          obtain ⟨q0, f0, t0⟩ := F.rules m0
          obtain ⟨q1, f1, t1⟩ := F.rules m1
          obtain ⟨q2, f2, t2⟩ := F.rules m2
          obtain ⟨q3, f3, t3⟩ := F.rules m3
          obtain ⟨b11, h11⟩ : ∃ b11, decide (0 ≤ c.zone ∧ c.zone < x.z.length) = b11 := ⟨_, rfl⟩
          have H11 := Lib.hid h11
          clear h11
          go_cut [49] from 39 to 144 (fun s wx => s = .bool b11 ∧ wx = W5)
          case first =>
            go_wp2
            all_goals go_meet
            all_goals refine ⟨congrArg Value.bool ?_, rfl⟩
            all_goals rw [← H11.out, Bool.eq_iff_iff]
            all_goals clear F q0 q1 q2 q3 f0 f1 f2 f3 t0 t1 t2 t3
            all_goals simp
            all_goals omega
          case rest =>
            obtain ⟨rfl, rfl⟩ := hcut
            have hlen : r.1.z.length = x.z.length := by rw [← HR.out]; exact doZ_len' x c
            have HLEN := Lib.hid hlen
            clear hlen
            go_upto_if 49 with fail
            go_cut [39] from 39 to 144 (fun s wx => (∃ y, s = y) ∧ Below wc.heap.size wc wx)
            case first =>
              cases b11 with
              | false =>
                go_wp2
                go_meet
                exact ⟨⟨_, rfl⟩, Below.refl _ _⟩
              | true =>
                have hzr := of_decide_eq_true H11.out
                have hzl : c.zone.toNat < x.z.length := by omega
                obtain ⟨z, hz⟩ : ∃ z, x.z[c.zone.toNat]? = some z := ⟨_, List.getElem?_eq_getElem hzl⟩
                obtain ⟨ax, Bx, kx, rfl, hax, _, _, hx0, hx1, hx2⟩ := IsL.zone_at (F.get m2) hz
                obtain ⟨b, hb⟩ : ∃ b, r.1.z[c.zone.toNat]? = some b := ⟨_, List.getElem?_eq_getElem (by rw [HLEN.out]; exact hzl)⟩
                obtain ⟨ay, By, ky, rfl, hay, _, _, hy0, hy1, hy2⟩ := IsL.zone_at (F.get m0) hb
                have hzi : c.zone < (r.1.z.length : Int) := by rw [HLEN.out]; exact hzr.2
                have HZ := Lib.hid hz
                have HB := Lib.hid hb
                obtain ⟨hz0, hz1⟩ := hzr
                clear hz hb
                by_cases c7 : c.op = 7
                · have e7 : (c.op == 7) = true := by simpa using c7
                  have hf := doZ_fence HX.out.1 hz0 HZ.out c7
                  rw [HR.out] at hf
                  clear c7
                  obtain ⟨hf1, hf2⟩ := hf
                  by_cases he : z.fe < c.epoch
                  · obtain ⟨he0, b', hb', hbe⟩ := hf2 he
                    rw [HB.out] at hb'
                    have hbb := Option.some.inj hb'
                    have e1 : (r.2.e == 0) = true := by simpa using he0
                    have e2 : decide (z.fe < c.epoch) = true := decide_eq_true he
                    have e3 : (b.fe != c.epoch) = false := by rw [hbb, hbe]; simp
                    clear he he0 hb' hbe hbb hf1 hf2
                    go_upto_region 14 with fail
                    go_quiet (fail)
                    go_wp2_with fail
                    go_meet
                    exact ⟨⟨_, rfl⟩, below_drewN (Below.refl _ _) _⟩
                  · have he0 := hf1 (by omega)
                    have e1 : (r.2.e == 0) = false := by simpa using he0
                    have e2 : decide (z.fe < c.epoch) = false := decide_eq_false he
                    clear he he0 hf1 hf2
                    go_upto_region 14 with fail
                    go_quiet (fail)
                    go_wp2_with fail
                    go_meet
                    exact ⟨⟨_, rfl⟩, below_drewN (Below.refl _ _) _⟩
                · have e7 : (c.op == 7) = false := by simpa using c7
                  by_cases he : c.epoch = z.fe
                  · have e1 : (c.epoch != z.fe) = false := by simpa using he
                    clear c7 he
                    go_wp2
                    go_meet
                    exact ⟨⟨_, rfl⟩, Below.refl _ _⟩
                  · have e1 : (c.epoch != z.fe) = true := by simpa using he
                    have he0 := doZ_other HZ.out c7 he
                    rw [HR.out] at he0
                    have e2 : (r.2.e == 0) = false := by simpa using he0
                    clear c7 he he0
                    go_wp2
                    go_meet
                    exact ⟨⟨_, rfl⟩, Below.refl _ _⟩
            case rest =>
              obtain ⟨⟨y39, rfl⟩, hbc⟩ := hcut
              replace F := F.step hbc
              clear hbc q0 q1 q2 q3 f0 f1 f2 f3 t0 t1 t2 t3
              obtain ⟨q0, f0, t0⟩ := F.rules m0
              obtain ⟨q1, f1, t1⟩ := F.rules m1
              obtain ⟨q3, f3, t3⟩ := F.rules m3
              go_upto_region 18 with fail
              have eL : ((r.1.z.length : Int) != (x.z.length : Int)) = false := by rw [HLEN.out]; simp
              go_cut [122] from 30 to 144 (fun s wx => s = .bool false ∧ Below wc.heap.size wc wx)
              case first =>
                by_cases he : r.2.e = 0
                · have e1 : (r.2.e == 0) = true := by simpa using he
                  have e1' : (r.2.e != 0) = false := by simpa using he
                  clear he
                  go_wp2
                  go_meet
                  exact ⟨rfl, Below.refl _ _⟩
                · have e1 : (r.2.e == 0) = false := by simpa using he
                  have e1' : (r.2.e != 0) = true := by simpa using he
                  have hrr := doZ_err (d := x) (c := c) (by rw [HR.out]; exact he)
                  rw [HR.out] at hrr
                  have hs : sameD x r.1 = true := sameD_iff.2 (congrArg Prod.fst hrr).symm
                  have hat : r.2.at_ = 0 := congrArg (fun p => p.2.at_) hrr
                  have hdl : r.2.data.length = 0 := by rw [show r.2.data = [] from congrArg (fun p => p.2.data) hrr]; rfl
                  have HAT := Lib.hid hat; have HDL := Lib.hid hdl
                  rw [hat, hdl] at q0
                  clear hat hdl
                  have HS := Lib.hid hs
                  clear he hrr hs
                  go_wp2_with (go_at_call 37; refine (refSame05_any x r.1 _ _ _ ⟨A, k, rfl, F.get m2⟩ ⟨A5, k5, rfl, F.get m0⟩).mono ?_; rw [HS.out]; rintro e w6 ⟨rfl, hb6⟩; obtain ⟨g0, _, _⟩ := (F.step hb6).rules m0; rw [HAT.out, HDL.out] at g0; obtain ⟨g1, _, _⟩ := (F.step hb6).rules m1; obtain ⟨g3, _, _⟩ := (F.step hb6).rules m3)
                  go_meet
                  exact ⟨rfl, hb6⟩
              case rest =>
                obtain ⟨rfl, hbc⟩ := hcut
                replace F := F.step hbc
                clear hbc q0 q1 q3 f0 f1 f3 t0 t1 t3 eL
                obtain ⟨q1, f1, t1⟩ := F.rules m1
                go_wp2
                clear q1 f1 t1
                have hz200 : r.1.z.length < 200 := by rw [HLEN.out, HX.out.2]; exact hd200
                go_loopw [12, 126] (fun i12 i126 wr => ∃ q : Nat, i126 = .int .i64 q ∧ q ≤ r.1.z.length ∧ Below wc.heap.size wc wr ∧ (∃ y, i12 = y)) (fun _ i126 _ => r.1.z.length - (intOf i126).toNat)
                case atStart => exact ⟨0, rfl, Nat.zero_le _, Below.refl _ _, _, rfl⟩
                case round =>
                  obtain ⟨q, rfl, hq, hbi, y, rfl⟩ := hrel
                  replace F := F.step hbi
                  by_cases hqlt : q < r.1.z.length
                  · obtain ⟨b, hb⟩ : ∃ b, r.1.z[q]? = some b := ⟨_, List.getElem?_eq_getElem hqlt⟩
                    obtain ⟨a, ha⟩ : ∃ a, x.z[q]? = some a := ⟨_, List.getElem?_eq_getElem (by rw [← HLEN.out]; exact hqlt)⟩
                    have hfe := doZ_fe c HX.out.1 ha (by rw [HR.out]; exact hb)
                    have e1 : decide (b.fe < a.fe) = false := decide_eq_false (by omega)
                    obtain ⟨ay, By, ky, rfl, hay, _, _, hy0, hy1, hy2⟩ := IsL.zone_at (F.get m0) hb
                    obtain ⟨ax, Bx, kx, rfl, hax, _, _, hx0, hx1, hx2⟩ := IsL.zone_at (F.get m2) ha
                    have i0 : (0 : Int) ≤ (q : Int) := by omega
                    have i1 : (q : Int) < (r.1.z.length : Int) := by omega
                    have i2 : (q : Int) < (x.z.length : Int) := by rw [← HLEN.out]; omega
                    obtain ⟨q1, f1, t1⟩ := F.rules m1
                    obtain ⟨q3, f3, t3⟩ := F.rules m3
                    clear hb ha hfe
                    go_upto_region 23 with fail
                    go_quiet (fail)
                    go_wp2
                    go_roundw
                    case rel => exact ⟨q + 1, by go_num, by omega, below_drewN hbi _, _, rfl⟩
                    case measure => simp [intOf]; omega
                  · obtain rfl : q = r.1.z.length := by omega
                    obtain ⟨q1, f1, t1⟩ := F.rules m1
                    obtain ⟨q3, f3, t3⟩ := F.rules m3
                    go_wp2
                    have hA := ((((F.at_ m3).set_ 0 (.int .i64 r.1.cap)).set_ 1 (.int .i64 r.1.opn)).set_ 2 (.int .i64 r.1.act)).set_ 3 (.slice A5 r.1.z.length k5)
                    have ht := ((((Turned.refl wr (fun b => b = xb)).set (g := xb) rfl 0 (.int .i64 r.1.cap)).set (g := xb) rfl 1 (.int .i64 r.1.opn)).set (g := xb) rfl 2 (.int .i64 r.1.act)).set (g := xb) rfl 3 (.slice A5 r.1.z.length k5)
                    have hDy := (F.get m1).boxed (F.at_ m3) (noB_d _ _ _ _ _ _) (fun h => h rfl) ht
                    have hbt := F.below.trans (ht.below (B := w.heap.size) (fun b hb => by omega) F.below.size)
                    go_roundw
                    case rel => exact ⟨j + 1, r.1, A5, k5, by go_num, by omega, Lib.hid ⟨by rw [← HR.out]; exact doZ_ok c HX.out.1, by rw [HLEN.out]; exact HX.out.2⟩, hA, hDy, hbt, ⟨_, rfl⟩, ⟨_, rfl⟩, ⟨_, rfl⟩, ⟨_, rfl⟩, _, rfl⟩
                    case measure => simp [intOf]; omega
        · obtain rfl : j = l.length := by omega
          go_wp2
          go_ret
          exact ⟨rfl, hbr⟩
    · rw [show chkD d = 1 from if_neg hok]
      clear hok
      go_wp2
      go_ret
      exact ⟨rfl, E.below⟩
end Go.Proofs.Ytcjmcfjjbicimaa
