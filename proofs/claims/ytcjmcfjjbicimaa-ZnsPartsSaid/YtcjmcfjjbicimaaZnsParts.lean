/- The walk of quicksetlaw05.ZnsParts. -/
import Derived.Test.YtcjmcfjjbicimaaZnsLive
import Derived.Test.YtcjmcfjjbicimaaRefCheck05
import Derived.Test.YtcjmcfjjbicimaaRefSame05
import Derived.Test.YtcjmcfjjbicimaaZnsPart
import Derived.Test.YtcjmcfjjbicimaaOpenD
namespace Go.Proofs.Ytcjmcfjjbicimaa
open Go.RowKit

theorem st4_all {w : World} {a : Nat} {ta : TypeId} {u0 u1 u2 u3 : Value} (hA : Blk w a ta #[u0, u1, u2, u3]) (x0 x1 x2 x3 : Value) :
    Blk ((((w.setCell ⟨a, 0, none⟩ x0).setCell ⟨a, 1, none⟩ x1).setCell ⟨a, 2, none⟩ x2).setCell ⟨a, 3, none⟩ x3) a ta #[x0, x1, x2, x3] ∧ Turned w ((((w.setCell ⟨a, 0, none⟩ x0).setCell ⟨a, 1, none⟩ x1).setCell ⟨a, 2, none⟩ x2).setCell ⟨a, 3, none⟩ x3) (fun k => k = a) :=
  ⟨(((hA.set_ 0 x0).set_ 1 x1).set_ 2 x2).set_ 3 x3, ((((Turned.refl w (fun k => k = a)).set (g := a) rfl 0 x0).set (g := a) rfl 1 x1).set (g := a) rfl 2 x2).set (g := a) rfl 3 x3⟩
theorem devAt_list {w : World} {P : Nat → Prop} {d : Zd} {A : Option Addr} {k : Nat} (h : DevAt w P (.agg #[.int .i64 d.cap, .int .i64 d.opn, .int .i64 d.act, .slice A d.z.length k]) d) : IsL Rp.zone w (fun _ => True) (.slice A d.z.length k) d.z := by
  obtain ⟨_, _, e, h, _⟩ := h
  injection e with e
  simp only [Array.mk.injEq, List.cons.injEq, Value.slice.injEq, and_true] at e
  obtain ⟨_, _, _, rfl, _, rfl⟩ := e
  exact h

set_option linter.unusedSimpArgs false in
set_option maxRecDepth 100000 in
set_option maxHeartbeats 16000000 in
theorem znsParts_any (d : Zd) (l : List Cm) (zone : Int) (v u : Value) (K : Nat → Prop) (w : World) (hd : IsD w v d) (hl : IsL Rp.cmd w K u l) :
    Calls Try.prog 13 #[v, u, .int .i64 zone] w fun e w' => e = .returned (.bool true) ∧ Below w.heap.size w w' := by
  obtain ⟨A0, k0, rfl, hL0⟩ := hd
  obtain ⟨Al, cl, rfl, hllc, hlcc⟩ := hl.form
  have hl0 := hl.clt
  clear hl
  have E := ((Kn.start w).give Stable.list hL0).push 53 #[.int .i64 d.cap, .int .i64 d.opn, .int .i64 d.act, .slice A0 d.z.length k0]
  clear hL0
  go_enter Try.func13, Try.ntmps13
  go_wp2_with fail
  refine (live05_any _).mono ?_
  rintro e w1 ⟨rfl, hb1⟩
  replace E := E.step hb1
  clear hb1
  obtain ⟨q0, f0, t0⟩ := E.rules m0
  go_wp2_with fail
  refine (few_any d l _ _ _ _ ⟨A0, k0, rfl, E.get m0⟩ (hl0.keep fun p hp _ => E.below.cell hp.2)).mono ?_
  rintro e w2 ⟨rfl, hb2⟩
  replace E := E.step hb2
  clear hb2 q0 f0 t0
  obtain ⟨q0, f0, t0⟩ := E.rules m0
  obtain ⟨fb, hfb⟩ : ∃ fb, fewB d l = fb := ⟨_, rfl⟩
  rw [hfb]
  cases fb with
  | false =>
    clear hfb
    go_wp2
    go_ret
    exact ⟨rfl, E.below⟩
  | true =>
    obtain ⟨hd200, hl200⟩ := fewB_true hfb
    clear hfb
    go_wp2_with fail
    refine (refChk05_any d _ _ _ (E.get m0)).mono ?_
    rintro e w3 ⟨rfl, hb3⟩
    replace E := E.step hb3
    clear hb3 q0 f0 t0
    obtain ⟨q0, f0, t0⟩ := E.rules m0
    by_cases hok : okD d
    · rw [show chkD d = 0 from if_pos hok]
      have HOK := Lib.hid hok
      clear hok
      obtain ⟨hk1, hk2⟩ : 1 ≤ d.z.length ∧ d.z.length ≤ 64 := ⟨HOK.out.1.1, HOK.out.1.2.1⟩
      have hm0 := norm_mod zone (d.z.length : Int) (by omega) (by omega)
      have e0 : ((d.z.length : Int) == 0) = false := beq_eq_false_iff_ne.2 (by omega)
      go_upto_region 4 with fail
      go_cut [2] from 32 to 135 (fun s wx => Below w3.heap.size w3 wx ∧ ∃ i : Nat, s = .int .i64 i ∧ i < d.z.length)
      case first =>
        go_quiet (fail)
        go_wp2_with fail
        go_meet
        exact ⟨below_drewN (Below.refl _ _) _, ((wrap64 (zone.tmod (d.z.length : Int) + (d.z.length : Int))).tmod (d.z.length : Int)).toNat, by rw [Int.toNat_of_nonneg hm0.1], by omega⟩
      case rest =>
        obtain ⟨hbc, i, rfl, hi⟩ := hcut
        clear hm0 e0
        replace E := E.step hbc
        clear hbc q0 f0 t0
        obtain ⟨q0, f0, t0⟩ := E.rules m0
        obtain ⟨z, hz⟩ : ∃ z, d.z[i]? = some z := ⟨_, List.getElem?_eq_getElem hi⟩
        obtain ⟨ad, Bz, kz, rfl, hadb, _, hzB, hc0, hc1, hc2⟩ := IsL.zone_at (E.get m0) hz
        have HZ := Lib.hid hz
        clear hz
        have i0 : (0 : Int) ≤ (i : Int) := by omega
        have i1 : (i : Int) < (d.z.length : Int) := by omega
        go_upto_region 5 with fail
        go_cut [8] from 45 to 135 (fun s wx => ∃ bx, s = .pointer (some ⟨bx, 0, none⟩) ∧ wc.heap.size ≤ bx ∧ Blk wx bx 62 #[.int .i64 2, .int .i64 i, .int .i64 z.fe, .int .i64 0, .int .i64 z.d.length, .slice none 0 0] ∧ Below wc.heap.size wc wx)
        case first =>
          have hadb' : (ad.add (i * 3)).block < wc.heap.size := by rw [block_of_add]; exact hadb
          obtain ⟨g0, g1, g2⟩ : ZoneAt (wc.alloc (.cells #[.int .i64 0, .int .i64 0, .int .i64 0, .int .i64 0, .int .i64 0, .slice none 0 0] 62)) (ad.add (i * 3)) z Bz kz := ZoneAt.step ⟨hc0, hc1, hc2⟩ ((Below.refl _ _).alloc (Nat.le_refl _) _)
          go_region
          all_goals go_wp2_with fail
          all_goals go_meet
          all_goals exact ⟨wc.heap.size, rfl, Nat.le_refl _, (Blk.new _ _ _ rfl).drew, ((Below.refl _ _).alloc (Nat.le_refl _) _).drew⟩
        case rest =>
          have hdw := t0
          clear hc0 hc1 hc2 i0 i1 q0 f0 t0
          obtain ⟨bx, rfl, hbx, hBx, hbc⟩ := hcut
          replace E := ((E.step hbc).know hBx).give Stable.bytes (hzB.step hbc)
          have hws := E.below.size
          have hbxw := hBx.lt
          clear hbc hBx hzB hadb
          obtain ⟨q0, f0, t0⟩ := E.rules m0
          obtain ⟨q1, f1, t1⟩ := E.rules m1
          have hra := read_ans (z := z) HOK.out HZ.out rfl rfl
          have HRA := Lib.hid hra
          clear hra
          go_wp2_with fail
          refine (do_any d (readC i z) (some ad) k0 none 0 _ _ ((E.get m1).zlt) (fun b hb => hb.2) (IsB.nil_ _ _) (by omega) (show (0 : Int) ≤ 9223372036854775807 by decide)).mono ?_
          rw [HRA.out]
          rintro e w4 ⟨v1, v2, rfl, ⟨A5, k5, rfl, hL5, _⟩, ⟨A6, k6, rfl, hB6⟩, hb4⟩
          have hs4 := hb4.size
          replace E := E.step hb4
          clear q0 f0 t0 q1 f1 t1
          obtain ⟨q4, f4, t4⟩ := E.rules m1
          have had4 : ad.block < w4.heap.size := by
            obtain ⟨ad', _, _, e, h, _⟩ := IsL.zone_at (E.get m1) HZ.out
            injection e with e
            subst e
            exact h
          replace E := ((E.give Stable.bytes hB6).push 53 #[.int .i64 d.cap, .int .i64 d.opn, .int .i64 d.act, .slice A5 d.z.length k5]).push 64 #[.int .i64 0, .int .i64 0, .slice A6 z.d.length k6] |>.push 53 #[.int .i64 d.cap, .int .i64 d.opn, .int .i64 d.act, .slice (some ad) d.z.length k0]
          simp only [World.size_alloc] at E
          clear hL5 hB6 hb4
          go_upto_region 8 with fail
          generalize hW7 : ((w4.alloc (.cells #[.int .i64 d.cap, .int .i64 d.opn, .int .i64 d.act, .slice A5 d.z.length k5] 53)).alloc (.cells #[.int .i64 0, .int .i64 0, .slice A6 z.d.length k6] 64)).alloc (.cells #[.int .i64 d.cap, .int .i64 d.opn, .int .i64 d.act, .slice (some ad) d.z.length k0] 53) = W7 at E ⊢
          clear hW7 q4 f4 t4
          obtain ⟨q4, f4, t4⟩ := E.rules m4
          obtain ⟨b10, hb10⟩ : ∃ b10, w4.heap.size + 1 = b10 := ⟨_, rfl⟩
          obtain ⟨xb, hxb⟩ : ∃ xb, w4.heap.size + 1 + 1 = xb := ⟨_, rfl⟩
          have hx1 : b10 < xb := by omega
          have hx2 : bx < b10 := by omega
          have hx0 : w4.heap.size < b10 := by omega
          have hx3 : w.heap.size < bx := by omega
          rw [hxb, hb10] at E
          rw [hxb, hb10]
          clear hxb hb10
          go_wp2_with fail
          refine (copy05_any d _ _ ⟨some ad, k0, rfl, E.get m2⟩ (by omega)).mono ?_
          rintro e w5 ⟨v5, rfl, hD5, hb5⟩
          have hD5' := hD5
          obtain ⟨Ay, ky, rfl, _⟩ := hD5'
          have hs5 := hb5.size
          have hxw := (E.at_ m0).lt
          obtain ⟨yb, hyb⟩ : ∃ yb, w5.heap.size = yb := ⟨_, rfl⟩
          have hDy := hD5.lt.more (P' := fun b => b ≠ xb ∧ b ≠ yb) fun b hb => ⟨by have := hb.1; omega, by have := hb.2; omega⟩
          replace E := E.step hb5
          have hDd : DevAt w5 (fun b => b ≠ xb ∧ b ≠ yb) (.agg #[.int .i64 d.cap, .int .i64 d.opn, .int .i64 d.act, .slice (some ad) d.z.length k0]) d := ⟨_, _, rfl, E.get m2, fun _ => ⟨ad, rfl, by omega, by omega⟩⟩
          have hWas : IsDn w5 (.agg #[.int .i64 0, .int .i64 0, .slice A6 z.d.length k6]) ⟨0, 0, z.d⟩ := ⟨A6, k6, rfl, E.get m0⟩
          have hyx : xb < yb := by omega
          replace E := ((((E.give Stable.isDn hWas).give Stable.devAt hDy).give Stable.devAt hDd).push 53 #[.int .i64 d.cap, .int .i64 d.opn, .int .i64 d.act, .slice Ay d.z.length ky])
          have hbE := E.below
          have c1 := E.at_ m0
          have c2 := E.at_ m1
          have c3 := E.at_ m2
          have c4 := E.at_ m4
          have c5 := E.at_ m5
          have c6 := E.get m0
          have c7 := E.get m1
          have c8 := E.get m2
          rw [hyb] at c1
          have HYB := Lib.hid hyb
          clear hyb
          go_wp2
          rw [HYB.out]
          clear E hDy hDd hWas hD5 hb5 hs5 HYB had4 q4 f4 t4
          have HX0 : Hid (okD d ∧ d.z.length = d.z.length ∧ ∃ b, d.z[i]? = some b ∧ b.fe = z.fe ∧ b.d = z.d) := Lib.hid ⟨HOK.out, rfl, z, HZ.out, rfl, rfl⟩
          go_loopw [14, 15, 16, 17, 18, 71] (fun p14 p15 p16 p17 p18 i71 wr => ∃ (j : Nat) (x : Zd) (Ax : Option Addr) (kx : Nat) (Ay : Option Addr) (ky : Nat), i71 = .int .i64 j ∧ j ≤ l.length ∧ Hid (okD x ∧ x.z.length = d.z.length ∧ ∃ b, x.z[i]? = some b ∧ b.fe = z.fe ∧ b.d = z.d) ∧
            Blk wr yb 53 #[.int .i64 x.cap, .int .i64 x.opn, .int .i64 x.act, .slice Ay x.z.length ky] ∧ Blk wr xb 53 #[.int .i64 x.cap, .int .i64 x.opn, .int .i64 x.act, .slice Ax x.z.length kx] ∧
            Blk wr b10 64 #[.int .i64 0, .int .i64 0, .slice A6 z.d.length k6] ∧ Blk wr bx 62 #[.int .i64 2, .int .i64 i, .int .i64 z.fe, .int .i64 0, .int .i64 z.d.length, .slice none 0 0] ∧ Blk wr w.heap.size 53 #[.int .i64 d.cap, .int .i64 d.opn, .int .i64 d.act, .slice (some ad) d.z.length k0] ∧
            DevAt wr (fun b => b ≠ xb ∧ b ≠ yb) (.agg #[.int .i64 d.cap, .int .i64 d.opn, .int .i64 d.act, .slice (some ad) d.z.length k0]) d ∧ DevAt wr (fun b => b ≠ xb ∧ b ≠ yb) (.agg #[.int .i64 x.cap, .int .i64 x.opn, .int .i64 x.act, .slice Ax x.z.length kx]) x ∧ DevAt wr (fun b => b ≠ xb ∧ b ≠ yb) (.agg #[.int .i64 x.cap, .int .i64 x.opn, .int .i64 x.act, .slice Ay x.z.length ky]) x ∧
            IsDn wr (.agg #[.int .i64 0, .int .i64 0, .slice A6 z.d.length k6]) ⟨0, 0, z.d⟩ ∧ Below w.heap.size w wr ∧ (∃ y, p14 = y) ∧ (∃ y, p15 = y) ∧ (∃ y, p16 = y) ∧ (∃ y, p17 = y) ∧ (∃ y, p18 = y)) (fun _ _ _ _ _ i71 _ => l.length - (intOf i71).toNat)
          case atStart => exact ⟨0, d, some ad, k0, Ay, ky, rfl, Nat.zero_le _, HX0, c1, c2, c3, c4, c5, c6, c6, c7, c8, hbE, ⟨_, rfl⟩, ⟨_, rfl⟩, ⟨_, rfl⟩, ⟨_, rfl⟩, _, rfl⟩
          case round =>
            clear c1 c2 c3 c4 c5 c6 c7 c8 hbE HX0
            obtain ⟨j, x, Ax, kx, Ay, ky, rfl, hj, HX, c1, c2, c3, c4, c5, c6, c7, c8, c9, hbr, ⟨y14, rfl⟩, ⟨y15, rfl⟩, ⟨y16, rfl⟩, ⟨y17, rfl⟩, y18, rfl⟩ := hrel
            obtain ⟨wo, hwo⟩ : ∃ wo : World, wr = wo := ⟨_, rfl⟩
            rw [hwo] at c1 c2 c3 c4 c5 c6 c7 c8 c9 hbr ⊢
            clear hwo
            by_cases hltj : j < l.length
            · obtain ⟨c, hc⟩ : ∃ c, l[j] = c := ⟨_, rfl⟩
              obtain ⟨ac, B, kB, rfl, hadb, _, hBc, hrg, hc0, hc1, hc2, hc3, hc4, hc5⟩ := IsL.cmd_at (hl0.keep fun p hp _ => hbr.cell hp.2 : IsL Rp.cmd wo _ (.slice Al l.length cl) l) (List.getElem?_eq_getElem hltj)
              rw [hc] at hBc hrg hc0 hc1 hc2 hc3 hc4 hc5
              clear hc
              have j1 : (j : Int) < (l.length : Int) := by omega
              have j0 : (0 : Int) ≤ (j : Int) := by omega
              by_cases hzi : c.zone = (i : Int)
              · have e1 : (c.zone == (i : Int)) = true := by simpa using hzi
                clear hzi
                go_wp2
                have hal : Below wo.heap.size wo (wo.alloc (.cells #[.int .i64 c.op, .int .i64 c.zone, .int .i64 c.epoch, .int .i64 c.off, .int .i64 c.n, .slice B c.data.length kB] 62)) := (Below.refl _ _).alloc (Nat.le_refl _) _
                go_roundw
                case rel => exact ⟨j + 1, x, Ax, kx, Ay, ky, by go_num, by omega, HX, c1.step hal, c2.step hal, c3.step hal, c4.step hal, c5.step hal, c6.step hal, c7.step hal, c8.step hal, c9.step hal, hbr.trans (hal.mono hbr.size), ⟨_, rfl⟩, ⟨_, rfl⟩, ⟨_, rfl⟩, ⟨_, rfl⟩, _, rfl⟩
                case measure => simp [intOf]; omega
              · have e1 : (c.zone == (i : Int)) = false := by simpa using hzi
                have HZI := Lib.hid hzi
                clear hzi
                have hyl := c1.lt
                have F := ((((((((((((Kn.from_ hbr hbr.size).know c5).know c4).know c3).know c2).know c1).give Stable.bytes hBc).give Stable.isDn c9).give Stable.devAt c6).give Stable.list (devAt_list c8)).give Stable.devAt c8).give Stable.list (devAt_list c7)).give Stable.devAt c7 |>.push 62 #[.int .i64 c.op, .int .i64 c.zone, .int .i64 c.epoch, .int .i64 c.off, .int .i64 c.n, .slice B c.data.length kB]
                clear c1 c2 c3 c4 c5 c6 c7 c8 c9 hBc
                obtain ⟨q2, f2, t2⟩ := F.rules m2
                have hW : (wo.alloc (.cells #[.int .i64 c.op, .int .i64 c.zone, .int .i64 c.epoch, .int .i64 c.off, .int .i64 c.n, .slice B c.data.length kB] 62)).heap.size = wo.heap.size + 1 := World.size_alloc _ _
                have hxl : x.z.length * 40 ≤ 140737488355328 := by rw [HX.out.2.1]; omega
                go_wp2_with fail
                refine (do_any x c Ax kx B kB _ _ ((F.get m1).zlt) (fun b hb => hb.2) ((F.get m6).lt.more fun b hb => ⟨trivial, hb.2⟩) hxl hrg.off.2).mono ?_
                obtain ⟨r, hr⟩ : ∃ r, doZ x c = r := ⟨_, rfl⟩
                rw [hr]
                have HR := Lib.hid hr
                clear hr
                rintro e w4' ⟨v1, v2, rfl, ⟨A5', k5', rfl, hL5, hA5⟩, ⟨A6', k6', rfl, hB6⟩, hb4⟩
                have hDp : DevAt w4' (fun b => b ≠ xb ∧ b ≠ yb) (.agg #[.int .i64 r.1.cap, .int .i64 r.1.opn, .int .i64 r.1.act, .slice A5' r.1.z.length k5']) r.1 :=
                  ⟨A5', k5', rfl, hL5.more fun _ _ => trivial, fun hp => let ⟨ad, e, h⟩ := hA5 hp; ⟨ad, e, by rw [hW] at h; exact ⟨by omega, by omega⟩⟩⟩
                have hDa : IsDn w4' (.agg #[.int .i64 r.2.e, .int .i64 r.2.at_, .slice A6' r.2.data.length k6']) r.2 := ⟨A6', k6', rfl, hB6⟩
                have hs4' := hb4.size
                rw [hW] at hs4'
                replace F := F.step hb4
                clear hL5 hA5 hB6 hb4 q2 f2 t2 hc0 hc1 hc2 hc3 hc4 hc5
                obtain ⟨q0, f0, t0⟩ := F.rules m0
                obtain ⟨q1, f1, t1⟩ := F.rules m1
                replace F := (((F.give Stable.devAt hDp).give Stable.isDn hDa).push 53 #[.int .i64 r.1.cap, .int .i64 r.1.opn, .int .i64 r.1.act, .slice A5' r.1.z.length k5']).push 64 #[.int .i64 r.2.e, .int .i64 r.2.at_, .slice A6' r.2.data.length k6']
                rw [World.size_alloc] at F
                clear hDp hDa
                have hW2 : ((w4'.alloc (.cells #[.int .i64 r.1.cap, .int .i64 r.1.opn, .int .i64 r.1.act, .slice A5' r.1.z.length k5'] 53)).alloc (.cells #[.int .i64 r.2.e, .int .i64 r.2.at_, .slice A6' r.2.data.length k6'] 64)).heap.size = w4'.heap.size + 2 := by simp [World.size_alloc]
                go_wp2_with fail
                refine (do_any x c Ay ky B kB _ _ ((F.get m5).zlt) (fun b hb => hb.2) ((F.get m8).lt.more fun b hb => ⟨trivial, hb.2⟩) hxl hrg.off.2).mono ?_
                rw [HR.out]
                rintro e w6 ⟨v3, v4, rfl, ⟨A7, k7, rfl, hL7, hA7⟩, ⟨A8, k8, rfl, hB8⟩, hb6⟩
                have hDq : DevAt w6 (fun b => b ≠ xb ∧ b ≠ yb) (.agg #[.int .i64 r.1.cap, .int .i64 r.1.opn, .int .i64 r.1.act, .slice A7 r.1.z.length k7]) r.1 :=
                  ⟨A7, k7, rfl, hL7.more fun _ _ => trivial, fun hp => let ⟨ad, e, h⟩ := hA7 hp; ⟨ad, e, by rw [hW2] at h; exact ⟨by omega, by omega⟩⟩⟩
                have hDb : IsDn w6 (.agg #[.int .i64 r.2.e, .int .i64 r.2.at_, .slice A8 r.2.data.length k8]) r.2 := ⟨A8, k8, rfl, hB8⟩
                have hs6 := hb6.size
                rw [hW2] at hs6
                replace F := F.step hb6
                clear hL7 hA7 hB8 hb6 q0 f0 t0 q1 f1 t1
                replace F := (((F.give Stable.devAt hDq).give Stable.isDn hDb).push 53 #[.int .i64 r.1.cap, .int .i64 r.1.opn, .int .i64 r.1.act, .slice A7 r.1.z.length k7]).push 64 #[.int .i64 r.2.e, .int .i64 r.2.at_, .slice A8 r.2.data.length k8]
                rw [World.size_alloc] at F
                clear hDq hDb
                go_upto_region 15 with fail
                generalize hW7 : (w6.alloc (.cells #[.int .i64 r.1.cap, .int .i64 r.1.opn, .int .i64 r.1.act, .slice A7 r.1.z.length k7] 53)).alloc (.cells #[.int .i64 r.2.e, .int .i64 r.2.at_, .slice A8 r.2.data.length k8] 64) = W7 at F ⊢
                clear hW7
                obtain ⟨q0, f0, t0⟩ := F.rules m0
                obtain ⟨q1, f1, t1⟩ := F.rules m1
                obtain ⟨q2, f2, t2⟩ := F.rules m2
                obtain ⟨q3, f3, t3⟩ := F.rules m3
                have hsd : sameDn r.2 r.2 = true := sameDn_iff.2 rfl
                have hsz : sameD r.1 r.1 = true := sameD_iff.2 rfl
                have HSD := Lib.hid hsd; have HSZ := Lib.hid hsz
                clear hsd hsz
                go_wp2_with fail
                refine (sameDn_any _ _ r.2 r.2 _ (F.get m2) (F.get m0)).mono ?_
                rw [HSD.out]
                rintro e w8 ⟨rfl, hb8⟩
                replace F := F.step hb8
                clear q0 f0 t0 q1 f1 t1 q2 f2 t2 q3 f3 t3 hb8
                obtain ⟨q1, f1, t1⟩ := F.rules m1
                obtain ⟨q3, f3, t3⟩ := F.rules m3
                go_wp2_with fail
                refine (same05_any r.1 r.1 _ _ _ (F.get m3).isD (F.get m1).isD).mono ?_
                rw [HSZ.out]
                rintro e w9 ⟨rfl, hb9⟩
                replace F := F.step hb9
                clear q1 f1 t1 q3 f3 t3 hb9
                obtain ⟨q3, f3, t3⟩ := F.rules m3
                obtain ⟨q6, f6, t6⟩ := F.rules m6
                go_upto_region 18 with fail
                obtain ⟨hA, ht⟩ := st4_all (F.at_ m6) (.int .i64 r.1.cap) (.int .i64 r.1.opn) (.int .i64 r.1.act) (.slice A5' r.1.z.length k5')
                generalize (((w9.setCell ⟨xb, 0, none⟩ (.int .i64 r.1.cap)).setCell ⟨xb, 1, none⟩ (.int .i64 r.1.opn)).setCell ⟨xb, 2, none⟩ (.int .i64 r.1.act)).setCell ⟨xb, 3, none⟩ (.slice A5' r.1.z.length k5') = wX at hA ht ⊢
                have hNo : ¬ (xb ≠ xb ∧ xb ≠ yb) := fun h => h.1 rfl
                have gp := (F.get m3).boxed (F.at_ m6) (noB_d _ _ _ _ _ _) hNo ht
                have gq := (F.get m1).boxed (F.at_ m6) (noB_d _ _ _ _ _ _) hNo ht
                have gd := (F.get m8).boxed (F.at_ m6) (noB_d _ _ _ _ _ _) hNo ht
                have gw := (F.get m9).boxed (F.at_ m6) (noB_d _ _ _ _ _ _) ht
                have Bq := (F.at_ m1).turned ht (by omega)
                have By := (F.at_ m5).turned ht (by omega)
                have B10 := (F.at_ m7).turned ht (by omega)
                have Bbx := (F.at_ m8).turned ht (by omega)
                have Bw := (F.at_ m9).turned ht (by omega)
                have hbX := F.below.trans (ht.below (B := w.heap.size) (fun b hb => by omega) F.below.size)
                clear F ht q3 f3 t3 q6 f6 t6
                obtain ⟨q1, f1⟩ := Bq.rules
                obtain ⟨q5, f5⟩ := By.rules
                have t5 := By.lt
                go_wp2
                obtain ⟨hA2, ht2⟩ := st4_all By (.int .i64 r.1.cap) (.int .i64 r.1.opn) (.int .i64 r.1.act) (.slice A7 r.1.z.length k7)
                generalize (((wX.setCell ⟨yb, 0, none⟩ (.int .i64 r.1.cap)).setCell ⟨yb, 1, none⟩ (.int .i64 r.1.opn)).setCell ⟨yb, 2, none⟩ (.int .i64 r.1.act)).setCell ⟨yb, 3, none⟩ (.slice A7 r.1.z.length k7) = wY at hA2 ht2 ⊢
                have hNo2 : ¬ (yb ≠ xb ∧ yb ≠ yb) := fun h => h.2 rfl
                have HX2 : Hid (okD r.1 ∧ r.1.z.length = d.z.length ∧ ∃ b, r.1.z[i]? = some b ∧ b.fe = z.fe ∧ b.d = z.d) := by
                  refine Lib.hid ?_
                  obtain ⟨o1, o2, b, o3, o4, o5⟩ := HX.out
                  rw [← HR.out]
                  obtain ⟨b', p1, p2, p3⟩ := part_keeps o1 o3 HZI.out
                  exact ⟨doZ_ok c o1, by rw [doZ_len']; exact o2, b', p1, p2.trans o4, p3.trans o5⟩
                go_roundw
                case rel => exact ⟨j + 1, r.1, A5', k5', A7, k7, by go_num, by omega, HX2, hA2, hA.turned ht2 (by omega), B10.turned ht2 (by omega), Bbx.turned ht2 (by omega), Bw.turned ht2 (by omega), gd.boxed By (noB_d _ _ _ _ _ _) hNo2 ht2, gp.boxed By (noB_d _ _ _ _ _ _) hNo2 ht2, gq.boxed By (noB_d _ _ _ _ _ _) hNo2 ht2, gw.boxed By (noB_d _ _ _ _ _ _) ht2, hbX.trans (ht2.below (B := w.heap.size) (fun b hb => by omega) hbX.size), ⟨_, rfl⟩, ⟨_, rfl⟩, ⟨_, rfl⟩, ⟨_, rfl⟩, _, rfl⟩
                case measure => simp [intOf]; omega
            · obtain rfl : j = l.length := by omega
              obtain ⟨o1, o2, b, o3, o4, o5⟩ := HX.out
              have hra := read_ans (z := z) o1 o3 o4 o5
              have HRB := Lib.hid hra
              have hxl : x.z.length * 40 ≤ 140737488355328 := by rw [o2]; omega
              have hxi : i < x.z.length := (List.getElem?_eq_some_iff.1 o3).1
              have HO3 := Lib.hid o3; have HO4 := Lib.hid o4
              clear hra o1 o2 o3 o4 o5
              have F := ((((((((Kn.from_ hbr hbr.size).know c5).know c4).know c3).know c2).give Stable.isDn c9).give Stable.devAt c6).give Stable.list (devAt_list c7)).give Stable.devAt c7
              clear c1 c2 c3 c4 c5 c6 c7 c8 c9
              obtain ⟨q0, f0, t0⟩ := F.rules m0
              obtain ⟨q2, f2, t2⟩ := F.rules m2
              go_wp2_with fail
              refine (do_any x (readC i z) Ax kx none 0 _ _ ((F.get m1).zlt) (fun b hb => hb.2) (IsB.nil_ _ _) hxl (show (0 : Int) ≤ 9223372036854775807 by decide)).mono ?_
              rw [HRB.out]
              rintro e w8 ⟨v1, v2, rfl, ⟨A9, k9, rfl, hL9, _⟩, ⟨A11, k11, rfl, hB11⟩, hb8⟩
              have hNow : IsDn w8 (.agg #[.int .i64 0, .int .i64 0, .slice A11 z.d.length k11]) ⟨0, 0, z.d⟩ := ⟨A11, k11, rfl, hB11⟩
              replace F := (((F.step hb8).give Stable.isDn hNow).push 53 #[.int .i64 x.cap, .int .i64 x.opn, .int .i64 x.act, .slice A9 x.z.length k9]).push 64 #[.int .i64 0, .int .i64 0, .slice A11 z.d.length k11]
              rw [World.size_alloc] at F
              clear hL9 hB11 hb8 hNow q0 f0 t0 q2 f2 t2
              go_upto_region 21 with fail
              generalize hW9 : (w8.alloc (.cells #[.int .i64 x.cap, .int .i64 x.opn, .int .i64 x.act, .slice A9 x.z.length k9] 53)).alloc (.cells #[.int .i64 0, .int .i64 0, .slice A11 z.d.length k11] 64) = W9 at F ⊢
              clear hW9
              obtain ⟨ax, Bx, kbx, rfl, hax, _, _, hx0', hx1', hx2'⟩ := IsL.zone_at (F.get m2) HO3.out
              obtain ⟨ad', Bd, kbd, ead, had', _, _, hd0', hd1', hd2'⟩ := IsL.zone_at (devAt_list (F.get m3)) HZ.out
              injection ead with ead
              subst ead
              rw [HO4.out] at hx1'
              have HK : Hid (∀ W, Below W9.heap.size W9 W → (∀ o, W.cell? ⟨w8.heap.size + 1, o, none⟩ = (#[.int .i64 0, .int .i64 0, .slice A11 z.d.length k11] : Array Value)[o]?) ∧ (∀ o, W.cell? ⟨b10, o, none⟩ = (#[.int .i64 0, .int .i64 0, .slice A6 z.d.length k6] : Array Value)[o]?) ∧ (∀ o, W.cell? ⟨xb, o, none⟩ = (#[.int .i64 x.cap, .int .i64 x.opn, .int .i64 x.act, .slice (some ax) x.z.length kx] : Array Value)[o]?) ∧ (∀ o, W.cell? ⟨w.heap.size, o, none⟩ = (#[.int .i64 d.cap, .int .i64 d.opn, .int .i64 d.act, .slice (some ad) d.z.length k0] : Array Value)[o]?) ∧ (W.cell? (ax.add (i * 3)) = some (.int .i64 b.st) ∧ W.cell? ⟨(ax.add (i * 3)).block, (ax.add (i * 3)).off + 1, none⟩ = some (.int .i64 z.fe) ∧ W.cell? ⟨(ax.add (i * 3)).block, (ax.add (i * 3)).off + 2, none⟩ = some (.slice Bx b.d.length kbx)) ∧ (W.cell? (ad.add (i * 3)) = some (.int .i64 z.st) ∧ W.cell? ⟨(ad.add (i * 3)).block, (ad.add (i * 3)).off + 1, none⟩ = some (.int .i64 z.fe) ∧ W.cell? ⟨(ad.add (i * 3)).block, (ad.add (i * 3)).off + 2, none⟩ = some (.slice Bd z.d.length kbd))) := Lib.hid fun W h => ⟨((F.step h).rules m0).1, ((F.step h).rules m3).1, ((F.step h).rules m2).1, ((F.step h).rules m5).1,
                ⟨(h.cell (World.block_lt_of_cell? _ _ hx0')).trans hx0', (h.cell (World.block_lt_of_cell? _ _ hx1')).trans hx1', (h.cell (World.block_lt_of_cell? _ _ hx2')).trans hx2'⟩, ZoneAt.step ⟨hd0', hd1', hd2'⟩ h⟩
              have i0 : (0 : Int) ≤ (i : Int) := by omega
              have i1 : (i : Int) < (d.z.length : Int) := by omega
              have i2 : (i : Int) < (x.z.length : Int) := by omega
              have hsd : sameDn (⟨0, 0, z.d⟩ : Dn) ⟨0, 0, z.d⟩ = true := sameDn_iff.2 rfl
              have HSD := Lib.hid hsd
              have hn0 := F.get m0
              have hn4 := F.get m4
              clear hx0' hx1' hx2' hd0' hd1' hd2' hsd
              go_region_held3 (fun W => (∀ o, W.cell? ⟨w8.heap.size + 1, o, none⟩ = (#[.int .i64 0, .int .i64 0, .slice A11 z.d.length k11] : Array Value)[o]?) ∧ (∀ o, W.cell? ⟨b10, o, none⟩ = (#[.int .i64 0, .int .i64 0, .slice A6 z.d.length k6] : Array Value)[o]?) ∧ (∀ o, W.cell? ⟨xb, o, none⟩ = (#[.int .i64 x.cap, .int .i64 x.opn, .int .i64 x.act, .slice (some ax) x.z.length kx] : Array Value)[o]?) ∧ (∀ o, W.cell? ⟨w.heap.size, o, none⟩ = (#[.int .i64 d.cap, .int .i64 d.opn, .int .i64 d.act, .slice (some ad) d.z.length k0] : Array Value)[o]?) ∧ (W.cell? (ax.add (i * 3)) = some (.int .i64 b.st) ∧ W.cell? ⟨(ax.add (i * 3)).block, (ax.add (i * 3)).off + 1, none⟩ = some (.int .i64 z.fe) ∧ W.cell? ⟨(ax.add (i * 3)).block, (ax.add (i * 3)).off + 2, none⟩ = some (.slice Bx b.d.length kbx)) ∧ (W.cell? (ad.add (i * 3)) = some (.int .i64 z.st) ∧ W.cell? ⟨(ad.add (i * 3)).block, (ad.add (i * 3)).off + 1, none⟩ = some (.int .i64 z.fe) ∧ W.cell? ⟨(ad.add (i * 3)).block, (ad.add (i * 3)).off + 2, none⟩ = some (.slice Bd z.d.length kbd)))
                (first | with_reducible exact HK.out _ (Below.refl _ _).drew | with_reducible exact HK.out _ hb2)
                (first
                  | (go_at_call 43
                     refine (sameDn_any _ _ ⟨0, 0, z.d⟩ ⟨0, 0, z.d⟩ _ (hn4.step (Below.refl _ _).drew) (hn0.step (Below.refl _ _).drew)).mono ?_
                     rw [HSD.out]
                     rintro e w2 ⟨rfl, hb2⟩
                     replace hb2 := (Below.refl W9.heap.size W9).drew.trans hb2))
              go_wp2
              go_ret
              exact ⟨rfl, (F.step hb2).below⟩
    · rw [show chkD d = 1 from if_neg hok]
      clear hok
      go_wp2
      go_ret
      exact ⟨rfl, E.below⟩
end Go.Proofs.Ytcjmcfjjbicimaa
