/- The walk of quicksetlaw05.ZnsLimits. -/
import Derived.Test.YtcjmcfjjbicimaaZnsLive
import Derived.Test.YtcjmcfjjbicimaaZnsLim
import Derived.Test.YtcjmcfjjbicimaaOpenG
namespace Go.Proofs.Ytcjmcfjjbicimaa
open Go.RowKit

set_option linter.unusedSimpArgs false in
set_option maxRecDepth 100000 in
set_option maxHeartbeats 16000000 in
theorem znsLimits_any (zones0 opn0 act0 : Int) (l : List Int) (u : Value) (w : World) (hl : IsL Rp.int w (· < w.heap.size) u l) :
    Calls Try.prog 12 #[.int .i64 zones0, .int .i64 opn0, .int .i64 act0, u] w fun e w' => e = .returned (.bool true) ∧ Below w.heap.size w w' := by
  obtain ⟨Al, cl, rfl, hllc, hlcc⟩ := hl.form
  have hlen := hl.len
  go_enter Try.func12, Try.ntmps12
  go_wp2_with fail
  refine (live05_any _).mono ?_
  rintro e w1 ⟨rfl, hb1⟩
  have hm0 := norm_mod zones0 16 (by decide) (by decide)
  go_upto_region 3 with fail
  have hZ1 : 1 ≤ 1 + (wrap64 (zones0.tmod 16 + 16)).tmod 16 := by omega
  have hZ2 : 1 + (wrap64 (zones0.tmod 16 + 16)).tmod 16 ≤ 16 := by omega
  clear hm0
  generalize 1 + (wrap64 (zones0.tmod 16 + 16)).tmod 16 = Z at hZ1 hZ2 ⊢
  have hm1 := norm_mod act0 Z (by omega) (by omega)
  have hZ0 : (Z == 0) = false := by simp; omega
  go_cut [2] from 22 to 41 (fun s wx => wx = w1 ∧ ∃ M : Int, s = .int .i64 M ∧ 1 ≤ M ∧ M ≤ Z)
  case first =>
    go_wp2
    go_meet
    refine ⟨rfl, _, rfl, ?_, ?_⟩
    all_goals omega
  case rest =>
    obtain ⟨rfl, M, rfl, hM1, hM2⟩ := hcut
    clear hm1 hZ0
    have hm2 := norm_mod opn0 M (by omega) (by omega)
    have hM0 : (M == 0) = false := by simp; omega
    go_upto_region 4 with fail
    go_cut [1] from 30 to 41 (fun s wx => wx = wc ∧ ∃ O : Int, s = .int .i64 O ∧ 1 ≤ O ∧ O ≤ M)
    case first =>
      go_wp2
      go_meet
      refine ⟨rfl, _, rfl, ?_, ?_⟩
      all_goals omega
    case rest =>
      obtain ⟨rfl, O, rfl, hO1, hO2⟩ := hcut
      clear hm2 hM0
      by_cases h100 : 100 < l.length
      · have e1 : decide (100 < (l.length : Int)) = true := decide_eq_true (by omega)
        go_wp2
        go_ret
        exact ⟨rfl, hb1⟩
      · go_wp2_with fail
        refine (new_any Z 1000 O M _).mono ?_
        have hlim := lim_new hZ1 hZ2 hM1 hM2 hO1 hO2
        rw [hlim.1]
        generalize (newD Z 1000 O M).1 = d at hlim ⊢
        have HL := Lib.hid hlim.2
        clear hlim
        rintro e w2 ⟨v, rfl, ⟨A0, k0, rfl, hL0⟩, hb2⟩
        replace hb2 := hb1.trans (hb2.mono hb1.size)
        go_wp2
        have hB := Blk.new w2 53 #[.int .i64 d.cap, .int .i64 d.opn, .int .i64 d.act, .slice A0 d.z.length k0] rfl
        have hD : DevAt (w2.alloc (.cells #[.int .i64 d.cap, .int .i64 d.opn, .int .i64 d.act, .slice A0 d.z.length k0] 53)) (fun b => b ≠ w2.heap.size) (.agg #[.int .i64 d.cap, .int .i64 d.opn, .int .i64 d.act, .slice A0 d.z.length k0]) d := by
          refine ⟨A0, k0, rfl, hL0.alloc _, fun hp => ?_⟩
          obtain ⟨ad, _, _, e, hlt, _⟩ := IsL.zone_at hL0 (List.getElem?_eq_getElem hp)
          exact ⟨ad, e, by omega⟩
        have hbA := hb2.alloc hb2.size (.cells #[.int .i64 d.cap, .int .i64 d.opn, .int .i64 d.act, .slice A0 d.z.length k0] 53)
        have hxs := hb2.size
        obtain ⟨xb, hxb⟩ : ∃ xb, w2.heap.size = xb := ⟨_, rfl⟩
        rw [hxb] at hB hD hxs ⊢
        clear hxb hL0 hb2
        go_loopw [13, 14, 15, 53] (fun p13 p14 p15 i wr => ∃ (j : Nat) (x : Zd) (A : Option Addr) (k : Nat), i = .int .i64 j ∧ j ≤ l.length ∧ Hid (Lim x Z O M j) ∧ Blk wr xb 53 #[.int .i64 x.cap, .int .i64 x.opn, .int .i64 x.act, .slice A x.z.length k] ∧
          DevAt wr (fun b => b ≠ xb) (.agg #[.int .i64 x.cap, .int .i64 x.opn, .int .i64 x.act, .slice A x.z.length k]) x ∧ Below w.heap.size w wr ∧ (∃ y, p13 = y) ∧ (∃ y, p14 = y) ∧ (∃ y, p15 = y)) (fun _ _ _ i _ => l.length - (intOf i).toNat)
        case atStart => exact ⟨0, d, A0, k0, rfl, Nat.zero_le _, HL, hB, hD, hbA, ⟨_, rfl⟩, ⟨_, rfl⟩, _, rfl⟩
        case round =>
          clear hB hD hbA HL hb1
          obtain ⟨j, x, A, k, rfl, hj, HX, hB, hD, hbr, ⟨y13, rfl⟩, ⟨y14, rfl⟩, y15, rfl⟩ := hrel
          by_cases hltj : j < l.length
          · have hl2 : IsL Rp.int wr (· < w.heap.size) (.slice Al l.length cl) l := hl.keep fun p hp _ => hbr.cell hp
            obtain ⟨t0, ht0⟩ : ∃ t0, l[j] = t0 := ⟨_, rfl⟩
            obtain ⟨ad, es, rfl, _, hes, hcell⟩ := hl2.at_ (List.getElem?_eq_getElem hltj)
            rw [ht0] at hes
            have hc0 : wr.cell? (ad.add j) = some (.int .i64 t0) := by
              obtain ⟨he, _⟩ := hes
              subst he
              have := hcell 0 _ rfl
              rw [addr0] at this
              simpa [Rp.int] using this
            clear hes hcell hl2 ht0
            have j1 : (j : Int) < (l.length : Int) := by omega
            have j0 : (0 : Int) ≤ (j : Int) := by omega
            have hm3 := norm_mod t0 Z (by omega) (by omega)
            have hZ0 : (Z == 0) = false := by simp; omega
            obtain ⟨wo, hwo⟩ : ∃ wo : World, wr = wo := ⟨_, rfl⟩
            rw [hwo] at hB hD hbr hc0 ⊢
            clear hwo
            go_upto_region 13 with fail
            go_cut [13] from 54 to 121 (fun s wx => wx = wo ∧ ∃ T : Int, s = .int .i64 T ∧ 0 ≤ T ∧ T < Z)
            case first =>
              go_wp2
              go_meet
              refine ⟨rfl, _, rfl, ?_, ?_⟩
              all_goals omega
            case rest =>
              obtain ⟨rfl, T, rfl, hT1, hT2⟩ := hcut
              clear hm3 hZ0 hc0
              have hxl : x.z.length ≤ 16 := by have := HX.out.len; omega
              have hLx : IsL Rp.zone wc (fun _ => True) (.slice A x.z.length k) x.z := by
                obtain ⟨_, _, e, h, _⟩ := hD
                injection e with e
                simp only [Array.mk.injEq, List.cons.injEq, Value.slice.injEq, and_true] at e
                obtain ⟨_, _, _, rfl, _, rfl⟩ := e
                exact h
              have hb1 : IsB (wc.alloc (.cells #[.int .u8 1] 5)) (fun b => True ∧ b < wc.heap.size + 1) (.slice (some ⟨wc.heap.size, 0, none⟩) 1 1) [1] :=
                (IsB.new (l := [1]) (n := 1) (g := wc.heap.size) rfl rfl rfl (by decide)).more fun b hb => ⟨trivial, by (have hb' := hb); (show b < wc.heap.size + 1); omega⟩
              have F := (((Kn.from_ hbr hbr.size).give Stable.devAt hD).know hB).push 5 #[.int .u8 1]
              replace F := (F.give Stable.bytes hb1).give Stable.list (hLx.alloc _)
              have hxo := hB.lt
              have hW : (wc.alloc (.cells #[.int .u8 1] 5)).heap.size = wc.heap.size + 1 := World.size_alloc _ _
              have hq := hB.rules
              clear hLx hb1 hD hB
              obtain ⟨q1, f1⟩ := hq
              go_wp2_with fail
              refine (do_any x (appC T) A k (some ⟨wc.heap.size, 0, none⟩) 1 (fun b => True ∧ b < wc.heap.size + 1) _ (by have := (F.get m0).zlt; rw [hW] at this; exact this) (fun b hb => by rw [hW]; exact hb.2) (F.get m1) (by omega) (show (0 : Int) ≤ 9223372036854775807 by decide)).mono ?_
              obtain ⟨hst, hlm⟩ := lim_step (t := T) HX.out (by omega) hT1 hT2
              obtain ⟨r, hr⟩ : ∃ r, doZ x (appC T) = r := ⟨_, rfl⟩
              rw [hr] at hst hlm ⊢
              have HST := Lib.hid hst; have HLM := Lib.hid hlm
              clear hr hst hlm
              rintro e w4 ⟨v1, v2, rfl, ⟨A5, k5, rfl, hL5, hA5⟩, ⟨A6, k6, rfl, hB6⟩, hb4⟩
              have hDy : DevAt w4 (fun b => b ≠ xb) (.agg #[.int .i64 r.1.cap, .int .i64 r.1.opn, .int .i64 r.1.act, .slice A5 r.1.z.length k5]) r.1 :=
                ⟨A5, k5, rfl, hL5.more fun _ _ => trivial, fun hp => let ⟨ad, e, h⟩ := hA5 hp; ⟨ad, e, by rw [hW] at h; intro e2; omega⟩⟩
              replace F := (((F.step hb4).give Stable.devAt hDy).give Stable.list (hL5.more fun _ _ => trivial : IsL Rp.zone w4 (fun _ => True) _ _)).push 53 #[.int .i64 r.1.cap, .int .i64 r.1.opn, .int .i64 r.1.act, .slice A5 r.1.z.length k5] |>.push 64 #[.int .i64 r.2.e, .int .i64 r.2.at_, .slice A6 r.2.data.length k6]
              rw [World.size_alloc] at F
              have hs4 : wc.heap.size + 1 ≤ w4.heap.size := by have := hb4.size; omega
              clear hL5 hA5 hB6 hDy hb4 q1 f1
              go_upto_region 15 with fail
              generalize hW5 : (w4.alloc (.cells #[.int .i64 r.1.cap, .int .i64 r.1.opn, .int .i64 r.1.act, .slice A5 r.1.z.length k5] 53)).alloc (.cells #[.int .i64 r.2.e, .int .i64 r.2.at_, .slice A6 r.2.data.length k6] 64) = W5 at F ⊢
              clear hW5
              obtain ⟨q0, f0, t0⟩ := F.rules m0
              obtain ⟨q1, f1, t1⟩ := F.rules m1
              have hO5 : (cntZ openS r.1.z : Int) ≤ O := by have := HLM.out.ok.2.1; rw [HLM.out.opn] at this; exact this
              have hM5 : (cntZ activeS r.1.z : Int) ≤ M := by have := HLM.out.ok.2.2.1; rw [HLM.out.act] at this; exact this
              have hrl : r.1.z.length ≤ 16 := by have := HLM.out.len; omega
              have hzs := IsZs.of (F.get m0)
              go_cut [103] from 54 to 121 (fun s wx => ∃ bb : Bool, s = .bool bb ∧ Below W5.heap.size W5 wx ∧ Hid (bb = true → T < M ∧ r.2.e = 44 ∧ (cntZ activeS x.z : Int) = M))
              case first =>
                rcases HST.out with he | ⟨he, hcm⟩
                · rw [he] at q0
                  clear he
                  go_wp2_with (first
                    | (go_at_call 26; refine (refOpened_any A5 k5 r.1.z _ _ hzs (by omega)).mono ?_; rintro e w6 ⟨rfl, hb6⟩; obtain ⟨q6, f6, t6⟩ := (F.step hb6).rules m1)
                    | (go_at_call 28; refine (refActive_any A5 k5 r.1.z _ _ (IsZs.of ((F.step hb6).get m0)) (by omega)).mono ?_; rintro e w7 ⟨rfl, hb7⟩))
                  all_goals go_meet
                  all_goals exact ⟨false, congrArg Value.bool (by rw [decide_eq_false (show ¬ O < (cntZ openS r.1.z : Int) by omega), decide_eq_false (show ¬ M < (cntZ activeS r.1.z : Int) by omega)]; rfl), hb6.trans (hb7.mono hb6.size), Lib.hid (fun h => by cases h)⟩
                · by_cases hTM : T < M
                  · have HH : Hid (T < M ∧ r.2.e = 44 ∧ (cntZ activeS x.z : Int) = M) := Lib.hid ⟨hTM, he, hcm⟩
                    rw [he] at q0
                    clear he hcm
                    go_wp2
                    go_meet
                    exact ⟨true, rfl, Below.refl _ _, Lib.hid (fun _ => HH.out)⟩
                  · rw [he] at q0
                    clear he hcm
                    go_wp2_with (first
                      | (go_at_call 26; refine (refOpened_any A5 k5 r.1.z _ _ hzs (by omega)).mono ?_; rintro e w6 ⟨rfl, hb6⟩; obtain ⟨q6, f6, t6⟩ := (F.step hb6).rules m1)
                      | (go_at_call 28; refine (refActive_any A5 k5 r.1.z _ _ (IsZs.of ((F.step hb6).get m0)) (by omega)).mono ?_; rintro e w7 ⟨rfl, hb7⟩))
                    all_goals go_meet
                    all_goals exact ⟨false, congrArg Value.bool (by rw [decide_eq_false (show ¬ O < (cntZ openS r.1.z : Int) by omega), decide_eq_false (show ¬ M < (cntZ activeS r.1.z : Int) by omega)]; rfl), hb6.trans (hb7.mono hb6.size), Lib.hid (fun h => by cases h)⟩
              case rest =>
                obtain ⟨bb, rfl, hbc2, HBB⟩ := hcut
                replace F := F.step hbc2
                clear q0 f0 t0 q1 f1 t1 hzs hbc2
                obtain ⟨q1, f1, t1⟩ := F.rules m1
                obtain ⟨q3, f3, t3⟩ := F.rules m3
                cases bb with
                | false =>
                  go_wp2
                  have hA := ((((F.at_ m3).set_ 0 (.int .i64 r.1.cap)).set_ 1 (.int .i64 r.1.opn)).set_ 2 (.int .i64 r.1.act)).set_ 3 (.slice A5 r.1.z.length k5)
                  have ht := ((((Turned.refl wc (fun b => b = xb)).set (g := xb) rfl 0 (.int .i64 r.1.cap)).set (g := xb) rfl 1 (.int .i64 r.1.opn)).set (g := xb) rfl 2 (.int .i64 r.1.act)).set (g := xb) rfl 3 (.slice A5 r.1.z.length k5)
                  have hDy := (F.get m1).boxed (F.at_ m3) (noB_d _ _ _ _ _ _) (fun h => h rfl) ht
                  have hbt := F.below.trans (ht.below (B := w.heap.size) (fun b hb => by omega) F.below.size)
                  go_roundw
                  case rel => exact ⟨j + 1, r.1, A5, k5, by go_num, by omega, HLM, hA, hDy, hbt, ⟨_, rfl⟩, ⟨_, rfl⟩, _, rfl⟩
                  case measure => simp [intOf]; omega
                | true =>
                  obtain ⟨hTM, he, hcm⟩ := HBB.out rfl
                  obtain ⟨q0, f0, t0⟩ := F.rules m0
                  rw [he] at q0
                  have HCM := Lib.hid hcm
                  clear he hcm HBB
                  go_upto_region 16 with fail
                  go_wp2_with (go_at_call 28; refine (refActive_any A k x.z _ _ (IsZs.of (F.get m2)) (by omega)).mono ?_; rw [HCM.out]; rintro e w7 ⟨rfl, hb7⟩; replace F := F.step hb7; obtain ⟨g1, h1, s1⟩ := F.rules m1; obtain ⟨g3, h3, s3⟩ := F.rules m3)
                  have hA := ((((F.at_ m3).set_ 0 (.int .i64 r.1.cap)).set_ 1 (.int .i64 r.1.opn)).set_ 2 (.int .i64 r.1.act)).set_ 3 (.slice A5 r.1.z.length k5)
                  have ht := ((((Turned.refl w7 (fun b => b = xb)).set (g := xb) rfl 0 (.int .i64 r.1.cap)).set (g := xb) rfl 1 (.int .i64 r.1.opn)).set (g := xb) rfl 2 (.int .i64 r.1.act)).set (g := xb) rfl 3 (.slice A5 r.1.z.length k5)
                  have hDy := (F.get m1).boxed (F.at_ m3) (noB_d _ _ _ _ _ _) (fun h => h rfl) ht
                  have hbt := F.below.trans (ht.below (B := w.heap.size) (fun b hb => by omega) F.below.size)
                  go_roundw
                  case rel => exact ⟨j + 1, r.1, A5, k5, by go_num, by omega, HLM, hA, hDy, hbt, ⟨_, rfl⟩, ⟨_, rfl⟩, _, rfl⟩
                  case measure => simp [intOf]; omega
          · obtain rfl : j = l.length := by omega
            go_wp2
            go_ret
            exact ⟨rfl, hbr⟩
end Go.Proofs.Ytcjmcfjjbicimaa
