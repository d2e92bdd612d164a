/- The walk of SegBack. -/
import Derived.Test.YtpacjjaekmipfaaSegEnd
import Derived.Test.YtpacjjaekmipfaaLive03
import Derived.Test.YtpacjjaekmipfaaSameSeg
import Derived.Test.YtpacjjaekmipfaaAppZ
import Derived.Deep.DeepCutAuto
import Derived.Deep.RegionWith
namespace Go.Proofs.Ytpacjjaekmipfaa
open Go.RowKit

theorem isL_pre {α : Type} {R : Rp α} {w : World} {K : Nat → Prop} {A : Option Addr} {n c : Nat} {l : List α} (h : IsL R w K (.slice A n c) l) {k : Nat} (hk : k ≤ n) : IsL R w K (.slice A k c) (l.take k) := by
  obtain ⟨rfl, ⟨cs, h1, h2⟩, h3, h4, h5⟩ := h.open_
  have e : (l.take k).length = k := by rw [List.length_take]; omega
  refine ⟨A, c, cs.take (k * R.size), by rw [e], by rw [e]; exact h1.pre hk, h2.take k, by omega, h4, by omega⟩

theorem back_facts {h : Hd} {l : List Rc} (hh : OkHd h) (hhe : (headL h).2 = 0) (hle : errL l = 0) (hok : ∀ r ∈ l, OkRc r) (h5000 : l.length ≤ 5000) {ln : Nat} (hln : l.length = ln) :
    ∃ (b : List UInt8) (u : Nat) (ats : List Int) (e : Nat → Nat) (at_ : Nat → List Int), segP h l = (b, 0) ∧ 5 ≤ u ∧ u ≤ b.length ∧ b.length ≤ 300000000 ∧ ats.length = ln ∧
      (∀ k, scanL (b ++ List.replicate k 0) = ⟨true, h, l, ats, b.length⟩) ∧ (∀ k, k < ln → endF ⟨true, h, l, ats, b.length⟩ k = (e (k + 1) : Int)) ∧ e 0 = u ∧
      (0 < ln → ats[0]? = some (u : Int)) ∧ (ln = 0 → b.length = u) ∧ (∀ c, c < u → scanL (b.take c) = f0d) ∧
      (∀ c k, k ≤ ln → e k ≤ c → (k < ln → c < e (k + 1)) → scanL (b.take c) = ⟨true, h, l.take k, at_ k, e k⟩) := by
  subst hln
  have h5 := headL_five hhe hh
  have h6 := headL_le h
  have h7 := frs_len hok
  refine ⟨(headL h).1 ++ frsL l, (headL h).1.length, atsL (headL h).1.length l, fun k => (headL h).1.length + (frsL (l.take k)).length, fun k => atsL (headL h).1.length (l.take k), ?_, h5, by simp, by rw [List.length_append]; omega, atsL_len _ _, ?_, ?_, by simp [frsL], ?_, ?_, fun c hc => scan_cut0 hh hhe hc, fun c k _ h1 h2 => scan_cut hh hhe hle hok h1 h2⟩
  · unfold segP; rw [if_neg (by simp [hhe]), if_neg (by simp [hle])]
  · intro k
    rw [List.length_append]
    exact scan_back2 hh hhe hle hok (zeros_no k)
  · intro k hk
    rw [List.length_append]
    exact endF_is hk
  · intro hp
    rw [atsL_at _ _ hp]
    simp [frsL]
  · intro h0
    rw [List.eq_nil_of_length_eq_zero h0]
    simp [frsL]

set_option maxRecDepth 100000 in
set_option maxHeartbeats 8000000 in
theorem segBack_any (h : Hd) (lv : Value) (l : List Rc) (cut zeros : Int) (K : Nat → Prop) (w : World) (hh : OkHd h) (hl : IsL Rp.rc w K lv l) (hll : l.length ≤ 1048576) :
    Calls Try.prog 5 #[hdV h, lv, .int .i64 cut, .int .i64 zeros] w fun e w' => e = .returned (.bool true) ∧ Below w.heap.size w w' := by
  have hl0 := hl.ltRc
  obtain ⟨Al, cl, rfl, hlc, hlc2⟩ := hl.form
  have hok := isL_ok hl
  obtain ⟨ln, hln⟩ : ∃ ln, l.length = ln := ⟨_, rfl⟩
  rw [hln] at hl0 hlc ⊢
  obtain ⟨i0, hi, hz0, hz1, hz2⟩ := info_parts Try.info5
  have E := ((Kn.start w).give Stable.list hl0).push 23 #[.int .i64 h.host, .int .i64 h.epoch, .int .i64 h.seq]
  clear hl
  unfold hdV
  go_enter Try.func5, Try.ntmps5
  go_wp2_with fail
  refine (live03_any _).mono ?_
  rintro e w1 ⟨rfl, hb1⟩
  replace E := E.step hb1
  go_wp2_with fail
  refine (bigR_any 100000 _ l _ _ (E.get m0)).mono ?_
  rintro e w2 ⟨rfl, hb2⟩
  replace E := E.step hb2
  obtain ⟨q0, f0, t0⟩ := E.rules m0
  cases hbig : bigR 100000 l with
  | true =>
    go_wp2
    go_ret
    exact ⟨rfl, E.below⟩
  | false =>
    have hsg := seg_any h (.slice Al ln cl) l _ w2 hh (E.get m0) (by omega)
    unfold hdV at hsg
    by_cases hgood : (headL h).2 = 0 ∧ errL l = 0
    · obtain ⟨hhe, hle⟩ := hgood
      have hlen5 := big_len hbig hle hll
      obtain ⟨b, u, ats, e, at_, hseg, hu5, hub, hbn, hatl, hscan, hend, he0, hfst, hnil, hcut0, hcut1⟩ := back_facts hh hhe hle hok (by omega) hln
      rw [hseg] at hsg
      dsimp only at hsg
      rw [hln] at hlen5
      have HLN := Lib.hid hln
      clear hln hhe hle hseg hok hbig hll
      have HSC := Lib.hid hscan; have HEND := Lib.hid hend; have HC0 := Lib.hid hcut0; have HC1 := Lib.hid hcut1; have HFST := Lib.hid hfst; have HNIL := Lib.hid hnil
      have HE0 := Lib.hid he0; have HAT := Lib.hid hatl
      clear hscan hend hcut0 hcut1 hfst hnil he0 hatl
      have z1 := Int.tmod_lt_of_pos zeros (show (0 : Int) < 100 by decide)
      have z2 := Int.lt_tmod_of_pos zeros (show (0 : Int) < 100 by decide)
      obtain ⟨n, hn⟩ : ∃ n, b.length = n := ⟨_, rfl⟩
      have HN := Lib.hid hn
      rw [hn] at hsg hub hbn
      clear hn
      have dn0 : ((n : Int) == 0) = false := by simp; omega
      go_wp2_with fail
      refine hsg.mono ?_
      rintro e w3 ⟨A3, c3, rfl, own3, hb3⟩
      go_upto_region 8 with fail
      obtain ⟨z, hz, hz100⟩ : ∃ z : Nat, (zeros.tmod 100 + 100) % 100 = (z : Int) ∧ z < 100 := ⟨((zeros.tmod 100 + 100) % 100).toNat, by omega, by omega⟩
      rw [hz]
      have hl5k : ln ≤ 5000 := by omega
      have s3 := E.base
      have s4 := hb3.size
      replace E := E.step hb3
      have hB3 : IsB w3 (fun k => w2.heap.size ≤ k) (.slice A3 n c3) b := by
        have := HN.out
        rw [← this] at own3 ⊢
        exact IsB.of_own own3 (by omega)
      have hrb := hB3.open_.2.1
      rw [HN.out] at hrb
      replace E := E.give Stable.bytes hB3
      clear own3 z1 z2 hz hlen5 hsg q0 f0 t0
      go_wp2_with (first
        | (at_builtin; refine wpList_appN rfl (.const (.slice none 0 0)) (.tmp 47) _ rfl w3.heap.size 5 i0 _ 1 1 Try.underlying27 hi hz0 hz1 hz2 rfl (by omega) rfl (World.ownsRow_nil _ _ _ _) rfl hrb (cells8_one _) (by simp only [maxLen]; omega) (by omega) (Nat.le_refl _) ?_; intro A4 c4 w4 own4 hg4; have hb4 := hg4.below
           simp only [Nat.zero_add, List.nil_append] at own4)
        | (at_builtin; refine wpList_appZ rfl (.tmp 48) (.tmp 49) _ _ rfl w3.heap.size 5 i0 .i64 .i64 Try.underlying27 Try.underlying3 hi hz0 hz1 hz2 (by first | rfl | (simp only [Nat.zero_add]; rfl)) own4 z rfl (by omega) hb4.size ?_; intro A5 c5 w5 own5 hb5))
      have hcat : IsB w5 (fun k => w3.heap.size ≤ k) (.slice A5 (n + z) c5) (b ++ List.replicate z 0) := by
        have h := own5
        have e1 : (b ++ List.replicate z 0).length = n + z := by rw [List.length_append, HN.out, List.length_replicate]
        rw [← cells8_append, ← e1] at h
        have := IsB.of_own h (by omega)
        rwa [e1] at this
      replace E := E.step (hb4.trans hb5)
      clear own4 hg4 hb4 hb5 own5 hrb hB3 hz0 hi
      have hsc := scan_any _ _ _ w5 hcat (by rw [List.length_append, HN.out, List.length_replicate]; omega)
      rw [HSC.out z, HN.out] at hsc
      unfold fdC at hsc
      dsimp only at hsc
      rw [HAT.out, HLN.out] at hsc
      clear HSC hcat
      refine hsc.mono ?_
      rintro e w6 ⟨A6, c6, A7, c7, rfl, hl6, ha7, hb6⟩
      replace E := ((E.step hb6).give Stable.list hl6).push 51 #[.bool true, .int .i64 h.host, .int .i64 h.epoch, .int .i64 h.seq, .slice A6 ln c6, .slice A7 ln c7, .int .i64 n]
      replace E := E.give Stable.list (ha7.alloc _)
      obtain ⟨q0, f0, t0⟩ := E.rules m0
      obtain ⟨q1, f1, t1⟩ := E.rules m1
      have dnn : ((n : Int) != (n : Int)) = false := by simp
      have dll : ((ln : Int) != (ln : Int)) = false := by simp
      clear hsc hl6 ha7
      have hle6 := E.get m1
      have hl06 := E.get m3
      go_wp2_with fail
      refine (sameRecs_any _ _ l _ _ _ hle6 hl06).mono ?_
      rintro e w7 ⟨rfl, hb7⟩
      replace E := E.step hb7
      obtain ⟨q0, f0, t0⟩ := E.rules m0
      obtain ⟨q1, f1, t1⟩ := E.rules m1
      clear hle6 hl06
      have z1 := Int.tmod_lt_of_pos cut (show (0 : Int) < (n : Int) by omega)
      have z2 := Int.lt_tmod_of_pos cut (show (0 : Int) < (n : Int) by omega)
      have n0 : (n : Int) ≠ 0 := by omega
      go_upto_region 12 with fail
      obtain ⟨ct, hct, hctn⟩ : ∃ ct : Nat, (cut.tmod (n : Int) + n) % n = (ct : Int) ∧ ct < n := ⟨((cut.tmod (n : Int) + n) % n).toNat, by have := Int.emod_nonneg (cut.tmod (n : Int) + n) n0; omega, by have := Int.emod_nonneg (cut.tmod (n : Int) + n) n0; have := Int.emod_lt_of_pos (cut.tmod (n : Int) + n) (show (0 : Int) < n by omega); omega⟩
      rw [hct]
      clear hct z1 z2
      have hnc := (IsB.open_ (E.get m2)).2.2.1
      rw [HN.out] at hnc
      have i1 : (ct : Int) ≤ (c3 : Int) := by omega
      have i2 : ct ≤ c3 := by omega
      have hpre := IsB.pre (E.get m2) (k := ct) (by rw [HN.out]; omega)
      have hsc := scan_any _ _ _ w7 hpre (by rw [List.length_take]; omega)
      obtain ⟨g, hg⟩ : ∃ g, scanL (b.take ct) = g := ⟨_, rfl⟩
      rw [hg] at hsc
      have HG := Lib.hid hg
      unfold fdC at hsc
      clear hg hpre
      go_wp2_with fail
      refine hsc.mono ?_
      rintro e w8 ⟨A8, c8, A9, c9, rfl, hl8, ha9, hb8⟩
      replace E := ((E.step hb8).give Stable.list hl8).push 51 #[.bool g.head, .int .i64 g.h.host, .int .i64 g.h.epoch, .int .i64 g.h.seq, .slice A8 g.l.length c8, .slice A9 g.at_.length c9, .int .i64 g.used]
      clear hsc hl8 ha9 q0 f0 t0 q1 f1 t1
      go_upto_region 13 with fail
      obtain ⟨w9, hw9⟩ : ∃ w9, w8.alloc (.cells #[.bool g.head, .int .i64 g.h.host, .int .i64 g.h.epoch, .int .i64 g.h.seq, .slice A8 g.l.length c8, .slice A9 g.at_.length c9, .int .i64 g.used] 51) = w9 := ⟨_, rfl⟩
      rw [hw9] at E ⊢
      have HW9 := Lib.hid hw9
      clear hw9
      go_wp2_with fail
      go_loopw [14] (fun i wr => ∃ k : Nat, i = .int .i64 k ∧ k ≤ ln ∧ (0 < k → e k ≤ ct) ∧ Below w9.heap.size w9 wr) (fun i _ => ln - (intOf i).toNat)
      case atStart => exact ⟨0, rfl, Nat.zero_le _, by omega, Below.refl _ _⟩
      case round =>
        obtain ⟨k, rfl, hk, hek, hbr⟩ := hrel
        replace E := E.step hbr
        obtain ⟨q0, f0, t0⟩ := E.rules m0
        obtain ⟨q1, f1, t1⟩ := E.rules m1
        go_upto_region 14 with fail
        go_cut [107] from 97 to 109 (fun s wx => ∃ B : Bool, s = .bool B ∧ (B = true → k < ln ∧ e (k + 1) ≤ ct) ∧ (B = false → k < ln → ct < e (k + 1)) ∧ Below wr.heap.size wr wx)
        case first =>
          by_cases hlt : k < ln
          · have hen := end_any ⟨true, h, l, ats, n⟩ (.slice A6 ln c6) A7 c7 k (fun k => w5.heap.size ≤ k) wr (by dsimp only; rw [HAT.out]; exact E.get m1) (by omega)
            have hE := HEND.out k hlt
            rw [HN.out] at hE
            rw [hE] at hen
            unfold fdC at hen
            dsimp only at hen
            rw [HAT.out] at hen
            clear hE
            have i3 : (k : Int) < (ln : Int) := by omega
            go_wp2_with fail
            refine hen.mono ?_
            rintro ex wA ⟨rfl, hbA⟩
            by_cases hle2 : e (k + 1) ≤ ct
            · have i4 : (e (k + 1) : Int) ≤ (ct : Int) := by omega
              go_wp2_with fail
              go_meet
              exact ⟨true, rfl, fun _ => ⟨hlt, hle2⟩, by simp, hbA⟩
            · have i4 : ¬ (e (k + 1) : Int) ≤ (ct : Int) := by omega
              go_wp2_with fail
              go_meet
              exact ⟨false, rfl, by simp, fun _ _ => by omega, hbA⟩
          · obtain rfl : k = ln := by omega
            go_wp2_with fail
            go_meet
            exact ⟨false, rfl, by simp, fun _ h => absurd h hlt, Below.refl _ _⟩
        case rest =>
          obtain ⟨B, rfl, hBt, hBf, hbc⟩ := hcut
          cases B with
          | true =>
            obtain ⟨hlt, hle2⟩ := hBt rfl
            go_wp2
            go_roundw
            case rel => exact ⟨k + 1, by go_num, hlt, fun _ => hle2, hbr.trans (hbc.mono hbr.size)⟩
            case measure => simp [intOf]; omega
          | false =>
            replace hBf := hBf rfl
            clear hBt
            replace E := E.step hbc
            obtain ⟨q0, f0, t0⟩ := E.rules m0
            obtain ⟨q1, f1, t1⟩ := E.rules m1
            go_upto_if 115 with fail
            go_cut [15] (fun s wx => s = .int .i64 u ∧ wx = wc)
            case first =>
              rcases Nat.eq_zero_or_pos ln with h0 | h0
              · have hnu := HNIL.out h0
                rw [HN.out] at hnu
                have d0 : ¬ (0 : Int) < (ln : Int) := by omega
                have d1 : ¬ 0 < ln := by omega
                have HNU := Lib.hid hnu
                clear hnu h0
                go_wp2_with fail
                go_meet
                exact ⟨by rw [HNU.out], rfl⟩
              · obtain ⟨ad, rfl, _, hc⟩ := int_at (E.get m1) (HFST.out h0)
                rw [addr0] at hc
                have d0 : (0 : Int) < (ln : Int) := by omega
                go_wp2_with fail
                go_meet
                exact ⟨rfl, rfl⟩
            case rest =>
              obtain ⟨rfl, rfl⟩ := hcut
              rcases Nat.lt_or_ge ct u with hcu | hcu
              · have hg := HG.out
                rw [HC0.out ct hcu] at hg
                subst hg
                have i5 : (ct : Int) < (u : Int) := by omega
                have hbf := E.below
                unfold f0d at q0
                simp only [List.length_nil] at q0
                clear E q1 f1 t1
                go_wp2
                go_ret
                exact ⟨rfl, hbf⟩
              · have hek2 : e k ≤ ct := by
                  rcases Nat.eq_zero_or_pos k with h0 | h0
                  · rw [h0, HE0.out]; exact hcu
                  · exact hek h0
                have hg := HG.out
                rw [HC1.out ct k hk hek2 hBf] at hg
                subst hg
                have i5 : ¬ (ct : Int) < (u : Int) := by omega
                have i6 : (e k : Int) ≤ (ct : Int) := by omega
                dsimp only at q0 E
                have hkk : (l.take k).length = k := by rw [List.length_take, HLN.out]; omega
                rw [hkk] at E q0
                have HKK := Lib.hid hkk
                clear hkk
                have i7 : (k : Int) ≤ (cl : Int) := by omega
                have i8 : k ≤ cl := by omega
                have hlv := E.get m0
                have hsr := fun W (hb : Below wc.heap.size wc W) => sameRecs_any (.slice A8 k c8) (.slice Al k cl) (l.take k) _ _ W ((E.step hb).get m0) (isL_pre ((E.step hb).get m4) hk)
                have HSR := Lib.hid hsr
                have HKC : Hid (∀ W, Below wc.heap.size wc W → ∀ o, W.cell? ⟨w8.heap.size, o, none⟩ = #[Value.bool true, .int .i64 h.host, .int .i64 h.epoch, .int .i64 h.seq, .slice A8 k c8, .slice A9 (at_ k).length c9, .int .i64 (e k)][o]?) := Lib.hid fun W hb => ((E.step hb).rules m0).1
                have hbE := E.below
                have hbd := (Below.refl wc.heap.size wc).drew
                clear hsr E q1 f1 t1 hlv
                go_upto_region 21 with fail
                go_cut [8] (fun s wx => s = .bool true ∧ Below wc.heap.size wc wx)
                case first =>
                  go_region_held3 (fun W : World => ∀ o, W.cell? ⟨w8.heap.size, o, none⟩ = #[Value.bool true, .int .i64 h.host, .int .i64 h.epoch, .int .i64 h.seq, .slice A8 k c8, .slice A9 (at_ k).length c9, .int .i64 (e k)][o]?)
                    (first | with_reducible exact HKC.out _ hbB | with_reducible exact HKC.out _ hbd)
                    (first
                      | (go_at_call 22; refine (HSR.out _ hbd).mono ?_; rintro ex wB ⟨rfl, hbB⟩; replace hbB := hbd.trans hbB))
                  go_wp2_with fail
                  go_meet
                  exact ⟨rfl, hbB⟩
                case rest =>
                  obtain ⟨rfl, hbx⟩ := hcut
                  have hbf := hbE.trans (hbx.mono hbE.size)
                  go_wp2
                  go_ret
                  exact ⟨rfl, hbf⟩
    · obtain ⟨er, hseg, her⟩ : ∃ er, segP h l = ([], er) ∧ er ≠ 0 := by
        unfold segP
        by_cases h1 : (headL h).2 = 0
        · rw [if_neg (by simp [h1]), if_pos (fun h2 => hgood ⟨h1, h2⟩)]
          exact ⟨_, rfl, fun h2 => hgood ⟨h1, h2⟩⟩
        · rw [if_pos h1]
          exact ⟨_, rfl, h1⟩
      rw [hseg] at hsg
      dsimp only [List.length_nil] at hsg
      have d1 : (er != 0) = true := by simp [her]
      have hbE := E.below
      clear hgood hseg
      go_wp2_with fail
      refine hsg.mono ?_
      rintro ex w3 ⟨A3, c3, rfl, _, hb3⟩
      have hbf := hbE.trans (hb3.mono hbE.size)
      go_wp2
      go_ret
      exact ⟨rfl, hbf⟩
end Go.Proofs.Ytpacjjaekmipfaa
