/- The walk of SegTurned. -/
import Derived.Test.YtpacjjaekmipfaaSegEnd
import Derived.Test.YtpacjjaekmipfaaLive03
import Derived.Test.YtpacjjaekmipfaaSameSeg
import Derived.Laws.BitsAllLaws
import Derived.Deep.DeepCutAuto
import Derived.Deep.RegionWith
namespace Go.Proofs.Ytpacjjaekmipfaa
open Go.RowKit

theorem isL_preT {α : Type} {R : Rp α} {w : World} {K : Nat → Prop} {A : Option Addr} {n c : Nat} {l : List α} (h : IsL R w K (.slice A n c) l) {k : Nat} (hk : k ≤ n) : IsL R w K (.slice A k c) (l.take k) := by
  obtain ⟨rfl, ⟨cs, h1, h2⟩, h3, h4, h5⟩ := h.open_
  have e : (l.take k).length = k := by rw [List.length_take]; omega
  refine ⟨A, c, cs.take (k * R.size), by rw [e], by rw [e]; exact h1.pre hk, h2.take k, by omega, h4, by omega⟩

/-- a byte of the call's own is written -/
theorem own_setAt {w : World} {base g n c : Nat} {e : TypeId} {xs : List Value} (h : w.ownsRow base e 1 (.slice (some ⟨g, 0, none⟩) n c) n xs) (i : Nat) (u : Value) :
    (w.setCell ⟨g, i, none⟩ u).ownsRow base e 1 (.slice (some ⟨g, 0, none⟩) n c) n (xs.set i u) := by
  obtain ⟨hl, h2⟩ := h
  rcases h2 with ⟨h3, _⟩ | ⟨g', cap, cur, hv, hb, hg, hnc, hcm, hcs, ht⟩
  · cases h3
  · cases hv
    refine ⟨by simpa using hl, .inr ⟨g, c, _, rfl, hb, heap_setCell_same w g i cur e u hg, hnc, hcm, by simpa using hcs, ?_⟩⟩
    rw [← ht, Array.toList_setIfInBounds, List.take_set]
theorem own_at {w : World} {base g n c : Nat} {e : TypeId} {xs : List Value} (h : w.ownsRow base e 1 (.slice (some ⟨g, 0, none⟩) n c) n xs) :
    base ≤ g ∧ g < w.heap.size ∧ (∀ o, w.frozen? ⟨g, o, none⟩ = false) ∧ ∀ (i : Nat) u, xs[i]? = some u → w.cell? ⟨g, i, none⟩ = some u := by
  have h0 := h
  obtain ⟨hl, h2⟩ := h
  rcases h2 with ⟨h3, _⟩ | ⟨g', cap, cur, hv, hb, hg, hnc, hcm, hcs, ht⟩
  · cases h3
  · cases hv
    have hB : Blk w g e cur := hg
    refine ⟨hb, hB.lt, hB.frozen, fun i u hu => ?_⟩
    rw [hB.cell i]
    rw [← ht, List.getElem?_take] at hu
    split at hu
    · simpa using hu
    · cases hu

theorem turned_facts {h : Hd} {l : List Rc} (hh : OkHd h) (hhe : (headL h).2 = 0) (hle : errL l = 0) (hok : ∀ r ∈ l, OkRc r) (h5000 : l.length ≤ 5000) {ln : Nat} (hln : l.length = ln) :
    ∃ (b : List UInt8) (ats : List Int) (e : Nat → Nat) (at_ : Nat → List Int) (m : Nat → Nat), segP h l = (b, 0) ∧ b.length ≤ 300000000 ∧ ats.length = ln ∧
      scanL b = ⟨true, h, l, ats, b.length⟩ ∧ (∀ k, k < ln → endF ⟨true, h, l, ats, b.length⟩ k = (e (k + 1) : Int) ∧ e (k + 1) ≤ b.length ∧ ats[k]? = some (e k : Int) ∧ 1 ≤ m k ∧ e k + m k < e (k + 1) ∧
        (∀ i, i < m k → ∃ c, b[e k + i]? = some c ∧ (i + 1 < m k ↔ 128 ≤ c.toNat)) ∧
        (∀ i a c, e k + m k ≤ i → i < e (k + 1) → b[i]? = some a → a ≠ c → scanL (b.set i c) = ⟨true, h, l.take k, at_ k, e k⟩)) := by
  subst hln
  have h6 := headL_le h
  have h7 := frs_len hok
  refine ⟨(headL h).1 ++ frsL l, atsL (headL h).1.length l, fun k => (headL h).1.length + (frsL (l.take k)).length, fun k => atsL (headL h).1.length (l.take k), fun k => (putL (bodyR (l.getD k r0c)).length).length, ?_, by rw [List.length_append]; omega, atsL_len _ _, ?_, ?_⟩
  · unfold segP; rw [if_neg (by simp [hhe]), if_neg (by simp [hle])]
  · have := scan_back2 (rest := List.replicate 0 0) hh hhe hle hok (zeros_no 0)
    rw [List.length_append]
    simpa using this
  · intro k hk
    have hkr : l[k]? = some l[k] := List.getElem?_eq_getElem hk
    have hgd : l.getD k r0c = l[k] := by rw [List.getD_eq_getElem?_getD, hkr]; rfl
    obtain ⟨e1, e2, e3⟩ := seg_split (h := h) hle hok hkr
    have hpos := putL_pos (bodyR l[k]).length
    have hfl : (frsL (l.take (k + 1))).length ≤ (frsL l).length := by
      have : frsL l = frsL (l.take (k + 1)) ++ frsL (l.drop (k + 1)) := by rw [← frsL_append, List.take_append_drop]
      rw [this, List.length_append]; omega
    dsimp only
    rw [hgd, List.length_append]
    refine ⟨endF_is hk, by omega, atsL_at _ _ hk, hpos, by omega, ?_, ?_⟩
    · intro i hi
      obtain ⟨c, c1, c2⟩ := putL_hi (bodyR l[k]).length i hi
      refine ⟨c, ?_, c2⟩
      rw [e1, ← List.length_append, List.getElem?_append_right (by omega), Nat.add_sub_cancel_left, List.append_assoc, List.getElem?_append_left hi]
      exact c1
    · intro i a c h1 h2 h3 h4
      exact scan_turned hh hhe hle hok hkr h4 h1 h2 h3

set_option maxRecDepth 100000 in
set_option maxHeartbeats 8000000 in
theorem segTurned_any (h : Hd) (lv : Value) (l : List Rc) (k0 at0 : Int) (by0 : UInt8) (K : Nat → Prop) (w : World) (hh : OkHd h) (hl : IsL Rp.rc w K lv l) (hll : l.length ≤ 1048576) :
    Calls Try.prog 6 #[hdV h, lv, .int .i64 k0, .int .i64 at0, .int .u8 (by0.toNat : Int)] w fun e w' => e = .returned (.bool true) ∧ Below w.heap.size w w' := by
  have hl0 := hl.ltRc
  obtain ⟨Al, cl, rfl, hlc, hlc2⟩ := hl.form
  have hok := isL_ok hl
  obtain ⟨ln, hln⟩ : ∃ ln, l.length = ln := ⟨_, rfl⟩
  rw [hln] at hl0 hlc ⊢
  obtain ⟨i0, hi, hz0, hz1, hz2⟩ := info_parts Try.info5
  have E := ((Kn.start w).give Stable.list hl0).push 23 #[.int .i64 h.host, .int .i64 h.epoch, .int .i64 h.seq]
  clear hl
  unfold hdV
  have hbyl := by0.toNat_lt
  obtain ⟨y, hy⟩ : ∃ y, by0.toNat = y := ⟨_, rfl⟩
  rw [hy] at hbyl ⊢
  go_enter Try.func6, Try.ntmps6
  go_wp2_with fail
  refine (live03_any _).mono ?_
  rintro e w1 ⟨rfl, hb1⟩
  replace E := E.step hb1
  go_wp2_with fail
  refine (bigR_any 100000 _ l _ _ (E.get m0)).mono ?_
  rintro e w2 ⟨rfl, hb2⟩
  replace E := E.step hb2
  obtain ⟨q0, f0, t0⟩ := E.rules m0
  have hbE := E.below
  cases hbig : bigR 100000 l with
  | true =>
    go_wp2
    go_ret
    exact ⟨rfl, hbE⟩
  | false =>
    by_cases hl00 : ln = 0
    · have d0 : ((ln : Int) == 0) = true := by simp [hl00]
      clear hl00
      go_wp2
      go_ret
      exact ⟨rfl, hbE⟩
    have d0 : ((ln : Int) == 0) = false := by simp; omega
    by_cases hy0 : y = 0
    · have d1 : ((y : Int) == 0) = true := by simp [hy0]
      clear hy0
      go_wp2
      go_ret
      exact ⟨rfl, hbE⟩
    have d1 : ((y : Int) == 0) = false := by simp; omega
    have hsg := seg_any h (.slice Al ln cl) l _ w2 hh (E.get m0) (by omega)
    unfold hdV at hsg
    by_cases hgood : (headL h).2 = 0 ∧ errL l = 0
    · obtain ⟨hhe, hle⟩ := hgood
      have hlen5 := big_len hbig hle hll
      rw [hln] at hlen5
      obtain ⟨b, ats, e, at_, m, hseg, hbn, hatl, hscan, hrest⟩ := turned_facts hh hhe hle hok (by omega) hln
      rw [hseg] at hsg
      dsimp only at hsg
      have HLN := Lib.hid hln
      have HSC := Lib.hid hscan; have HR := Lib.hid hrest; have HAT := Lib.hid hatl
      obtain ⟨n, hn⟩ : ∃ n, b.length = n := ⟨_, rfl⟩
      have HN := Lib.hid hn
      rw [hn] at hsg hbn
      clear hhe hle hseg hok hbig hll hscan hrest hatl hn hln
      go_wp2_with fail
      refine hsg.mono ?_
      rintro ex w3 ⟨A3, c3, rfl, own3, hb3⟩
      replace E := E.step hb3
      have hB3 : IsB w3 (fun k => w2.heap.size ≤ k) (.slice A3 n c3) b := by
        have := HN.out
        rw [← this] at own3 ⊢
        exact IsB.of_own own3 (by omega)
      replace E := E.give Stable.bytes hB3
      clear own3 hsg
      have hsc := scan_any _ _ _ w3 hB3 (by rw [HN.out]; omega)
      rw [HSC.out, HN.out] at hsc
      unfold fdC at hsc
      dsimp only at hsc
      rw [HAT.out, HLN.out] at hsc
      go_wp2_with fail
      refine hsc.mono ?_
      rintro ex w4 ⟨A6, c6, A7, c7, rfl, hl6, ha7, hb4⟩
      replace E := (E.step hb4).push 51 #[.bool true, .int .i64 h.host, .int .i64 h.epoch, .int .i64 h.seq, .slice A6 ln c6, .slice A7 ln c7, .int .i64 n]
      replace E := E.give Stable.list (ha7.alloc _)
      clear hsc hl6 ha7 q0 f0 t0 hB3
      have dll : ((ln : Int) != (ln : Int)) = false := by simp
      have z1 := Int.tmod_lt_of_pos k0 (show (0 : Int) < (ln : Int) by omega)
      have z2 := Int.lt_tmod_of_pos k0 (show (0 : Int) < (ln : Int) by omega)
      have n0 : (ln : Int) ≠ 0 := by omega
      go_upto_region 8 with fail
      obtain ⟨w5, hw5⟩ : ∃ w5, w4.alloc (.cells #[.bool true, .int .i64 h.host, .int .i64 h.epoch, .int .i64 h.seq, .slice A6 ln c6, .slice A7 ln c7, .int .i64 n] 51) = w5 := ⟨_, rfl⟩
      rw [hw5] at E ⊢
      clear hw5
      obtain ⟨q0, f0, t0⟩ := E.rules m0
      go_upto_region 11 with fail
      obtain ⟨k, hk, hkl⟩ : ∃ k : Nat, (k0.tmod (ln : Int) + ln) % ln = (k : Int) ∧ k < ln := ⟨((k0.tmod (ln : Int) + ln) % ln).toNat, by have := Int.emod_nonneg (k0.tmod (ln : Int) + ln) n0; omega, by have := Int.emod_nonneg (k0.tmod (ln : Int) + ln) n0; have := Int.emod_lt_of_pos (k0.tmod (ln : Int) + ln) (show (0 : Int) < ln by omega); omega⟩
      rw [hk]
      clear hk z1 z2 n0
      obtain ⟨hend, htn, hatk, hm1, hmt, hbytes, htu⟩ := HR.out k hkl
      rw [HN.out] at hend htn
      generalize e k = ek at hatk hmt hbytes htu
      generalize m k = mk at hm1 hmt hbytes htu
      generalize e (k + 1) = t at hend htn hmt htu
      have HBY := Lib.hid hbytes; have HTU := Lib.hid htu; have HEND := Lib.hid hend
      obtain ⟨ad, rfl, _, hc⟩ := int_at (E.get m0) hatk
      have HATK := Lib.hid hatk
      have k1 : (k : Int) < (ln : Int) := by omega
      clear hbytes htu hend hatk HR
      go_wp2_with fail
      go_loopw [15] (fun v wr => ∃ i : Nat, v = .int .i64 ((ek + i : Nat) : Int) ∧ i < mk ∧ Below w5.heap.size w5 wr) (fun v _ => ek + mk - (intOf v).toNat)
      case atStart => exact ⟨0, rfl, by omega, Below.refl _ _⟩
      case round =>
        obtain ⟨i, rfl, him, hbr⟩ := hrel
        replace E := E.step hbr
        obtain ⟨c, hc1, hc2⟩ := HBY.out i him
        have HI := Lib.hid hc2
        obtain ⟨P, hP⟩ : ∃ P, ek + i = P := ⟨_, rfl⟩
        rw [hP] at hc1 ⊢
        have hPn : P < n := by omega
        have hr := (IsB.open_ (E.get m1)).2.1
        rw [HN.out] at hr
        obtain ⟨a3, x, rfl, _, hx, hcx⟩ := hr.at_ hPn
        simp only [cells8, List.getElem?_map, hc1, Option.map_some, Option.some.injEq] at hx
        subst hx
        unfold B8 at hcx
        have hcl := c.toNat_lt
        obtain ⟨cn, hcn⟩ : ∃ cn, c.toNat = cn := ⟨_, rfl⟩
        rw [hcn] at hcx hcl hc2
        have p1 : (P : Int) < (n : Int) := by omega
        have HP := Lib.hid hP; have HC1 := Lib.hid hc1
        clear hP hc1 hr hcn
        by_cases hlt : i + 1 < mk
        · have c8 : (128 : Int) ≤ (cn : Int) := by have := hc2.1 hlt; omega
          clear hc2
          go_wp2
          go_roundw
          case rel => exact ⟨i + 1, by have := HP.out; go_num, hlt, hbr⟩
          case measure => have := HP.out; simp [intOf]; omega
        · have c8 : ¬ (128 : Int) ≤ (cn : Int) := fun h => hlt (hc2.2 (by omega))
          clear hc2
          go_upto_region 14 with fail
          obtain ⟨F, hF⟩ : ∃ F, P + 1 = F := ⟨_, rfl⟩
          obtain ⟨D, hD⟩ : ∃ D, t = F + D := ⟨t - F, by have := HP.out; omega⟩
          have hFm : F = ek + mk := by have := HP.out; omega
          have HFM := Lib.hid hFm
          have hPF : (P : Int) + 1 = (F : Int) := by omega
          have hTF : (t : Int) - (F : Int) = (D : Int) := by omega
          have hD1 : 1 ≤ D := by omega
          have g1 : ¬ (t : Int) ≤ (F : Int) := by omega
          have g2 : ¬ (n : Int) < (t : Int) := by omega
          have HD := Lib.hid hD
          clear hF hD hFm
          have hen := end_any ⟨true, h, l, ats, n⟩ (.slice A6 ln c6) (some ad) c7 k (fun k => w3.heap.size ≤ k) wr (by dsimp only; rw [HAT.out]; exact E.get m0) (by omega)
          rw [HEND.out] at hen
          unfold fdC at hen
          dsimp only at hen
          rw [HAT.out] at hen
          obtain ⟨q0, f0, t0⟩ := E.rules m0
          go_wp2_with fail
          refine hen.mono ?_
          rintro ex w6 ⟨rfl, hb6⟩
          replace E := E.step hb6
          clear hen
          have z1 := Int.tmod_lt_of_pos at0 (show (0 : Int) < (D : Int) by omega)
          have z2 := Int.lt_tmod_of_pos at0 (show (0 : Int) < (D : Int) by omega)
          have n0 : (D : Int) ≠ 0 := by omega
          go_upto_region 19 with fail
          obtain ⟨p, hp, hpF, hpt⟩ : ∃ p : Nat, wrap64 ((F : Int) + at0.tmod (D : Int) % (D : Int)) = (p : Int) ∧ F ≤ p ∧ p < t := by
            have h1 := Int.emod_nonneg (at0.tmod (D : Int)) n0
            have h2 := Int.emod_lt_of_pos (at0.tmod (D : Int)) (show (0 : Int) < D by omega)
            have h3 := HD.out
            refine ⟨(wrap64 ((F : Int) + at0.tmod (D : Int) % (D : Int))).toNat, ?_, ?_, ?_⟩ <;> (unfold wrap64; omega)
          rw [hp]
          have HPF := Lib.hid hpF
          clear hp z1 z2 n0 g1 g2 hPF hTF
          have hrb := (IsB.open_ (E.get m1)).2.1
          rw [HN.out] at hrb
          have hpn : p < n := by omega
          go_upto_region 20 with (at_builtin; refine wpList_appN rfl (.const (.slice none 0 0)) (.tmp 106) _ rfl w6.heap.size 5 i0 _ 1 1 Try.underlying27 hi hz0 hz1 hz2 rfl (by omega) rfl (World.ownsRow_nil _ _ _ _) rfl hrb (cells8_one _) (by simp only [maxLen]; omega) (by omega) (Nat.le_refl _) ?_; intro A8 c8 w7 own7 hg7; have hb7 := hg7.below; simp only [Nat.zero_add, List.nil_append] at own7)
          obtain ⟨g, cap, hv8, _, _⟩ := own7.form (by omega)
          obtain rfl : A8 = some ⟨g, 0, none⟩ := by injection hv8
          obtain ⟨hg6, hgl, hfz, hcs⟩ := own_at own7
          obtain ⟨cb, hcb⟩ : ∃ cb, b[p]? = some cb := ⟨b[p]'(by have := HN.out; omega), List.getElem?_eq_getElem _⟩
          have hc8 := hcs p (.int .u8 (cb.toNat : Int)) (by simp only [cells8, List.getElem?_map, hcb, Option.map_some]; rfl)
          have hx8 := u8_xor_nat cb.toNat y cb.toNat_lt hbyl
          obtain ⟨cc, hcc⟩ : ∃ cc : UInt8, cc = cb ^^^ by0 := ⟨_, rfl⟩
          have hcv : cb.toNat ^^^ y = cc.toNat := by rw [hcc, UInt8.toNat_xor, hy]
          rw [hcv] at hx8
          have hcne : cb ≠ cc := by
            intro e
            rw [hcc] at e
            have h2 := congrArg UInt8.toNat e
            rw [UInt8.toNat_xor, hy] at h2
            exact hy0 (xor_left (h2.symm.trans (Nat.xor_zero _).symm))
          have own8 := own_setAt own7 p (.int .u8 (cc.toNat : Int))
          have hset : (cells8 b).set p (.int .u8 (cc.toNat : Int)) = cells8 (b.set p cc) := by simp only [cells8, List.map_set]; rfl
          rw [hset] at own8
          have hcl8 := cc.toNat_lt
          obtain ⟨cv, hcv8⟩ : ∃ cv, cc.toNat = cv := ⟨_, rfl⟩
          obtain ⟨cu, hcu8⟩ : ∃ cu, cb.toNat = cu := ⟨_, rfl⟩
          rw [hcv8] at own8 hx8 hcl8
          rw [hcu8] at hc8 hx8
          have hb8 := hb7.setCell hg6 (p := ⟨g, p, none⟩) (.int .u8 (cv : Int))
          have hcap8 := own_cap own7
          have pn : (p : Int) < (n : Int) := by omega
          have hfz8 := hfz p
          clear hset hcc hcv hcv8 hcu8 hcs hfz hg7 own7 hrb
          go_upto_region 21 with fail
          obtain ⟨w8, hw8⟩ : ∃ w8, w7.setCell ⟨g, p, none⟩ (.int .u8 (cv : Int)) = w8 := ⟨_, rfl⟩
          rw [hw8] at own8 hb8 ⊢
          replace E := E.step hb8
          have hBc : IsB w8 (fun k => w6.heap.size ≤ k) (.slice (some ⟨g, 0, none⟩) n c8) (b.set p cc) := by
            have e1 : (b.set p cc).length = n := by rw [List.length_set, HN.out]
            rw [← e1] at own8
            have := IsB.of_own own8 (by omega)
            rwa [e1] at this
          have hsc := scan_any _ _ _ w8 hBc (by rw [List.length_set, HN.out]; omega)
          rw [HTU.out p cb cc (by have := HFM.out; have := HPF.out; omega) hpt hcb hcne] at hsc
          unfold fdC at hsc
          dsimp only at hsc
          have hkk : (l.take k).length = k := by rw [List.length_take, HLN.out]; omega
          rw [hkk] at hsc
          have HKK := Lib.hid hkk
          clear hkk hBc own8 hb8 hw8 hx8 hc8 hfz8 hcb hcne hb7 hy hgl pn hpt q0 f0 t0
          have i7 : (k : Int) ≤ (cl : Int) := by omega
          have i8 : k ≤ cl := by omega
          go_wp2_with fail
          refine hsc.mono ?_
          rintro ex w9 ⟨A9, c9, Aa, ca, rfl, hl9, ha9, hb9⟩
          replace E := ((E.step hb9).give Stable.list hl9).push 51 #[.bool true, .int .i64 h.host, .int .i64 h.epoch, .int .i64 h.seq, .slice A9 k c9, .slice Aa (at_ k).length ca, .int .i64 ek]
          go_upto_region 22 with fail
          obtain ⟨wa, hwa⟩ : ∃ wa, w9.alloc (.cells #[.bool true, .int .i64 h.host, .int .i64 h.epoch, .int .i64 h.seq, .slice A9 k c9, .slice Aa (at_ k).length ca, .int .i64 ek] 51) = wa := ⟨_, rfl⟩
          rw [hwa] at E ⊢
          clear hwa hsc hl9 ha9
          have hsr := fun W (hb : Below wa.heap.size wa W) => sameRecs_any (.slice A9 k c9) (.slice Al k cl) (l.take k) _ _ W ((E.step hb).get m0) (isL_preT ((E.step hb).get m3) (by omega))
          have HSR := Lib.hid hsr
          have HKC : Hid (∀ W, Below wa.heap.size wa W → (∀ o, W.cell? ⟨w9.heap.size, o, none⟩ = #[Value.bool true, .int .i64 h.host, .int .i64 h.epoch, .int .i64 h.seq, .slice A9 k c9, .slice Aa (at_ k).length ca, .int .i64 ek][o]?) ∧
              (∀ o, W.cell? ⟨w4.heap.size, o, none⟩ = #[Value.bool true, .int .i64 h.host, .int .i64 h.epoch, .int .i64 h.seq, .slice A6 ln c6, .slice (some ad) ln c7, .int .i64 n][o]?) ∧ (∀ o, W.cell? ⟨w.heap.size, o, none⟩ = #[Value.int .i64 h.host, .int .i64 h.epoch, .int .i64 h.seq][o]?) ∧ W.cell? (ad.add k) = some (.int .i64 ek)) := Lib.hid fun W hb => by
            refine ⟨((E.step hb).rules m0).1, ((E.step hb).rules m1).1, ((E.step hb).rules m2).1, ?_⟩
            obtain ⟨ad', e1, _, e2⟩ := int_at ((E.step hb).get m1) HATK.out
            injection e1 with e1
            rw [e1]; exact e2
          have hbF := E.below
          have hbd := (Below.refl wa.heap.size wa).drew
          clear hsr E hc
          go_cut [10] (fun s wx => s = .bool true ∧ Below wa.heap.size wa wx)
          case first =>
            go_region_held3 (fun W : World => (∀ o, W.cell? ⟨w9.heap.size, o, none⟩ = #[Value.bool true, .int .i64 h.host, .int .i64 h.epoch, .int .i64 h.seq, .slice A9 k c9, .slice Aa (at_ k).length ca, .int .i64 ek][o]?) ∧
              (∀ o, W.cell? ⟨w4.heap.size, o, none⟩ = #[Value.bool true, .int .i64 h.host, .int .i64 h.epoch, .int .i64 h.seq, .slice A6 ln c6, .slice (some ad) ln c7, .int .i64 n][o]?) ∧ (∀ o, W.cell? ⟨w.heap.size, o, none⟩ = #[Value.int .i64 h.host, .int .i64 h.epoch, .int .i64 h.seq][o]?) ∧ W.cell? (ad.add k) = some (.int .i64 ek))
              (first | with_reducible exact HKC.out _ hbB | with_reducible exact HKC.out _ hbd)
              (first
                | (go_at_call 22; refine (HSR.out _ hbd).mono ?_; rintro ex wB ⟨rfl, hbB⟩; replace hbB := hbd.trans hbB))
            go_wp2_with fail
            go_meet
            exact ⟨rfl, hbB⟩
          case rest =>
            obtain ⟨rfl, hbx⟩ := hcut
            have hbf := hbF.trans (hbx.mono hbF.size)
            go_wp2
            go_ret
            exact ⟨rfl, hbf⟩
    · obtain ⟨er, hseg, her⟩ : ∃ er, segP h l = ([], er) ∧ er ≠ 0 := by
        unfold segP
        by_cases h1 : (headL h).2 = 0
        · rw [if_neg (by simp [h1]), if_pos (fun h2 => hgood ⟨h1, h2⟩)]
          exact ⟨_, rfl, fun h2 => hgood ⟨h1, h2⟩⟩
        · rw [if_pos h1]
          exact ⟨_, rfl, h1⟩
      rw [hseg] at hsg
      dsimp only [List.length_nil] at hsg
      have d2 : (er != 0) = true := by simp [her]
      clear hgood hseg
      go_wp2_with fail
      refine hsg.mono ?_
      rintro ex w3 ⟨A3, c3, rfl, _, hb3⟩
      have hbf := hbE.trans (hb3.mono hbE.size)
      go_wp2
      go_ret
      exact ⟨rfl, hbf⟩
end Go.Proofs.Ytpacjjaekmipfaa
