/- The walks of zns.Same and of what it calls. -/
import Derived.Test.YtcjmcfjjbicimaaZnsPlain2
import Derived.Deep.QuietTactic
import Derived.BigQuiet
import Derived.Deep.DeepCutAuto
import Derived.Deep.RegionHeld3
namespace Go.Proofs.Ytcjmcfjjbicimaa
open Go.RowKit

theorem u8_beq (x y : UInt8) : ((x.toNat : Int) == (y.toNat : Int)) = decide (x = y) := by
  rw [Bool.eq_iff_iff]
  simp only [beq_iff_eq, decide_eq_true_eq]
  constructor
  · intro h; exact UInt8.toNat_inj.1 (by omega)
  · rintro rfl; rfl

set_option maxRecDepth 100000 in
set_option maxHeartbeats 2000000 in
theorem equalB_any (va vb : Value) (a b : List UInt8) (K K' : Nat → Prop) (w : World) (ha : IsB w K va a) (hb : IsB w K' vb b) :
    Calls Try.prog 69 #[va, vb] w fun e w' => e = .returned (.bool (decide (a = b))) ∧ Below w.heap.size w w' := by
  obtain ⟨A, c, rfl, hr, hlc, hcc, hlen⟩ := ha
  obtain ⟨A2, c2, rfl, hr2, hlc2, hcc2, hlen2⟩ := hb
  obtain ⟨r, hrr⟩ : ∃ r, decide (a = b) = r := ⟨_, rfl⟩
  rw [hrr]
  have HR := Lib.hid hrr
  clear hrr
  by_cases hn : a.length = b.length
  · obtain ⟨n, hna⟩ : ∃ n, a.length = n := ⟨_, rfl⟩
    have hnb : b.length = n := by omega
    have HNA := Lib.hid hna; have HNB := Lib.hid hnb
    rw [hna] at hr hlc hlen ⊢
    rw [hnb] at hr2 hlc2 ⊢
    clear hna hnb hn hlen2
    go_enter Try.func69, Try.ntmps69
    go_wp2
    go_loopw [5, 13] (fun x i wr => ∃ j : Nat, i = .int .i64 j ∧ j ≤ n ∧ a.take j = b.take j ∧ Below w.heap.size w wr ∧ (∃ y, x = y)) (fun _ i _ => n - (intOf i).toNat)
    case atStart => exact ⟨0, rfl, Nat.zero_le _, rfl, Below.refl _ _, _, rfl⟩
    case round =>
      obtain ⟨j, rfl, hj, htk, hbw, y, rfl⟩ := hrel
      have HTK := Lib.hid htk
      clear htk
      by_cases hlt : j < n
      · obtain ⟨ad, u, rfl, _, hu, hcell⟩ := (hr.step hbw).at_ hlt
        obtain ⟨ad2, u2, rfl, _, hu2, hcell2⟩ := (hr2.step hbw).at_ hlt
        have hla : j < a.length := by rw [HNA.out]; exact hlt
        have hlb : j < b.length := by rw [HNB.out]; exact hlt
        have e1 : u = B8 a[j] := by
          unfold cells8 at hu
          rw [List.getElem?_map, List.getElem?_eq_getElem hla] at hu
          exact (Option.some.inj hu).symm
        have e2 : u2 = B8 b[j] := by
          unfold cells8 at hu2
          rw [List.getElem?_map, List.getElem?_eq_getElem hlb] at hu2
          exact (Option.some.inj hu2).symm
        subst e1 e2
        obtain ⟨x, hx⟩ : ∃ x, a[j] = x := ⟨_, rfl⟩
        obtain ⟨z, hz⟩ : ∃ z, b[j] = z := ⟨_, rfl⟩
        rw [hx] at hcell
        rw [hz] at hcell2
        have HX := Lib.hid hx; have HZ := Lib.hid hz
        clear hu hu2 hx hz
        unfold B8 at hcell hcell2
        have j1 : (j : Int) < (n : Int) := by omega
        have j0 : (0 : Int) ≤ (j : Int) := by omega
        by_cases he : x = z
        · have hq : ((x.toNat : Int) == (z.toNat : Int)) = true := by rw [u8_beq]; exact decide_eq_true he
          have HE := Lib.hid he
          clear he
          go_upto_region 6 with fail
          go_quiet (fail)
          go_wp2
          go_roundw
          case rel => exact ⟨j + 1, by go_num, by omega, by rw [List.take_succ_eq_append_getElem hla, List.take_succ_eq_append_getElem hlb, HTK.out, HX.out, HZ.out, HE.out], below_drewN hbw _, _, rfl⟩
          case measure => simp [intOf]; omega
        · have hq : ((x.toNat : Int) == (z.toNat : Int)) = false := by rw [u8_beq]; exact decide_eq_false he
          have HE := Lib.hid he
          clear he
          go_upto_region 6 with fail
          go_quiet (fail)
          go_wp2
          go_ret
          have hne : ¬ a = b := by
            intro h
            have hx := HX.out
            have hz := HZ.out
            subst h
            exact HE.out (hx.symm.trans hz)
          rw [← HR.out, decide_eq_false hne]
          exact ⟨rfl, below_drewN hbw _⟩
      · obtain rfl : j = n := by omega
        go_wp2
        go_ret
        have he : a = b := by
          have h := HTK.out
          rw [← HNA.out, List.take_length, HNA.out, ← HNB.out, List.take_length] at h
          exact h
        rw [← HR.out, decide_eq_true he]
        exact ⟨rfl, hbw⟩
  · have hrf : r = false := by rw [← HR.out]; exact decide_eq_false (fun h => hn (by rw [h]))
    subst hrf
    clear HR
    have hq : ((a.length : Int) == (b.length : Int)) = false := by simpa using fun h => hn (by omega)
    go_enter Try.func69, Try.ntmps69
    go_wp2
    go_ret
    exact ⟨rfl, Below.refl _ _⟩

set_option linter.unusedSimpArgs false in
set_option maxRecDepth 100000 in
set_option maxHeartbeats 2000000 in
theorem samef_any (a b : Zn) (A B : Option Addr) (c d : Nat) (K K' : Nat → Prop) (w : World) (ha : IsB w K (.slice A a.d.length c) a.d) (hb : IsB w K' (.slice B b.d.length d) b.d) :
    Calls Try.prog 68 #[.agg #[.int .i64 a.st, .int .i64 a.fe, .slice A a.d.length c], .agg #[.int .i64 b.st, .int .i64 b.fe, .slice B b.d.length d]] w fun e w' => e = .returned (.bool (sameZ a b)) ∧ Below w.heap.size w w' := by
  obtain ⟨r, hr⟩ : ∃ r, sameZ a b = r := ⟨_, rfl⟩
  rw [hr]
  have E := (((Kn.start w).give Stable.bytes ha).give Stable.bytes hb).push 26 #[.int .i64 a.st, .int .i64 a.fe, .slice A a.d.length c] |>.push 26 #[.int .i64 b.st, .int .i64 b.fe, .slice B b.d.length d]
  unfold sameZ at hr
  by_cases h1 : a.st = b.st
  · have e1 : (a.st == b.st) = true := by simpa using h1
    by_cases h2 : a.fe = b.fe
    · have e2 : (a.fe == b.fe) = true := by simpa using h2
      rw [e1, e2, Bool.true_and, Bool.true_and] at hr
      have hr2 : decide (a.d = b.d) = r := by rw [← hr, Bool.eq_iff_iff]; simp
      have HR := Lib.hid hr2
      clear hr hr2 h1 h2
      go_enter Try.func68, Try.ntmps68
      go_wp2_with (go_at_call 69; refine (equalB_any _ _ a.d b.d _ _ _ (E.get m1) (E.get m0)).mono ?_; rw [HR.out]; rintro e w2 ⟨rfl, hb2⟩)
      go_ret
      exact ⟨rfl, (E.step hb2).below⟩
    · have e2 : (a.fe == b.fe) = false := by simpa using h2
      rw [e1, e2] at hr
      have hrf : r = false := by rw [← hr]; rfl
      subst hrf
      clear hr h1 h2
      go_enter Try.func68, Try.ntmps68
      go_wp2
      go_ret
      exact ⟨rfl, E.below⟩
  · have e1 : (a.st == b.st) = false := by simpa using h1
    rw [e1] at hr
    have hrf : r = false := by rw [← hr]; rfl
    subst hrf
    clear hr h1
    go_enter Try.func68, Try.ntmps68
    go_wp2
    go_ret
    exact ⟨rfl, E.below⟩

def eqL (a b : List Zn) : Bool := a.length == b.length && (List.range a.length).all (fun i => sameZ (a.getD i z0) (b.getD i z0))
theorem eqL_iff {a b : List Zn} : eqL a b = true ↔ a = b := by
  unfold eqL
  simp only [Bool.and_eq_true, beq_iff_eq, List.all_eq_true, List.mem_range, sameZ_iff]
  constructor
  · rintro ⟨h4, h5⟩
    apply List.ext_getElem h4
    intro i hi hi'
    have := h5 i hi
    rw [List.getD_eq_getElem?_getD, List.getD_eq_getElem?_getD, List.getElem?_eq_getElem hi, List.getElem?_eq_getElem hi'] at this
    exact this
  · rintro rfl; simp
set_option linter.unusedSimpArgs false in
set_option maxRecDepth 100000 in
set_option maxHeartbeats 2000000 in
theorem eqf_any (va vb : Value) (a b : List Zn) (K K' : Nat → Prop) (w : World) (ha : IsL Rp.zone w K va a) (hb : IsL Rp.zone w K' vb b) :
    Calls Try.prog 67 #[va, vb, .func (.func 68) #[] #[]] w fun e w' => e = .returned (.bool (eqL a b)) ∧ Below w.heap.size w w' := by
  obtain ⟨r, hrr⟩ : ∃ r, eqL a b = r := ⟨_, rfl⟩
  rw [hrr]
  have HR := Lib.hid hrr
  clear hrr
  have ha0 := ha
  have hb0 := hb
  obtain ⟨A, c, rfl, hlc, hcc⟩ := ha.form
  obtain ⟨A2, c2, rfl, hlc2, hcc2⟩ := hb.form
  have hlen := ha.len
  clear ha hb
  by_cases hn : a.length = b.length
  · obtain ⟨n, hna⟩ : ∃ n, a.length = n := ⟨_, rfl⟩
    have hnb : b.length = n := by omega
    have HNA := Lib.hid hna; have HNB := Lib.hid hnb
    rw [hna] at ha0 hlc hlen ⊢
    rw [hnb] at hb0 hlc2 ⊢
    clear hna hnb hn
    have E := ((Kn.start w).give Stable.list ha0).give Stable.list hb0
    go_enter Try.func67, Try.ntmps67
    go_wp2
    go_loopw [7, 17] (fun x i wr => ∃ j : Nat, i = .int .i64 j ∧ j ≤ n ∧ a.take j = b.take j ∧ Below w.heap.size w wr ∧ (∃ y, x = y)) (fun _ i _ => n - (intOf i).toNat)
    case atStart => exact ⟨0, rfl, Nat.zero_le _, rfl, Below.refl _ _, _, rfl⟩
    case round =>
      obtain ⟨j, rfl, hj, htk, hbw, y, rfl⟩ := hrel
      have HTK := Lib.hid htk
      clear htk
      replace E := E.step hbw
      by_cases hlt : j < n
      · have hla : j < a.length := by rw [HNA.out]; exact hlt
        have hlb : j < b.length := by rw [HNB.out]; exact hlt
        obtain ⟨ad, B1, k1, rfl, had1, _, hB1, hc0, hc1, hc2⟩ := IsL.zone_at (E.get m1) (List.getElem?_eq_getElem hla)
        obtain ⟨ad2, B2, k2, rfl, had2, _, hB2, hd0, hd1, hd2⟩ := IsL.zone_at (E.get m0) (List.getElem?_eq_getElem hlb)
        obtain ⟨x, hx⟩ : ∃ x, a[j] = x := ⟨_, rfl⟩
        obtain ⟨z, hz⟩ : ∃ z, b[j] = z := ⟨_, rfl⟩
        rw [hx] at hB1 hc0 hc1 hc2
        rw [hz] at hB2 hd0 hd1 hd2
        have HX := Lib.hid hx; have HZ := Lib.hid hz
        clear hx hz
        replace E := (E.give Stable.bytes hB1).give Stable.bytes hB2
        clear hB1 hB2
        have j1 : (j : Int) < (n : Int) := by omega
        have j0 : (0 : Int) ≤ (j : Int) := by omega
        obtain ⟨q, hq⟩ : ∃ q, sameZ x z = q := ⟨_, rfl⟩
        have HQ := Lib.hid hq
        clear hq
        obtain ⟨g0, g1, g2⟩ : ZoneAt (wr.alloc (.cells #[.int .i64 x.st, .int .i64 x.fe, .slice B1 x.d.length k1] 26)) (ad2.add (j * 3)) z B2 k2 := ZoneAt.step ⟨hd0, hd1, hd2⟩ ((Below.refl _ _).alloc (Nat.le_refl _) _)
        go_upto_region 7 with fail
        have E2 := (E.push 26 #[.int .i64 x.st, .int .i64 x.fe, .slice B1 x.d.length k1]).push 26 #[.int .i64 z.st, .int .i64 z.fe, .slice B2 z.d.length k2]
        go_wp2_with fail
        refine (samef_any x z B1 B2 k1 k2 _ _ _ (E2.get m1) (E2.get m0)).mono ?_
        rw [HQ.out]
        rintro e w2 ⟨rfl, hb2⟩
        replace E := E2.step hb2
        clear E2
        cases q with
        | true =>
          have he := sameZ_iff.1 HQ.out
          have HE := Lib.hid he
          clear he
          go_wp2
          go_roundw
          case rel => exact ⟨j + 1, by go_num, by omega, by rw [List.take_succ_eq_append_getElem hla, List.take_succ_eq_append_getElem hlb, HTK.out, HX.out, HZ.out, HE.out], E.below, _, rfl⟩
          case measure => simp [intOf]; omega
        | false =>
          go_wp2
          go_ret
          have hne : ¬ eqL a b = true := by
            intro h
            have h := eqL_iff.1 h
            have hx := HX.out
            have hz := HZ.out
            subst h
            have := sameZ_iff.2 (hx.symm.trans hz)
            rw [HQ.out] at this; cases this
          rw [← HR.out, Bool.eq_false_iff.2 hne]
          exact ⟨rfl, E.below⟩
      · obtain rfl : j = n := by omega
        go_wp2
        go_ret
        have he : a = b := by
          have h := HTK.out
          rw [← HNA.out, List.take_length, HNA.out, ← HNB.out, List.take_length] at h
          exact h
        rw [← HR.out, eqL_iff.2 he]
        exact ⟨rfl, hbw⟩
  · have hrf : r = false := by rw [← HR.out]; exact Bool.eq_false_iff.2 (fun h => hn (by rw [eqL_iff.1 h]))
    subst hrf
    clear HR
    have hq : ((a.length : Int) == (b.length : Int)) = false := by simpa using fun h => hn (by omega)
    go_enter Try.func67, Try.ntmps67
    go_wp2
    go_ret
    exact ⟨rfl, Below.refl _ _⟩

set_option linter.unusedSimpArgs false in
set_option maxRecDepth 100000 in
set_option maxHeartbeats 2000000 in
theorem same05_any (a b : Zd) (va vb : Value) (w : World) (ha : IsD w va a) (hb : IsD w vb b) :
    Calls Try.prog 44 #[va, vb] w fun e w' => e = .returned (.bool (sameD a b)) ∧ Below w.heap.size w w' := by
  obtain ⟨A, c, rfl, hL⟩ := ha
  obtain ⟨A2, c2, rfl, hL2⟩ := hb
  obtain ⟨r, hr⟩ : ∃ r, sameD a b = r := ⟨_, rfl⟩
  rw [hr]
  have HR := Lib.hid hr
  clear hr
  have E := (((Kn.start w).give Stable.list hL).give Stable.list hL2).push 53 #[.int .i64 a.cap, .int .i64 a.opn, .int .i64 a.act, .slice A a.z.length c] |>.push 53 #[.int .i64 b.cap, .int .i64 b.opn, .int .i64 b.act, .slice A2 b.z.length c2]
  clear hL hL2
  by_cases h : a.cap = b.cap ∧ a.opn = b.opn ∧ a.act = b.act
  · obtain ⟨h1, h2, h3⟩ := h
    have e1 : (a.cap == b.cap) = true := by simpa using h1
    have e2 : (a.opn == b.opn) = true := by simpa using h2
    have e3 : (a.act == b.act) = true := by simpa using h3
    have hr2 : eqL a.z b.z = r := by
      rw [← HR.out, Bool.eq_iff_iff, sameD_iff, eqL_iff]
      obtain ⟨a1, a2, a3, az⟩ := a
      obtain ⟨b1, b2, b3, bz⟩ := b
      simp only at h1 h2 h3
      subst h1 h2 h3
      simp
    have HR2 := Lib.hid hr2
    clear hr2 h1 h2 h3
    go_enter Try.func44, Try.ntmps44
    go_wp2_with (go_at_call 67; refine (eqf_any _ _ a.z b.z _ _ _ (E.get m1) (E.get m0)).mono ?_; rw [HR2.out]; rintro e w2 ⟨rfl, hb2⟩)
    go_ret
    exact ⟨rfl, (E.step hb2).below⟩
  · have hrf : r = false := by
      rw [← HR.out]
      refine Bool.eq_false_iff.2 (fun hh => h ?_)
      have := sameD_iff.1 hh
      subst this
      exact ⟨rfl, rfl, rfl⟩
    subst hrf
    have hb : (a.cap == b.cap) = false ∨ ((a.cap == b.cap) = true ∧ (a.opn == b.opn) = false) ∨ ((a.cap == b.cap) = true ∧ (a.opn == b.opn) = true ∧ (a.act == b.act) = false) := by
      simp
      omega
    clear h HR
    rcases hb with h | ⟨h, h'⟩ | ⟨h, h', h''⟩
    all_goals
      go_enter Try.func44, Try.ntmps44
      go_wp2
      go_ret
      exact ⟨rfl, E.below⟩
end Go.Proofs.Ytcjmcfjjbicimaa
