/- The walks of quicksetref05.Same and SameDone. -/
import Derived.Test.YtcjmcfjjbicimaaZnsSame
namespace Go.Proofs.Ytcjmcfjjbicimaa
open Go.RowKit

set_option linter.unusedSimpArgs false in
set_option maxRecDepth 100000 in
set_option maxHeartbeats 4000000 in
theorem refSame05_any (a b : Zd) (va vb : Value) (w : World) (ha : IsD w va a) (hb : IsD w vb b) :
    Calls Try.prog 37 #[va, vb] w fun e w' => e = .returned (.bool (sameD a b)) ∧ Below w.heap.size w w' := by
  obtain ⟨A, c, rfl, hL⟩ := ha
  obtain ⟨A2, c2, rfl, hL2⟩ := hb
  obtain ⟨r, hr⟩ : ∃ r, sameD a b = r := ⟨_, rfl⟩
  rw [hr]
  have HR := Lib.hid hr
  clear hr
  obtain ⟨_, _, hlc, hcc, hlen⟩ := hL.open_
  obtain ⟨_, _, hlc2, hcc2, hlen2⟩ := hL2.open_
  have E := (((Kn.start w).give Stable.list hL).give Stable.list hL2).push 53 #[.int .i64 a.cap, .int .i64 a.opn, .int .i64 a.act, .slice A a.z.length c] |>.push 53 #[.int .i64 b.cap, .int .i64 b.opn, .int .i64 b.act, .slice A2 b.z.length c2]
  rw [World.size_alloc] at E
  clear hL hL2
  go_enter Try.func37, Try.ntmps37
  go_upto_region 1 with fail
  obtain ⟨wA, hwA⟩ : ∃ wA, (w.alloc (.cells #[.int .i64 a.cap, .int .i64 a.opn, .int .i64 a.act, .slice A a.z.length c] 53)).alloc (.cells #[.int .i64 b.cap, .int .i64 b.opn, .int .i64 b.act, .slice A2 b.z.length c2] 53) = wA := ⟨_, rfl⟩
  rw [hwA] at E ⊢
  clear hwA
  obtain ⟨q0, f0, t0⟩ := E.rules m0
  obtain ⟨q1, f1, t1⟩ := E.rules m1
  obtain ⟨x, hx⟩ : ∃ x : Bool, decide (¬ (a.cap = b.cap ∧ a.opn = b.opn ∧ a.act = b.act ∧ a.z.length = b.z.length)) = x := ⟨_, rfl⟩
  have HX := Lib.hid hx
  clear hx
  go_cut [33] (fun s wx => s = .bool x ∧ wx = wA)
  case first =>
    have hb : ((a.cap != b.cap) = true ∧ x = true) ∨ ((a.cap != b.cap) = false ∧ (a.opn != b.opn) = true ∧ x = true) ∨ ((a.cap != b.cap) = false ∧ (a.opn != b.opn) = false ∧ (a.act != b.act) = true ∧ x = true) ∨
        ((a.cap != b.cap) = false ∧ (a.opn != b.opn) = false ∧ (a.act != b.act) = false ∧ ((a.z.length : Int) != (b.z.length : Int)) = x) := by
      have h := HX.out
      clear E HR HX q0 q1 f0 f1 t0 t1
      subst h
      by_cases h1 : a.cap = b.cap
      · by_cases h2 : a.opn = b.opn
        · by_cases h3 : a.act = b.act
          · right; right; right
            refine ⟨by simp [h1], by simp [h2], by simp [h3], ?_⟩
            rw [Bool.eq_iff_iff]
            simp [h1, h2, h3]
            omega
          · exact .inr (.inr (.inl ⟨by simp [h1], by simp [h2], by simp [h3], by simp [h3]⟩))
        · exact .inr (.inl ⟨by simp [h1], by simp [h2], by simp [h2]⟩)
      · exact .inl ⟨by simp [h1], by simp [h1]⟩
    clear HX HR
    rcases hb with ⟨h1, rfl⟩ | ⟨h1, h2, rfl⟩ | ⟨h1, h2, h3, rfl⟩ | ⟨h1, h2, h3, h4⟩
    all_goals go_wp2
    all_goals go_meet
    all_goals exact ⟨rfl, rfl⟩
  case rest =>
    obtain ⟨rfl, rfl⟩ := hcut
    cases x with
    | true =>
      have hrf : r = false := by
        rw [← HR.out]
        refine Bool.eq_false_iff.2 (fun hh => of_decide_eq_true HX.out ?_)
        have := sameD_iff.1 hh
        subst this
        exact ⟨rfl, rfl, rfl, rfl⟩
      subst hrf
      go_wp2
      go_ret
      exact ⟨rfl, E.below⟩
    | false =>
      obtain ⟨h1, h2, h3, hn⟩ := Decidable.not_not.1 (of_decide_eq_false HX.out)
      have hr2 : eqL a.z b.z = r := by
        rw [← HR.out, Bool.eq_iff_iff, sameD_iff, eqL_iff]
        obtain ⟨a1, a2, a3, az⟩ := a
        obtain ⟨b1, b2, b3, bz⟩ := b
        simp only at h1 h2 h3
        subst h1 h2 h3
        simp
      have HR2 := Lib.hid hr2
      clear hr2 h1 h2 h3 HR HX
      have HN := Lib.hid hn
      clear hn
      go_wp2
      clear q0 q1 f0 f1 t0 t1
      go_loopw [5, 37] (fun x i wr => ∃ j : Nat, i = .int .i64 j ∧ j ≤ a.z.length ∧ a.z.take j = b.z.take j ∧ Below wc.heap.size wc wr ∧ (∃ y, x = y)) (fun _ i _ => a.z.length - (intOf i).toNat)
      case atStart => exact ⟨0, rfl, Nat.zero_le _, rfl, Below.refl _ _, _, rfl⟩
      case round =>
        obtain ⟨j, rfl, hj, htk, hbw, y, rfl⟩ := hrel
        have HTK := Lib.hid htk
        clear htk
        replace E := E.step hbw
        by_cases hla : j < a.z.length
        · have hlb : j < b.z.length := by have := HN.out; omega
          obtain ⟨ad, B1, k1, rfl, had1, _, hB1, hc0, hc1, hc2⟩ := IsL.zone_at (E.get m1) (List.getElem?_eq_getElem hla)
          obtain ⟨ad2, B2, k2, rfl, had2, _, hB2, hd0, hd1, hd2⟩ := IsL.zone_at (E.get m0) (List.getElem?_eq_getElem hlb)
          obtain ⟨x, hx⟩ : ∃ x, a.z[j] = x := ⟨_, rfl⟩
          obtain ⟨z, hz⟩ : ∃ z, b.z[j] = z := ⟨_, rfl⟩
          rw [hx] at hB1 hc0 hc1 hc2
          rw [hz] at hB2 hd0 hd1 hd2
          have HX := Lib.hid hx; have HZ := Lib.hid hz
          clear hx hz
          have j1 : (j : Int) < (a.z.length : Int) := by omega
          have j2 : (j : Int) < (b.z.length : Int) := by omega
          have j0 : (0 : Int) ≤ (j : Int) := by omega
          obtain ⟨q, hq⟩ : ∃ q, sameZ x z = q := ⟨_, rfl⟩
          have HQ := Lib.hid hq
          clear hq
          obtain ⟨q0, f0, t0⟩ := E.rules m0
          obtain ⟨q1, f1, t1⟩ := E.rules m1
          go_upto_region 6 with fail
          go_cut [51] from 40 to 52 (fun s wx => s = .bool (!q) ∧ Below wr.heap.size wr wx)
          case first =>
            have HK : Hid (∀ W, Below wr.heap.size wr W → (∀ o, W.cell? ⟨w.heap.size, o, none⟩ = (#[.int .i64 a.cap, .int .i64 a.opn, .int .i64 a.act, .slice (some ad) a.z.length c] : Array Value)[o]?) ∧ (∀ o, W.cell? ⟨w.heap.size + 1, o, none⟩ = (#[.int .i64 b.cap, .int .i64 b.opn, .int .i64 b.act, .slice (some ad2) b.z.length c2] : Array Value)[o]?) ∧ ZoneAt W (ad.add (j * 3)) x B1 k1 ∧ ZoneAt W (ad2.add (j * 3)) z B2 k2) :=
              Lib.hid fun W h => ⟨((E.step h).rules m1).1, ((E.step h).rules m0).1, ZoneAt.step ⟨hc0, hc1, hc2⟩ h, ZoneAt.step ⟨hd0, hd1, hd2⟩ h⟩
            go_region_held3 (fun W => (∀ o, W.cell? ⟨w.heap.size, o, none⟩ = (#[.int .i64 a.cap, .int .i64 a.opn, .int .i64 a.act, .slice (some ad) a.z.length c] : Array Value)[o]?) ∧ (∀ o, W.cell? ⟨w.heap.size + 1, o, none⟩ = (#[.int .i64 b.cap, .int .i64 b.opn, .int .i64 b.act, .slice (some ad2) b.z.length c2] : Array Value)[o]?) ∧ (W.cell? (ad.add (j * 3)) = some (.int .i64 x.st) ∧ W.cell? ⟨(ad.add (j * 3)).block, (ad.add (j * 3)).off + 1, none⟩ = some (.int .i64 x.fe) ∧ W.cell? ⟨(ad.add (j * 3)).block, (ad.add (j * 3)).off + 2, none⟩ = some (.slice B1 x.d.length k1)) ∧ (W.cell? (ad2.add (j * 3)) = some (.int .i64 z.st) ∧ W.cell? ⟨(ad2.add (j * 3)).block, (ad2.add (j * 3)).off + 1, none⟩ = some (.int .i64 z.fe) ∧ W.cell? ⟨(ad2.add (j * 3)).block, (ad2.add (j * 3)).off + 2, none⟩ = some (.slice B2 z.d.length k2)))
              (first | with_reducible exact HK.out _ (Below.refl _ _).drew | with_reducible exact HK.out _ hb2)
              (first
                | (go_at_call 22
                   refine (same_any _ _ x z _ _ _ ⟨B1, k1, rfl, hB1.drew⟩ ⟨B2, k2, rfl, hB2.drew⟩).mono ?_
                   rw [HQ.out]
                   rintro e w2 ⟨rfl, hb2⟩
                   replace hb2 := (Below.refl wr.heap.size wr).drew.trans hb2))
            go_wp2_with fail
            go_meet
            exact ⟨rfl, hb2⟩
          case rest =>
            obtain ⟨rfl, hb2⟩ := hcut
            replace E := E.step hb2
            clear q0 q1 f0 f1 t0 t1 hc0 hc1 hc2 hd0 hd1 hd2 hB1 hB2
            cases q with
            | true =>
              have he := sameZ_iff.1 HQ.out
              have HE := Lib.hid he
              clear he
              go_wp2
              go_roundw
              case rel => exact ⟨j + 1, by go_num, by omega, by rw [List.take_succ_eq_append_getElem hla, List.take_succ_eq_append_getElem hlb, HTK.out, HX.out, HZ.out, HE.out], hbw.trans (hb2.mono hbw.size), _, rfl⟩
              case measure => simp [intOf]; omega
            | false =>
              have hne : ¬ eqL a.z b.z = true := by
                intro h
                have h := eqL_iff.1 h
                have hx := HX.out
                have hz := HZ.out
                have h9 : a.z[j] = b.z[j] := by simp only [h]
                have := sameZ_iff.2 (hx.symm.trans (h9.trans hz))
                rw [HQ.out] at this; cases this
              have hrf : r = false := by rw [← HR2.out, Bool.eq_false_iff.2 hne]
              subst hrf
              clear hne HR2
              go_wp2
              go_ret
              exact ⟨rfl, E.below⟩
        · obtain rfl : j = a.z.length := by omega
          have he : a.z = b.z := by
            have h := HTK.out
            have h2 : b.z.take a.z.length = b.z := by rw [HN.out, List.take_length]
            rw [List.take_length, h2] at h
            exact h
          have hrt : r = true := by rw [← HR2.out, eqL_iff.2 he]
          subst hrt
          clear he HR2 HTK
          go_wp2
          go_ret
          exact ⟨rfl, E.below⟩
end Go.Proofs.Ytcjmcfjjbicimaa
