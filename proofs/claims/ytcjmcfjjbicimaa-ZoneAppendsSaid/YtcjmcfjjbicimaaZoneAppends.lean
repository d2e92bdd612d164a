/- The walk of quicksetlaw04.ZoneAppends. -/
import Derived.Test.YtcjmcfjjbicimaaZoneRefT
import Derived.Test.YtcjmcfjjbicimaaZoneStep
import Derived.Test.YtcjmcfjjbicimaaOwnSet
import Derived.Deep.RegionHeld3
namespace Go.Proofs.Ytcjmcfjjbicimaa
open Go.RowKit

theorem app_len (z : Zn) (most : Int) (l : List UInt8) (hz : z.d.length ≤ 140737488355328) : (appZ z most l).1.d.length ≤ 140737488355328 := by
  have := step_len z most ⟨0, l, 0, 0⟩ hz
  simpa [stepZ] using this
theorem torn_len (z : Zn) (most : Int) (l : List UInt8) (keep : Int) (hz : z.d.length ≤ 140737488355328) : (tornZ z most l keep).1.d.length ≤ 140737488355328 := by
  have := step_len z most ⟨1, l, keep, 0⟩ hz
  simpa [stepZ] using this

def RowsInv (wc wr : World) (B4 g5 g7 B7 : Nat) (xb pb : Array Value) (A5 A7 : Option Addr) (n5 c5 n7 c7 n : Nat) (i : Value) : Prop :=
  ∃ j : Nat, i = .int .i64 j ∧ j ≤ n ∧ OwnU wr B4 5 A5 n5 c5 ∧ Blk wr g5 26 xb ∧ Blk wr g7 26 pb ∧ OwnU wr B7 5 A7 n7 c7 ∧ Below B4 wc wr

set_option maxRecDepth 100000 in
set_option maxHeartbeats 8000000 in
theorem zoneAppends_any (v sv : Value) (z : Zn) (most keep : Int) (l : List UInt8) (w : World) (hz : IsZ w (· < w.heap.size) v z) (hs : IsB w (· < w.heap.size) sv l) :
    Calls Try.prog 4 #[v, .int .i64 most, sv, .int .i64 keep] w fun e w' => e = .returned (.bool true) ∧ Below w.heap.size w w' := by
  obtain ⟨A, c, rfl, hsb⟩ := hz
  have hs0 := hs
  obtain ⟨A2, c2, rfl, _, hlc2, hcc2, _⟩ := hs
  have hzl := hsb.len
  unfold zv
  have E := ((((Kn.start w).give Stable.bytes hsb).give Stable.bytes hs0).push 26 #[.int .i64 z.st, .int .i64 z.fe, .slice A z.d.length c])
  by_cases hbig : bigB z l = true
  · have HB := Lib.hid hbig; clear hbig
    go_enter Try.func4, Try.ntmps4
    go_wp2_with fail
    refine (live04_any _).mono ?_
    rintro e w1 ⟨rfl, hb1⟩
    replace E := E.step hb1
    obtain ⟨q1, f1, t1⟩ := E.rules m0
    go_wp2_with fail
    refine (big_any _ _ z l _ _ w1 ⟨A, c, rfl, E.get m1⟩ (E.get m0)).mono ?_
    rw [HB.out]
    rintro e w2 ⟨rfl, hb2⟩
    replace E := E.step hb2
    go_wp2
    go_ret
    exact ⟨rfl, E.below⟩
  · have hbf := Bool.eq_false_iff.2 hbig
    have HB := Lib.hid hbf; clear hbf hbig
    obtain ⟨r, hr⟩ : ∃ r, appZ z most l = r := ⟨_, rfl⟩
    obtain ⟨s, hs⟩ : ∃ s, tornZ z most l keep = s := ⟨_, rfl⟩
    have hxl := app_len z most l hzl
    have hpl := torn_len z most l keep hzl
    rw [hr] at hxl
    rw [hs] at hpl
    obtain ⟨x, a, er⟩ := r
    obtain ⟨p, pr⟩ := s
    simp only at hxl hpl
    have HR := Lib.hid hr; clear hr
    have HS := Lib.hid hs; clear hs
    go_enter Try.func4, Try.ntmps4
    go_wp2_with fail
    refine (live04_any _).mono ?_
    rintro e w1 ⟨rfl, hb1⟩
    replace E := E.step hb1
    obtain ⟨q1, f1, t1⟩ := E.rules m0
    go_wp2_with fail
    refine (big_any _ _ z l _ _ w1 ⟨A, c, rfl, E.get m1⟩ (E.get m0)).mono ?_
    rw [HB.out]
    rintro e w2 ⟨rfl, hb2⟩
    replace E := E.step hb2
    clear q1 f1 t1
    obtain ⟨q1, f1, t1⟩ := E.rules m0
    go_wp2_with fail
    refine (copy_any _ z _ w2 ⟨A, c, rfl, E.get m1⟩).mono ?_
    rintro e w3 ⟨v3, rfl, ⟨A3, c3, rfl, own3⟩, hb3⟩
    have i3 := (IsB.of_own own3 hzl).lt
    have o03 : w.heap.size < w3.heap.size := by have := (E.at_ m0).lt; have := hb3.size; omega
    replace E := ((E.step hb3).give Stable.bytes i3).push 26 #[.int .i64 z.st, .int .i64 z.fe, .slice A3 z.d.length c3]
    clear q1 f1 t1
    obtain ⟨q1, f1, t1⟩ := E.rules m1
    unfold zv
    go_wp2_with fail
    generalize hw4 : w3.alloc (.cells #[.int .i64 z.st, .int .i64 z.fe, .slice A3 z.d.length c3] 26) = w4 at E q1 f1 t1 ⊢
    have hw43 : w3.heap.size + 1 = w4.heap.size := by rw [← hw4]; simp
    clear hw4 hb1 hb2 hb3
    refine (append_any _ _ z most l _ _ w4 ⟨A, c, rfl, E.get m2⟩ (E.get m1)).mono ?_
    rw [HR.out]
    rintro e w5 ⟨v5, rfl, ⟨A5, c5, rfl, own5⟩, hb5⟩
    have i5 := IsB.of_own own5 hxl
    have U5 : Stable (fun w => OwnU w w4.heap.size 5 A5 x.d.length c5) := fun _ _ h hb => h.step hb
    replace E := ((E.step hb5).give Stable.bytes i5).give U5 (OwnU.of own5)
    have u5 : ∀ g, A5 = some ⟨g, 0, none⟩ → g < w5.heap.size := fun g hg => by subst hg; exact (OwnU.of own5).lt.2
    have o45 := hb5.size
    have HU5 := Lib.hid u5; clear u5
    clear q1 f1 t1 own3 i3 own5 i5 hb5
    obtain ⟨q1, f1, t1⟩ := E.rules m1
    unfold zv
    go_wp2_with fail
    replace E := E.push 26 #[.int .i64 x.st, .int .i64 x.fe, .slice A5 x.d.length c5]
    refine (refAppend_any _ _ z most l _ _ _ ⟨A, c, rfl, E.get m4⟩ (E.get m3)).mono ?_
    rw [HR.out]
    rintro e w6 ⟨v6, rfl, ⟨A6, c6, rfl, own6⟩, hb6⟩
    have o56 : w5.heap.size < w6.heap.size := by have := hb6.size; simp at this; omega
    replace E := (E.step hb6).give Stable.bytes (IsB.of_own own6 hxl)
    clear q1 f1 t1 own6 hb6
    obtain ⟨q1, f1, t1⟩ := E.rules m2
    unfold zv
    go_wp2_with fail
    replace E := E.push 26 #[.int .i64 x.st, .int .i64 x.fe, .slice A6 x.d.length c6]
    refine (torn_any _ _ z most keep l _ _ _ ⟨A, c, rfl, E.get m5⟩ (E.get m4)).mono ?_
    rw [HS.out]
    rintro e w7 ⟨v7, rfl, ⟨A7, c7, rfl, own7⟩, hb7⟩
    have o67 : w6.heap.size < w7.heap.size := by have := hb7.size; simp at this; omega
    have U7 : Stable (fun w => OwnU w (w6.alloc (.cells #[.int .i64 x.st, .int .i64 x.fe, .slice A6 x.d.length c6] 26)).heap.size 5 A7 p.d.length c7) := fun _ _ h hb => h.step hb
    replace E := ((E.step hb7).give Stable.bytes (IsB.of_own own7 hpl)).give U7 (OwnU.of own7)
    clear q1 f1 t1 own7 hb7
    obtain ⟨q1, f1, t1⟩ := E.rules m3
    unfold zv
    go_wp2_with fail
    replace E := E.push 26 #[.int .i64 p.st, .int .i64 p.fe, .slice A7 p.d.length c7]
    refine (refTorn_any _ _ z most keep l _ _ _ ⟨A, c, rfl, E.get m7⟩ (E.get m6)).mono ?_
    rw [HS.out]
    rintro e w8 ⟨v8, rfl, ⟨A8, c8, rfl, own8⟩, hb8⟩
    replace E := (E.step hb8).give Stable.bytes (IsB.of_own own8 hpl)
    clear q1 f1 t1 own8 hb8
    unfold zv
    go_wp2_with fail
    replace E := E.push 26 #[.int .i64 p.st, .int .i64 p.fe, .slice A8 p.d.length c8]
    generalize hw9 : w8.alloc (.cells #[.int .i64 p.st, .int .i64 p.fe, .slice A8 p.d.length c8] 26) = w9 at E ⊢
    clear hw9
    have HK : Hid (∀ w', Below w9.heap.size w9 w' → Below w9.heap.size w9 w' ∧ (∀ o, w'.cell? ⟨w.heap.size, o, none⟩ = (#[.int .i64 z.st, .int .i64 z.fe, .slice A z.d.length c] : Array Value)[o]?) ∧ (∀ o, w'.cell? ⟨w5.heap.size, o, none⟩ = (#[.int .i64 x.st, .int .i64 x.fe, .slice A5 x.d.length c5] : Array Value)[o]?) ∧ (∀ o, w'.cell? ⟨w6.heap.size, o, none⟩ = (#[.int .i64 x.st, .int .i64 x.fe, .slice A6 x.d.length c6] : Array Value)[o]?) ∧ (∀ o, w'.cell? ⟨w7.heap.size, o, none⟩ = (#[.int .i64 p.st, .int .i64 p.fe, .slice A7 p.d.length c7] : Array Value)[o]?) ∧ (∀ o, w'.cell? ⟨w8.heap.size, o, none⟩ = (#[.int .i64 p.st, .int .i64 p.fe, .slice A8 p.d.length c8] : Array Value)[o]?)) :=
      Lib.hid fun w' h => ⟨h, ((E.step h).rules m5).1, ((E.step h).rules m3).1, ((E.step h).rules m2).1, ((E.step h).rules m1).1, ((E.step h).rules m0).1⟩
    go_cut [95] (fun s95 wx => s95 = .bool false ∧ Below w9.heap.size w9 wx)
    case first =>
        go_region_held3 (fun w' => Below w9.heap.size w9 w' ∧ (∀ o, w'.cell? ⟨w.heap.size, o, none⟩ = (#[.int .i64 z.st, .int .i64 z.fe, .slice A z.d.length c] : Array Value)[o]?) ∧ (∀ o, w'.cell? ⟨w5.heap.size, o, none⟩ = (#[.int .i64 x.st, .int .i64 x.fe, .slice A5 x.d.length c5] : Array Value)[o]?) ∧ (∀ o, w'.cell? ⟨w6.heap.size, o, none⟩ = (#[.int .i64 x.st, .int .i64 x.fe, .slice A6 x.d.length c6] : Array Value)[o]?) ∧ (∀ o, w'.cell? ⟨w7.heap.size, o, none⟩ = (#[.int .i64 p.st, .int .i64 p.fe, .slice A7 p.d.length c7] : Array Value)[o]?) ∧ (∀ o, w'.cell? ⟨w8.heap.size, o, none⟩ = (#[.int .i64 p.st, .int .i64 p.fe, .slice A8 p.d.length c8] : Array Value)[o]?))
          (first | exact HK.out _ (Below.refl _ _).drew | exact HK.out _ (hH.1.trans (hbN.mono hH.1.size)))
          (first
            | (go_at_call 22; rename_i hH _ _; have hX : IsZ _ _ (.agg #[.int .i64 x.st, .int .i64 x.fe, .slice A5 x.d.length c5]) x := ⟨A5, c5, rfl, (E.step hH.1).get m5⟩; have hY : IsZ _ _ (.agg #[.int .i64 x.st, .int .i64 x.fe, .slice A6 x.d.length c6]) x := ⟨A6, c6, rfl, (E.step hH.1).get m3⟩; (with_reducible refine (same_any _ _ x x _ _ _ hX hY).mono ?_); clear hX hY; rw [sameZ_self]; rintro e wN ⟨rfl, hbN⟩)
            | (go_at_call 22; rename_i hH _ _; have hX : IsZ _ _ (.agg #[.int .i64 p.st, .int .i64 p.fe, .slice A7 p.d.length c7]) p := ⟨A7, c7, rfl, (E.step hH.1).get m2⟩; have hY : IsZ _ _ (.agg #[.int .i64 p.st, .int .i64 p.fe, .slice A8 p.d.length c8]) p := ⟨A8, c8, rfl, (E.step hH.1).get m0⟩; (with_reducible refine (same_any _ _ p p _ _ _ hX hY).mono ?_); clear hX hY; rw [sameZ_self]; rintro e wN ⟨rfl, hbN⟩)
            | (go_at_call 23; rename_i hH _ _; refine (check_any _ z most _ _ ⟨A, c, rfl, (E.step hH.1).get m8⟩).mono ?_; rintro e wN ⟨rfl, hbN⟩)
            | (go_at_call 24; rename_i hH _ _; refine (refCheck_any _ z most _ _ ⟨A, c, rfl, (E.step hH.1).get m8⟩).mono ?_; rintro e wN ⟨rfl, hbN⟩))
        go_wp2_with fail
        go_meet
        exact ⟨rfl, hH.1.trans (hbN.mono hH.1.size)⟩
    case rest =>
      obtain ⟨rfl, hB⟩ := hcut
      replace E := E.step hB
      clear HK hB
      have hcw : w7.heap.size < wc.heap.size := (E.at_ m1).lt
      obtain ⟨q1, f1, t1⟩ := E.rules m3
      go_wp2_with fail
      clear q1 f1 t1
      go_loopw [99] (fun i wr => RowsInv wc wr w4.heap.size w5.heap.size w7.heap.size (w6.heap.size + 1) #[.int .i64 x.st, .int .i64 x.fe, .slice A5 x.d.length c5] #[.int .i64 p.st, .int .i64 p.fe, .slice A7 p.d.length c7] A5 A7 x.d.length c5 p.d.length c7 x.d.length i) (fun i _ => x.d.length - (intOf i).toNat)
      case atStart =>
        exact ⟨0, rfl, Nat.zero_le _, E.get m4, E.at_ m3, E.at_ m1, by have h := E.get m1; simpa using h, Below.refl _ _⟩
      case round =>
        obtain ⟨j, rfl, hj, U5', B5, B7, U7', hbw⟩ := hrel
        by_cases hlt : j < x.d.length
        · obtain ⟨g, m, hA, hg, hgl, hc, hf⟩ := U5'.at_ hlt
          have hg5 := HU5.out g hA
          subst hA
          obtain ⟨q1, f1⟩ := B5.rules
          have t1 := B5.lt
          go_wp2
          exact ⟨⟨j + 1, by go_num, by omega, U5'.set _, U5'.blk B5 (by decide) _ _, U5'.blk B7 (by decide) _ _, U7'.far (by show g < _; omega) _, hbw.setCell hg _⟩, by simp [intOf]; omega⟩
        · obtain rfl : j = x.d.length := by omega
          obtain ⟨q1, f1⟩ := B7.rules
          have t1 := B7.lt
          go_wp2_with fail
          clear q1 f1 t1 U5' B5 hlt hj
          have hw9 := E.base
          obtain ⟨wo, rfl⟩ : ∃ wo : World, wo = wr := ⟨_, rfl⟩
          go_loopw [113] (fun i wr => ∃ j : Nat, i = .int .i64 j ∧ j ≤ p.d.length ∧ Blk wr w7.heap.size 26 #[.int .i64 p.st, .int .i64 p.fe, .slice A7 p.d.length c7] ∧ OwnU wr (w6.heap.size + 1) 5 A7 p.d.length c7 ∧ Below w4.heap.size wc wr) (fun i _ => p.d.length - (intOf i).toNat)
          case atStart => exact ⟨0, rfl, Nat.zero_le _, B7, U7', hbw⟩
          case round =>
            obtain ⟨j, rfl, hj, B7, U7', hbw⟩ := hrel
            by_cases hlt : j < p.d.length
            · obtain ⟨g, m, hA, hg, hgl, hc, hf⟩ := U7'.at_ hlt
              subst hA
              obtain ⟨q1, f1⟩ := B7.rules
              have t1 := B7.lt
              go_wp2
              exact ⟨⟨j + 1, by go_num, by omega, U7'.blk B7 (by decide) _ _, U7'.set _, hbw.setCell (by show _ ≤ g; omega) _⟩, by simp [intOf]; omega⟩
            · obtain rfl : j = p.d.length := by omega
              have C4 := (E.at_ m5).below hbw (by omega)
              have C10 := (E.at_ m4).below hbw (by omega)
              have iz : IsB wr _ (.slice A z.d.length c) z.d := IsB.below (E.get m8) hbw (fun b hb => by omega)
              have iw : IsB wr _ (.slice A3 z.d.length c3) z.d := IsB.below (E.get m6) hbw (fun b hb => by omega)
              have hX : IsZ wr _ (.agg #[.int .i64 z.st, .int .i64 z.fe, .slice A z.d.length c]) z := ⟨A, c, rfl, iz⟩
              have hY : IsZ wr _ (.agg #[.int .i64 z.st, .int .i64 z.fe, .slice A3 z.d.length c3]) z := ⟨A3, c3, rfl, iw⟩
              obtain ⟨q1, f1⟩ := C4.rules
              obtain ⟨q2, f2⟩ := C10.rules
              have hfin : Below w.heap.size w wr := E.below.trans (hbw.mono (by omega))
              go_wp2_with fail
              refine (same_any _ _ z z _ _ wr hX hY).mono ?_
              rw [sameZ_self]
              rintro e wz ⟨rfl, hbz⟩
              go_wp2
              go_ret
              exact ⟨rfl, hfin.trans (hbz.mono hfin.size)⟩
end Go.Proofs.Ytcjmcfjjbicimaa
