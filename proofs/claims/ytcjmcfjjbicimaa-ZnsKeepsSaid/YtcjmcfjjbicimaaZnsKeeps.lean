/- The walk of quicksetlaw05.ZnsKeeps. -/
import Derived.Test.YtcjmcfjjbicimaaZnsLive
import Derived.Test.YtcjmcfjjbicimaaRefCheck05
import Derived.Test.YtcjmcfjjbicimaaRefSame05
import Derived.Test.YtcjmcfjjbicimaaZnsLaw
import Derived.Test.YtcjmcfjjbicimaaOpenD
import Derived.Test.YtcjmcfjjbicimaaRefClose04
namespace Go.Proofs.Ytcjmcfjjbicimaa
open Go.RowKit

/-- the other zones stay, but that one may be closed -/
theorem keeps_at {d : Zd} (c : Cm) (hd : okD d) : ∃ k : Nat, ∀ (j : Nat) (a b : Zn), d.z[j]? = some a → (doZ d c).1.z[j]? = some b → ¬ (j : Int) = c.zone → (b = a ∨ j = k ∧ a.st = 1 ∧ b = (closeZ a).1) := by
  rcases doZ_moved c hd with h | ⟨_, _, h0, _, h⟩
  · refine ⟨0, fun j a b ha hb _ => .inl ?_⟩
    rw [h, ha] at hb
    exact (Option.some.inj hb).symm
  · obtain ⟨k, hk⟩ := moved_at h
    exact ⟨k, fun j a b ha hb hj => hk j a b ha hb (fun e => hj (by omega))⟩

set_option linter.unusedSimpArgs false in
set_option maxRecDepth 100000 in
set_option maxHeartbeats 16000000 in
theorem znsKeeps_any (d : Zd) (l : List Cm) (v u : Value) (K : Nat → Prop) (w : World) (hd : IsD w v d) (hl : IsL Rp.cmd w K u l) :
    Calls Try.prog 11 #[v, u] w fun e w' => e = .returned (.bool true) ∧ Below w.heap.size w w' := by
  obtain ⟨A0, k0, rfl, hL0⟩ := hd
  obtain ⟨Al, cl, rfl, hllc, hlcc⟩ := hl.form
  have hl0 := hl.clt
  clear hl
  have E := ((Kn.start w).give Stable.list hL0).push 53 #[.int .i64 d.cap, .int .i64 d.opn, .int .i64 d.act, .slice A0 d.z.length k0]
  clear hL0
  go_enter Try.func11, Try.ntmps11
  go_wp2_with fail
  refine (live05_any _).mono ?_
  rintro e w1 ⟨rfl, hb1⟩
  replace E := E.step hb1
  clear hb1
  obtain ⟨q0, f0, t0⟩ := E.rules m0
  go_wp2_with fail
  refine (few_any d l _ _ _ _ ⟨A0, k0, rfl, E.get m0⟩ (hl0.keep fun p hp _ => E.below.cell hp.2)).mono ?_
  rintro e w2 ⟨rfl, hb2⟩
  replace E := E.step hb2
  clear hb2 q0 f0 t0
  obtain ⟨q0, f0, t0⟩ := E.rules m0
  obtain ⟨fb, hfb⟩ : ∃ fb, fewB d l = fb := ⟨_, rfl⟩
  rw [hfb]
  cases fb with
  | false =>
    clear hfb
    go_wp2
    go_ret
    exact ⟨rfl, E.below⟩
  | true =>
    obtain ⟨hd200, hl200⟩ := fewB_true hfb
    clear hfb
    go_wp2_with fail
    refine (refChk05_any d _ _ _ (E.get m0)).mono ?_
    rintro e w3 ⟨rfl, hb3⟩
    replace E := E.step hb3
    clear hb3 q0 f0 t0
    obtain ⟨q0, f0, t0⟩ := E.rules m0
    by_cases hok : okD d
    · rw [show chkD d = 0 from if_pos hok]
      have HOK := Lib.hid hok
      clear hok
      go_wp2
      have hB := Blk.new w3 53 #[.int .i64 d.cap, .int .i64 d.opn, .int .i64 d.act, .slice A0 d.z.length k0] rfl
      have hD : DevAt (w3.alloc (.cells #[.int .i64 d.cap, .int .i64 d.opn, .int .i64 d.act, .slice A0 d.z.length k0] 53)) (fun b => b ≠ w3.heap.size) (.agg #[.int .i64 d.cap, .int .i64 d.opn, .int .i64 d.act, .slice A0 d.z.length k0]) d := by
        refine ⟨A0, k0, rfl, (E.get m0).alloc _, fun hp => ?_⟩
        obtain ⟨ad, _, _, e, hlt, _⟩ := IsL.zone_at (E.get m0) (List.getElem?_eq_getElem hp)
        exact ⟨ad, e, by omega⟩
      have hbA := E.below.alloc E.below.size (.cells #[.int .i64 d.cap, .int .i64 d.opn, .int .i64 d.act, .slice A0 d.z.length k0] 53)
      have hxs := E.below.size
      obtain ⟨xb, hxb⟩ : ∃ xb, w3.heap.size = xb := ⟨_, rfl⟩
      rw [hxb] at hB hD hxs ⊢
      clear hxb E q0 f0 t0
      go_loopw [8, 9, 10, 11, 12, 13, 14, 29] (fun p8 p9 p10 p11 p12 p13 p14 i wr => ∃ (j : Nat) (x : Zd) (A : Option Addr) (k : Nat), i = .int .i64 j ∧ j ≤ l.length ∧ Hid (okD x ∧ x.z.length = d.z.length) ∧ Blk wr xb 53 #[.int .i64 x.cap, .int .i64 x.opn, .int .i64 x.act, .slice A x.z.length k] ∧
        DevAt wr (fun b => b ≠ xb) (.agg #[.int .i64 x.cap, .int .i64 x.opn, .int .i64 x.act, .slice A x.z.length k]) x ∧ Below w.heap.size w wr ∧ (∃ y8, p8 = y8) ∧ (∃ y9, p9 = y9) ∧ (∃ y10, p10 = y10) ∧ (∃ y11, p11 = y11) ∧ (∃ y12, p12 = y12) ∧ (∃ y13, p13 = y13) ∧ (∃ y14, p14 = y14)) (fun _ _ _ _ _ _ _ i _ => l.length - (intOf i).toNat)
      case atStart => exact ⟨0, d, A0, k0, rfl, Nat.zero_le _, Lib.hid ⟨HOK.out, rfl⟩, hB, hD, hbA, ⟨_, rfl⟩, ⟨_, rfl⟩, ⟨_, rfl⟩, ⟨_, rfl⟩, ⟨_, rfl⟩, ⟨_, rfl⟩, _, rfl⟩
      case round =>
        clear hB hD hbA
        obtain ⟨j, x, A, k, rfl, hj, HX, hB, hD, hbr, ⟨y8, rfl⟩, ⟨y9, rfl⟩, ⟨y10, rfl⟩, ⟨y11, rfl⟩, ⟨y12, rfl⟩, ⟨y13, rfl⟩, y14, rfl⟩ := hrel
        obtain ⟨wo, rfl⟩ : ∃ wo : World, wo = wr := ⟨_, rfl⟩
        by_cases hltj : j < l.length
        · obtain ⟨c, hc⟩ : ∃ c, l[j] = c := ⟨_, rfl⟩
          obtain ⟨ad, B, kB, rfl, hadb, _, hBc, hrg, hc0, hc1, hc2, hc3, hc4, hc5⟩ := IsL.cmd_at (hl0.keep fun p hp _ => hbr.cell hp.2 : IsL Rp.cmd wo _ (.slice Al l.length cl) l) (List.getElem?_eq_getElem hltj)
          rw [hc] at hBc hrg hc0 hc1 hc2 hc3 hc4 hc5
          clear hc
          have j1 : (j : Int) < (l.length : Int) := by omega
          have j0 : (0 : Int) ≤ (j : Int) := by omega
          have F := ((((Kn.from_ hbr hbr.size).give Stable.bytes hBc).give Stable.devAt hD).know hB).push 62 #[.int .i64 c.op, .int .i64 c.zone, .int .i64 c.epoch, .int .i64 c.off, .int .i64 c.n, .slice B c.data.length kB]
          have hLx : IsL Rp.zone wo (fun _ => True) (.slice A x.z.length k) x.z := by
            obtain ⟨_, _, e, h, _⟩ := hD
            injection e with e
            simp only [Array.mk.injEq, List.cons.injEq, Value.slice.injEq, and_true] at e
            obtain ⟨_, _, _, rfl, _, rfl⟩ := e
            exact h
          replace F := F.give Stable.list (hLx.alloc _)
          have hxo := hB.lt
          clear hBc hD hB hLx
          obtain ⟨q1, f1, t1⟩ := F.rules m1
          have hW : (wo.alloc (.cells #[.int .i64 c.op, .int .i64 c.zone, .int .i64 c.epoch, .int .i64 c.off, .int .i64 c.n, .slice B c.data.length kB] 62)).heap.size = wo.heap.size + 1 := World.size_alloc _ _
          go_wp2_with fail
          refine (do_any x c A k B kB _ _ ((F.get m0).zlt) (fun b hb => hb.2) ((F.get m2).lt.more fun b hb => ⟨trivial, hb.2⟩) (by rw [HX.out.2]; omega) hrg.off.2).mono ?_
          obtain ⟨r, hr⟩ : ∃ r, doZ x c = r := ⟨_, rfl⟩
          rw [hr]
          have HR := Lib.hid hr
          clear hr
          rintro e w4 ⟨v1, v2, rfl, ⟨A5, k5, rfl, hL5, hA5⟩, ⟨A6, k6, rfl, hB6⟩, hb4⟩
          have hDy : DevAt w4 (fun b => b ≠ xb) (.agg #[.int .i64 r.1.cap, .int .i64 r.1.opn, .int .i64 r.1.act, .slice A5 r.1.z.length k5]) r.1 :=
            ⟨A5, k5, rfl, hL5.more fun _ _ => trivial, fun hp => let ⟨ad, e, h⟩ := hA5 hp; ⟨ad, e, by rw [hW] at h; intro e2; omega⟩⟩
          replace F := (((F.step hb4).give Stable.devAt hDy).give Stable.list (hL5.more fun _ _ => trivial : IsL Rp.zone w4 (fun _ => True) _ _)).push 53 #[.int .i64 r.1.cap, .int .i64 r.1.opn, .int .i64 r.1.act, .slice A5 r.1.z.length k5] |>.push 64 #[.int .i64 r.2.e, .int .i64 r.2.at_, .slice A6 r.2.data.length k6]
          rw [World.size_alloc] at F
          have hs4 : wo.heap.size + 1 ≤ w4.heap.size := by have := hb4.size; omega
          clear hL5 hA5 hB6 hDy hb4 hc0 hc1 hc2 hc3 hc4 hc5 q1 f1 t1
          go_upto_region 9 with fail
          generalize hW5 : (w4.alloc (.cells #[.int .i64 r.1.cap, .int .i64 r.1.opn, .int .i64 r.1.act, .slice A5 r.1.z.length k5] 53)).alloc (.cells #[.int .i64 r.2.e, .int .i64 r.2.at_, .slice A6 r.2.data.length k6] 64) = W5 at F ⊢
          clear hW5
          obtain ⟨q1, f1, t1⟩ := F.rules m1
          have hlen : r.1.z.length = x.z.length := by rw [← HR.out]; exact doZ_len' x c
          have HLEN := Lib.hid hlen
          clear hlen
          have HOKY : Hid (okD r.1) := Lib.hid (by rw [← HR.out]; exact doZ_ok c HX.out.1)
          have hz200 : r.1.z.length < 200 := by rw [HLEN.out, HX.out.2]; exact hd200
          obtain ⟨kk, hkk⟩ := keeps_at c HX.out.1
          have HKK := Lib.hid hkk
          clear hkk
          go_wp2_with fail
          refine (refChk05_any r.1 _ _ _ (F.get m0)).mono ?_
          rw [show chkD r.1 = 0 from if_pos HOKY.out]
          rintro e w5 ⟨rfl, hb5⟩
          replace F := F.step hb5
          clear hb5 q1 f1 t1
          obtain ⟨q1, f1, t1⟩ := F.rules m1
          go_wp2
          clear q1 f1 t1
          go_loopw [11, 12, 13, 14, 45] (fun i11 i12 i13 i14 i45 wr => ∃ (q : Nat) (n : Nat), i45 = .int .i64 q ∧ q ≤ r.1.z.length ∧ i11 = .int .i64 n ∧ Hid (n = 0 ∨ n = 1 ∧ kk < q ∧ r.2.e = 0) ∧ Below w5.heap.size w5 wr ∧ (∃ y, i12 = y) ∧ (∃ y, i13 = y) ∧ (∃ y, i14 = y)) (fun _ _ _ _ i45 _ => r.1.z.length - (intOf i45).toNat)
          case atStart => exact ⟨0, 0, rfl, Nat.zero_le _, rfl, Lib.hid (.inl rfl), Below.refl _ _, ⟨_, rfl⟩, ⟨_, rfl⟩, _, rfl⟩
          case round =>
            obtain ⟨q, n, rfl, hq, rfl, HN, hbi, ⟨y12', rfl⟩, ⟨y13', rfl⟩, y14', rfl⟩ := hrel
            replace F := F.step hbi
            by_cases hqlt : q < r.1.z.length
            · obtain ⟨b, hb⟩ : ∃ b, r.1.z[q]? = some b := ⟨_, List.getElem?_eq_getElem hqlt⟩
              obtain ⟨a, ha⟩ : ∃ a, x.z[q]? = some a := ⟨_, List.getElem?_eq_getElem (by rw [← HLEN.out]; exact hqlt)⟩
              obtain ⟨ay, By, ky, rfl, hay, _, hyB, hy0, hy1, hy2⟩ := IsL.zone_at (F.get m0) hb
              obtain ⟨ax, Bx, kx, rfl, hax, _, hxB, hx0, hx1, hx2⟩ := IsL.zone_at (F.get m2) ha
              have i0 : (0 : Int) ≤ (q : Int) := by omega
              have i1 : (q : Int) < (r.1.z.length : Int) := by omega
              have i2 : (q : Int) < (x.z.length : Int) := by rw [← HLEN.out]; omega
              have HA := Lib.hid ha; have HB := Lib.hid hb
              clear ha hb
              have HK : Hid (∀ W, Below wr.heap.size wr W → (∀ o, W.cell? ⟨wo.heap.size, o, none⟩ = (#[.int .i64 c.op, .int .i64 c.zone, .int .i64 c.epoch, .int .i64 c.off, .int .i64 c.n, .slice B c.data.length kB] : Array Value)[o]?) ∧ (∀ o, W.cell? ⟨w4.heap.size, o, none⟩ = (#[.int .i64 r.1.cap, .int .i64 r.1.opn, .int .i64 r.1.act, .slice (some ay) r.1.z.length k5] : Array Value)[o]?) ∧ (∀ o, W.cell? ⟨xb, o, none⟩ = (#[.int .i64 x.cap, .int .i64 x.opn, .int .i64 x.act, .slice (some ax) x.z.length k] : Array Value)[o]?) ∧ (W.cell? (ax.add (q * 3)) = some (.int .i64 a.st) ∧ W.cell? ⟨(ax.add (q * 3)).block, (ax.add (q * 3)).off + 1, none⟩ = some (.int .i64 a.fe) ∧ W.cell? ⟨(ax.add (q * 3)).block, (ax.add (q * 3)).off + 2, none⟩ = some (.slice Bx a.d.length kx)) ∧ (W.cell? (ay.add (q * 3)) = some (.int .i64 b.st) ∧ W.cell? ⟨(ay.add (q * 3)).block, (ay.add (q * 3)).off + 1, none⟩ = some (.int .i64 b.fe) ∧ W.cell? ⟨(ay.add (q * 3)).block, (ay.add (q * 3)).off + 2, none⟩ = some (.slice By b.d.length ky))) := Lib.hid fun W h => ⟨((F.step h).rules m2).1, ((F.step h).rules m1).1, ((F.step h).rules m3).1, ZoneAt.step ⟨hx0, hx1, hx2⟩ h, ZoneAt.step ⟨hy0, hy1, hy2⟩ h⟩
              obtain ⟨b15, h15⟩ : ∃ b15, (decide ((q : Int) = c.zone) || sameZ a b) = b15 := ⟨_, rfl⟩
              have H15 := Lib.hid h15
              clear h15
              clear hx0 hx1 hx2 hy0 hy1 hy2
              go_upto_region 15 with fail
              go_cut [64] from 46 to 97 (fun s wx => s = .bool b15 ∧ Below wr.heap.size wr wx)
              case first =>
                by_cases hqz : (q : Int) = c.zone
                · have e1 : ((q : Int) == c.zone) = true := by simpa using hqz
                  have hb15 : b15 = true := by rw [← H15.out, decide_eq_true hqz]; rfl
                  subst hb15
                  clear hqz
                  refine wp_region_held_drew (S := fun W => (∀ o, W.cell? ⟨wo.heap.size, o, none⟩ = (#[.int .i64 c.op, .int .i64 c.zone, .int .i64 c.epoch, .int .i64 c.off, .int .i64 c.n, .slice B c.data.length kB] : Array Value)[o]?) ∧ (∀ o, W.cell? ⟨w4.heap.size, o, none⟩ = (#[.int .i64 r.1.cap, .int .i64 r.1.opn, .int .i64 r.1.act, .slice (some ay) r.1.z.length k5] : Array Value)[o]?) ∧ (∀ o, W.cell? ⟨xb, o, none⟩ = (#[.int .i64 x.cap, .int .i64 x.opn, .int .i64 x.act, .slice (some ax) x.z.length k] : Array Value)[o]?) ∧ (W.cell? (ax.add (q * 3)) = some (.int .i64 a.st) ∧ W.cell? ⟨(ax.add (q * 3)).block, (ax.add (q * 3)).off + 1, none⟩ = some (.int .i64 a.fe) ∧ W.cell? ⟨(ax.add (q * 3)).block, (ax.add (q * 3)).off + 2, none⟩ = some (.slice Bx a.d.length kx)) ∧ (W.cell? (ay.add (q * 3)) = some (.int .i64 b.st) ∧ W.cell? ⟨(ay.add (q * 3)).block, (ay.add (q * 3)).off + 1, none⟩ = some (.int .i64 b.fe) ∧ W.cell? ⟨(ay.add (q * 3)).block, (ay.add (q * 3)).off + 2, none⟩ = some (.slice By b.d.length ky))) (by kernel_rfl) (HK.out _ (Below.refl _ _).drew) (fun hHeld => ?_)
                  refine wpAnyH_take (i := 0) (oi := ⟨some 48, _, _, _, _, _⟩) (v := ?_) rfl (by kernel_rfl) (by kernel_rfl) (by kernel_rfl) (fun _ _ _ h => h) (Or.inl ⟨by rfl, ?hy⟩) (by assumption) ?_
                  case hy => intro w hSw; (try dsimp only at hSw); go_simp; with_reducible rfl
                  try simp only [Act.put, List.setIfInBounds_toArray, List.set_cons_zero, List.set_cons_succ]
                  refine wpAnyH_take (i := 1) (oi := ⟨some 49, _, _, _, _, _⟩) (v := ?_) rfl (by kernel_rfl) (by kernel_rfl) (by kernel_rfl) (fun _ _ _ h => h) (Or.inl ⟨by rfl, ?hy⟩) (by assumption) ?_
                  case hy => intro w hSw; (try dsimp only at hSw); go_simp; with_reducible rfl
                  try simp only [Act.put, List.setIfInBounds_toArray, List.set_cons_zero, List.set_cons_succ]
                  refine wpAnyH_take (i := 2) (oi := ⟨some 50, _, _, _, _, _⟩) (v := ?_) rfl (by kernel_rfl) (by kernel_rfl) (by kernel_rfl) (fun _ _ _ h => h) (Or.inl ⟨by rfl, ?hy⟩) (by assumption) ?_
                  case hy => intro w hSw; (try dsimp only at hSw); go_simp; with_reducible rfl
                  try simp only [Act.put, List.setIfInBounds_toArray, List.set_cons_zero, List.set_cons_succ]
                  refine wpAnyH_take (i := 3) (oi := ⟨some 51, _, _, _, _, _⟩) (v := ?_) rfl (by kernel_rfl) (by kernel_rfl) (by kernel_rfl) (fun _ _ _ h => h) (Or.inl ⟨by rfl, ?hy⟩) (by assumption) ?_
                  case hy => intro w hSw; (try dsimp only at hSw); go_simp; with_reducible rfl
                  try simp only [Act.put, List.setIfInBounds_toArray, List.set_cons_zero, List.set_cons_succ]
                  refine wpAnyH_take (i := 4) (oi := ⟨some 52, _, _, _, _, _⟩) (v := ?_) rfl (by kernel_rfl) (by kernel_rfl) (by kernel_rfl) (fun _ _ _ h => h) (Or.inl ⟨by rfl, ?hy⟩) (by assumption) ?_
                  case hy => intro w hSw; (try dsimp only at hSw); go_simp; with_reducible rfl
                  try simp only [Act.put, List.setIfInBounds_toArray, List.set_cons_zero, List.set_cons_succ]
                  refine wpAnyH_take (i := 5) (oi := ⟨some 53, _, _, _, _, _⟩) (v := undef) rfl (by kernel_rfl) (by kernel_rfl) (by kernel_rfl) (fun _ _ _ h => h) (Or.inr ⟨?hw, rfl⟩) (by assumption) ?_
                  case hw => kernel_rfl
                  try simp only [Act.put, List.setIfInBounds_toArray, List.set_cons_zero, List.set_cons_succ]
                  refine wpAnyH_take (i := 6) (oi := ⟨some 54, _, _, _, _, _⟩) (v := undef) rfl (by kernel_rfl) (by kernel_rfl) (by kernel_rfl) (fun _ _ _ h => h) (Or.inr ⟨?hw, rfl⟩) (by assumption) ?_
                  case hw => kernel_rfl
                  try simp only [Act.put, List.setIfInBounds_toArray, List.set_cons_zero, List.set_cons_succ]
                  refine wpAnyH_take (i := 7) (oi := ⟨some 55, _, _, _, _, _⟩) (v := undef) rfl (by kernel_rfl) (by kernel_rfl) (by kernel_rfl) (fun _ _ _ h => h) (Or.inr ⟨?hw, rfl⟩) (by assumption) ?_
                  case hw => kernel_rfl
                  try simp only [Act.put, List.setIfInBounds_toArray, List.set_cons_zero, List.set_cons_succ]
                  refine wpAnyH_take (i := 8) (oi := ⟨some 56, _, _, _, _, _⟩) (v := undef) rfl (by kernel_rfl) (by kernel_rfl) (by kernel_rfl) (fun _ _ _ h => h) (Or.inr ⟨?hw, rfl⟩) (by assumption) ?_
                  case hw => kernel_rfl
                  try simp only [Act.put, List.setIfInBounds_toArray, List.set_cons_zero, List.set_cons_succ]
                  refine wpAnyH_take (i := 9) (oi := ⟨some 57, _, _, _, _, _⟩) (v := undef) rfl (by kernel_rfl) (by kernel_rfl) (by kernel_rfl) (fun _ _ _ h => h) (Or.inr ⟨?hw, rfl⟩) (by assumption) ?_
                  case hw => kernel_rfl
                  try simp only [Act.put, List.setIfInBounds_toArray, List.set_cons_zero, List.set_cons_succ]
                  refine wpAnyH_take (i := 10) (oi := ⟨some 58, _, _, _, _, _⟩) (v := undef) rfl (by kernel_rfl) (by kernel_rfl) (by kernel_rfl) (fun _ _ _ h => h) (Or.inr ⟨?hw, rfl⟩) (by assumption) ?_
                  case hw => kernel_rfl
                  try simp only [Act.put, List.setIfInBounds_toArray, List.set_cons_zero, List.set_cons_succ]
                  refine wpAnyH_take (i := 11) (oi := ⟨some 59, _, _, _, _, _⟩) (v := undef) rfl (by kernel_rfl) (by kernel_rfl) (by kernel_rfl) (fun _ _ _ h => h) (Or.inr ⟨?hw, rfl⟩) (by assumption) ?_
                  case hw => kernel_rfl
                  try simp only [Act.put, List.setIfInBounds_toArray, List.set_cons_zero, List.set_cons_succ]
                  refine wpAnyH_take (i := 12) (oi := ⟨some 60, _, _, _, _, _⟩) (v := undef) rfl (by kernel_rfl) (by kernel_rfl) (by kernel_rfl) (fun _ _ _ h => h) (Or.inr ⟨?hw, rfl⟩) (by assumption) ?_
                  case hw => kernel_rfl
                  try simp only [Act.put, List.setIfInBounds_toArray, List.set_cons_zero, List.set_cons_succ]
                  refine wpAnyH_take (i := 13) (oi := ⟨some 61, _, _, _, _, _⟩) (v := undef) rfl (by kernel_rfl) (by kernel_rfl) (by kernel_rfl) (fun _ _ _ h => h) (Or.inr ⟨?hw, rfl⟩) (by assumption) ?_
                  case hw => kernel_rfl
                  try simp only [Act.put, List.setIfInBounds_toArray, List.set_cons_zero, List.set_cons_succ]
                  refine wpAnyH_take (i := 14) (oi := ⟨some 62, _, _, _, _, _⟩) (v := undef) rfl (by kernel_rfl) (by kernel_rfl) (by kernel_rfl) (fun _ _ _ h => h) (Or.inr ⟨?hw, rfl⟩) (by assumption) ?_
                  case hw => kernel_rfl
                  try simp only [Act.put, List.setIfInBounds_toArray, List.set_cons_zero, List.set_cons_succ]
                  refine wpAnyH_take (i := 15) (oi := ⟨some 63, _, _, _, _, _⟩) (v := undef) rfl (by kernel_rfl) (by kernel_rfl) (by kernel_rfl) (fun _ _ _ h => h) (Or.inr ⟨?hw, rfl⟩) (by assumption) ?_
                  case hw => kernel_rfl
                  try simp only [Act.put, List.setIfInBounds_toArray, List.set_cons_zero, List.set_cons_succ]
                  refine wpAnyH_take (i := 16) (oi := ⟨some 64, _, _, _, _, _⟩) (v := ?_) rfl (by kernel_rfl) (by kernel_rfl) (by kernel_rfl) (fun _ _ _ h => h) (Or.inl ⟨by rfl, ?hy⟩) (by assumption) ?_
                  case hy => intro w hSw; (try dsimp only at hSw); go_simp; with_reducible rfl
                  try simp only [Act.put, List.setIfInBounds_toArray, List.set_cons_zero, List.set_cons_succ]
                  refine wpAnyH_done (by kernel_rfl) ?_ _
                  go_wp2_with fail
                  go_meet
                  exact ⟨rfl, (Below.refl _ _).drew⟩
                · have e1 : ((q : Int) == c.zone) = false := by simpa using hqz
                  have hb15 : sameZ a b = b15 := by rw [← H15.out, decide_eq_false hqz]; rfl
                  have HB15 := Lib.hid hb15
                  clear hqz hb15
                  go_region_held3 (fun W => (∀ o, W.cell? ⟨wo.heap.size, o, none⟩ = (#[.int .i64 c.op, .int .i64 c.zone, .int .i64 c.epoch, .int .i64 c.off, .int .i64 c.n, .slice B c.data.length kB] : Array Value)[o]?) ∧ (∀ o, W.cell? ⟨w4.heap.size, o, none⟩ = (#[.int .i64 r.1.cap, .int .i64 r.1.opn, .int .i64 r.1.act, .slice (some ay) r.1.z.length k5] : Array Value)[o]?) ∧ (∀ o, W.cell? ⟨xb, o, none⟩ = (#[.int .i64 x.cap, .int .i64 x.opn, .int .i64 x.act, .slice (some ax) x.z.length k] : Array Value)[o]?) ∧ (W.cell? (ax.add (q * 3)) = some (.int .i64 a.st) ∧ W.cell? ⟨(ax.add (q * 3)).block, (ax.add (q * 3)).off + 1, none⟩ = some (.int .i64 a.fe) ∧ W.cell? ⟨(ax.add (q * 3)).block, (ax.add (q * 3)).off + 2, none⟩ = some (.slice Bx a.d.length kx)) ∧ (W.cell? (ay.add (q * 3)) = some (.int .i64 b.st) ∧ W.cell? ⟨(ay.add (q * 3)).block, (ay.add (q * 3)).off + 1, none⟩ = some (.int .i64 b.fe) ∧ W.cell? ⟨(ay.add (q * 3)).block, (ay.add (q * 3)).off + 2, none⟩ = some (.slice By b.d.length ky)))
                    (first | with_reducible exact HK.out _ (Below.refl _ _).drew | with_reducible exact HK.out _ hb2)
                    (first
                      | (go_at_call 22
                         refine (same_any _ _ a b _ _ _ ⟨Bx, kx, rfl, hxB.drew⟩ ⟨By, ky, rfl, hyB.drew⟩).mono ?_
                         rw [HB15.out]
                         rintro e w2 ⟨rfl, hb2⟩
                         replace hb2 := (Below.refl wr.heap.size wr).drew.trans hb2))
                  go_wp2_with fail
                  go_meet
                  exact ⟨rfl, hb2⟩
              case rest =>
                obtain ⟨rfl, hbc⟩ := hcut
                have hbi2 := hbi.trans (hbc.mono hbi.size)
                cases b15 with
                | true =>
                  clear hxB hyB
                  go_wp2
                  go_roundw
                  case rel => exact ⟨q + 1, n, by go_num, by omega, rfl, Lib.hid (by rcases HN.out with h | ⟨h1, h2, h3⟩; exact .inl h; exact .inr ⟨h1, by omega, h3⟩), hbi2, ⟨_, rfl⟩, ⟨_, rfl⟩, _, rfl⟩
                  case measure => simp [intOf]; omega
                | false =>
                  have h15 := H15.out
                  have hqz : ¬ (q : Int) = c.zone := by
                    intro h
                    rw [decide_eq_true h] at h15
                    cases h15
                  have hab : ¬ b = a := by
                    intro h
                    rw [sameZ_iff.2 h.symm, Bool.or_true] at h15
                    cases h15
                  have hcl : q = kk ∧ a.st = 1 ∧ b = (closeZ a).1 := (HKK.out q a b HA.out (by rw [HR.out]; exact HB.out) hqz).resolve_left hab
                  have hp0 : r.2.e = 0 := by
                    refine Decidable.not_not.1 fun he => hab ?_
                    have hrr := doZ_err (d := x) (c := c) (by rw [HR.out]; exact he)
                    rw [HR.out] at hrr
                    have h1 := HB.out
                    rw [show r.1 = x from congrArg Prod.fst hrr, HA.out] at h1
                    exact (Option.some.inj h1).symm
                  have hn0 : n = 0 := by
                    rcases HN.out with h | ⟨_, h2, _⟩
                    · exact h
                    · omega
                  subst hn0
                  have HP0 := Lib.hid hp0; have HCL := Lib.hid hcl
                  clear hp0 hcl hab hqz h15
                  have e2 : (a.st != 1) = false := by simpa using HCL.out.2.1
                  replace F := F.step hbc
                  obtain ⟨p0, p1, p2, p3, p4⟩ := HK.out wc hbc
                  obtain ⟨ax0, ax1, ax2⟩ := p3
                  obtain ⟨ay0, ay1, ay2⟩ := p4
                  go_upto_region 16 with fail
                  go_wp2_with fail
                  refine (refClose_any a Bx kx _ _ (hxB.step hbc) HCL.out.2.1).mono ?_
                  rw [← HCL.out.2.2]
                  rintro e w7 ⟨v7, rfl, ⟨A7, c7, rfl, own7⟩, hb7⟩
                  unfold zv
                  have hb0 := hyB.len
                  have hzB := IsB.of_own own7 hb0
                  have hbc7 := hbc.trans (hb7.mono hbc.size)
                  clear own7 p0 p1 p2 ax0 ax1 ax2 ay0 ay1 ay2
                  have F7 := ((F.step hb7).give Stable.bytes hzB).push 26 #[.int .i64 b.st, .int .i64 b.fe, .slice A7 b.d.length c7]
                  have hy7 := ((hyB.step hbc).step hb7).alloc (.cells #[.int .i64 b.st, .int .i64 b.fe, .slice A7 b.d.length c7] 26)
                  have hb8 : Below wr.heap.size wr (w7.alloc (.cells #[.int .i64 b.st, .int .i64 b.fe, .slice A7 b.d.length c7] 26)) := hbc7.alloc hbc7.size _
                  have HK8 : Hid (∀ W, Below (w7.alloc (.cells #[.int .i64 b.st, .int .i64 b.fe, .slice A7 b.d.length c7] 26)).heap.size (w7.alloc (.cells #[.int .i64 b.st, .int .i64 b.fe, .slice A7 b.d.length c7] 26)) W → (∀ o, W.cell? ⟨w7.heap.size, o, none⟩ = (#[.int .i64 b.st, .int .i64 b.fe, .slice A7 b.d.length c7] : Array Value)[o]?) ∧ (∀ o, W.cell? ⟨wo.heap.size, o, none⟩ = (#[.int .i64 c.op, .int .i64 c.zone, .int .i64 c.epoch, .int .i64 c.off, .int .i64 c.n, .slice B c.data.length kB] : Array Value)[o]?) ∧ (∀ o, W.cell? ⟨w4.heap.size, o, none⟩ = (#[.int .i64 r.1.cap, .int .i64 r.1.opn, .int .i64 r.1.act, .slice (some ay) r.1.z.length k5] : Array Value)[o]?) ∧ (∀ o, W.cell? ⟨xb, o, none⟩ = (#[.int .i64 x.cap, .int .i64 x.opn, .int .i64 x.act, .slice (some ax) x.z.length k] : Array Value)[o]?) ∧ (W.cell? (ax.add (q * 3)) = some (.int .i64 a.st) ∧ W.cell? ⟨(ax.add (q * 3)).block, (ax.add (q * 3)).off + 1, none⟩ = some (.int .i64 a.fe) ∧ W.cell? ⟨(ax.add (q * 3)).block, (ax.add (q * 3)).off + 2, none⟩ = some (.slice Bx a.d.length kx)) ∧ (W.cell? (ay.add (q * 3)) = some (.int .i64 b.st) ∧ W.cell? ⟨(ay.add (q * 3)).block, (ay.add (q * 3)).off + 1, none⟩ = some (.int .i64 b.fe) ∧ W.cell? ⟨(ay.add (q * 3)).block, (ay.add (q * 3)).off + 2, none⟩ = some (.slice By b.d.length ky))) := Lib.hid fun W h => ⟨((F7.step h).rules m0).1, HK.out W (hb8.trans (h.mono hb8.size))⟩
                  have hz7 := F7.get m0
                  clear hb7 hbc7
                  go_upto_region 17 with fail
                  generalize hW8 : w7.alloc (.cells #[.int .i64 b.st, .int .i64 b.fe, .slice A7 b.d.length c7] 26) = W8 at F7 hy7 hb8 HK8 hz7 ⊢
                  clear hW8
                  go_cut [94] from 46 to 97 (fun s wx => s = .bool false ∧ Below W8.heap.size W8 wx)
                  case first =>
                    go_region_held3 (fun W => (∀ o, W.cell? ⟨w7.heap.size, o, none⟩ = (#[.int .i64 b.st, .int .i64 b.fe, .slice A7 b.d.length c7] : Array Value)[o]?) ∧ (∀ o, W.cell? ⟨wo.heap.size, o, none⟩ = (#[.int .i64 c.op, .int .i64 c.zone, .int .i64 c.epoch, .int .i64 c.off, .int .i64 c.n, .slice B c.data.length kB] : Array Value)[o]?) ∧ (∀ o, W.cell? ⟨w4.heap.size, o, none⟩ = (#[.int .i64 r.1.cap, .int .i64 r.1.opn, .int .i64 r.1.act, .slice (some ay) r.1.z.length k5] : Array Value)[o]?) ∧ (∀ o, W.cell? ⟨xb, o, none⟩ = (#[.int .i64 x.cap, .int .i64 x.opn, .int .i64 x.act, .slice (some ax) x.z.length k] : Array Value)[o]?) ∧ (W.cell? (ax.add (q * 3)) = some (.int .i64 a.st) ∧ W.cell? ⟨(ax.add (q * 3)).block, (ax.add (q * 3)).off + 1, none⟩ = some (.int .i64 a.fe) ∧ W.cell? ⟨(ax.add (q * 3)).block, (ax.add (q * 3)).off + 2, none⟩ = some (.slice Bx a.d.length kx)) ∧ (W.cell? (ay.add (q * 3)) = some (.int .i64 b.st) ∧ W.cell? ⟨(ay.add (q * 3)).block, (ay.add (q * 3)).off + 1, none⟩ = some (.int .i64 b.fe) ∧ W.cell? ⟨(ay.add (q * 3)).block, (ay.add (q * 3)).off + 2, none⟩ = some (.slice By b.d.length ky)))
                      (first | with_reducible exact HK8.out _ (Below.refl _ _).drew | with_reducible exact HK8.out _ hb2)
                      (first
                        | (go_at_call 22
                           refine (same_any _ _ b b _ _ _ ⟨A7, c7, rfl, hz7.drew⟩ ⟨By, ky, rfl, hy7.drew⟩).mono ?_
                           rw [sameZ_self]
                           rintro e w2 ⟨rfl, hb2⟩
                           replace hb2 := (Below.refl W8.heap.size W8).drew.trans hb2))
                    go_wp2_with fail
                    go_meet
                    exact ⟨rfl, hb2⟩
                  case rest =>
                    obtain ⟨rfl, hbc9⟩ := hcut
                    have hb9 := hb8.trans (hbc9.mono hb8.size)
                    go_wp2
                    go_roundw
                    case rel => exact ⟨q + 1, 1, by go_num, by omega, rfl, Lib.hid (.inr ⟨rfl, by have := HCL.out.1; omega, HP0.out⟩), hbi.trans (hb9.mono hbi.size), ⟨_, rfl⟩, ⟨_, rfl⟩, _, rfl⟩
                    case measure => simp [intOf]; omega
            · obtain rfl : q = r.1.z.length := by omega
              obtain ⟨q0, f0, t0⟩ := F.rules m0
              obtain ⟨q1, f1, t1⟩ := F.rules m1
              obtain ⟨q2, f2, t2⟩ := F.rules m2
              obtain ⟨q3, f3, t3⟩ := F.rules m3
              go_upto_region 21 with fail
              go_cut [119] from 30 to 121 (fun s wx => s = .bool false ∧ Below wr.heap.size wr wx)
              case first =>
                by_cases c2 : c.op = 2
                · have e2 : (c.op == 2) = true := by simpa using c2
                  have hs : sameD x r.1 = true := by
                    rw [← HR.out]
                    rcases doZ_moved c HX.out.1 with h | ⟨h, _⟩
                    · rw [h]; exact sameD_iff.2 rfl
                    · exact absurd c2 h
                  have HS := Lib.hid hs
                  clear hs c2
                  rcases HN.out with h | ⟨h, _, hp⟩
                  · subst h
                    go_wp2_with (go_at_call 37; refine (refSame05_any x r.1 _ _ _ ⟨A, k, rfl, F.get m2⟩ ⟨A5, k5, rfl, F.get m0⟩).mono ?_; rw [HS.out]; rintro e w6 ⟨rfl, hb6⟩)
                    go_meet
                    exact ⟨rfl, hb6⟩
                  · subst h
                    have e1 : (r.2.e != 0) = false := by simpa using hp
                    clear hp
                    go_wp2_with (go_at_call 37; refine (refSame05_any x r.1 _ _ _ ⟨A, k, rfl, F.get m2⟩ ⟨A5, k5, rfl, F.get m0⟩).mono ?_; rw [HS.out]; rintro e w6 ⟨rfl, hb6⟩)
                    go_meet
                    exact ⟨rfl, hb6⟩
                · have e2 : (c.op == 2) = false := by simpa using c2
                  clear c2
                  rcases HN.out with h | ⟨h, _, hp⟩
                  · subst h
                    go_wp2
                    go_meet
                    exact ⟨rfl, Below.refl _ _⟩
                  · subst h
                    have e1 : (r.2.e != 0) = false := by simpa using hp
                    clear hp
                    go_wp2
                    go_meet
                    exact ⟨rfl, Below.refl _ _⟩
              case rest =>
                obtain ⟨rfl, hbc⟩ := hcut
                replace F := F.step hbc
                clear q0 q1 q2 q3 f0 f1 f2 f3 t0 t1 t2 t3 hbc
                obtain ⟨q1, f1, t1⟩ := F.rules m1
                obtain ⟨q3, f3, t3⟩ := F.rules m3
                go_wp2
                have hA := ((((F.at_ m3).set_ 0 (.int .i64 r.1.cap)).set_ 1 (.int .i64 r.1.opn)).set_ 2 (.int .i64 r.1.act)).set_ 3 (.slice A5 r.1.z.length k5)
                have ht := ((((Turned.refl wc (fun b => b = xb)).set (g := xb) rfl 0 (.int .i64 r.1.cap)).set (g := xb) rfl 1 (.int .i64 r.1.opn)).set (g := xb) rfl 2 (.int .i64 r.1.act)).set (g := xb) rfl 3 (.slice A5 r.1.z.length k5)
                have hDy := (F.get m1).boxed (F.at_ m3) (noB_d _ _ _ _ _ _) (fun h => h rfl) ht
                have hbt := F.below.trans (ht.below (B := w.heap.size) (fun b hb => by omega) F.below.size)
                go_roundw
                case rel => exact ⟨j + 1, r.1, A5, k5, by go_num, by omega, Lib.hid ⟨HOKY.out, by rw [HLEN.out]; exact HX.out.2⟩, hA, hDy, hbt, ⟨_, rfl⟩, ⟨_, rfl⟩, ⟨_, rfl⟩, ⟨_, rfl⟩, ⟨_, rfl⟩, ⟨_, rfl⟩, _, rfl⟩
                case measure => simp [intOf]; omega
        · obtain rfl : j = l.length := by omega
          go_wp2
          go_ret
          exact ⟨rfl, hbr⟩
    · rw [show chkD d = 1 from if_neg hok]
      clear hok
      go_wp2
      go_ret
      exact ⟨rfl, E.below⟩
end Go.Proofs.Ytcjmcfjjbicimaa
