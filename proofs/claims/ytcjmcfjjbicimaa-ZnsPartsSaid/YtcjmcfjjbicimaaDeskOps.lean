/- The walks of zns's desk: reset, finish, close, open, read, fence. -/
import Derived.Test.YtcjmcfjjbicimaaDeskRoom
import Derived.Test.YtcjmcfjjbicimaaZoneTorn
namespace Go.Proofs.Ytcjmcfjjbicimaa
open Go.RowKit

theorem Stable.zoneL {g o : Nat} {z : Zn} {A : Option Addr} {c : Nat} : Stable (fun w => ZoneL w g o z A c) := fun _ _ h hb =>
  ⟨(hb.cell (World.block_lt_of_cell? _ _ h.1)).trans h.1, (hb.cell (World.block_lt_of_cell? _ _ h.2.1)).trans h.2.1, (hb.cell (World.block_lt_of_cell? _ _ h.2.2)).trans h.2.2⟩
theorem room_len (d : Zd) (i : Nat) : (roomK d i).2.length = d.z.length := by unfold roomK; (repeat' split) <;> simp
/-- what a desk's method brings about -/
def DeskDo (X : Nat → Prop) (w : World) (g gz : Nat) (d : Zd) (c : Cm) (r : Int × List Zn × Dn) (en : Ending) (w' : World) : Prop :=
  en = .returned (.int .i64 r.1) ∧ DeskAt X w' g gz (d.with r.2.1) c r.2.2 ∧ Turned w w' (fun b => b = g ∨ b = gz)
theorem rst_len (z : Zn) {N : Nat} (_ : z.d.length ≤ N) : (rstZ z).d.length ≤ N := by unfold rstZ; simp
theorem fin_len (z : Zn) {N : Nat} (h : z.d.length ≤ N) : (finZ z).d.length ≤ N := h
theorem close_len (z : Zn) {N : Nat} (h : z.d.length ≤ N) : (closeZ z).1.d.length ≤ N := by unfold closeZ; split; exact Nat.zero_le _; exact h
theorem open_len (z : Zn) (most : Int) {N : Nat} (h : z.d.length ≤ N) : (openZ z most).1.d.length ≤ N := by unfold openZ; split; exact Nat.zero_le _; split; exact Nat.zero_le _; exact h
theorem getD_at {d : Zd} {i : Nat} (hl : i < d.z.length) : d.z.getD i z0 = d.z[i] := by rw [List.getD_eq_getElem?_getD, List.getElem?_eq_getElem hl]; rfl

set_option maxRecDepth 100000 in
set_option maxHeartbeats 4000000 in
theorem reset_desk (g gz i : Nat) {X : Nat → Prop} (hX : ∀ b, g < b → X b) (d : Zd) (c : Cm) (w : World) (hd : DeskAt X w g gz d c dn0) (hi : c.zone = (i : Int)) (hl : i < d.z.length) :
    Calls Try.prog 61 #[.pointer (some ⟨g, 0, none⟩)] w (DeskDo X w g gz d c (0, d.z.set i (rstZ (d.z.getD i z0)), dn0)) := by
  have hz : d.z[i]? = some d.z[i] := List.getElem?_eq_getElem hl
  rw [getD_at hl]
  generalize d.z[i] = z at hz ⊢
  obtain ⟨y, hy⟩ : ∃ y, rstZ z = y := ⟨_, rfl⟩
  rw [hy]
  have HY := Lib.hid hy
  clear hy
  have HZ := Lib.hid hz
  clear hz
  have E := (Kn.start w).give Stable.desk hd
  clear hd
  go_enter Try.func61, Try.ntmps61
  go_wp2_with fail
  refine (mine_any g gz i d c dn0 _ (E.get m0) hi hl).mono ?_
  rintro e w1 ⟨rfl, hb1⟩
  replace E := E.step hb1
  obtain ⟨cz, A1, c1, A2, c2, hB, hR, hx1, hx2, hcz, hcz2, hne⟩ := E.get m0
  obtain ⟨Az, ca, hzB, ⟨n0, n1, n2⟩, _⟩ := hR.at_ HZ.out
  have hyl : y.d.length ≤ 140737488355328 := by rw [← HY.out]; exact rst_len z hzB.len
  have hgz := hR.lt
  have hg := hB.lt
  clear hB hR hx1 hx2
  go_wp2_with fail
  refine (reset_any _ z _ _ ⟨Az, ca, rfl, hzB⟩).mono ?_
  rw [HY.out]
  rintro e w2 ⟨v', rfl, ⟨A9, c9, rfl, how⟩, hb2⟩
  unfold zv
  have hyB := (IsB.of_own how hyl).more (K' := fun b => b ≠ g ∧ b ≠ gz ∧ X b) (fun b hb => ⟨by omega, by omega, hX _ (by omega)⟩)
  replace E := E.step hb2
  clear n0 n1 n2 how
  go_wp2_with fail
  refine (lay_any g gz i d c dn0 y A9 c9 0 w2 (E.get m0) hi hl hyB).mono ?_
  rintro e w3 ⟨rfl, hd3, ht3⟩
  go_wp2
  go_ret
  exact ⟨rfl, by simpa using hd3, (Turned.of E.below).trans (ht3.mono fun b hb => .inr hb)⟩
set_option maxRecDepth 100000 in
set_option maxHeartbeats 4000000 in
theorem finish_desk (g gz i : Nat) {X : Nat → Prop} (hX : ∀ b, g < b → X b) (d : Zd) (c : Cm) (w : World) (hd : DeskAt X w g gz d c dn0) (hi : c.zone = (i : Int)) (hl : i < d.z.length) :
    Calls Try.prog 62 #[.pointer (some ⟨g, 0, none⟩)] w (DeskDo X w g gz d c (0, d.z.set i (finZ (d.z.getD i z0)), dn0)) := by
  have hz : d.z[i]? = some d.z[i] := List.getElem?_eq_getElem hl
  rw [getD_at hl]
  generalize d.z[i] = z at hz ⊢
  obtain ⟨y, hy⟩ : ∃ y, finZ z = y := ⟨_, rfl⟩
  rw [hy]
  have HY := Lib.hid hy
  clear hy
  have HZ := Lib.hid hz
  clear hz
  have E := (Kn.start w).give Stable.desk hd
  clear hd
  go_enter Try.func62, Try.ntmps62
  go_wp2_with fail
  refine (mine_any g gz i d c dn0 _ (E.get m0) hi hl).mono ?_
  rintro e w1 ⟨rfl, hb1⟩
  replace E := E.step hb1
  obtain ⟨cz, A1, c1, A2, c2, hB, hR, hx1, hx2, hcz, hcz2, hne⟩ := E.get m0
  obtain ⟨Az, ca, hzB, ⟨n0, n1, n2⟩, _⟩ := hR.at_ HZ.out
  have hyl : y.d.length ≤ 140737488355328 := by rw [← HY.out]; exact fin_len z hzB.len
  have hgz := hR.lt
  have hg := hB.lt
  clear hB hR hx1 hx2
  go_wp2_with fail
  refine (finish_any _ z _ _ ⟨Az, ca, rfl, hzB⟩).mono ?_
  rw [HY.out]
  rintro e w2 ⟨v', rfl, ⟨A9, c9, rfl, how⟩, hb2⟩
  unfold zv
  have hyB := (IsB.of_own how hyl).more (K' := fun b => b ≠ g ∧ b ≠ gz ∧ X b) (fun b hb => ⟨by omega, by omega, hX _ (by omega)⟩)
  replace E := E.step hb2
  clear n0 n1 n2 how
  go_wp2_with fail
  refine (lay_any g gz i d c dn0 y A9 c9 0 w2 (E.get m0) hi hl hyB).mono ?_
  rintro e w3 ⟨rfl, hd3, ht3⟩
  go_wp2
  go_ret
  exact ⟨rfl, by simpa using hd3, (Turned.of E.below).trans (ht3.mono fun b hb => .inr hb)⟩
set_option maxRecDepth 100000 in
set_option maxHeartbeats 4000000 in
theorem close_desk (g gz i : Nat) {X : Nat → Prop} (hX : ∀ b, g < b → X b) (d : Zd) (c : Cm) (w : World) (hd : DeskAt X w g gz d c dn0) (hi : c.zone = (i : Int)) (hl : i < d.z.length) :
    Calls Try.prog 64 #[.pointer (some ⟨g, 0, none⟩)] w (DeskDo X w g gz d c (closeK d i)) := by
  have hz : d.z[i]? = some d.z[i] := List.getElem?_eq_getElem hl
  unfold closeK
  rw [getD_at hl]
  generalize d.z[i] = z at hz ⊢
  obtain ⟨y, hy⟩ : ∃ y, closeZ z = y := ⟨_, rfl⟩
  rw [hy]
  obtain ⟨res, hres⟩ : ∃ res : Int × List Zn × Dn, (if y.2 = 0 then (0, d.z.set i y.1, dn0) else (y.2, d.z, dn0)) = res := ⟨_, rfl⟩
  show Calls _ _ _ _ (DeskDo X w g gz d c (if y.2 = 0 then (0, d.z.set i y.1, dn0) else (y.2, d.z, dn0)))
  rw [hres]
  have HRES := Lib.hid hres
  clear hres
  have HY := Lib.hid hy
  clear hy
  have HZ := Lib.hid hz
  clear hz
  have E := (Kn.start w).give Stable.desk hd
  clear hd
  go_enter Try.func64, Try.ntmps64
  go_wp2_with fail
  refine (mine_any g gz i d c dn0 _ (E.get m0) hi hl).mono ?_
  rintro e w1 ⟨rfl, hb1⟩
  replace E := E.step hb1
  obtain ⟨cz, A1, c1, A2, c2, hB, hR, hx1, hx2, hcz, hcz2, hne⟩ := E.get m0
  obtain ⟨Az, ca, hzB, ⟨n0, n1, n2⟩, _⟩ := hR.at_ HZ.out
  have hyl : y.1.d.length ≤ 140737488355328 := by rw [← HY.out]; exact close_len z hzB.len
  have hgz := hR.lt
  have hg := hB.lt
  clear hB hR hx1 hx2
  go_wp2_with fail
  refine (close_any _ z _ _ ⟨Az, ca, rfl, hzB⟩).mono ?_
  rw [HY.out]
  rintro e w2 ⟨v', rfl, ⟨A9, c9, rfl, how⟩, hb2⟩
  unfold zv
  have hyB := (IsB.of_own how hyl).more (K' := fun b => b ≠ g ∧ b ≠ gz ∧ X b) (fun b hb => ⟨by omega, by omega, hX _ (by omega)⟩)
  replace E := E.step hb2
  clear n0 n1 n2 how
  go_wp2_with fail
  refine (lay_any g gz i d c dn0 y.1 A9 c9 y.2 w2 (E.get m0) hi hl hyB).mono ?_
  rintro e w3 ⟨rfl, hd3, ht3⟩
  go_wp2
  go_ret
  have hr := HRES.out
  by_cases h0 : y.2 = 0
  · rw [if_pos h0] at hd3 hr
    subst hr
    exact ⟨by show Ending.returned (.int .i64 y.2) = _; rw [h0], hd3, (Turned.of E.below).trans (ht3.mono fun b hb => .inr hb)⟩
  · rw [if_neg h0] at hd3 hr
    subst hr
    exact ⟨rfl, hd3, (Turned.of E.below).trans (ht3.mono fun b hb => .inr hb)⟩

set_option maxRecDepth 100000 in
set_option maxHeartbeats 8000000 in
theorem open_desk (g gz i : Nat) {X : Nat → Prop} (hX : ∀ b, g < b → X b) (d : Zd) (c : Cm) (w : World) (hd : DeskAt X w g gz d c dn0) (hi : c.zone = (i : Int)) (hl : i < d.z.length) (hl47 : d.z.length ≤ 140737488355328) :
    Calls Try.prog 63 #[.pointer (some ⟨g, 0, none⟩)] w (DeskDo X w g gz d c (openK d i)) := by
  have hz : d.z[i]? = some d.z[i] := List.getElem?_eq_getElem hl
  unfold openK
  rw [getD_at hl]
  generalize d.z[i] = z at hz ⊢
  obtain ⟨y, hy⟩ : ∃ y, openZ z d.cap = y := ⟨_, rfl⟩
  rw [hy]
  obtain ⟨res, hres⟩ : ∃ res : Int × List Zn × Dn, (if y.2 ≠ 0 then (y.2, d.z, dn0) else if (roomK d i).1 ≠ 0 then ((roomK d i).1, (roomK d i).2, dn0) else (0, (roomK d i).2.set i y.1, dn0)) = res := ⟨_, rfl⟩
  show Calls _ _ _ _ (DeskDo X w g gz d c (if y.2 ≠ 0 then (y.2, d.z, dn0) else if (roomK d i).1 ≠ 0 then ((roomK d i).1, (roomK d i).2, dn0) else (0, (roomK d i).2.set i y.1, dn0)))
  rw [hres]
  have HY := Lib.hid hy; have HRES := Lib.hid hres; have HZ := Lib.hid hz
  clear hz hy hres
  have hd0 := hd
  obtain ⟨cz, A1, c1, A2, c2, hB, hR, hx1, hx2, hcz, hcz2, hne⟩ := hd0
  have E := (((Kn.start w).give Stable.desk hd).give Stable.rowZ hR).know hB
  obtain ⟨Az, ca, hzB, ⟨n0, n1, n2⟩, _⟩ := hR.at_ HZ.out
  have hyl : y.1.d.length ≤ 140737488355328 := by rw [← HY.out]; exact open_len z _ hzB.len
  replace E := (E.give Stable.bytes hzB).give Stable.zoneL ⟨n0, n1, n2⟩
  have hgz := hR.lt
  have hg := hB.lt
  clear hB hR hx1 hx2 hzB n0 n1 n2 hd
  go_enter Try.func63, Try.ntmps63
  go_upto_region 1 with fail
  go_cut [3, 4] (fun s3 s4 wx => ∃ bx A9 c9, s3 = .pointer (some ⟨bx, 0, none⟩) ∧ s4 = .int .i64 y.2 ∧ w.heap.size ≤ bx ∧ Blk wx bx 26 #[.int .i64 y.1.st, .int .i64 y.1.fe, .slice A9 y.1.d.length c9] ∧ IsB wx (fun b => b ≠ g ∧ b ≠ gz ∧ X b) (.slice A9 y.1.d.length c9) y.1.d ∧ Below w.heap.size w wx)
  case first =>
    have HK : Hid (∀ W, Below w.heap.size w W → (∀ o, W.cell? ⟨g, o, none⟩ = (deskA d c dn0 gz cz A1 c1 A2 c2)[o]?) ∧ W.cell? ⟨gz, i * 3, none⟩ = some (.int .i64 z.st) ∧ W.cell? ⟨gz, i * 3 + 1, none⟩ = some (.int .i64 z.fe) ∧ W.cell? ⟨gz, i * 3 + 2, none⟩ = some (.slice Az z.d.length ca)) := Lib.hid fun W h => ⟨((E.step h).rules m0).1, (E.step h).get m0⟩
    have hbZ : Below w.heap.size w (w.alloc (.cells #[.int .i64 0, .int .i64 0, .slice none 0 0] 26)).drew := ((Below.refl _ _).alloc (Nat.le_refl _) _).drew
    have hZ0 : Blk (w.alloc (.cells #[.int .i64 0, .int .i64 0, .slice none 0 0] 26)).drew w.heap.size 26 #[.int .i64 0, .int .i64 0, .slice none 0 0] := (Blk.new w _ _ rfl).drew
    go_region_held3 (fun W => (∀ o, W.cell? ⟨g, o, none⟩ = (deskA d c dn0 gz cz A1 c1 A2 c2)[o]?) ∧ W.cell? ⟨gz, i * 3, none⟩ = some (.int .i64 z.st) ∧ W.cell? ⟨gz, i * 3 + 1, none⟩ = some (.int .i64 z.fe) ∧ W.cell? ⟨gz, i * 3 + 2, none⟩ = some (.slice Az z.d.length ca))
      (first | with_reducible exact HK.out _ (Below.refl _ _).drew | with_reducible exact HK.out _ hbZ | with_reducible exact HK.out _ hb1 | with_reducible exact HK.out _ (hb1.alloc hb1.size _) | with_reducible exact HK.out _ hb2 | with_reducible exact HK.out _ (hb2.alloc hb2.size _) | with_reducible exact HK.out _ (below_set3 hb2 (Nat.le_refl _)) | with_reducible exact HK.out _ (below_set3 hb2 hb1.size))
      (first
        | (go_at_call 75
           refine (mine_any g gz i d c dn0 _ ((E.step hbZ).get m3) hi hl).mono ?_
           rintro e w1 ⟨rfl, hb1⟩
           have hZ := hZ0.step hb1
           obtain ⟨qz, fz⟩ := hZ.rules
           have tz := hZ.lt
           replace hb1 := hbZ.trans (hb1.mono hbZ.size))
        | (go_at_call 75
           refine (mine_any g gz i d c dn0 _ ((E.step (Below.refl _ _).drew).get m3) hi hl).mono ?_
           rintro e w1 ⟨rfl, hb1⟩
           replace hb1 := (Below.refl w.heap.size w).drew.trans hb1)
        | (go_at_call 30
           refine (open_any _ z d.cap _ w1 ⟨Az, ca, rfl, (E.step hb1).get m1⟩).mono ?_
           rw [HY.out]
           rintro e w2 ⟨v', rfl, ⟨A9, c9, rfl, how⟩, hb2⟩
           unfold zv
           have hyB := IsB.of_own how hyl
           try (have hZ2 := hZ.step hb2; obtain ⟨qz2, fz2⟩ := hZ2.rules)
           replace hb2 := hb1.trans (hb2.mono hb1.size))
        | (go_at_call 30
           refine (open_any _ z d.cap _ (w1.alloc (.cells #[.int .i64 0, .int .i64 0, .slice none 0 0] 26)) ⟨Az, ca, rfl, (E.step (hb1.alloc hb1.size _)).get m1⟩).mono ?_
           rw [HY.out]
           rintro e w2 ⟨v', rfl, ⟨A9, c9, rfl, how⟩, hb2⟩
           unfold zv
           have hyB := IsB.of_own how hyl
           have hZ2 := (Blk.new w1 26 #[.int .i64 0, .int .i64 0, .slice none 0 0] rfl).step hb2
           obtain ⟨qz2, fz2⟩ := hZ2.rules
           have tz2 := hZ2.lt
           replace hb2 := (hb1.alloc hb1.size (.cells #[.int .i64 0, .int .i64 0, .slice none 0 0] 26)).trans (hb2.mono (Nat.le_trans hb1.size (by rw [World.size_alloc]; omega))))
        )
    all_goals go_wp2_with fail
    all_goals go_meet
    all_goals have hs1 := hb1.size
    all_goals first
      | exact ⟨w2.heap.size, A9, c9, rfl, rfl, hb2.size, Blk.new _ _ _ rfl, (hyB.alloc _).more (fun b hb => ⟨by omega, by omega, hX _ (by omega)⟩), hb2.alloc hb2.size _⟩
      | exact ⟨w1.heap.size, A9, c9, rfl, rfl, hs1, ((hZ2.set_ 0 _).set_ 1 _).set_ 2 _, (((hyB.far (by rw [World.size_alloc]; omega) 0 _).far (by rw [World.size_alloc]; omega) 1 _).far (by rw [World.size_alloc]; omega) 2 _).more (fun b hb => ⟨by rw [World.size_alloc] at hb; omega, by rw [World.size_alloc] at hb; omega, hX _ (by rw [World.size_alloc] at hb; omega)⟩), below_set3 hb2 hs1⟩
      | exact ⟨w.heap.size, A9, c9, rfl, rfl, Nat.le_refl _, ((hZ2.set_ 0 _).set_ 1 _).set_ 2 _, (((hyB.far (by omega) 0 _).far (by omega) 1 _).far (by omega) 2 _).more (fun b hb => ⟨by omega, by omega, hX _ (by omega)⟩), below_set3 hb2 (Nat.le_refl _)⟩
  case rest =>
    obtain ⟨bx, A9, c9, rfl, rfl, hbx, hBx, hyB, hbc⟩ := hcut
    replace E := ((E.step hbc).know hBx).give Stable.bytes hyB
    clear hBx hyB
    by_cases hy0 : y.2 = 0
    · have hyb : (y.2 == 0) = true := by simpa using hy0
      have hr0 := HRES.out
      rw [if_neg (by simpa using hy0)] at hr0
      have HY0 := Lib.hid hy0
      clear HRES HY hy0
      have HRES := Lib.hid hr0
      clear hr0
      go_wp2_with fail
      refine (room_desk g gz i hX d c dn0 wc (E.get m4) hi hl hl47).mono ?_
      have hlen := room_len d i
      rintro e w4 ⟨rfl, hd4, ht4⟩
      have hB4 := (E.at_ m0).turned ht4 (show ¬ bx = gz by omega)
      have hy4 := (E.get m0).turned ht4 (fun b hb => hb.2.1)
      have ht := (Turned.of (S := fun b => b = gz) E.below).trans ht4
      clear E ht4 hbc
      have hres := HRES.out
      clear HRES
      generalize roomK d i = r at hd4 hres hlen ⊢
      obtain ⟨q0, fq, tq⟩ : (∀ o, w4.cell? ⟨bx, o, none⟩ = _) ∧ (∀ o, w4.frozen? ⟨bx, o, none⟩ = false) ∧ bx < w4.heap.size := ⟨hB4.cell, hB4.frozen, hB4.lt⟩
      have HD4 := Lib.hid hd4; have HY4 := Lib.hid hy4; have HT := Lib.hid ht
      clear hB4 hd4 hy4 ht
      by_cases h0 : r.1 = 0
      · have hrb : (r.1 == 0) = true := by simpa using h0
        rw [if_neg (by simpa using h0)] at hres
        have HRES := Lib.hid hres
        clear hres h0
        go_wp2_with fail
        refine (lay_any g gz i (d.with r.2) c dn0 y.1 A9 c9 0 w4 HD4.out hi (by show i < r.2.length; omega) HY4.out).mono ?_
        rintro e w5 ⟨rfl, hd5, ht5⟩
        go_wp2
        go_ret
        rw [← HRES.out]
        simp only [if_true] at hd5
        exact ⟨rfl, hd5, (HT.out.trans ht5).mono fun b hb => .inr hb⟩
      · have hrb : (r.1 == 0) = false := by simpa using h0
        rw [if_pos (by simpa using h0)] at hres
        have HRES := Lib.hid hres
        clear hres h0
        go_wp2
        go_ret
        rw [← HRES.out]
        exact ⟨rfl, HD4.out, HT.out.mono fun b hb => .inr hb⟩
    · have hyb : (y.2 == 0) = false := by simpa using hy0
      have hr0 := HRES.out
      rw [if_pos (by simpa using hy0)] at hr0
      have HR0 := Lib.hid hr0
      clear HRES hr0 hy0
      go_wp2
      go_ret
      rw [← HR0.out]
      exact ⟨rfl, E.get m4, (Turned.of E.below)⟩
end Go.Proofs.Ytcjmcfjjbicimaa
