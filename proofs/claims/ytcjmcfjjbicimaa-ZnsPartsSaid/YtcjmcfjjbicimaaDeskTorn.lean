/- The walk of zns's desk.torn. -/
import Derived.Test.YtcjmcfjjbicimaaDeskAppend
import Derived.Test.YtcjmcfjjbicimaaZoneTorn
namespace Go.Proofs.Ytcjmcfjjbicimaa
open Go.RowKit

theorem torn_len (z : Zn) (most : Int) (l : List UInt8) (n : Int) (_ : z.d.length ≤ 140737488355328) (hm : most ≤ 65536) : (tornZ z most l n).1.d.length ≤ 140737488355328 := by
  unfold tornZ
  split
  · exact Nat.zero_le _
  · rename_i h
    split
    · have := (roomZ_zero (by simpa using h)).2.2.2
      show (z.d ++ l.take n.toNat).length ≤ _
      rw [List.length_append, List.length_take]; omega
    · exact Nat.zero_le _
theorem appendK_dn (d : Zd) (i : Nat) (c : Cm) : (∃ a, (appendK d i c).2.2 = ⟨0, a, []⟩) ∧ ((appendK d i c).1 ≠ 0 → (appendK d i c).2.2 = dn0) ∧ (appendK d i c).2.1.length = d.z.length := by
  unfold appendK
  dsimp only
  have := room_len d i
  split
  · exact ⟨⟨0, rfl⟩, fun _ => rfl, rfl⟩
  · split
    · exact ⟨⟨0, rfl⟩, fun _ => rfl, this⟩
    · exact ⟨⟨_, rfl⟩, fun h => absurd rfl h, by simpa using this⟩

set_option maxRecDepth 100000 in
set_option maxHeartbeats 8000000 in
theorem torn_desk (g gz i : Nat) {X : Nat → Prop} (hX : ∀ b, g < b → X b) (d : Zd) (c : Cm) (w : World) (hd : DeskAt X w g gz d c dn0) (hi : c.zone = (i : Int)) (hl : i < d.z.length) (hl47 : d.z.length ≤ 140737488355328) (hcap : d.cap ≤ 65536) :
    Calls Try.prog 66 #[.pointer (some ⟨g, 0, none⟩)] w (DeskDo X w g gz d c (tornK d i c)) := by
  have hz : d.z[i]? = some d.z[i] := List.getElem?_eq_getElem hl
  unfold tornK
  rw [getD_at hl]
  generalize d.z[i] = z at hz ⊢
  obtain ⟨y, hy⟩ : ∃ y, tornZ z d.cap c.data c.n = y := ⟨_, rfl⟩
  rw [hy]
  obtain ⟨r, hr⟩ : ∃ r, appendK d i c = r := ⟨_, rfl⟩
  obtain ⟨hdn, hdn0, hrl⟩ := appendK_dn d i c
  rw [hr] at hdn hdn0 hrl ⊢
  obtain ⟨res, hres⟩ : ∃ res : Int × List Zn × Dn, (if r.1 ≠ 0 then (r.1, r.2.1, dn0) else if y.2 = 0 then (0, r.2.1.set i y.1, dn0) else (y.2, r.2.1, dn0)) = res := ⟨_, rfl⟩
  show Calls _ _ _ _ (DeskDo X w g gz d c (if r.1 ≠ 0 then (r.1, r.2.1, dn0) else if y.2 = 0 then (0, r.2.1.set i y.1, dn0) else (y.2, r.2.1, dn0)))
  rw [hres]
  have HY := Lib.hid hy; have HRES := Lib.hid hres; have HZ := Lib.hid hz; have HR := Lib.hid hr; have HDN := Lib.hid hdn; have HDN0 := Lib.hid hdn0
  clear hz hy hres hr hdn hdn0
  have E := (Kn.start w).give Stable.desk hd
  clear hd
  go_enter Try.func66, Try.ntmps66
  go_wp2_with fail
  refine (mine_any g gz i d c dn0 _ (E.get m0) hi hl).mono ?_
  rintro e w1 ⟨rfl, hb1⟩
  replace E := E.step hb1
  obtain ⟨cz0, _, _, _, _, hB, hR, _, _, _, _, hne⟩ := E.get m0
  obtain ⟨Az, ca, hzB, ⟨n0, n1, n2⟩, _⟩ := hR.at_ HZ.out
  have hyl : y.1.d.length ≤ 140737488355328 := by rw [← HY.out]; exact torn_len z _ _ _ hzB.len hcap
  replace E := (E.give Stable.bytes hzB).push 26 #[.int .i64 z.st, .int .i64 z.fe, .slice Az z.d.length ca]
  have hgz := hR.lt
  have hg := hB.lt
  clear hB hR
  go_wp2_with fail
  refine (append_desk g gz i hX d c _ (E.get m1) hi hl hl47 hcap).mono ?_
  rw [HR.out]
  rintro e w2 ⟨rfl, hd2, ht2⟩
  have hs1 := hb1.size
  have hB2 := (E.at_ m0).turned ht2 (by omega)
  have hz2 := (E.get m0).turned ht2 (fun b hb h => by rcases h with h | h; exact hb.1 h; exact hb.2.1 h)
  have ht := (Turned.of (S := fun b => b = g ∨ b = gz) E.below).trans ht2
  have hgw := ht2.size
  rw [World.size_alloc] at hgw
  clear E ht2 n0 n1 n2 hzB
  have HB2 := Lib.hid hB2; have HZ2 := Lib.hid hz2; have HT := Lib.hid ht
  clear hB2 hz2 ht
  by_cases h0 : r.1 = 0
  · have hrb : (r.1 == 0) = true := by simpa using h0
    have hres := HRES.out
    rw [if_neg (by simpa using h0)] at hres
    clear HRES
    have HRES := Lib.hid hres
    clear hres h0
    obtain ⟨a, ha⟩ := HDN.out
    rw [ha] at hd2
    have hd3 := hd2.setAt 0
    obtain ⟨_, _, _, _, _, hBg, _⟩ := hd2
    obtain ⟨qg, fg⟩ := hBg.rules
    unfold deskA at qg
    clear hBg
    have HD3 := Lib.hid hd3
    clear hd3
    go_upto_region 6 with fail
    have hb3 := HB2.out.far (p := ⟨g, 11, none⟩) (show w1.heap.size ≠ g by omega) (.int .i64 0)
    have hz3 := HZ2.out.far (g := g) (fun h => h.1 rfl) 11 (.int .i64 0)
    have ht3 := HT.out.set (g := g) (.inl rfl) 11 (.int .i64 0)
    have hs3 : (w2.setCell ⟨g, 11, none⟩ (.int .i64 0)).heap.size = w2.heap.size := by simp [World.setCell]
    have hd3 := HD3.out
    clear HD3 HB2 HZ2 HT qg fg
    generalize w2.setCell ⟨g, 11, none⟩ (.int .i64 0) = w3 at hb3 hz3 ht3 hd3 hs3 ⊢
    have hd4 := hd3
    obtain ⟨cz, A1, c1, A2, c2, hBg, _, hx1, _⟩ := hd4
    have E := ((((Kn.start w3).give Stable.desk hd3).give Stable.bytes hx1).give Stable.bytes hz3).know hBg |>.know hb3
    have HT3 := Lib.hid ht3
    clear hBg hx1 hd3 hz3 hb3 ht3
    have HK : Hid (∀ W, Below w3.heap.size w3 W → (∀ o, W.cell? ⟨w1.heap.size, o, none⟩ = (#[.int .i64 z.st, .int .i64 z.fe, .slice Az z.d.length ca] : Array Value)[o]?) ∧ (∀ o, W.cell? ⟨g, o, none⟩ = (deskA (d.with r.2.1) c dn0 gz cz A1 c1 A2 c2)[o]?)) := Lib.hid fun W h => ⟨((E.step h).rules m0).1, ((E.step h).rules m1).1⟩
    go_region_held3 (fun W => (∀ o, W.cell? ⟨w1.heap.size, o, none⟩ = (#[.int .i64 z.st, .int .i64 z.fe, .slice Az z.d.length ca] : Array Value)[o]?) ∧ (∀ o, W.cell? ⟨g, o, none⟩ = (deskA (d.with r.2.1) c dn0 gz cz A1 c1 A2 c2)[o]?))
      (first | with_reducible exact HK.out _ (Below.refl _ _).drew | with_reducible exact HK.out _ hb4 | with_reducible exact HS5)
      (first
        | (go_at_call 20
           refine (torn_any _ _ z d.cap c.n c.data _ _ w3.drew ⟨Az, ca, rfl, (E.step (Below.refl _ _).drew).get m0⟩ ((E.step (Below.refl _ _).drew).get m1)).mono ?_
           rw [HY.out]
           rintro e w4 ⟨v', rfl, ⟨A9, c9, rfl, how⟩, hb4⟩
           unfold zv
           have hs4 : w3.drew.heap.size = w3.heap.size := rfl
           have hyB := (IsB.of_own how hyl).more (K' := fun b => b ≠ g ∧ b ≠ gz ∧ X b) (fun b hb => ⟨by omega, by omega, hX _ (by omega)⟩)
           replace hb4 := (Below.refl w3.heap.size w3).drew.trans hb4)
        | (go_at_call 77
           refine (lay_any g gz i (d.with r.2.1) c dn0 y.1 A9 c9 y.2 w4 ((E.step hb4).get m2) hi (by show i < r.2.1.length; omega) hyB).mono ?_
           rintro e w5 ⟨rfl, hd5, ht5⟩
           have HS5 : (∀ o, w5.cell? ⟨w1.heap.size, o, none⟩ = (#[.int .i64 z.st, .int .i64 z.fe, .slice Az z.d.length ca] : Array Value)[o]?) ∧ (∀ o, w5.cell? ⟨g, o, none⟩ = (deskA (d.with r.2.1) c dn0 gz cz A1 c1 A2 c2)[o]?) := ⟨(((E.step hb4).at_ m0).turned ht5 (show ¬ w1.heap.size = gz by omega)).cell, (((E.step hb4).at_ m1).turned ht5 hne).cell⟩))
    have hres := HRES.out
    have HT5 := Lib.hid (((HT3.out.step hb4).trans (ht5.mono (S' := fun b => b = g ∨ b = gz) fun b hb => .inr hb)))
    clear HRES HS5 ht5
    by_cases h1 : y.2 = 0
    · rw [if_pos h1] at hres hd5
      have HRES := Lib.hid hres; have HD5 := Lib.hid hd5; have H1 := Lib.hid h1
      clear hres hd5 h1
      go_wp2
      go_ret
      rw [← HRES.out]
      exact ⟨by show Ending.returned (.int .i64 y.2) = _; rw [H1.out], HD5.out, HT5.out⟩
    · rw [if_neg h1] at hres hd5
      have HRES := Lib.hid hres; have HD5 := Lib.hid hd5
      clear hres hd5 h1
      go_wp2
      go_ret
      rw [← HRES.out]
      exact ⟨rfl, HD5.out, HT5.out⟩
  · have hrb : (r.1 == 0) = false := by simpa using h0
    have hres := HRES.out
    rw [if_pos (by simpa using h0)] at hres
    rw [HDN0.out h0] at hd2
    have HRES := Lib.hid hres
    clear hres h0
    go_wp2
    go_ret
    rw [← HRES.out]
    exact ⟨rfl, hd2, HT.out⟩
end Go.Proofs.Ytcjmcfjjbicimaa
