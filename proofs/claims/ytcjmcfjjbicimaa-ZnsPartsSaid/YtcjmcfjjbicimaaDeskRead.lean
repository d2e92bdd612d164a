/- The walks of zns's desk: read, fence. -/
import Derived.Test.YtcjmcfjjbicimaaDeskOps
import Derived.Test.YtcjmcfjjbicimaaZoneTorn
namespace Go.Proofs.Ytcjmcfjjbicimaa
open Go.RowKit

theorem read_len (z : Zn) (off n : Int) {N : Nat} (h : z.d.length ≤ N) : (readZ z off n).1.length ≤ N := by
  unfold readZ
  split
  · exact Nat.le_trans (by rw [List.length_take, List.length_drop]; omega) h
  · exact Nat.zero_le _
theorem DeskAt.setData {w : World} {X : Nat → Prop} {g gz : Nat} {d : Zd} {c : Cm} {dn : Dn} (h : DeskAt X w g gz d c dn) {A : Option Addr} {l : List UInt8} {cc : Nat} (hl : IsB w (fun b => b ≠ g ∧ b ≠ gz ∧ X b) (.slice A l.length cc) l) : DeskAt X (w.setCell ⟨g, 12, none⟩ (.slice A l.length cc)) g gz d c ⟨dn.e, dn.at_, l⟩ := by
  obtain ⟨cz, A1, c1, A2, c2, h1, h2, h3, h4, h5, h6, h7⟩ := h
  have ht := (Turned.refl w (fun b => b = g)).set (g := g) rfl 12 (.slice A l.length cc)
  exact ⟨cz, A1, c1, A, cc, h1.set_ 12 _, h2.turned ht (fun e => h7 e.symm) (fun b hb => hb.1), h3.turned ht (fun b hb => hb.1), hl.turned ht (fun b hb => hb.1), h5, h6, h7⟩

set_option maxRecDepth 100000 in
set_option maxHeartbeats 8000000 in
theorem read_desk (g gz i : Nat) {X : Nat → Prop} (hX : ∀ b, g < b → X b) (d : Zd) (c : Cm) (w : World) (hd : DeskAt X w g gz d c dn0) (hi : c.zone = (i : Int)) (hl : i < d.z.length) (hoff : c.off ≤ 9223372036854775807) :
    Calls Try.prog 60 #[.pointer (some ⟨g, 0, none⟩)] w (DeskDo X w g gz d c (readK d i c)) := by
  have hz : d.z[i]? = some d.z[i] := List.getElem?_eq_getElem hl
  unfold readK
  rw [getD_at hl]
  generalize d.z[i] = z at hz ⊢
  obtain ⟨y, hy⟩ : ∃ y, readZ z c.off c.n = y := ⟨_, rfl⟩
  rw [hy]
  show Calls _ _ _ _ (DeskDo X w g gz d c (y.2, d.z, ⟨0, 0, y.1⟩))
  have HY := Lib.hid hy; have HZ := Lib.hid hz
  clear hz hy
  have hd0 := hd
  obtain ⟨cz, A1, c1, A2, c2, hB, hR, hx1, hx2, hcz, hcz2, hne⟩ := hd0
  have E := (((Kn.start w).give Stable.desk hd).give Stable.rowZ hR).know hB
  obtain ⟨Az, ca, hzB, ⟨n0, n1, n2⟩, _⟩ := hR.at_ HZ.out
  have hyl : y.1.length ≤ 140737488355328 := by rw [← HY.out]; exact read_len z _ _ hzB.len
  replace E := (E.give Stable.bytes hzB).give Stable.zoneL ⟨n0, n1, n2⟩
  have hgz := hR.lt
  have hg := hB.lt
  clear hB hR hx1 hx2 hzB n0 n1 n2 hd
  go_enter Try.func60, Try.ntmps60
  go_upto_region 1 with fail
  have HK : Hid (∀ W, Below w.heap.size w W → (∀ o, W.cell? ⟨g, o, none⟩ = (deskA d c dn0 gz cz A1 c1 A2 c2)[o]?) ∧ W.cell? ⟨gz, i * 3, none⟩ = some (.int .i64 z.st) ∧ W.cell? ⟨gz, i * 3 + 1, none⟩ = some (.int .i64 z.fe) ∧ W.cell? ⟨gz, i * 3 + 2, none⟩ = some (.slice Az z.d.length ca)) := Lib.hid fun W h => ⟨((E.step h).rules m0).1, (E.step h).get m0⟩
  go_region_held3 (fun W => (∀ o, W.cell? ⟨g, o, none⟩ = (deskA d c dn0 gz cz A1 c1 A2 c2)[o]?) ∧ W.cell? ⟨gz, i * 3, none⟩ = some (.int .i64 z.st) ∧ W.cell? ⟨gz, i * 3 + 1, none⟩ = some (.int .i64 z.fe) ∧ W.cell? ⟨gz, i * 3 + 2, none⟩ = some (.slice Az z.d.length ca))
    (first | with_reducible exact HK.out _ (Below.refl _ _).drew | with_reducible exact HK.out _ hb1 | with_reducible exact HK.out _ hb2)
    (first
      | (go_at_call 75
         refine (mine_any g gz i d c dn0 _ ((E.step (Below.refl _ _).drew).get m3) hi hl).mono ?_
         rintro e w1 ⟨rfl, hb1⟩
         replace hb1 := (Below.refl w.heap.size w).drew.trans hb1)
      | (go_at_call 16
         refine (read_any _ z c.off c.n _ w1 ⟨Az, ca, rfl, (E.step hb1).get m1⟩ hoff).mono ?_
         rw [HY.out]
         rintro e w2 ⟨v', rfl, ⟨A9, c9, rfl, how⟩, hb2⟩
         have hyB := IsB.of_own how hyl
         replace hb2 := hb1.trans (hb2.mono hb1.size)))
  have hs1 := hb1.size
  replace hyB := hyB.more (K' := fun b => b ≠ g ∧ b ≠ gz ∧ X b) (fun b hb => ⟨by omega, by omega, hX _ (by omega)⟩)
  replace E := E.step hb2
  obtain ⟨q2, f2, t2⟩ := E.rules m0
  unfold deskA at q2
  have hyd := ((E.get m3).setData hyB)
  have HYD := Lib.hid hyd
  clear hyd hyB how
  go_wp2
  go_ret
  exact ⟨rfl, HYD.out, (Turned.of E.below).set (.inl rfl) _ _⟩

theorem set_mid (l : List Value) (o : Nat) (x0 x1 x2 : Value) (h0 : l[o]? = some x0) (h2 : l[o + 2]? = some x2) : ((l.set o x0).set (o + 1) x1).set (o + 2) x2 = l.set (o + 1) x1 := by
  apply List.ext_getElem?
  intro k
  simp only [List.getElem?_set, List.length_set]
  by_cases k2 : o + 2 = k
  · subst k2
    obtain ⟨hk, _⟩ := List.getElem?_eq_some_iff.1 h2
    rw [if_pos rfl, if_pos hk, if_neg (by omega), h2]
  · rw [if_neg k2]
    by_cases k1 : o + 1 = k
    · rw [if_pos k1, if_pos k1]
    · rw [if_neg k1, if_neg k1]
      by_cases k0 : o = k
      · subst k0
        obtain ⟨hk, _⟩ := List.getElem?_eq_some_iff.1 h0
        rw [if_pos rfl, if_pos hk, h0]
      · rw [if_neg k0]
theorem RowZ.fence {w : World} {g : Nat} {t : TypeId} {K : Nat → Prop} {l : List Zn} {z : Zn} (h : RowZ w g t K l) {i : Nat} (hz : l[i]? = some z) (e : Int) (hK : ∀ b, K b → b ≠ g) : RowZ (w.setCell ⟨g, i * 3 + 1, none⟩ (.int .i64 e)) g t K (l.set i ⟨z.st, e, z.d⟩) := by
  have ht := (Turned.refl w (fun b => b = g)).set (g := g) rfl (i * 3 + 1) (.int .i64 e)
  obtain ⟨hi, _⟩ := List.getElem?_eq_some_iff.1 hz
  obtain ⟨cs, sp, h1, h2⟩ := h
  have hlen : cs.length = l.length * 3 := h2.len
  obtain ⟨es, hes, hcell⟩ := h2.at_ hz
  obtain ⟨A, c, rfl, hB⟩ := rp_isZ hes
  have e3 : Rp.zone.size = 3 := rfl
  have hs := (h2.set (isZ_rp (z := ⟨z.st, e, z.d⟩) hB) hi).turned ht hK
  refine ⟨_, sp, ?_, hs⟩
  have hb := h1.set_ (i * 3 + 1) (.int .i64 e)
  have hfit : i * 3 + 3 ≤ (cs ++ sp).length := by rw [List.length_append]; omega
  have hg : ∀ (k : Nat) u, (cellsZ z A c)[k]? = some u → (cs ++ sp)[i * 3 + k]? = some u := fun k u hu => by
    have := hcell k u hu
    rw [e3] at this
    rw [List.getElem?_append_left (List.getElem?_eq_some_iff.1 this).1]; exact this
  have e' := set3_eq (cs ++ sp) (i * 3) (.int .i64 z.st) (.int .i64 e) (.slice A z.d.length c) hfit
  rw [set_mid (cs ++ sp) (i * 3) _ _ _ (hg 0 _ rfl) (hg 2 _ rfl)] at e'
  rw [List.setIfInBounds_toArray, e', List.take_append_of_le_length (by omega), List.drop_append_of_le_length (by omega)] at hb
  have e2 : (i + 1) * Rp.zone.size = i * 3 + 3 := by show (i + 1) * 3 = _; omega
  rw [e2, e3]
  simpa [cellsZ] using hb
theorem DeskAt.fence {w : World} {X : Nat → Prop} {g gz i : Nat} {d : Zd} {c : Cm} {dn : Dn} {z : Zn} (h : DeskAt X w g gz d c dn) (hz : d.z[i]? = some z) (e : Int) :
    DeskAt X (w.setCell ⟨gz, i * 3 + 1, none⟩ (.int .i64 e)) g gz (d.with (d.z.set i ⟨z.st, e, z.d⟩)) c dn := by
  obtain ⟨cz, A1, c1, A2, c2, h1, h2, h3, h4, h5, h6, h7⟩ := h
  have ht := (Turned.refl w (fun b => b = gz)).set (g := gz) rfl (i * 3 + 1) (.int .i64 e)
  have el : (d.z.set i ⟨z.st, e, z.d⟩).length = d.z.length := List.length_set
  refine ⟨cz, A1, c1, A2, c2, ?_, h2.fence hz e (fun b hb => hb.2.1), h3.turned ht (fun b hb => hb.2.1), h4.turned ht (fun b hb => hb.2.1), by show (d.z.set i _).length ≤ cz; rw [el]; exact h5, h6, h7⟩
  have := h1.turned ht h7
  unfold deskA Zd.with
  rw [el]
  exact this

set_option maxRecDepth 100000 in
set_option maxHeartbeats 8000000 in
theorem fence_desk (g gz i : Nat) {X : Nat → Prop} (d : Zd) (c : Cm) (w : World) (hd : DeskAt X w g gz d c dn0) (hi : c.zone = (i : Int)) (hl : i < d.z.length) :
    Calls Try.prog 65 #[.pointer (some ⟨g, 0, none⟩)] w (DeskDo X w g gz d c (fenceK d i c)) := by
  have hz : d.z[i]? = some d.z[i] := List.getElem?_eq_getElem hl
  unfold fenceK
  rw [getD_at hl]
  generalize d.z[i] = z at hz ⊢
  obtain ⟨res, hres⟩ : ∃ res : Int × List Zn × Dn, (if c.epoch ≤ z.fe then (42, d.z, dn0) else (0, d.z.set i ⟨z.st, c.epoch, z.d⟩, dn0)) = res := ⟨_, rfl⟩
  rw [hres]
  have HRES := Lib.hid hres; have HZ := Lib.hid hz
  clear hz hres
  have hd0 := hd
  obtain ⟨cz, A1, c1, A2, c2, hB, hR, hx1, hx2, hcz, hcz2, hne⟩ := hd0
  have E := (((Kn.start w).give Stable.desk hd).give Stable.rowZ hR).know hB
  obtain ⟨Az, ca, hzB, ⟨n0, n1, n2⟩, _⟩ := hR.at_ HZ.out
  replace E := (E.give Stable.bytes hzB).give Stable.zoneL ⟨n0, n1, n2⟩
  have hgz := hR.lt
  have hg := hB.lt
  clear hB hR hx1 hx2 hzB n0 n1 n2 hd
  go_enter Try.func65, Try.ntmps65
  go_upto_region 1 with fail
  have HK : Hid (∀ W, Below w.heap.size w W → (∀ o, W.cell? ⟨g, o, none⟩ = (deskA d c dn0 gz cz A1 c1 A2 c2)[o]?) ∧ W.cell? ⟨gz, i * 3 + 1, none⟩ = some (.int .i64 z.fe)) := Lib.hid fun W h => ⟨((E.step h).rules m0).1, ((E.step h).get m0).2.1⟩
  go_region_held3 (fun W => (∀ o, W.cell? ⟨g, o, none⟩ = (deskA d c dn0 gz cz A1 c1 A2 c2)[o]?) ∧ W.cell? ⟨gz, i * 3 + 1, none⟩ = some (.int .i64 z.fe))
    (first | with_reducible exact HK.out _ (Below.refl _ _).drew | with_reducible exact HK.out _ hb1)
    (first
      | (go_at_call 75
         refine (mine_any g gz i d c dn0 _ ((E.step (Below.refl _ _).drew).get m3) hi hl).mono ?_
         rintro e w1 ⟨rfl, hb1⟩
         replace hb1 := (Below.refl w.heap.size w).drew.trans hb1))
  replace E := E.step hb1
  clear HK
  by_cases hle : c.epoch ≤ z.fe
  · have hr := HRES.out
    rw [if_pos hle] at hr
    have HR := Lib.hid hr
    clear hr HRES
    go_wp2
    go_ret
    rw [← HR.out]
    exact ⟨rfl, E.get m3, Turned.of E.below⟩
  · have hr := HRES.out
    rw [if_neg hle] at hr
    have HR := Lib.hid hr
    clear hr HRES
    go_upto_region 3 with fail
    have HK : Hid (∀ W, Below w1.heap.size w1 W → (∀ o, W.cell? ⟨g, o, none⟩ = (deskA d c dn0 gz cz A1 c1 A2 c2)[o]?)) := Lib.hid fun W h => ((E.step h).rules m0).1
    have HS : Hid (∀ W, Below w1.heap.size w1 W → ∀ u, (∀ o, (W.setCell ⟨gz, i * 3 + 1, none⟩ u).cell? ⟨g, o, none⟩ = (deskA d c dn0 gz cz A1 c1 A2 c2)[o]?)) := Lib.hid fun W h u => (((E.step h).at_ m0).far (p := ⟨gz, i * 3 + 1, none⟩) hne u).cell
    go_region_held3 (fun W => (∀ o, W.cell? ⟨g, o, none⟩ = (deskA d c dn0 gz cz A1 c1 A2 c2)[o]?))
      (first | with_reducible exact HK.out _ (Below.refl _ _).drew | with_reducible exact HK.out _ hb2 | with_reducible exact HS.out _ hb2 _)
      (first
        | (go_at_call 75
           refine (mine_any g gz i d c dn0 _ ((E.step (Below.refl _ _).drew).get m3) hi hl).mono ?_
           rintro e w2 ⟨rfl, hb2⟩
           replace hb2 := (Below.refl w1.heap.size w1).drew.trans hb2
           obtain ⟨_, _, _, ⟨_, n1, _⟩, ⟨_, f1, _⟩⟩ := ((E.step hb2).get m2).at_ HZ.out))
    go_wp2
    go_ret
    rw [← HR.out]
    exact ⟨rfl, ((E.step hb2).get m3).fence HZ.out _, ((Turned.of E.below).step hb2).set (.inr rfl) _ _⟩
end Go.Proofs.Ytcjmcfjjbicimaa
