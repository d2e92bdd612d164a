/- zns's desk: what is known of it; the walks of mine, lay. -/
import Derived.Test.YtcjmcfjjbicimaaZnsPlain
import Derived.Deep.RegionHeld3
import Derived.Deep.QuietTactic
import Derived.BigQuiet
import Derived.Deep.DeepCutAuto
namespace Go.Proofs.Ytcjmcfjjbicimaa
open Go.RowKit

/-- the desk's cells -/
abbrev deskA (d : Zd) (c : Cm) (dn : Dn) (gz cz : Nat) (A1 : Option Addr) (c1 : Nat) (A2 : Option Addr) (c2 : Nat) : Array Value :=
  #[.int .i64 d.cap, .int .i64 d.opn, .int .i64 d.act, .slice (some ⟨gz, 0, none⟩) d.z.length cz, .int .i64 c.op, .int .i64 c.zone, .int .i64 c.epoch, .int .i64 c.off, .int .i64 c.n, .slice A1 c.data.length c1, .int .i64 dn.e, .int .i64 dn.at_, .slice A2 dn.data.length c2]
/-- the desk lies in block g, its zones in gz -/
def DeskAt (X : Nat → Prop) (w : World) (g gz : Nat) (d : Zd) (c : Cm) (dn : Dn) : Prop :=
  ∃ cz A1 c1 A2 c2, Blk w g 85 (deskA d c dn gz cz A1 c1 A2 c2) ∧ RowZ w gz 26 (fun b => b ≠ g ∧ b ≠ gz ∧ X b) d.z ∧ IsB w (fun b => b ≠ g ∧ b ≠ gz ∧ X b) (.slice A1 c.data.length c1) c.data ∧
    IsB w (fun b => b ≠ g ∧ b ≠ gz ∧ X b) (.slice A2 dn.data.length c2) dn.data ∧ d.z.length ≤ cz ∧ cz ≤ 9223372036854775807 ∧ g ≠ gz
theorem DeskAt.step {w w' : World} {X : Nat → Prop} {g gz : Nat} {d : Zd} {c : Cm} {dn : Dn} (h : DeskAt X w g gz d c dn) (hb : Below w.heap.size w w') : DeskAt X w' g gz d c dn := by
  obtain ⟨cz, A1, c1, A2, c2, h1, h2, h3, h4, h5⟩ := h
  exact ⟨cz, A1, c1, A2, c2, h1.step hb, h2.step hb, h3.step hb, h4.step hb, h5⟩
theorem Stable.desk {X : Nat → Prop} {g gz : Nat} {d : Zd} {c : Cm} {dn : Dn} : Stable (fun w => DeskAt X w g gz d c dn) := fun _ _ h hb => h.step hb

set_option maxRecDepth 100000 in
set_option maxHeartbeats 1000000 in
theorem mine_any (g gz i : Nat) {X : Nat → Prop} (d : Zd) (c : Cm) (dn : Dn) (w : World) (hd : DeskAt X w g gz d c dn) (hi : c.zone = (i : Int)) (hl : i < d.z.length) :
    Calls Try.prog 75 #[.pointer (some ⟨g, 0, none⟩)] w fun e w' => e = .returned (.pointer (some ⟨gz, i * 3, none⟩)) ∧ Below w.heap.size w w' := by
  obtain ⟨cz, A1, c1, A2, c2, hB, hR, _, _, hcz, hcz2, hne⟩ := hd
  obtain ⟨ad, had⟩ : ∃ ad : Addr, ad = ⟨gz, 0, none⟩ := ⟨_, rfl⟩
  have hadd : ∀ o, ad.add o = ⟨gz, o, none⟩ := fun o => by rw [had]; exact addG gz o
  unfold deskA at hB
  rw [← had, hi] at hB
  have HAD := Lib.hid had; clear had
  obtain ⟨q1, f1⟩ := hB.rules
  have t1 := hB.lt
  have i0 : (0 : Int) ≤ (i : Int) := by omega
  have i1 : (i : Int) < (d.z.length : Int) := by omega
  clear hi
  go_enter Try.func75, Try.ntmps75
  go_wp2_with fail
  go_quiet (fail)
  go_wp2
  go_ret
  exact ⟨rfl, below_drewN (Below.refl _ _) _⟩

/-- the device with other zones -/
def Zd.with (d : Zd) (zs : List Zn) : Zd := ⟨d.cap, d.opn, d.act, zs⟩
theorem DeskAt.put {w : World} {X : Nat → Prop} {g gz i : Nat} {d : Zd} {c : Cm} {dn : Dn} {z : Zn} {A : Option Addr} {cc : Nat} (h : DeskAt X w g gz d c dn) (hl : i < d.z.length) (hz : IsB w (fun b => b ≠ g ∧ b ≠ gz ∧ X b) (.slice A z.d.length cc) z.d) :
    DeskAt X (setZ w gz (i * 3) z A cc) g gz (d.with (d.z.set i z)) c dn := by
  obtain ⟨cz, A1, c1, A2, c2, h1, h2, h3, h4, h5, h6, h7⟩ := h
  have ht := turn_setZ (S := fun b => b = gz) (Turned.refl w _) rfl (i * 3) z A cc
  have e : (d.z.set i z).length = d.z.length := List.length_set
  refine ⟨cz, A1, c1, A2, c2, ?_, h2.put hl hz (fun b hb => hb.2.1), h3.turned ht (fun b hb => hb.2.1), h4.turned ht (fun b hb => hb.2.1), by show (d.z.set i z).length ≤ cz; rw [e]; exact h5, h6, h7⟩
  have := h1.turned ht h7
  unfold deskA Zd.with
  rw [e]
  exact this

set_option maxRecDepth 100000 in
set_option maxHeartbeats 2000000 in
theorem lay_any (g gz i : Nat) {X : Nat → Prop} (d : Zd) (c : Cm) (dn : Dn) (z : Zn) (A : Option Addr) (cc : Nat) (e : Int) (w : World) (hd : DeskAt X w g gz d c dn) (hi : c.zone = (i : Int)) (hl : i < d.z.length) (hz : IsB w (fun b => b ≠ g ∧ b ≠ gz ∧ X b) (.slice A z.d.length cc) z.d) :
    Calls Try.prog 77 #[.pointer (some ⟨g, 0, none⟩), .agg #[.int .i64 z.st, .int .i64 z.fe, .slice A z.d.length cc], .int .i64 e] w fun en w' => en = .returned (.int .i64 e) ∧
      DeskAt X w' g gz (if e = 0 then d.with (d.z.set i z) else d) c dn ∧ Turned w w' (fun b => b = gz) := by
  obtain ⟨d', hd'⟩ : ∃ d', (if e = 0 then d.with (d.z.set i z) else d) = d' := ⟨_, rfl⟩
  rw [hd']
  have HD' := Lib.hid hd'; clear hd'
  have hgz : gz < w.heap.size := by obtain ⟨_, _, _, _, _, _, hR, _⟩ := hd; exact hR.lt
  have hbz : Below w.heap.size w (w.alloc (.cells #[.int .i64 z.st, .int .i64 z.fe, .slice A z.d.length cc] 26)) := (Below.refl _ _).alloc (Nat.le_refl _) _
  by_cases he : e = 0
  · have heb : (e == 0) = true := by simpa using he
    have E := ((Kn.start w).give Stable.desk hd).give Stable.bytes hz |>.push 26 #[.int .i64 z.st, .int .i64 z.fe, .slice A z.d.length cc]
    have HE := Lib.hid he; clear he
    clear hz hd hbz
    go_enter Try.func77, Try.ntmps77
    go_upto_region 2 with fail
    generalize hwA : w.alloc (.cells #[.int .i64 z.st, .int .i64 z.fe, .slice A z.d.length cc] 26) = wA at E ⊢
    have HW := Lib.hid hwA
    clear hwA
    have HQ : Hid (∀ W, Below wA.heap.size wA W → (∀ o, W.cell? ⟨w.heap.size, o, none⟩ = (#[.int .i64 z.st, .int .i64 z.fe, .slice A z.d.length cc] : Array Value)[o]?)) := Lib.hid fun W h => ((E.step h).rules m0).1
    have hb0 : Below wA.heap.size wA wA.drew := (Below.refl _ _).drew
    have hbx : w.heap.size < wA.heap.size := (E.at_ m0).lt
    have HS : Hid (∀ W, Below wA.heap.size wA W → ∀ u0 u1 u2 : Value, (∀ o, (((W.setCell ⟨gz, i * 3, none⟩ u0).setCell ⟨gz, i * 3 + 1, none⟩ u1).setCell ⟨gz, i * 3 + 2, none⟩ u2).cell? ⟨w.heap.size, o, none⟩ = (#[.int .i64 z.st, .int .i64 z.fe, .slice A z.d.length cc] : Array Value)[o]?)) :=
      Lib.hid fun W h u0 u1 u2 => (((((E.step h).at_ m0).far (p := ⟨gz, i * 3, none⟩) (by show w.heap.size ≠ gz; omega) u0).far (p := ⟨gz, i * 3 + 1, none⟩) (by show w.heap.size ≠ gz; omega) u1).far (p := ⟨gz, i * 3 + 2, none⟩) (by show w.heap.size ≠ gz; omega) u2).cell
    have hrow : ∀ W, Below wA.heap.size wA W → ∃ z0 A0 c0, ZoneL W gz (i * 3) z0 A0 c0 ∧ FreeZ W gz (i * 3) := fun W h => by
      obtain ⟨_, _, _, _, _, _, hR, _⟩ := (E.step h).get m1
      obtain ⟨A0, c0, _, h1, h2⟩ := RowZ.at_ hR (List.getElem?_eq_getElem hl)
      exact ⟨_, A0, c0, h1, h2⟩
    have HROW := Lib.hid hrow; clear hrow
    go_region_held3 (fun W => (∀ o, W.cell? ⟨w.heap.size, o, none⟩ = (#[.int .i64 z.st, .int .i64 z.fe, .slice A z.d.length cc] : Array Value)[o]?))
      (first | with_reducible exact HS.out _ hbN _ _ _ | with_reducible exact HQ.out _ hb0 | with_reducible exact HQ.out _ hbN)
      (first
        | (go_at_call 75
           refine (mine_any g gz i d c dn _ ((E.step hb0).get m1) hi hl).mono ?_
           rintro e wN ⟨rfl, hb1⟩
           have hbN : Below wA.heap.size wA wN := hb0.trans hb1
           obtain ⟨z1, A0, c0, ⟨n0, n1, n2⟩, ⟨f0, f1, f2⟩⟩ := HROW.out wN hbN))
    go_wp2
    go_ret
    refine ⟨by rw [HE.out]; rfl, ?_, ?_⟩
    · rw [← HD'.out, if_pos HE.out]
      exact DeskAt.put ((E.step hbN).get m1) hl ((E.step hbN).get m0)
    · exact turn_setZ (S := fun b => b = gz) (Turned.of ((((Below.refl _ _).alloc (Nat.le_refl _) (.cells #[.int .i64 z.st, .int .i64 z.fe, .slice A z.d.length cc] 26)).trans (by rw [HW.out]; exact hbN.mono (by omega))))) rfl _ _ _ _
  · have heb : (e == 0) = false := by simpa using he
    have hx : d' = d := by rw [← HD'.out, if_neg he]
    rw [hx]
    have HX := Lib.hid hx; clear hx he
    go_enter Try.func77, Try.ntmps77
    go_wp2
    go_ret
    exact ⟨rfl, hd.step hbz, Turned.of hbz⟩
end Go.Proofs.Ytcjmcfjjbicimaa
