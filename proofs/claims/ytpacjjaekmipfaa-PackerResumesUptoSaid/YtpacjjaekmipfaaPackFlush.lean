/- The walk of packer.Flush. -/
import Derived.Test.YtpacjjaekmipfaaPackCopy
namespace Go.Proofs.Ytpacjjaekmipfaa
open Go.RowKit

def cmdV (op zone epoch : Int) (vd : Value) : Value := .agg #[.int .i64 op, .int .i64 zone, .int .i64 epoch, .int .i64 0, .int .i64 0, vd]

theorem b6_all {w : World} {a : Nat} {ta : TypeId} {u0 u1 u2 u3 u4 u5 : Value} (hA : Blk w a ta #[u0, u1, u2, u3, u4, u5]) (x0 x1 x2 x3 x4 x5 : Value) :
    Blk ((((((w.setCell ⟨a, 0, none⟩ x0).setCell ⟨a, 1, none⟩ x1).setCell ⟨a, 2, none⟩ x2).setCell ⟨a, 3, none⟩ x3).setCell ⟨a, 4, none⟩ x4).setCell ⟨a, 5, none⟩ x5) a ta #[x0, x1, x2, x3, x4, x5] ∧
    Turned w ((((((w.setCell ⟨a, 0, none⟩ x0).setCell ⟨a, 1, none⟩ x1).setCell ⟨a, 2, none⟩ x2).setCell ⟨a, 3, none⟩ x3).setCell ⟨a, 4, none⟩ x4).setCell ⟨a, 5, none⟩ x5) (fun k => k = a) :=
  ⟨(((((hA.set_ 0 x0).set_ 1 x1).set_ 2 x2).set_ 3 x3).set_ 4 x4).set_ 5 x5, ((((((Turned.refl w (fun k => k = a)).set (g := a) rfl 0 x0).set (g := a) rfl 1 x1).set (g := a) rfl 2 x2).set (g := a) rfl 3 x3).set (g := a) rfl 4 x4).set (g := a) rfl 5 x5⟩

set_option maxRecDepth 100000 in
set_option maxHeartbeats 4000000 in
theorem flush_some (v : Value) (p : Pk) (K : Nat → Prop) (w : World) (hv : IsPk w K v p) (hp : OkPk p) (hne : p.buf ≠ []) :
    Calls Try.prog 17 #[v] w fun e w' => ∃ A c, e = .returned (.tuple #[cmdV 1 p.zone p.h.epoch (.slice A p.buf.length c), pkV (flushP p) (.slice none 0 0) (.slice none 0 0), .bool true]) ∧
      w'.ownsRow w.heap.size 5 1 (.slice A p.buf.length c) p.buf.length (cells8 p.buf) ∧ Below w.heap.size w w' := by
  obtain ⟨vb, vl, rfl, hb, hl⟩ := hv
  obtain ⟨_, _, hcap, hat, hbl, _⟩ := hp
  have hb0 := hb
  have hl0 := hl
  obtain ⟨A, c, rfl, hbr, hbc, hbc2, _⟩ := hb
  obtain ⟨A2, c2, rfl, hlc, hlc2⟩ := hl.form
  have hpos : 0 < p.buf.length := List.length_pos_iff.2 hne
  have hpos' : ((p.buf.length : Int) == 0) = false := by simp; exact hne
  unfold flushP
  rw [if_neg hne]
  clear hne hpos
  have E := (((((Kn.start w).give Stable.list hl0).give Stable.bytes hb0).push 29 #[.int .i64 p.h.host, .int .i64 p.h.epoch, .int .i64 p.h.seq, .int .i64 p.zone, .int .i64 p.cap, .int .i64 p.at_, .slice A p.buf.length c, .slice A2 p.l.length c2]).push 44 #[.int .i64 0, .int .i64 0, .int .i64 0, .int .i64 0, .int .i64 0, .slice none 0 0]).push 29 #[.int .i64 0, .int .i64 0, .int .i64 0, .int .i64 0, .int .i64 0, .int .i64 0, .slice none 0 0, .slice none 0 0]
  simp only [World.size_alloc] at E
  unfold pkV cmdV
  go_enter Try.func17, Try.ntmps17
  go_upto_region 1 with fail
  obtain ⟨w2, hw2⟩ : ∃ w2, ((w.alloc (.cells #[.int .i64 p.h.host, .int .i64 p.h.epoch, .int .i64 p.h.seq, .int .i64 p.zone, .int .i64 p.cap, .int .i64 p.at_, .slice A p.buf.length c, .slice A2 p.l.length c2] 29)).alloc (.cells #[.int .i64 0, .int .i64 0, .int .i64 0, .int .i64 0, .int .i64 0, .slice none 0 0] 44)).alloc (.cells #[.int .i64 0, .int .i64 0, .int .i64 0, .int .i64 0, .int .i64 0, .int .i64 0, .slice none 0 0, .slice none 0 0] 29) = w2 := ⟨_, rfl⟩
  have hs2 : w2.heap.size = w.heap.size + 1 + 1 + 1 := by rw [← hw2]; simp
  rw [hw2] at E ⊢
  have HS2 := Lib.hid hs2
  clear hw2 hs2
  obtain ⟨qa, fa, ta⟩ := E.rules m2
  go_upto_region 3 with fail
  go_cut [5] (fun s5 wx => ∃ bx A9 c9, s5 = .pointer (some ⟨bx, 0, none⟩) ∧ w2.heap.size ≤ bx ∧ Blk wx bx 44 #[.int .i64 1, .int .i64 p.zone, .int .i64 p.h.epoch, .int .i64 0, .int .i64 0, .slice A9 p.buf.length c9] ∧ wx.ownsRow w2.heap.size 5 1 (.slice A9 p.buf.length c9) p.buf.length (cells8 p.buf) ∧ Below w2.heap.size w2 wx)
  case first =>
    have HK : Hid (∀ W, Below w2.heap.size w2 W → (∀ o, W.cell? ⟨w.heap.size, o, none⟩ = (#[.int .i64 p.h.host, .int .i64 p.h.epoch, .int .i64 p.h.seq, .int .i64 p.zone, .int .i64 p.cap, .int .i64 p.at_, .slice A p.buf.length c, .slice A2 p.l.length c2] : Array Value)[o]?)) := Lib.hid fun W h => ((E.step h).rules m2).1
    have HK6 : Hid (∀ W A9 c9, Below w2.heap.size w2 W → (∀ o, ((((((W.setCell ⟨w2.heap.size, 0, none⟩ (.int .i64 1)).setCell ⟨w2.heap.size, 1, none⟩ (.int .i64 p.zone)).setCell ⟨w2.heap.size, 2, none⟩ (.int .i64 p.h.epoch)).setCell ⟨w2.heap.size, 3, none⟩ (.int .i64 0)).setCell ⟨w2.heap.size, 4, none⟩ (.int .i64 0)).setCell ⟨w2.heap.size, 5, none⟩ (.slice A9 p.buf.length c9)).cell? ⟨w.heap.size, o, none⟩ = (#[.int .i64 p.h.host, .int .i64 p.h.epoch, .int .i64 p.h.seq, .int .i64 p.zone, .int .i64 p.cap, .int .i64 p.at_, .slice A p.buf.length c, .slice A2 p.l.length c2] : Array Value)[o]?)) := Lib.hid fun W A9 c9 h => HK.out _ ((((((h.setCell (Nat.le_refl _) _).setCell (Nat.le_refl _) _).setCell (Nat.le_refl _) _).setCell (Nat.le_refl _) _).setCell (Nat.le_refl _) _).setCell (Nat.le_refl _) _)
    have hbZ : Below w2.heap.size w2 (w2.alloc (.cells #[.int .i64 0, .int .i64 0, .int .i64 0, .int .i64 0, .int .i64 0, .slice none 0 0] 44)).drew := ((Below.refl _ _).alloc (Nat.le_refl _) _).drew
    have hZ0 : Blk (w2.alloc (.cells #[.int .i64 0, .int .i64 0, .int .i64 0, .int .i64 0, .int .i64 0, .slice none 0 0] 44)).drew w2.heap.size 44 #[.int .i64 0, .int .i64 0, .int .i64 0, .int .i64 0, .int .i64 0, .slice none 0 0] := (Blk.new w2 _ _ rfl).drew
    go_region_held3 (fun W => (∀ o, W.cell? ⟨w.heap.size, o, none⟩ = (#[.int .i64 p.h.host, .int .i64 p.h.epoch, .int .i64 p.h.seq, .int .i64 p.zone, .int .i64 p.cap, .int .i64 p.at_, .slice A p.buf.length c, .slice A2 p.l.length c2] : Array Value)[o]?))
      (first | with_reducible exact HK6.out _ _ _ hb1 | with_reducible exact HK.out _ (Below.refl _ _).drew | with_reducible exact HK.out _ hbZ | with_reducible exact HK.out _ hb1 | with_reducible exact HK.out _ (hb1.alloc (Nat.le_refl _) _) | with_reducible exact HK.out _ (hb1.alloc hb1.size _))
      (first
        | (go_at_call 35
           refine (cloneB_any _ p.buf K _ ((E.step hbZ).get m0)).mono ?_
           rintro e w1 ⟨A9, c9, rfl, own9, hb1⟩
           have hZ := hZ0.step hb1
           obtain ⟨qz, fz⟩ := hZ.rules
           have tz := hZ.lt
           replace hb1 := hbZ.trans (hb1.mono hbZ.size))
        | (go_at_call 35
           refine (cloneB_any _ p.buf K _ ((E.step (Below.refl _ _).drew).get m0)).mono ?_
           rintro e w1 ⟨A9, c9, rfl, own9, hb1⟩
           replace hb1 := (Below.refl w2.heap.size w2).drew.trans hb1))
    all_goals go_wp2_with fail
    all_goals go_meet
    · exact ⟨w1.heap.size, A9, c9, rfl, hb1.size, Blk.new _ _ _ rfl, own_base (own9.alloc _) (Nat.le_refl _), hb1.alloc hb1.size _⟩
    · obtain ⟨hb6, ht6⟩ := b6_all hZ (.int .i64 1) (.int .i64 p.zone) (.int .i64 p.h.epoch) (.int .i64 0) (.int .i64 0) (.slice A9 p.buf.length c9)
      exact ⟨w2.heap.size, A9, c9, rfl, Nat.le_refl _, hb6, own_base (own_turned own9 ht6 (by simp)) (by simp), below_turned hb1 ht6 (Nat.le_refl _) hb1.size⟩
  case rest =>
    obtain ⟨bx, A9, c9, rfl, hbx, hBx, own9, hbc⟩ := hcut
    have E5 := E.step hbc
    have hs2 := HS2.out
    have hbxl := hBx.lt
    obtain ⟨qb, fb, tb⟩ := E5.rules m2
    have hbx3 : w.heap.size + 1 + 1 + 1 ≤ bx := by omega
    have hne5 : bx ≠ w.heap.size := by omega
    go_upto_region 6 with fail
    have T5 : Turned wc (((wc.setCell ⟨w.heap.size, 5, none⟩ (.int .i64 (p.at_ + p.buf.length))).setCell ⟨w.heap.size, 6, none⟩ (.slice none 0 0)).setCell ⟨w.heap.size, 7, none⟩ (.slice none 0 0)) (· = w.heap.size) := (((Turned.refl wc (· = w.heap.size)).set (g := w.heap.size) rfl 5 _).set (g := w.heap.size) rfl 6 _).set (g := w.heap.size) rfl 7 _
    have C0 : Blk (((wc.setCell ⟨w.heap.size, 5, none⟩ (.int .i64 (p.at_ + p.buf.length))).setCell ⟨w.heap.size, 6, none⟩ (.slice none 0 0)).setCell ⟨w.heap.size, 7, none⟩ (.slice none 0 0)) w.heap.size 29 #[.int .i64 p.h.host, .int .i64 p.h.epoch, .int .i64 p.h.seq, .int .i64 p.zone, .int .i64 p.cap, .int .i64 (p.at_ + p.buf.length), .slice none 0 0, .slice none 0 0] := (((E5.at_ m2).set_ 5 (.int .i64 (p.at_ + p.buf.length))).set_ 6 (.slice none 0 0)).set_ 7 (.slice none 0 0)
    have C1 : Blk (((wc.setCell ⟨w.heap.size, 5, none⟩ (.int .i64 (p.at_ + p.buf.length))).setCell ⟨w.heap.size, 6, none⟩ (.slice none 0 0)).setCell ⟨w.heap.size, 7, none⟩ (.slice none 0 0)) (w.heap.size + 1) 44 #[.int .i64 0, .int .i64 0, .int .i64 0, .int .i64 0, .int .i64 0, .slice none 0 0] := (((E5.at_ m1).far (p := ⟨w.heap.size, 5, none⟩) (by simp) _).far (p := ⟨w.heap.size, 6, none⟩) (by simp) _).far (p := ⟨w.heap.size, 7, none⟩) (by simp) _
    have C2 : Blk (((wc.setCell ⟨w.heap.size, 5, none⟩ (.int .i64 (p.at_ + p.buf.length))).setCell ⟨w.heap.size, 6, none⟩ (.slice none 0 0)).setCell ⟨w.heap.size, 7, none⟩ (.slice none 0 0)) (w.heap.size + 1 + 1) 29 #[.int .i64 0, .int .i64 0, .int .i64 0, .int .i64 0, .int .i64 0, .int .i64 0, .slice none 0 0, .slice none 0 0] := (((E5.at_ m0).far (p := ⟨w.heap.size, 5, none⟩) (by simp; omega) _).far (p := ⟨w.heap.size, 6, none⟩) (by simp; omega) _).far (p := ⟨w.heap.size, 7, none⟩) (by simp; omega) _
    have Cx : Blk (((wc.setCell ⟨w.heap.size, 5, none⟩ (.int .i64 (p.at_ + p.buf.length))).setCell ⟨w.heap.size, 6, none⟩ (.slice none 0 0)).setCell ⟨w.heap.size, 7, none⟩ (.slice none 0 0)) bx 44 #[.int .i64 1, .int .i64 p.zone, .int .i64 p.h.epoch, .int .i64 0, .int .i64 0, .slice A9 p.buf.length c9] := ((hBx.far (p := ⟨w.heap.size, 5, none⟩) hne5 _).far (p := ⟨w.heap.size, 6, none⟩) hne5 _).far (p := ⟨w.heap.size, 7, none⟩) hne5 _
    have own5 := own_turned own9 T5 (by omega)
    have hbd := below_turned E5.below T5 (Nat.le_refl _) E5.below.size
    have hszT := T5.size
    clear E E5 hBx own9 qa fa qb fb
    generalize ((wc.setCell ⟨w.heap.size, 5, none⟩ (.int .i64 (p.at_ + p.buf.length))).setCell ⟨w.heap.size, 6, none⟩ (.slice none 0 0)).setCell ⟨w.heap.size, 7, none⟩ (.slice none 0 0) = w5 at T5 C0 C1 C2 Cx own5 hbd hszT ⊢
    clear T5 hs2
    obtain ⟨q1, f1⟩ := C1.rules
    obtain ⟨q2, f2⟩ := C2.rules
    have t1 := C1.lt
    have t2 := C2.lt
    have hlx := Cx.lt
    have hl0 := C0.lt
    have HT : Hid (∀ W, Turned w5 W (fun k => k = w.heap.size + 1 ∨ k = w.heap.size + 1 + 1) → ((∀ o, W.cell? ⟨bx, o, none⟩ = (#[.int .i64 1, .int .i64 p.zone, .int .i64 p.h.epoch, .int .i64 0, .int .i64 0, .slice A9 p.buf.length c9] : Array Value)[o]?) ∧ (∀ o, W.cell? ⟨w.heap.size, o, none⟩ = (#[.int .i64 p.h.host, .int .i64 p.h.epoch, .int .i64 p.h.seq, .int .i64 p.zone, .int .i64 p.cap, .int .i64 (p.at_ + p.buf.length), .slice none 0 0, .slice none 0 0] : Array Value)[o]?))) := Lib.hid fun W h =>
      ⟨fun o => by rw [World.cell?_of_block (h.block bx hlx (by omega))]; exact Cx.cell o, fun o => by rw [World.cell?_of_block (h.block w.heap.size hl0 (by omega))]; exact C0.cell o⟩
    have T6 : ∀ W, Turned w5 W (fun k => k = w.heap.size + 1 ∨ k = w.heap.size + 1 + 1) → Turned w5 ((((((W.setCell ⟨w.heap.size + 1, 0, none⟩ (.int .i64 1)).setCell ⟨w.heap.size + 1, 1, none⟩ (.int .i64 p.zone)).setCell ⟨w.heap.size + 1, 2, none⟩ (.int .i64 p.h.epoch)).setCell ⟨w.heap.size + 1, 3, none⟩ (.int .i64 0)).setCell ⟨w.heap.size + 1, 4, none⟩ (.int .i64 0)).setCell ⟨w.heap.size + 1, 5, none⟩ (.slice A9 p.buf.length c9)) (fun k => k = w.heap.size + 1 ∨ k = w.heap.size + 1 + 1) := fun W h => (((((h.set (g := w.heap.size + 1) (.inl rfl) 0 _).set (g := w.heap.size + 1) (.inl rfl) 1 _).set (g := w.heap.size + 1) (.inl rfl) 2 _).set (g := w.heap.size + 1) (.inl rfl) 3 _).set (g := w.heap.size + 1) (.inl rfl) 4 _).set (g := w.heap.size + 1) (.inl rfl) 5 _
    have T8 : ∀ W, Turned w5 W (fun k => k = w.heap.size + 1 ∨ k = w.heap.size + 1 + 1) → Turned w5 ((((((((W.setCell ⟨w.heap.size + 1 + 1, 0, none⟩ (.int .i64 p.h.host)).setCell ⟨w.heap.size + 1 + 1, 1, none⟩ (.int .i64 p.h.epoch)).setCell ⟨w.heap.size + 1 + 1, 2, none⟩ (.int .i64 p.h.seq)).setCell ⟨w.heap.size + 1 + 1, 3, none⟩ (.int .i64 p.zone)).setCell ⟨w.heap.size + 1 + 1, 4, none⟩ (.int .i64 p.cap)).setCell ⟨w.heap.size + 1 + 1, 5, none⟩ (.int .i64 (p.at_ + p.buf.length))).setCell ⟨w.heap.size + 1 + 1, 6, none⟩ (.slice none 0 0)).setCell ⟨w.heap.size + 1 + 1, 7, none⟩ (.slice none 0 0)) (fun k => k = w.heap.size + 1 ∨ k = w.heap.size + 1 + 1) := fun W h => (((((((h.set (g := w.heap.size + 1 + 1) (.inr rfl) 0 _).set (g := w.heap.size + 1 + 1) (.inr rfl) 1 _).set (g := w.heap.size + 1 + 1) (.inr rfl) 2 _).set (g := w.heap.size + 1 + 1) (.inr rfl) 3 _).set (g := w.heap.size + 1 + 1) (.inr rfl) 4 _).set (g := w.heap.size + 1 + 1) (.inr rfl) 5 _).set (g := w.heap.size + 1 + 1) (.inr rfl) 6 _).set (g := w.heap.size + 1 + 1) (.inr rfl) 7 _
    have T00 : Turned w5 w5 (fun k => k = w.heap.size + 1 ∨ k = w.heap.size + 1 + 1) := Turned.refl _ _
    have T0 : Turned w5 w5.drew (fun k => k = w.heap.size + 1 ∨ k = w.heap.size + 1 + 1) := Turned.of (Below.refl _ _).drew
    have HS0 : Hid ((∀ o, w5.drew.cell? ⟨bx, o, none⟩ = (#[.int .i64 1, .int .i64 p.zone, .int .i64 p.h.epoch, .int .i64 0, .int .i64 0, .slice A9 p.buf.length c9] : Array Value)[o]?) ∧ (∀ o, w5.drew.cell? ⟨w.heap.size, o, none⟩ = (#[.int .i64 p.h.host, .int .i64 p.h.epoch, .int .i64 p.h.seq, .int .i64 p.zone, .int .i64 p.cap, .int .i64 (p.at_ + p.buf.length), .slice none 0 0, .slice none 0 0] : Array Value)[o]?)) := Lib.hid (HT.out _ T0)
    have HS6 : Hid (∀ W, Turned w5 W (fun k => k = w.heap.size + 1 ∨ k = w.heap.size + 1 + 1) → ((∀ o, ((((((W.setCell ⟨w.heap.size + 1, 0, none⟩ (.int .i64 1)).setCell ⟨w.heap.size + 1, 1, none⟩ (.int .i64 p.zone)).setCell ⟨w.heap.size + 1, 2, none⟩ (.int .i64 p.h.epoch)).setCell ⟨w.heap.size + 1, 3, none⟩ (.int .i64 0)).setCell ⟨w.heap.size + 1, 4, none⟩ (.int .i64 0)).setCell ⟨w.heap.size + 1, 5, none⟩ (.slice A9 p.buf.length c9)).drew.cell? ⟨bx, o, none⟩ = (#[.int .i64 1, .int .i64 p.zone, .int .i64 p.h.epoch, .int .i64 0, .int .i64 0, .slice A9 p.buf.length c9] : Array Value)[o]?) ∧ (∀ o, ((((((W.setCell ⟨w.heap.size + 1, 0, none⟩ (.int .i64 1)).setCell ⟨w.heap.size + 1, 1, none⟩ (.int .i64 p.zone)).setCell ⟨w.heap.size + 1, 2, none⟩ (.int .i64 p.h.epoch)).setCell ⟨w.heap.size + 1, 3, none⟩ (.int .i64 0)).setCell ⟨w.heap.size + 1, 4, none⟩ (.int .i64 0)).setCell ⟨w.heap.size + 1, 5, none⟩ (.slice A9 p.buf.length c9)).drew.cell? ⟨w.heap.size, o, none⟩ = (#[.int .i64 p.h.host, .int .i64 p.h.epoch, .int .i64 p.h.seq, .int .i64 p.zone, .int .i64 p.cap, .int .i64 (p.at_ + p.buf.length), .slice none 0 0, .slice none 0 0] : Array Value)[o]?))) := Lib.hid fun W h => HT.out _ (T6 W h).drew
    have HS8 : Hid (∀ W, Turned w5 W (fun k => k = w.heap.size + 1 ∨ k = w.heap.size + 1 + 1) → ((∀ o, ((((((((W.setCell ⟨w.heap.size + 1 + 1, 0, none⟩ (.int .i64 p.h.host)).setCell ⟨w.heap.size + 1 + 1, 1, none⟩ (.int .i64 p.h.epoch)).setCell ⟨w.heap.size + 1 + 1, 2, none⟩ (.int .i64 p.h.seq)).setCell ⟨w.heap.size + 1 + 1, 3, none⟩ (.int .i64 p.zone)).setCell ⟨w.heap.size + 1 + 1, 4, none⟩ (.int .i64 p.cap)).setCell ⟨w.heap.size + 1 + 1, 5, none⟩ (.int .i64 (p.at_ + p.buf.length))).setCell ⟨w.heap.size + 1 + 1, 6, none⟩ (.slice none 0 0)).setCell ⟨w.heap.size + 1 + 1, 7, none⟩ (.slice none 0 0)).drew.cell? ⟨bx, o, none⟩ = (#[.int .i64 1, .int .i64 p.zone, .int .i64 p.h.epoch, .int .i64 0, .int .i64 0, .slice A9 p.buf.length c9] : Array Value)[o]?) ∧ (∀ o, ((((((((W.setCell ⟨w.heap.size + 1 + 1, 0, none⟩ (.int .i64 p.h.host)).setCell ⟨w.heap.size + 1 + 1, 1, none⟩ (.int .i64 p.h.epoch)).setCell ⟨w.heap.size + 1 + 1, 2, none⟩ (.int .i64 p.h.seq)).setCell ⟨w.heap.size + 1 + 1, 3, none⟩ (.int .i64 p.zone)).setCell ⟨w.heap.size + 1 + 1, 4, none⟩ (.int .i64 p.cap)).setCell ⟨w.heap.size + 1 + 1, 5, none⟩ (.int .i64 (p.at_ + p.buf.length))).setCell ⟨w.heap.size + 1 + 1, 6, none⟩ (.slice none 0 0)).setCell ⟨w.heap.size + 1 + 1, 7, none⟩ (.slice none 0 0)).drew.cell? ⟨w.heap.size, o, none⟩ = (#[.int .i64 p.h.host, .int .i64 p.h.epoch, .int .i64 p.h.seq, .int .i64 p.zone, .int .i64 p.cap, .int .i64 (p.at_ + p.buf.length), .slice none 0 0, .slice none 0 0] : Array Value)[o]?))) := Lib.hid fun W h => HT.out _ (T8 W h).drew
    go_region_held3 (fun W : World => (∀ o, W.cell? ⟨bx, o, none⟩ = (#[.int .i64 1, .int .i64 p.zone, .int .i64 p.h.epoch, .int .i64 0, .int .i64 0, .slice A9 p.buf.length c9] : Array Value)[o]?) ∧ (∀ o, W.cell? ⟨w.heap.size, o, none⟩ = (#[.int .i64 p.h.host, .int .i64 p.h.epoch, .int .i64 p.h.seq, .int .i64 p.zone, .int .i64 p.cap, .int .i64 (p.at_ + p.buf.length), .slice none 0 0, .slice none 0 0] : Array Value)[o]?))
      (first | with_reducible exact HS8.out _ (T6 _ T00) | with_reducible exact HS6.out _ (T8 _ T00) | with_reducible exact HS8.out _ T00 | with_reducible exact HS6.out _ T00 | with_reducible exact HS0.out) (fail)
    go_wp2_with fail
    obtain ⟨hB6, hT6⟩ := b6_all C1 (.int .i64 1) (.int .i64 p.zone) (.int .i64 p.h.epoch) (.int .i64 0) (.int .i64 0) (.slice A9 p.buf.length c9)
    obtain ⟨hB8, hT8⟩ := st8_all (C2.turned hT6 (by omega)) (.int .i64 p.h.host) (.int .i64 p.h.epoch) (.int .i64 p.h.seq) (.int .i64 p.zone) (.int .i64 p.cap) (.int .i64 (p.at_ + p.buf.length)) (.slice none 0 0) (.slice none 0 0)
    unfold st8 at hB8 hT8
    have hB6' := hB6.turned hT8 (by omega)
    have own8 := own_turned (own_turned own5 hT6 (by have := HS2.out; omega)) hT8 (by have := HS2.out; omega)
    have hbe := below_turned (below_turned hbd hT6 (by omega) (by omega)) hT8 (by omega) (by have := hT6.size; omega)
    generalize ((((((((((((((w5.setCell ⟨w.heap.size + 1, 0, none⟩ (.int .i64 1)).setCell ⟨w.heap.size + 1, 1, none⟩ (.int .i64 p.zone)).setCell ⟨w.heap.size + 1, 2, none⟩ (.int .i64 p.h.epoch)).setCell ⟨w.heap.size + 1, 3, none⟩ (.int .i64 0)).setCell ⟨w.heap.size + 1, 4, none⟩ (.int .i64 0)).setCell ⟨w.heap.size + 1, 5, none⟩ (.slice A9 p.buf.length c9)).setCell ⟨w.heap.size + 1 + 1, 0, none⟩ (.int .i64 p.h.host)).setCell ⟨w.heap.size + 1 + 1, 1, none⟩ (.int .i64 p.h.epoch)).setCell ⟨w.heap.size + 1 + 1, 2, none⟩ (.int .i64 p.h.seq)).setCell ⟨w.heap.size + 1 + 1, 3, none⟩ (.int .i64 p.zone)).setCell ⟨w.heap.size + 1 + 1, 4, none⟩ (.int .i64 p.cap)).setCell ⟨w.heap.size + 1 + 1, 5, none⟩ (.int .i64 (p.at_ + p.buf.length))).setCell ⟨w.heap.size + 1 + 1, 6, none⟩ (.slice none 0 0)).setCell ⟨w.heap.size + 1 + 1, 7, none⟩ (.slice none 0 0)) = w9 at hB6' hB8 own8 hbe ⊢
    obtain ⟨q8, f8⟩ := hB6'.drew.rules
    obtain ⟨q9, f9⟩ := hB8.drew.rules
    refine bodyPost_ret (v := .tuple #[.agg #[.int .i64 1, .int .i64 p.zone, .int .i64 p.h.epoch, .int .i64 0, .int .i64 0, .slice A9 p.buf.length c9], .agg #[.int .i64 p.h.host, .int .i64 p.h.epoch, .int .i64 p.h.seq, .int .i64 p.zone, .int .i64 p.cap, .int .i64 (p.at_ + p.buf.length), .slice none 0 0, .slice none 0 0], .bool true]) (by simp [results, Try.results17, go_sem, q8, q9]) rfl ⟨A9, c9, rfl, own_base (own_below own8 (Below.refl _ _).drew (Nat.le_refl _)) (by have := HS2.out; omega), hbe.drew⟩
end Go.Proofs.Ytpacjjaekmipfaa
