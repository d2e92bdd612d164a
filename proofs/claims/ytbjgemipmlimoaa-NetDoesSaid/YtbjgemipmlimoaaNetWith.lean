/- The walk of net.with. -/
import Derived.Test.YtbjgemipmlimoaaNetOwn
import Derived.Test.YtbjgemipmlimoaaRep
import Derived.Test.YtbjgemipmlimoaaLib
import Derived.Test.YtbjgemipmlimoaaSlM
namespace Go.Proofs.Ytbjgemipmlimoaa
open Go.RowKit

/-- all messages are of some size -/
def ArgsLe (l : List Ms) : Prop := ∀ m ∈ l, m.args.length ≤ 1000000000000

theorem IsM.lt {w : World} {K : Nat → Prop} {v : Value} {m : Ms} (h : IsM w K v m) : IsM w (fun b => K b ∧ b < w.heap.size) v m := by
  obtain ⟨A1, c1, A2, c2, rfl, h1, h2, h3⟩ := h
  obtain ⟨_, ⟨cs, hr, hc⟩, r1, r2, r3⟩ := h1.open_
  obtain ⟨rfl, h63⟩ := ints_cells hc
  exact ⟨A1, c1, A2, c2, rfl, ⟨A1, c1, _, rfl, hr.lt (by decide), cells_ints h63, r1, r2, r3⟩, h2.lt, h3⟩
theorem OwnR.rowlt {α : Type} {R : Rp α} {w : World} {base : Nat} {e : TypeId} {X : Nat → Prop} {A : Option Addr} {n c : Nat} {l : List α} (h : OwnR R w base e X (.slice A n c) l) : ∀ g, (Value.slice A n c).ownBlock = some g → base ≤ g ∧ g < w.heap.size := by
  intro g hg
  obtain ⟨rfl, cs, h1, _⟩ := h.open_
  exact h1.lt g hg

def WithInv (w w3 wr : World) (n : Nt) (q : List Ms) (g5 : Nat) (i : Value) : Prop :=
  ∃ (j : Nat) (A5 : Option Addr) (c5 : Nat), i = .int .i64 j ∧ j ≤ q.length ∧ Blk wr g5 38 #[.int .i64 n.cap, .slice A5 j c5] ∧ Blk wr (g5 - 1) 38 #[.int .i64 0, .slice none 0 0] ∧
    OwnR Rp.msg wr w3.heap.size 45 (fun b => w3.heap.size ≤ b) (.slice A5 j c5) (q.take j) ∧ Below w.heap.size w wr ∧ w3.heap.size ≤ wr.heap.size

set_option maxRecDepth 100000 in
set_option maxHeartbeats 8000000 in
theorem with_any (v qv : Value) (n : Nt) (q : List Ms) (K K' : Nat → Prop) (w : World) (hv : IsN w K v n) (hq : IsL Rp.msg w K' qv q) (hl : ArgsLe q) (hq8 : q.length ≤ 1000000000000) :
    Calls Try.prog 55 #[v, qv] w fun e w' => ∃ A' c', e = .returned (.agg #[.int .i64 n.cap, .slice A' q.length c']) ∧ OwnR Rp.msg w' w.heap.size 45 (fun b => w.heap.size ≤ b) (.slice A' q.length c') q ∧ Below w.heap.size w w' := by
  obtain ⟨i0, hi, hz0, hz1, hz2⟩ := info_parts Try.infM
  obtain ⟨A, c, rfl, _⟩ := hv
  have hq0 := hq
  obtain ⟨Aq, cq, rfl, hlc, hcc⟩ := hq.form
  have hb2 : Below w.heap.size w (((w.alloc (.cells #[.int .i64 n.cap, .slice A n.q.length c] 38)).alloc (.cells #[.int .i64 0, .slice none 0 0] 38)).alloc (.cells #[.int .i64 n.cap, .slice none 0 0] 38)) :=
    (((Below.refl _ _).alloc (Nat.le_refl _) _).alloc (by simp) _).alloc (by simp; omega) _
  have B5 : Blk (((w.alloc (.cells #[.int .i64 n.cap, .slice A n.q.length c] 38)).alloc (.cells #[.int .i64 0, .slice none 0 0] 38)).alloc (.cells #[.int .i64 n.cap, .slice none 0 0] 38)) (w.heap.size + 1 + 1) 38 #[.int .i64 n.cap, .slice none 0 0] := Blk.new _ _ _ (by simp)
  have B4 : Blk (((w.alloc (.cells #[.int .i64 n.cap, .slice A n.q.length c] 38)).alloc (.cells #[.int .i64 0, .slice none 0 0] 38)).alloc (.cells #[.int .i64 n.cap, .slice none 0 0] 38)) (w.heap.size + 1) 38 #[.int .i64 0, .slice none 0 0] := (Blk.new _ _ _ (by simp)).alloc _
  go_enter Try.func55, Try.ntmps55
  go_wp2_with fail
  generalize ((w.alloc (.cells #[.int .i64 n.cap, .slice A n.q.length c] 38)).alloc (.cells #[.int .i64 0, .slice none 0 0] 38)).alloc (.cells #[.int .i64 n.cap, .slice none 0 0] 38) = w3 at hb2 B5 B4 ⊢
  have hs3 : w.heap.size + 1 + 1 < w3.heap.size := B5.lt
  go_loopw [13] (fun i wr => WithInv w w3 wr n q (w.heap.size + 1 + 1) i) (fun i _ => q.length - (intOf i).toNat)
  case atStart => exact ⟨0, none, 0, rfl, Nat.zero_le _, B5, B4, OwnR.nil_ _ _ _ _, hb2, Nat.le_refl _⟩
  case round =>
    obtain ⟨j, A5, c5, rfl, hj, C5, C4, hown, hbw, hb3⟩ := hrel
    have hw3 := hb3
    by_cases hlt : j < q.length
    · obtain ⟨ad, es, rfl, _, hes, hcell⟩ := (hq0.step hbw).at_ (List.getElem?_eq_getElem hlt)
      have htk : q.take (j + 1) = q.take j ++ [q[j]] := List.take_succ_eq_append_getElem hlt
      have hml := hl q[j] (List.getElem_mem hlt)
      generalize q[j] = m at hes htk hml
      have HTK := Lib.hid htk; clear htk
      obtain ⟨A1, c1, A2, c2, rfl, him⟩ := rp_isM hes
      unfold cellsM at hcell
      have hc0 : wr.cell? (ad.add (j * 6)) = some (.int .i64 m.kind) := by rw [← addr0 (ad.add (j * 6))]; exact hcell 0 _ rfl
      have hc1 : wr.cell? ⟨(ad.add (j * 6)).block, (ad.add (j * 6)).off + 1, none⟩ = some (.int .i64 m.frm) := by rw [← addrS _ 1 (by decide)]; exact hcell 1 _ rfl
      have hc2 : wr.cell? ⟨(ad.add (j * 6)).block, (ad.add (j * 6)).off + 2, none⟩ = some (.int .i64 m.to) := by rw [← addrS _ 2 (by decide)]; exact hcell 2 _ rfl
      have hc3 : wr.cell? ⟨(ad.add (j * 6)).block, (ad.add (j * 6)).off + 3, none⟩ = some (.int .i64 m.id) := by rw [← addrS _ 3 (by decide)]; exact hcell 3 _ rfl
      have hc4 : wr.cell? ⟨(ad.add (j * 6)).block, (ad.add (j * 6)).off + 4, none⟩ = some (.slice A1 m.args.length c1) := by rw [← addrS _ 4 (by decide)]; exact hcell 4 _ rfl
      have hc5 : wr.cell? ⟨(ad.add (j * 6)).block, (ad.add (j * 6)).off + 5, none⟩ = some (.slice A2 m.data.length c2) := by rw [← addrS _ 5 (by decide)]; exact hcell 5 _ rfl
      clear hcell hes
      obtain ⟨q1, f1⟩ := C5.rules
      have t1 := C5.lt
      go_upto_region 5 with fail
      have D7 := Blk.new wr 45 #[.int .i64 m.kind, .int .i64 m.frm, .int .i64 m.to, .int .i64 m.id, .slice A1 m.args.length c1, .slice A2 m.data.length c2] rfl
      have D5 := C5.alloc (.cells #[.int .i64 m.kind, .int .i64 m.frm, .int .i64 m.to, .int .i64 m.id, .slice A1 m.args.length c1, .slice A2 m.data.length c2] 45)
      have D4 := C4.alloc (.cells #[.int .i64 m.kind, .int .i64 m.frm, .int .i64 m.to, .int .i64 m.id, .slice A1 m.args.length c1, .slice A2 m.data.length c2] 45)
      have hown4 := hown.step ((Below.refl _ _).alloc (Nat.le_refl _) (.cells #[.int .i64 m.kind, .int .i64 m.frm, .int .i64 m.to, .int .i64 m.id, .slice A1 m.args.length c1, .slice A2 m.data.length c2] 45))
      have him4 := him.step ((Below.refl _ _).alloc (Nat.le_refl _) (.cells #[.int .i64 m.kind, .int .i64 m.frm, .int .i64 m.to, .int .i64 m.id, .slice A1 m.args.length c1, .slice A2 m.data.length c2] 45))
      have hbw4 := hbw.alloc hbw.size (.cells #[.int .i64 m.kind, .int .i64 m.frm, .int .i64 m.to, .int .i64 m.id, .slice A1 m.args.length c1, .slice A2 m.data.length c2] 45)
      have hb34 := Nat.le_trans hb3 (show wr.heap.size ≤ (wr.alloc (.cells #[.int .i64 m.kind, .int .i64 m.frm, .int .i64 m.to, .int .i64 m.id, .slice A1 m.args.length c1, .slice A2 m.data.length c2] 45)).heap.size by simp)
      generalize wr.alloc (.cells #[.int .i64 m.kind, .int .i64 m.frm, .int .i64 m.to, .int .i64 m.id, .slice A1 m.args.length c1, .slice A2 m.data.length c2] 45) = w4 at D7 D5 D4 hown4 him4 hbw4 hb34 ⊢
      clear q1 f1 t1 hc0 hc1 hc2 hc3 hc4 hc5 hown him hbw hb3 C5 C4
      have hlen : (q.take j).length = j := by rw [List.length_take]; omega
      have HLEN := Lib.hid hlen; clear hlen
      have hqq : ∀ W, Below w4.heap.size w4 W → ((∀ o, W.cell? ⟨w.heap.size + 1 + 1, o, none⟩ = (#[.int .i64 n.cap, .slice A5 j c5] : Array Value)[o]?) ∧ (∀ o, W.frozen? ⟨w.heap.size + 1 + 1, o, none⟩ = false) ∧ w.heap.size + 1 + 1 < W.heap.size) ∧
          (∀ o, W.cell? ⟨wr.heap.size, o, none⟩ = (#[.int .i64 m.kind, .int .i64 m.frm, .int .i64 m.to, .int .i64 m.id, .slice A1 m.args.length c1, .slice A2 m.data.length c2] : Array Value)[o]?) ∧ IsM W K' (mv m A1 c1 A2 c2) m ∧ OwnR Rp.msg W w3.heap.size 45 (fun b => w3.heap.size ≤ b) (.slice A5 j c5) (q.take j) :=
        fun W h => ⟨⟨(D5.step h).cell, (D5.step h).frozen, (D5.step h).lt⟩, (D7.step h).cell, him4.step h, hown4.step h⟩
      have HQ := Lib.hid hqq; clear hqq
      obtain ⟨⟨q1, f1, t1⟩, q7, za, zb⟩ := HQ.out w4.drew (Below.refl _ _).drew
      clear za zb
      have hw34 := hb34
      go_region_law (first
        | (go_simp
           go_at_call 56
           refine (own_any _ m K' _ (HQ.out _ (Below.refl _ _).drew).2.2.1 (by omega)).mono ?_
           rintro e wN ⟨vN, rfl, himN, hb4⟩
           have hbN : Below w4.heap.size w4 wN := (Below.refl _ _).drew.trans hb4
           have hsN := hbN.size
           obtain ⟨A3, c3, A4, c4, rfl, hrpN⟩ := isM_rp himN.lt
           obtain ⟨⟨qN, fN, tN⟩, za, zb, hownN⟩ := HQ.out wN hbN
           clear za zb
           obtain ⟨hjj, cs, own5, cl5⟩ := hownN.open_
           clear hjj
           rw [HLEN.out] at own5 cl5
           replace own5 : wN.ownsRow w3.heap.size 45 6 (.slice A5 j c5) j cs := own5
           have HOWN := Lib.hid own5
           have HCL := Lib.hid cl5
           have HRP := Lib.hid hrpN
           have HB4 := Lib.hid hb4
           clear own5 cl5 hrpN hownN himN hb4
           unfold mv)
        | (refine step_appN (by rfl) (.tmp 18) (.tmp 21) _ (by rfl) w3.heap.size 45 i0 _ 6 80 Try.underlying35 hi hz0 hz1 hz2 rfl (by omega) (by rfl) (HOWN.out.alloc _) (by rfl) (Reads.new (xs := cellsM m A3 c3 A4 c4) (n := 1) rfl rfl rfl) (by intro u hu; simp [cellsM] at hu; rcases hu with rfl | rfl | rfl | rfl | rfl | rfl <;> rfl) (by simp only [maxLen]; omega) (by omega) (by simp; omega) ?_
           intro A6 c6 wP own6 hg6
           have hsP := hg6.below.size
           have D5P := ((D5.step hbN).alloc _).grew (HOWN.out.alloc _) (by decide) hg6
           have D4P := ((D4.step hbN).alloc _).grew (HOWN.out.alloc _) (by decide) hg6
           obtain ⟨qP, fP⟩ := D5P.rules
           have tP := D5P.lt))
      all_goals
        go_wp2
        have hrow := hown4.rowlt
        have hO : OwnR Rp.msg wP w3.heap.size 45 (fun b => w3.heap.size ≤ b) (.slice A6 (j + 1) c6) (q.take (j + 1)) := by
          have e := HLEN.out
          rw [HTK.out]
          have h2 := (HCL.out.alloc (.cells (cellsM m A3 c3 A4 c4).toArray 45)).more (K' := fun b => w3.heap.size ≤ b ∧ b < (wN.alloc (.cells (cellsM m A3 c3 A4 c4).toArray 45)).heap.size ∧ some b ≠ (Value.slice A5 (q.take j).length c5).ownBlock) (fun b hb => ⟨hb.1, by simp; omega, by rw [e]; exact hb.2.2⟩)
          have h3 := Rp.msg.more (K' := fun b => w3.heap.size ≤ b ∧ b < (wN.alloc (.cells (cellsM m A3 c3 A4 c4).toArray 45)).heap.size ∧ some b ≠ (Value.slice A5 (q.take j).length c5).ownBlock) (Rp.alloc HRP.out (.cells (cellsM m A3 c3 A4 c4).toArray 45)) (fun b hb => by
            have h1 : w4.heap.size ≤ b := hb.1
            refine ⟨by omega, by simp; omega, ?_⟩
            rw [e]
            intro hr
            have := (hrow b hr.symm).2
            omega)
          have h5 := OwnR.push (A' := A6) (c' := c6) (w' := wP) (e := 45) (base := w3.heap.size) h2 h3 (by rw [e]; exact own6) (by rw [e]; exact hg6)
          rw [e] at h5
          exact h5
        have hW : Below w4.heap.size w4 (wN.alloc (.cells (cellsM m A3 c3 A4 c4).toArray 45)) := hbN.alloc hbN.size _
        have hw04 : w.heap.size ≤ w4.heap.size := hbw4.size
        have hW3 : Below w.heap.size w wP := (hbw4.trans (hW.mono hw04)).trans (hg6.below.mono (show w.heap.size ≤ w3.heap.size by omega))
        refine ⟨⟨j + 1, A6, c6, by go_num, by omega, D5P.set_ 1 _, D4P.far (by show w.heap.size + 1 + 1 - 1 ≠ w.heap.size + 1 + 1; omega) _, hO.far D5P (by decide) (by omega) 1 _, hW3.setCell (by show w.heap.size ≤ w.heap.size + 1 + 1; omega) _, by simp [World.setCell]; simp at hsP; omega⟩, by simp [intOf]; omega⟩
    · obtain rfl : j = q.length := by omega
      rw [List.take_length] at hown
      obtain ⟨q1, f1⟩ := C5.rules
      obtain ⟨q2, f2⟩ := C4.rules
      have t2 := C4.lt
      have e1 : w.heap.size + 1 + 1 - 1 = w.heap.size + 1 := by omega
      rw [e1] at q2 f2 t2 C4
      go_wp2
      have F := (C4.set_ 0 (.int .i64 n.cap)).set_ 1 (.slice A5 q.length c5)
      have F := F.rules
      refine bodyPost_ret (v := .agg #[.int .i64 n.cap, .slice A5 q.length c5]) (by simp [results, Try.results55, go_sem, F.1]) rfl ⟨A5, c5, rfl, ?_, ?_⟩
      · exact (((hown.far C4 (by decide) (by omega) 0 _).far (C4.set_ 0 _) (by decide) (by omega) 1 _).lower (by omega)).more (fun b hb _ => by omega)
      · exact (hbw.setCell (by show w.heap.size ≤ w.heap.size + 1; omega) _).setCell (by show w.heap.size ≤ w.heap.size + 1; omega) _
end Go.Proofs.Ytbjgemipmlimoaa
