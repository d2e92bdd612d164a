/- The walk of net.Send. -/
import Derived.Test.YtbjgemipmlimoaaNetWith
namespace Go.Proofs.Ytbjgemipmlimoaa
open Go.RowKit

/-- what Send sends -/
def sendQ (cap : Int) : List Ms → List Ms → Nat → List Ms × Nat
  | [], q, k => (q, k)
  | m :: l, q, k => if (msgL m).2 = 0 ∧ (q.length : Int) < cap then sendQ cap l (q ++ [m]) (k + 1) else sendQ cap l q k

def SendInv (w wr : World) (n : Nt) (l : List Ms) (g6 : Nat) (res : List Ms × Nat) (kv i : Value) : Prop :=
  ∃ (j k : Nat) (q : List Ms) (A6 : Option Addr) (c6 : Nat), i = .int .i64 j ∧ kv = .int .i64 k ∧ j ≤ l.length ∧ k ≤ j ∧ q.length ≤ 100000000000 ∧ sendQ n.cap (l.drop j) q k = res ∧
    Blk wr g6 38 #[.int .i64 n.cap, .slice A6 q.length c6] ∧ OwnR Rp.msg wr w.heap.size 45 (fun b => w.heap.size + 1 < b ∧ b ≠ g6) (.slice A6 q.length c6) q ∧ Below w.heap.size w wr ∧
    Blk wr (w.heap.size + 1) 38 #[.int .i64 0, .slice none 0 0] ∧ (∃ A c, Blk wr w.heap.size 38 #[.int .i64 n.cap, .slice A n.q.length c])

set_option maxRecDepth 100000 in
set_option maxHeartbeats 8000000 in
theorem send_big (v lv : Value) (n : Nt) (l : List Ms) (K K' : Nat → Prop) (w : World) (hv : IsN w K v n) (hq : IsL Rp.msg w K' lv l) (hl : ∀ m ∈ l, m.args.length ≤ 17592186043904) (hnl : ArgsLe n.q) (hl8 : l.length ≤ 2000000000000) (hn8 : n.q.length ≤ 100000000000) (hcap9 : n.cap ≤ 100000000000) :
    Calls Try.prog 24 #[v, lv] w fun e w' => ∃ A' c', e = .returned (.tuple #[.agg #[.int .i64 n.cap, .slice A' (sendQ n.cap l n.q 0).1.length c'], .int .i64 (sendQ n.cap l n.q 0).2]) ∧
      OwnR Rp.msg w' w.heap.size 45 (fun b => w.heap.size ≤ b) (.slice A' (sendQ n.cap l n.q 0).1.length c') (sendQ n.cap l n.q 0).1 ∧ Below w.heap.size w w' := by
  obtain ⟨i0, hi, hz0, hz1, hz2⟩ := info_parts Try.infM
  obtain ⟨res, hres⟩ : ∃ res, sendQ n.cap l n.q 0 = res := ⟨_, rfl⟩
  rw [hres]
  obtain ⟨A, c, rfl, hnq⟩ := hv
  have hq0 := hq
  obtain ⟨Aq, cq, rfl, hlc, hcc⟩ := hq.form
  have E := ((((Kn.start w).give Stable.list hnq).give Stable.list hq0).push 38 #[.int .i64 n.cap, .slice A n.q.length c]).push 38 #[.int .i64 0, .slice none 0 0]
  rw [World.size_alloc] at E
  have HRES := Lib.hid hres; clear hres
  clear hnq hq
  go_enter Try.func24, Try.ntmps24
  go_wp2_with fail
  refine (with_any _ _ n n.q K K _ ⟨A, c, rfl, E.get m1⟩ (E.get m1) hnl (by omega)).mono ?_
  rintro e w1 ⟨A1, c1, rfl, own1, hb1⟩
  replace E := E.step hb1
  have hg0 := (E.at_ m1).lt
  have hg1 := (E.at_ m0).lt
  have own2 := (own1.lower (base' := w.heap.size) (by simp; omega)).more (X' := fun b => w.heap.size + 1 < b ∧ b ≠ w1.heap.size) (fun b hb hlt => ⟨by simp at hb; omega, by omega⟩)
  replace own2 := own2.step ((Below.refl w1.heap.size w1).alloc (Nat.le_refl _) (.cells #[.int .i64 n.cap, .slice A1 n.q.length c1] 38))
  replace E := E.push 38 #[.int .i64 n.cap, .slice A1 n.q.length c1]
  clear own1 hb1
  go_wp2_with fail
  generalize w1.alloc (.cells #[.int .i64 n.cap, .slice A1 n.q.length c1] 38) = w3 at own2 E ⊢
  go_loopw [7, 18] (fun kv i wr => SendInv w wr n l w1.heap.size res kv i) (fun _ i _ => l.length - (intOf i).toNat)
  case atStart => exact ⟨0, 0, n.q, A1, c1, rfl, rfl, Nat.zero_le _, Nat.zero_le _, by omega, HRES.out, E.at_ m0, own2, E.below, E.at_ m1, _, _, E.at_ m2⟩
  case round =>
    obtain ⟨j, k, q, A6, c6, rfl, rfl, hj, hkj, hqn, hsq, C6, hown, hbw, C4, A0, c0, C2⟩ := hrel
    have HSQ := Lib.hid hsq; clear hsq
    have hsz := hbw.size
    by_cases hlt : j < l.length
    · obtain ⟨ad, es, rfl, _, hes, hcell⟩ := (hq0.step hbw).at_ (List.getElem?_eq_getElem hlt)
      have htk : l.drop j = l[j] :: l.drop (j + 1) := List.drop_eq_getElem_cons hlt
      have hml := hl l[j] (List.getElem_mem hlt)
      generalize l[j] = m at hes htk hml
      have HTK := Lib.hid htk; clear htk
      obtain ⟨A1, c1, A2, c2, rfl, him⟩ := rp_isM hes
      unfold cellsM at hcell
      have hc0 : wr.cell? (ad.add (j * 6)) = some (.int .i64 m.kind) := by rw [← addr0 (ad.add (j * 6))]; exact hcell 0 _ rfl
      have hc1 : wr.cell? ⟨(ad.add (j * 6)).block, (ad.add (j * 6)).off + 1, none⟩ = some (.int .i64 m.frm) := by rw [← addrS _ 1 (by decide)]; exact hcell 1 _ rfl
      have hc2 : wr.cell? ⟨(ad.add (j * 6)).block, (ad.add (j * 6)).off + 2, none⟩ = some (.int .i64 m.to) := by rw [← addrS _ 2 (by decide)]; exact hcell 2 _ rfl
      have hc3 : wr.cell? ⟨(ad.add (j * 6)).block, (ad.add (j * 6)).off + 3, none⟩ = some (.int .i64 m.id) := by rw [← addrS _ 3 (by decide)]; exact hcell 3 _ rfl
      have hc4 : wr.cell? ⟨(ad.add (j * 6)).block, (ad.add (j * 6)).off + 4, none⟩ = some (.slice A1 m.args.length c1) := by rw [← addrS _ 4 (by decide)]; exact hcell 4 _ rfl
      have hc5 : wr.cell? ⟨(ad.add (j * 6)).block, (ad.add (j * 6)).off + 5, none⟩ = some (.slice A2 m.data.length c2) := by rw [← addrS _ 5 (by decide)]; exact hcell 5 _ rfl
      clear hcell hes
      have F := (((Kn.start wr).give Stable.msg him).give (f := fun W => OwnR Rp.msg W w.heap.size 45 (fun b => w.heap.size + 1 < b ∧ b ≠ w1.heap.size) (.slice A6 q.length c6) q) (fun _ _ h hb => OwnR.step h hb) hown).push 45 #[.int .i64 m.kind, .int .i64 m.frm, .int .i64 m.to, .int .i64 m.id, .slice A1 m.args.length c1, .slice A2 m.data.length c2]
      obtain ⟨r, hr⟩ : ∃ r, msgL m = r := ⟨_, rfl⟩
      obtain ⟨rb, re⟩ := r
      have HR := Lib.hid hr; clear hr
      go_wp2_with fail
      refine (wmsg_any _ m _ _ (F.get m1) (by omega)).mono ?_
      rw [HR.out]
      rintro e w4 ⟨A7, c7, rfl, own7, hb4⟩
      replace F := F.step hb4
      have H6 := (C6.alloc (.cells #[.int .i64 m.kind, .int .i64 m.frm, .int .i64 m.to, .int .i64 m.id, .slice A1 m.args.length c1, .slice A2 m.data.length c2] 45)).step hb4
      have H4 := (C4.alloc (.cells #[.int .i64 m.kind, .int .i64 m.frm, .int .i64 m.to, .int .i64 m.id, .slice A1 m.args.length c1, .slice A2 m.data.length c2] 45)).step hb4
      have H2 := (C2.alloc (.cells #[.int .i64 m.kind, .int .i64 m.frm, .int .i64 m.to, .int .i64 m.id, .slice A1 m.args.length c1, .slice A2 m.data.length c2] 45)).step hb4
      have hW4 : Below w.heap.size w w4 := hbw.trans (F.below.mono hsz)
      have hstep : sendQ n.cap (l.drop j) q k = if re = 0 ∧ (q.length : Int) < n.cap then sendQ n.cap (l.drop (j + 1)) (q ++ [m]) (k + 1) else sendQ n.cap (l.drop (j + 1)) q k := by
        rw [HTK.out]; show (if (msgL m).2 = 0 ∧ _ then _ else _) = _; rw [HR.out]
      have HST := Lib.hid hstep; clear hstep
      clear own7 hb4 hown C6 C4 C2 hc0 hc1 hc2 hc3 hc4 hc5
      by_cases hgo : re = 0 ∧ (q.length : Int) < n.cap
      · obtain ⟨hre, hcap⟩ := hgo
        have hnext : sendQ n.cap (l.drop (j + 1)) (q ++ [m]) (k + 1) = res := by rw [← HSQ.out, HST.out, if_pos ⟨hre, hcap⟩]
        have HN := Lib.hid hnext; clear hnext
        have heb : (re == 0) = true := by simpa using hre
        clear hre
        obtain ⟨q6, f6⟩ := H6.rules
        obtain ⟨q2, f2⟩ := H2.rules
        have t6 := H6.lt
        have t2 := H2.lt
        have D7 := F.at_ m0
        have t7 := D7.lt
        have hown4 := F.get m0
        have him4 := F.get m1
        have hqq : ∀ W, Below w4.heap.size w4 W → ((∀ o, W.cell? ⟨w1.heap.size, o, none⟩ = (#[.int .i64 n.cap, .slice A6 q.length c6] : Array Value)[o]?) ∧ (∀ o, W.frozen? ⟨w1.heap.size, o, none⟩ = false) ∧ w1.heap.size < W.heap.size) ∧
            (∀ o, W.cell? ⟨wr.heap.size, o, none⟩ = (#[.int .i64 m.kind, .int .i64 m.frm, .int .i64 m.to, .int .i64 m.id, .slice A1 m.args.length c1, .slice A2 m.data.length c2] : Array Value)[o]?) ∧ IsM W K' (mv m A1 c1 A2 c2) m ∧ OwnR Rp.msg W w.heap.size 45 (fun b => w.heap.size + 1 < b ∧ b ≠ w1.heap.size) (.slice A6 q.length c6) q :=
          fun W h => ⟨⟨(H6.step h).cell, (H6.step h).frozen, (H6.step h).lt⟩, (D7.step h).cell, IsM.step him4 h, OwnR.step hown4 h⟩
        have HQ := Lib.hid hqq; clear hqq
        go_wp2_with fail
        clear q6 f6 t6 q2 f2
        obtain ⟨⟨q6, f6, t6⟩, q7, za, zb⟩ := HQ.out w4.drew (Below.refl _ _).drew
        clear za zb
        have hsw4 := hW4.size
        go_region_law (first
          | (go_simp
             go_at_call 56
             refine (own_any _ m K' _ (HQ.out _ (Below.refl _ _).drew).2.2.1 (by omega)).mono ?_
             rintro e wN ⟨vN, rfl, himN, hb4⟩
             have hbN : Below w4.heap.size w4 wN := (Below.refl _ _).drew.trans hb4
             have hsN := hbN.size
             obtain ⟨A3, c3, A4, c4, rfl, hrpN⟩ := isM_rp himN.lt
             obtain ⟨⟨qN, fN, tN⟩, za, zb, hownN⟩ := HQ.out wN hbN
             clear za zb
             obtain ⟨hjj, cs, own5, cl5⟩ := hownN.open_
             clear hjj
             replace own5 : wN.ownsRow w.heap.size 45 6 (.slice A6 q.length c6) q.length cs := own5
             have HOWN := Lib.hid own5
             have HCL := Lib.hid cl5
             have HRP := Lib.hid hrpN
             have HB4 := Lib.hid hb4
             clear own5 cl5 hrpN hownN himN hb4
             unfold mv)
          | (refine step_appN (by rfl) (.tmp 38) (.tmp 41) _ (by rfl) w.heap.size 45 i0 _ 6 80 Try.underlying35 hi hz0 hz1 hz2 rfl (by omega) (by rfl) (HOWN.out.alloc _) (by rfl) (Reads.new (xs := cellsM m A3 c3 A4 c4) (n := 1) rfl rfl rfl) (by intro u hu; simp [cellsM] at hu; rcases hu with rfl | rfl | rfl | rfl | rfl | rfl <;> rfl) (by simp only [maxLen]; omega) (by omega) (by simp; omega) ?_
             intro A9 c9 wP own6 hg6
             have hsP := hg6.below.size
             have D6P := ((H6.step hbN).alloc _).grew (HOWN.out.alloc _) (by decide) hg6
             have D4P := ((H4.step hbN).alloc _).grew (HOWN.out.alloc _) (by decide) hg6
             obtain ⟨qP, fP⟩ := D6P.rules
             have tP := D6P.lt))
        all_goals
          go_wp2
          have hrow := OwnR.rowlt hown4
          have hlq : (q ++ [m]).length = q.length + 1 := by simp
          have hO : OwnR Rp.msg wP w.heap.size 45 (fun b => w.heap.size + 1 < b ∧ b ≠ w1.heap.size) (.slice A9 (q.length + 1) c9) (q ++ [m]) := by
            have h2 := (HCL.out.alloc (.cells (cellsM m A3 c3 A4 c4).toArray 45)).more (K' := fun b => (w.heap.size + 1 < b ∧ b ≠ w1.heap.size) ∧ b < (wN.alloc (.cells (cellsM m A3 c3 A4 c4).toArray 45)).heap.size ∧ some b ≠ (Value.slice A6 q.length c6).ownBlock) (fun b hb => ⟨hb.1, by simp; omega, hb.2.2⟩)
            have h3 := Rp.msg.more (K' := fun b => (w.heap.size + 1 < b ∧ b ≠ w1.heap.size) ∧ b < (wN.alloc (.cells (cellsM m A3 c3 A4 c4).toArray 45)).heap.size ∧ some b ≠ (Value.slice A6 q.length c6).ownBlock) (Rp.alloc HRP.out (.cells (cellsM m A3 c3 A4 c4).toArray 45)) (fun b hb => by
              have h1 : w4.heap.size ≤ b := hb.1
              refine ⟨⟨by omega, by omega⟩, by simp; omega, ?_⟩
              intro hr
              have := (hrow b hr.symm).2
              omega)
            exact OwnR.push (A' := A9) (c' := c9) (w' := wP) (e := 45) (base := w.heap.size) h2 h3 own6 hg6
          have hW : Below w4.heap.size w4 (wN.alloc (.cells (cellsM m A3 c3 A4 c4).toArray 45)) := hbN.alloc hbN.size _
          have hW3 : Below w.heap.size w wP := (hW4.trans (hW.mono hsw4)).trans hg6.below
          have H2P := ((H2.step hbN).alloc (.cells (cellsM m A3 c3 A4 c4).toArray 45)).grew (HOWN.out.alloc _) (by decide) hg6
          exact ⟨⟨j + 1, k + 1, q ++ [m], A9, c9, by go_num, by go_num, by omega, by omega, by rw [hlq]; omega, HN.out, by rw [hlq]; exact D6P.set_ 1 _, by rw [hlq]; exact hO.far D6P (by decide) (by omega) 1 _, hW3.setCell (by show w.heap.size ≤ w1.heap.size; omega) _,
            D4P.far (by show w.heap.size + 1 ≠ w1.heap.size; omega) _, A0, c0, H2P.far (by show w.heap.size ≠ w1.heap.size; omega) _⟩, by simp [intOf]; omega⟩
      · have hnext : sendQ n.cap (l.drop (j + 1)) q k = res := by rw [← HSQ.out, HST.out, if_neg hgo]
        have HN := Lib.hid hnext; clear hnext
        obtain ⟨q6, f6⟩ := H6.rules
        obtain ⟨q2, f2⟩ := H2.rules
        have t6 := H6.lt
        have t2 := H2.lt
        have hown4 := F.get m0
        by_cases hre : re = 0
        · have hcap : ¬ (q.length : Int) < n.cap := fun h => hgo ⟨hre, h⟩
          have heb : (re == 0) = true := by simpa using hre
          clear hre hgo
          go_wp2
          exact ⟨⟨j + 1, k, q, A6, c6, by go_num, rfl, by omega, by omega, by omega, HN.out, H6, hown4, hW4, H4, A0, c0, H2⟩, by simp [intOf]; omega⟩
        · have heb : (re == 0) = false := by simpa using hre
          clear hre hgo
          go_wp2
          exact ⟨⟨j + 1, k, q, A6, c6, by go_num, rfl, by omega, by omega, by omega, HN.out, H6, hown4, hW4, H4, A0, c0, H2⟩, by simp [intOf]; omega⟩
    · obtain rfl : j = l.length := by omega
      have hfin : res = (q, k) := by rw [← HSQ.out, List.drop_length]; rfl
      have HF := Lib.hid hfin; clear hfin
      obtain ⟨q6, f6⟩ := C6.rules
      obtain ⟨q4, f4⟩ := C4.rules
      have t6 := C6.lt
      have t4 := C4.lt
      go_wp2
      rw [HF.out]
      have F := ((C4.set_ 0 (.int .i64 n.cap)).set_ 1 (.slice A6 q.length c6)).rules
      refine bodyPost_ret (v := .tuple #[.agg #[.int .i64 n.cap, .slice A6 q.length c6], .int .i64 k]) (by simp [results, Try.results24, go_sem, F.1]) rfl ⟨A6, c6, rfl, ?_, ?_⟩
      · exact ((hown.far C4 (by decide) (by omega) 0 _).far (C4.set_ 0 _) (by decide) (by omega) 1 _).more (fun b hb _ => by omega)
      · exact (hbw.setCell (by show w.heap.size ≤ w.heap.size + 1; omega) _).setCell (by show w.heap.size ≤ w.heap.size + 1; omega) _

theorem send_any (v lv : Value) (n : Nt) (l : List Ms) (K K' : Nat → Prop) (w : World) (hv : IsN w K v n) (hq : IsL Rp.msg w K' lv l) (hl : ArgsLe l) (hnl : ArgsLe n.q) (hl8 : l.length ≤ 100000000000) (hn8 : n.q.length ≤ 100000000000) (hcap9 : n.cap ≤ 100000000000 := by simp) :
    Calls Try.prog 24 #[v, lv] w fun e w' => ∃ A' c', e = .returned (.tuple #[.agg #[.int .i64 n.cap, .slice A' (sendQ n.cap l n.q 0).1.length c'], .int .i64 (sendQ n.cap l n.q 0).2]) ∧
      OwnR Rp.msg w' w.heap.size 45 (fun b => w.heap.size ≤ b) (.slice A' (sendQ n.cap l n.q 0).1.length c') (sendQ n.cap l n.q 0).1 ∧ Below w.heap.size w w' :=
  send_big v lv n l K K' w hv hq (fun m hm => by have := hl m hm; omega) hnl (by omega) hn8 hcap9
end Go.Proofs.Ytbjgemipmlimoaa
