/- The walk of quicksetref13.Send. -/
import Derived.Test.YtbjgemipmlimoaaRefDouble
import Derived.Test.YtbjgemipmlimoaaRefW
import Derived.Test.YtbjgemipmlimoaaNetSend
namespace Go.Proofs.Ytbjgemipmlimoaa
open Go.RowKit

set_option maxRecDepth 100000 in
set_option maxHeartbeats 8000000 in
theorem rsend_big (v lv : Value) (n : Nt) (l : List Ms) (K K' : Nat → Prop) (w : World) (hv : IsN w K v n) (hq : IsL Rp.msg w K' lv l) (hl : ∀ m ∈ l, m.args.length ≤ 17592186043904) (hnl : ArgsLe n.q) (hl8 : l.length ≤ 2000000000000) (hn8 : n.q.length ≤ 100000000000) (hcap9 : n.cap ≤ 100000000000) :
    Calls Try.prog 73 #[v, lv] w fun e w' => ∃ A' c', e = .returned (.tuple #[.agg #[.int .i64 n.cap, .slice A' (sendQ n.cap l n.q 0).1.length c'], .int .i64 (sendQ n.cap l n.q 0).2]) ∧
      OwnR Rp.msg w' w.heap.size 45 (fun b => w.heap.size ≤ b) (.slice A' (sendQ n.cap l n.q 0).1.length c') (sendQ n.cap l n.q 0).1 ∧ Below w.heap.size w w' := by
  obtain ⟨i0, hi, hz0, hz1, hz2⟩ := info_parts Try.infM
  obtain ⟨res, hres⟩ : ∃ res, sendQ n.cap l n.q 0 = res := ⟨_, rfl⟩
  rw [hres]
  obtain ⟨A, c, rfl, hnq⟩ := hv
  have hq0 := hq
  obtain ⟨Aq, cq, rfl, hlc, hcc⟩ := hq.form
  have E := ((((Kn.start w).give Stable.list hnq).give Stable.list hq0).push 38 #[.int .i64 n.cap, .slice A n.q.length c]).push 38 #[.int .i64 0, .slice none 0 0]
  rw [World.size_alloc] at E
  have HRES := Lib.hid hres; clear hres
  clear hnq hq
  go_enter Try.func73, Try.ntmps73
  have hn17 := args17 hnl
  have HN17 := Lib.hid hn17; clear hn17
  go_upto_region 1 with fail
  generalize hw2 : (w.alloc (.cells #[.int .i64 n.cap, .slice A n.q.length c] 38)).alloc (.cells #[.int .i64 0, .slice none 0 0] 38) = w2 at E ⊢
  clear hw2
  have hw12 : w.heap.size + 1 < w2.heap.size := (E.at_ m0).lt
  obtain ⟨q2, f2, t2⟩ := E.rules m1
  go_cut [6] (fun s6 wx => ∃ bx A9 c9, s6 = .pointer (some ⟨bx, 0, none⟩) ∧ w.heap.size + 1 < bx ∧ Blk wx bx 38 #[.int .i64 n.cap, .slice A9 n.q.length c9] ∧ OwnR Rp.msg wx w.heap.size 45 (fun b => w.heap.size + 1 < b ∧ b ≠ bx) (.slice A9 n.q.length c9) n.q ∧ Below w2.heap.size w2 wx)
  case first =>
    have HK : Hid (∀ W, Below w2.heap.size w2 W → (∀ o, W.cell? ⟨w.heap.size, o, none⟩ = (#[.int .i64 n.cap, .slice A n.q.length c] : Array Value)[o]?)) := Lib.hid fun W h => ((E.step h).rules m1).1
    have hb0 : Below w2.heap.size w2 w2.drew := (Below.refl _ _).drew
    have hbZ : Below w2.heap.size w2 (w2.alloc (.cells #[.int .i64 0, .slice none 0 0] 38)).drew := ((Below.refl _ _).alloc (Nat.le_refl _) _).drew
    have hZ0 : Blk (w2.alloc (.cells #[.int .i64 0, .slice none 0 0] 38)).drew w2.heap.size 38 #[.int .i64 0, .slice none 0 0] := (Blk.new w2 _ _ rfl).drew
    go_region_held3 (fun W => (∀ o, W.cell? ⟨w.heap.size, o, none⟩ = (#[.int .i64 n.cap, .slice A n.q.length c] : Array Value)[o]?))
      (first | with_reducible exact HK.out _ hb0 | with_reducible exact HK.out _ hbZ | with_reducible exact HK.out _ hbC | with_reducible exact HK.out _ (hbC.alloc hbC.size _) | with_reducible exact HK.out _ (below_set2 hbC (Nat.le_refl _)))
      (first
      | (go_at_call 49
         refine (rcopy_any _ n.q K _ ((E.step hbZ).get m1) HN17.out (by omega)).mono ?_
         rintro e wC ⟨AC, cC, rfl, ownC, hbC⟩
         have hZ := hZ0.step hbC
         obtain ⟨qz, fz⟩ := hZ.rules
         have tz := hZ.lt
         replace hbC := hbZ.trans (hbC.mono hbZ.size))
      | (go_at_call 49
         refine (rcopy_any _ n.q K _ ((E.step hb0).get m1) HN17.out (by omega)).mono ?_
         rintro e wC ⟨AC, cC, rfl, ownC, hbC⟩
         replace hbC := hb0.trans (hbC.mono hb0.size))
      | fail)
    all_goals
      go_wp2_with fail
      go_meet
    · exact ⟨wC.heap.size, AC, cC, rfl, by have := hbC.size; omega, Blk.new _ _ _ rfl, ((ownC.more (X' := fun b => w.heap.size + 1 < b ∧ b ≠ wC.heap.size) (fun b h1 h2 => ⟨by have : w2.heap.size ≤ b := h1; omega, by omega⟩)).lower (by show _ ≤ w2.heap.size; omega)).step ((Below.refl _ _).alloc (Nat.le_refl _) _), hbC.alloc hbC.size _⟩
    · have hx := ownC.more (X' := fun b => w.heap.size + 1 < b ∧ b ≠ w2.heap.size) (fun b h1 h2 => by
        have h3 : w2.heap.size + 1 ≤ b := by simpa using h1
        exact ⟨by omega, by omega⟩)
      exact ⟨w2.heap.size, AC, cC, rfl, hw12, hZ.set2, ((hx.farb (by simp) (by simp) 0 _).farb (by simp) (by simp) 1 _).lower (by simp; omega), below_set2 hbC (Nat.le_refl _)⟩
  case rest =>
    obtain ⟨bx, A9, c9, rfl, hbx, hBx, hown, hbc⟩ := hcut
    clear q2 f2 t2
    replace E := (E.step hbc).know hBx
    go_wp2_with fail
    go_loopw [7, 20] (fun kv i wr => SendInv w wr n l bx res kv i) (fun _ i _ => l.length - (intOf i).toNat)
    case atStart => exact ⟨0, 0, n.q, A9, c9, rfl, rfl, Nat.zero_le _, Nat.zero_le _, by omega, HRES.out, hBx, hown, E.below, E.at_ m1, _, _, E.at_ m2⟩
    case round =>
      obtain ⟨j, k, q, A6, c6, rfl, rfl, hj, hkj, hqn, hsq, C6, hown, hbw, C4, A0, c0, C2⟩ := hrel
      have HSQ := Lib.hid hsq; clear hsq
      have hsz := hbw.size
      by_cases hlt : j < l.length
      · obtain ⟨ad, es, rfl, _, hes, hcell⟩ := (hq0.step hbw).at_ (List.getElem?_eq_getElem hlt)
        have htk : l.drop j = l[j] :: l.drop (j + 1) := List.drop_eq_getElem_cons hlt
        have hml := hl l[j] (List.getElem_mem hlt)
        generalize l[j] = m at hes htk hml
        have HTK := Lib.hid htk; clear htk
        obtain ⟨A1, c1, A2, c2, rfl, him⟩ := rp_isM hes
        unfold cellsM at hcell
        have hc0 : wr.cell? (ad.add (j * 6)) = some (.int .i64 m.kind) := by rw [← addr0 (ad.add (j * 6))]; exact hcell 0 _ rfl
        have hc1 : wr.cell? ⟨(ad.add (j * 6)).block, (ad.add (j * 6)).off + 1, none⟩ = some (.int .i64 m.frm) := by rw [← addrS _ 1 (by decide)]; exact hcell 1 _ rfl
        have hc2 : wr.cell? ⟨(ad.add (j * 6)).block, (ad.add (j * 6)).off + 2, none⟩ = some (.int .i64 m.to) := by rw [← addrS _ 2 (by decide)]; exact hcell 2 _ rfl
        have hc3 : wr.cell? ⟨(ad.add (j * 6)).block, (ad.add (j * 6)).off + 3, none⟩ = some (.int .i64 m.id) := by rw [← addrS _ 3 (by decide)]; exact hcell 3 _ rfl
        have hc4 : wr.cell? ⟨(ad.add (j * 6)).block, (ad.add (j * 6)).off + 4, none⟩ = some (.slice A1 m.args.length c1) := by rw [← addrS _ 4 (by decide)]; exact hcell 4 _ rfl
        have hc5 : wr.cell? ⟨(ad.add (j * 6)).block, (ad.add (j * 6)).off + 5, none⟩ = some (.slice A2 m.data.length c2) := by rw [← addrS _ 5 (by decide)]; exact hcell 5 _ rfl
        clear hcell hes
        have F := (((Kn.start wr).give Stable.msg him).give (f := fun W => OwnR Rp.msg W w.heap.size 45 (fun b => w.heap.size + 1 < b ∧ b ≠ bx) (.slice A6 q.length c6) q) (fun _ _ h hb => OwnR.step h hb) hown).push 45 #[.int .i64 m.kind, .int .i64 m.frm, .int .i64 m.to, .int .i64 m.id, .slice A1 m.args.length c1, .slice A2 m.data.length c2]
        obtain ⟨r, hr⟩ : ∃ r, msgL m = r := ⟨_, rfl⟩
        obtain ⟨rb, re⟩ := r
        have HR := Lib.hid hr; clear hr
        go_wp2_with fail
        refine (rmsg_any _ m _ _ (F.get m1) (by omega)).mono ?_
        rw [HR.out]
        rintro e w4 ⟨A7, c7, rfl, own7, hb4⟩
        replace F := F.step hb4
        have H6 := (C6.alloc (.cells #[.int .i64 m.kind, .int .i64 m.frm, .int .i64 m.to, .int .i64 m.id, .slice A1 m.args.length c1, .slice A2 m.data.length c2] 45)).step hb4
        have H4 := (C4.alloc (.cells #[.int .i64 m.kind, .int .i64 m.frm, .int .i64 m.to, .int .i64 m.id, .slice A1 m.args.length c1, .slice A2 m.data.length c2] 45)).step hb4
        have H2 := (C2.alloc (.cells #[.int .i64 m.kind, .int .i64 m.frm, .int .i64 m.to, .int .i64 m.id, .slice A1 m.args.length c1, .slice A2 m.data.length c2] 45)).step hb4
        have hW4 : Below w.heap.size w w4 := hbw.trans (F.below.mono hsz)
        have hstep : sendQ n.cap (l.drop j) q k = if re = 0 ∧ (q.length : Int) < n.cap then sendQ n.cap (l.drop (j + 1)) (q ++ [m]) (k + 1) else sendQ n.cap (l.drop (j + 1)) q k := by
          rw [HTK.out]; show (if (msgL m).2 = 0 ∧ _ then _ else _) = _; rw [HR.out]
        have HST := Lib.hid hstep; clear hstep
        clear own7 hb4 hown C6 C4 C2 hc0 hc1 hc2 hc3 hc4 hc5
        by_cases hgo : re = 0 ∧ (q.length : Int) < n.cap
        · obtain ⟨hre, hcap⟩ := hgo
          have hnext : sendQ n.cap (l.drop (j + 1)) (q ++ [m]) (k + 1) = res := by rw [← HSQ.out, HST.out, if_pos ⟨hre, hcap⟩]
          have HN := Lib.hid hnext; clear hnext
          have heb : (re == 0) = true := by simpa using hre
          clear hre
          obtain ⟨q6, f6⟩ := H6.rules
          obtain ⟨q2, f2⟩ := H2.rules
          have t6 := H6.lt
          have t2 := H2.lt
          have D7 := F.at_ m0
          have t7 := D7.lt
          have hown4 := F.get m0
          have him4 := F.get m1
          have hqq : ∀ W, Below w4.heap.size w4 W → ((∀ o, W.cell? ⟨bx, o, none⟩ = (#[.int .i64 n.cap, .slice A6 q.length c6] : Array Value)[o]?) ∧ (∀ o, W.frozen? ⟨bx, o, none⟩ = false) ∧ bx < W.heap.size) ∧
              (∀ o, W.cell? ⟨wr.heap.size, o, none⟩ = (#[.int .i64 m.kind, .int .i64 m.frm, .int .i64 m.to, .int .i64 m.id, .slice A1 m.args.length c1, .slice A2 m.data.length c2] : Array Value)[o]?) ∧ IsM W K' (mv m A1 c1 A2 c2) m ∧ OwnR Rp.msg W w.heap.size 45 (fun b => w.heap.size + 1 < b ∧ b ≠ bx) (.slice A6 q.length c6) q :=
            fun W h => ⟨⟨(H6.step h).cell, (H6.step h).frozen, (H6.step h).lt⟩, (D7.step h).cell, IsM.step him4 h, OwnR.step hown4 h⟩
          have HQ := Lib.hid hqq; clear hqq
          go_wp2_with fail
          clear q6 f6 t6 q2 f2
          obtain ⟨⟨q6, f6, t6⟩, q7, za, zb⟩ := HQ.out w4.drew (Below.refl _ _).drew
          clear za zb
          have hsw4 := hW4.size
          have hbA : Below w4.heap.size w4 (w4.alloc (.cells #[.int .i64 m.kind, .int .i64 m.frm, .int .i64 m.to, .int .i64 m.id, .slice A1 m.args.length c1, .slice A2 m.data.length c2] 45)).drew := ((Below.refl _ _).alloc (Nat.le_refl _) _).drew
          have hl1 : IsL Rp.msg (w4.alloc (.cells #[.int .i64 m.kind, .int .i64 m.frm, .int .i64 m.to, .int .i64 m.id, .slice A1 m.args.length c1, .slice A2 m.data.length c2] 45)).drew (fun _ => True) (.slice (some ⟨w4.heap.size, 0, none⟩) 1 1) [m] :=
            ⟨_, 1, cellsM m A1 c1 A2 c2, rfl, (Reads.new (n := 1) rfl rfl rfl).more fun _ _ => trivial, (CellsL.single (isM_cells (IsM.step him4 hbA))).more fun _ _ => trivial, by simp, by omega, by simp⟩
          have HL1 := Lib.hid hl1; clear hl1
          obtain ⟨⟨qA, fA, tA⟩, qA7, za, zb⟩ := HQ.out _ hbA
          clear za zb
          go_region_law (first
            | (refine is_appC (.tmp 40) (.tmp 43) _ (by rfl) ?_
               refine step_appN (by rfl) (.tmp 40) (.tmp 43) _ (by rfl) w.heap.size 45 i0 _ 6 80 Try.underlying35 hi hz0 hz1 hz2 rfl (by omega) (by rfl) HOWN.out (by rfl) (Reads.of_own HNW.out.1) HNW.out.2.1 (by simp only [maxLen]; omega) (by omega) (by omega) ?_
               intro A9 c9 wP own6 hg6
               have D6P := (H6.step hbN).grew HOWN.out (by decide) hg6
               have D4P := (H4.step hbN).grew HOWN.out (by decide) hg6
               obtain ⟨qP, fP⟩ := D6P.rules
               have tP := D6P.lt)
            | (go_simp
               go_at_call 49
               refine (rcopy_one _ m (fun _ => True) _ HL1.out hml).mono ?_
               rintro e wN ⟨AN, cN, xs, rfl, ownN, hoN, hclN, hb4⟩
               have hbN := hbA.trans (hb4.mono hbA.size)
               have hsN := hbN.size
               obtain ⟨⟨qN, fN, tN⟩, za, zb, hownN⟩ := HQ.out wN hbN
               clear za zb
               obtain ⟨hjj, cs, own5, cl5⟩ := hownN.open_
               clear hjj
               replace own5 : wN.ownsRow w.heap.size 45 6 (.slice A6 q.length c6) q.length cs := own5
               have HOWN := Lib.hid own5
               have HCL := Lib.hid cl5
               have HNW := Lib.hid (And.intro ownN (And.intro hoN hclN))
               have HB4 := Lib.hid hb4
               clear own5 cl5 hownN ownN hoN hclN hb4)
            | fail)
          all_goals
            go_wp2
            have hrow := OwnR.rowlt hown4
            have hlq : (q ++ [m]).length = q.length + 1 := by simp
            have hO : OwnR Rp.msg wP w.heap.size 45 (fun b => w.heap.size + 1 < b ∧ b ≠ bx) (.slice A9 (q.length + 1) c9) (q ++ [m]) := by
              refine OwnR.appL rfl hlq HCL.out (HNW.out.2.2.more fun b hb => ?_) own6 hg6
              have h1 : w4.heap.size + 1 ≤ b := by simpa using hb.1
              exact ⟨⟨by omega, by omega⟩, hb.2, fun e => by have := (hrow b e.symm).2; omega⟩
            have hW3 : Below w.heap.size w wP := (hW4.trans (hbN.mono hsw4)).trans hg6.below
            have H2P := (H2.step hbN).grew HOWN.out (by decide) hg6
            exact ⟨⟨j + 1, k + 1, q ++ [m], A9, c9, by go_num, by go_num, by omega, by omega, by rw [hlq]; omega, HN.out, by rw [hlq]; exact D6P.set_ 1 _, by rw [hlq]; exact hO.far D6P (by decide) (by omega) 1 _, hW3.setCell (by show w.heap.size ≤ bx; omega) _,
              D4P.far (by show w.heap.size + 1 ≠ bx; omega) _, A0, c0, H2P.far (by show w.heap.size ≠ bx; omega) _⟩, by simp [intOf]; omega⟩
        · have hnext : sendQ n.cap (l.drop (j + 1)) q k = res := by rw [← HSQ.out, HST.out, if_neg hgo]
          have HN := Lib.hid hnext; clear hnext
          obtain ⟨q6, f6⟩ := H6.rules
          obtain ⟨q2, f2⟩ := H2.rules
          have t6 := H6.lt
          have t2 := H2.lt
          have hown4 := F.get m0
          by_cases hre : re = 0
          · have hcap : ¬ (q.length : Int) < n.cap := fun h => hgo ⟨hre, h⟩
            have heb : (re == 0) = true := by simpa using hre
            clear hre hgo
            go_wp2
            exact ⟨⟨j + 1, k, q, A6, c6, by go_num, rfl, by omega, by omega, by omega, HN.out, H6, hown4, hW4, H4, A0, c0, H2⟩, by simp [intOf]; omega⟩
          · have heb : (re == 0) = false := by simpa using hre
            clear hre hgo
            go_wp2
            exact ⟨⟨j + 1, k, q, A6, c6, by go_num, rfl, by omega, by omega, by omega, HN.out, H6, hown4, hW4, H4, A0, c0, H2⟩, by simp [intOf]; omega⟩
      · obtain rfl : j = l.length := by omega
        have hfin : res = (q, k) := by rw [← HSQ.out, List.drop_length]; rfl
        have HF := Lib.hid hfin; clear hfin
        obtain ⟨q6, f6⟩ := C6.rules
        obtain ⟨q4, f4⟩ := C4.rules
        have t6 := C6.lt
        have t4 := C4.lt
        go_wp2
        rw [HF.out]
        have F := ((C4.set_ 0 (.int .i64 n.cap)).set_ 1 (.slice A6 q.length c6)).rules
        refine bodyPost_ret (v := .tuple #[.agg #[.int .i64 n.cap, .slice A6 q.length c6], .int .i64 k]) (by simp [results, Try.results73, go_sem, F.1]) rfl ⟨A6, c6, rfl, ?_, ?_⟩
        · exact ((hown.far C4 (by decide) (by omega) 0 _).far (C4.set_ 0 _) (by decide) (by omega) 1 _).more (fun b hb _ => by omega)
        · exact (hbw.setCell (by show w.heap.size ≤ w.heap.size + 1; omega) _).setCell (by show w.heap.size ≤ w.heap.size + 1; omega) _
end Go.Proofs.Ytbjgemipmlimoaa
