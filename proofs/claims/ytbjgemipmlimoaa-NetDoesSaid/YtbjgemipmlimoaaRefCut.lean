/- The walk of quicksetref13.Cut. -/
import Derived.Test.YtbjgemipmlimoaaRefDouble
import Derived.Test.YtbjgemipmlimoaaNetCutN
namespace Go.Proofs.Ytbjgemipmlimoaa
open Go.RowKit

def RCutInv (w wr : World) (n : Nt) (node : Int) (A : Option Addr) (c : Nat) (i : Value) : Prop :=
  ∃ (j : Nat) (q : List Ms) (A6 : Option Addr) (c6 : Nat), i = .int .i64 j ∧ j ≤ n.q.length ∧ q.length ≤ j ∧ q = (n.q.take j).filter (notN node) ∧
    Blk wr (w.heap.size + 1 + 1) 38 #[.int .i64 n.cap, .slice A6 q.length c6] ∧ OwnR Rp.msg wr w.heap.size 45 (fun b => w.heap.size + 1 < b ∧ b ≠ w.heap.size + 1 + 1) (.slice A6 q.length c6) q ∧ Below w.heap.size w wr ∧
    Blk wr (w.heap.size + 1) 38 #[.int .i64 0, .slice none 0 0] ∧ Blk wr w.heap.size 38 #[.int .i64 n.cap, .slice A n.q.length c]

set_option maxRecDepth 100000 in
set_option maxHeartbeats 8000000 in
theorem rcutN_any (v : Value) (n : Nt) (node : Int) (K : Nat → Prop) (w : World) (hv : IsN w K v n) (hnl : ArgsLe n.q) (hn8 : n.q.length ≤ 200000000000) :
    Calls Try.prog 78 #[v, .int .i64 node] w fun e w' => ∃ A' c', e = .returned (.tuple #[.agg #[.int .i64 n.cap, .slice A' (n.q.filter (notN node)).length c'], .int .i64 ((n.q.length : Int) - ((n.q.filter (notN node)).length : Int))]) ∧
      OwnR Rp.msg w' w.heap.size 45 (fun b => w.heap.size ≤ b) (.slice A' (n.q.filter (notN node)).length c') (n.q.filter (notN node)) ∧ Below w.heap.size w w' := by
  obtain ⟨i0, hi, hz0, hz1, hz2⟩ := info_parts Try.infM
  obtain ⟨q', hq'⟩ : ∃ q', n.q.filter (notN node) = q' := ⟨_, rfl⟩
  have hql' : q'.length ≤ n.q.length := by rw [← hq']; exact List.length_filter_le _ _
  rw [hq']
  have HQ' := Lib.hid hq'; clear hq'
  obtain ⟨A, c, rfl, hnq⟩ := hv
  have E := (((Kn.start w).push 38 #[.int .i64 n.cap, .slice A n.q.length c]).push 38 #[.int .i64 0, .slice none 0 0]).push 38 #[.int .i64 n.cap, .slice none 0 0]
  rw [World.size_alloc, World.size_alloc] at E
  go_enter Try.func78, Try.ntmps78
  go_wp2_with fail
  generalize hw3 : ((w.alloc (.cells #[.int .i64 n.cap, .slice A n.q.length c] 38)).alloc (.cells #[.int .i64 0, .slice none 0 0] 38)).alloc (.cells #[.int .i64 n.cap, .slice none 0 0] 38) = w3 at E ⊢
  clear hw3
  go_loopw [15] (fun i wr => RCutInv w wr n node A c i) (fun i _ => n.q.length - (intOf i).toNat)
  case atStart => exact ⟨0, [], none, 0, rfl, Nat.zero_le _, Nat.le_refl _, rfl, E.at_ m0, OwnR.nil_ _ _ _ _, E.below, E.at_ m1, E.at_ m2⟩
  case round =>
    obtain ⟨j, q, A6, c6, rfl, hj, hqj, hqe, C6, hown, hbw, C4, C2⟩ := hrel
    have HQE := Lib.hid hqe; clear hqe
    have hsz := hbw.size
    have t6 := C6.lt
    by_cases hlt : j < n.q.length
    case neg =>
      obtain rfl : j = n.q.length := by omega
      obtain rfl : q = q' := by rw [HQE.out, List.take_length, HQ'.out]
      clear HQE
      have hsub : IntKind.i64.wrap ((n.q.length : Int) - (q.length : Int)) = (n.q.length : Int) - (q.length : Int) := IntWalk.i64_in _ (by omega)
      obtain ⟨q6, f6⟩ := C6.rules
      obtain ⟨q4, f4⟩ := C4.rules
      obtain ⟨q2, f2⟩ := C2.rules
      have t4 := C4.lt
      go_upto_region 8 with fail
      go_region
      go_wp2
      have F := ((C4.set_ 0 (.int .i64 n.cap)).set_ 1 (.slice A6 q.length c6)).rules
      refine bodyPost_ret (v := .tuple #[.agg #[.int .i64 n.cap, .slice A6 q.length c6], .int .i64 ((n.q.length : Int) - (q.length : Int))]) (by simp [results, Try.results78, go_sem, F.1]) rfl ⟨A6, c6, rfl, ?_, ?_⟩
      · exact (((hown.far C4 (by decide) (by omega) 0 _).far (C4.set_ 0 _) (by decide) (by omega) 1 _).more (fun b hb _ => by omega)).step (Below.refl _ _).drew
      · exact ((hbw.setCell (by show w.heap.size ≤ w.heap.size + 1; omega) _).setCell (by show w.heap.size ≤ w.heap.size + 1; omega) _).drew
    have hsn := not_step node n.q hlt
    have hml := args17 hnl n.q[j] (List.getElem_mem hlt)
    obtain ⟨ad, A1, c1, A2, c2, rfl, hadb, him, hc0, hc1, hc2, hc3, hc4, hc5⟩ := (IsL.msg_at (IsL.step hnq hbw)) (List.getElem?_eq_getElem hlt)
    generalize n.q[j] = m at him hc0 hc1 hc2 hc3 hc4 hc5 hsn hml
    have HSN := Lib.hid hsn; clear hsn
    have F := (((Kn.start wr).give Stable.msg him).give (f := fun W => OwnR Rp.msg W w.heap.size 45 (fun b => w.heap.size + 1 < b ∧ b ≠ w.heap.size + 1 + 1) (.slice A6 q.length c6) q) (fun _ _ h hb => OwnR.step h hb) hown).push 45 #[.int .i64 m.kind, .int .i64 m.frm, .int .i64 m.to, .int .i64 m.id, .slice A1 m.args.length c1, .slice A2 m.data.length c2]
    have H6 := C6.alloc (.cells #[.int .i64 m.kind, .int .i64 m.frm, .int .i64 m.to, .int .i64 m.id, .slice A1 m.args.length c1, .slice A2 m.data.length c2] 45)
    have H4 := C4.alloc (.cells #[.int .i64 m.kind, .int .i64 m.frm, .int .i64 m.to, .int .i64 m.id, .slice A1 m.args.length c1, .slice A2 m.data.length c2] 45)
    have H2 := C2.alloc (.cells #[.int .i64 m.kind, .int .i64 m.frm, .int .i64 m.to, .int .i64 m.id, .slice A1 m.args.length c1, .slice A2 m.data.length c2] 45)
    have hW4 := hbw.alloc hsz (.cells #[.int .i64 m.kind, .int .i64 m.frm, .int .i64 m.to, .int .i64 m.id, .slice A1 m.args.length c1, .slice A2 m.data.length c2] 45)
    clear him hown C6 C4 C2
    by_cases hof : ofN node m = true
    · have hb1 : (m.frm != node) = false ∨ ((m.frm != node) = true ∧ (m.to != node) = false) := by
        unfold ofN at hof
        simp only [Bool.or_eq_true, beq_iff_eq] at hof
        simp only [bne_eq_false_iff_eq, bne_iff_ne, ne_eq]
        by_cases h : m.frm = node
        · exact .inl h
        · exact .inr ⟨h, hof.resolve_left h⟩
      have HN := Lib.hid (HSN.out.trans (if_pos hof)); clear hof
      have hown4 := F.get m0
      rcases hb1 with hb1 | ⟨hb1, hb2⟩
      all_goals
        go_wp2
        go_roundw
        case rel => exact ⟨j + 1, q, A6, c6, by go_num, by omega, by omega, by rw [HN.out]; exact HQE.out, H6, hown4, hW4, H4, H2⟩
        case measure => simp [intOf]; omega
    · have hb1 : (m.frm != node) = true := by
        unfold ofN at hof; simp only [Bool.or_eq_true, beq_iff_eq, not_or] at hof; simp only [bne_iff_ne, ne_eq]; exact hof.1
      have hb2 : (m.to != node) = true := by
        unfold ofN at hof; simp only [Bool.or_eq_true, beq_iff_eq, not_or] at hof; simp only [bne_iff_ne, ne_eq]; exact hof.2
      have HN := Lib.hid (HSN.out.trans (if_neg hof)); clear hof
      have hown4 := F.get m0
      have him4 := F.get m1
      have D7 := F.at_ m0
      go_upto_region 6 with fail
      generalize hw4 : wr.alloc (.cells #[.int .i64 m.kind, .int .i64 m.frm, .int .i64 m.to, .int .i64 m.id, .slice A1 m.args.length c1, .slice A2 m.data.length c2] 45) = w4 at F H6 H4 H2 hW4 hown4 him4 D7 ⊢
      clear hw4 hc0 hc1 hc2 hc3 hc4 hc5
      have hqq : ∀ W, Below w4.heap.size w4 W → ((∀ o, W.cell? ⟨w.heap.size + 1 + 1, o, none⟩ = (#[.int .i64 n.cap, .slice A6 q.length c6] : Array Value)[o]?) ∧ (∀ o, W.frozen? ⟨w.heap.size + 1 + 1, o, none⟩ = false) ∧ w.heap.size + 1 + 1 < W.heap.size) ∧
          (∀ o, W.cell? ⟨wr.heap.size, o, none⟩ = (#[.int .i64 m.kind, .int .i64 m.frm, .int .i64 m.to, .int .i64 m.id, .slice A1 m.args.length c1, .slice A2 m.data.length c2] : Array Value)[o]?) ∧ IsM W K (mv m A1 c1 A2 c2) m ∧ OwnR Rp.msg W w.heap.size 45 (fun b => w.heap.size + 1 < b ∧ b ≠ w.heap.size + 1 + 1) (.slice A6 q.length c6) q :=
        fun W h => ⟨⟨(H6.step h).cell, (H6.step h).frozen, (H6.step h).lt⟩, (D7.step h).cell, IsM.step him4 h, OwnR.step hown4 h⟩
      have HQ := Lib.hid hqq; clear hqq
      obtain ⟨⟨q6, f6, t6'⟩, q7, za, zb⟩ := HQ.out w4.drew (Below.refl _ _).drew
      clear za zb
      have hsw4 := hW4.size
      have h4w : w.heap.size + 1 + 1 < w4.heap.size := H6.lt
      have hbA : Below w4.heap.size w4 (w4.alloc (.cells #[.int .i64 m.kind, .int .i64 m.frm, .int .i64 m.to, .int .i64 m.id, .slice A1 m.args.length c1, .slice A2 m.data.length c2] 45)).drew := ((Below.refl _ _).alloc (Nat.le_refl _) _).drew
      have hl1 : IsL Rp.msg (w4.alloc (.cells #[.int .i64 m.kind, .int .i64 m.frm, .int .i64 m.to, .int .i64 m.id, .slice A1 m.args.length c1, .slice A2 m.data.length c2] 45)).drew (fun _ => True) (.slice (some ⟨w4.heap.size, 0, none⟩) 1 1) [m] :=
        ⟨_, 1, cellsM m A1 c1 A2 c2, rfl, (Reads.new (n := 1) rfl rfl rfl).more fun _ _ => trivial, (CellsL.single (isM_cells (IsM.step him4 hbA))).more fun _ _ => trivial, by simp, by omega, by simp⟩
      have HL1 := Lib.hid hl1; clear hl1
      obtain ⟨⟨qA, fA, tA⟩, qA7, za, zb⟩ := HQ.out _ hbA
      clear za zb
      go_region_law (first
        | (refine is_appC (.tmp 30) (.tmp 33) _ (by rfl) ?_
           refine step_appN (by rfl) (.tmp 30) (.tmp 33) _ (by rfl) w.heap.size 45 i0 _ 6 80 Try.underlying35 hi hz0 hz1 hz2 rfl (by omega) (by rfl) HOWN.out (by rfl) (Reads.of_own HNW.out.1) HNW.out.2.1 (by simp only [maxLen]; omega) (by omega) (by omega) ?_
           intro A9 c9 wP own6 hg6
           have D6P := (H6.step hbN).grew HOWN.out (by decide) hg6
           have D4P := (H4.step hbN).grew HOWN.out (by decide) hg6
           obtain ⟨qP, fP⟩ := D6P.rules
           have tP := D6P.lt)
        | (go_simp
           go_at_call 49
           refine (rcopy_one _ m (fun _ => True) _ HL1.out hml).mono ?_
           rintro e wN ⟨AN, cN, xs, rfl, ownN, hoN, hclN, hb4⟩
           have hbN := hbA.trans (hb4.mono hbA.size)
           have hsN := hbN.size
           obtain ⟨⟨qN, fN, tN⟩, za, zb, hownN⟩ := HQ.out wN hbN
           clear za zb
           obtain ⟨hjj, cs, own5, cl5⟩ := hownN.open_
           clear hjj
           replace own5 : wN.ownsRow w.heap.size 45 6 (.slice A6 q.length c6) q.length cs := own5
           have HOWN := Lib.hid own5
           have HCL := Lib.hid cl5
           have HNW := Lib.hid (And.intro ownN (And.intro hoN hclN))
           have HB4 := Lib.hid hb4
           clear own5 cl5 hownN ownN hoN hclN hb4)
        | fail)
      all_goals
        go_wp2
        have hrow := OwnR.rowlt hown4
        have hlq : (q ++ [m]).length = q.length + 1 := by simp
        have hO : OwnR Rp.msg wP w.heap.size 45 (fun b => w.heap.size + 1 < b ∧ b ≠ w.heap.size + 1 + 1) (.slice A9 (q.length + 1) c9) (q ++ [m]) := by
          refine OwnR.appL rfl hlq HCL.out (HNW.out.2.2.more fun b hb => ?_) own6 hg6
          have h1 : w4.heap.size + 1 ≤ b := by simpa using hb.1
          exact ⟨⟨by omega, by omega⟩, hb.2, fun e => by have := (hrow b e.symm).2; omega⟩
        have hW3 : Below w.heap.size w wP := (hW4.trans (hbN.mono hsw4)).trans hg6.below
        have H2P := (H2.step hbN).grew HOWN.out (by decide) hg6
        refine ⟨⟨j + 1, q ++ [m], A9, c9, by go_num, by omega, by rw [hlq]; omega, by rw [HN.out, HQE.out], by rw [hlq]; exact D6P.set_ 1 _, by rw [hlq]; exact hO.far D6P (by decide) (by omega) 1 _, hW3.setCell (by show w.heap.size ≤ w.heap.size + 1 + 1; omega) _,
          D4P.far (by show w.heap.size + 1 ≠ w.heap.size + 1 + 1; omega) _, H2P.far (by show w.heap.size ≠ w.heap.size + 1 + 1; omega) _⟩, by simp [intOf]; omega⟩
end Go.Proofs.Ytbjgemipmlimoaa
