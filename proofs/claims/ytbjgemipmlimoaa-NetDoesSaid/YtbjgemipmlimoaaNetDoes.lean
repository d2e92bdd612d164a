/- The walk of quicksetlaw13.NetDoes. -/
import Derived.Test.YtbjgemipmlimoaaRefAct
import Derived.Test.YtbjgemipmlimoaaRefIO
import Derived.Test.YtbjgemipmlimoaaSame13
import Derived.Test.YtbjgemipmlimoaaNetDid
namespace Go.Proofs.Ytbjgemipmlimoaa
open Go.RowKit

theorem did_of_act {n : Nt} {o : An} (h : (actA n o).2.2.1 = 0) : (actA n o).1.cap = n.cap ∧ Did n.cap n.q o.d o.i o.l (actA n o).1.q (actA n o).2.2.2 (actA n o).2.1 := by
  unfold actA at h ⊢
  split at h
  · rename_i h0
    rw [if_pos h0]
    obtain ⟨t, h1, h2, h3, h4⟩ := sendQ_form n.cap o.l n.q 0
    refine ⟨rfl, .inl ⟨h0, t, h1, ?_, ?_, h3, h4⟩⟩
    · show (sendQ n.cap o.l n.q 0).1 = _; rw [h2]
    · show (((sendQ n.cap o.l n.q 0).2 : Nat) : Int) = _; rw [h2]; simp
  rename_i h0
  rw [if_neg h0]
  split at h
  · rename_i h1
    rw [if_pos h1]
    rcases atN_cases n o.i with ⟨k, m, hi, hm, ha, hr⟩ | ⟨_, ha⟩
    · unfold takeA; rw [ha]; exact ⟨rfl, .inr (.inl ⟨h1, k, hi, hm, hr⟩)⟩
    · unfold takeA at h; rw [ha] at h; simp at h
  rename_i h1
  rw [if_neg h1]
  split at h
  · rename_i h2
    rw [if_pos h2]
    rcases atN_cases n o.i with ⟨k, m, hi, hm, ha, hr⟩ | ⟨_, ha⟩
    · unfold dropA; rw [ha]; exact ⟨rfl, .inr (.inr (.inl ⟨h2, k, hr⟩))⟩
    · unfold dropA at h; rw [ha] at h; simp at h
  rename_i h2
  rw [if_neg h2]
  split at h
  · rename_i h3
    rw [if_pos h3]
    rcases atN_cases n o.i with ⟨k, m, hi, hm, ha, hr⟩ | ⟨_, ha⟩
    · unfold doubleA at h ⊢
      rw [ha] at h ⊢
      simp only at h ⊢
      split at h
      · rename_i hc
        simp only [if_pos hc]
        exact ⟨trivial, .inr (.inr (.inr (.inl ⟨h3, k, m, hi, hm, rfl, hc⟩)))⟩
      · simp at h
    · unfold doubleA at h; rw [ha] at h; simp at h
  rename_i h3
  rw [if_neg h3]
  split at h
  · rename_i h4
    rw [if_pos h4]
    rcases atN_cases n o.i with ⟨k, m, hi, hm, ha, hr⟩ | ⟨_, ha⟩
    · unfold laterA; rw [ha]
      refine ⟨rfl, .inr (.inr (.inr (.inr (.inl ⟨h4, k, m, hm, ?_⟩))))⟩
      show restN n o.i ++ [m] = _
      rw [hr]
    · unfold laterA at h; rw [ha] at h; simp at h
  rename_i h4
  rw [if_neg h4]
  exact ⟨rfl, .inr (.inr (.inr (.inr (.inr ⟨by omega, List.filter_sublist⟩))))⟩

theorem CellsL.ltM {w : World} {K : Nat → Prop} : ∀ {cs : List Value} {l : List Ms}, CellsL Rp.msg w K cs l → CellsL Rp.msg w (fun b => K b ∧ b < w.heap.size) cs l
  | _, [], h => h
  | _, _ :: _, ⟨c1, c2, e, h1, h2⟩ => by
    obtain ⟨A1, d1, A2, d2, e1, him⟩ := rp_isM h1
    exact ⟨c1, c2, e, by rw [e1]; exact isM_cells him.lt, h2.ltM⟩
theorem IsL.ltM {w : World} {K : Nat → Prop} {v : Value} {l : List Ms} (h : IsL Rp.msg w K v l) : IsL Rp.msg w (fun b => K b ∧ b < w.heap.size) v l := by
  obtain ⟨A, c, cs, e, h1, h2, h3⟩ := h
  exact ⟨A, c, cs, e, h1.lt (by decide), h2.ltM, h3⟩
theorem did_room {cap : Int} {q : List Ms} {d i : Int} {l q' : List Ms} {k : Int} {x : Ms} (h : Did cap q d i l q' k x) (hq : (q.length : Int) ≤ cap) : (q'.length : Int) ≤ cap := by
  rcases h with ⟨_, t, _, rfl, _, _, h2⟩ | ⟨_, j, _, hj, rfl⟩ | ⟨_, j, rfl⟩ | ⟨_, j, y, _, hy, rfl, hc⟩ | ⟨_, j, y, hy, rfl⟩ | ⟨_, hs⟩
  · exact h2 hq
  · simp; omega
  · simp; omega
  · simp; omega
  · have := (List.getElem?_eq_some_iff.1 hy).1
    simp; omega
  · have := hs.length_le; omega

/-- what the rounds hand on -/
def DoesRel (w wr : World) (g8 g10 : Nat) (l : List An) (i : Value) : Prop :=
  ∃ (j : Nat) (n : Nt) (A8 : Option Addr) (c8 : Nat) (A10 : Option Addr) (c10 : Nat), i = .int .i64 j ∧ j ≤ l.length ∧ Below w.heap.size w wr ∧
    Blk wr g8 38 #[.int .i64 n.cap, .slice A8 n.q.length c8] ∧ Blk wr g10 38 #[.int .i64 n.cap, .slice A10 n.q.length c10] ∧
    IsL Rp.msg wr (fun b => b ≠ g8 ∧ b ≠ g10) (.slice A8 n.q.length c8) n.q ∧ IsL Rp.msg wr (fun b => b ≠ g8 ∧ b ≠ g10) (.slice A10 n.q.length c10) n.q ∧
    (∀ m ∈ n.q, okB m = true) ∧ (n.q.length : Int) ≤ n.cap ∧ n.cap ≤ 4096 ∧ w.heap.size ≤ g8 ∧ w.heap.size ≤ g10 ∧ g8 ≠ g10

theorem newN_cap (most : Int) : (newN most).1 ≤ 4096 ∧ 0 ≤ (newN most).1 := by
  unfold newN; split <;> simp <;> omega

set_option maxRecDepth 100000 in
set_option maxHeartbeats 16000000 in
theorem netDoes_any (v bv : Value) (most : Int) (l : List An) (b : List UInt8) (w : World) (hv : IsL Rp.an w (· < w.heap.size) v l) (hbv : IsB w (· < w.heap.size) bv b) :
    Calls Try.prog 13 #[.int .i64 most, v, bv] w fun e w' => e = .returned (.bool true) ∧ Below w.heap.size w w' := by
  have hv0 := hv
  have hb0 := hbv
  obtain ⟨A, c, rfl, hlc, hcc⟩ := hv.form
  obtain ⟨Ab, cb, rfl, _, hlcb, hccb, hl47⟩ := hbv
  have hlen := hv.len
  have E := ((Kn.start w).give Stable.list hv0).give Stable.bytes hb0
  obtain ⟨fw, hfw⟩ : ∃ fw, fewL l = fw := ⟨_, rfl⟩
  have HF := Lib.hid hfw
  by_cases hout : fw = false ∨ 20000 < b.length
  case pos =>
    have hout' : fw = false ∨ (fw = true ∧ 20000 < b.length) := by cases fw <;> simp_all
    clear hout hfw
    rcases hout' with rfl | ⟨rfl, hbl⟩
    · go_enter Try.func13, Try.ntmps13
      go_wp2_with fail
      refine (live13_any _).mono ?_
      rintro e w1 ⟨rfl, hb1⟩
      replace E := E.step hb1
      go_wp2_with fail
      refine (few13_any _ l _ w1 (E.get m1)).mono ?_
      rw [HF.out]
      rintro e w2 ⟨rfl, hb2⟩
      replace E := E.step hb2
      go_wp2
      go_ret
      exact ⟨rfl, E.below⟩
    · have hbl' : (20000 : Int) < (b.length : Int) := by omega
      go_enter Try.func13, Try.ntmps13
      go_wp2_with fail
      refine (live13_any _).mono ?_
      rintro e w1 ⟨rfl, hb1⟩
      replace E := E.step hb1
      go_wp2_with fail
      refine (few13_any _ l _ w1 (E.get m1)).mono ?_
      rw [HF.out]
      rintro e w2 ⟨rfl, hb2⟩
      replace E := E.step hb2
      go_wp2
      go_ret
      exact ⟨rfl, E.below⟩
  have hft : fw = true := by cases fw <;> simp_all
  subst hft
  have hbl : b.length ≤ 20000 := by omega
  have hbl' : ¬ (20000 : Int) < (b.length : Int) := by omega
  have hl100 : l.length ≤ 100 := by unfold fewL at hfw; simp at hfw; omega
  have hcap := newN_cap most
  obtain ⟨rn, hrn⟩ : ∃ r, newN most = r := ⟨_, rfl⟩
  rw [hrn] at hcap
  obtain ⟨nc, ne⟩ := rn
  simp only at hcap
  obtain ⟨rr, hrr⟩ : ∃ r, readN b most = r := ⟨_, rfl⟩
  obtain ⟨rc, rq, re⟩ := rr
  have hrl : rq.length ≤ 140737488355328 := by
    unfold readN at hrr
    rw [hrn] at hrr
    simp only at hrr
    split at hrr
    · injection hrr with _ h; injection h with h _; subst h; simp
    · rename_i hne
      split at hrr
      · injection hrr with _ h; injection h with h _; subst h; simp
      · split at hrr
        · injection hrr with _ h; injection h with h _; subst h; simp
        · injection hrr with _ h; injection h with h _; subst h
          have h4 : most ≤ 4096 := by
            unfold newN at hrn
            split at hrn
            · omega
            · injection hrn with _ h5; omega
          omega
  have HN := Lib.hid hrn; have HR := Lib.hid hrr
  clear hout hfw hrn hrr
  go_enter Try.func13, Try.ntmps13
  go_wp2_with fail
  refine (live13_any _).mono ?_
  rintro e w1 ⟨rfl, hb1⟩
  replace E := E.step hb1
  go_wp2_with fail
  refine (few13_any _ l _ w1 (E.get m1)).mono ?_
  rw [HF.out]
  rintro e w2 ⟨rfl, hb2⟩
  replace E := E.step hb2
  clear hb1 hb2
  go_wp2_with fail
  refine (netNew_any most _).mono ?_
  rw [HN.out]
  rintro e w3 ⟨rfl, hb3⟩
  have hg8 : w.heap.size ≤ w3.heap.size := (E.step hb3).below.size
  replace E := (E.step hb3).push 38 #[.int .i64 nc, .slice none 0 0]
  clear hb3
  go_wp2_with fail
  refine (rnetNew_any most _).mono ?_
  rw [HN.out]
  rintro e w4 ⟨rfl, hb4⟩
  have hg10 : w3.heap.size < w4.heap.size := ((E.step hb4).at_ m0).lt
  replace E := (E.step hb4).push 38 #[.int .i64 nc, .slice none 0 0]
  clear hb4
  go_wp2_with fail
  refine (read_any _ b most _ _ (E.get m0) (by omega)).mono ?_
  rw [HR.out]
  rintro e w5 ⟨A5, c5, rfl, own5, hb5⟩

  replace E := ((E.step hb5).give Stable.list (own5.isL (X' := fun _ => True) hrl (fun _ _ => trivial) (fun _ _ => trivial))).push 38 #[.int .i64 rc, .slice A5 rq.length c5]
  clear own5 hb5
  go_wp2_with fail
  refine (rread_any _ b most _ _ (E.get m1) (by omega)).mono ?_
  rw [HR.out]
  rintro e w6 ⟨A6, c6, rfl, own6, hb6⟩
  replace E := ((E.step hb6).give Stable.list (own6.isL (X' := fun _ => True) hrl (fun _ _ => trivial) (fun _ _ => trivial))).push 38 #[.int .i64 rc, .slice A6 rq.length c6]
  clear own6 hb6
  obtain ⟨q8, f8, t8⟩ := E.rules m3
  obtain ⟨q10, f10, t10⟩ := E.rules m2
  obtain ⟨q12, f12, t12⟩ := E.rules m1
  obtain ⟨q14, f14, t14⟩ := E.rules m0
  go_wp2_with fail
  refine (same13_any _ _ ⟨nc, []⟩ (fun _ => True) (fun _ => True) _ ⟨none, 0, rfl, IsL.nil_ _ _⟩ ⟨none, 0, rfl, IsL.nil_ _ _⟩).mono ?_
  rintro e w7 ⟨rfl, hb7⟩
  replace E := E.step hb7
  clear q8 f8 t8 q10 f10 t10 q12 f12 t12 q14 f14 t14 hb7
  obtain ⟨q12, f12, t12⟩ := E.rules m1
  obtain ⟨q14, f14, t14⟩ := E.rules m0
  go_wp2_with fail
  refine (same13_any _ _ ⟨rc, rq⟩ (fun _ => True) (fun _ => True) _ ⟨A5, c5, rfl, E.get m1⟩ ⟨A6, c6, rfl, E.get m0⟩).mono ?_
  rintro e w8 ⟨rfl, hb8⟩
  replace E := E.step hb8
  clear q12 f12 t12 q14 f14 t14 hb8
  have D0 : DoesRel w w8 w3.heap.size w4.heap.size l (.int .i64 ((0 : Nat) : Int)) :=
    ⟨0, ⟨nc, []⟩, none, 0, none, 0, rfl, Nat.zero_le _, E.below, E.at_ m3, E.at_ m2, IsL.nil_ _ _, IsL.nil_ _ _, by simp, by simpa using hcap.2, hcap.1, hg8, by omega, by omega⟩
  have hv9 := E.get m3
  clear E HN HR
  generalize w3.heap.size = g8 at D0 hg8 hg10
  generalize w4.heap.size = g10 at D0 hg10
  go_wp2_with fail
  go_loopw [86] (fun i wr => DoesRel w wr g8 g10 l i) (fun i _ => l.length - (intOf i).toNat)
  case atStart => exact D0
  case round =>
    obtain ⟨j, n, A8, c8, A10, c10, rfl, hj, hbw, B8, B10, hq8, hq10, hok, hroom, hcap', hw8, hw10, hne⟩ := hrel
    clear D0
    have hsz := hbw.size
    by_cases hlt : j < l.length
    case neg =>
      obtain rfl : j = l.length := by omega
      obtain ⟨q8, f8⟩ := B8.rules
      obtain ⟨q10, f10⟩ := B10.rules
      go_wp2_with fail
      refine (same13_any _ _ n _ _ _ ⟨A8, c8, rfl, hq8⟩ ⟨A10, c10, rfl, hq10⟩).mono ?_
      rintro e wz ⟨rfl, hbz⟩
      go_wp2
      go_ret
      exact ⟨rfl, hbw.trans (hbz.mono hsz)⟩
    obtain ⟨ad, A1, c1, rfl, hadb, hl, hlb, hc0, hc1, hc2⟩ := (hv0.step hbw).an_at (List.getElem?_eq_getElem hlt)
    generalize l[j] = o at hl hlb hc0 hc1 hc2
    obtain ⟨d, i, ol⟩ := o
    simp only at hl hlb hc0 hc1 hc2
    have HOK := Lib.hid hok
    clear hok hv9
    have E := (((((Kn.from_ hbw hsz).give Stable.list hq8.ltM).give Stable.list hq10.ltM).give Stable.list hl).know B8).know B10 |>.push 73 #[.int .i64 d, .int .i64 i, .slice A1 ol.length c1]
    have hg8r := B8.lt
    have hg10r := B10.lt
    clear hq8 hq10 hl B8 B10
    go_upto_region 13 with fail
    generalize hw1 : wr.alloc (.cells #[.int .i64 d, .int .i64 i, .slice A1 ol.length c1] 73) = wa at E ⊢
    clear hw1 hc0 hc1 hc2
    have hwa : wr.heap.size < wa.heap.size := (E.at_ m0).lt
    obtain ⟨q8, f8, t8⟩ := E.rules m2
    go_cut [18] (fun s18 wx => ∃ bx A9 c9, s18 = .pointer (some ⟨bx, 0, none⟩) ∧ wa.heap.size ≤ bx ∧ Blk wx bx 38 #[.int .i64 n.cap, .slice A9 n.q.length c9] ∧ IsL Rp.msg wx (fun b => wr.heap.size < b) (.slice A9 n.q.length c9) n.q ∧ Below wa.heap.size wa wx)
    case first =>
      have HK : Hid (∀ W, Below wa.heap.size wa W → (∀ o, W.cell? ⟨g8, o, none⟩ = (#[.int .i64 n.cap, .slice A8 n.q.length c8] : Array Value)[o]?)) := Lib.hid fun W h => ((E.step h).rules m2).1
      have hb0 : Below wa.heap.size wa wa.drew := (Below.refl _ _).drew
      have hbZ : Below wa.heap.size wa (wa.alloc (.cells #[.int .i64 0, .slice none 0 0] 38)).drew := ((Below.refl _ _).alloc (Nat.le_refl _) _).drew
      have hZ0 : Blk (wa.alloc (.cells #[.int .i64 0, .slice none 0 0] 38)).drew wa.heap.size 38 #[.int .i64 0, .slice none 0 0] := (Blk.new wa _ _ rfl).drew
      have hla : ∀ m ∈ n.q, m.args.length ≤ 17592186043904 := args17 (okB_le HOK.out)
      have HLA := Lib.hid hla; clear hla
      go_region_held3 (fun W => (∀ o, W.cell? ⟨g8, o, none⟩ = (#[.int .i64 n.cap, .slice A8 n.q.length c8] : Array Value)[o]?))
        (first | with_reducible exact HK.out _ hb0 | with_reducible exact HK.out _ hbZ | with_reducible exact HK.out _ hbC | with_reducible exact HK.out _ (hbC.alloc hbC.size _) | with_reducible exact HK.out _ (below_set2 hbC (Nat.le_refl _)))
        (first
        | (go_at_call 49
           refine (rcopy_any _ n.q _ _ ((E.step hbZ).get m2) HLA.out (by omega)).mono ?_
           rintro e wC ⟨AC, cC, rfl, ownC, hbC⟩
           have hZ := hZ0.step hbC
           obtain ⟨qz, fz⟩ := hZ.rules
           have tz := hZ.lt
           replace hbC := hbZ.trans (hbC.mono hbZ.size))
        | (go_at_call 49
           refine (rcopy_any _ n.q _ _ ((E.step hb0).get m2) HLA.out (by omega)).mono ?_
           rintro e wC ⟨AC, cC, rfl, ownC, hbC⟩
           replace hbC := hb0.trans (hbC.mono hb0.size))
        | fail)
      all_goals
        go_wp2_with fail
        go_meet
        have hL := ownC.isL (X' := fun b => wa.heap.size ≤ b) (by omega) (fun b hb => by simp at hb; omega) (fun b hb => by simp at hb; omega)
      · exact ⟨wC.heap.size, AC, cC, rfl, hbC.size, Blk.new _ _ _ rfl, (hL.more fun b hb => by omega).alloc _, hbC.alloc hbC.size _⟩
      · have hL2 := ownC.isL (X' := fun b => wa.heap.size < b) (by omega) (fun b hb => by simp at hb; omega) (fun b hb => by simp at hb; omega)
        exact ⟨wa.heap.size, AC, cC, rfl, Nat.le_refl _, hZ.set2, (hL2.far2 (by omega) _ _).more fun b hb => by omega, below_set2 hbC (Nat.le_refl _)⟩
    case rest =>
      obtain ⟨bx, A9, c9, rfl, hbx, Bx, hLx, hbc⟩ := hcut
      clear q8 f8 t8
      have hact : OkAct n ⟨d, i, ol⟩ := ⟨okB_le HOK.out, by omega, by omega, hroom, hlb.2, by show ol.length ≤ _; omega⟩
      have hdid := @did_of_act n ⟨d, i, ol⟩
      obtain ⟨⟨n', x, er, k⟩, hr⟩ : ∃ r, actA n ⟨d, i, ol⟩ = r := ⟨_, rfl⟩
      have hbody := fun v lv K K' W hv hq => body_free v lv n d i ol K K' W hv hq hact
      have hmodel := fun v lv K K' W hv hq => model_any v lv n d i ol K K' W hv hq hact
      rw [hr] at hbody hmodel hdid
      simp only at hbody hmodel hdid
      have hcd : er = 0 → n'.cap = n.cap ∧ (∀ m ∈ n'.q, okB m = true) ∧ (n'.q.length : Int) ≤ n.cap := fun h => ⟨(hdid h).1, (hdid h).2.ok HOK.out, did_room (hdid h).2 hroom⟩
      have HB := Lib.hid hbody; have HM := Lib.hid hmodel; have HCD := Lib.hid hcd
      clear hbody hmodel hdid hcd hr hact
      replace E := ((E.step hbc).give Stable.list hLx).know Bx
      clear hLx Bx
      obtain ⟨q8, f8, t8⟩ := E.rules m3
      obtain ⟨qo, fo, to'⟩ := E.rules m1
      go_wp2_with fail
      refine (HB.out _ _ _ _ _ ⟨A8, c8, rfl, E.get m3⟩ (E.get m1)).mono ?_
      rintro e w9 ⟨nv, vm, KN, KM, rfl, hn9, hm9, hKN, hKM, hfr, hb9⟩
      obtain ⟨A11, c11, rfl, hn8⟩ := hn9
      obtain ⟨B1, d1, B2, d2, rfl, hfb⟩ := hfr
      have hwc9 := hb9.size
      have hwac := hbc.size
      replace E := ((((E.step hb9).give Stable.list hn8.ltM).give Stable.msg hm9.lt).give (f := fun W => FreeB W B2 x.data.length) (fun _ _ h hb => h.step hb) hfb |>.push 38 #[.int .i64 n'.cap, .slice A11 n'.q.length c11]).push 45 #[.int .i64 x.kind, .int .i64 x.frm, .int .i64 x.to, .int .i64 x.id, .slice B1 x.args.length d1, .slice B2 x.data.length d2]
      rw [World.size_alloc] at E
      clear q8 f8 t8 qo fo to' hn8 hm9 hfb hb9
      unfold mv
      obtain ⟨q10, f10, t10⟩ := E.rules m4
      obtain ⟨qo, fo, to'⟩ := E.rules m3
      go_wp2_with fail
      refine (HM.out _ _ _ _ _ ⟨A10, c10, rfl, E.get m5⟩ (E.get m4)).mono ?_
      rintro e w11 ⟨nv, vm, rfl, hn9, hm9, hb9⟩
      obtain ⟨A13, c13, rfl, hn8⟩ := hn9
      obtain ⟨B3, d3, B4, d4, rfl, -⟩ := id hm9
      simp only [World.size_alloc] at hn8 hm9
      replace E := ((((E.step hb9).give Stable.list hn8).give Stable.msg hm9)  |>.push 38 #[.int .i64 n'.cap, .slice A13 n'.q.length c13]).push 45 #[.int .i64 x.kind, .int .i64 x.frm, .int .i64 x.to, .int .i64 x.id, .slice B3 x.args.length d3, .slice B4 x.data.length d4]
      rw [World.size_alloc] at E
      have hw911 := hb9.size
      simp only [World.size_alloc] at hw911
      clear q10 f10 t10 qo fo to' hn8 hm9 hb9
      unfold mv
      go_upto_region 16 with fail
      generalize hw12 : (w11.alloc (.cells #[.int .i64 n'.cap, .slice A13 n'.q.length c13] 38)).alloc (.cells #[.int .i64 x.kind, .int .i64 x.frm, .int .i64 x.to, .int .i64 x.id, .slice B3 x.args.length d3, .slice B4 x.data.length d4] 45) = w12 at E ⊢
      clear hw12
      have HK : Hid (∀ W, Below w12.heap.size w12 W → (∀ o, W.cell? ⟨w11.heap.size + 1, o, none⟩ = (#[.int .i64 x.kind, .int .i64 x.frm, .int .i64 x.to, .int .i64 x.id, .slice B3 x.args.length d3, .slice B4 x.data.length d4] : Array Value)[o]?) ∧ (∀ o, W.cell? ⟨w11.heap.size, o, none⟩ = (#[.int .i64 n'.cap, .slice A13 n'.q.length c13] : Array Value)[o]?) ∧ (∀ o, W.cell? ⟨w9.heap.size + 1, o, none⟩ = (#[.int .i64 x.kind, .int .i64 x.frm, .int .i64 x.to, .int .i64 x.id, .slice B1 x.args.length d1, .slice B2 x.data.length d2] : Array Value)[o]?) ∧ (∀ o, W.cell? ⟨w9.heap.size, o, none⟩ = (#[.int .i64 n'.cap, .slice A11 n'.q.length c11] : Array Value)[o]?) ∧ (∀ o, W.cell? ⟨bx, o, none⟩ = (#[.int .i64 n.cap, .slice A9 n.q.length c9] : Array Value)[o]?) ∧ (∀ o, W.cell? ⟨wr.heap.size, o, none⟩ = (#[.int .i64 d, .int .i64 i, .slice A1 ol.length c1] : Array Value)[o]?) ∧ (∀ o, W.cell? ⟨g10, o, none⟩ = (#[.int .i64 n.cap, .slice A10 n.q.length c10] : Array Value)[o]?) ∧ (∀ o, W.cell? ⟨g8, o, none⟩ = (#[.int .i64 n.cap, .slice A8 n.q.length c8] : Array Value)[o]?)) := Lib.hid fun W h => ⟨((E.step h).rules m0).1, ((E.step h).rules m1).1, ((E.step h).rules m2).1, ((E.step h).rules m3).1, ((E.step h).rules m4).1, ((E.step h).rules m5).1, ((E.step h).rules m6).1, ((E.step h).rules m7).1⟩
      have hb0 : Below w12.heap.size w12 w12.drew := (Below.refl _ _).drew
      have h12 : w11.heap.size + 1 < w12.heap.size := (E.at_ m0).lt
      have he1 : (er != er) = false := bne_self_eq_false er
      have he2 : (k != k) = false := bne_self_eq_false k
      have h63 := toL_63 i n.q 0 (by omega)
      have hto := toL_len i n.q 0
      obtain ⟨tl, htl⟩ : ∃ tl, toL i 0 n.q = tl := ⟨_, rfl⟩
      rw [htl] at h63 hto
      have HTL := Lib.hid htl; have H63 := Lib.hid h63
      clear htl h63
      go_region_held3 (fun W => (∀ o, W.cell? ⟨w11.heap.size + 1, o, none⟩ = (#[.int .i64 x.kind, .int .i64 x.frm, .int .i64 x.to, .int .i64 x.id, .slice B3 x.args.length d3, .slice B4 x.data.length d4] : Array Value)[o]?) ∧ (∀ o, W.cell? ⟨w11.heap.size, o, none⟩ = (#[.int .i64 n'.cap, .slice A13 n'.q.length c13] : Array Value)[o]?) ∧ (∀ o, W.cell? ⟨w9.heap.size + 1, o, none⟩ = (#[.int .i64 x.kind, .int .i64 x.frm, .int .i64 x.to, .int .i64 x.id, .slice B1 x.args.length d1, .slice B2 x.data.length d2] : Array Value)[o]?) ∧ (∀ o, W.cell? ⟨w9.heap.size, o, none⟩ = (#[.int .i64 n'.cap, .slice A11 n'.q.length c11] : Array Value)[o]?) ∧ (∀ o, W.cell? ⟨bx, o, none⟩ = (#[.int .i64 n.cap, .slice A9 n.q.length c9] : Array Value)[o]?) ∧ (∀ o, W.cell? ⟨wr.heap.size, o, none⟩ = (#[.int .i64 d, .int .i64 i, .slice A1 ol.length c1] : Array Value)[o]?) ∧ (∀ o, W.cell? ⟨g10, o, none⟩ = (#[.int .i64 n.cap, .slice A10 n.q.length c10] : Array Value)[o]?) ∧ (∀ o, W.cell? ⟨g8, o, none⟩ = (#[.int .i64 n.cap, .slice A8 n.q.length c8] : Array Value)[o]?))
        (first | with_reducible exact HK.out _ hb0 | with_reducible exact HK.out _ hbF | with_reducible exact HK.out _ hbE | with_reducible exact HK.out _ hbD | with_reducible exact HK.out _ hbC | with_reducible exact HK.out _ hbB | with_reducible exact HK.out _ hbA)
        (first
        | (go_at_call 38
           refine (sameInts_any _ _ tl _ _ _ ((IsL.of_ints ownD H63.out (by omega)).step hbE0) (IsL.of_ints ownE H63.out (by omega))).mono ?_
           rintro e wF ⟨rfl, hbF⟩
           replace hbF := hbE.trans (hbF.mono hbE.size))
        | (go_at_call 51
           refine (rto_any _ n i _ _ ⟨A10, c10, rfl, (E.step hbD).get m7⟩ (by omega)).mono ?_
           rw [HTL.out]
           rintro e wE ⟨AE, cE, rfl, ownE, hbE0⟩
           have hbE := hbD.trans (hbE0.mono hbD.size))
        | (go_at_call 33
           refine (to_any _ n i _ _ ⟨A8, c8, rfl, (E.step hbC).get m8⟩ (by omega)).mono ?_
           rw [HTL.out]
           rintro e wD ⟨AD, cD, rfl, ownD, hbD⟩
           replace hbD := hbC.trans (hbD.mono hbC.size))
        | (go_at_call 31
           refine (same13_any _ _ n _ _ _ ⟨A8, c8, rfl, (E.step hbB).get m8⟩ ⟨A9, c9, rfl, (E.step hbB).get m5⟩).mono ?_
           rintro e wC ⟨rfl, hbC⟩
           replace hbC := hbB.trans (hbC.mono hbB.size))
        | (go_at_call 28
           refine (sameMsg_any _ _ x _ _ _ ((E.step hbA).get m3) ((E.step hbA).get m0)).mono ?_
           rintro e wB ⟨rfl, hbB⟩
           replace hbB := hbA.trans (hbB.mono hbA.size))
        | (go_at_call 31
           refine (same13_any _ _ n' _ _ _ ⟨A11, c11, rfl, (E.step hb0).get m4⟩ ⟨A13, c13, rfl, (E.step hb0).get m1⟩).mono ?_
           rintro e wA ⟨rfl, hbA⟩
           replace hbA := hb0.trans (hbA.mono hb0.size))
        | fail)
      replace E := E.step hbF
      have s12F := hbF.size
      clear hbA hbB hbC hbD hbE hbE0 hbF ownD ownE HK hb0
      obtain ⟨wo, rfl⟩ : ∃ wo : World, wo = wr := ⟨_, rfl⟩
      go_upto_region 18 with fail
      obtain ⟨q20, f20, t20⟩ := E.rules m2
      have hfree := E.get m2
      have hgd : ∀ g, B2 = some ⟨g, 0, none⟩ → 0 < x.data.length → (KM g ∧ g < w9.heap.size) ∧ ∀ k, k < x.data.length → ∃ v, wF.cell? ⟨g, k, none⟩ = some (.int .u8 v) := by
        intro g hg hN
        obtain ⟨ad, e, hK, hc⟩ := (IsM.parts (E.get m3)).2.1.2 hN
        rw [hg] at e
        injection e with e
        subst e
        refine ⟨hK, fun k hk => ?_⟩
        have := hc k (B8 x.data[k]) (by simp [cells8, hk])
        have hadd : (⟨g, 0, none⟩ : Addr).add k = ⟨g, k, none⟩ := by unfold Addr.add; split <;> simp_all
        rw [hadd] at this
        exact ⟨_, this⟩
      have hlen63 := (E.get m3).lens
      go_wp2_with fail
      clear q20 f20 t20
      go_loopw [27, 153] (fun x27 i wr => ∃ jj : Nat, i = .int .i64 jj ∧ jj ≤ x.data.length ∧ Turned wF wr (fun b => KM b ∧ b < w9.heap.size) ∧ (∀ g, B2 = some ⟨g, 0, none⟩ → 0 < x.data.length → ∀ k, k < x.data.length → ∃ v, wr.cell? ⟨g, k, none⟩ = some (.int .u8 v)) ∧ (∀ g, B2 = some ⟨g, 0, none⟩ → 0 < x.data.length → ∀ o, wr.frozen? ⟨g, o, none⟩ = false) ∧ ∃ y, x27 = y) (fun _ i _ => x.data.length - (intOf i).toNat)
      case atStart =>
        refine ⟨0, rfl, Nat.zero_le _, Turned.refl _ _, fun g hg hN => (hgd g hg hN).2, fun g hg hN => ?_, _, rfl⟩
        obtain ⟨g', e, _, hf⟩ := hfree hN
        rw [hg] at e
        injection e with e
        injection e with e _ _
        subst e
        exact hf
      case round =>
        obtain ⟨jj, rfl, hjj, hT, hcell, hfro, y, rfl⟩ := hrel
        by_cases hlt2 : jj < x.data.length
        case pos =>
          obtain ⟨gd, hB2, hgdl, -⟩ := hfree (by omega)
          obtain ⟨⟨hKg, hg9⟩, -⟩ := hgd gd hB2 (by omega)
          obtain ⟨v0, hv0c⟩ := hcell gd hB2 (by omega) jj hlt2
          have hf0 := hfro gd hB2 (by omega)
          have hcell' := hcell gd hB2 (by omega)
          have HC := Lib.hid hcell'
          clear hcell hfro hcell'
          subst hB2
          have B20 := Blk.turned (E.at_ m2) hT (by omega)
          obtain ⟨q20, f20⟩ := B20.rules
          have t20 := B20.lt
          have tgd : gd < wr.heap.size := by have := hT.size; omega
          go_wp2
          go_roundw
          case rel =>
            refine ⟨jj + 1, by go_num, by omega, hT.set (g := gd) ⟨hKg, hg9⟩ _ _, fun g hg hN k hk => ?_, fun g hg hN o => (World.frozen?_setCell _ _ _ _).trans ?_, _, rfl⟩
            · injection hg with hg
              injection hg with hg _ _
              subst hg
              by_cases hkj : k = jj
              · subst hkj
                exact ⟨_, World.cell?_setCell_same _ _ _ hv0c⟩
              · obtain ⟨v1, h1⟩ := HC.out k hk
                exact ⟨v1, by rw [World.cell?_setCell_other _ _ _ _ (by intro e; injection e with _ e _; omega)]; exact h1⟩
            · injection hg with hg
              injection hg with hg _ _
              subst hg
              exact hf0 o
          case measure => simp [intOf]; omega
        obtain rfl : jj = x.data.length := by omega
        clear hcell hfro hgd hfree
        have F : Kn w.heap.size w wr [] [] := Kn.from_ (E.below.trans (hT.below (fun b hb => by have := (hKM b hb.1).1; omega) E.below.size)) (by have := E.below.size; have := hT.size; omega)
        replace F := ((((F.know (Blk.turned (E.at_ m1) hT (by omega))).know (Blk.turned (E.at_ m3) hT (by omega))).know (Blk.turned (E.at_ m6) hT (fun h => by have := (hKM _ h.1).1; omega))).know (Blk.turned (E.at_ m7) hT (fun h => by have := (hKM _ h.1).1; omega)))
        replace F := ((((F.give Stable.list (IsL.turned (E.get m1) hT (fun b hb h => by have := h.2; omega))).give Stable.list (IsL.turned (E.get m4) hT (fun b hb h => (hKM b h.1).2 hb.1))).give Stable.list (IsL.turned (E.get m7) hT (fun b hb h => by have := (hKM b h.1).1; omega))).give Stable.list (IsL.turned (E.get m8) hT (fun b hb h => by have := (hKM b h.1).1; omega)))
        have hKN2 : ∀ b, KN b → b ≠ g8 ∧ b ≠ g10 := fun b hb => by have := hKN b hb; omega
        clear E hT hKM hKN
        have hargs := okB_le HOK.out
        obtain ⟨rw_, hrw⟩ : ∃ r, writeL n.q = r := ⟨_, rfl⟩
        obtain ⟨wl, we⟩ := rw_
        have HARGS := Lib.hid hargs; have HRW := Lib.hid hrw
        clear hargs hrw
        obtain ⟨q8, f8, t8⟩ := F.rules m0
        go_wp2_with fail
        refine (write_any _ n _ _ ⟨A8, c8, rfl, F.get m0⟩ HARGS.out (by omega)).mono ?_
        rw [HRW.out]
        rintro e wy ⟨A15, c15, rfl, own15, hby⟩
        replace F := F.step hby
        clear q8 f8 t8
        obtain ⟨q10, f10, t10⟩ := F.rules m1
        go_wp2_with fail
        refine (rwrite_any _ n _ _ ⟨A10, c10, rfl, F.get m1⟩ HARGS.out (by omega)).mono ?_
        rw [HRW.out]
        rintro e wz ⟨A16, c16, rfl, own16, hbz⟩
        replace F := F.step hbz
        clear q10 f10 t10
        have hs15 : (convert 24 9 (.slice A15 wl.length c15)).run Try.prog wz = .ok (.string ⟨wl.toArray⟩) wz :=
          run_string_of wz 24 9 5 Try.underlying24 Try.underlying5 Try.underlying9 rfl ((Reads.of_own own15).step hbz)
        have hs16 : (convert 24 9 (.slice A16 wl.length c16)).run Try.prog wz = .ok (.string ⟨wl.toArray⟩) wz :=
          run_string_of wz 24 9 5 Try.underlying24 Try.underlying5 Try.underlying9 rfl (Reads.of_own own16)
        have he3 : (we != we) = false := bne_self_eq_false we
        clear own15 own16 hby hbz
        have hgz8 := (F.at_ m0).lt
        have hgz10 := (F.at_ m1).lt
        obtain ⟨q8, f8⟩ := (F.at_ m0).rules
        obtain ⟨q10, f10⟩ := (F.at_ m1).rules
        obtain ⟨q19, f19, t19⟩ := F.rules m2
        obtain ⟨q23, f23, t23⟩ := F.rules m3
        by_cases her : er = 0
        · obtain ⟨hcapn, hokn, hroomn⟩ := HCD.out her
          subst her
          go_wp2
          refine ⟨⟨j + 1, ⟨n.cap, n'.q⟩, A11, c11, A13, c13, by go_num, by omega, below_set2 (below_set2 F.below hw8) hw10, ((F.at_ m0).set2).far2 hne, ((F.at_ m1).far2 hne.symm).set2, ?_, ?_, hokn, hroomn, hcap', hw8, hw10, hne⟩, by simp [intOf]; omega⟩
          · exact (((F.get m2).far2 (fun h => (hKN2 _ h.1).1 rfl) _ _).far2 (fun h => (hKN2 _ h.1).2 rfl) _ _).more fun b hb => hKN2 b hb.1
          · exact (((F.get m3).far2 (by omega) _ _).far2 (by omega) _ _).more fun b hb => by omega
        · have heb : (er == 0) = false := by simpa using her
          clear her
          go_wp2
          go_roundw
          case rel => exact ⟨j + 1, n, A8, c8, A10, c10, by go_num, by omega, F.below, F.at_ m0, F.at_ m1, (F.get m0).more fun b hb => hb.1, (F.get m1).more fun b hb => hb.1, HOK.out, hroom, hcap', hw8, hw10, hne⟩
          case measure => simp [intOf]; omega
end Go.Proofs.Ytbjgemipmlimoaa
