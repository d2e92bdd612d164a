/- The walk of zns.copied. -/
import Derived.Test.YtcjmcfjjbicimaaDeskRead
import Derived.Test.YtcjmcfjjbicimaaSlZ
import Derived.Test.YtcjmcfjjbicimaaBytes
namespace Go.Proofs.Ytcjmcfjjbicimaa
open Go.RowKit

theorem set_last (l : List Value) (o : Nat) (x0 x1 x2 : Value) (h0 : l[o]? = some x0) (h1 : l[o + 1]? = some x1) : ((l.set o x0).set (o + 1) x1).set (o + 2) x2 = l.set (o + 2) x2 := by
  apply List.ext_getElem?
  intro k
  simp only [List.getElem?_set, List.length_set]
  by_cases k2 : o + 2 = k
  · rw [if_pos k2, if_pos k2]
  · rw [if_neg k2, if_neg k2]
    by_cases k1 : o + 1 = k
    · subst k1
      obtain ⟨hk, _⟩ := List.getElem?_eq_some_iff.1 h1
      rw [if_pos rfl, if_pos hk, h1]
    · rw [if_neg k1]
      by_cases k0 : o = k
      · subst k0
        obtain ⟨hk, _⟩ := List.getElem?_eq_some_iff.1 h0
        rw [if_pos rfl, if_pos hk, h0]
      · rw [if_neg k0]
/-- a zone's bytes laid elsewhere -/
theorem RowZ.rest {w : World} {g : Nat} {t : TypeId} {K : Nat → Prop} {l : List Zn} {z : Zn} (h : RowZ w g t K l) {i : Nat} (hz : l[i]? = some z) {A' : Option Addr} {c' : Nat} (hB' : IsB w K (.slice A' z.d.length c') z.d) (hK : ∀ b, K b → b ≠ g) : RowZ (w.setCell ⟨g, i * 3 + 2, none⟩ (.slice A' z.d.length c')) g t K l := by
  have ht := (Turned.refl w (fun b => b = g)).set (g := g) rfl (i * 3 + 2) (.slice A' z.d.length c')
  obtain ⟨hi, hzi⟩ := List.getElem?_eq_some_iff.1 hz
  obtain ⟨cs, sp, h1, h2⟩ := h
  have hlen : cs.length = l.length * 3 := h2.len
  obtain ⟨es, hes, hcell⟩ := h2.at_ hz
  obtain ⟨A, c, rfl, hB⟩ := rp_isZ hes
  have e3 : Rp.zone.size = 3 := rfl
  have hs := (h2.set (isZ_rp hB') hi).turned ht hK
  have el : l.set i z = l := by rw [← hzi]; exact List.set_getElem_self hi
  rw [el] at hs
  refine ⟨_, sp, ?_, hs⟩
  have hb := h1.set_ (i * 3 + 2) (.slice A' z.d.length c')
  have hfit : i * 3 + 3 ≤ (cs ++ sp).length := by rw [List.length_append]; omega
  have hg : ∀ (k : Nat) u, (cellsZ z A c)[k]? = some u → (cs ++ sp)[i * 3 + k]? = some u := fun k u hu => by
    have := hcell k u hu
    rw [e3] at this
    rw [List.getElem?_append_left (List.getElem?_eq_some_iff.1 this).1]; exact this
  have e' := set3_eq (cs ++ sp) (i * 3) (.int .i64 z.st) (.int .i64 z.fe) (.slice A' z.d.length c') hfit
  rw [set_last (cs ++ sp) (i * 3) _ _ _ (hg 0 _ rfl) (hg 1 _ rfl)] at e'
  rw [List.setIfInBounds_toArray, e', List.take_append_of_le_length (by omega), List.drop_append_of_le_length (by omega)] at hb
  have e2 : (i + 1) * Rp.zone.size = i * 3 + 3 := by show (i + 1) * 3 = _; omega
  rw [e2, e3]
  simpa [cellsZ] using hb

theorem IsL.zero {α : Type} {R : Rp α} {w : World} {K : Nat → Prop} {A : Option Addr} {c : Nat} {l : List α} (h : l = []) (hc : c ≤ 9223372036854775807) : IsL R w K (.slice A l.length c) l := by
  subst h
  exact ⟨A, c, [], rfl, ⟨by simp, fun h => absurd h (by simp)⟩, rfl, Nat.zero_le _, hc, by simp⟩
theorem CellsL.zlt {w : World} {K : Nat → Prop} : ∀ {l : List Zn} {cs : List Value}, CellsL Rp.zone w K cs l → CellsL Rp.zone w (fun b => K b ∧ b < w.heap.size) cs l
  | [], _, h => h
  | _ :: _, _, ⟨c1, c2, e, ⟨v, e1, h1⟩, h2⟩ => ⟨c1, c2, e, ⟨v, e1, h1.lt⟩, h2.zlt⟩
theorem RowZ.blt {w : World} {g : Nat} {t : TypeId} {K : Nat → Prop} {l : List Zn} (h : RowZ w g t K l) : RowZ w g t (fun b => K b ∧ b < w.heap.size) l := by
  obtain ⟨cs, sp, h1, h2⟩ := h; exact ⟨cs, sp, h1, h2.zlt⟩
theorem IsL.zlt {w : World} {K : Nat → Prop} {v : Value} {l : List Zn} (h : IsL Rp.zone w K v l) : IsL Rp.zone w (fun b => K b ∧ b < w.heap.size) v l := by
  obtain ⟨A, c, cs, e, h1, h2, h3⟩ := h; exact ⟨A, c, cs, e, h1.lt (by show 0 < 3; omega), h2.zlt, h3⟩

/-- the answer of copied -/
def CopyAt (w : World) (base : Nat) (K : Nat → Prop) (d : Zd) (v : Value) : Prop :=
  ∃ A c, v = .agg #[.int .i64 d.cap, .int .i64 d.opn, .int .i64 d.act, .slice A d.z.length c] ∧ IsL Rp.zone w (fun b => K b ∨ base ≤ b) (.slice A d.z.length c) d.z ∧
    (0 < d.z.length → ∃ gz, A = some ⟨gz, 0, none⟩ ∧ base ≤ gz ∧ RowZ w gz 26 (fun b => (K b ∨ base ≤ b) ∧ b ≠ gz) d.z)
set_option linter.unusedSimpArgs false in
set_option maxRecDepth 100000 in
set_option maxHeartbeats 8000000 in
theorem copied_any (d : Zd) (v : Value) (K : Nat → Prop) (w : World) (hv : IsL Rp.zone w K v d.z) (hn : d.z.length * 40 ≤ 140737488355328) (hlt : ∀ b, K b → b < w.heap.size) :
    Calls Try.prog 58 #[.agg #[.int .i64 d.cap, .int .i64 d.opn, .int .i64 d.act, v]] w fun e w' => ∃ v', e = .returned v' ∧ CopyAt w' w.heap.size K d v' ∧ Below w.heap.size w w' := by
  have hv0 := hv
  obtain ⟨A, c, cs, rfl, hr, hcl, hlc, hcc, hlen47⟩ := hv0
  have E := ((Kn.start w).give Stable.list hv).push 53 #[.int .i64 d.cap, .int .i64 d.opn, .int .i64 d.act, .slice A d.z.length c] |>.push 53 #[.int .i64 0, .int .i64 0, .int .i64 0, .slice none 0 0]
  go_enter Try.func58, Try.ntmps58
  go_wp2_with fail
  refine (cloneZ_any A d.z.length c K cs _ ((hr.alloc _).alloc _) hcl.one hn).mono ?_
  rintro e w1 ⟨A1, c1, rfl, how, hb1⟩
  replace E := E.step hb1
  have hs1 := hb1.size
  rw [World.size_alloc, World.size_alloc] at hs1
  obtain ⟨q0, f0, t0⟩ := E.rules m1
  have hcl1 : CellsL Rp.zone w1 K cs d.z := ((hcl.alloc _).alloc _).step hb1
  clear hr hcl
  go_wp2_with fail
  have hbs : Below w.heap.size w (w1.setCell ⟨w.heap.size, 3, none⟩ (.slice A1 d.z.length c1)) := E.below.setCell (Nat.le_refl _) _
  have hB0 := (E.at_ m1).set_ 3 (.slice A1 d.z.length c1)
  have hB2 := (E.at_ m0).far (p := ⟨w.heap.size, 3, none⟩) (by rw [World.size_alloc]; show w.heap.size + 1 ≠ w.heap.size; omega) (.slice A1 d.z.length c1)
  have hrow : d.z = [] ∨ ∃ gz, A1 = some ⟨gz, 0, none⟩ ∧ w.heap.size + 2 ≤ gz ∧ RowZ (w1.setCell ⟨w.heap.size, 3, none⟩ (.slice A1 d.z.length c1)) gz 26 (fun b => (K b ∨ w.heap.size + 2 ≤ b) ∧ b ≠ gz) d.z := by
    by_cases hz : d.z = []
    · exact .inl hz
    · right
      have hpos := List.length_pos_iff.2 hz
      rcases how.2 with ⟨h2, _⟩ | ⟨g', cap, cur, hv', hg, _⟩
      · injection h2 with _ h2 _; omega
      · injection hv' with e1 _ _
        subst e1
        rw [World.size_alloc, World.size_alloc] at hg
        refine ⟨g', rfl, hg, ?_⟩
        have hR := (RowZ.of how hcl1).more (K' := fun b => (K b ∨ w.heap.size + 2 ≤ b) ∧ b ≠ g') (fun b hb => by have := hlt b hb; exact ⟨.inl hb, by omega⟩)
        exact hR.far (by omega) (fun h => by rcases h.1 with h | h; exact absurd (hlt _ h) (Nat.lt_irrefl _); omega) _ _
  generalize w1.setCell ⟨w.heap.size, 3, none⟩ (.slice A1 d.z.length c1) = w2 at hbs hB0 hB2 hrow ⊢
  rw [World.size_alloc] at hB2
  have hc1 := own_cap how
  have hc2 := own_cap63 how
  clear how hb1 hcl1 q0 f0 t0 E hs1
  have hn63 : d.z.length ≤ 9223372036854775807 := by omega
  go_loopw [3, 11] (fun x y wr => ∃ j : Nat, y = .int .i64 j ∧ j ≤ d.z.length ∧ Below w.heap.size w wr ∧ Blk wr w.heap.size 53 #[.int .i64 d.cap, .int .i64 d.opn, .int .i64 d.act, .slice A1 d.z.length c1] ∧ Blk wr (w.heap.size + 1) 53 #[.int .i64 0, .int .i64 0, .int .i64 0, .slice none 0 0] ∧
    (d.z = [] ∨ ∃ gz, A1 = some ⟨gz, 0, none⟩ ∧ w.heap.size + 2 ≤ gz ∧ RowZ wr gz 26 (fun b => (K b ∨ w.heap.size + 2 ≤ b) ∧ b ≠ gz) d.z) ∧ ∃ u, x = u) (fun _ y _ => d.z.length - (intOf y).toNat)
  case atStart => exact ⟨0, rfl, Nat.zero_le _, hbs, hB0, hB2, hrow, _, rfl⟩
  case round =>
    obtain ⟨j, rfl, hj, hb, hBa, hBb, hrw, u, rfl⟩ := hrel
    obtain ⟨q0, f0⟩ := hBa.rules
    obtain ⟨q1, f1⟩ := hBb.rules
    have t0 := hBa.lt
    have t1 := hBb.lt
    by_cases hjl : j < d.z.length
    · have i0 : (0 : Int) ≤ (j : Int) := by omega
      have i1 : (j : Int) < (d.z.length : Int) := by omega
      obtain ⟨gz, rfl, hgz, hR⟩ := hrw.resolve_left (fun h => by rw [h] at hjl; exact absurd hjl (Nat.not_lt_zero _))
      have hz := List.getElem?_eq_getElem hjl
      obtain ⟨Aj, cj, hjB, ⟨n0, n1, n2⟩, ⟨g0, g1, g2⟩⟩ := hR.at_ hz
      have hgl := hR.lt
      obtain ⟨ad, had⟩ : ∃ ad : Addr, ad = ⟨gz, 0, none⟩ := ⟨_, rfl⟩
      have hadd : ∀ o, ad.add o = ⟨gz, o, none⟩ := fun o => by rw [had]; exact addG gz o
      have hBad : Blk wr w.heap.size 53 (#[.int .i64 d.cap, .int .i64 d.opn, .int .i64 d.act, .slice (some ad) d.z.length c1] : Array Value) := by rw [had]; exact hBa
      have HAD := Lib.hid had
      rw [← had] at q0
      clear had hrw
      go_upto_region 5 with fail
      have HK : Hid (∀ W, Below wr.heap.size wr W → ∀ o, W.cell? ⟨w.heap.size, o, none⟩ = (#[.int .i64 d.cap, .int .i64 d.opn, .int .i64 d.act, .slice (some ad) d.z.length c1] : Array Value)[o]?) := Lib.hid fun W h => (hBad.step h).cell
      have HS : Hid (∀ W, Below wr.heap.size wr W → ∀ u, ∀ o, (W.setCell ⟨gz, j * 3 + 2, none⟩ u).cell? ⟨w.heap.size, o, none⟩ = (#[.int .i64 d.cap, .int .i64 d.opn, .int .i64 d.act, .slice (some ad) d.z.length c1] : Array Value)[o]?) := Lib.hid fun W h u => ((hBad.step h).far (p := ⟨gz, j * 3 + 2, none⟩) (by show w.heap.size ≠ gz; omega) u).cell
      refine wp_region_held_drew (S := fun W => ∀ o, W.cell? ⟨w.heap.size, o, none⟩ = (#[.int .i64 d.cap, .int .i64 d.opn, .int .i64 d.act, .slice (some ad) d.z.length c1] : Array Value)[o]?) (by kernel_rfl) (HK.out _ (Below.refl _ _).drew) (fun hHeld => ?_)
      refine wpAnyH_take (i := 0) (oi := ⟨some 14, _, _, _, _, _⟩) (v := ?_) rfl (by kernel_rfl) (by kernel_rfl) (by kernel_rfl) (fun _ _ _ h => h) (Or.inl ⟨by rfl, ?hy⟩) (by assumption) ?_
      case hy => intro w hSw; (try dsimp only at hSw); go_simp; with_reducible rfl
      try simp only [Act.put, List.setIfInBounds_toArray, List.set_cons_zero, List.set_cons_succ]
      refine wpAnyH_take (i := 1) (oi := ⟨some 15, _, _, _, _, _⟩) (v := ?_) rfl (by kernel_rfl) (by kernel_rfl) (by kernel_rfl) (fun _ _ _ h => h) (Or.inl ⟨by rfl, ?hy⟩) (by assumption) ?_
      case hy => intro w hSw; (try dsimp only at hSw); go_simp; with_reducible rfl
      try simp only [Act.put, List.setIfInBounds_toArray, List.set_cons_zero, List.set_cons_succ]
      refine wpAnyH_take (i := 2) (oi := ⟨some 16, _, _, _, _, _⟩) (v := ?_) rfl (by kernel_rfl) (by kernel_rfl) (by kernel_rfl) (fun _ _ _ h => h) (Or.inl ⟨by rfl, ?hy⟩) (by assumption) ?_
      case hy => intro w hSw; (try dsimp only at hSw); go_simp; with_reducible rfl
      try simp only [Act.put, List.setIfInBounds_toArray, List.set_cons_zero, List.set_cons_succ]
      refine wpAnyH_take (i := 3) (oi := ⟨some 17, _, _, _, _, _⟩) (v := ?_) rfl (by kernel_rfl) (by kernel_rfl) (by kernel_rfl) (fun _ _ _ h => h) (Or.inl ⟨by rfl, ?hy⟩) (by assumption) ?_
      case hy => intro w hSw; (try dsimp only at hSw); go_simp; with_reducible rfl
      try simp only [Act.put, List.setIfInBounds_toArray, List.set_cons_zero, List.set_cons_succ]
      refine wpAnyH_take (i := 4) (oi := ⟨some 18, _, _, _, _, _⟩) (v := ?_) rfl (by kernel_rfl) (by kernel_rfl) (by kernel_rfl) (fun _ _ _ h => h) (Or.inl ⟨by rfl, ?hy⟩) (by assumption) ?_
      case hy => intro w hSw; (try dsimp only at hSw); go_simp; with_reducible rfl
      try simp only [Act.put, List.setIfInBounds_toArray, List.set_cons_zero, List.set_cons_succ]
      refine wpAnyH_take (i := 5) (oi := ⟨some 19, _, _, _, _, _⟩) (v := ?_) rfl (by kernel_rfl) (by kernel_rfl) (by kernel_rfl) (fun _ _ _ h => h) (Or.inl ⟨by rfl, ?hy⟩) (by assumption) ?_
      case hy => intro w hSw; (try dsimp only at hSw); go_simp; with_reducible rfl
      try simp only [Act.put, List.setIfInBounds_toArray, List.set_cons_zero, List.set_cons_succ]
      refine wpAnyH_take (i := 6) (oi := ⟨some 20, _, _, _, _, _⟩) (v := ?_) rfl (by kernel_rfl) (by kernel_rfl) (by kernel_rfl) (fun _ _ _ h => h) (Or.inl ⟨by rfl, ?hy⟩) (by assumption) ?_
      case hy => intro w hSw; (try dsimp only at hSw); go_simp; with_reducible rfl
      try simp only [Act.put, List.setIfInBounds_toArray, List.set_cons_zero, List.set_cons_succ]
      refine wpAnyH_take (i := 7) (oi := ⟨some 21, _, _, _, _, _⟩) (v := ?_) rfl (by kernel_rfl) (by kernel_rfl) (by kernel_rfl) (fun _ _ _ h => h) (Or.inl ⟨by rfl, ?hy⟩) (by assumption) ?_
      case hy => intro w hSw; (try dsimp only at hSw); go_simp; with_reducible rfl
      try simp only [Act.put, List.setIfInBounds_toArray, List.set_cons_zero, List.set_cons_succ]
      refine wpAnyH_ready (rs := [8]) (by kernel_rfl) (by simp) ?_
      refine AllReadyH.cons (o := ⟨some 22, _, _, _, _, _⟩) rfl (fun K hK => ?_) AllReadyH.nil
      go_simp
      refine hK.out _ _ (HK.out _ (Below.refl _ _).drew) (fun hHeld => ?_)
      clear hK K
      try simp only [Act.put, List.setIfInBounds_toArray, List.set_cons_zero, List.set_cons_succ]
      refine wpAnyH_ready (rs := [9]) (by kernel_rfl) (by simp) ?_
      refine AllReadyH.cons (o := ⟨some 23, _, _, _, _, _⟩) rfl (fun K hK => ?_) AllReadyH.nil
      go_simp
      refine (cloneB_any _ d.z[j].d _ _ (hjB.step (Below.refl _ _).drew)).mono ?_
      rintro e w3 ⟨A9, c9, rfl, how, hb3⟩
      have hs3 : wr.drew.heap.size = wr.heap.size := rfl
      replace hb3 := (Below.refl wr.heap.size wr).drew.trans hb3
      obtain ⟨_, _, _, ⟨_, _, m2'⟩, ⟨_, _, k2⟩⟩ := (hR.step hb3).at_ hz
      go_wp2_with fail
      refine hK.out _ _ (HK.out _ hb3) (fun hHeld => ?_)
      clear hK K
      try simp only [Act.put, List.setIfInBounds_toArray, List.set_cons_zero, List.set_cons_succ]
      refine wpAnyH_take (i := 10) (oi := ⟨some 24, _, _, _, _, _⟩) (v := ?_) rfl (by kernel_rfl) (by kernel_rfl) (by kernel_rfl) (fun _ _ _ h => h) (Or.inl ⟨by rfl, ?hy⟩) (by assumption) ?_
      case hy => intro w hSw; (try dsimp only at hSw); go_simp; with_reducible rfl
      try simp only [Act.put, List.setIfInBounds_toArray, List.set_cons_zero, List.set_cons_succ]
      refine wpAnyH_take (i := 11) (oi := ⟨some 25, _, _, _, _, _⟩) (v := ?_) rfl (by kernel_rfl) (by kernel_rfl) (by kernel_rfl) (fun _ _ _ h => h) (Or.inl ⟨by rfl, ?hy⟩) (by assumption) ?_
      case hy => intro w hSw; (try dsimp only at hSw); go_simp; with_reducible rfl
      try simp only [Act.put, List.setIfInBounds_toArray, List.set_cons_zero, List.set_cons_succ]
      refine wpAnyH_ready (rs := [12]) (by kernel_rfl) (by simp) ?_
      refine AllReadyH.cons (o := ⟨none, _, _, _, _, _⟩) rfl (fun K hK => ?_) AllReadyH.nil
      go_simp
      refine hK.out _ _ (HS.out _ hb3 _) (fun hHeld => ?_)
      clear hK K
      try simp only [Act.put, List.setIfInBounds_toArray, List.set_cons_zero, List.set_cons_succ]
      refine wpAnyH_done (by kernel_rfl) ?_ _
      have hyB := (IsB.of_own how hjB.len).more (K' := fun b => (K b ∨ w.heap.size + 2 ≤ b) ∧ b ≠ gz) (fun b hb => ⟨.inr (by omega), by omega⟩)
      have hR' := (hR.step hb3).rest hz hyB (fun b hb => hb.2)
      have hBa' := (hBa.step hb3).far (p := ⟨gz, j * 3 + 2, none⟩) (by show w.heap.size ≠ gz; omega) (.slice A9 d.z[j].d.length c9)
      have hBb' := (hBb.step hb3).far (p := ⟨gz, j * 3 + 2, none⟩) (by show w.heap.size + 1 ≠ gz; omega) (.slice A9 d.z[j].d.length c9)
      have hb' : Below w.heap.size w (w3.setCell ⟨gz, j * 3 + 2, none⟩ (.slice A9 d.z[j].d.length c9)) := (hb.trans (hb3.mono hb.size)).setCell (show w.heap.size ≤ gz by omega) _
      have HR' := Lib.hid hR'; have HBa := Lib.hid hBa'; have HBb := Lib.hid hBb'; have HB' := Lib.hid hb'
      clear hR' hBa' hBb' hb' hyB how q0 q1 n0 n1 n2
      go_wp2_with fail
      go_roundw
      case rel => exact ⟨j + 1, by go_num, by omega, HB'.out, HBa.out, HBb.out, .inr ⟨gz, rfl, hgz, HR'.out⟩, _, rfl⟩
      case measure => simp [intOf]; omega
    · obtain rfl : j = d.z.length := by omega
      go_wp2
      have hBr := (((hBb.set_ 0 (.int .i64 d.cap)).set_ 1 (.int .i64 d.opn)).set_ 2 (.int .i64 d.act)).set_ 3 (.slice A1 d.z.length c1)
      have ht := (((((Turned.refl wr (fun b => b = w.heap.size + 1)).set (g := w.heap.size + 1) rfl 0 (.int .i64 d.cap)).set (g := w.heap.size + 1) rfl 1 (.int .i64 d.opn)).set (g := w.heap.size + 1) rfl 2 (.int .i64 d.act)).set (g := w.heap.size + 1) rfl 3 (.slice A1 d.z.length c1))
      generalize (((wr.setCell ⟨w.heap.size + 1, 0, none⟩ (.int .i64 d.cap)).setCell ⟨w.heap.size + 1, 1, none⟩ (.int .i64 d.opn)).setCell ⟨w.heap.size + 1, 2, none⟩ (.int .i64 d.act)).setCell ⟨w.heap.size + 1, 3, none⟩ (.slice A1 d.z.length c1) = w9 at hBr ht ⊢
      have hb9 : Below w.heap.size w w9 := hb.trans (ht.below (fun k hk => by omega) hb.size)
      obtain ⟨q9, f9⟩ := hBr.rules
      clear q0 q1 f0 f1
      refine bodyPost_ret (v := .agg #[.int .i64 d.cap, .int .i64 d.opn, .int .i64 d.act, .slice A1 d.z.length c1]) (by simp [results, Try.results58, go_sem, q9]) rfl ⟨_, rfl, ⟨A1, c1, rfl, ?_, ?_⟩, hb9⟩
      · rcases hrw with hz | ⟨gz, rfl, hgz, hR⟩
        · exact IsL.zero hz hc2
        · exact ((hR.turned ht (by omega) (fun b hb => by rcases hb.1 with h | h; have := hlt b h; omega; omega)).isL hc1 hc2 (by omega)).more fun b hb => by rcases hb with rfl | hb; exact .inr (by omega); rcases hb.1 with h | h; exact .inl h; exact .inr (by omega)
      · intro hpos
        obtain ⟨gz, rfl, hgz, hR⟩ := hrw.resolve_left (fun h => by rw [h] at hpos; exact absurd hpos (Nat.lt_irrefl _))
        exact ⟨gz, rfl, by omega, (hR.turned ht (by omega) (fun b hb => by rcases hb.1 with h | h; have := hlt b h; omega; omega)).more fun b hb => ⟨hb.1.imp id (fun h => by omega), hb.2⟩⟩
end Go.Proofs.Ytcjmcfjjbicimaa
