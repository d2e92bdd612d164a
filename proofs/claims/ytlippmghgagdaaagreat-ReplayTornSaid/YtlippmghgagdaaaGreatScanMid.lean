import Derived.Test.YtlippmghgagdaaaGreatPackAdd1
import Derived.Deep.DeepMust
import Derived.Test.YtlippmghgagdaaaGreatRep
import Derived.Deep.RegionHeld
import Derived.Test.YtlippmghgagdaaaGreatSegRec

/- The walk of seg.Seg. -/
namespace Go.Proofs.YtlippmghgagdaaaGreat
open Go.RowKit

/-- what Seg answers -/
def segP (h : Hd) (l : List Rc) : List UInt8 × Int := if (headL h).2 ≠ 0 then ([], (headL h).2) else if errL l ≠ 0 then ([], errL l) else ((headL h).1 ++ frsL l, 0)
theorem headL_le (h : Hd) : (headL h).1.length ≤ 65560 := by
  unfold headL
  by_cases h1 : (numsL (headN h)).2 = 0
  · rw [if_neg (by simp [h1])]; exact frameL_le _
  · rw [if_pos h1]; simp
def SegInv (w wr : World) (h : Hd) (l : List Rc) (v6 v7 i : Value) : Prop :=
  ∃ (j : Nat) (ob : List UInt8) (ev : Int) (A : Option Addr) (c : Nat), i = .int .i64 j ∧ j ≤ l.length ∧ v6 = .slice A ob.length c ∧ v7 = .int .i64 ev ∧ ob.length ≤ 65560 + 40030 * j ∧
    wr.ownsRow (w.heap.size + 1) 5 1 (.slice A ob.length c) ob.length (cells8 ob) ∧ (ev = 0 → (headL h).2 = 0 ∧ errL (l.take j) = 0 ∧ ob = (headL h).1 ++ frsL (l.take j)) ∧ (ev ≠ 0 → segP h l = ([], ev)) ∧ Below w.heap.size w wr

set_option maxRecDepth 100000 in
set_option maxHeartbeats 4000000 in
theorem seg_any (h : Hd) (lv : Value) (l : List Rc) (K : Nat → Prop) (w : World) (hh : OkHd h) (hl : IsL Rp.rc w K lv l) (hll : l.length ≤ 100000000) :
    Calls Tryz.prog 66 #[hdV h, lv] w fun e w' => ∃ A c, e = .returned (.tuple #[.slice A (segP h l).1.length c, .int .i64 (segP h l).2]) ∧
      w'.ownsRow w.heap.size 5 1 (.slice A (segP h l).1.length c) (segP h l).1.length (cells8 (segP h l).1) ∧ Below w.heap.size w w' := by
  obtain ⟨res, hres⟩ : ∃ res, segP h l = res := ⟨_, rfl⟩
  rw [hres]
  have hl0 := hl
  obtain ⟨Al, cl, rfl, hlc, hlc2⟩ := hl.form
  have hok := isL_ok hl
  obtain ⟨i0, hi, hz0, hz1, hz2⟩ := info_parts Tryz.info5
  have hhd := fun W => head_any h W hh
  have hhle := headL_le h
  have hseg0 : (headL h).2 ≠ 0 → segP h l = ([], (headL h).2) := fun h1 => if_pos h1
  have hseg1 : (headL h).2 = 0 → ∀ e, errL l = e → e ≠ 0 → segP h l = ([], e) := fun h1 e h2 h3 => by unfold segP; rw [if_neg (by simp [h1]), if_pos (by rw [h2]; exact h3), h2]
  have hseg2 : (headL h).2 = 0 → errL l = 0 → segP h l = ((headL h).1 ++ frsL l, 0) := fun h1 h2 => by unfold segP; rw [if_neg (by simp [h1]), if_neg (by simp [h2])]
  have HS0 := Lib.hid hseg0; have HS1 := Lib.hid hseg1; have HS2 := Lib.hid hseg2; have HRES := Lib.hid hres
  clear hseg0 hseg1 hseg2 hres
  obtain ⟨y, hy⟩ : ∃ y, headL h = y := ⟨_, rfl⟩
  have HY := Lib.hid hy
  rw [hy] at hhd hhle
  clear hy
  obtain ⟨hb, he⟩ := y
  simp only at hhd hhle
  unfold hdV at hhd ⊢
  have HHD := Lib.hid hhd
  clear hhd
  go_enter Tryz.func66, Tryz.ntmps66
  go_wp2_with fail
  refine (HHD.out _).mono ?_
  rintro e w1 ⟨A1, c1, rfl, own1, hb1⟩
  rw [World.size_alloc] at own1
  have hbw1 : Below w.heap.size w w1 := ((Below.refl _ _).alloc (Nat.le_refl _) _).trans (hb1.mono (by simp))
  have hs1 := hb1.size
  rw [World.size_alloc] at hs1
  go_wp2_with fail
  go_loopw [6, 7, 18] (fun v6 v7 i wr => SegInv w wr h l v6 v7 i) (fun _ _ i _ => l.length - (intOf i).toNat)
  case atStart =>
    refine ⟨0, hb, he, A1, c1, rfl, Nat.zero_le _, rfl, rfl, by omega, own1, fun h0 => ⟨by rw [HY.out]; exact h0, rfl, by rw [HY.out]; simp [frsL]⟩, fun h0 => ?_, hbw1⟩
    have := HS0.out (by rw [HY.out]; exact h0)
    rw [this, HY.out]
  case round =>
    obtain ⟨j, ob, ev, A2, c2, rfl, hj, rfl, rfl, hobl, own2, hgood, hbad, hbw⟩ := hrel
    have hsz := hbw.size
    have HG := Lib.hid hgood; have HB := Lib.hid hbad
    clear hgood hbad
    by_cases hlt : j < l.length
    · obtain ⟨ad, Ad, cd, rfl, _, hvd, hokr, hc0, hc1, hc2, hc3, hc4, hc5, hc6⟩ := rc_at (hl0.step hbw) (List.getElem?_eq_getElem hlt)
      have hjr : l[j]? = some l[j] := List.getElem?_eq_getElem hlt
      generalize l[j] = r at hvd hokr hc0 hc1 hc2 hc3 hc4 hc5 hc6 hjr
      have HJ := Lib.hid hjr
      clear hjr
      have E := (((Kn.start wr).give Stable.bytes hvd).give (f := fun W => W.ownsRow (w.heap.size + 1) 5 1 (.slice A2 ob.length c2) ob.length (cells8 ob)) (fun _ _ h hb => own_below h hb (Nat.le_refl _)) own2).push 57 #[.int .i64 r.kind, .int .i64 r.lba, .int .i64 r.n, .int .i64 r.ver, .int .i64 r.zone, .int .i64 r.off, .slice Ad r.data.length cd]
      by_cases hev : ev = 0
      · have hrec := fun W h => rec_any r (.slice Ad r.data.length cd) K W hokr h
        unfold rcV at hrec
        have hrl := (recL_len hokr).1
        obtain ⟨y, hy2⟩ : ∃ y, recL r = y := ⟨_, rfl⟩
        have HR := Lib.hid hy2
        rw [hy2] at hrec hrl
        obtain ⟨fb, fe⟩ := y
        simp only at hrec hrl
        obtain ⟨hg1, hg2, hg3⟩ := HG.out hev
        have hev' : ((ev : Int) != 0) = false := by simp [hev]
        have HG1 := Lib.hid hg1; have HG2 := Lib.hid hg2; have HG3 := Lib.hid hg3
        clear hy2 hev hg1 hg2 hg3
        go_wp2_with fail
        refine (hrec _ (E.get m1)).mono ?_
        rintro e w4 ⟨A4, c4, rfl, own4, hb4⟩
        have F := E.step hb4
        have hs4 := F.below.size
        have own2' := F.get m0
        have hr4 := Reads.of_own own4
        go_wp2_with (at_builtin; go_must (refine wpList_appN rfl _ _ _ rfl (w.heap.size + 1) 5 i0 _ 1 1 Tryz.underlying32 hi hz0 hz1 hz2 rfl (by omega) rfl own2' rfl hr4 (cells8_one fb) (by simp only [maxLen]; omega) (by omega) (by have := (F.at_ m0).lt; omega) ?_); intro A6 c6 w6 own6 hg6)
        refine ⟨⟨j + 1, ob ++ fb, fe, A6, c6, by go_num, by omega, by rw [List.length_append], rfl, by rw [List.length_append]; omega, by rw [List.length_append, cells8_append]; exact own6, fun h0 => ⟨HG1.out, ?_, ?_⟩, fun h0 => ?_, hbw.trans ((F.below.mono hsz).trans (hg6.below.mono (by omega)))⟩, by simp [intOf]; omega⟩
        · rw [take_snoc l HJ.out, errL_snoc, if_neg (by simp [HG2.out]), HR.out]; exact h0
        · rw [take_snoc l HJ.out, frsL_snoc, HR.out, HG3.out, List.append_assoc]
        · exact HS1.out HG1.out fe (by rw [errL_here l HJ.out HG2.out (by rw [HR.out]; exact h0), HR.out]) h0
      · have hev' : ((ev : Int) != 0) = true := by simpa using hev
        have hbx := hbw.alloc hsz (.cells #[.int .i64 r.kind, .int .i64 r.lba, .int .i64 r.n, .int .i64 r.ver, .int .i64 r.zone, .int .i64 r.off, .slice Ad r.data.length cd] 57)
        have e9 := HB.out hev
        rw [HRES.out] at e9
        subst e9
        clear E hev
        go_wp2
        go_ret2
        exact ⟨none, 0, rfl, World.ownsRow_nil _ _ _ _, hbx⟩
    · obtain rfl : j = l.length := by omega
      by_cases hev : ev = 0
      · obtain ⟨hg1, hg2, hg3⟩ := HG.out hev
        rw [List.take_length] at hg2 hg3
        have e9 := HS2.out hg1 hg2
        rw [HRES.out, ← hg3] at e9
        subst e9
        have hev' : ((ev : Int) != 0) = false := by simp [hev]
        clear hev hg1 hg2 hg3
        go_wp2
        go_ret2
        exact ⟨A2, c2, rfl, own_base own2 (by omega), hbw⟩
      · have hev' : ((ev : Int) != 0) = true := by simpa using hev
        have e9 := HB.out hev
        rw [HRES.out] at e9
        subst e9
        clear hev
        go_wp2
        go_ret2
        exact ⟨none, 0, rfl, World.ownsRow_nil _ _ _ _, hbw⟩
end Go.Proofs.YtlippmghgagdaaaGreat

/- A region that draws and stores into the very cells that it has read: what is known of the world hangs on what has come up. Turned from the library's law where it does not. Over any program. -/
namespace Go.Proofs.YtlippmghgagdaaaGreat
open Go.RowKit

section
variable {P : Program} {ops : Array Oper} {Q : Exit → Act → World → Prop} {md : Region.Mode} {S : Array Bool → World → Prop}

/-- what has come up is closed: whatever it waits for has come up -/
def DnL (md : Region.Mode) (ops : Array Oper) (L : Array Bool) : Prop := L.size = ops.size ∧ ∀ k o, ops[k]? = some o → L.getD k false = true → ∀ e ∈ o.after, Region.binds md e = true → L.getD e.on false = true
theorem DnL.start : DnL md ops (Array.replicate ops.size false) := ⟨by simp, fun k o _ h => by
  exfalso
  rcases Nat.lt_or_ge k ops.size with h' | h'
  · simp [h'] at h
  · rw [Array.getD_eq_getD_getElem?, Array.getElem?_eq_none (by simpa using h')] at h; cases h⟩
theorem DnL.next {L : Array Bool} {j : Nat} (h : DnL md ops L) (hj : j ∈ Region.ready md ops L) : DnL md ops (L.setIfInBounds j true) := by
  refine ⟨by simpa using h.1, fun k o hk hl e he hb => ?_⟩
  obtain ⟨_, oj, hoj, hall⟩ := mem_ready.1 hj
  by_cases hkj : k = j
  · subst hkj
    rw [hoj] at hk
    injection hk with hk
    subst hk
    exact getD_set_true (hall e he hb)
  · rw [getD_set_ne false (Ne.symm hkj)] at hl
    exact getD_set_true (h.2 k o hk hl e he hb)

/-- Whatever order is picked from here on, and S (of what has come up) holds behind every operation. -/
def wpAnyD (P : Program) (md : Region.Mode) (ops : Array Oper) (Q : Exit → Act → World → Prop) (S : Array Bool → World → Prop) : Nat → Array Bool → Act → World → Prop
  | 0, L, a, w => Region.ready md ops L = [] ∧ Q .normal a w
  | fuel + 1, L, a, w =>
    (Region.ready md ops L = [] → Q .normal a w) ∧
    ∀ i ∈ Region.ready md ops L, wpOp P ops Q i (fun a' w' => S (L.setIfInBounds i true) w' ∧ wpAnyD P md ops Q S fuel (L.setIfInBounds i true) a' w') a w
theorem wpAny_of_D : ∀ (fuel : Nat) (L : Array Bool) (a : Act) (w : World), wpAnyD P md ops Q S fuel L a w → wpAny P md ops Q fuel L a w
  | 0, _, _, _, h => h
  | fuel + 1, _, _, _, h => ⟨h.1, fun i hi => wpOp_mono (fun a' w' h' => wpAny_of_D fuel _ a' w' h'.2) (h.2 i hi)⟩

theorem wpAnyD_first {i : Nat} {oi : Oper} {v : Value} {Si : World → Prop} (hi : ops[i]? = some oi) (hsel : ∀ (j : Nat) (o : Oper) cs b, ops[j]? = some o → o.op ≠ .select cs b)
    (hQ : ∀ c a w, Q (.panic c) (a.put oi.dst v) w → Q (.panic c) a w)
    (hSi : ∀ L w, DnL md ops L → L.getD i false = false → S L w → Si w) (hset : ∀ L w, S (L.setIfInBounds i true) w ↔ S L w) :
    ∀ (fuel : Nat) (L : Array Bool) (a : Act) (w : World), DnL md ops L →
      (∀ j oj, ops[j]? = some oj → j ≠ i → L.getD j true = false → (∀ e ∈ oj.after, Region.binds md e = true → e.on ≠ i) → oi.apart ops oj = true) →
      i ∈ Region.ready md ops L → YieldsIf P ops Si oi v a → S L w →
      wpAnyD P md ops Q S fuel (L.setIfInBounds i true) (a.put oi.dst v) w → wpAnyD P md ops Q S (fuel + 1) L a w := by
  have unl : ∀ L : Array Bool, L.getD i true = false → L.getD i false = false := fun L h => by
    rcases Nat.lt_or_ge i L.size with h' | h'
    · simp [h'] at h ⊢; exact h
    · simp [Array.getElem?_eq_none h'] at h
  intro fuel
  induction fuel with
  | zero =>
    intro L a w hD _ hr hy hS H
    refine ⟨fun h => (by rw [h] at hr; cases hr), fun j hj => ?_⟩
    by_cases hji : j = i
    · subst hji; exact hy.wpOp hi (hSi L w hD (unl L (mem_ready.1 hr).1) hS) ⟨(hset L w).2 hS, H⟩
    · have := ready_mono hj hji
      rw [H.1] at this
      cases this
  | succ fuel ih =>
    intro L a w hD hfree hr hy hS H
    refine ⟨fun h => (by rw [h] at hr; cases hr), fun j hj => ?_⟩
    by_cases hji : j = i
    · subst hji; exact hy.wpOp hi (hSi L w hD (unl L (mem_ready.1 hr).1) hS) ⟨(hset L w).2 hS, H⟩
    · have h1 := H.2 j (ready_mono hj hji)
      obtain ⟨hjun, oj, hoj, hall⟩ := mem_ready.1 hj
      have hnot : ∀ e ∈ oj.after, Region.binds md e = true → e.on ≠ i := fun e he hb heq => by
        have h1 := hall e he hb
        rw [heq, unl L (mem_ready.1 hr).1] at h1
        cases h1
      have h2 := wpOp_putIf hoj (hfree j oj hoj hji hjun hnot) (fun cs b => hsel i oi cs b hi) (fun cs b => hsel j oj cs b hoj) hQ hy h1
      have hfree' : ∀ k ok, ops[k]? = some ok → k ≠ i → (L.setIfInBounds j true).getD k true = false →
          (∀ e ∈ ok.after, Region.binds md e = true → e.on ≠ i) → oi.apart ops ok = true := fun k ok hk hki hun hno => by
        refine hfree k ok hk hki ?_ hno
        by_cases hjk : j = k
        · subst hjk; exact hjun
        · rw [getD_set_ne true hjk] at hun; exact hun
      have hcomm : (L.setIfInBounds j true).setIfInBounds i true = (L.setIfInBounds i true).setIfInBounds j true := Array.setIfInBounds_comm _ _ hji
      refine wpOp_mono (fun a' w' h3 => ?_) h2
      have hS' : S (L.setIfInBounds j true) w' := (hset _ w').1 (by rw [hcomm]; exact h3.2.1)
      refine ⟨hS', ih (L.setIfInBounds j true) a' w' (hD.next hj) hfree' (ready_mono hr (Ne.symm hji)) h3.1 hS' ?_⟩
      rw [hcomm]
      exact h3.2.2
theorem wpAnyD_take {i : Nat} {oi : Oper} {v : Value} {Si : World → Prop} {fuel : Nat} {L : Array Bool} {a : Act} {w : World} (hi : ops[i]? = some oi)
    (hs : Region.noSelect ops = true) (hf : Region.free md ops L i = true) (hr : (Region.ready md ops L).contains i = true)
    (hQ : ∀ c a w, Q (.panic c) (a.put oi.dst v) w → Q (.panic c) a w) (hSi : ∀ L w, DnL md ops L → L.getD i false = false → S L w → Si w) (hset : ∀ L w, S (L.setIfInBounds i true) w ↔ S L w)
    (hy : YieldsIf P ops Si oi v a) (hD : DnL md ops L) (hS : S L w)
    (h : DnL md ops (L.setIfInBounds i true) → S (L.setIfInBounds i true) w → wpAnyD P md ops Q S fuel (L.setIfInBounds i true) (a.put oi.dst v) w) : wpAnyD P md ops Q S (fuel + 1) L a w :=
  have hr' : i ∈ Region.ready md ops L := by simpa using hr
  wpAnyD_first hi (Region.noSelect_spec hs) hQ hSi hset fuel L a w hD (Region.free_spec hi hf) hr' hy hS (h (hD.next hr') ((hset L w).2 hS))
/-- one alone may come up -/
theorem wpAnyD_one {i : Nat} {o : Oper} {fuel : Nat} {L : Array Bool} {a : Act} {w : World} (hr : Region.ready md ops L = [i]) (ho : ops[i]? = some o) (hD : DnL md ops L)
    (h : ∀ K' : Act → World → Prop, Shut (∀ a w, S (L.setIfInBounds i true) w → (DnL md ops (L.setIfInBounds i true) → S (L.setIfInBounds i true) w → wpAnyD P md ops Q S fuel (L.setIfInBounds i true) a w) → K' a w) → if Region.wanted o (yielded ops a.tmps) = true then Oper.wp P o a w K' Q else K' (a.put o.dst undef) w) :
    wpAnyD P md ops Q S (fuel + 1) L a w := by
  refine ⟨fun h0 => (by rw [hr] at h0; cases h0), fun j hj => ?_⟩
  have hjm := hj
  rw [hr, List.mem_singleton] at hj
  subst hj
  exact wpOp_step ho (fun K' hK => h K' (fun a w hS hW => hK a w ⟨hS, hW (hD.next hjm) hS⟩))
/-- two may come up -/
theorem wpAnyD_two {i j : Nat} {o o' : Oper} {fuel : Nat} {L : Array Bool} {a : Act} {w : World} (hr : Region.ready md ops L = [i, j]) (ho : ops[i]? = some o) (ho' : ops[j]? = some o') (hD : DnL md ops L)
    (h : ∀ K' : Act → World → Prop, Shut (∀ a w, S (L.setIfInBounds i true) w → (DnL md ops (L.setIfInBounds i true) → S (L.setIfInBounds i true) w → wpAnyD P md ops Q S fuel (L.setIfInBounds i true) a w) → K' a w) → if Region.wanted o (yielded ops a.tmps) = true then Oper.wp P o a w K' Q else K' (a.put o.dst undef) w)
    (h' : ∀ K' : Act → World → Prop, Shut (∀ a w, S (L.setIfInBounds j true) w → (DnL md ops (L.setIfInBounds j true) → S (L.setIfInBounds j true) w → wpAnyD P md ops Q S fuel (L.setIfInBounds j true) a w) → K' a w) → if Region.wanted o' (yielded ops a.tmps) = true then Oper.wp P o' a w K' Q else K' (a.put o'.dst undef) w) :
    wpAnyD P md ops Q S (fuel + 1) L a w := by
  refine ⟨fun h0 => (by rw [hr] at h0; cases h0), fun k hk => ?_⟩
  have hkm := hk
  rw [hr, List.mem_cons, List.mem_singleton] at hk
  rcases hk with rfl | rfl
  · exact wpOp_step ho (fun K' hK => h K' (fun a w hS hW => hK a w ⟨hS, hW (hD.next hkm) hS⟩))
  · exact wpOp_step ho' (fun K' hK => h' K' (fun a w hS hW => hK a w ⟨hS, hW (hD.next hkm) hS⟩))
theorem wpAnyD_done {L : Array Bool} {a : Act} {w : World} (hr : Region.ready md ops L = []) (h : Q .normal a w) : ∀ fuel, wpAnyD P md ops Q S fuel L a w
  | 0 => ⟨hr, h⟩
  | _ + 1 => ⟨fun _ => h, by rw [hr]; simp⟩
/-- the beginning -/
theorem wp_region_D {id : Nat} {a : Act} {w : World} (hm : P.follows .mixedOrders = true) (hS : S (Array.replicate ops.size false) w.drew)
    (h : DnL .any ops (Array.replicate ops.size false) → S (Array.replicate ops.size false) w.drew → wpAnyD P .any ops Q S ops.size (Array.replicate ops.size false) a w.drew) : (Code.region id ops true).wp P Q a w :=
  wp_region_any hm (wpAny_of_D _ _ _ _ (h DnL.start hS))
end
end Go.Proofs.YtlippmghgagdaaaGreat

/- What Scan knows between its two appends. -/
namespace Go.Proofs.YtlippmghgagdaaaGreat
open Go.RowKit

theorem rc_is' {w : World} {K : Nat → Prop} {v : Value} {r : Rc} (hv : IsB w K v r.data) (h : OkRc r) : Rp.rc.is w K [.int .i64 r.kind, .int .i64 r.lba, .int .i64 r.n, .int .i64 r.ver, .int .i64 r.zone, .int .i64 r.off, v] r :=
  ⟨v, rfl, hv, h _ (by simp [recN]), h _ (by simp [recN]), h _ (by simp [recN]), h _ (by simp [recN]), h _ (by simp [recN]), h _ (by simp [recN])⟩
abbrev rcC (r : Rc) (vd : Value) : Array Value := #[.int .i64 r.kind, .int .i64 r.lba, .int .i64 r.n, .int .i64 r.ver, .int .i64 r.zone, .int .i64 r.off, vd]
structure Mid (w W : World) (b3 g gr : Nat) (cf : Array Value) (r : Rc) (vd vl : Value) (ll : List Rc) (va : Value) (la : List Int) : Prop where
  recs : OwnR Rp.rc W (b3 + 1) 57 (fun k => b3 < k ∧ some k ≠ va.ownBlock) vl ll
  ats : W.ownsRow (b3 + 1) 3 1 va la.length (la.map I64)
  blk : Blk W w.heap.size 51 cf
  frm : Blk W b3 132 #[.pointer (some ⟨g, 0, none⟩)]
  tab : TabOk W g
  rb : Blk W gr 57 (rcC r vd)
  rl : ∀ k, vl.ownBlock = some k → k ≠ gr
  dat : IsB W (fun k => b3 < k) vd r.data
  below : Below w.heap.size w W

section
variable {w W : World} {b3 g gr : Nat} {cf : Array Value} {r : Rc} {vd vl va : Value} {ll : List Rc} {la : List Int}
theorem Mid.step {W' : World} (h : Mid w W b3 g gr cf r vd vl ll va la) (hb : Below W.heap.size W W') : Mid w W' b3 g gr cf r vd vl ll va la :=
  ⟨h.recs.step hb, own_below h.ats hb (Nat.le_refl _), h.blk.step hb, h.frm.step hb, h.tab.step hb, h.rb.step hb, h.rl, h.dat.step hb, h.below.trans (hb.mono h.below.size)⟩
theorem Mid.pushR {A : Option Addr} {c : Nat} (h : Mid w W b3 g gr cf r vd (.slice A ll.length c) ll va la) (hok : OkRc r) (hg : g ≤ b3) (hw : w.heap.size ≤ b3) (hd : IsB W (fun k => (b3 < k ∧ some k ≠ va.ownBlock) ∧ some k ≠ (Value.slice A ll.length c).ownBlock) vd r.data) :
    ∃ cs, W.ownsRow (b3 + 1) 57 7 (.slice A ll.length c) ll.length cs ∧ ∀ A' c' W', W'.ownsRow (b3 + 1) 57 7 (.slice A' (ll.length + 1) c') (ll.length + 1) (cs ++ (rcC r vd).toList) → Grew (b3 + 1) W W' (.slice A ll.length c) (.slice A' (ll.length + 1) c') →
      OwnR Rp.rc W' (b3 + 1) 57 (fun k => b3 < k ∧ some k ≠ va.ownBlock) (.slice A' (ll.length + 1) c') (ll ++ [r]) ∧ W'.ownsRow (b3 + 1) 3 1 va la.length (la.map I64) ∧ Blk W' w.heap.size 51 cf ∧ Blk W' b3 132 #[.pointer (some ⟨g, 0, none⟩)] ∧ TabOk W' g ∧ Blk W' gr 57 (rcC r vd) ∧ Below w.heap.size w W' := by
  obtain ⟨_, cs, hown, hcl⟩ := h.recs.open_
  refine ⟨cs, hown, fun A' c' W' h4 hgr => ?_⟩
  have hrc : Rp.rc.is W (fun b => (b3 < b ∧ some b ≠ va.ownBlock) ∧ b < W.heap.size ∧ some b ≠ (Value.slice A ll.length c).ownBlock) (rcC r vd).toList r := rc_is' (hd.lt.more fun b hb => ⟨hb.1.1, hb.2, hb.1.2⟩) hok
  refine ⟨OwnR.push hcl hrc h4 hgr, own_grew h.ats hown (by decide) hgr, h.blk.grew hown (by decide) hgr, h.frm.grew hown (by decide) hgr, h.tab.turned (S := fun k => some k = (Value.slice A ll.length c).ownBlock) ⟨hgr.grown.os, hgr.grown.tape, hgr.grown.output, hgr.grown.size, fun k hk hn => hgr.grown.block k hk hn⟩ (fun e => by have := (hown.lt g e.symm).1; omega), h.rb.grown hgr.grown (fun e => h.rl gr e.symm rfl), h.below.trans (hgr.below.mono (by omega))⟩
theorem Mid.pushI {A : Option Addr} {c : Nat} (h1 : OwnR Rp.rc W (b3 + 1) 57 (fun k => b3 < k ∧ some k ≠ (Value.slice A la.length c).ownBlock) vl ll) (h2 : W.ownsRow (b3 + 1) 3 1 (.slice A la.length c) la.length (la.map I64)) (h3 : Blk W w.heap.size 51 cf) (h4 : Blk W b3 132 #[.pointer (some ⟨g, 0, none⟩)]) (h5 : TabOk W g) (h6 : Blk W gr 57 (rcC r vd)) (h7 : Below w.heap.size w W) (hg : g ≤ b3) (hw : w.heap.size ≤ b3)
    {A' : Option Addr} {c' : Nat} {W' : World} (hgr : Grew (b3 + 1) W W' (.slice A la.length c) (.slice A' (la.length + 1) c')) :
    OwnR Rp.rc W' (b3 + 1) 57 (fun k => b3 < k ∧ some k ≠ (Value.slice A' (la.length + 1) c').ownBlock) vl ll ∧ Blk W' w.heap.size 51 cf ∧ Blk W' b3 132 #[.pointer (some ⟨g, 0, none⟩)] ∧ TabOk W' g ∧ Blk W' gr 57 (rcC r vd) ∧ Below w.heap.size w W' :=
  ⟨(h1.more (X' := fun k => (b3 < k ∧ some k ≠ (Value.slice A' (la.length + 1) c').ownBlock) ∧ some k ≠ (Value.slice A la.length c).ownBlock) (fun b hb hl => ⟨⟨hb.1, by
    rcases hgr.at_ with e | ⟨g', e, hg'⟩
    · rw [e]; exact hb.2
    · rw [e]; intro e2; injection e2 with e2; omega⟩, hb.2⟩)).grew h2 (by decide) (fun b hb => hb.2) hgr |>.more (fun b hb _ => hb.1), h3.grew h2 (by decide) hgr, h4.grew h2 (by decide) hgr, h5.turned (S := fun k => some k = (Value.slice A la.length c).ownBlock) ⟨hgr.grown.os, hgr.grown.tape, hgr.grown.output, hgr.grown.size, fun k hk hn => hgr.grown.block k hk hn⟩ (fun e => by have := (h2.lt g e.symm).1; omega), h6.grew h2 (by decide) hgr, h7.trans (hgr.below.mono (by omega))⟩
end
end Go.Proofs.YtlippmghgagdaaaGreat
