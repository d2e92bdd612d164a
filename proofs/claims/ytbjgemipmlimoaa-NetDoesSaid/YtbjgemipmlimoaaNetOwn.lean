/- The walks of net.own, net.has, net.New. -/
import Derived.Test.YtbjgemipmlimoaaWireTakeMsg
import Derived.Deep.RegionWith
import Derived.Deep.DeepCutAuto
namespace Go.Proofs.Ytbjgemipmlimoaa
open Go.RowKit

theorem clone_ints (v : Value) (l : List Int) (K : Nat → Prop) (w : World) (hv : IsL Rp.int w K v l) (hl : l.length ≤ 17592186043904) :
    Calls Try.prog 81 #[v] w fun e w' => ∃ A' c', e = .returned (.slice A' l.length c') ∧ w'.ownsRow w.heap.size 3 1 (.slice A' l.length c') l.length (l.map I64) ∧ Below w.heap.size w w' := by
  obtain ⟨A, c, cs, rfl, hr, hcl, hlc, hcc, _⟩ := hv
  obtain ⟨rfl, _⟩ := ints_cells hcl
  exact clone64_any A l.length c K (l.map I64) w hr (by intro u hu; simp only [List.mem_map] at hu; obtain ⟨x, _, rfl⟩ := hu; rfl) (by omega)

/-- v is the message m, what it points to the call's own, beyond 'base' -/
theorem IsM.i63 {w : World} {K : Nat → Prop} {v : Value} {m : Ms} (h : IsM w K v m) : I63 m.args := by
  obtain ⟨A1, c1, A2, c2, rfl, h1, _⟩ := h
  obtain ⟨_, ⟨cs, _, hc⟩, _⟩ := h1.open_
  exact (ints_cells hc).2
theorem IsM.lens {w : World} {K : Nat → Prop} {v : Value} {m : Ms} (h : IsM w K v m) : m.args.length ≤ 140737488355328 ∧ m.data.length ≤ 140737488355328 := by
  obtain ⟨A1, c1, A2, c2, rfl, h1, h2, _⟩ := h
  exact ⟨h1.len, h2.len⟩

/-- the slice (A, n) may be written -/
def FreeB (w : World) (A : Option Addr) (n : Nat) : Prop := 0 < n → ∃ g, A = some ⟨g, 0, none⟩ ∧ g < w.heap.size ∧ ∀ o, w.frozen? ⟨g, o, none⟩ = false
section
variable {w w' : World} {A : Option Addr} {n c : Nat}
theorem FreeB.of_own {base : Nat} {e : TypeId} {size : Nat} {xs : List Value} (h : w.ownsRow base e size (.slice A n c) n xs) : FreeB w A n := by
  intro hn
  rcases h.2 with ⟨_, h3⟩ | ⟨g, cap, cur, hv, hg, hh, h3, h4, h5, h6⟩
  · omega
  · injection hv with e1 e2 e3
    exact ⟨g, e1, (Array.getElem?_eq_some_iff.1 hh).1, fun o => by simp [World.frozen?, hh]⟩
theorem FreeB.step (h : FreeB w A n) (hb : Below w.heap.size w w') : FreeB w' A n := fun hn => by
  obtain ⟨g, e, hg, hf⟩ := h hn
  exact ⟨g, e, Nat.lt_of_lt_of_le hg hb.size, fun o => (hb.frozen (p := ⟨g, o, none⟩) hg).trans (hf o)⟩
theorem FreeB.set (h : FreeB w A n) (p : Addr) (u : Value) : FreeB (w.setCell p u) A n := fun hn => by
  obtain ⟨g, e, hg, hf⟩ := h hn
  exact ⟨g, e, by simpa [World.setCell] using hg, fun o => (World.frozen?_setCell _ _ _ _).trans (hf o)⟩
theorem FreeB.zero : FreeB w A 0 := fun h => absurd h (by omega)
/-- the bytes of a message may be written -/
def FreeM (w : World) (v : Value) (m : Ms) : Prop := ∃ A1 c1 A2 c2, v = mv m A1 c1 A2 c2 ∧ FreeB w A2 m.data.length
theorem FreeM.step {v : Value} {m : Ms} (h : FreeM w v m) (hb : Below w.heap.size w w') : FreeM w' v m := by
  obtain ⟨A1, c1, A2, c2, e, hf⟩ := h; exact ⟨A1, c1, A2, c2, e, hf.step hb⟩
theorem FreeM.set {v : Value} {m : Ms} (h : FreeM w v m) (p : Addr) (u : Value) : FreeM (w.setCell p u) v m := by
  obtain ⟨A1, c1, A2, c2, e, hf⟩ := h; exact ⟨A1, c1, A2, c2, e, hf.set p u⟩
theorem Stable.freeM {v : Value} {m : Ms} : Stable (fun w => FreeM w v m) := fun _ _ h hb => h.step hb
end

set_option maxRecDepth 100000 in
set_option maxHeartbeats 4000000 in
theorem own_free (v : Value) (m : Ms) (K : Nat → Prop) (w : World) (hv : IsM w K v m) (hl : m.args.length ≤ 17592186043904) :
    Calls Try.prog 56 #[v] w fun e w' => ∃ v', e = .returned v' ∧ IsM w' (fun b => w.heap.size ≤ b) v' m ∧ FreeM w' v' m ∧ Below w.heap.size w w' := by
  have ha63 := hv.i63
  have hlens := hv.lens
  obtain ⟨A1, c1, A2, c2, rfl, h1, h2, h63⟩ := hv
  have H63 := Lib.hid h63; clear h63
  have HA63 := Lib.hid ha63; clear ha63
  obtain ⟨hla, hld⟩ := hlens
  unfold mv
  have E := ((((Kn.start w).give Stable.list h1).give Stable.bytes h2).push 45 #[.int .i64 m.kind, .int .i64 m.frm, .int .i64 m.to, .int .i64 m.id, .slice A1 m.args.length c1, .slice A2 m.data.length c2]).push 45 #[.int .i64 0, .int .i64 0, .int .i64 0, .int .i64 0, .slice none 0 0, .slice none 0 0]
  rw [World.size_alloc] at E
  clear h1 h2
  go_enter Try.func56, Try.ntmps56
  go_upto_region 1 with fail
  generalize (w.alloc (.cells #[.int .i64 m.kind, .int .i64 m.frm, .int .i64 m.to, .int .i64 m.id, .slice A1 m.args.length c1, .slice A2 m.data.length c2] 45)).alloc (.cells #[.int .i64 0, .int .i64 0, .int .i64 0, .int .i64 0, .slice none 0 0, .slice none 0 0] 45) = w2 at E ⊢
  have hq : ∀ W, Below w2.heap.size w2 W → (∀ o, W.cell? ⟨w.heap.size, o, none⟩ = (#[.int .i64 m.kind, .int .i64 m.frm, .int .i64 m.to, .int .i64 m.id, .slice A1 m.args.length c1, .slice A2 m.data.length c2] : Array Value)[o]?) ∧ (∀ o, W.frozen? ⟨w.heap.size, o, none⟩ = false) ∧ IsL Rp.int W K (.slice A1 m.args.length c1) m.args ∧ IsB W K (.slice A2 m.data.length c2) m.data :=
    fun W h => ⟨((E.step h).rules m1).1, ((E.step h).rules m1).2.1, (E.step h).get m1, (E.step h).get m0⟩
  have HQ := Lib.hid hq; clear hq
  obtain ⟨q1, f1, t1⟩ := E.rules m1
  obtain ⟨qd, fd, _, _⟩ := HQ.out w2.drew (Below.refl _ _).drew
  go_cut [5, 8] (fun _ _ wy => ∃ A3 c3 A4 c4, Below w.heap.size w wy ∧ Blk wy w.heap.size 45 #[.int .i64 m.kind, .int .i64 m.frm, .int .i64 m.to, .int .i64 m.id, .slice A3 m.args.length c3, .slice A4 m.data.length c4] ∧
    Blk wy (w.heap.size + 1) 45 #[.int .i64 0, .int .i64 0, .int .i64 0, .int .i64 0, .slice none 0 0, .slice none 0 0] ∧ wy.ownsRow w2.heap.size 3 1 (.slice A3 m.args.length c3) m.args.length (m.args.map I64) ∧ wy.ownsRow w2.heap.size 5 1 (.slice A4 m.data.length c4) m.data.length (cells8 m.data))
  case first =>
    go_region_with (first
      | (go_at_call 81
         refine (clone_ints _ m.args K _ (HQ.out _ (by first | exact (Below.refl _ _).drew | exact hbN)).2.2.1 hl).mono ?_
         rintro e wN ⟨A3, c3, rfl, own3, hb3⟩
         have hbN : Below w2.heap.size w2 wN := (Below.refl _ _).drew.trans hb3
         obtain ⟨qN, fN, _, _⟩ := HQ.out wN hbN
         have tN := hbN.size)
      | (go_at_call 82
         refine (cloneB_any _ m.data K _ (HQ.out _ hbN).2.2.2).mono ?_
         rintro e wP ⟨A4, c4, rfl, own4, hb4⟩
         have hbP : Below w2.heap.size w2 wP := hbN.trans (hb4.mono hbN.size)
         obtain ⟨qP, fP, _, _⟩ := HQ.out wP hbP
         have tP := hbP.size))
    all_goals
      go_wp2_with fail
      go_meet
      have EP := E.step hbP
      have B1 := EP.at_ m1
      have hg1 : w.heap.size < wP.heap.size := B1.lt
      exact ⟨A3, c3, A4, c4, (EP.below.setCell (Nat.le_refl _) _).setCell (Nat.le_refl _) _, (B1.set_ 4 _).set_ 5 _, ((EP.at_ m0).far (Nat.succ_ne_self _) _).far (Nat.succ_ne_self _) _,
        own_setBlk (own_setBlk (own_base (own_below own3 hb4 (Nat.le_refl _)) (Nat.le_refl _)) B1 (by decide) _ _) (B1.set_ 4 _) (by decide) _ _, own_setBlk (own_setBlk (own_base own4 hbN.size) B1 (by decide) _ _) (B1.set_ 4 _) (by decide) _ _⟩
  case rest =>
    obtain ⟨A3, c3, A4, c4, hW, B1, B2, own3, own4⟩ := hcut
    clear q1 f1 t1 qd fd
    obtain ⟨q1, f1⟩ := B1.rules
    obtain ⟨q2, f2⟩ := B2.rules
    have t1 := B1.lt
    have t2 := B2.lt
    go_wp2
    have hb2 := E.base
    have F := (B2.set6 (x1 := .int .i64 m.kind) (x2 := .int .i64 m.frm) (x3 := .int .i64 m.to) (x4 := .int .i64 m.id) (x5 := .slice A3 m.args.length c3) (x6 := .slice A4 m.data.length c4)).rules
    have hgf := grow_set6 (World.grownBy.refl wc (some (w.heap.size + 1))) (x1 := .int .i64 m.kind) (x2 := .int .i64 m.frm) (x3 := .int .i64 m.to) (x4 := .int .i64 m.id) (x5 := .slice A3 m.args.length c3) (x6 := .slice A4 m.data.length c4)
    have hs2 : w.heap.size + 1 < w2.heap.size := (E.at_ m0).lt
    refine bodyPost_ret (v := .agg #[.int .i64 m.kind, .int .i64 m.frm, .int .i64 m.to, .int .i64 m.id, .slice A3 m.args.length c3, .slice A4 m.data.length c4]) (by simp [results, Try.results56, go_sem, F.1]) rfl ⟨_, rfl, ⟨A3, c3, A4, c4, rfl, ?_, ?_, H63.out⟩, ⟨A3, c3, A4, c4, rfl, ((((((FreeB.of_own own4).set _ _).set _ _).set _ _).set _ _).set _ _).set _ _⟩, ?_⟩
    · exact ((IsL.of_ints own3 HA63.out (by omega)).grown hgf (fun b hb => by simp; omega)).more (fun b hb => by omega)
    · exact ((IsB.of_own own4 hld).grown hgf (fun b hb => by simp; omega)).more (fun b hb => by omega)
    · exact hW.trans (below_grow hgf (by omega) hW.size)

theorem own_any (v : Value) (m : Ms) (K : Nat → Prop) (w : World) (hv : IsM w K v m) (hl : m.args.length ≤ 17592186043904) :
    Calls Try.prog 56 #[v] w fun e w' => ∃ v', e = .returned v' ∧ IsM w' (fun b => w.heap.size ≤ b) v' m ∧ Below w.heap.size w w' :=
  (own_free v m K w hv hl).mono fun _ _ ⟨v', h1, h2, _, h3⟩ => ⟨v', h1, h2, h3⟩

/-- a net -/
structure Nt where
  cap : Int
  q : List Ms
def IsN (w : World) (K : Nat → Prop) (v : Value) (n : Nt) : Prop := ∃ A c, v = .agg #[.int .i64 n.cap, .slice A n.q.length c] ∧ IsL Rp.msg w K (.slice A n.q.length c) n.q
theorem IsN.step {w w' : World} {K : Nat → Prop} {v : Value} {n : Nt} (h : IsN w K v n) (hb : Below w.heap.size w w') : IsN w' K v n := by
  obtain ⟨A, c, e, h1⟩ := h; exact ⟨A, c, e, h1.step hb⟩
theorem IsN.more {w : World} {K K' : Nat → Prop} {v : Value} {n : Nt} (h : IsN w K v n) (hk : ∀ b, K b → K' b) : IsN w K' v n := by
  obtain ⟨A, c, e, h1⟩ := h; exact ⟨A, c, e, h1.more hk⟩
theorem Stable.net {K : Nat → Prop} {v : Value} {n : Nt} : Stable (fun w => IsN w K v n) := fun _ _ h hb => h.step hb

/-- a message's six cells -/
def cellsM (m : Ms) (A1 : Option Addr) (c1 : Nat) (A2 : Option Addr) (c2 : Nat) : List Value := [.int .i64 m.kind, .int .i64 m.frm, .int .i64 m.to, .int .i64 m.id, .slice A1 m.args.length c1, .slice A2 m.data.length c2]
theorem rp_isM {w : World} {K : Nat → Prop} {cs : List Value} {m : Ms} (h : Rp.msg.is w K cs m) : ∃ A1 c1 A2 c2, cs = cellsM m A1 c1 A2 c2 ∧ IsM w K (mv m A1 c1 A2 c2) m := by
  obtain ⟨va, vd, rfl, h1, h2, h3, h4, h5, h6⟩ := h
  obtain ⟨A1, c1, rfl, _⟩ := h1.form
  have h20 := h2
  obtain ⟨A2, c2, rfl, _⟩ := h2
  refine ⟨A1, c1, A2, c2, rfl, A1, c1, A2, c2, rfl, h1, h20, ?_⟩
  intro n hn
  simp only [List.mem_cons, List.not_mem_nil, or_false] at hn
  rcases hn with rfl | rfl | rfl | rfl
  · exact h3
  · exact h4
  · exact h5
  · exact h6
theorem isM_rp {w : World} {K : Nat → Prop} {v : Value} {m : Ms} (h : IsM w K v m) : ∃ A1 c1 A2 c2, v = mv m A1 c1 A2 c2 ∧ Rp.msg.is w K (cellsM m A1 c1 A2 c2) m := by
  obtain ⟨A1, c1, A2, c2, rfl, h1, h2, h3⟩ := h
  exact ⟨A1, c1, A2, c2, rfl, _, _, rfl, h1, h2, h3 _ (by simp), h3 _ (by simp), h3 _ (by simp), h3 _ (by simp)⟩

def newN (most : Int) : Int × Int := if 1 ≤ most ∧ most ≤ 4096 then (most, 0) else (0, 1)
set_option maxRecDepth 100000 in
set_option maxHeartbeats 400000 in
theorem netNew_any (most : Int) (w : World) :
    Calls Try.prog 23 #[.int .i64 most] w fun e w' => e = .returned (.tuple #[.agg #[.int .i64 (newN most).1, .slice none 0 0], .int .i64 (newN most).2]) ∧ Below w.heap.size w w' := by
  by_cases h : 1 ≤ most ∧ most ≤ 4096
  · have hx : newN most = (most, 0) := if_pos h
    rw [hx]
    obtain ⟨h1, h2⟩ := h
    clear hx
    go_enter Try.func23, Try.ntmps23
    go_wp2
    exact bodyPost_ret (v := .tuple #[.agg #[.int .i64 most, .slice none 0 0], .int .i64 0]) (by simp [results, Try.results23, go_sem]) rfl ⟨rfl, (Below.refl _ _).alloc (Nat.le_refl _) _⟩
  · have hx : newN most = (0, 1) := if_neg h
    rw [hx]
    have h' : most < 1 ∨ ¬ most < 1 ∧ 4096 < most := by omega
    clear h hx
    rcases h' with h1 | ⟨h1, h2⟩
    all_goals
      go_enter Try.func23, Try.ntmps23
      go_wp2
      exact bodyPost_ret (v := .tuple #[.agg #[.int .i64 0, .slice none 0 0], .int .i64 1]) (by simp [results, Try.results23, go_sem]) rfl ⟨rfl, (Below.refl _ _).alloc (Nat.le_refl _) _⟩

set_option maxRecDepth 100000 in
set_option maxHeartbeats 400000 in
theorem has_any (v : Value) (n : Nt) (i : Int) (K : Nat → Prop) (w : World) (hv : IsN w K v n) :
    Calls Try.prog 60 #[v, .int .i64 i] w fun e w' => e = .returned (.bool (decide (0 ≤ i ∧ i < (n.q.length : Int)))) ∧ Below w.heap.size w w' := by
  obtain ⟨A, c, rfl, _⟩ := hv
  by_cases h : 0 ≤ i ∧ i < (n.q.length : Int)
  · have HX := Lib.hid (decide_eq_true h)
    obtain ⟨h1, h2⟩ := h
    obtain ⟨res, hres⟩ : ∃ res, res = decide (0 ≤ i ∧ i < (n.q.length : Int)) := ⟨_, rfl⟩
    rw [← hres]
    rw [HX.out] at hres
    have HR := Lib.hid hres; clear hres
    go_enter Try.func60, Try.ntmps60
    go_wp2
    go_ret
    rw [HR.out]
    exact ⟨rfl, (Below.refl _ _).alloc (Nat.le_refl _) _⟩
  · have HX := Lib.hid (decide_eq_false h)
    have h' : ¬ 0 ≤ i ∨ 0 ≤ i ∧ ¬ i < (n.q.length : Int) := by omega
    obtain ⟨res, hres⟩ : ∃ res, res = decide (0 ≤ i ∧ i < (n.q.length : Int)) := ⟨_, rfl⟩
    rw [← hres]
    rw [HX.out] at hres
    have HR := Lib.hid hres; clear hres h
    rcases h' with h1 | ⟨h1, h2⟩
    all_goals
      go_enter Try.func60, Try.ntmps60
      go_wp2
      go_ret
      rw [HR.out]
      exact ⟨rfl, (Below.refl _ _).alloc (Nat.le_refl _) _⟩
end Go.Proofs.Ytbjgemipmlimoaa
