/- The walk of net.Take. -/
import Derived.Test.YtbjgemipmlimoaaNetWith
import Derived.Test.YtbjgemipmlimoaaRep
namespace Go.Proofs.Ytbjgemipmlimoaa
open Go.RowKit

theorem IsL.pre {α : Type} {R : Rp α} {w : World} {K : Nat → Prop} {A : Option Addr} {n c : Nat} {l : List α} (h : IsL R w K (.slice A n c) l) {k : Nat} (hk : k ≤ n) : IsL R w K (.slice A k c) (l.take k) := by
  obtain ⟨rfl, ⟨cs, h1, h2⟩, h3, h4, h5⟩ := h.open_
  have e : (l.take k).length = k := by rw [List.length_take]; omega
  refine ⟨A, c, cs.take (k * R.size), by rw [e], by rw [e]; exact h1.pre hk, h2.take k, by omega, h4, by omega⟩
theorem IsL.cut {α : Type} {R : Rp α} {w : World} {K : Nat → Prop} {ad : Addr} {n c : Nat} {l : List α} (h : IsL R w K (.slice (some ad) n c) l) {k : Nat} (hk : k ≤ n) : IsL R w K (.slice (if c = k then some ad else some (ad.add (k * R.size))) (n - k) (c - k)) (l.drop k) := by
  obtain ⟨rfl, ⟨cs, h1, h2⟩, h3, h4, h5⟩ := h.open_
  have e : (l.drop k).length = l.length - k := by rw [List.length_drop]
  refine ⟨_, c - k, cs.drop (k * R.size), by rw [e], by rw [e]; exact h1.cut hk h3, h2.drop k, by omega, by omega, by omega⟩
/-- a block ahead of the row is written, that is not let -/
theorem OwnR.farb {α : Type} {R : Rp α} {w : World} {base : Nat} {e : TypeId} {X : Nat → Prop} {v : Value} {l : List α} (h : OwnR R w base e X v l) {g : Nat} (hlt : g < base) (hX : ¬ X g) (i : Nat) (u : Value) : OwnR R (w.setCell ⟨g, i, none⟩ u) base e X v l := by
  obtain ⟨A, c, cs, rfl, h1, h2⟩ := h
  refine ⟨A, c, cs, rfl, ?_, ?_⟩
  · refine ⟨h1.1, ?_⟩
    rcases h1.2 with h3 | ⟨g', cap, cur, hv, hg, hh, r⟩
    · exact .inl h3
    · have hgg : g' ≠ g := by omega
      exact .inr ⟨g', cap, cur, hv, hg, by rw [Below.heap_setCell _ _ _ _ (by simpa using hgg)]; exact hh, r⟩
  · refine (h2.keep (w' := w.setCell ⟨g, i, none⟩ u) fun p hp _ => World.cell?_setCell_other _ _ _ _ (fun e => ?_)).more fun b hb => ⟨hb.1, by simpa [World.setCell] using hb.2.1, hb.2.2⟩
    exact hX (by rw [show g = p.block from congrArg Addr.block e]; exact hp.1)
theorem IsM.far {w : World} {K : Nat → Prop} {A1 A2 : Option Addr} {c1 c2 : Nat} {m : Ms} (h : IsM w K (mv m A1 c1 A2 c2) m) {g : Nat} (hX : ¬ K g) (i : Nat) (u : Value) : IsM (w.setCell ⟨g, i, none⟩ u) K (mv m A1 c1 A2 c2) m := by
  have hk : ∀ p : Addr, K p.block → p.block < w.heap.size → (w.setCell ⟨g, i, none⟩ u).cell? p = w.cell? p := fun p hp _ => World.cell?_setCell_other _ _ _ _ (fun e => hX (by rw [show g = p.block from congrArg Addr.block e]; exact hp))
  obtain ⟨B1, d1, B2, d2, e, h1, h2, h3⟩ := h
  exact ⟨B1, d1, B2, d2, e, h1.keep hk, h2.keep hk, h3⟩
theorem ArgsLe.cut {l : List Ms} (h : ArgsLe l) (k : Nat) : ArgsLe (l.take k ++ l.drop (k + 1)) := by
  intro m hm
  rcases List.mem_append.1 hm with hm | hm
  · exact h m (List.mem_of_mem_take hm)
  · exact h m (List.mem_of_mem_drop hm)
theorem concatM_two (g n1 n2 c c2 : Nat) (A A2 : Option Addr) (l l2 : List Ms) (K : Nat → Prop) (w : World) (hs : Reads w (fun _ => True) 1 (some ⟨g, 0, none⟩) 2 [.slice A n1 c, .slice A2 n2 c2])
    (h1 : IsL Rp.msg w K (.slice A n1 c) l) (h2 : IsL Rp.msg w K (.slice A2 n2 c2) l2) (hsum : l.length + l2.length ≤ 1000000000000) :
    Calls Try.prog 61 #[.slice (some ⟨g, 0, none⟩) 2 2] w fun e w' => ∃ A' c', e = .returned (.slice A' (l ++ l2).length c') ∧ IsL Rp.msg w' (fun _ => True) (.slice A' (l ++ l2).length c') (l ++ l2) ∧ Below w.heap.size w w' := by
  obtain ⟨rfl, ⟨cs, r1, d1⟩, _, _, _⟩ := h1.open_
  obtain ⟨rfl, ⟨cs2, r2, d2⟩, _, _, _⟩ := h2.open_
  have hlen : (l ++ l2).length = l.length + l2.length := by simp
  refine (concatM_any (some ⟨g, 0, none⟩) 2 2 (fun _ => True) K [⟨A, l.length, c, cs⟩, ⟨A2, l2.length, c2, cs2⟩] w rfl hs ?_ (by simp [sumN]; omega) (by omega)).mono ?_
  · intro p hp
    simp at hp
    rcases hp with rfl | rfl
    · exact ⟨r1, d1.one⟩
    · exact ⟨r2, d2.one⟩
  · rintro e w' ⟨A', c', rfl, own, hb⟩
    have e1 : sumN [⟨A, l.length, c, cs⟩, ⟨A2, l2.length, c2, cs2⟩] = (l ++ l2).length := by simp [sumN]
    have e2 : [(⟨A, l.length, c, cs⟩ : Part), ⟨A2, l2.length, c2, cs2⟩].flatMap Part.xs = cs ++ cs2 := by simp
    rw [e1, e2] at own
    exact ⟨A', c', by rw [e1], ⟨A', c', cs ++ cs2, rfl, (Reads.of_own own).more (fun _ _ => trivial), ((d1.step hb).append (d2.step hb)).more (fun _ _ => trivial), own_cap own, own_cap63 own, by omega⟩, hb⟩

set_option maxRecDepth 100000 in
set_option maxHeartbeats 8000000 in
theorem takeN_free (v : Value) (n : Nt) (k : Nat) (m : Ms) (K : Nat → Prop) (w : World) (hv : IsN w K v n) (hm : n.q[k]? = some m) (hnl : ArgsLe n.q) (hn8 : n.q.length ≤ 200000000000) :
    Calls Try.prog 27 #[v, .int .i64 k] w fun e w' => ∃ A' c' vm g, e = .returned (.tuple #[.agg #[.int .i64 n.cap, .slice A' (n.q.take k ++ n.q.drop (k + 1)).length c'], vm, .int .i64 0]) ∧
      OwnR Rp.msg w' w.heap.size 45 (fun b => w.heap.size ≤ b) (.slice A' (n.q.take k ++ n.q.drop (k + 1)).length c') (n.q.take k ++ n.q.drop (k + 1)) ∧
      IsL Rp.msg w' (fun b => w.heap.size ≤ b ∧ b < g) (.slice A' (n.q.take k ++ n.q.drop (k + 1)).length c') (n.q.take k ++ n.q.drop (k + 1)) ∧
      IsM w' (fun b => w.heap.size ≤ b ∧ g ≤ b ∧ some b ≠ (Value.slice A' (n.q.take k ++ n.q.drop (k + 1)).length c').ownBlock) vm m ∧ FreeM w' vm m ∧ Below w.heap.size w w' := by
  obtain ⟨q', hq'⟩ : ∃ q', n.q.take k ++ n.q.drop (k + 1) = q' := ⟨_, rfl⟩
  rw [hq']
  have HQ' := Lib.hid hq'; clear hq'
  obtain ⟨A, c, rfl, hnq⟩ := hv
  have hk := (List.getElem?_eq_some_iff.1 hm).1
  have hadb : ∀ ad, A = some ad → ad.block < w.heap.size := by
    intro ad e
    obtain ⟨ad', es, rfl, _, hes, hcell⟩ := hnq.at_ hm
    injection e with e
    subst e
    obtain ⟨_, _, _, _, rfl, _⟩ := rp_isM hes
    have := World.block_lt_of_cell? w _ (hcell 0 _ rfl)
    rwa [block_of_add, block_of_add] at this
  have E := ((((Kn.start w).give Stable.list hnq).push 38 #[.int .i64 n.cap, .slice A n.q.length c]).push 38 #[.int .i64 0, .slice none 0 0]).push 45 #[.int .i64 0, .int .i64 0, .int .i64 0, .int .i64 0, .slice none 0 0, .slice none 0 0]
  clear hnq
  have hdec : decide (0 ≤ (k : Int) ∧ (k : Int) < (n.q.length : Int)) = true := decide_eq_true ⟨by omega, by omega⟩
  have HD := Lib.hid hdec; clear hdec
  go_enter Try.func27, Try.ntmps27
  go_wp2_with fail
  refine (has_any _ n k K _ ⟨_, _, rfl, E.get m0⟩).mono ?_
  rw [HD.out]
  rintro e w1 ⟨rfl, hb1⟩
  replace E := E.step hb1
  clear hb1
  rw [World.size_alloc, World.size_alloc] at E
  obtain ⟨_, ⟨cs, hrd, hcl⟩, hlc, hcc, _⟩ := (E.get m0).open_
  obtain ⟨ad, es, rfl, _, hes, hcell⟩ := (E.get m0).at_ hm
  obtain ⟨A1, c1, A2, c2, rfl, him⟩ := rp_isM hes
  replace hadb := hadb ad rfl
  have hml := hnl m (List.mem_of_getElem? hm)
  clear hes
  unfold cellsM at hcell
  replace hcell : ∀ (j : Nat) (u : Value), [Value.int .i64 m.kind, .int .i64 m.frm, .int .i64 m.to, .int .i64 m.id, .slice A1 m.args.length c1, .slice A2 m.data.length c2][j]? = some u → w1.cell? ((ad.add (k * 6)).add j) = some u := hcell
  have hc0 : w1.cell? (ad.add (k * 6)) = some (.int .i64 m.kind) := by rw [← addr0 (ad.add (k * 6))]; exact hcell 0 _ rfl
  have hc1 : w1.cell? ⟨(ad.add (k * 6)).block, (ad.add (k * 6)).off + 1, none⟩ = some (.int .i64 m.frm) := by rw [← addrS _ 1 (by decide)]; exact hcell 1 _ rfl
  have hc2 : w1.cell? ⟨(ad.add (k * 6)).block, (ad.add (k * 6)).off + 2, none⟩ = some (.int .i64 m.to) := by rw [← addrS _ 2 (by decide)]; exact hcell 2 _ rfl
  have hc3 : w1.cell? ⟨(ad.add (k * 6)).block, (ad.add (k * 6)).off + 3, none⟩ = some (.int .i64 m.id) := by rw [← addrS _ 3 (by decide)]; exact hcell 3 _ rfl
  have hc4 : w1.cell? ⟨(ad.add (k * 6)).block, (ad.add (k * 6)).off + 4, none⟩ = some (.slice A1 m.args.length c1) := by rw [← addrS _ 4 (by decide)]; exact hcell 4 _ rfl
  have hc5 : w1.cell? ⟨(ad.add (k * 6)).block, (ad.add (k * 6)).off + 5, none⟩ = some (.slice A2 m.data.length c2) := by rw [← addrS _ 5 (by decide)]; exact hcell 5 _ rfl
  clear hcell
  obtain ⟨q2, f2, t2⟩ := E.rules m2
  have hqq : ∀ W, Below w1.heap.size w1 W → (∀ o, W.cell? ⟨w.heap.size, o, none⟩ = (#[.int .i64 n.cap, .slice (some ad) n.q.length c] : Array Value)[o]?) ∧
      W.cell? (ad.add (k * 6)) = some (.int .i64 m.kind) ∧ W.cell? ⟨(ad.add (k * 6)).block, (ad.add (k * 6)).off + 1, none⟩ = some (.int .i64 m.frm) ∧ W.cell? ⟨(ad.add (k * 6)).block, (ad.add (k * 6)).off + 2, none⟩ = some (.int .i64 m.to) ∧ W.cell? ⟨(ad.add (k * 6)).block, (ad.add (k * 6)).off + 3, none⟩ = some (.int .i64 m.id) ∧ W.cell? ⟨(ad.add (k * 6)).block, (ad.add (k * 6)).off + 4, none⟩ = some (.slice A1 m.args.length c1) ∧ W.cell? ⟨(ad.add (k * 6)).block, (ad.add (k * 6)).off + 5, none⟩ = some (.slice A2 m.data.length c2) :=
    fun W h => ⟨((E.step h).rules m2).1, (h.cell (World.block_lt_of_cell? w1 _ hc0)).trans hc0, (h.cell (World.block_lt_of_cell? w1 _ hc1)).trans hc1, (h.cell (World.block_lt_of_cell? w1 _ hc2)).trans hc2, (h.cell (World.block_lt_of_cell? w1 _ hc3)).trans hc3, (h.cell (World.block_lt_of_cell? w1 _ hc4)).trans hc4, (h.cell (World.block_lt_of_cell? w1 _ hc5)).trans hc5⟩
  have HQ := Lib.hid hqq; clear hqq
  have hss : ∀ W : World, ((∀ o, W.cell? ⟨w.heap.size, o, none⟩ = (#[.int .i64 n.cap, .slice (some ad) n.q.length c] : Array Value)[o]?) ∧
      W.cell? (ad.add (k * 6)) = some (.int .i64 m.kind) ∧ W.cell? ⟨(ad.add (k * 6)).block, (ad.add (k * 6)).off + 1, none⟩ = some (.int .i64 m.frm) ∧ W.cell? ⟨(ad.add (k * 6)).block, (ad.add (k * 6)).off + 2, none⟩ = some (.int .i64 m.to) ∧ W.cell? ⟨(ad.add (k * 6)).block, (ad.add (k * 6)).off + 3, none⟩ = some (.int .i64 m.id) ∧ W.cell? ⟨(ad.add (k * 6)).block, (ad.add (k * 6)).off + 4, none⟩ = some (.slice A1 m.args.length c1) ∧ W.cell? ⟨(ad.add (k * 6)).block, (ad.add (k * 6)).off + 5, none⟩ = some (.slice A2 m.data.length c2)) → ∀ (x i : Nat) (u : Value), (∀ o, (W.setCell ⟨w.heap.size + x + 1, i, none⟩ u).cell? ⟨w.heap.size, o, none⟩ = (#[.int .i64 n.cap, .slice (some ad) n.q.length c] : Array Value)[o]?) ∧
      (W.setCell ⟨w.heap.size + x + 1, i, none⟩ u).cell? (ad.add (k * 6)) = some (.int .i64 m.kind) ∧ (W.setCell ⟨w.heap.size + x + 1, i, none⟩ u).cell? ⟨(ad.add (k * 6)).block, (ad.add (k * 6)).off + 1, none⟩ = some (.int .i64 m.frm) ∧ (W.setCell ⟨w.heap.size + x + 1, i, none⟩ u).cell? ⟨(ad.add (k * 6)).block, (ad.add (k * 6)).off + 2, none⟩ = some (.int .i64 m.to) ∧ (W.setCell ⟨w.heap.size + x + 1, i, none⟩ u).cell? ⟨(ad.add (k * 6)).block, (ad.add (k * 6)).off + 3, none⟩ = some (.int .i64 m.id) ∧ (W.setCell ⟨w.heap.size + x + 1, i, none⟩ u).cell? ⟨(ad.add (k * 6)).block, (ad.add (k * 6)).off + 4, none⟩ = some (.slice A1 m.args.length c1) ∧ (W.setCell ⟨w.heap.size + x + 1, i, none⟩ u).cell? ⟨(ad.add (k * 6)).block, (ad.add (k * 6)).off + 5, none⟩ = some (.slice A2 m.data.length c2) := by
    intro W h x i u
    have hb : ad.block ≠ w.heap.size + x + 1 := by omega
    obtain ⟨h1, h2, h3, h4, h5, h6, h7⟩ := h
    refine ⟨fun o => by rw [World.cell?_setCell_other _ _ _ _ (by simp)]; exact h1 o, ?_, ?_, ?_, ?_, ?_, ?_⟩
    all_goals
      rw [World.cell?_setCell_other _ _ _ _ (by intro e; exact hb ((block_of_add ad (k * 6)).symm.trans (congrArg Addr.block e).symm))]
      assumption
  have HS := Lib.hid hss; clear hss
  have hs2 : ∀ W : World, Below w1.heap.size w1 W → ∀ u0 u1 : Value, (∀ o, ((W.setCell ⟨w.heap.size + 1, 0, none⟩ u0).setCell ⟨w.heap.size + 1, 1, none⟩ u1).cell? ⟨w.heap.size, o, none⟩ = (#[.int .i64 n.cap, .slice (some ad) n.q.length c] : Array Value)[o]?) ∧
      ((W.setCell ⟨w.heap.size + 1, 0, none⟩ u0).setCell ⟨w.heap.size + 1, 1, none⟩ u1).cell? (ad.add (k * 6)) = some (.int .i64 m.kind) ∧ ((W.setCell ⟨w.heap.size + 1, 0, none⟩ u0).setCell ⟨w.heap.size + 1, 1, none⟩ u1).cell? ⟨(ad.add (k * 6)).block, (ad.add (k * 6)).off + 1, none⟩ = some (.int .i64 m.frm) ∧ ((W.setCell ⟨w.heap.size + 1, 0, none⟩ u0).setCell ⟨w.heap.size + 1, 1, none⟩ u1).cell? ⟨(ad.add (k * 6)).block, (ad.add (k * 6)).off + 2, none⟩ = some (.int .i64 m.to) ∧ ((W.setCell ⟨w.heap.size + 1, 0, none⟩ u0).setCell ⟨w.heap.size + 1, 1, none⟩ u1).cell? ⟨(ad.add (k * 6)).block, (ad.add (k * 6)).off + 3, none⟩ = some (.int .i64 m.id) ∧ ((W.setCell ⟨w.heap.size + 1, 0, none⟩ u0).setCell ⟨w.heap.size + 1, 1, none⟩ u1).cell? ⟨(ad.add (k * 6)).block, (ad.add (k * 6)).off + 4, none⟩ = some (.slice A1 m.args.length c1) ∧ ((W.setCell ⟨w.heap.size + 1, 0, none⟩ u0).setCell ⟨w.heap.size + 1, 1, none⟩ u1).cell? ⟨(ad.add (k * 6)).block, (ad.add (k * 6)).off + 5, none⟩ = some (.slice A2 m.data.length c2) :=
    fun W h u0 u1 => HS.out _ (HS.out _ (HQ.out _ h) 0 0 u0) 0 1 u1
  have HS2 := Lib.hid hs2; clear hs2
  have hs8 : ∀ W : World, Below w1.heap.size w1 W → ∀ u0 u1 u2 u3 u4 u5 u6 u7 : Value, (∀ o, ((((((((W.setCell ⟨w.heap.size + 1, 0, none⟩ u0).setCell ⟨w.heap.size + 1, 1, none⟩ u1).setCell ⟨w.heap.size + 1 + 1, 0, none⟩ u2).setCell ⟨w.heap.size + 1 + 1, 1, none⟩ u3).setCell ⟨w.heap.size + 1 + 1, 2, none⟩ u4).setCell ⟨w.heap.size + 1 + 1, 3, none⟩ u5).setCell ⟨w.heap.size + 1 + 1, 4, none⟩ u6).setCell ⟨w.heap.size + 1 + 1, 5, none⟩ u7).cell? ⟨w.heap.size, o, none⟩ = (#[.int .i64 n.cap, .slice (some ad) n.q.length c] : Array Value)[o]?) ∧
      ((((((((W.setCell ⟨w.heap.size + 1, 0, none⟩ u0).setCell ⟨w.heap.size + 1, 1, none⟩ u1).setCell ⟨w.heap.size + 1 + 1, 0, none⟩ u2).setCell ⟨w.heap.size + 1 + 1, 1, none⟩ u3).setCell ⟨w.heap.size + 1 + 1, 2, none⟩ u4).setCell ⟨w.heap.size + 1 + 1, 3, none⟩ u5).setCell ⟨w.heap.size + 1 + 1, 4, none⟩ u6).setCell ⟨w.heap.size + 1 + 1, 5, none⟩ u7).cell? (ad.add (k * 6)) = some (.int .i64 m.kind) ∧ ((((((((W.setCell ⟨w.heap.size + 1, 0, none⟩ u0).setCell ⟨w.heap.size + 1, 1, none⟩ u1).setCell ⟨w.heap.size + 1 + 1, 0, none⟩ u2).setCell ⟨w.heap.size + 1 + 1, 1, none⟩ u3).setCell ⟨w.heap.size + 1 + 1, 2, none⟩ u4).setCell ⟨w.heap.size + 1 + 1, 3, none⟩ u5).setCell ⟨w.heap.size + 1 + 1, 4, none⟩ u6).setCell ⟨w.heap.size + 1 + 1, 5, none⟩ u7).cell? ⟨(ad.add (k * 6)).block, (ad.add (k * 6)).off + 1, none⟩ = some (.int .i64 m.frm) ∧ ((((((((W.setCell ⟨w.heap.size + 1, 0, none⟩ u0).setCell ⟨w.heap.size + 1, 1, none⟩ u1).setCell ⟨w.heap.size + 1 + 1, 0, none⟩ u2).setCell ⟨w.heap.size + 1 + 1, 1, none⟩ u3).setCell ⟨w.heap.size + 1 + 1, 2, none⟩ u4).setCell ⟨w.heap.size + 1 + 1, 3, none⟩ u5).setCell ⟨w.heap.size + 1 + 1, 4, none⟩ u6).setCell ⟨w.heap.size + 1 + 1, 5, none⟩ u7).cell? ⟨(ad.add (k * 6)).block, (ad.add (k * 6)).off + 2, none⟩ = some (.int .i64 m.to) ∧ ((((((((W.setCell ⟨w.heap.size + 1, 0, none⟩ u0).setCell ⟨w.heap.size + 1, 1, none⟩ u1).setCell ⟨w.heap.size + 1 + 1, 0, none⟩ u2).setCell ⟨w.heap.size + 1 + 1, 1, none⟩ u3).setCell ⟨w.heap.size + 1 + 1, 2, none⟩ u4).setCell ⟨w.heap.size + 1 + 1, 3, none⟩ u5).setCell ⟨w.heap.size + 1 + 1, 4, none⟩ u6).setCell ⟨w.heap.size + 1 + 1, 5, none⟩ u7).cell? ⟨(ad.add (k * 6)).block, (ad.add (k * 6)).off + 3, none⟩ = some (.int .i64 m.id) ∧ ((((((((W.setCell ⟨w.heap.size + 1, 0, none⟩ u0).setCell ⟨w.heap.size + 1, 1, none⟩ u1).setCell ⟨w.heap.size + 1 + 1, 0, none⟩ u2).setCell ⟨w.heap.size + 1 + 1, 1, none⟩ u3).setCell ⟨w.heap.size + 1 + 1, 2, none⟩ u4).setCell ⟨w.heap.size + 1 + 1, 3, none⟩ u5).setCell ⟨w.heap.size + 1 + 1, 4, none⟩ u6).setCell ⟨w.heap.size + 1 + 1, 5, none⟩ u7).cell? ⟨(ad.add (k * 6)).block, (ad.add (k * 6)).off + 4, none⟩ = some (.slice A1 m.args.length c1) ∧ ((((((((W.setCell ⟨w.heap.size + 1, 0, none⟩ u0).setCell ⟨w.heap.size + 1, 1, none⟩ u1).setCell ⟨w.heap.size + 1 + 1, 0, none⟩ u2).setCell ⟨w.heap.size + 1 + 1, 1, none⟩ u3).setCell ⟨w.heap.size + 1 + 1, 2, none⟩ u4).setCell ⟨w.heap.size + 1 + 1, 3, none⟩ u5).setCell ⟨w.heap.size + 1 + 1, 4, none⟩ u6).setCell ⟨w.heap.size + 1 + 1, 5, none⟩ u7).cell? ⟨(ad.add (k * 6)).block, (ad.add (k * 6)).off + 5, none⟩ = some (.slice A2 m.data.length c2) :=
    fun W h u0 u1 u2 u3 u4 u5 u6 u7 => HS.out _ (HS.out _ (HS.out _ (HS.out _ (HS.out _ (HS.out _ (HS.out _ (HS.out _ (HQ.out _ h) 0 0 u0) 0 1 u1) 1 0 u2) 1 1 u3) 1 2 u4) 1 3 u5) 1 4 u6) 1 5 u7
  have HS8 := Lib.hid hs8; clear hs8
  go_upto_region 3 with fail
  have hwk : IntKind.i64.wrap ((k : Int) + 1) = (k : Int) + 1 := by
    exact IntWalk.i64_in _ (by omega)
  have i0 : (0 : Int) ≤ (k : Int) := by omega
  have i1 : (k : Int) < (n.q.length : Int) := by omega
  have i2 : (k : Int) ≤ (c : Int) := by omega
  have i3 : (0 : Int) ≤ (k : Int) + 1 := by omega
  have i4 : (k : Int) + 1 ≤ (n.q.length : Int) := by omega
  have i5 : (n.q.length : Int) ≤ (c : Int) := by omega
  have i6 : ((k : Int) + 1).toNat = k + 1 := by omega
  have hcut := (E.get m0).cut (k := k + 1) (by omega)
  obtain ⟨A3, hA3⟩ : ∃ A3, (if c = k + 1 then some ad else some (ad.add ((k + 1) * 6))) = A3 := ⟨_, rfl⟩
  rw [show (if c = k + 1 then some ad else some (ad.add ((k + 1) * Rp.msg.size))) = A3 from hA3] at hcut
  have hC := concatM_two w1.heap.size k (n.q.length - (k + 1)) c (c - (k + 1)) (some ad) A3 (n.q.take k) (n.q.drop (k + 1)) K (w1.alloc (.cells #[.slice (some ad) k c, .slice A3 (n.q.length - (k + 1)) (c - (k + 1))] 35)).drew
    ((Reads.new (xs := [.slice (some ad) k c, .slice A3 (n.q.length - (k + 1)) (c - (k + 1))]) (by simp) rfl rfl).drew.more (fun _ _ => trivial)) (((E.get m0).pre (by omega)).alloc _).drew (hcut.alloc _).drew (by rw [List.length_take, List.length_drop]; omega)
  have hAL := hnl.cut k
  have hql : (n.q.take k ++ n.q.drop (k + 1)).length ≤ 200000000000 := by rw [List.length_append, List.length_take, List.length_drop]; omega
  rw [HQ'.out] at hC hAL hql
  clear HQ'
  have hb1 : Below w1.heap.size w1 (w1.alloc (.cells #[.slice (some ad) k c, .slice A3 (n.q.length - (k + 1)) (c - (k + 1))] 35)).drew := ((Below.refl _ _).alloc (Nat.le_refl _) _).drew
  clear hrd hcl
  go_region_held3 (fun W => (∀ o, W.cell? ⟨w.heap.size, o, none⟩ = (#[.int .i64 n.cap, .slice (some ad) n.q.length c] : Array Value)[o]?) ∧
      W.cell? (ad.add (k * 6)) = some (.int .i64 m.kind) ∧ W.cell? ⟨(ad.add (k * 6)).block, (ad.add (k * 6)).off + 1, none⟩ = some (.int .i64 m.frm) ∧ W.cell? ⟨(ad.add (k * 6)).block, (ad.add (k * 6)).off + 2, none⟩ = some (.int .i64 m.to) ∧ W.cell? ⟨(ad.add (k * 6)).block, (ad.add (k * 6)).off + 3, none⟩ = some (.int .i64 m.id) ∧ W.cell? ⟨(ad.add (k * 6)).block, (ad.add (k * 6)).off + 4, none⟩ = some (.slice A1 m.args.length c1) ∧ W.cell? ⟨(ad.add (k * 6)).block, (ad.add (k * 6)).off + 5, none⟩ = some (.slice A2 m.data.length c2))
    (first | with_reducible exact HS8.out wO hbO _ _ _ _ _ _ _ _ | with_reducible exact HS2.out wO hbO _ _ | with_reducible exact HQ.out _ (Below.refl _ _).drew | with_reducible exact HQ.out _ hb1 | with_reducible exact HQ.out _ hbC | with_reducible exact HQ.out _ hbW | with_reducible exact HQ.out _ hbO)
    (first
      | (go_at_call 61
         refine hC.mono ?_
         rintro e wC ⟨AC, cC, rfl, hisC, hbC⟩
         replace hbC := hb1.trans (hbC.mono hb1.size)
         )
      | (go_at_call 55
         refine (with_any _ _ n q' K (fun _ => True) _ ⟨_, _, rfl, (E.step hbC).get m0⟩ hisC hAL (by omega)).mono ?_
         rintro e wW ⟨AW, cW, rfl, hown, hbW⟩
         replace hbW := hbC.trans (hbW.mono hbC.size))
      | (go_at_call 56
         refine (own_free _ m K _ (him.step hbW) (by omega)).mono ?_
         rintro e wO ⟨vO, rfl, himO, hfrO, hbO⟩
         replace hfrO := Lib.hid hfrO
         obtain ⟨A7, c7, A8, c8, rfl, hrpO⟩ := isM_rp himO
         clear hrpO
         unfold mv
         have hownO := hown.step hbO
         have hislO := (hown.isLt (X' := fun b => w.heap.size + 1 + 1 < b ∧ b < wW.heap.size) (by omega) (fun b h1 h2 => ⟨by have := hbC.size; have := (E.at_ m0).lt; omega, h1⟩) (fun b h1 h2 => ⟨by have := hbC.size; have := (E.at_ m0).lt; omega, h1⟩)).step hbO
         replace hbO := hbW.trans (hbO.mono hbW.size)
         obtain ⟨q4, f4, t4⟩ := (E.step hbO).rules m1
         obtain ⟨q5, f5, t5⟩ := (E.step hbO).rules m0))
  have B4 := (E.step hbO).at_ m1
  have B5 := (E.step hbO).at_ m0
  have hl5 : w.heap.size + 1 + 1 < w1.heap.size := (E.at_ m0).lt
  have s1 := hbC.size
  have s2 := hbW.size
  have hne : w.heap.size + 1 ≠ w.heap.size + 1 + 1 := by omega
  have D4 := (((((((B4.set_ 0 (.int .i64 n.cap)).set_ 1 (.slice AW q'.length cW)).far (p := ⟨w.heap.size + 1 + 1, 0, none⟩) hne (.int .i64 m.kind)).far (p := ⟨w.heap.size + 1 + 1, 1, none⟩) hne (.int .i64 m.frm)).far (p := ⟨w.heap.size + 1 + 1, 2, none⟩) hne (.int .i64 m.to)).far (p := ⟨w.heap.size + 1 + 1, 3, none⟩) hne (.int .i64 m.id)).far (p := ⟨w.heap.size + 1 + 1, 4, none⟩) hne (.slice A7 m.args.length c7)).far (p := ⟨w.heap.size + 1 + 1, 5, none⟩) hne (.slice A8 m.data.length c8)
  have D5 := (((((((B5.far (p := ⟨w.heap.size + 1, 0, none⟩) hne.symm (.int .i64 n.cap)).far (p := ⟨w.heap.size + 1, 1, none⟩) hne.symm (.slice AW q'.length cW)).set_ 0 (.int .i64 m.kind)).set_ 1 (.int .i64 m.frm)).set_ 2 (.int .i64 m.to)).set_ 3 (.int .i64 m.id)).set_ 4 (.slice A7 m.args.length c7)).set_ 5 (.slice A8 m.data.length c8)
  have F4 := D4.rules
  have F5 := D5.rules
  clear q4 f4 t4 q5 f5 t5 hC HQ HS HS2 HS8
  go_wp2
  refine bodyPost_ret (v := .tuple #[.agg #[.int .i64 n.cap, .slice AW q'.length cW], mv m A7 c7 A8 c8, .int .i64 0]) (by simp [results, Try.results27, go_sem, F4.1, F5.1, mv]) rfl ⟨AW, cW, _, wW.heap.size, rfl, ?_, ?_, ?_, (((((((hfrO.out.set _ _).set _ _).set _ _).set _ _).set _ _).set _ _).set _ _).set _ _, ?_⟩
  · exact ((((((((hownO.farb (by omega) (by omega) 0 _).farb (by omega) (by omega) 1 _).farb (by omega) (by omega) 0 _).farb (by omega) (by omega) 1 _).farb (by omega) (by omega) 2 _).farb (by omega) (by omega) 3 _).farb (by omega) (by omega) 4 _).farb (by omega) (by omega) 5 _).lower (by omega) |>.more (fun b hb _ => by omega)
  · exact ((((((((hislO.far (by omega) 0 _).far (by omega) 1 _).far (by omega) 0 _).far (by omega) 1 _).far (by omega) 2 _).far (by omega) 3 _).far (by omega) 4 _).far (by omega) 5 _).more fun b hb => ⟨by omega, hb.2⟩
  · refine ((((((((himO.far (by omega) 0 _).far (by omega) 1 _).far (by omega) 0 _).far (by omega) 1 _).far (by omega) 2 _).far (by omega) 3 _).far (by omega) 4 _).far (by omega) 5 _).more (fun b hb => ⟨by omega, hb, fun e => ?_⟩)
    have := (hown.rowlt b e.symm).2
    omega
  · exact ((((((((E.below.trans (hbO.mono E.below.size)).setCell (by show w.heap.size ≤ w.heap.size + 1; omega) _).setCell (by show w.heap.size ≤ w.heap.size + 1; omega) _).setCell (by show w.heap.size ≤ w.heap.size + 1 + 1; omega) _).setCell (by show w.heap.size ≤ w.heap.size + 1 + 1; omega) _).setCell (by show w.heap.size ≤ w.heap.size + 1 + 1; omega) _).setCell (by show w.heap.size ≤ w.heap.size + 1 + 1; omega) _).setCell (by show w.heap.size ≤ w.heap.size + 1 + 1; omega) _).setCell (by show w.heap.size ≤ w.heap.size + 1 + 1; omega) _

theorem takeN_sep (v : Value) (n : Nt) (k : Nat) (m : Ms) (K : Nat → Prop) (w : World) (hv : IsN w K v n) (hm : n.q[k]? = some m) (hnl : ArgsLe n.q) (hn8 : n.q.length ≤ 200000000000) :
    Calls Try.prog 27 #[v, .int .i64 k] w fun e w' => ∃ A' c' vm g, e = .returned (.tuple #[.agg #[.int .i64 n.cap, .slice A' (n.q.take k ++ n.q.drop (k + 1)).length c'], vm, .int .i64 0]) ∧
      OwnR Rp.msg w' w.heap.size 45 (fun b => w.heap.size ≤ b) (.slice A' (n.q.take k ++ n.q.drop (k + 1)).length c') (n.q.take k ++ n.q.drop (k + 1)) ∧
      IsL Rp.msg w' (fun b => w.heap.size ≤ b ∧ b < g) (.slice A' (n.q.take k ++ n.q.drop (k + 1)).length c') (n.q.take k ++ n.q.drop (k + 1)) ∧
      IsM w' (fun b => w.heap.size ≤ b ∧ g ≤ b ∧ some b ≠ (Value.slice A' (n.q.take k ++ n.q.drop (k + 1)).length c').ownBlock) vm m ∧ Below w.heap.size w w' :=
  (takeN_free v n k m K w hv hm hnl hn8).mono fun _ _ ⟨A', c', vm, g, h1, h2, h3, h4, _, h5⟩ => ⟨A', c', vm, g, h1, h2, h3, h4, h5⟩
theorem takeN_ok (v : Value) (n : Nt) (k : Nat) (m : Ms) (K : Nat → Prop) (w : World) (hv : IsN w K v n) (hm : n.q[k]? = some m) (hnl : ArgsLe n.q) (hn8 : n.q.length ≤ 200000000000) :
    Calls Try.prog 27 #[v, .int .i64 k] w fun e w' => ∃ A' c' vm, e = .returned (.tuple #[.agg #[.int .i64 n.cap, .slice A' (n.q.take k ++ n.q.drop (k + 1)).length c'], vm, .int .i64 0]) ∧
      OwnR Rp.msg w' w.heap.size 45 (fun b => w.heap.size ≤ b) (.slice A' (n.q.take k ++ n.q.drop (k + 1)).length c') (n.q.take k ++ n.q.drop (k + 1)) ∧
      IsM w' (fun b => w.heap.size ≤ b ∧ some b ≠ (Value.slice A' (n.q.take k ++ n.q.drop (k + 1)).length c').ownBlock) vm m ∧ Below w.heap.size w w' :=
  (takeN_sep v n k m K w hv hm hnl hn8).mono fun _ _ ⟨A', c', vm, _, h1, h2, _, h3, h4⟩ => ⟨A', c', vm, h1, h2, h3.more fun _ hb => ⟨hb.1, hb.2.2⟩, h4⟩

set_option maxRecDepth 100000 in
set_option maxHeartbeats 8000000 in
theorem takeN_no (v : Value) (n : Nt) (i : Int) (K : Nat → Prop) (w : World) (hv : IsN w K v n) (hno : ¬ (0 ≤ i ∧ i < (n.q.length : Int))) :
    Calls Try.prog 27 #[v, .int .i64 i] w fun e w' => e = .returned (.tuple #[.agg #[.int .i64 0, .slice none 0 0], .agg #[.int .i64 0, .int .i64 0, .int .i64 0, .int .i64 0, .slice none 0 0, .slice none 0 0], .int .i64 4]) ∧ Below w.heap.size w w' := by
  obtain ⟨A, c, rfl, hnq⟩ := hv
  have E := ((((Kn.start w).give Stable.list hnq).push 38 #[.int .i64 n.cap, .slice A n.q.length c]).push 38 #[.int .i64 0, .slice none 0 0]).push 45 #[.int .i64 0, .int .i64 0, .int .i64 0, .int .i64 0, .slice none 0 0, .slice none 0 0]
  clear hnq
  have HD := Lib.hid (decide_eq_false hno)
  go_enter Try.func27, Try.ntmps27
  go_wp2_with fail
  refine (has_any _ n i K _ ⟨_, _, rfl, E.get m0⟩).mono ?_
  rw [HD.out]
  rintro e w1 ⟨rfl, hb1⟩
  replace E := E.step hb1
  clear hb1
  rw [World.size_alloc, World.size_alloc] at E
  have B4 := E.at_ m1
  have B5 := E.at_ m0
  obtain ⟨q4, f4⟩ := B4.rules
  obtain ⟨q5, f5⟩ := B5.rules
  have t4 := B4.lt
  have t5 := B5.lt
  go_wp2
  have hne : w.heap.size + 1 ≠ w.heap.size + 1 + 1 := by omega
  have F4 := (((((((B4.set_ 0 (.int .i64 0)).set_ 1 (.slice none 0 0)).far (p := ⟨w.heap.size + 1 + 1, 0, none⟩) hne (.int .i64 0)).far (p := ⟨w.heap.size + 1 + 1, 1, none⟩) hne (.int .i64 0)).far (p := ⟨w.heap.size + 1 + 1, 2, none⟩) hne (.int .i64 0)).far (p := ⟨w.heap.size + 1 + 1, 3, none⟩) hne (.int .i64 0)).far (p := ⟨w.heap.size + 1 + 1, 4, none⟩) hne (.slice none 0 0)).far (p := ⟨w.heap.size + 1 + 1, 5, none⟩) hne (.slice none 0 0) |>.rules
  have F5 := (((((((B5.far (p := ⟨w.heap.size + 1, 0, none⟩) hne.symm (.int .i64 0)).far (p := ⟨w.heap.size + 1, 1, none⟩) hne.symm (.slice none 0 0)).set_ 0 (.int .i64 0)).set_ 1 (.int .i64 0)).set_ 2 (.int .i64 0)).set_ 3 (.int .i64 0)).set_ 4 (.slice none 0 0)).set_ 5 (.slice none 0 0) |>.rules
  clear q4 f4 q5 f5
  refine bodyPost_ret (v := .tuple #[.agg #[.int .i64 0, .slice none 0 0], .agg #[.int .i64 0, .int .i64 0, .int .i64 0, .int .i64 0, .slice none 0 0, .slice none 0 0], .int .i64 4]) (by simp [results, Try.results27, go_sem, F4.1, F5.1]) rfl ⟨rfl, ?_⟩
  exact ((((((((E.below).setCell (by show w.heap.size ≤ w.heap.size + 1; omega) _).setCell (by show w.heap.size ≤ w.heap.size + 1; omega) _).setCell (by show w.heap.size ≤ w.heap.size + 1 + 1; omega) _).setCell (by show w.heap.size ≤ w.heap.size + 1 + 1; omega) _).setCell (by show w.heap.size ≤ w.heap.size + 1 + 1; omega) _).setCell (by show w.heap.size ≤ w.heap.size + 1 + 1; omega) _).setCell (by show w.heap.size ≤ w.heap.size + 1 + 1; omega) _).setCell (by show w.heap.size ≤ w.heap.size + 1 + 1; omega) _
end Go.Proofs.Ytbjgemipmlimoaa
