import Derived.Test.YtlippmghgagdaaaGreatPack
import Derived.Test.YtlippmghgagdaaaGreatSegRec
import Derived.Test.YtlippmghgagdaaaGreatRows
import Derived.Test.YtlippmghgagdaaaGreatRep

/- What packer.Add knows in its first loop. -/
namespace Go.Proofs.YtlippmghgagdaaaGreat
open Go.RowKit

theorem rc_ok {w : World} {K : Nat → Prop} {cs : List Value} {r : Rc} (h : Rp.rc.is w K cs r) : OkRc r := by
  obtain ⟨v, _, _, h0, h1, h2, h3, h4, h5⟩ := h
  intro n hn
  simp only [recN, List.mem_cons, List.not_mem_nil, or_false] at hn
  rcases hn with rfl | rfl | rfl | rfl | rfl | rfl <;> assumption
theorem rcs_ok {w : World} {K : Nat → Prop} {cs : List Value} {l : List Rc} (h : CellsL Rp.rc w K cs l) : ∀ r ∈ l, OkRc r := by
  induction l generalizing cs with
  | nil => intro r hr; cases hr
  | cons a l ih =>
    obtain ⟨c1, c2, _, h1, h2⟩ := h
    intro r hr
    rcases List.mem_cons.1 hr with rfl | hr
    · exact rc_ok h1
    · exact ih h2 r hr
theorem isL_ok {w : World} {K : Nat → Prop} {v : Value} {l : List Rc} (h : IsL Rp.rc w K v l) : ∀ r ∈ l, OkRc r := by
  obtain ⟨A, c, cs, _, _, h2, _⟩ := h; exact rcs_ok h2
theorem frsL_len {l : List Rc} (h : ∀ r ∈ l, OkRc r) : (frsL l).length ≤ 40030 * l.length := by
  induction l with
  | nil => simp [frsL]
  | cons r l ih =>
    have h1 := (recL_len (h r (List.mem_cons_self ..))).1
    have h2 := ih fun x hx => h x (List.mem_cons_of_mem _ hx)
    simp only [frsL, List.length_append, List.length_cons]
    omega
theorem take_snoc {α : Type} (l : List α) {j : Nat} {r : α} (h : l[j]? = some r) : l.take (j + 1) = l.take j ++ [r] := by
  rw [List.take_add_one, h]; rfl
theorem errL_here (l : List Rc) {j : Nat} {r : Rc} (h : l[j]? = some r) (h0 : errL (l.take j) = 0) (h1 : (recL r).2 ≠ 0) : errL l = (recL r).2 := by
  have hj := (List.getElem?_eq_some_iff.1 h).1
  have e : l = (l.take j ++ [r]) ++ l.drop (j + 1) := by rw [← take_snoc l h, List.take_append_drop]
  have : ∀ (a b : List Rc), errL a ≠ 0 → errL (a ++ b) = errL a := by
    intro a b
    induction a with
    | nil => intro h; exact absurd rfl h
    | cons x a ih =>
      rw [List.cons_append]
      unfold errL
      by_cases hx : (recL x).2 = 0
      · simp only [hx, ne_eq, not_true_eq_false, if_false]; exact ih
      · simp [hx]
  have h2 : errL (l.take j ++ [r]) = (recL r).2 := by rw [errL_snoc, if_neg (by simp [h0])]
  rw [e, this _ _ (by rw [h2]; exact h1), h2]
theorem frsL_snoc (l : List Rc) (r : Rc) : frsL (l ++ [r]) = frsL l ++ (recL r).1 := by rw [frsL_append]; simp [frsL]
theorem plsL_snoc (l : List Rc) (r : Rc) (b : Int) : plsL b (l ++ [r]) = plsL b l ++ [b + (frsL l).length + (recL r).1.length - 4 - r.data.length] := by rw [plsL_append]; rfl

theorem add_err (p : Pk) {l : List Rc} {e : Int} (h : errL l = e) (he : e ≠ 0) : addL p l = (p0k, [], e) := by
  unfold addL; rw [if_pos (by rw [h]; exact he), h]
theorem add_full (p : Pk) {l : List Rc} (h : errL l = 0) (hf : roomL p < ((frsL l).length : Int)) : addL p l = (p0k, [], 40) := by
  unfold addL; rw [if_neg (by simp [h]), if_pos hf]
theorem add_fits (p : Pk) {l : List Rc} (h : errL l = 0) (hf : ¬ roomL p < ((frsL l).length : Int)) : addL p l = (⟨p.h, p.zone, p.cap, p.at_, p.buf ++ frsL l, p.l ++ l⟩, plsL (p.at_ + p.buf.length) l, 0) := by
  unfold addL; rw [if_neg (by simp [h]), if_neg hf]
theorem isB_nil (w : World) (K : Nat → Prop) : IsB w K (.slice none 0 0) [] := ⟨none, 0, rfl, Reads.none_, Nat.le_refl _, by omega, by simp⟩
theorem isPk_none (w : World) (K : Nat → Prop) : IsPk w K (.agg #[.int .i64 0, .int .i64 0, .int .i64 0, .int .i64 0, .int .i64 0, .int .i64 0, .slice none 0 0, .slice none 0 0]) p0k := ⟨_, _, rfl, isB_nil w K, IsL.nil_ w K⟩
abbrev pkC (p : Pk) (vb vl : Value) : Array Value := #[.int .i64 p.h.host, .int .i64 p.h.epoch, .int .i64 p.h.seq, .int .i64 p.zone, .int .i64 p.cap, .int .i64 p.at_, vb, vl]
def Add1 (w wr : World) (p : Pk) (vb vl : Value) (l : List Rc) (v7 v8 i : Value) : Prop :=
  ∃ (j : Nat) (A7 : Option Addr) (c7 : Nat) (A8 : Option Addr) (c8 : Nat), i = .int .i64 j ∧ j ≤ l.length ∧ v7 = .slice A7 j c7 ∧ v8 = .slice A8 (frsL (l.take j)).length c8 ∧
    wr.ownsRow (w.heap.size + 2) 3 1 (.slice A7 j c7) j ((plsL (p.at_ + p.buf.length) (l.take j)).map I64) ∧
    wr.ownsRow (w.heap.size + 2) 5 1 (.slice A8 (frsL (l.take j)).length c8) (frsL (l.take j)).length (cells8 (frsL (l.take j))) ∧
    errL (l.take j) = 0 ∧ Blk wr w.heap.size 35 (pkC p vb vl) ∧
    Blk wr (w.heap.size + 1) 35 #[.int .i64 0, .int .i64 0, .int .i64 0, .int .i64 0, .int .i64 0, .int .i64 0, .slice none 0 0, .slice none 0 0] ∧ Below w.heap.size w wr
theorem lt_of_heap {w : World} {g : Nat} {o : Obj} (h : w.heap[g]? = some o) : g < w.heap.size := by
  rcases Nat.lt_or_ge g w.heap.size with h1 | h1
  · exact h1
  · rw [Array.getElem?_eq_none h1] at h; cases h
theorem own_set_far {w : World} {base g : Nat} {e : TypeId} {size n : Nat} {v : Value} {xs : List Value} (h : w.ownsRow base e size v n xs) (hne : v.ownBlock ≠ some g) (i : Nat) (u : Value) : (w.setCell ⟨g, i, none⟩ u).ownsRow base e size v n xs :=
  h.kept (row := some g) (grow_set (grow_below (Below.refl _ _)) i u) (.inr hne)
def Add2 (K : Nat → Prop) (w wr : World) (p : Pk) (vb : Value) (l : List Rc) (v7 v8 : Value) (i : Value) : Prop :=
  ∃ (j : Nat) (A6 : Option Addr) (c6 : Nat), i = .int .i64 j ∧ j ≤ l.length ∧ Blk wr w.heap.size 35 (pkC p vb (.slice A6 (p.l.length + j) c6)) ∧
    OwnR Rp.rc wr (w.heap.size + 2) 57 (fun b => (b ≠ w.heap.size ∧ b ≠ w.heap.size + 1 ∧ (K b ∨ w.heap.size + 2 ≤ b)) ∧ some b ≠ vb.ownBlock) (.slice A6 (p.l.length + j) c6) (p.l ++ l.take j) ∧
    wr.ownsRow (w.heap.size + 2) 3 1 v7 l.length ((plsL (p.at_ + p.buf.length) l).map I64) ∧ wr.ownsRow (w.heap.size + 2) 5 1 v8 (frsL l).length (cells8 (frsL l)) ∧ wr.ownsRow (w.heap.size + 2) 5 1 vb p.buf.length (cells8 p.buf) ∧
    Blk wr (w.heap.size + 1) 35 #[.int .i64 0, .int .i64 0, .int .i64 0, .int .i64 0, .int .i64 0, .int .i64 0, .slice none 0 0, .slice none 0 0] ∧ Below w.heap.size w wr
theorem OwnR.far' {α : Type} {R : Rp α} {w : World} {base g : Nat} {e : TypeId} {X : Nat → Prop} {v : Value} {l : List α} (h : OwnR R w base e X v l) (hne : v.ownBlock ≠ some g) (hX : ¬ X g) (i : Nat) (u : Value) : OwnR R (w.setCell ⟨g, i, none⟩ u) base e X v l := by
  obtain ⟨A, c, cs, rfl, h1, h2⟩ := h
  refine ⟨A, c, cs, rfl, own_set_far h1 hne i u, ?_⟩
  refine (h2.keep (w' := w.setCell ⟨g, i, none⟩ u) fun p hp _ => World.cell?_setCell_other _ _ _ _ (fun e => ?_)).more fun b hb => ⟨hb.1, by simpa [World.setCell] using hb.2.1, hb.2.2⟩
  exact hX (by rw [show g = p.block from congrArg Addr.block e]; exact hp.1)
theorem OwnR.turned {α : Type} {R : Rp α} {w w' : World} {base : Nat} {e : TypeId} {X S : Nat → Prop} {v : Value} {l : List α} (h : OwnR R w base e X v l) (ht : Turned w w' S) (hX : ∀ b, X b → ¬ S b) (hB : ∀ b, base ≤ b → ¬ S b) : OwnR R w' base e X v l := by
  obtain ⟨A, c, cs, rfl, h1, h2⟩ := h
  refine ⟨A, c, cs, rfl, ?_, (h2.turned ht (fun b hb => hX b hb.1)).more fun b hb => ⟨hb.1, by have := ht.size; omega, hb.2.2⟩⟩
  refine ⟨h1.1, ?_⟩
  rcases h1.2 with h3 | ⟨g, cap, cur, hv, hg, hh, r⟩
  · exact .inl h3
  · exact .inr ⟨g, cap, cur, hv, hg, by rw [ht.block g (lt_of_heap hh) (hB g hg)]; exact hh, r⟩
theorem OwnR.grew {α : Type} {R : Rp α} {w w' : World} {base base' n' size' : Nat} {e e' : TypeId} {X : Nat → Prop} {v v0 v1 : Value} {xs' : List Value} {l : List α} (h : OwnR R w base e X v l) (h' : w.ownsRow base' e' size' v0 n' xs') (hne : e ≠ e') (hX : ∀ b, X b → some b ≠ v0.ownBlock) (hg : Grew base' w w' v0 v1) : OwnR R w' base e X v l := by
  obtain ⟨A, c, cs, rfl, h1, h2⟩ := h
  exact ⟨A, c, cs, rfl, own_grew h1 h' hne hg, (h2.keep (w' := w') fun p hp hl => World.cell?_of_block (hg.grown.block p.block hl (hX _ hp.1))).more fun b hb => ⟨hb.1, by have := hg.grown.size; omega, hb.2.2⟩⟩
theorem OwnR.lt {α : Type} {R : Rp α} {w : World} {base : Nat} {e : TypeId} {X : Nat → Prop} {v : Value} {l : List α} (h : OwnR R w base e X v l) : ∀ b, v.ownBlock = some b → base ≤ b ∧ b < w.heap.size := by
  obtain ⟨A, c, cs, rfl, h1, h2⟩ := h; exact h1.lt
end Go.Proofs.YtlippmghgagdaaaGreat

/- The walk of ref03's Big; a record of a slice, its cells. -/
namespace Go.Proofs.YtlippmghgagdaaaGreat
open Go.RowKit

theorem rc_at {w : World} {K : Nat → Prop} {A : Option Addr} {n c : Nat} {l : List Rc} (h : IsL Rp.rc w K (.slice A n c) l) {j : Nat} {r : Rc} (hj : l[j]? = some r) :
    ∃ ad Ad cd, A = some ad ∧ K ad.block ∧ IsB w K (.slice Ad r.data.length cd) r.data ∧ OkRc r ∧
      w.cell? (ad.add (j * 7)) = some (.int .i64 r.kind) ∧ w.cell? ⟨(ad.add (j * 7)).block, (ad.add (j * 7)).off + 1, none⟩ = some (.int .i64 r.lba) ∧ w.cell? ⟨(ad.add (j * 7)).block, (ad.add (j * 7)).off + 2, none⟩ = some (.int .i64 r.n) ∧
      w.cell? ⟨(ad.add (j * 7)).block, (ad.add (j * 7)).off + 3, none⟩ = some (.int .i64 r.ver) ∧ w.cell? ⟨(ad.add (j * 7)).block, (ad.add (j * 7)).off + 4, none⟩ = some (.int .i64 r.zone) ∧ w.cell? ⟨(ad.add (j * 7)).block, (ad.add (j * 7)).off + 5, none⟩ = some (.int .i64 r.off) ∧
      w.cell? ⟨(ad.add (j * 7)).block, (ad.add (j * 7)).off + 6, none⟩ = some (.slice Ad r.data.length cd) := by
  obtain ⟨ad, es, hA, hKad, hes, hcell⟩ := h.at_ hj
  have hok := rc_ok hes
  obtain ⟨vd, rfl, hvd, _⟩ := hes
  obtain ⟨Ad, cd, rfl, _⟩ := isB_form hvd
  have hsz7 : Rp.rc.size = 7 := rfl
  rw [hsz7] at hcell
  refine ⟨ad, Ad, cd, hA, hKad, hvd, hok, ?_, ?_, ?_, ?_, ?_, ?_, ?_⟩
  · rw [← addr0 (ad.add (j * 7))]; exact hcell 0 _ rfl
  · rw [← addrS _ 1 (by decide)]; exact hcell 1 _ rfl
  · rw [← addrS _ 2 (by decide)]; exact hcell 2 _ rfl
  · rw [← addrS _ 3 (by decide)]; exact hcell 3 _ rfl
  · rw [← addrS _ 4 (by decide)]; exact hcell 4 _ rfl
  · rw [← addrS _ 5 (by decide)]; exact hcell 5 _ rfl
  · rw [← addrS _ 6 (by decide)]; exact hcell 6 _ rfl

/-- how great records are, as an int has it -/
def sumRW : List Rc → Int → Int
  | [], s => s
  | r :: l, s => sumRW l (wrap64 (s + ((r.data.length : Int) + 20)))
def bigR (most : Int) (l : List Rc) : Bool := decide (most < sumRW l 0)

set_option maxRecDepth 100000 in
set_option maxHeartbeats 2000000 in
theorem bigR_any (most : Int) (v : Value) (l : List Rc) (K : Nat → Prop) (w : World) (hv : IsL Rp.rc w K v l) :
    Calls Tryz.prog 16 #[.int .i64 most, v] w fun e w' => e = .returned (.bool (bigR most l)) ∧ Below w.heap.size w w' := by
  obtain ⟨res, hres⟩ : ∃ res, res = bigR most l := ⟨_, rfl⟩
  rw [← hres]
  have HRES := Lib.hid hres; clear hres
  have hv0 := hv
  obtain ⟨A, c, rfl, _⟩ := hv.form
  have hlen := hv.len
  go_enter Tryz.func16, Tryz.ntmps16
  go_wp2_with fail
  go_loopw [5, 10] (fun s i wr => ∃ (j : Nat) (k : Int), i = .int .i64 j ∧ j ≤ l.length ∧ s = .int .i64 k ∧ sumRW (l.drop j) k = sumRW l 0 ∧ Below w.heap.size w wr) (fun _ i _ => l.length - (intOf i).toNat)
  case atStart => exact ⟨0, 0, rfl, Nat.zero_le _, rfl, rfl, Below.refl _ _⟩
  case round =>
    obtain ⟨j, k, rfl, hj, rfl, hsum, hb⟩ := hrel
    have HSUM := Lib.hid hsum; clear hsum
    have hsz := hb.size
    by_cases hlt : j < l.length
    · have htk : l.drop j = l[j] :: l.drop (j + 1) := List.drop_eq_getElem_cons hlt
      obtain ⟨ad, Ad, cd, rfl, hKad, hvd, _, hc0, hc1, hc2, hc3, hc4, hc5, hc6⟩ := rc_at (hv0.step hb) (List.getElem?_eq_getElem hlt)
      generalize l[j] = r at hvd hc0 hc1 hc2 hc3 hc4 hc5 hc6 htk
      have HTK := Lib.hid htk; clear htk
      obtain ⟨_, _, _, hd⟩ := isB_form hvd
      go_wp2
      go_roundw
      case rel => exact ⟨j + 1, _, by go_num, by omega, rfl, by rw [← HSUM.out, HTK.out]; rfl, hb.alloc hsz _⟩
      case measure => simp [intOf]; omega
    · obtain rfl : j = l.length := by omega
      go_wp2
      go_ret
      have e := HSUM.out
      rw [List.drop_length] at e
      have e2 : k = sumRW l 0 := e
      refine ⟨?_, hb⟩
      rw [HRES.out]
      unfold bigR
      rw [← e2]
      rfl
end Go.Proofs.YtlippmghgagdaaaGreat

/- What the bound on the bulk gives (the first lemmas are the kit's page's). -/
namespace Go.Proofs.YtlippmghgagdaaaGreat
open Go.RowKit Go.WideShapes Go.ChangeShapes Go.Deep

theorem bulk_one {H : Type} (d : DataW H) : 1 ≤ Rows.uptoBulk d := by
  cases d with
  | lit l => cases l <;> simp [Rows.uptoBulk]
  | nil => simp [Rows.uptoBulk]
  | ptr d => simp [Rows.uptoBulk]
  | slice elems spare => simp [Rows.uptoBulk]
  | agg parts => simp [Rows.uptoBulk]
  | iface t d => simp [Rows.uptoBulk]
  | map entries => simp [Rows.uptoBulk]
  | held h => simp [Rows.uptoBulk]
theorem bulk_length {H : Type} (l : List (DataW H)) : l.length ≤ Rows.uptoBulkAll l := by
  induction l with
  | nil => simp [Rows.uptoBulkAll]
  | cons x r ih => have := bulk_one x; simp only [Rows.uptoBulkAll, List.length_cons]; omega
theorem bulk_part {H : Type} {d : DataW H} {l : List (DataW H)} (h : d ∈ l) (hk : Rows.uptoSmall H l = true) : Rows.uptoBulk d ≤ 1048576 := by
  have h1 : Rows.uptoBulkAll l ≤ 1048576 := of_decide_eq_true hk
  have h2 : Rows.uptoBulk d ≤ Rows.uptoBulkAll l := by
    clear hk h1
    induction l with
    | nil => cases h
    | cons x r ih =>
      simp only [Rows.uptoBulkAll]
      rcases List.mem_cons.1 h with e | e
      · subst e; omega
      · have := ih e; omega
  omega
theorem bulk_slice {H : Type} {enc : TypeId × Value → H} {P : Program} {w : World} {t e : TypeId} {A : Option Addr} {n c : Nat} {d : DataW H} {p : List MemPlace} (ht : P.underlying t = some (.slice e)) (h : DataW.Trod enc P w 0 (fun _ => true) true t (.slice A n c) d p) : n ≤ Rows.uptoBulk d := by
  obtain ⟨fuel, hf⟩ := h
  rcases open_slice ht hf with ⟨h1, _⟩ | ⟨a, len, cap, m, k, D, Pl, hcs, _, _, _, _, hx, _⟩
  · have : Value.slice A n c = .slice none 0 0 := by simpa [Value.cells] using h1
    injection this with _ e2 _
    omega
  · have : Value.slice A n c = .slice (some a) len cap := by simpa [Value.cells] using hcs
    injection this with _ e2 _
    injection hx with hd _
    subst hd e2
    have h1 := bulk_length (H := H) ((List.range n).map D)
    rw [List.length_map, List.length_range] at h1
    simp only [Rows.uptoBulk]
    omega
theorem bulk_list {H : Type} {enc : TypeId × Value → H} {P : Program} {w : World} {t e : TypeId} {v : Value} {d : DataW H} {p : List MemPlace} {α : Type} {R : Rp α} {K : Nat → Prop} {l : List α} (hl : IsL R w K v l) (ht : P.underlying t = some (.slice e)) (h : DataW.Trod enc P w 0 (fun _ => true) true t v d p) : l.length ≤ Rows.uptoBulk d := by
  obtain ⟨A, c, rfl, _⟩ := hl.form
  exact bulk_slice ht h
end Go.Proofs.YtlippmghgagdaaaGreat
