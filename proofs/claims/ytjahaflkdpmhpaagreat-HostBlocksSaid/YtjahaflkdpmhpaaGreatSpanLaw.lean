/- Spans, plainly: which blocks they have, behind a taking, behind a giving; how far they reach. -/
import Derived.Test.YtjahaflkdpmhpaaGreatHostGain
namespace Go.Proofs.YtjahaflkdpmhpaaGreat
open Go.RowKit
def OkSp (id : Int) (l : List Sp) : Prop := (∀ s ∈ l, s.owner = id ∧ 1 ≤ s.epoch ∧ s.from_ < s.till) ∧ l.Pairwise (fun a b => a.till ≤ b.from_)
def inS (s : Sp) (k : Int) : Prop := s.from_ ≤ k ∧ k < s.till
instance (s : Sp) (k : Int) : Decidable (inS s k) := inferInstanceAs (Decidable (_ ∧ _))
def epS (l : List Sp) (k : Int) : Int := l.foldl (fun e s => if inS s k then s.epoch else e) 0
theorem epS_take {l : List Sp} {j : Nat} (k : Int) (hj : j < l.length) : epS (l.take (j + 1)) k = if inS l[j] k then l[j].epoch else epS (l.take j) k := by
 unfold epS
 rw [List.take_succ_eq_append_getElem hj, List.foldl_append]
 rfl
theorem epS_go {l : List Sp} {k : Int} : ∀ {e : Int}, (∀ s ∈ l, ¬ inS s k) → l.foldl (fun e s => if inS s k then s.epoch else e) e = e := by
 induction l with
 | nil => intro e _; rfl
 | cons s l ih =>
   intro e h
   rw [List.foldl_cons, if_neg (h s (List.mem_cons_self ..))]
   exact ih fun x hx => h x (List.mem_cons_of_mem _ hx)
theorem epS_out {l : List Sp} {k : Int} (h : ∀ s ∈ l, ¬ inS s k) : epS l k = 0 := epS_go h
theorem epS_in {id : Int} {l : List Sp} {k : Int} {s : Sp} (hl : OkSp id l) (hs : s ∈ l) (hk : inS s k) : epS l k = s.epoch := by
 obtain ⟨l1, l2, rfl⟩ := List.append_of_mem hs
 unfold epS
 rw [List.foldl_append, List.foldl_cons, if_pos hk]
 refine epS_go fun x hx hxk => ?_
 have h1 := (List.pairwise_cons.1 (List.pairwise_append.1 hl.2).2.1).1 x hx
 unfold inS at hk hxk
 omega
theorem epS_pos {id : Int} {l : List Sp} {k : Int} (hl : OkSp id l) : 0 < epS l k ↔ ∃ s ∈ l, inS s k := by
 constructor
 · intro h
   apply Classical.byContradiction
   intro hn
   rw [epS_out fun s hs hk => hn ⟨s, hs, hk⟩] at h
   omega
 · rintro ⟨s, hs, hk⟩
   rw [epS_in hl hs hk]
   have := (hl.1 s hs).2.1
   omega
def pcsS (a z : Int) (s : Sp) : List Sp := (if okS (leftS s a) = true then [leftS s a] else []) ++ (if okS (rightS s z) = true then [rightS s z] else [])
theorem stepW_1 (a z : Int) (o : List Sp × Nat) (s : Sp) : (stepW a z o s).1 = o.1 ++ pcsS a z s := by
 unfold stepW pcsS
 simp
theorem without_pcs (a z : Int) : ∀ (l : List Sp) (o : List Sp × Nat), (l.foldl (stepW a z) o).1 = o.1 ++ l.flatMap (pcsS a z)
 | [], o => by simp
 | s :: l, o => by
   rw [List.foldl_cons, without_pcs a z l, stepW_1, List.flatMap_cons, List.append_assoc]
theorem pcs_mem {a z : Int} {s x : Sp} : x ∈ pcsS a z s ↔ (x = leftS s a ∧ s.from_ < min s.till a) ∨ (x = rightS s z ∧ max s.from_ z < s.till) := by
 unfold pcsS okS leftS rightS
 simp only [decide_eq_true_eq]
 rw [List.mem_append]
 constructor
 · rintro (h | h)
   · split at h
     · rename_i h1; exact .inl ⟨by simpa using h, h1⟩
     · cases h
   · split at h
     · rename_i h1; exact .inr ⟨by simpa using h, h1⟩
     · cases h
 · rintro (⟨h, h1⟩ | ⟨h, h1⟩)
   · left; rw [if_pos h1]; simpa using h
   · right; rw [if_pos h1]; simpa using h
theorem pcs_in {a z : Int} {s : Sp} {k : Int} : (∃ x ∈ pcsS a z s, inS x k) ↔ inS s k ∧ ¬ (a ≤ k ∧ k < z) := by
 constructor
 · rintro ⟨x, hx, hk⟩
   unfold inS at *
   rcases pcs_mem.1 hx with ⟨rfl, h⟩ | ⟨rfl, h⟩
   · simp only [leftS] at hk; omega
   · simp only [rightS] at hk; omega
 · rintro ⟨h, hn⟩
   unfold inS at h
   by_cases hk : k < a
   · exact ⟨_, pcs_mem.2 (.inl ⟨rfl, by omega⟩), by unfold inS leftS; simp only; omega⟩
   · exact ⟨_, pcs_mem.2 (.inr ⟨rfl, by omega⟩), by unfold inS rightS; simp only; omega⟩
theorem pcs_ok {id a z : Int} {s x : Sp} (hs : s.owner = id ∧ 1 ≤ s.epoch ∧ s.from_ < s.till) (hx : x ∈ pcsS a z s) : (x.owner = id ∧ 1 ≤ x.epoch ∧ x.from_ < x.till) ∧ s.from_ ≤ x.from_ ∧ x.till ≤ s.till ∧ x.epoch = s.epoch := by
 rcases pcs_mem.1 hx with ⟨rfl, h⟩ | ⟨rfl, h⟩
 · refine ⟨⟨hs.1, hs.2.1, h⟩, ?_, ?_, rfl⟩ <;> simp only [leftS] <;> omega
 · refine ⟨⟨hs.1, hs.2.1, h⟩, ?_, ?_, rfl⟩ <;> simp only [rightS] <;> omega
theorem pcsL_ok {id a z : Int} {l : List Sp} (hl : OkSp id l) (haz : a < z) : OkSp id (l.flatMap (pcsS a z)) := by
 refine ⟨fun x hx => ?_, ?_⟩
 · obtain ⟨s, hs, hx⟩ := List.mem_flatMap.1 hx
   exact (pcs_ok (hl.1 s hs) hx).1
 · rw [List.pairwise_flatMap]
   refine ⟨fun s hs => ?_, hl.2.imp_of_mem fun {s t} hs ht hst x hx y hy => ?_⟩
   · unfold pcsS
     rw [List.pairwise_append]
     refine ⟨by split <;> simp, by split <;> simp, fun x hx y hy => ?_⟩
     split at hx
     · split at hy
       · simp only [List.mem_singleton] at hx hy
         subst hx hy
         simp only [leftS, rightS]
         omega
       · cases hy
     · cases hx
   · have h1 := pcs_ok (hl.1 s hs) hx
     have h2 := pcs_ok (hl.1 t ht) hy
     omega
theorem epS_pcs {id a z : Int} {l : List Sp} (hl : OkSp id l) (haz : a < z) (k : Int) : epS (l.flatMap (pcsS a z)) k = if a ≤ k ∧ k < z then 0 else epS l k := by
 by_cases hk : ∃ x ∈ l.flatMap (pcsS a z), inS x k
 · obtain ⟨x, hx, hxk⟩ := hk
   rw [epS_in (pcsL_ok hl haz) hx hxk]
   obtain ⟨s, hs, hx⟩ := List.mem_flatMap.1 hx
   obtain ⟨h1, h2⟩ := pcs_in.1 ⟨x, hx, hxk⟩
   rw [if_neg h2, epS_in hl hs h1, (pcs_ok (hl.1 s hs) hx).2.2.2]
 · rw [epS_out fun x hx hxk => hk ⟨x, hx, hxk⟩]
   split
   · rfl
   · rename_i hn
     rw [epS_out]
     intro s hs hsk
     obtain ⟨x, hx, hxk⟩ := pcs_in.2 ⟨hsk, hn⟩
     exact hk ⟨x, List.mem_flatMap.2 ⟨s, hs, hx⟩, hxk⟩
theorem without_cut {id a z : Int} (haz : a < z) : ∀ (l : List Sp) (o : List Sp × Nat), OkSp id l → o.2 ≤ o.1.length → (∀ x ∈ o.1.take o.2, x.till ≤ a) → (∀ x ∈ o.1.drop o.2, z ≤ x.from_) → (∀ x ∈ o.1, x.from_ < x.till ∧ ∀ s ∈ l, x.till ≤ s.from_) →
 (∀ x ∈ (l.foldl (stepW a z) o).1.take (l.foldl (stepW a z) o).2, x.till ≤ a) ∧ (∀ x ∈ (l.foldl (stepW a z) o).1.drop (l.foldl (stepW a z) o).2, z ≤ x.from_)
 | [], o, _, _, h1, h2, _ => ⟨h1, h2⟩
 | s :: l, o, hl, h0, h1, h2, h3 => by
   have hl2 : OkSp id l := ⟨fun x hx => hl.1 x (List.mem_cons_of_mem _ hx), (List.pairwise_cons.1 hl.2).2⟩
   have hs := hl.1 s (List.mem_cons_self ..)
   have hsl := (List.pairwise_cons.1 hl.2).1
   have e1 := stepW_1 a z o s
   have hst : ∀ x ∈ (stepW a z o s).1, x.from_ < x.till ∧ ∀ t ∈ l, x.till ≤ t.from_ := fun x hx => by
    rw [e1] at hx
    rcases List.mem_append.1 hx with hx | hx
    · exact ⟨(h3 x hx).1, fun t ht => (h3 x hx).2 t (List.mem_cons_of_mem _ ht)⟩
    · have := pcs_ok hs hx
      exact ⟨this.1.2.2, fun t ht => by have := hsl t ht; omega⟩
   rw [List.foldl_cons]
   by_cases hlf : okS (leftS s a) = true
   · have hlt : s.from_ < min s.till a := by unfold okS leftS at hlf; simpa using hlf
     have hall : o.2 = o.1.length := by
      rcases Nat.lt_or_ge o.2 o.1.length with h | h
      · exfalso
        have hx : o.1[o.2] ∈ o.1.drop o.2 := by rw [List.drop_eq_getElem_cons h]; exact List.mem_cons_self ..
        have g1 := h2 _ hx
        have g2 := h3 _ (List.getElem_mem h)
        have g3 := g2.2 s (List.mem_cons_self ..)
        omega
      · omega
     have e2 : (stepW a z o s).2 = o.1.length + 1 := by
      unfold stepW
      simp only [hlf]
      rw [if_pos ⟨trivial, by show s.from_ < a; omega⟩]
     have e3 : (stepW a z o s).1 = (o.1 ++ [leftS s a]) ++ (if okS (rightS s z) = true then [rightS s z] else []) := by rw [e1]; unfold pcsS; rw [if_pos hlf, List.append_assoc]
     have e4 : (o.1 ++ [leftS s a]).length = o.1.length + 1 := by simp
     refine without_cut haz l _ hl2 (by rw [e2, e3, List.length_append, e4]; omega) (fun x hx => ?_) (fun x hx => ?_) hst
     · rw [e2, e3, List.take_left' e4] at hx
       rcases List.mem_append.1 hx with hx | hx
       · exact h1 x (by rw [hall, List.take_length]; exact hx)
       · simp only [List.mem_singleton] at hx
         subst hx
         simp only [leftS]
         omega
     · rw [e2, e3, List.drop_left' e4] at hx
       split at hx
       · simp only [List.mem_singleton] at hx
         subst hx
         simp only [rightS]
         omega
       · cases hx
   · have e2 : (stepW a z o s).2 = o.2 := by
      unfold stepW
      simp only [hlf]
      rw [if_neg (fun h => by simp at h)]
     have e3 : (stepW a z o s).1 = o.1 ++ (if okS (rightS s z) = true then [rightS s z] else []) := by rw [e1]; unfold pcsS; rw [if_neg hlf, List.nil_append]
     refine without_cut haz l _ hl2 (by rw [e2, e3, List.length_append]; omega) (fun x hx => ?_) (fun x hx => ?_) hst
     · rw [e2, e3, List.take_append_of_le_length h0] at hx
       exact h1 x hx
     · rw [e2, e3, List.drop_append_of_le_length h0] at hx
       rcases List.mem_append.1 hx with hx | hx
       · exact h2 x hx
       · split at hx
         · simp only [List.mem_singleton] at hx
           subst hx
           simp only [rightS]
           omega
         · cases hx
theorem lose_ok {id a z : Int} {l : List Sp} (hl : OkSp id l) (haz : a < z) : OkSp id (withoutS a z l).1 ∧ ∀ k, epS (withoutS a z l).1 k = if a ≤ k ∧ k < z then 0 else epS l k := by
 have e : (withoutS a z l).1 = l.flatMap (pcsS a z) := by unfold withoutS; rw [without_pcs]; rfl
 rw [e]
 exact ⟨pcsL_ok hl haz, epS_pcs hl haz⟩
theorem given_ok {id a z ep : Int} {l : List Sp} (hl : OkSp id l) (haz : a < z) (hep : 1 ≤ ep) : OkSp id (givenS a z id ep l) ∧ ∀ k, epS (givenS a z id ep l) k = if a ≤ k ∧ k < z then ep else epS l k := by
 obtain ⟨h1, h2⟩ := lose_ok hl haz
 obtain ⟨h3, h4⟩ := without_cut haz l ([], 0) hl (Nat.le_refl _) (by simp) (by simp) (by simp)
 obtain ⟨p, hp⟩ : ∃ p, withoutS a z l = p := ⟨_, rfl⟩
 have hp' : l.foldl (stepW a z) ([], 0) = p := hp
 rw [hp'] at h3 h4
 have hg : givenS a z id ep l = p.1.take p.2 ++ [⟨a, z, id, ep⟩] ++ p.1.drop p.2 := by unfold givenS; rw [hp]
 rw [hp] at h1 h2
 have hpt : p.1.take p.2 ++ p.1.drop p.2 = p.1 := List.take_append_drop ..
 have hpw := h1.2
 rw [← hpt, List.pairwise_append] at hpw
 have hok : OkSp id (givenS a z id ep l) := by
  rw [hg]
  refine ⟨fun x hx => ?_, ?_⟩
  · rw [List.mem_append, List.mem_append, List.mem_singleton] at hx
    rcases hx with (hx | rfl) | hx
    · exact h1.1 x (List.mem_of_mem_take hx)
    · exact ⟨rfl, hep, haz⟩
    · exact h1.1 x (List.mem_of_mem_drop hx)
  · rw [List.append_assoc, List.pairwise_append]
    refine ⟨hpw.1, ?_, fun x hx y hy => ?_⟩
    · rw [List.singleton_append, List.pairwise_cons]
      exact ⟨fun y hy => h4 y hy, hpw.2.1⟩
    · rcases List.mem_append.1 hy with hy | hy
      · simp only [List.mem_singleton] at hy
        subst hy
        exact h3 x hx
      · exact hpw.2.2 x hx y hy
 refine ⟨hok, fun k => ?_⟩
 have hmem : ∀ x, x ∈ givenS a z id ep l ↔ x ∈ p.1 ∨ x = ⟨a, z, id, ep⟩ := fun x => by
  rw [hg]
  have : x ∈ p.1 ↔ x ∈ p.1.take p.2 ∨ x ∈ p.1.drop p.2 := by rw [← List.mem_append, hpt]
  rw [List.mem_append, List.mem_append, List.mem_singleton, this]
  constructor
  · rintro ((h | h) | h)
    · exact .inl (.inl h)
    · exact .inr h
    · exact .inl (.inr h)
  · rintro ((h | h) | h)
    · exact .inl (.inl h)
    · exact .inr h
    · exact .inl (.inr h)
 split
 · rename_i hk
   rw [epS_in hok ((hmem _).2 (.inr rfl)) hk]
 · rename_i hk
   have h5 := h2 k
   rw [if_neg hk] at h5
   rw [← h5]
   by_cases hx : ∃ x ∈ p.1, inS x k
   · obtain ⟨x, hx, hxk⟩ := hx
     rw [epS_in hok ((hmem _).2 (.inl hx)) hxk, epS_in h1 hx hxk]
   · rw [epS_out (l := p.1) fun x h hxk => hx ⟨x, h, hxk⟩, epS_out]
     intro x h hxk
     rcases (hmem x).1 h with h | rfl
     · exact hx ⟨x, h, hxk⟩
     · exact hk hxk
theorem reach_ok {id : Int} : ∀ {l : List Sp} {k : Int}, OkSp id l → k ≤ reachS k l ∧ (∀ i, k ≤ i → i < reachS k l → ∃ s ∈ l, inS s i) ∧ ∀ s ∈ l, ¬ inS s (reachS k l)
 | [], k, _ => ⟨Int.le_refl _, fun i h1 h2 => absurd h2 (by unfold reachS; simp; omega), by simp⟩
 | s :: l, k, hl => by
   have hl2 : OkSp id l := ⟨fun x hx => hl.1 x (List.mem_cons_of_mem _ hx), (List.pairwise_cons.1 hl.2).2⟩
   have hs := hl.1 s (List.mem_cons_self ..)
   have hsl := (List.pairwise_cons.1 hl.2).1
   have e : reachS k (s :: l) = reachS (if s.from_ ≤ k ∧ k < s.till then s.till else k) l := rfl
   rw [e]
   by_cases hk : s.from_ ≤ k ∧ k < s.till
   · rw [if_pos hk]
     obtain ⟨h1, h2, h3⟩ := reach_ok (k := s.till) hl2
     refine ⟨by omega, fun i hi hr => ?_, fun x hx => ?_⟩
     · by_cases hit : i < s.till
       · exact ⟨s, List.mem_cons_self .., by omega, hit⟩
       · obtain ⟨x, hx, hxi⟩ := h2 i (by omega) hr
         exact ⟨x, List.mem_cons_of_mem _ hx, hxi⟩
     · rcases List.mem_cons.1 hx with rfl | hx
       · unfold inS; omega
       · exact h3 x hx
   · rw [if_neg hk]
     obtain ⟨h1, h2, h3⟩ := reach_ok (k := k) hl2
     refine ⟨h1, fun i hi hr => ?_, fun x hx => ?_⟩
     · obtain ⟨x, hx, hxi⟩ := h2 i hi hr
       exact ⟨x, List.mem_cons_of_mem _ hx, hxi⟩
     · rcases List.mem_cons.1 hx with rfl | hx
       · by_cases hlt : k < x.from_
         · have hr : reachS k l = k := by
            rcases (show k < reachS k l ∨ reachS k l ≤ k by omega) with h | h
            · obtain ⟨y, hy, hyk⟩ := h2 k (Int.le_refl _) h
              have := hsl y hy
              unfold inS at hyk
              omega
            · omega
           rw [hr]
           exact hk
         · unfold inS; omega
       · exact h3 x hx
theorem mine_one {id : Int} {l : List Sp} {k : Int} (hl : OkSp id l) (hk : 0 ≤ k ∧ k < 1000000) : mineS l k 1 = decide (0 < epS l k) := by
 obtain ⟨h1, h2, h3⟩ := reach_ok (k := k) hl
 unfold mineS
 rw [decide_eq_true (show someB k 1 1099511627776 by unfold someB; omega), Bool.true_and, decide_eq_decide, epS_pos hl]
 constructor
 · intro h; exact h2 k (Int.le_refl _) (by omega)
 · rintro ⟨s, hs, hsk⟩
   rcases (show k < reachS k l ∨ reachS k l ≤ k by omega) with h | h
   · omega
   · have : reachS k l = k := by omega
     rw [this] at h3
     exact absurd hsk (h3 s hs)
theorem mine_two {id : Int} {l : List Sp} {k : Int} (hl : OkSp id l) (hk : 0 ≤ k ∧ k < 1000000) : mineS l k 2 = (decide (0 < epS l k) && decide (0 < epS l (k + 1))) := by
 obtain ⟨h1, h2, h3⟩ := reach_ok (k := k) hl
 unfold mineS
 rw [decide_eq_true (show someB k 2 1099511627776 by unfold someB; omega), Bool.true_and, ← Bool.decide_and, decide_eq_decide, epS_pos hl, epS_pos hl]
 constructor
 · intro h; exact ⟨h2 k (Int.le_refl _) (by omega), h2 (k + 1) (by omega) (by omega)⟩
 · rintro ⟨⟨s, hs, hsk⟩, t, ht, htk⟩
   rcases (show (k + 1) < reachS k l ∨ reachS k l ≤ (k + 1) by omega) with h | h
   · omega
   · have : reachS k l = k ∨ reachS k l = k + 1 := by omega
     rcases this with e | e
     · rw [e] at h3; exact absurd hsk (h3 s hs)
     · rw [e] at h3; exact absurd htk (h3 t ht)
theorem few_sp {id z : Int} : ∀ {l : List Sp} {a : Int}, OkSp id l → (∀ s ∈ l, a ≤ s.from_ ∧ s.till ≤ z) → a ≤ z → (l.length : Int) ≤ z - a
 | [], a, _, _, h => by simp; omega
 | s :: l, a, hl, hb, _ => by
   have hs := hl.1 s (List.mem_cons_self ..)
   have h1 := hb s (List.mem_cons_self ..)
   have := few_sp (l := l) (a := s.till) ⟨fun x hx => hl.1 x (List.mem_cons_of_mem _ hx), (List.pairwise_cons.1 hl.2).2⟩ (fun x hx => ⟨(List.pairwise_cons.1 hl.2).1 x hx, (hb x (List.mem_cons_of_mem _ hx)).2⟩) h1.2
   simp only [List.length_cons]
   omega
structure SpSt (id z : Int) (l : List Sp) (f : Int → Int) : Prop where
 ok : OkSp id l
 low : ∀ s ∈ l, 0 ≤ s.from_ ∧ s.till ≤ z
 ep : ∀ k, epS l k = f k
theorem SpSt.lose {id z a b : Int} {l : List Sp} {f : Int → Int} (h : SpSt id z l f) (hab : a < b) : SpSt id z (withoutS a b l).1 (fun k => if a ≤ k ∧ k < b then 0 else f k) := by
 obtain ⟨h1, h2⟩ := lose_ok h.ok hab
 refine ⟨h1, fun s hs => ?_, fun k => by rw [h2, h.ep]⟩
 have e : (withoutS a b l).1 = l.flatMap (pcsS a b) := by unfold withoutS; rw [without_pcs]; rfl
 rw [e] at hs
 obtain ⟨t, ht, hs⟩ := List.mem_flatMap.1 hs
 have := pcs_ok (h.ok.1 t ht) hs
 have := h.low t ht
 omega
theorem SpSt.give {id z a b ep : Int} {l : List Sp} {f : Int → Int} (h : SpSt id z l f) (hab : 0 ≤ a ∧ a < b ∧ b ≤ z) (hep : 1 ≤ ep) : SpSt id z (givenS a b id ep l) (fun k => if a ≤ k ∧ k < b then ep else f k) := by
 obtain ⟨h1, h2⟩ := given_ok h.ok hab.2.1 hep
 refine ⟨h1, fun s hs => ?_, fun k => by rw [h2, h.ep]⟩
 unfold givenS at hs
 have hl := (h.lose hab.2.1).low
 rw [List.mem_append, List.mem_append, List.mem_singleton] at hs
 rcases hs with (hs | rfl) | hs
 · exact hl s (List.mem_of_mem_take hs)
 · simp only; omega
 · exact hl s (List.mem_of_mem_drop hs)
theorem SpSt.nil (id z : Int) : SpSt id z [] (fun _ => 0) := ⟨⟨by simp, List.Pairwise.nil⟩, by simp, fun _ => rfl⟩
end Go.Proofs.YtjahaflkdpmhpaaGreat
