/- Plain laws of what zns does. -/
import Derived.Test.YtcjmcfjjbicimaaAway
import Derived.Test.YtcjmcfjjbicimaaKeepsPlain
namespace Go.Proofs.Ytcjmcfjjbicimaa
open Go.RowKit

theorem cnt_set (s : List Int) : ∀ (zs : List Zn) (i : Nat) (x : Zn) (h : i < zs.length), cntZ s (zs.set i x) + (if zs[i].st ∈ s then 1 else 0) = cntZ s zs + (if x.st ∈ s then 1 else 0)
  | z :: zs, 0, x, _ => by
    simp only [List.set_cons_zero, List.getElem_cons_zero, cntZ, List.filter_cons]
    by_cases h1 : z.st ∈ s <;> by_cases h2 : x.st ∈ s <;> simp [h1, h2]
  | z :: zs, i + 1, x, h => by
    have ih := cnt_set s zs i x (by simpa using h)
    simp only [List.set_cons_succ, List.getElem_cons_succ, cntZ, List.filter_cons] at ih ⊢
    by_cases h1 : z.st ∈ s <;> simp only [h1, decide_true, decide_false, if_true, List.length_cons] <;> first | omega | (simp only [Bool.false_eq_true, if_false]; omega)
theorem openS_mem {n : Int} : n ∈ openS ↔ n = 1 ∨ n = 2 := by simp [openS]
theorem activeS_mem {n : Int} : n ∈ activeS ↔ n = 1 ∨ n = 2 ∨ n = 3 := by simp [activeS]
theorem open_active {n : Int} (h : n ∈ openS) : n ∈ activeS := by rw [openS_mem] at h; rw [activeS_mem]; omega

theorem close_ok {z : Zn} {most : Int} (h : okZ z most) (h1 : z.st = 1) : okZ (closeZ z).1 most ∧ (closeZ z).1.fe = z.fe ∧ ¬ (closeZ z).1.st ∈ openS ∧ (closeZ z).2 = 0 := by
  unfold closeZ
  rw [if_neg (by omega)]
  obtain ⟨a, b, c, e⟩ := h
  have hl : 0 < z.d.length ∧ (z.d.length : Int) < most := by omega
  rw [if_neg (show ¬ z.d.length = 0 by omega)]
  exact ⟨⟨a, b, c, .inr (.inl ⟨.inr rfl, hl.1, hl.2⟩)⟩, rfl, by rw [openS_mem]; show ¬ ((3 : Int) = 1 ∨ (3 : Int) = 2); omega, rfl⟩

/-- zones after room was made for the i-th -/
inductive Roomed (d : Zd) (i : Nat) (z : Zn) (zs : List Zn) : Prop where
  | was (h : z.st ∈ openS) (e : zs = d.z) : Roomed d i z zs
  | free (h : ¬ z.st ∈ openS) (ha : z.st ∈ activeS ∨ (cntZ activeS d.z : Int) < d.act) (ho : (cntZ openS d.z : Int) < d.opn) (e : zs = d.z) : Roomed d i z zs
  | shut (k : Nat) (hk : k < d.z.length) (h : ¬ z.st ∈ openS) (ha : z.st ∈ activeS ∨ (cntZ activeS d.z : Int) < d.act) (h1 : d.z[k].st = 1) (e : zs = d.z.set k (closeZ d.z[k]).1) : Roomed d i z zs
theorem roomed {d : Zd} {i : Nat} (hi : i < d.z.length) (h : (roomK d i).1 = 0) : Roomed d i d.z[i] (roomK d i).2 := by
  unfold roomK at h ⊢
  rw [getD_at hi] at h ⊢
  by_cases h1 : d.z[i].st ∈ openS
  · rw [if_pos h1]; exact .was h1 rfl
  · rw [if_neg h1] at h ⊢
    by_cases h2 : ¬ d.z[i].st ∈ activeS ∧ d.act ≤ (cntZ activeS d.z : Int)
    · rw [if_pos h2] at h; cases h
    · rw [if_neg h2] at h ⊢
      have ha : d.z[i].st ∈ activeS ∨ (cntZ activeS d.z : Int) < d.act := by
        by_cases h3 : d.z[i].st ∈ activeS
        · exact .inl h3
        · by_cases h4 : (cntZ activeS d.z : Int) < d.act
          · exact .inr h4
          · exact absurd ⟨h3, by omega⟩ h2
      by_cases h3 : (cntZ openS d.z : Int) < d.opn
      · rw [if_pos h3]; exact .free h1 ha h3 rfl
      · rw [if_neg h3] at h ⊢
        by_cases h4 : impl? d.z < d.z.length
        · rw [if_pos h4]
          have h5 : d.z[impl? d.z].st = 1 := by
            have : (d.z[impl? d.z].st == 1) = true := List.findIdx_getElem (p := fun z : Zn => z.st == 1) (xs := d.z) (w := h4)
            exact beq_iff_eq.1 this
          exact .shut _ h4 h1 ha h5 (by rw [getD_at h4])
        · rw [if_neg h4] at h; cases h

/-- a command has changed its zone to x -/
def Moved (d : Zd) (i : Nat) (y : Zd) : Prop :=
  ∃ (hi : i < d.z.length) (x : Zn) (zs : List Zn), y = ⟨d.cap, d.opn, d.act, zs.set i x⟩ ∧ okZ x d.cap ∧ d.z[i].fe ≤ x.fe ∧
    (zs = d.z ∧ (x.st ∈ openS → d.z[i].st ∈ openS) ∧ (x.st ∈ activeS → d.z[i].st ∈ activeS) ∨ Roomed d i d.z[i] zs)
theorem roomed_len {d : Zd} {i : Nat} {z : Zn} {zs : List Zn} (h : Roomed d i z zs) : zs.length = d.z.length := by
  cases h <;> subst_vars <;> simp
theorem all_set {P : Zn → Prop} {zs : List Zn} {i : Nat} {x : Zn} (h : ∀ z ∈ zs, P z) (hx : P x) : ∀ z ∈ zs.set i x, P z := fun z hz => by
  rcases List.mem_or_eq_of_mem_set hz with h1 | rfl
  · exact h z h1
  · exact hx
theorem moved_ok {d y : Zd} {i : Nat} (hd : okD d) (h : Moved d i y) : okD y := by
  obtain ⟨hi, x, zs, rfl, hx, hfe, hz⟩ := h
  obtain ⟨⟨b1, b2, b3, b4, b5, b6, b7⟩, ho, ha, hall⟩ := hd
  have key : zs.length = d.z.length ∧ (∀ z ∈ zs, okZ z d.cap) ∧ (cntZ openS (zs.set i x) : Int) ≤ d.opn ∧ (cntZ activeS (zs.set i x) : Int) ≤ d.act := by
    rcases hz with ⟨rfl, h1, h2⟩ | hr
    · refine ⟨rfl, hall, ?_, ?_⟩
      · have := cnt_set openS d.z i x hi
        by_cases hx1 : x.st ∈ openS
        · rw [if_pos hx1, if_pos (h1 hx1)] at this; omega
        · rw [if_neg hx1] at this; omega
      · have := cnt_set activeS d.z i x hi
        by_cases hx1 : x.st ∈ activeS
        · rw [if_pos hx1, if_pos (h2 hx1)] at this; omega
        · rw [if_neg hx1] at this; omega
    · have hxo : (if x.st ∈ openS then 1 else 0) ≤ (1 : Nat) := by split <;> omega
      have hxa : (if x.st ∈ activeS then 1 else 0) ≤ (1 : Nat) := by split <;> omega
      cases hr with
      | was h e =>
        subst e
        refine ⟨rfl, hall, ?_, ?_⟩
        · have := cnt_set openS d.z i x hi
          rw [if_pos h] at this; omega
        · have := cnt_set activeS d.z i x hi
          rw [if_pos (open_active h)] at this; omega
      | free h hac hoc e =>
        subst e
        refine ⟨rfl, hall, ?_, ?_⟩
        · have := cnt_set openS d.z i x hi
          omega
        · have := cnt_set activeS d.z i x hi
          rcases hac with h3 | h3
          · rw [if_pos h3] at this; omega
          · omega
      | shut k hk h hac h1 e =>
        subst e
        obtain ⟨c1, c2, c3, c4⟩ := close_ok (hall _ (List.getElem_mem hk)) h1
        have hik : i ≠ k := fun e => h (by subst e; rw [h1]; decide)
        have hi' : i < (d.z.set k (closeZ d.z[k]).1).length := by simpa using hi
        have hgi : (d.z.set k (closeZ d.z[k]).1)[i] = d.z[i] := by rw [List.getElem_set_ne (fun e => hik e.symm)]
        refine ⟨by simp, all_set hall c1, ?_, ?_⟩
        · have t1 := cnt_set openS d.z k (closeZ d.z[k]).1 hk
          have t2 := cnt_set openS (d.z.set k (closeZ d.z[k]).1) i x hi'
          rw [if_neg c3, if_pos (by rw [h1]; decide)] at t1
          omega
        · have t1 := cnt_set activeS d.z k (closeZ d.z[k]).1 hk
          have t2 := cnt_set activeS (d.z.set k (closeZ d.z[k]).1) i x hi'
          rw [if_pos (show d.z[k].st ∈ activeS by rw [h1]; decide)] at t1
          rw [hgi] at t2
          have hca : (if (closeZ d.z[k]).1.st ∈ activeS then 1 else 0) ≤ (1 : Nat) := by split <;> omega
          rcases hac with h3 | h3
          · rw [if_pos h3] at t2; omega
          · omega
  obtain ⟨k1, k2, k3, k4⟩ := key
  refine ⟨⟨?_, ?_, b3, b4, b5, b6, ?_⟩, k3, k4, all_set k2 hx⟩
  · show 1 ≤ (zs.set i x).length; rw [List.length_set, k1]; exact b1
  · show (zs.set i x).length ≤ 64; rw [List.length_set, k1]; exact b2
  · show d.act ≤ ((zs.set i x).length : Int); rw [List.length_set, k1]; exact b7

theorem append_moved {d : Zd} {i : Nat} {c : Cm} (hi : i < d.z.length) (h : (appendK d i c).1 = 0) :
    roomZ d.z[i] d.cap c.data = 0 ∧ (roomK d i).1 = 0 ∧ (appendK d i c).2.1 = (roomK d i).2.set i (grownZ d.z[i] d.cap c.data) := by
  unfold appendK at h ⊢
  rw [getD_at hi] at h ⊢
  dsimp only at h ⊢
  by_cases h1 : (appZ d.z[i] d.cap c.data).2.2 ≠ 0
  · rw [if_pos h1] at h; exact absurd h h1
  · rw [if_neg h1] at h ⊢
    by_cases h2 : (roomK d i).1 ≠ 0
    · rw [if_pos h2] at h; exact absurd h h2
    · rw [if_neg h2]
      have h3 : roomZ d.z[i] d.cap c.data = 0 := by
        have h1 := Decidable.not_not.1 h1
        unfold appZ at h1
        split at h1
        · assumption
        · exact h1
      refine ⟨h3, Decidable.not_not.1 h2, ?_⟩
      unfold appZ
      rw [if_pos h3]
theorem moved_keep {d : Zd} {i : Nat} (hi : i < d.z.length) {x : Zn} (hx : okZ x d.cap) (hf : d.z[i].fe ≤ x.fe) (h1 : x.st ∈ openS → d.z[i].st ∈ openS) (h2 : x.st ∈ activeS → d.z[i].st ∈ activeS) : Moved d i ⟨d.cap, d.opn, d.act, d.z.set i x⟩ :=
  ⟨hi, x, d.z, rfl, hx, hf, .inl ⟨rfl, h1, h2⟩⟩
theorem doK_moved {d : Zd} {i : Nat} {c : Cm} (hd : okD d) (hi : i < d.z.length) (h : (doK d i c).1 = 0) : c.op = 2 ∧ (doK d i c).2.1 = d.z ∨ c.op ≠ 2 ∧ Moved d i ⟨d.cap, d.opn, d.act, (doK d i c).2.1⟩ := by
  have hz : okZ d.z[i] d.cap := hd.2.2.2 _ (List.getElem_mem hi)
  have hcap := hd.1.2.2
  unfold doK at h ⊢
  by_cases c1 : c.op = 1
  · rw [if_pos c1] at h ⊢
    obtain ⟨h1, h2, h3⟩ := append_moved hi h
    obtain ⟨g1, g2, g3, g4⟩ := roomZ_zero h1
    exact .inr ⟨by omega, hi, _, _, by rw [h3], grown_ok g1 g3 g4, Int.le_refl _, .inr (roomed hi h2)⟩
  rw [if_neg c1] at h ⊢
  by_cases c2 : c.op = 2
  · rw [if_pos c2]; exact .inl ⟨c2, rfl⟩
  rw [if_neg c2] at h ⊢
  right
  refine ⟨c2, ?_⟩
  by_cases c3 : c.op = 3
  · rw [if_pos c3, getD_at hi]
    exact moved_keep hi ⟨hz.1, hz.2.1, hz.2.2.1, .inl ⟨rfl, rfl⟩⟩ (Int.le_refl _) (fun h => by rw [openS_mem] at h; have : (rstZ d.z[i]).st = 0 := rfl; omega) (fun h => by rw [activeS_mem] at h; have : (rstZ d.z[i]).st = 0 := rfl; omega)
  rw [if_neg c3] at h ⊢
  by_cases c4 : c.op = 4
  · rw [if_pos c4, getD_at hi]
    exact moved_keep hi ⟨hz.1, hz.2.1, hz.2.2.1, .inr (.inr (.inr ⟨rfl, by have := hz.2.2.2; show (d.z[i].d.length : Int) ≤ d.cap; omega⟩))⟩ (Int.le_refl _) (fun h => by rw [openS_mem] at h; have : (finZ d.z[i]).st = 4 := rfl; omega) (fun h => by rw [activeS_mem] at h; have : (finZ d.z[i]).st = 4 := rfl; omega)
  rw [if_neg c4] at h ⊢
  by_cases c5 : c.op = 5
  · rw [if_pos c5] at h ⊢
    unfold openK at h ⊢
    rw [getD_at hi] at h ⊢
    dsimp only at h ⊢
    by_cases h1 : (openZ d.z[i] d.cap).2 ≠ 0
    · rw [if_pos h1] at h; exact absurd h h1
    · rw [if_neg h1] at h ⊢
      by_cases h2 : (roomK d i).1 ≠ 0
      · rw [if_pos h2] at h; exact absurd h h2
      · rw [if_neg h2]
        have h4 : ¬ d.z[i].st = 4 := by
          intro h4
          apply h1
          unfold openZ
          rw [if_neg (Decidable.not_not.2 hz), if_pos h4]
          decide
        have he : (openZ d.z[i] d.cap).1 = ⟨2, d.z[i].fe, d.z[i].d⟩ := by unfold openZ; rw [if_neg (Decidable.not_not.2 hz), if_neg h4]
        refine ⟨hi, _, _, rfl, ?_, ?_, .inr (roomed hi (Decidable.not_not.1 h2))⟩
        · rw [he]; exact ⟨hz.1, hz.2.1, hz.2.2.1, .inr (.inr (.inl ⟨rfl, by have := hz.2.2.2; show (d.z[i].d.length : Int) < d.cap; omega⟩))⟩
        · rw [he]; exact Int.le_refl _
  rw [if_neg c5] at h ⊢
  by_cases c6 : c.op = 6
  · rw [if_pos c6] at h ⊢
    unfold closeK at h ⊢
    rw [getD_at hi] at h ⊢
    dsimp only at h ⊢
    by_cases h1 : (closeZ d.z[i]).2 = 0
    · rw [if_pos h1]
      have h4 : ¬ (d.z[i].st = 0 ∨ d.z[i].st = 4) := by
        intro h4
        unfold closeZ at h1
        rw [if_pos h4] at h1
        cases h1
      have he : (closeZ d.z[i]).1 = ⟨if d.z[i].d.length = 0 then 0 else 3, d.z[i].fe, d.z[i].d⟩ := by unfold closeZ; rw [if_neg h4]
      have hs := hz.2.2.2
      refine moved_keep hi ?_ (by rw [he]; exact Int.le_refl _) ?_ ?_
      · rw [he]
        refine ⟨hz.1, hz.2.1, hz.2.2.1, ?_⟩
        by_cases hl : d.z[i].d.length = 0
        · exact .inl ⟨by rw [if_pos hl], hl⟩
        · exact .inr (.inl ⟨.inr (by rw [if_neg hl]), by show 0 < d.z[i].d.length; omega, by show (d.z[i].d.length : Int) < d.cap; omega⟩)
      · rw [he, openS_mem]
        intro h5
        exfalso
        by_cases hl : d.z[i].d.length = 0
        · simp only [if_pos hl] at h5; omega
        · simp only [if_neg hl] at h5; omega
      · intro _
        rw [activeS_mem]; omega
    · rw [if_neg h1] at h; exact absurd h h1
  rw [if_neg c6] at h ⊢
  by_cases c7 : c.op = 7
  · rw [if_pos c7] at h ⊢
    unfold fenceK at h ⊢
    rw [getD_at hi] at h ⊢
    by_cases h1 : c.epoch ≤ d.z[i].fe
    · rw [if_pos h1] at h; cases h
    · rw [if_neg h1]
      have := hz.2.2.1
      exact moved_keep hi ⟨hz.1, hz.2.1, by show 0 ≤ c.epoch; omega, hz.2.2.2⟩ (by show d.z[i].fe ≤ c.epoch; omega) id id
  rw [if_neg c7] at h ⊢
  unfold tornK at h ⊢
  dsimp only at h ⊢
  by_cases h1 : (appendK d i c).1 ≠ 0
  · rw [if_pos h1] at h; exact absurd h h1
  · rw [if_neg h1] at h ⊢
    obtain ⟨k1, k2, k3⟩ := append_moved hi (Decidable.not_not.1 h1)
    obtain ⟨g1, g2, g3, g4⟩ := roomZ_zero k1
    rw [getD_at hi] at h ⊢
    by_cases h2 : (tornZ d.z[i] d.cap c.data c.n).2 = 0
    · rw [if_pos h2, k3]
      have he : ∃ m : Nat, (tornZ d.z[i] d.cap c.data c.n).1 = grownZ d.z[i] d.cap (c.data.take m) := by
        unfold tornZ at h2 ⊢
        rw [if_neg (by rw [k1]; decide)] at h2 ⊢
        by_cases h5 : 0 ≤ c.n ∧ c.n ≤ c.data.length
        · rw [if_pos h5]; exact ⟨_, rfl⟩
        · rw [if_neg h5] at h2; cases h2
      obtain ⟨m, he⟩ := he
      have hml : ((c.data.take m).length : Int) ≤ c.data.length := Int.ofNat_le.2 (by rw [List.length_take]; exact Nat.min_le_right _ _)
      refine ⟨hi, grownZ d.z[i] d.cap (c.data.take m), (roomK d i).2, ?_, grown_ok g1 g3 (by omega), Int.le_refl _, .inr (roomed hi k2)⟩
      rw [he, List.set_set]
    · rw [if_neg h2] at h; exact absurd h h2

/-- what a command answers -/
theorem doZ_cases (d : Zd) (c : Cm) :
    (∃ e, e ≠ 0 ∧ doZ d c = (d, ⟨e, 0, []⟩)) ∨ doZ d c = (d, dn0) ∨ (0 ≤ c.zone ∧ c.zone < d.z.length ∧ ((c.op = 7 ∨ c.epoch = (d.z.getD c.zone.toNat z0).fe) ∧ (doK d c.zone.toNat c).1 = 0 ∧ doZ d c = (⟨d.cap, d.opn, d.act, (doK d c.zone.toNat c).2.1⟩, (doK d c.zone.toNat c).2.2))) := by
  unfold doZ
  dsimp only
  by_cases h1 : ¬ (1 ≤ c.op ∧ c.op ≤ 8) ∨ ¬ okD d ∨ ¬ (0 ≤ c.zone ∧ c.zone < d.z.length)
  · rw [if_pos h1]; exact .inl ⟨1, by decide, rfl⟩
  · rw [if_neg h1]
    have hz : 0 ≤ c.zone ∧ c.zone < d.z.length := Decidable.not_not.1 fun h => h1 (.inr (.inr h))
    by_cases h2 : c.op ≠ 7 ∧ c.epoch ≠ (d.z.getD c.zone.toNat z0).fe
    · rw [if_pos h2]; exact .inl ⟨42, by decide, rfl⟩
    · rw [if_neg h2]
      by_cases h3 : (doK d c.zone.toNat c).1 ≠ 0
      · rw [if_pos h3]; exact .inl ⟨_, h3, rfl⟩
      · rw [if_neg h3]
        by_cases h4 : c.op = 8 ∧ c.n = 0
        · rw [if_pos h4]; exact .inr (.inl rfl)
        · rw [if_neg h4]
          refine .inr (.inr ⟨hz.1, hz.2, ?_, Decidable.not_not.1 h3, rfl⟩)
          by_cases h5 : c.op = 7
          · exact .inl h5
          · exact .inr (Decidable.not_not.1 fun h => h2 ⟨h5, h⟩)
theorem doZ_ok {d : Zd} (c : Cm) (hd : okD d) : okD (doZ d c).1 := by
  rcases doZ_cases d c with ⟨e, _, h⟩ | h | ⟨h1, h2, _, h3, h⟩
  · rw [h]; exact hd
  · rw [h]; exact hd
  · rw [h]
    rcases doK_moved hd (by omega) h3 with ⟨_, h4⟩ | ⟨_, h4⟩
    · show okD ⟨d.cap, d.opn, d.act, (doK d c.zone.toNat c).2.1⟩
      rw [h4]; exact hd
    · exact moved_ok hd h4

/-- the other zones stay, but that one may be closed -/
theorem moved_at {d y : Zd} {i : Nat} (h : Moved d i y) : ∃ k : Nat, ∀ (j : Nat) (a b : Zn), d.z[j]? = some a → y.z[j]? = some b → j ≠ i → (b = a ∨ j = k ∧ a.st = 1 ∧ b = (closeZ a).1) := by
  obtain ⟨hi, x, zs, rfl, hx, hfe, hz⟩ := h
  have same : zs = d.z → ∃ k : Nat, ∀ (j : Nat) (a b : Zn), d.z[j]? = some a → (zs.set i x)[j]? = some b → j ≠ i → (b = a ∨ j = k ∧ a.st = 1 ∧ b = (closeZ a).1) := fun e => by
    subst e
    refine ⟨0, fun j a b ha hb hji => .inl ?_⟩
    rw [List.getElem?_set_ne (fun e => hji e.symm), ha] at hb
    exact (Option.some.inj hb).symm
  rcases hz with ⟨e, _, _⟩ | hr
  · exact same e
  · cases hr with
    | was _ e => exact same e
    | free _ _ _ e => exact same e
    | shut k hk _ _ h1 e =>
      subst e
      refine ⟨k, fun j a b ha hb hji => ?_⟩
      have hb' : ((d.z.set k (closeZ d.z[k]).1).set i x)[j]? = some b := hb
      rw [List.getElem?_set_ne (fun e => hji e.symm)] at hb'
      by_cases hjk : j = k
      · subst hjk
        rw [List.getElem?_set_self hk] at hb'
        rw [List.getElem?_eq_getElem hk] at ha
        have := Option.some.inj ha
        subst this
        exact .inr ⟨rfl, h1, (Option.some.inj hb').symm⟩
      · rw [List.getElem?_set_ne (fun e => hjk e.symm), ha] at hb'
        exact .inl (Option.some.inj hb').symm
theorem close_fe {z : Zn} (h : z.st = 1) : (closeZ z).1.fe = z.fe ∧ (closeZ z).2 = 0 := by
  unfold closeZ; rw [if_neg (by omega)]; exact ⟨rfl, rfl⟩
theorem moved_fe {d y : Zd} {i : Nat} (h : Moved d i y) {j : Nat} {a b : Zn} (ha : d.z[j]? = some a) (hb : y.z[j]? = some b) : a.fe ≤ b.fe := by
  by_cases hji : j = i
  · obtain ⟨hi, x, zs, rfl, hx, hfe, hz⟩ := h
    subst hji
    have hl : zs.length = d.z.length := by rcases hz with ⟨e, _, _⟩ | hr; rw [e]; exact roomed_len hr
    have hb' : (zs.set j x)[j]? = some b := hb
    rw [List.getElem?_set_self (by omega)] at hb'
    rw [List.getElem?_eq_getElem hi] at ha
    have e1 := Option.some.inj ha
    have e2 := Option.some.inj hb'
    rw [← e1, ← e2]; exact hfe
  · obtain ⟨k, hk⟩ := moved_at h
    rcases hk j a b ha hb hji with rfl | ⟨_, h1, rfl⟩
    · exact Int.le_refl _
    · rw [(close_fe h1).1]; exact Int.le_refl _
theorem doZ_moved {d : Zd} (c : Cm) (hd : okD d) : (doZ d c).1 = d ∨ c.op ≠ 2 ∧ (doZ d c).2.e = (doZ d c).2.e ∧ 0 ≤ c.zone ∧ c.zone < d.z.length ∧ Moved d c.zone.toNat (doZ d c).1 := by
  rcases doZ_cases d c with ⟨e, _, h⟩ | h | ⟨h1, h2, _, h3, h⟩
  · rw [h]; exact .inl rfl
  · rw [h]; exact .inl rfl
  · rw [h]
    rcases doK_moved hd (by omega) h3 with ⟨_, h4⟩ | ⟨h5, h4⟩
    · exact .inl (by show (⟨d.cap, d.opn, d.act, (doK d c.zone.toNat c).2.1⟩ : Zd) = d; rw [h4])
    · exact .inr ⟨h5, rfl, h1, h2, h4⟩
theorem doZ_fe {d : Zd} (c : Cm) (hd : okD d) {j : Nat} {a b : Zn} (ha : d.z[j]? = some a) (hb : (doZ d c).1.z[j]? = some b) : a.fe ≤ b.fe := by
  rcases doZ_moved c hd with h | ⟨_, _, _, _, h⟩
  · rw [h, ha] at hb
    rw [Option.some.inj hb]; exact Int.le_refl _
  · exact moved_fe h ha hb
theorem doZ_len' (d : Zd) (c : Cm) : (doZ d c).1.z.length = d.z.length := by
  have h := doK_len d c.zone.toNat c
  unfold doZ
  dsimp only
  (repeat' split) <;> simp [h]
theorem doK_e (d : Zd) (i : Nat) (c : Cm) : (doK d i c).2.2.e = 0 := by
  have ha : (appendK d i c).2.2.e = 0 := by unfold appendK; dsimp only; (repeat' split) <;> rfl
  unfold doK tornK readK openK closeK fenceK
  dsimp only
  (repeat' split) <;> first | rfl | exact ha
/-- an error says: nothing was done -/
theorem doZ_err {d : Zd} {c : Cm} (h : (doZ d c).2.e ≠ 0) : doZ d c = (d, ⟨(doZ d c).2.e, 0, []⟩) := by
  rcases doZ_cases d c with ⟨e, _, h1⟩ | h1 | ⟨_, _, _, _, h1⟩
  · rw [h1]
  · rw [h1] at h; exact absurd rfl h
  · rw [h1] at h; exact absurd (doK_e _ _ _) h
theorem doZ_other {d : Zd} {c : Cm} {z : Zn} (hz : d.z[c.zone.toNat]? = some z) (h7 : c.op ≠ 7) (he : c.epoch ≠ z.fe) : (doZ d c).2.e ≠ 0 := by
  have hg : d.z.getD c.zone.toNat z0 = z := by rw [List.getD_eq_getElem?_getD, hz]; rfl
  unfold doZ
  by_cases h1 : ¬ (1 ≤ c.op ∧ c.op ≤ 8) ∨ ¬ okD d ∨ ¬ (0 ≤ c.zone ∧ c.zone < d.z.length)
  · rw [if_pos h1]; show (1 : Int) ≠ 0; decide
  · rw [if_neg h1, if_pos ⟨h7, by rw [hg]; exact he⟩]; show (42 : Int) ≠ 0; decide
theorem doZ_fence {d : Zd} {c : Cm} {z : Zn} (hd : okD d) (h0 : 0 ≤ c.zone) (hz : d.z[c.zone.toNat]? = some z) (h7 : c.op = 7) :
    (c.epoch ≤ z.fe → (doZ d c).2.e ≠ 0) ∧ (z.fe < c.epoch → (doZ d c).2.e = 0 ∧ ∃ b, (doZ d c).1.z[c.zone.toNat]? = some b ∧ b.fe = c.epoch) := by
  have hg : d.z.getD c.zone.toNat z0 = z := by rw [List.getD_eq_getElem?_getD, hz]; rfl
  have hl := (List.getElem?_eq_some_iff.1 hz).1
  have h1 : ¬ (¬ (1 ≤ c.op ∧ c.op ≤ 8) ∨ ¬ okD d ∨ ¬ (0 ≤ c.zone ∧ c.zone < d.z.length)) := fun h => by
    rcases h with h | h | h
    · omega
    · exact h hd
    · omega
  have hk : doK d c.zone.toNat c = fenceK d c.zone.toNat c := by
    unfold doK
    rw [if_neg (by omega), if_neg (by omega), if_neg (by omega), if_neg (by omega), if_neg (by omega), if_neg (by omega), if_pos h7]
  unfold doZ
  rw [if_neg h1, if_neg (fun h => h.1 h7)]
  dsimp only
  rw [hk]
  unfold fenceK
  rw [hg]
  constructor
  · intro h
    rw [if_pos h, if_pos (show (42 : Int) ≠ 0 by decide)]; show (42 : Int) ≠ 0; decide
  · intro h
    have hle : ¬ c.epoch ≤ z.fe := by omega
    simp only [if_neg hle]
    rw [if_neg (show ¬ (0 : Int) ≠ 0 by decide), if_neg (show ¬ (c.op = 8 ∧ c.n = 0) from fun h => by omega)]
    exact ⟨rfl, ⟨z.st, c.epoch, z.d⟩, by show (d.z.set _ _)[_]? = _; rw [List.getElem?_set_self hl], rfl⟩
end Go.Proofs.Ytcjmcfjjbicimaa
