import Derived.Test.YtlippmghgagdaaaGreatExtPlain
import Derived.Test.YtlippmghgagdaaaGreatLandLaw
import Derived.Test.YtlippmghgagdaaaGreatZnsPlain2

/- What replay computes, plainly: the map of some zones' records, blocks' bytes. -/
namespace Go.Proofs.YtlippmghgagdaaaGreat
open Go.RowKit

/-- where a record's bytes stand in its frame -/
def dataL (r : Rc) : Int := if (recL r).2 ≠ 0 then 0 else (recL r).1.length - 4 - r.data.length
/-- a record's extent, where its bytes stand at a place of a zone -/
def extOf (r : Rc) (zone off : Int) : Ex := ⟨r.lba, r.n, r.ver, if r.kind = 2 then -1 else if r.kind = 3 then r.zone else zone, if r.kind = 2 then 0 else if r.kind = 3 then r.off else off⟩
/-- what Apply answers, of no checkpoint -/
def applyE (m : List Ex) (r : Rc) (zone off : Int) : List Ex × Int :=
  if chkE m ≠ 0 ∨ checkL r ≠ 0 ∨ zone < 0 ∨ off < 0 ∨ 1099511627776 < off then ([], 1)
  else if ¬ mayE (extOf r zone off) then ([], 1)
  else if 10000 < (offer1 m (extOf r zone off)).length then ([], 2) else (offer1 m (extOf r zone off), 0)
/-- a zone's records, and where their bytes stand -/
def entsF (i : Nat) (f : Fd) : List (Rc × Int × Int) := List.zipWith (fun r a => (r, (i : Int), a + dataL r)) f.l f.at_
/-- records applied, one after the other -/
def mapGo : List (Rc × Int × Int) → List Ex → List Ex × Int
  | [], m => (m, 0)
  | x :: l, m => if (applyE m x.1 x.2.1 x.2.2).2 ≠ 0 then ([], (applyE m x.1 x.2.1 x.2.2).2) else mapGo l (applyE m x.1 x.2.1 x.2.2).1
theorem mapGo_cons (x : Rc × Int × Int) (l : List (Rc × Int × Int)) (m : List Ex) : mapGo (x :: l) m = if (applyE m x.1 x.2.1 x.2.2).2 ≠ 0 then ([], (applyE m x.1 x.2.1 x.2.2).2) else mapGo l (applyE m x.1 x.2.1 x.2.2).1 := rfl
theorem mapGo_append {l k : List (Rc × Int × Int)} {m n : List Ex} (h : mapGo l m = (n, 0)) : mapGo (l ++ k) m = mapGo k n := by
  induction l generalizing m with
  | nil => simp only [mapGo, Prod.mk.injEq, and_true] at h; subst h; rfl
  | cons x l ih =>
    rw [List.cons_append]
    rw [mapGo_cons] at h ⊢
    split at h
    · rename_i h1; injection h with _ h2; exact absurd h2 h1
    · rename_i h1; rw [if_neg h1]; exact ih h

/-- records of small blocks, that may be -/
structure GoodR (B : Int) (r : Rc) : Prop where
  kind : r.kind = 1 ∨ r.kind = 2
  lba : 0 ≤ r.lba ∧ 1 ≤ r.n ∧ r.lba + r.n ≤ B
  n : r.n ≤ 256
  ver : 0 ≤ r.ver ∧ r.ver ≤ 1000000
  rest : r.zone = 0 ∧ r.off = 0
  data : r.kind = 1 → (r.data.length : Int) = 16 * r.n
  trim : r.kind = 2 → r.data = []
theorem GoodR.check {B : Int} {r : Rc} (h : GoodR B r) (hB : B ≤ 1000000) : checkL r = 0 := by
  obtain ⟨h1, h2, h3, h4, h5, h6, h7⟩ := h
  unfold checkL
  rw [if_neg (by omega), if_neg (by omega), if_neg (by omega), if_neg (by omega), if_neg (by omega)]
  rcases h1 with h1 | h1
  · rw [if_pos (.inl h1), if_neg (by have := h6 h1; omega)]
  · rw [if_neg (by omega), if_neg (by rw [h7 h1]; simp)]
theorem GoodR.ok {B : Int} {r : Rc} (h : GoodR B r) (hB : B ≤ 1000000) : OkRc r := by
  obtain ⟨h1, h2, h3, h4, h5, h6, h7⟩ := h
  intro n hn
  simp only [recN, List.mem_cons, List.not_mem_nil, or_false] at hn
  omega
theorem GoodR.fit {B : Int} {r : Rc} (h : GoodR B r) (hB : B ≤ 1000000) : (recL r).2 = 0 := by rw [recL_ok (h.ok hB) (h.check hB)]
/-- an entry that may be: its place lies in a zone -/
def GoodX (B : Int) (x : Rc × Int × Int) : Prop := GoodR B x.1 ∧ (0 ≤ x.2.1 ∧ x.2.1 ≤ 1000) ∧ (0 ≤ x.2.2 ∧ x.2.2 ≤ 1000000)
def extX (x : Rc × Int × Int) : Ex := extOf x.1 x.2.1 x.2.2
theorem GoodX.may {B : Int} {x : Rc × Int × Int} (h : GoodX B x) (hB : B ≤ 1000000) : mayE (extX x) := by
  obtain ⟨⟨h1, h2, h3, h4, h5, h6, h7⟩, h8, h9⟩ := h
  unfold extX extOf
  rcases h1 with h1 | h1
  · rw [if_neg (by omega), if_neg (by omega), if_neg (by omega), if_neg (by omega)]
    exact ⟨⟨h2.1, by simp only; omega, by simp only; omega, by simp only; omega⟩, h4.1, by simp only; omega, by simp only; omega, h9.1, by simp only; omega, by simp only; omega⟩
  · rw [if_pos h1, if_pos h1]
    exact ⟨⟨h2.1, by simp only; omega, by simp only; omega, by simp only; omega⟩, h4.1, by simp only; omega, by simp only; omega, by simp only; omega, by simp, by simp⟩
/-- the map of good entries -/
theorem mapGo_good {B : Int} (hB : 0 ≤ B ∧ B ≤ 10000) : ∀ (l : List (Rc × Int × Int)) (L m : List Ex), (∀ x ∈ l, GoodX B x) → chainE 0 m → (∀ b, Best L b (see m b)) → (∀ e ∈ L, endE e ≤ B) →
    ∃ n, mapGo l m = (n, 0) ∧ chainE 0 n ∧ (∀ b, Best (L ++ l.map extX) b (see n b)) ∧ (n.length : Int) ≤ max B m.length
  | [], L, m, _, hm, hb, _ => ⟨m, rfl, hm, by simpa using hb, by omega⟩
  | x :: l, L, m, hl, hm, hb, hL => by
    have hx := hl x (List.mem_cons_self ..)
    have hmay := hx.may (by omega)
    obtain ⟨o1, o2, o3⟩ := offer1_ok hm hmay
    have hb2 : ∀ b, Best (L ++ [extX x]) b (see (offer1 m (extX x)) b) := fun b => (hb b).offer hm hmay
    have hex : endE (extX x) ≤ B := hx.1.lba.2.2
    have hL2 : ∀ e ∈ L ++ [extX x], endE e ≤ B := by
      intro e he
      rcases List.mem_append.1 he with he | he
      · exact hL e he
      · simp only [List.mem_singleton] at he; subst he; exact hex
    have hlen : ((offer1 m (extX x)).length : Int) ≤ B := by
      refine chain_few o1 hB.1 fun b hbB => ?_
      have h1 := hb2 b
      cases hs : see (offer1 m (extX x)) b with
      | none => rfl
      | some t =>
        rw [hs] at h1
        obtain ⟨e, e1, e2, _, _⟩ := h1
        have := hL2 e e1
        unfold hasE at e2
        simp only [decide_eq_true_eq] at e2
        omega
    have ha : applyE m x.1 x.2.1 x.2.2 = (offer1 m (extX x), 0) := by
      obtain ⟨g1, g2, g3⟩ := hx
      have hc : chkE m = 0 := by unfold chkE; rw [if_pos hm]
      unfold applyE
      rw [if_neg (by rw [hc, g1.check (by omega)]; omega), if_neg (fun h => h hmay), if_neg (by have : ((offer1 m (extOf x.1 x.2.1 x.2.2)).length : Int) ≤ B := hlen; omega)]
      rfl
    obtain ⟨n, n1, n2, n3, n4⟩ := mapGo_good hB l (L ++ [extX x]) (offer1 m (extX x)) (fun y hy => hl y (List.mem_cons_of_mem _ hy)) o1 hb2 hL2
    refine ⟨n, ?_, n2, fun b => ?_, by omega⟩
    · unfold mapGo
      rw [ha]
      exact n1
    · have := n3 b
      rwa [List.append_assoc] at this

/-- how many blocks a list has -/
def manyE : List Ex → Int
  | [] => 0
  | e :: l => e.n + manyE l
theorem range_none {l : List Ex} : ∀ (k : Nat) (c : Int), (∀ b, c ≤ b → b < c + k → see l b = none) → ((List.range k).filter fun i => (see l (c + (i : Nat))).isSome) = [] := by
  intro k c h
  rw [List.filter_eq_nil_iff]
  intro i hi
  have := List.mem_range.1 hi
  rw [h (c + (i : Nat)) (by omega) (by omega)]
  simp
/-- as many as those of which the list says something -/
theorem many_see : ∀ {l : List Ex} {c : Int} (k : Nat), chainE c l → lastE c l ≤ c + k → manyE l = (((List.range k).filter fun i => (see l (c + (i : Nat))).isSome).length : Int)
  | [], c, k, _, _ => by rw [range_none k c (fun _ _ _ => rfl)]; rfl
  | e :: l, c, k, h, hk => by
    have hp := h.1.pos
    have hc := h.2.1
    have hg := lastE_ge h.2.2
    simp only [lastE] at hk
    unfold endE at hg
    obtain ⟨a, ha⟩ : ∃ a : Nat, e.lba = c + a := ⟨(e.lba - c).toNat, by omega⟩
    obtain ⟨n, hn⟩ : ∃ n : Nat, e.n = n := ⟨e.n.toNat, by omega⟩
    obtain ⟨d, hd⟩ : ∃ d : Nat, k = a + (n + d) := ⟨k - (a + n), by unfold endE at hk; omega⟩
    have ih := many_see (l := l) (c := endE e) d h.2.2 (by unfold endE at *; omega)
    have hend : endE e = c + a + n := by unfold endE; omega
    have h1 : ((List.range a).filter fun i => (see (e :: l) (c + (i : Nat))).isSome) = [] := range_none a c fun b h1 h2 => see_before (c := e.lba) ⟨h.1, Int.le_refl _, h.2.2⟩ (by omega)
    have h2 : ((List.range n).filter fun i => (see (e :: l) (c + ((a + i : Nat) : Int))).isSome) = List.range n := by
      rw [List.filter_eq_self]
      intro i hi
      have := List.mem_range.1 hi
      rw [see_cons, if_pos (by unfold hasE; simp; omega)]
      rfl
    have h3 : ((List.range d).filter fun i => (see (e :: l) (c + ((a + (n + i) : Nat) : Int))).isSome) = ((List.range d).filter fun i => (see l (endE e + (i : Nat))).isSome) := by
      refine List.filter_congr fun i hi => ?_
      have e1 : c + ((a + (n + i) : Nat) : Int) = endE e + (i : Nat) := by rw [hend]; omega
      rw [e1, see_cons, if_neg (by unfold hasE; simp; intro _; omega)]
    rw [hd, List.range_add, List.filter_append, List.filter_map, List.range_add, List.filter_append, List.filter_map, h1]
    have e4 : (fun i => (see (e :: l) (c + (i : Nat))).isSome) ∘ (fun x => a + x) = fun i => (see (e :: l) (c + ((a + i : Nat) : Int))).isSome := rfl
    have e5 : (fun i => (see (e :: l) (c + ((a + i : Nat) : Int))).isSome) ∘ (fun x => n + x) = fun i => (see (e :: l) (c + ((a + (n + i) : Nat) : Int))).isSome := rfl
    rw [e4, h2, e5, h3]
    unfold manyE
    rw [ih]
    simp
    omega
end Go.Proofs.YtlippmghgagdaaaGreat

/- Blocks' bytes by a map, plainly. -/
namespace Go.Proofs.YtlippmghgagdaaaGreat
open Go.RowKit

/-- one behind the other, from a up to z -/
def tileE : Int → List Ex → Int → Prop
  | a, [], z => a = z
  | a, p :: l, z => p.lba = a ∧ 0 < p.n ∧ tileE (endE p) l z
theorem tile_gap {a b z : Int} {l : List Ex} (hab : a ≤ b) (h : tileE b l z) : tileE a (gap1 a b ++ l) z := by
  unfold gap1
  split
  · refine ⟨rfl, by simp only; omega, ?_⟩
    have : endE ⟨a, b - a, 0, -1, 0⟩ = b := by unfold endE; simp only; omega
    rw [this]
    exact h
  · have : a = b := by omega
    subst this
    exact h
theorem tile_look : ∀ (l : List Ex) (a z : Int), chainE a l → lastE a l ≤ z → tileE a (lookGo a l z) z
  | [], a, z, _, hz => by
    have := tile_gap (a := a) (b := z) (z := z) (l := []) hz rfl
    rwa [List.append_nil] at this
  | x :: l, a, z, h, hz => tile_gap h.2.1 ⟨rfl, h.1.pos.1, tile_look l (endE x) z h.2.2 hz⟩

def zeros (n : Nat) : List UInt8 := List.replicate n 0
/-- what Bytes puts together -/
def bytesGo (zs : List Zn) : List Ex → List UInt8 → List UInt8 × Int
  | [], out => (out, 0)
  | x :: l, out =>
    if x.zone < 0 then bytesGo zs l (out ++ zeros (16 * x.n).toNat)
    else if (zs.length : Int) ≤ x.zone ∨ ((zs.getD x.zone.toNat z0).d.length : Int) - 16 * x.n < x.off then ([], 21)
    else bytesGo zs l (out ++ ((zs.getD x.zone.toNat z0).d.drop x.off.toNat).take (16 * x.n).toNat)
def bytesL (zs : List Zn) (m : List Ex) (lba n : Int) : List UInt8 × Int :=
  if chkE m ≠ 0 ∨ ¬ blocksE lba n then ([], 1) else if 4096 < n then ([], 2) else bytesGo zs (lookE m lba n) []
/-- a block's bytes -/
def blockB (zs : List Zn) (m : List Ex) (b : Int) : List UInt8 := match see m b with
  | none => zeros 16
  | some t => if t.2.1 < 0 then zeros 16 else ((zs.getD t.2.1.toNat z0).d.drop t.2.2.toNat).take 16
/-- the map's places lie in the zones -/
def FitE (zs : List Zn) (m : List Ex) : Prop := ∀ b t, see m b = some t → t.2.1 < 0 ∨ (t.2.1 < zs.length ∧ 0 ≤ t.2.2 ∧ t.2.2 + 16 ≤ ((zs.getD t.2.1.toNat z0).d.length : Int))
theorem zeros_add (a b : Nat) : zeros (a + b) = zeros a ++ zeros b := List.replicate_append_replicate.symm
theorem fm_congr {α β : Type} {f g : α → List β} : ∀ {l : List α}, (∀ x ∈ l, f x = g x) → l.flatMap f = l.flatMap g
  | [], _ => rfl
  | a :: l, h => by
    rw [List.flatMap_cons, List.flatMap_cons, h a (List.mem_cons_self ..), fm_congr fun x hx => h x (List.mem_cons_of_mem _ hx)]
theorem zeros_flat (n : Nat) : zeros (16 * n) = (List.range n).flatMap fun _ => zeros 16 := by
  induction n with
  | zero => rfl
  | succ n ih =>
    rw [List.range_succ, List.flatMap_append, ← ih, Nat.mul_add, Nat.mul_one, zeros_add]
    simp only [List.flatMap_cons, List.flatMap_nil, List.append_nil]
theorem take_flat (d : List UInt8) (o n : Nat) : (d.drop o).take (16 * n) = (List.range n).flatMap fun i => (d.drop (o + 16 * i)).take 16 := by
  induction n with
  | zero => simp
  | succ n ih =>
    rw [List.range_succ, List.flatMap_append, ← ih, Nat.mul_add, Nat.mul_one, List.take_add, List.drop_drop]
    simp
theorem flat_range_add {α : Type} (f : Nat → List α) (a b : Nat) : (List.range (a + b)).flatMap f = (List.range a).flatMap f ++ (List.range b).flatMap fun i => f (a + i) := by
  rw [List.range_add, List.flatMap_append, List.flatMap_map]
theorem bytesGo_ok {zs : List Zn} {m : List Ex} (hf : FitE zs m) : ∀ (l : List Ex) (a z : Int) (out : List UInt8), tileE a l z →
    (∀ p ∈ l, (GapE p ∧ ∀ b, hasE p b = true → see m b = none) ∨ (mayE p ∧ ∀ b, hasE p b = true → see m b = some (seeE p b))) →
    bytesGo zs l out = (out ++ (List.range (z - a).toNat).flatMap fun i => blockB zs m (a + (i : Nat)), 0)
  | [], a, z, out, ht, _ => by
    have : a = z := ht
    subst this
    simp [bytesGo]
  | p :: l, a, z, out, ht, hp => by
    obtain ⟨rfl, hn, ht⟩ := ht
    have hz : endE p ≤ z := by
      have : ∀ (l : List Ex) (a : Int), tileE a l z → a ≤ z := by
        intro l
        induction l with
        | nil => intro a h; exact Int.le_of_eq h
        | cons x l ih => intro a h; have := ih _ h.2.2; have := h.1; have := h.2.1; unfold endE at *; omega
      exact this l _ ht
    obtain ⟨n, hpn⟩ : ∃ n : Nat, p.n = n := ⟨p.n.toNat, by omega⟩
    have hin : ∀ i : Nat, i < n → hasE p (p.lba + i) = true := by intro i hi; unfold hasE endE; simp; omega
    have ih := bytesGo_ok hf l (endE p) z
    have hsplit : (z - p.lba).toNat = n + (z - endE p).toNat := by unfold endE at *; omega
    have hfl : ((List.range (z - p.lba).toNat).flatMap fun i => blockB zs m (p.lba + (i : Nat))) =
        ((List.range n).flatMap fun i => blockB zs m (p.lba + (i : Nat))) ++ (List.range (z - endE p).toNat).flatMap fun i => blockB zs m (endE p + (i : Nat)) := by
      rw [hsplit, flat_range_add]
      congr 1
      refine fm_congr fun i _ => ?_
      congr 1
      unfold endE
      omega
    have hrest := fun out => ih out ht fun q hq => hp q (List.mem_cons_of_mem _ hq)
    rw [hfl]
    unfold bytesGo
    have e16 : (16 * p.n).toNat = 16 * n := by omega
    have hzero : (∀ i : Nat, i < n → blockB zs m (p.lba + i) = zeros 16) → ((List.range n).flatMap fun i => blockB zs m (p.lba + (i : Nat))) = zeros (16 * n) := by
      intro h
      rw [zeros_flat]
      exact fm_congr fun i hi => h i (List.mem_range.1 hi)
    rcases hp p (List.mem_cons_self ..) with ⟨⟨_, g, _⟩, hs⟩ | ⟨hmay, hs⟩
    · rw [if_pos (by omega), hrest, e16, hzero (fun i hi => by unfold blockB; rw [hs _ (hin i hi)]), List.append_assoc]
    · by_cases hneg : p.zone < 0
      · rw [if_pos hneg, hrest, e16, hzero (fun i hi => by unfold blockB; rw [hs _ (hin i hi)]; exact if_pos hneg), List.append_assoc]
      · have hlast := hf (p.lba + (n - 1 : Nat)) _ (hs _ (hin (n - 1) (by omega)))
        have hz1 : ¬ p.zone = -1 := by omega
        simp only [seeE, hz1, if_false] at hlast
        obtain ⟨h1, h2, h3⟩ := hlast.resolve_left hneg
        have h0 : 0 ≤ p.off := hmay.2.2.2.2.1
        rw [if_neg hneg, if_neg (by omega), hrest, e16, take_flat, List.append_assoc]
        congr 3
        refine fm_congr fun i hi => ?_
        have hi' := List.mem_range.1 hi
        unfold blockB
        rw [hs _ (hin i hi')]
        simp only [seeE, hz1, if_false, hneg]
        congr 2
        omega
/-- what Bytes tells -/
theorem bytesL_ok {zs : List Zn} {m : List Ex} {lba n : Int} (hm : chainE 0 m) (hb : blocksE lba n) (hn : n ≤ 4096) (hf : FitE zs m) :
    bytesL zs m lba n = ((List.range n.toNat).flatMap fun i => blockB zs m (lba + (i : Nat)), 0) := by
  obtain ⟨h1, h2, h3⟩ := part_ok hm hb
  obtain ⟨g1, _, _⟩ := look_ok hm hb
  unfold bytesL
  have hc : chkE m = 0 := by unfold chkE; rw [if_pos hm]
  rw [if_neg (by rw [hc]; simp [hb]), if_neg (by omega)]
  have := bytesGo_ok hf (lookE m lba n) lba (lba + n) [] (tile_look _ _ _ h1 h2) fun p hp => (g1 p hp).2.2.2
  rw [this, List.nil_append]
  congr 3
  omega
end Go.Proofs.YtlippmghgagdaaaGreat

/- A device all of whose zones may be open; plain: appends, torn appends, fences. -/
namespace Go.Proofs.YtlippmghgagdaaaGreat
open Go.RowKit

/-- a device all of whose zones may be open, and active -/
def devA (M : Int) (zs : List Zn) : Zd := ⟨M, zs.length, zs.length, zs⟩
def OkA (M : Int) (zs : List Zn) : Prop := (1 ≤ M ∧ M ≤ 65536) ∧ (1 ≤ zs.length ∧ zs.length ≤ 64) ∧ ∀ z ∈ zs, okZ z M
theorem cntZ_le (S : List Int) (zs : List Zn) : cntZ S zs ≤ zs.length := by unfold cntZ; exact List.length_filter_le ..
theorem cntZ_lt {S : List Int} {zs : List Zn} {i : Nat} {z : Zn} (hz : zs[i]? = some z) (hs : ¬ z.st ∈ S) : cntZ S zs < zs.length := by
  unfold cntZ
  rw [List.length_filter_lt_length_iff_exists]
  exact ⟨z, List.mem_of_getElem? hz, by simpa using hs⟩
theorem OkA.ok {M : Int} {zs : List Zn} (h : OkA M zs) : okD (devA M zs) := by
  obtain ⟨h1, h2, h3⟩ := h
  have a := cntZ_le openS zs
  have b := cntZ_le activeS zs
  exact ⟨⟨h2.1, h2.2, h1.1, h1.2, by show (1 : Int) ≤ (zs.length : Int); omega, Int.le_refl _, Int.le_refl _⟩, by show (cntZ openS zs : Int) ≤ (zs.length : Int); omega, by show (cntZ activeS zs : Int) ≤ (zs.length : Int); omega, h3⟩
theorem OkA.set {M : Int} {zs : List Zn} {i : Nat} {z : Zn} (h : OkA M zs) (hz : okZ z M) : OkA M (zs.set i z) :=
  ⟨h.1, by rw [List.length_set]; exact h.2.1, fun x hx => (List.mem_or_eq_of_mem_set hx).elim (fun hx => h.2.2 x hx) (fun e => e ▸ hz)⟩
theorem devA_get {M : Int} {zs : List Zn} {i : Nat} {z : Zn} (hz : zs[i]? = some z) : (devA M zs).z.getD i z0 = z := by
  unfold devA
  simp only [List.getD_eq_getElem?_getD, hz, Option.getD_some]
theorem devA_room {M : Int} {zs : List Zn} {i : Nat} {z : Zn} (hz : zs[i]? = some z) : roomK (devA M zs) i = (0, zs) := by
  unfold roomK
  rw [devA_get hz]
  by_cases h1 : z.st ∈ openS
  · rw [if_pos h1]; rfl
  · rw [if_neg h1]
    have h2 := cntZ_lt hz h1
    have h3 : ¬ (¬ z.st ∈ activeS ∧ (devA M zs).act ≤ (cntZ activeS (devA M zs).z : Int)) := by
      rintro ⟨h3, h4⟩
      have h5 := cntZ_lt hz h3
      have h6 : (zs.length : Int) ≤ (cntZ activeS zs : Int) := h4
      omega
    have h6 : (cntZ openS (devA M zs).z : Int) < (devA M zs).opn := by show (cntZ openS zs : Int) < (zs.length : Int); omega
    rw [if_neg h3, if_pos h6]
    rfl
theorem grown_ok {z : Zn} {M : Int} {x : List UInt8} (h : roomZ z M x = 0) : okZ (grownZ z M x) M := by
  obtain ⟨⟨h1, h2, h3, h4⟩, h5, h6, h7⟩ := roomZ_zero h
  refine ⟨h1, h2, h3, ?_⟩
  unfold grownZ
  simp only [List.length_append]
  split
  · exact .inr (.inr (.inr ⟨rfl, by omega⟩))
  · rw [if_neg (by omega)]
    split
    · exact .inr (.inr (.inl ⟨rfl, by omega⟩))
    · exact .inr (.inl ⟨.inl rfl, by omega, by omega⟩)
theorem devA_appendK {M : Int} {zs : List Zn} {i : Nat} {z : Zn} {c : Cm} (hz : zs[i]? = some z) :
    appendK (devA M zs) i c = if roomZ z M c.data = 0 then (0, zs.set i (grownZ z M c.data), ⟨0, z.d.length, []⟩) else (roomZ z M c.data, zs, dn0) := by
  unfold appendK
  rw [devA_get hz, devA_room hz]
  show (let r := appZ z M c.data; if r.2.2 ≠ 0 then (r.2.2, zs, dn0) else if (0 : Int) ≠ 0 then _ else (0, zs.set i r.1, ⟨0, r.2.1, []⟩)) = _
  unfold appZ
  by_cases h : roomZ z M c.data = 0
  · rw [if_pos h, if_pos h]; simp
  · rw [if_neg h, if_neg h]; simp only [ne_eq, h, not_false_eq_true, if_true]
theorem devA_front {M : Int} {zs : List Zn} {i : Nat} {z : Zn} {c : Cm} (h : OkA M zs) (hz : zs[i]? = some z) (ho : 1 ≤ c.op ∧ c.op ≤ 8) (hc : c.zone = i) (he : c.op = 7 ∨ c.epoch = z.fe) :
    doZ (devA M zs) c = (let r := doK (devA M zs) i c; if r.1 ≠ 0 then (devA M zs, ⟨r.1, 0, []⟩) else if c.op = 8 ∧ c.n = 0 then (devA M zs, dn0) else (⟨M, zs.length, zs.length, r.2.1⟩, r.2.2)) := by
  have hi : i < zs.length := (List.getElem?_eq_some_iff.1 hz).1
  unfold doZ
  rw [if_neg (by
    simp only [not_or, Decidable.not_not]
    refine ⟨ho, h.ok, by omega, ?_⟩
    show c.zone < (zs.length : Int)
    omega), hc, Int.toNat_natCast, devA_get hz, if_neg (by rintro ⟨h1, h2⟩; rcases he with he | he <;> contradiction)]
  rfl
/-- an append -/
theorem devA_append {M : Int} {zs : List Zn} {i : Nat} {z : Zn} {x : List UInt8} (h : OkA M zs) (hz : zs[i]? = some z) :
    doZ (devA M zs) ⟨1, i, z.fe, 0, 0, x⟩ = if roomZ z M x = 0 then (devA M (zs.set i (grownZ z M x)), ⟨0, z.d.length, []⟩) else (devA M zs, ⟨roomZ z M x, 0, []⟩) := by
  rw [devA_front h hz (by simp) rfl (.inr rfl)]
  have hk : doK (devA M zs) i ⟨1, i, z.fe, 0, 0, x⟩ = appendK (devA M zs) i ⟨1, i, z.fe, 0, 0, x⟩ := by unfold doK; rw [if_pos rfl]
  rw [hk, devA_appendK hz]
  by_cases hr : roomZ z M x = 0
  · simp only [hr, if_true]
    simp [devA]
  · simp only [hr, if_false]
    simp [hr]
/-- a torn append -/
theorem devA_torn {M n : Int} {zs : List Zn} {i : Nat} {z : Zn} {x : List UInt8} (h : OkA M zs) (hz : zs[i]? = some z) (hn : 0 ≤ n ∧ n ≤ x.length) :
    doZ (devA M zs) ⟨8, i, z.fe, 0, n, x⟩ = if roomZ z M x = 0 then (if n = 0 then (devA M zs, dn0) else (devA M (zs.set i (grownZ z M (x.take n.toNat))), dn0)) else (devA M zs, ⟨roomZ z M x, 0, []⟩) := by
  rw [devA_front h hz (by simp) rfl (.inr rfl)]
  have hk : doK (devA M zs) i ⟨8, i, z.fe, 0, n, x⟩ = tornK (devA M zs) i ⟨8, i, z.fe, 0, n, x⟩ := by unfold doK; simp
  rw [hk]
  unfold tornK
  rw [devA_appendK hz, devA_get hz]
  by_cases hr : roomZ z M x = 0
  · have ht : tornZ z (devA M zs).cap x n = (grownZ z M (x.take n.toNat), 0) := by
      unfold tornZ
      have hr' : roomZ z (devA M zs).cap x = 0 := hr
      rw [if_neg (by simp [hr']), if_pos hn]
      rfl
    simp only [hr, if_true, ht]
    by_cases h0 : n = 0
    · simp [h0, devA]
    · simp [h0, devA, List.set_set]
  · simp only [hr, if_false]
    simp [hr]
/-- a fence -/
theorem devA_fence {M e : Int} {zs : List Zn} {i : Nat} {z : Zn} (h : OkA M zs) (hz : zs[i]? = some z) (he : z.fe < e) :
    doZ (devA M zs) ⟨7, i, e, 0, 0, []⟩ = (devA M (zs.set i ⟨z.st, e, z.d⟩), dn0) := by
  rw [devA_front h hz (by simp) rfl (.inl rfl)]
  have hk : doK (devA M zs) i ⟨7, i, e, 0, 0, []⟩ = fenceK (devA M zs) i ⟨7, i, e, 0, 0, []⟩ := by unfold doK; simp
  rw [hk]
  have hf : fenceK (devA M zs) i ⟨7, i, e, 0, 0, []⟩ = (0, zs.set i ⟨z.st, e, z.d⟩, dn0) := by
    unfold fenceK
    rw [devA_get hz]
    have h1 : ¬ (e ≤ z.fe) := by omega
    simp only [h1, if_false]
    rfl
  rw [hf]
  simp [devA]
/-- a zone finished -/
theorem devA_finish {M : Int} {zs : List Zn} {i : Nat} {z : Zn} (h : OkA M zs) (hz : zs[i]? = some z) :
    doZ (devA M zs) ⟨4, i, z.fe, 0, 0, []⟩ = (devA M (zs.set i (finZ z)), dn0) := by
  rw [devA_front h hz (by simp) rfl (.inr rfl)]
  have hk : doK (devA M zs) i ⟨4, i, z.fe, 0, 0, []⟩ = (0, zs.set i (finZ z), dn0) := by unfold doK; rw [devA_get hz]; simp [devA]
  rw [hk]
  simp [devA]
theorem fin_ok {z : Zn} {M : Int} (h : okZ z M) : okZ (finZ z) M := by
  obtain ⟨h1, h2, h3, h4⟩ := h
  exact ⟨h1, h2, h3, .inr (.inr (.inr ⟨rfl, by show (z.d.length : Int) ≤ M; omega⟩))⟩
end Go.Proofs.YtlippmghgagdaaaGreat

/- Writes to zones, plainly: what stands there, what is found, the map of it. -/
namespace Go.Proofs.YtlippmghgagdaaaGreat
open Go.RowKit

def hdK (k : Nat) : Hd := ⟨k, 0, 0⟩
theorem hdK_ok {k : Nat} (hk : k ≤ 1000000) : OkHd (hdK k) ∧ (headL (hdK k)).2 = 0 ∧ (headL (hdK k)).1.length ≤ 45 := by
  have h0 : OkHd (hdK k) := by unfold OkHd hdK; simp only; omega
  have h1 : numsL (headN (hdK k)) = (flatN (headN (hdK k)), 0) := by
    unfold numsL
    rw [if_pos]
    intro n hn
    simp only [headN, hdK, List.mem_cons, List.not_mem_nil, or_false] at hn
    omega
  have h2 := flatN_len h0.i63
  have h3 : (headN (hdK k)).length = 4 := rfl
  have h4 : headL (hdK k) = (frB (flatN (headN (hdK k))), 0) := by
    unfold headL
    rw [h1]
    simp only [ne_eq, not_true_eq_false, if_false]
    exact frameL_ok (by omega)
  rw [h4]
  refine ⟨h0, rfl, ?_⟩
  show (frB (flatN (headN (hdK k)))).length ≤ 45
  rw [frB_len, putL_lt (by omega)]
  simp only [List.length_cons, List.length_nil]
  omega
/-- a zone's records, in their order -/
def rsOf (log : List (Nat × Rc)) (k : Nat) : List Rc := (log.filter fun x => x.1 == k).map (·.2)
def zoneB (log : List (Nat × Rc)) (k : Nat) : List UInt8 := if rsOf log k = [] then [] else (headL (hdK k)).1 ++ frsL (rsOf log k)
def zonesR (log : List (Nat × Rc)) (n : Nat) : List Zn := (List.range n).map fun k => landZ 0 4000 (zoneB log k)
/-- a zone's pack ahead of the next record -/
def packR (log : List (Nat × Rc)) (k : Nat) : Pk := ⟨hdK k, k, 4000, (zoneB log k).length, if rsOf log k = [] then (headL (hdK k)).1 else [], []⟩
theorem rsOf_same (log : List (Nat × Rc)) (k : Nat) (r : Rc) : rsOf (log ++ [(k, r)]) k = rsOf log k ++ [r] := by
  unfold rsOf
  simp
theorem rsOf_other (log : List (Nat × Rc)) {j k : Nat} (r : Rc) (h : j ≠ k) : rsOf (log ++ [(k, r)]) j = rsOf log j := by
  unfold rsOf
  have : (k == j) = false := by simp; omega
  simp [this]
theorem rsOf_mem {log : List (Nat × Rc)} {k : Nat} {r : Rc} : r ∈ rsOf log k ↔ (k, r) ∈ log := by
  unfold rsOf
  constructor
  · intro h
    obtain ⟨x, hx, rfl⟩ := List.mem_map.1 h
    obtain ⟨h1, h2⟩ := List.mem_filter.1 hx
    have : x.1 = k := by simpa using h2
    subst this
    exact h1
  · intro h
    exact List.mem_map.2 ⟨(k, r), List.mem_filter.2 ⟨h, by simp⟩, rfl⟩
structure GoodLog (n : Nat) (B : Int) (log : List (Nat × Rc)) : Prop where
  zone : ∀ x ∈ log, x.1 < n
  good : ∀ x ∈ log, GoodR B x.2
  rise : log.Pairwise (fun x y => x.2.ver < y.2.ver)
  fits : ∀ k, (zoneB log k).length ≤ 4000
theorem GoodLog.nil (n : Nat) (B : Int) : GoodLog n B [] := ⟨by simp, by simp, List.Pairwise.nil, fun k => by simp [zoneB, rsOf]⟩
theorem GoodLog.recs {n : Nat} {B : Int} {log : List (Nat × Rc)} (h : GoodLog n B log) (hB : B ≤ 1000000) (k : Nat) : errL (rsOf log k) = 0 ∧ ∀ r ∈ rsOf log k, OkRc r :=
  ⟨errL_of fun _ hr => (h.good _ (rsOf_mem.1 hr)).fit hB, fun _ hr => (h.good _ (rsOf_mem.1 hr)).ok hB⟩
theorem zonesR_get {log : List (Nat × Rc)} {n k : Nat} (hk : k < n) : (zonesR log n)[k]? = some (landZ 0 4000 (zoneB log k)) := by
  unfold zonesR
  rw [List.getElem?_map, List.getElem?_range hk]
  rfl
theorem zonesR_len (log : List (Nat × Rc)) (n : Nat) : (zonesR log n).length = n := by simp [zonesR]
theorem zonesR_getD {log : List (Nat × Rc)} {n k : Nat} (hk : k < n) : (zonesR log n).getD k z0 = landZ 0 4000 (zoneB log k) := by
  rw [List.getD_eq_getElem?_getD, zonesR_get hk]
  rfl
theorem GoodLog.dev {n : Nat} {B : Int} {log : List (Nat × Rc)} (h : GoodLog n B log) (hn : 1 ≤ n ∧ n ≤ 64) : OkA 4000 (zonesR log n) := by
  refine ⟨by omega, by rw [zonesR_len]; exact hn, fun z hz => ?_⟩
  obtain ⟨k, _, rfl⟩ := List.mem_map.1 hz
  have := h.fits k
  exact landZ_ok (by omega) (by omega) (by omega)
/-- a segment is begun -/
theorem packR_begin {log : List (Nat × Rc)} {k : Nat} (hk : k ≤ 1000) (h : rsOf log k = []) : beginL (hdK k) k 4000 = (packR log k, 0) := by
  obtain ⟨_, h1, h2⟩ := hdK_ok (k := k) (by omega)
  have hz : zoneB log k = [] := by unfold zoneB; rw [if_pos h]
  unfold beginL packR
  rw [if_neg (by omega), if_neg (by omega), if_neg (by omega), if_pos h, hz]
  rfl
/-- what the next record's append has -/
def nextB (log : List (Nat × Rc)) (k : Nat) (r : Rc) : List UInt8 := (packR log k).buf ++ frsL [r]
theorem zoneB_next (log : List (Nat × Rc)) (k : Nat) (r : Rc) : zoneB (log ++ [(k, r)]) k = zoneB log k ++ nextB log k r := by
  unfold zoneB nextB packR
  rw [rsOf_same, if_neg (by simp)]
  by_cases h : rsOf log k = []
  · rw [if_pos h, h]; simp
  · rw [if_neg h]; simp [h, frsL_append]
theorem zoneB_other (log : List (Nat × Rc)) {j k : Nat} (r : Rc) (h : j ≠ k) : zoneB (log ++ [(k, r)]) j = zoneB log j := by
  unfold zoneB
  rw [rsOf_other log r h]
theorem packR_add {log : List (Nat × Rc)} {k : Nat} {B : Int} {r : Rc} (hr : GoodR B r) (hB : B ≤ 1000000) :
    (addL (packR log k) [r] = (p0k, [], 40)) ∨
      (addL (packR log k) [r] = (⟨hdK k, k, 4000, (zoneB log k).length, nextB log k r, [r]⟩, plsL ((zoneB log k).length + (packR log k).buf.length) [r], 0) ∧ (zoneB log k).length + (nextB log k r).length ≤ 4000) := by
  have he : errL [r] = 0 := by unfold errL; rw [hr.fit hB]; rfl
  have h5 := ((recL_len (hr.ok hB)).2 (hr.fit hB)).2
  by_cases hf : roomL (packR log k) < ((frsL [r]).length : Int)
  · exact .inl (add_full _ he hf)
  · refine .inr ⟨by rw [add_fits _ he hf]; rfl, ?_⟩
    unfold nextB
    unfold roomL at hf
    have e1 : (packR log k).cap = 4000 := rfl
    have e2 : (packR log k).at_ = (zoneB log k).length := rfl
    have e3 : (frsL [r]).length = (recL r).1.length := by simp [frsL]
    rw [List.length_append]
    omega
theorem nextB_ne {log : List (Nat × Rc)} {k : Nat} {B : Int} {r : Rc} (hr : GoodR B r) (hB : B ≤ 1000000) : nextB log k r ≠ [] := by
  have h5 := ((recL_len (hr.ok hB)).2 (hr.fit hB)).2
  have e3 : (frsL [r]).length = (recL r).1.length := by simp [frsL]
  intro h
  have := congrArg List.length h
  unfold nextB at this
  simp only [List.length_append, List.length_nil] at this
  omega
theorem GoodLog.add {n : Nat} {B : Int} {log : List (Nat × Rc)} {k : Nat} {r : Rc} (h : GoodLog n B log) (hk : k < n) (hr : GoodR B r) (hv : ∀ x ∈ log, x.2.ver < r.ver) (hf : (zoneB log k).length + (nextB log k r).length ≤ 4000) : GoodLog n B (log ++ [(k, r)]) := by
  refine ⟨fun x hx => ?_, fun x hx => ?_, ?_, fun j => ?_⟩
  · rcases List.mem_append.1 hx with hx | hx
    · exact h.zone x hx
    · simp only [List.mem_singleton] at hx; subst hx; exact hk
  · rcases List.mem_append.1 hx with hx | hx
    · exact h.good x hx
    · simp only [List.mem_singleton] at hx; subst hx; exact hr
  · rw [List.pairwise_append]
    exact ⟨h.rise, List.pairwise_singleton .., fun x hx y hy => by simp only [List.mem_singleton] at hy; subst hy; exact hv x hx⟩
  · by_cases hj : j = k
    · subst hj; rw [zoneB_next, List.length_append]; exact hf
    · rw [zoneB_other log r hj]; exact h.fits j
theorem landZ_grown {b x : List UInt8} {M : Int} (hx : x ≠ []) (hf : (b.length : Int) + x.length ≤ M) (hM : 1 ≤ M ∧ M ≤ 65536) : roomZ (landZ 0 M b) M x = 0 ∧ grownZ (landZ 0 M b) M x = landZ 0 M (b ++ x) := by
  have hxl := List.length_pos_iff.2 hx
  have hz := landZ_ok (e := 0) (b := b) (Int.le_refl _) hM (by omega)
  have h4 : (landZ 0 M b).st ≠ 4 := by
    unfold landZ; simp only
    split
    · omega
    · split
      · omega
      · omega
  constructor
  · unfold roomZ
    rw [if_neg (by simp only [not_or, Decidable.not_not]; exact ⟨hz, by omega⟩), if_neg h4, if_pos (by show (b.length : Int) + x.length ≤ M; exact hf)]
  · have hbx : b ++ x ≠ [] := by simp [hx]
    unfold grownZ landZ
    simp only [hbx, if_false, List.length_append, Int.natCast_add]
    by_cases hf : (b.length : Int) + x.length = M
    · simp only [hf, if_true]
    · simp only [hf, if_false]
      have h2 : ¬ x.length = 0 := by omega
      simp only [h2, if_false]
      have h3 : ¬ (if b = [] then (0 : Int) else if (b.length : Int) = M then 4 else 1) = 2 := by
        split
        · omega
        · split <;> omega
      simp only [h3, if_false]
theorem zonesR_set (log : List (Nat × Rc)) (n : Nat) {k : Nat} (r : Rc) : (zonesR log n).set k (landZ 0 4000 (zoneB (log ++ [(k, r)]) k)) = zonesR (log ++ [(k, r)]) n := by
  refine List.ext_getElem? fun j => ?_
  rw [List.getElem?_set]
  by_cases hj : k = j
  · subst hj
    rw [if_pos rfl, zonesR_len]
    split
    · rename_i h; rw [zonesR_get h]
    · rename_i h
      rw [List.getElem?_eq_none (by rw [zonesR_len]; omega)]
  · rw [if_neg hj]
    by_cases hn : j < n
    · rw [zonesR_get hn, zonesR_get hn, zoneB_other log r (Ne.symm hj)]
    · rw [List.getElem?_eq_none (by rw [zonesR_len]; omega), List.getElem?_eq_none (by rw [zonesR_len]; omega)]
/-- the record's append -/
theorem run_do {n : Nat} {B : Int} {log : List (Nat × Rc)} {k : Nat} {r : Rc} (h : GoodLog n B log) (hn : 1 ≤ n ∧ n ≤ 64) (hk : k < n) (hr : GoodR B r) (hB : B ≤ 1000000) (hf : (zoneB log k).length + (nextB log k r).length ≤ 4000) :
    doZ (devA 4000 (zonesR log n)) ⟨1, k, 0, 0, 0, nextB log k r⟩ = (devA 4000 (zonesR (log ++ [(k, r)]) n), ⟨0, (zoneB log k).length, []⟩) := by
  have hx := nextB_ne (log := log) (k := k) hr hB
  obtain ⟨h1, h2⟩ := landZ_grown (b := zoneB log k) (M := 4000) hx (by omega) (by omega)
  have := devA_append (x := nextB log k r) (h.dev hn) (zonesR_get (log := log) hk)
  rw [show (landZ 0 4000 (zoneB log k)).fe = 0 from rfl, if_pos h1, h2, ← zoneB_next, zonesR_set] at this
  exact this

/-- what is found in a zone -/
def fdR (log : List (Nat × Rc)) (k : Nat) : Fd := if rsOf log k = [] then f0d else ⟨true, hdK k, rsOf log k, atsL (headL (hdK k)).1.length (rsOf log k), (headL (hdK k)).1.length + (frsL (rsOf log k)).length⟩
theorem scan_nil : scanL [] = f0d := by
  have h : stepS [] f0d = none := by
    unfold stepS
    have : (takeF []).2.2 = false := takeF_short (by simp)
    show (if (takeF []).2.2 = false then none else _) = none
    rw [if_pos this]
  unfold scanL
  show iterS [] 1 f0d = f0d
  unfold iterS
  rw [h]
theorem scan_zone {n : Nat} {B : Int} {log : List (Nat × Rc)} (h : GoodLog n B log) (hB : B ≤ 1000000) {k : Nat} (hk : k ≤ 1000) : scanL (zoneB log k) = fdR log k := by
  unfold zoneB fdR
  by_cases hr : rsOf log k = []
  · rw [if_pos hr, if_pos hr, scan_nil]
  · rw [if_neg hr, if_neg hr]
    obtain ⟨h1, h2, _⟩ := hdK_ok (k := k) (by omega)
    obtain ⟨h3, h4⟩ := h.recs hB k
    have := scan_back (rest := []) h1 h2 h3 h4 (takeF_short (by simp))
    rwa [List.append_nil] at this
theorem fdR_used {log : List (Nat × Rc)} {k : Nat} : (fdR log k).used = (zoneB log k).length := by
  unfold fdR zoneB
  by_cases hr : rsOf log k = []
  · rw [if_pos hr, if_pos hr]; rfl
  · rw [if_neg hr, if_neg hr, List.length_append]
theorem fdR_l (log : List (Nat × Rc)) (k : Nat) : (fdR log k).l = rsOf log k := by
  unfold fdR
  split
  · rename_i h; rw [h]; rfl
  · rfl

theorem ents_pls : ∀ (l : List Rc) (u : Nat), (∀ r ∈ l, (recL r).2 = 0) → List.zipWith (fun r a => a + dataL r) l (atsL u l) = plsL u l
  | [], u, _ => rfl
  | r :: l, u, h => by
    have h0 := h r (List.mem_cons_self ..)
    have ih := ents_pls l (u + (recL r).1.length) fun x hx => h x (List.mem_cons_of_mem _ hx)
    simp only [atsL, plsL, List.zipWith_cons_cons]
    rw [ih]
    have e : dataL r = (recL r).1.length - 4 - r.data.length := by unfold dataL; rw [if_neg (by omega)]
    rw [e]
    congr 1
    · omega
/-- an entry of a zone: the i-th record's, where its bytes stand -/
theorem ents_at {n : Nat} {B : Int} {log : List (Nat × Rc)} (h : GoodLog n B log) (hB : B ≤ 1000000) {k : Nat} {x : Rc × Int × Int} :
    x ∈ entsF k (fdR log k) ↔ ∃ (i : Nat) (o : Int), (rsOf log k)[i]? = some x.1 ∧ (plsL (headL (hdK k)).1.length (rsOf log k))[i]? = some o ∧ x = (x.1, (k : Int), o) := by
  unfold fdR entsF
  by_cases hr : rsOf log k = []
  · rw [if_pos hr, hr]
    simp [f0d]
  · rw [if_neg hr]
    simp only
    have hp := ents_pls (rsOf log k) (headL (hdK k)).1.length fun r hr => (h.good _ (rsOf_mem.1 hr)).fit hB
    rw [← hp, List.mem_iff_getElem?]
    constructor
    · rintro ⟨i, hi⟩
      rw [List.getElem?_zipWith] at hi
      split at hi
      · rename_i a b ha hb
        injection hi with hi
        subst hi
        exact ⟨i, b + dataL a, ha, by rw [List.getElem?_zipWith, ha, hb], rfl⟩
      · cases hi
    · rintro ⟨i, o, h1, h2, h3⟩
      refine ⟨i, ?_⟩
      rw [List.getElem?_zipWith, h1] at h2 ⊢
      split at h2
      · rename_i a b ha hb
        injection h2 with h2
        injection ha with ha
        subst ha
        rw [h2]
        exact congrArg some h3.symm
      · cases h2
theorem GoodLog.ent {n : Nat} {B : Int} {log : List (Nat × Rc)} (h : GoodLog n B log) (hB : B ≤ 1000000) {k : Nat} {x : Rc × Int × Int} (hx : x ∈ entsF k (fdR log k)) :
    (k, x.1) ∈ log ∧ x.2.1 = k ∧ 0 ≤ x.2.2 ∧ x.2.2 + x.1.data.length ≤ ((zoneB log k).length : Int) ∧ ((zoneB log k).drop x.2.2.toNat).take x.1.data.length = x.1.data := by
  obtain ⟨i, o, h1, h2, h3⟩ := (ents_at h hB).1 hx
  obtain ⟨h4, h5⟩ := h.recs hB k
  have hp := place_data h4 h5 h1 h2
  have hne : rsOf log k ≠ [] := fun e => by rw [e] at h1; simp at h1
  have hz : zoneB log k = (headL (hdK k)).1 ++ frsL (rsOf log k) := by unfold zoneB; rw [if_neg hne]
  have e1 : x.2.1 = k := by rw [h3]
  have e2 : x.2.2 = o := by rw [h3]
  rw [e1, e2, hz]
  exact ⟨rsOf_mem.1 (List.mem_of_getElem? h1), rfl, hp⟩
theorem GoodLog.has {n : Nat} {B : Int} {log : List (Nat × Rc)} (h : GoodLog n B log) (hB : B ≤ 1000000) {k : Nat} {r : Rc} (hr : (k, r) ∈ log) : ∃ x ∈ entsF k (fdR log k), x.1 = r := by
  obtain ⟨i, hi⟩ := List.mem_iff_getElem?.1 (rsOf_mem.2 hr)
  have hl : i < (plsL (headL (hdK k)).1.length (rsOf log k)).length := by rw [plsL_len]; exact (List.getElem?_eq_some_iff.1 hi).1
  exact ⟨(r, (k : Int), _), (ents_at h hB).2 ⟨i, _, hi, List.getElem?_eq_getElem hl, rfl⟩, rfl⟩
theorem GoodLog.same {n : Nat} {B : Int} {log : List (Nat × Rc)} (h : GoodLog n B log) {x y : Nat × Rc} (hx : x ∈ log) (hy : y ∈ log) (hv : x.2.ver = y.2.ver) : x = y := by
  obtain ⟨i, hi, rfl⟩ := List.getElem_of_mem hx
  obtain ⟨j, hj, rfl⟩ := List.getElem_of_mem hy
  have hp := List.pairwise_iff_getElem.1 h.rise
  rcases Nat.lt_trichotomy i j with hij | hij | hij
  · have := hp i j hi hj hij; omega
  · subst hij; rfl
  · have := hp j i hj hi hij; omega
/-- two entries of one version are one -/
theorem GoodLog.one {n : Nat} {B : Int} {log : List (Nat × Rc)} (h : GoodLog n B log) (hB : B ≤ 1000000) {k j : Nat} {x y : Rc × Int × Int} (hx : x ∈ entsF k (fdR log k)) (hy : y ∈ entsF j (fdR log j)) (hv : x.1.ver = y.1.ver) : x = y := by
  have hx1 := (h.ent hB hx).1
  have hy1 := (h.ent hB hy).1
  have he := h.same hx1 hy1 hv
  injection he with hkj hr
  subst hkj
  obtain ⟨i, o, h1, h2, h3⟩ := (ents_at h hB).1 hx
  obtain ⟨i', o', h1', h2', h3'⟩ := (ents_at h hB).1 hy
  have hri : (rsOf log k).Pairwise (fun x y => x.ver < y.ver) := by
    unfold rsOf
    rw [List.pairwise_map]
    exact h.rise.filter _
  have hp := List.pairwise_iff_getElem.1 hri
  have hii : i = i' := by
    obtain ⟨hi, e1⟩ := List.getElem?_eq_some_iff.1 h1
    obtain ⟨hi', e2⟩ := List.getElem?_eq_some_iff.1 h1'
    rcases Nat.lt_trichotomy i i' with hij | hij | hij
    · have := hp i i' hi hi' hij; rw [e1, e2] at this; omega
    · exact hij
    · have := hp i' i hi' hi hij; rw [e1, e2] at this; omega
  subst hii
  rw [h2] at h2'
  injection h2' with ho
  rw [h3, h3', hr, ho]

/-- the entries of some zones -/
def entsA (log : List (Nat × Rc)) (ks : List Nat) : List (Rc × Int × Int) := ks.flatMap fun k => entsF k (fdR log k)
def covR (r : Rc) (b : Int) : Prop := r.lba ≤ b ∧ b < r.lba + r.n
/-- a record's bytes of a block -/
def contR (r : Rc) (b : Int) : List UInt8 := if r.kind = 2 then zeros 16 else (r.data.drop (16 * (b - r.lba)).toNat).take 16
theorem GoodLog.entX {n : Nat} {B : Int} {log : List (Nat × Rc)} (h : GoodLog n B log) (hn : n ≤ 1000) (hB : B ≤ 1000000) {k : Nat} {x : Rc × Int × Int} (hx : x ∈ entsF k (fdR log k)) : GoodX B x := by
  obtain ⟨h1, h2, h3, h4, _⟩ := h.ent hB hx
  have h5 := h.zone _ h1
  have h6 := h.fits k
  simp only at h5
  exact ⟨h.good _ h1, by omega, by omega⟩
/-- the map of some zones: of each block the newest -/
theorem run_map {n : Nat} {B : Int} {log : List (Nat × Rc)} (h : GoodLog n B log) (hn : n ≤ 1000) (hB : 0 ≤ B ∧ B ≤ 10000) (ks : List Nat) :
    ∃ m, mapGo (entsA log ks) [] = (m, 0) ∧ chainE 0 m ∧ (∀ b, Best ((entsA log ks).map extX) b (see m b)) ∧ (m.length : Int) ≤ B := by
  obtain ⟨m, h1, h2, h3, h4⟩ := mapGo_good hB (entsA log ks) [] [] (fun x hx => by
    obtain ⟨k, _, hx⟩ := List.mem_flatMap.1 hx
    exact h.entX hn (by omega) hx) trivial (fun b => by simp [Best, see_nil]) (by simp)
  simp only [List.nil_append, List.length_nil] at h3 h4
  exact ⟨m, h1, h2, h3, by omega⟩
theorem ext_has (x : Rc × Int × Int) (b : Int) : hasE (extX x) b = true ↔ covR x.1 b := by
  unfold hasE endE extX extOf covR
  simp
/-- of two that have the newest both have the same -/
theorem best_one {n : Nat} {B : Int} {log : List (Nat × Rc)} (h : GoodLog n B log) (hB : B ≤ 1000000) {ks : List Nat} {b : Int} {o o' : Option (Int × Int × Int)} (h1 : Best ((entsA log ks).map extX) b o) (h2 : Best ((entsA log ks).map extX) b o') : o = o' := by
  cases o with
  | none =>
    cases o' with
    | none => rfl
    | some t =>
      obtain ⟨e, e1, e2, _⟩ := h2
      rw [h1 e e1] at e2
      cases e2
  | some t =>
    obtain ⟨e, e1, e2, e3, e4⟩ := h1
    cases o' with
    | none => rw [h2 e e1] at e2; cases e2
    | some t' =>
      obtain ⟨f, f1, f2, f3, f4⟩ := h2
      have hv : e.ver = f.ver := Int.le_antisymm (f4 e e1 e2) (e4 f f1 f2)
      obtain ⟨x, hx, rfl⟩ := List.mem_map.1 e1
      obtain ⟨y, hy, rfl⟩ := List.mem_map.1 f1
      obtain ⟨k, _, hx⟩ := List.mem_flatMap.1 hx
      obtain ⟨j, _, hy⟩ := List.mem_flatMap.1 hy
      have := h.one hB hx hy hv
      subst this
      rw [← e3, ← f3]
/-- what the map of all says of a block: by the log -/
theorem run_see {n : Nat} {B : Int} {log : List (Nat × Rc)} (h : GoodLog n B log) (hB : B ≤ 1000000) {m : List Ex} {b : Int} (hm : Best ((entsA log (List.range n)).map extX) b (see m b)) :
    (see m b = none ∧ ∀ x ∈ log, ¬ covR x.2 b) ∨
    ∃ x ∈ log, covR x.2 b ∧ (∀ y ∈ log, covR y.2 b → y.2.ver ≤ x.2.ver) ∧ ∃ t, see m b = some t ∧ t.1 = x.2.ver ∧
      ((x.2.kind = 2 ∧ t.2.1 = -1) ∨ (x.2.kind = 1 ∧ t.2.1 = x.1 ∧ 0 ≤ t.2.2 ∧ t.2.2 + 16 ≤ ((zoneB log x.1).length : Int) ∧ ((zoneB log x.1).drop t.2.2.toNat).take 16 = contR x.2 b)) := by
  have hall : ∀ y ∈ log, ∃ z ∈ (entsA log (List.range n)).map extX, z.ver = y.2.ver ∧ (hasE z b = true ↔ covR y.2 b) := by
    intro y hy
    obtain ⟨z, hz, hzr⟩ := h.has hB (k := y.1) (r := y.2) hy
    refine ⟨extX z, List.mem_map.2 ⟨z, List.mem_flatMap.2 ⟨y.1, List.mem_range.2 (h.zone y hy), hz⟩, rfl⟩, ?_, ?_⟩
    · rw [← hzr]; rfl
    · rw [ext_has, hzr]
  cases hs : see m b with
  | none =>
    rw [hs] at hm
    refine .inl ⟨rfl, fun x hx hc => ?_⟩
    obtain ⟨z, hz, _, hzc⟩ := hall x hx
    have := hm z hz
    rw [hzc.2 hc] at this
    cases this
  | some t =>
    rw [hs] at hm
    obtain ⟨e, e1, e2, e3, e4⟩ := hm
    obtain ⟨x, hx, rfl⟩ := List.mem_map.1 e1
    obtain ⟨k, _, hx⟩ := List.mem_flatMap.1 hx
    obtain ⟨g1, g2, g3, g4, g5⟩ := h.ent hB hx
    have hc := (ext_has x b).1 e2
    refine .inr ⟨(k, x.1), g1, hc, fun y hy hyc => ?_, t, rfl, ?_, ?_⟩
    · obtain ⟨z, hz, hzv, hzc⟩ := hall y hy
      rw [← hzv]
      exact e4 z hz (hzc.2 hyc)
    · rw [← e3]; rfl
    · have hg := h.good _ g1
      have hlb := hg.lba
      simp only at hlb
      unfold covR at hc
      rcases hg.kind with hk | hk
      · simp only at hk
        refine .inr ⟨hk, ?_⟩
        have hd := hg.data hk
        simp only at hd
        have hz1 : ¬ ((k : Int) = -1) := by omega
        have ht : t = (x.1.ver, (k : Int), x.2.2 + (b - x.1.lba) * 16) := by
          rw [← e3]
          unfold seeE extX extOf
          have hk2 : ¬ x.1.kind = 2 := by omega
          have hk3 : ¬ x.1.kind = 3 := by omega
          simp only [hk2, hk3, if_false, g2, hz1]
        rw [ht]
        refine ⟨rfl, by simp only; omega, by simp only; omega, ?_⟩
        simp only
        unfold contR
        rw [if_neg (by omega), ← g5]
        have e5 : (x.2.2 + (b - x.1.lba) * 16).toNat = x.2.2.toNat + (16 * (b - x.1.lba)).toNat := by omega
        rw [e5, List.drop_take, List.drop_drop, List.take_take, Nat.min_eq_left (by omega)]
      · simp only at hk
        refine .inl ⟨hk, ?_⟩
        rw [← e3]
        unfold seeE extX extOf
        simp [hk]
end Go.Proofs.YtlippmghgagdaaaGreat
