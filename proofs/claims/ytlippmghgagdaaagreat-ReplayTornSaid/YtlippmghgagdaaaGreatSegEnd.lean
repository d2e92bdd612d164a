/- Where a record's frame ends; how much records may be that Big lets through; a record in which a byte was turned. -/
import Derived.Test.YtlippmghgagdaaaGreatSegLaws
import Derived.Test.YtlippmghgagdaaaGreatPackAdd1
import Derived.Test.YtlippmghgagdaaaGreatScan
import Derived.Deep.DeepCutAuto
namespace Go.Proofs.YtlippmghgagdaaaGreat
open Go.RowKit

theorem recL_check {r : Rc} (h : (recL r).2 = 0) : checkL r = 0 := by
  unfold recL at h
  by_cases hc : checkL r = 0
  · exact hc
  · rw [if_pos hc] at h; exact absurd h hc
theorem sumRW_ge : ∀ (l : List Rc) (s : Int) (k : Nat), 0 ≤ s → s ≤ (k : Int) * 32788 → (k : Int) + l.length ≤ 1048576 → (∀ r ∈ l, r.data.length ≤ 32768) → s + 20 * l.length ≤ sumRW l s := by
  intro l
  induction l with
  | nil => intro s k _ _ _ _; simp [sumRW]
  | cons r l ih =>
    intro s k h0 h1 h2 h3
    have h4 := h3 r (List.mem_cons_self ..)
    have hw : wrap64 (s + ((r.data.length : Int) + 20)) = s + ((r.data.length : Int) + 20) := by simp only [List.length_cons] at h2; unfold wrap64; omega
    have := ih (s + ((r.data.length : Int) + 20)) (k + 1) (by omega) (by omega) (by simp only [List.length_cons] at h2; omega) (fun x hx => h3 x (List.mem_cons_of_mem _ hx))
    unfold sumRW
    rw [hw]
    simp only [List.length_cons]
    omega
theorem big_len {m : Int} {l : List Rc} (hbig : bigR m l = false) (hl : errL l = 0) (hll : l.length ≤ 1048576) : (20 : Int) * l.length ≤ m := by
  have h := sumRW_ge l 0 0 (by omega) (by omega) (by omega) (fun r hr => (checkL_ok (recL_check (errL_mem hl r hr))).1)
  unfold bigR at hbig
  have := of_decide_eq_false hbig
  omega

/-- where a record's frame ends -/
def endF (f : Fd) (k : Nat) : Int := f.at_.getD (k + 1) f.used
theorem endF_is {h : Hd} {l : List Rc} {u : Nat} {k : Nat} (hk : k < l.length) : endF ⟨true, h, l, atsL u l, u + (frsL l).length⟩ k = ((u + (frsL (l.take (k + 1))).length : Nat) : Int) := by
  unfold endF
  dsimp only
  by_cases h1 : k + 1 < l.length
  · rw [List.getD_eq_getElem?_getD, atsL_at u l h1]; rfl
  · have : (atsL u l)[k + 1]? = none := List.getElem?_eq_none (by rw [atsL_len]; omega)
    rw [List.getD_eq_getElem?_getD, this, List.take_of_length_le (by omega)]; rfl

theorem turned_no {x p q rest : List UInt8} {a b : UInt8} (hx : x.length ≤ 65536) (he : x ++ fixL (crcL x) = p ++ a :: q) (hab : a ≠ b) : (takeF (putL x.length ++ (p ++ b :: q) ++ rest)).2.2 = false := by
  have hlen : x.length + 4 = p.length + (q.length + 1) := by
    have := congrArg List.length he
    simp only [List.length_append, List.length_cons, fixL, List.length_nil] at this
    omega
  -- the frame's bytes: x' and then four
  obtain ⟨y, z, hyz, hyl⟩ : ∃ y z, p ++ b :: q = y ++ z ∧ y.length = x.length := ⟨(p ++ b :: q).take x.length, (p ++ b :: q).drop x.length, (List.take_append_drop _ _).symm, by rw [List.length_take]; simp only [List.length_append, List.length_cons]; omega⟩
  have hzl : z.length = 4 := by
    have := congrArg List.length hyz
    simp only [List.length_append, List.length_cons] at this
    omega
  have e : putL x.length ++ (p ++ b :: q) ++ rest = putL y.length ++ (y ++ (z ++ rest)) := by rw [hyz, hyl]; simp
  have ht : takeVecL (putL x.length ++ (p ++ b :: q) ++ rest) = (y, (((putL y.length).length + y.length : Nat) : Int), 0) := by rw [e]; exact takeVec_put (by omega)
  have hd : (putL x.length ++ (p ++ b :: q) ++ rest).drop ((putL y.length).length + y.length) = z ++ rest := by
    rw [e, ← List.append_assoc, ← List.length_append, List.drop_left]
  rw [takeF_of ht, if_neg (by simp), Int.toNat_natCast, hd]
  dsimp only
  have hz4 : fixL (takeFL (z ++ rest)).1 = z := by
    rw [(fix_take (b := z ++ rest) (by rw [List.length_append]; omega)).1, List.take_append, List.take_of_length_le (by omega), hzl]; simp
  rw [Bool.and_eq_false_iff]
  right
  refine decide_eq_false fun hc => ?_
  rw [hc] at hz4
  -- the sum is that of y: all is a frame's bytes again
  rcases List.append_eq_append_iff.1 he with ⟨c, hc1, hc2⟩ | ⟨c, hc1, hc2⟩
  · -- the turned byte stands in the sum
    have hy : y = x := by
      have h1 : (p ++ b :: q).take x.length = x := by rw [hc1, List.append_assoc, List.take_left]
      have h2 : (p ++ b :: q).take x.length = y := by rw [hyz, ← hyl, List.take_left]
      rw [← h2, h1]
    have h3 : y ++ z = x ++ fixL (crcL x) := by rw [← hz4, hy]
    rw [he, ← hyz] at h3
    have h4 := List.append_cancel_left h3
    injection h4 with h5
    exact hab h5.symm
  · cases c with
    | nil =>
      have hpx : p = x := by rw [hc1]; simp
      have hy : y = x := by
        have h1 : (p ++ b :: q).take x.length = x := by rw [← hpx, List.take_left]
        have h2 : (p ++ b :: q).take x.length = y := by rw [hyz, ← hyl, List.take_left]
        rw [← h2, h1]
      have h3 : y ++ z = x ++ fixL (crcL x) := by rw [← hz4, hy]
      rw [he, ← hyz] at h3
      have h4 := List.append_cancel_left h3
      injection h4 with h5
      exact hab h5.symm
    | cons a' c =>
      rw [List.cons_append] at hc2
      injection hc2 with h6 h7
      subst h6
      have hxl : x.length = p.length + (c.length + 1) := by rw [hc1]; simp
      have hy : y = p ++ b :: c := by
        have h2 : (p ++ b :: q).take x.length = y := by rw [hyz, ← hyl, List.take_left]
        rw [← h2, h7, show p ++ b :: (c ++ fixL (crcL x)) = (p ++ b :: c) ++ fixL (crcL x) by simp, List.take_append_of_le_length (by simp; omega), List.take_of_length_le (by simp; omega)]
      have hz : z = fixL (crcL x) := by
        have h3 : y ++ z = y ++ fixL (crcL x) := by rw [← hyz, hy, h7]; simp
        exact List.append_cancel_left h3
      have hs : crcL y = crcL x := by
        have h1 := take_fix (crcL_lt x) []
        have h2 := take_fix (crcL_lt y) []
        rw [hz4, hz] at h2
        rw [h1] at h2
        injection h2 with h2
        exact h2.symm
      rw [hy, hc1] at hs
      exact hab (crc_turned p c hs).symm

/-- a number's bytes: all but the last are 128 or more -/
theorem putL_hi : ∀ (n i : Nat), i < (putL n).length → ∃ c, (putL n)[i]? = some c ∧ (i + 1 < (putL n).length ↔ 128 ≤ c.toNat) := by
  intro n
  induction n using Nat.strongRecOn with
  | _ n ih =>
    intro i hi
    by_cases h : n < 128
    · rw [putL_lt h] at hi ⊢
      simp only [List.length_singleton] at hi
      obtain rfl : i = 0 := by omega
      refine ⟨_, rfl, ?_⟩
      rw [UInt8.toNat_ofNat']
      simp only [List.length_singleton]
      omega
    · rw [putL_ge h] at hi ⊢
      cases i with
      | zero =>
        refine ⟨_, rfl, ?_⟩
        rw [UInt8.toNat_ofNat']
        have hp : 0 < (putL (n / 128)).length := by rw [putL]; split <;> simp
        simp only [List.length_cons]
        omega
      | succ i =>
        simp only [List.length_cons] at hi
        obtain ⟨c, h1, h2⟩ := ih (n / 128) (by omega) i (by omega)
        exact ⟨c, by rw [List.getElem?_cons_succ]; exact h1, by simp only [List.length_cons]; omega⟩

/-- a record's frame in what was written -/
theorem seg_split {h : Hd} {l : List Rc} (hl : errL l = 0) (hok : ∀ r ∈ l, OkRc r) {k : Nat} {r : Rc} (hk : l[k]? = some r) :
    (headL h).1 ++ frsL l = ((headL h).1 ++ frsL (l.take k)) ++ (putL (bodyR r).length ++ (bodyR r ++ fixL (crcL (bodyR r))) ++ frsL (l.drop (k + 1))) ∧ (bodyR r).length ≤ 65536 ∧ (frsL (l.take (k + 1))).length = (frsL (l.take k)).length + ((putL (bodyR r).length).length + (bodyR r).length + 4) := by
  have hr := hok r (List.mem_of_getElem? hk)
  have he := errL_mem hl r (List.mem_of_getElem? hk)
  have hc := recL_check he
  have hb := bodyR_le hr hc
  have hrec := recL_ok hr hc
  have hfl := frB_len (bodyR r)
  have h1 := frsL_take_succ hk
  have h2 : frsL l = frsL (l.take (k + 1)) ++ frsL (l.drop (k + 1)) := by rw [← frsL_append, List.take_append_drop]
  rw [hrec] at h1
  dsimp only at h1
  refine ⟨?_, by omega, ?_⟩
  · rw [h2, h1]; simp [frB]
  · rw [h1, List.length_append, hfl]

/-- a record in which a byte was turned is not found, nor what stands behind it -/
theorem scan_turned {h : Hd} {l : List Rc} (hh : OkHd h) (he : (headL h).2 = 0) (hl : errL l = 0) (hok : ∀ r ∈ l, OkRc r) {k : Nat} {r : Rc} (hk : l[k]? = some r) {i : Nat} {a b : UInt8} (hab : a ≠ b)
    (h1 : (headL h).1.length + (frsL (l.take k)).length + (putL (bodyR r).length).length ≤ i) (h2 : i < (headL h).1.length + (frsL (l.take (k + 1))).length) (ha : ((headL h).1 ++ frsL l)[i]? = some a) :
    scanL (((headL h).1 ++ frsL l).set i b) = ⟨true, h, l.take k, atsL (headL h).1.length (l.take k), (headL h).1.length + (frsL (l.take k)).length⟩ := by
  obtain ⟨e, hx, hlen⟩ := seg_split (h := h) hl hok hk
  obtain ⟨U, hU⟩ : ∃ U, (headL h).1 ++ frsL (l.take k) = U := ⟨_, rfl⟩
  have hUl : U.length = (headL h).1.length + (frsL (l.take k)).length := by rw [← hU, List.length_append]
  rw [hU] at e
  generalize bodyR r = x at e hx hlen h1
  obtain ⟨V, hV⟩ : ∃ V, U ++ putL x.length = V := ⟨_, rfl⟩
  have hVl : V.length = U.length + (putL x.length).length := by rw [← hV, List.length_append]
  have e2 : (headL h).1 ++ frsL l = V ++ ((x ++ fixL (crcL x)) ++ frsL (l.drop (k + 1))) := by rw [e, ← hV]; simp
  obtain ⟨j, rfl⟩ : ∃ j, i = V.length + j := ⟨i - V.length, by omega⟩
  have hf4 : (fixL (crcL x)).length = 4 := rfl
  have hj : j < (x ++ fixL (crcL x)).length := by rw [List.length_append, hf4]; omega
  rw [e2, List.getElem?_append_right (by omega), Nat.add_sub_cancel_left, List.getElem?_append_left hj] at ha
  obtain ⟨hj', ha'⟩ := List.getElem?_eq_some_iff.1 ha
  have hsp : x ++ fixL (crcL x) = (x ++ fixL (crcL x)).take j ++ a :: (x ++ fixL (crcL x)).drop (j + 1) := by
    rw [← ha', ← List.drop_eq_getElem_cons hj', List.take_append_drop]
  have hno := turned_no (rest := frsL (l.drop (k + 1))) hx hsp hab
  have hset : ((headL h).1 ++ frsL l).set (V.length + j) b = U ++ (putL x.length ++ ((x ++ fixL (crcL x)).take j ++ b :: (x ++ fixL (crcL x)).drop (j + 1)) ++ frsL (l.drop (k + 1))) := by
    rw [e2, List.set_append_right _ _ (by omega), Nat.add_sub_cancel_left, List.set_append_left _ _ hj, List.set_eq_take_append_cons_drop, if_pos hj, ← hV]
    simp
  have hm := errL_mem hl
  rw [hset, ← hU]
  exact scan_back2 hh he (errL_of fun r hr => hm r (List.mem_of_mem_take hr)) (fun r hr => hok r (List.mem_of_mem_take hr)) (.inl hno)

/-- other headers and records have other frames -/
theorem frB_inj {x y : List UInt8} (hx : x.length ≤ 65536) (hy : y.length ≤ 65536) (h : frB x = frB y) : x = y := by
  have h1 := takeF_fr (rest := []) hx
  have h2 := takeF_fr (rest := []) hy
  rw [h, h2] at h1
  injection h1 with h1
  exact h1.symm
theorem headL_inj {h g : Hd} (hh : OkHd h) (hg : OkHd g) (he : (headL h).2 = 0) (hf : (headL g).2 = 0) : (headL h).1 = (headL g).1 ↔ h = g := by
  refine ⟨fun e => ?_, fun e => by rw [e]⟩
  obtain ⟨x, h1, h2, h3⟩ := headerL_back hh he
  obtain ⟨y, g1, g2, g3⟩ := headerL_back hg hf
  rw [h1, g1] at e
  have := frB_inj h2 g2 e
  rw [this, g3] at h3
  injection h3 with h3
  exact h3.symm
theorem recL_inj {a b : Rc} (ha : OkRc a) (hb : OkRc b) (he : (recL a).2 = 0) (hf : (recL b).2 = 0) : (recL a).1 = (recL b).1 ↔ a = b := by
  refine ⟨fun e => ?_, fun e => by rw [e]⟩
  have ca := recL_check he; have cb := recL_check hf
  rw [recL_ok ha ca, recL_ok hb cb] at e
  have la := bodyR_le ha ca; have lb := bodyR_le hb cb
  have := frB_inj (by omega) (by omega) e
  have r1 := recordL_back ha ca
  rw [this, recordL_back hb cb] at r1
  injection r1 with r1
  exact r1.symm

theorem headL_five {h : Hd} (he : (headL h).2 = 0) (hh : OkHd h) : 5 ≤ (headL h).1.length := by
  obtain ⟨x, h1, _, _⟩ := headerL_back hh he
  rw [h1]
  dsimp only
  have := frB_len x
  have := putL_pos x.length
  omega
theorem frs_len {l : List Rc} (h : ∀ r ∈ l, OkRc r) : (frsL l).length ≤ 40030 * l.length := frsL_len h

theorem int_at {w : World} {K : Nat → Prop} {A : Option Addr} {n c : Nat} {l : List Int} (h : IsL Rp.int w K (.slice A n c) l) {j : Nat} {x : Int} (hj : l[j]? = some x) :
    ∃ ad, A = some ad ∧ K ad.block ∧ w.cell? (ad.add j) = some (.int .i64 x) := by
  obtain ⟨ad, es, hA, hK, hes, hcell⟩ := h.at_ hj
  obtain ⟨rfl, _⟩ := hes
  refine ⟨ad, hA, hK, ?_⟩
  have := hcell 0 _ rfl
  rw [addr0, show j * Rp.int.size = j from Nat.mul_one j] at this
  exact this

end Go.Proofs.YtlippmghgagdaaaGreat
