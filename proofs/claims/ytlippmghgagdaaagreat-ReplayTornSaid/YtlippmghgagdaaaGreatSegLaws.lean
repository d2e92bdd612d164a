import Derived.Test.YtlippmghgagdaaaGreatScanMid

/- The plain laws of Scan: what was written is found. No program in sight. -/
namespace Go.Proofs.YtlippmghgagdaaaGreat

theorem takeNums_put {ns : List Int} (rest : List UInt8) (h0 : ∀ n ∈ ns, 0 ≤ n ∧ n ≤ 9223372036854775807) : takeNumsL (flatN ns ++ rest) (ns.length : Int) = (ns, ((flatN ns).length : Int), 0) := by
  have h := rnums_put (L := flatN ns ++ rest) ns rest 0 [] h0 (Nat.zero_le _) (by simp)
  unfold takeNumsL
  rw [if_neg (by omega), Int.toNat_natCast, h]
  simp
theorem headerL_back {h : Hd} (hh : OkHd h) (he : (headL h).2 = 0) : ∃ x, headL h = (frB x, 0) ∧ x.length ≤ 65536 ∧ headerL x = (h, true) := by
  have hI := hh.i63
  have h1 : (numsL (headN h)).2 = 0 := by
    unfold headL at he
    by_cases h1 : (numsL (headN h)).2 = 0
    · exact h1
    · rw [if_pos h1] at he; exact absurd he h1
  have h2 : ∀ n ∈ headN h, 0 ≤ n := by
    unfold numsL at h1
    by_cases h2 : ∀ n ∈ headN h, 0 ≤ n
    · exact h2
    · rw [if_neg h2] at h1; simp at h1
  have h3 : numsL (headN h) = (flatN (headN h), 0) := if_pos h2
  have hl := flatN_len hI
  have hl4 : (headN h).length = 4 := rfl
  refine ⟨flatN (headN h), ?_, by omega, ?_⟩
  · unfold headL
    rw [h3, if_neg (by simp)]
    exact frameL_ok (x := flatN (headN h)) (by omega)
  · have ht := takeNums_put (ns := headN h) [] (fun n hn => ⟨h2 n hn, (hI n hn).2⟩)
    rw [List.append_nil, hl4] at ht
    unfold headerL
    rw [show takeNumsL (flatN (headN h)) 4 = _ from ht]
    simp [headN]
theorem recordL_back {r : Rc} (hr : OkRc r) (hc : checkL r = 0) : recordL (bodyR r) = (r, true) := by
  have h1 := checkL_ok hc
  have ht := takeNums_put (ns := recN r) (putL r.data.length ++ r.data) (fun n hn => ⟨h1.2 n hn, (hr n hn).2⟩)
  have hl6 : (recN r).length = 6 := rfl
  rw [hl6] at ht
  have hv := takeVec_put (x := r.data) (rest := []) (by omega)
  rw [List.append_nil] at hv
  unfold recordL
  obtain ⟨z, hz⟩ : ∃ z, takeNumsL (bodyR r) 6 = z := ⟨_, rfl⟩
  rw [hz, show z = (recN r, ((flatN (recN r)).length : Int), 0) from hz.symm.trans ht, if_neg (by simp)]
  dsimp only
  rw [Int.toNat_natCast]
  obtain ⟨y, hy⟩ : ∃ y, takeVecL ((bodyR r).drop (flatN (recN r)).length) = y := ⟨_, rfl⟩
  have hd : (bodyR r).drop (flatN (recN r)).length = putL r.data.length ++ r.data := by unfold bodyR; rw [List.drop_left]
  have hy2 : y = (r.data, (((putL r.data.length).length + r.data.length : Nat) : Int), 0) := by rw [← hy, hd]; exact hv
  rw [hy, hy2, if_neg (by simp [bodyR])]
  simp only [recN, List.getD_cons_zero, List.getD_cons_succ]
  simp [hc]
/-- where records' frames begin -/
def atsL : Nat → List Rc → List Int
  | _, [] => []
  | u, r :: l => (u : Int) :: atsL (u + (recL r).1.length) l
theorem step_head {b x rest : List UInt8} {h : Hd} (hx : x.length ≤ 65536) (hh : headerL x = (h, true)) (hb : b = frB x ++ rest) : stepS b f0d = some ⟨true, h, [], [], (frB x).length⟩ := by
  unfold stepS
  have ht := takeF_fr (rest := rest) hx
  rw [show b.drop f0d.used = frB x ++ rest by rw [hb]; rfl, ht]
  simp [hh, f0d]
theorem step_rec {b rest : List UInt8} {h : Hd} {l : List Rc} {a : List Int} {u : Nat} {r : Rc} (hr : OkRc r) (hc : checkL r = 0) (hb : b.drop u = (recL r).1 ++ rest) :
    stepS b ⟨true, h, l, a, u⟩ = some ⟨true, h, l ++ [r], a ++ [(u : Int)], u + (recL r).1.length⟩ := by
  have hle := bodyR_le hr hc
  rw [recL_ok hr hc] at hb ⊢
  have ht := takeF_fr (rest := rest) (show (bodyR r).length ≤ 65536 by omega)
  unfold stepS
  dsimp only at hb ⊢
  rw [hb, ht]
  simp [recordL_back hr hc]
theorem way_recs {b : List UInt8} {h : Hd} : ∀ (l : List Rc) (l0 : List Rc) (a : List Int) (u : Nat) (rest : List UInt8), OnWay b ⟨true, h, l0, a, u⟩ → b.drop u = frsL l ++ rest → errL l = 0 → (∀ r ∈ l, OkRc r) →
    OnWay b ⟨true, h, l0 ++ l, a ++ atsL u l, u + (frsL l).length⟩
  | [], l0, a, u, rest, hw, _, _, _ => by simpa [atsL, frsL] using hw
  | r :: l, l0, a, u, rest, hw, hb, he, hok => by
    have hr := hok r (List.mem_cons_self ..)
    unfold errL at he
    by_cases hc : checkL r = 0
    · have h2 : (recL r).2 = 0 := by rw [recL_ok hr hc]
      simp only [h2, ne_eq, not_true_eq_false, if_false] at he
      simp only [frsL, List.append_assoc] at hb
      have hn := (hw.next (step_rec hr hc hb)).1
      have hd : b.drop (u + (recL r).1.length) = frsL l ++ rest := by rw [← List.drop_drop, hb, List.drop_left]
      have := way_recs l (l0 ++ [r]) (a ++ [(u : Int)]) (u + (recL r).1.length) rest hn hd he (fun x hx => hok x (List.mem_cons_of_mem _ hx))
      simpa [atsL, frsL, Nat.add_assoc] using this
    · rw [recL_no hc] at he
      simp [hc] at he
/-- what was written is found; behind it stands what is no whole frame -/
theorem scan_back {h : Hd} {l : List Rc} {rest : List UInt8} (hh : OkHd h) (he : (headL h).2 = 0) (hl : errL l = 0) (hok : ∀ r ∈ l, OkRc r) (hno : (takeF rest).2.2 = false) :
    scanL ((headL h).1 ++ frsL l ++ rest) = ⟨true, h, l, atsL (headL h).1.length l, (headL h).1.length + (frsL l).length⟩ := by
  obtain ⟨x, h1, h2, h3⟩ := headerL_back hh he
  rw [h1]
  dsimp only
  have w0 := (OnWay.start (frB x ++ frsL l ++ rest)).next (step_head (rest := frsL l ++ rest) h2 h3 (by simp)) |>.1
  have w1 := way_recs l [] [] (frB x).length rest w0 (by rw [List.append_assoc, List.drop_left]) hl hok
  simp only [List.nil_append] at w1
  refine w1.stop ?_
  unfold stepS
  dsimp only
  rw [show (frB x ++ frsL l ++ rest).drop ((frB x).length + (frsL l).length) = rest by rw [← List.length_append, List.drop_left]]
  rw [if_pos hno]
theorem takeF_short {b : List UInt8} (h : b.length < 5) : (takeF b).2.2 = false := by
  obtain ⟨t, ht⟩ : ∃ t, takeF b = t := ⟨_, rfl⟩
  obtain ⟨x, n, ok⟩ := t
  rw [ht]
  cases ok with
  | false => rfl
  | true => obtain ⟨j, _, h1, h2, _⟩ := takeF_inv ht; omega
end Go.Proofs.YtlippmghgagdaaaGreat

/- The plain laws behind seg's statements. No program in sight. -/
namespace Go.Proofs.YtlippmghgagdaaaGreat

theorem headerL_inv {x : List UInt8} {h : Hd} (hx : x.length ≤ 65536) (hh : headerL x = (h, true)) : headL h = (frB x, 0) ∧ OkHd h := by
  unfold headerL at hh
  obtain ⟨t, ht⟩ : ∃ t, takeNumsL x 4 = t := ⟨_, rfl⟩
  obtain ⟨l, n, e⟩ := t
  rw [ht] at hh
  simp only at hh
  split at hh
  · simp at hh
  · rename_i he
    have he : e = 0 := Decidable.not_not.1 he
    subst he
    split at hh
    · simp at hh
    · rename_i hn
      obtain ⟨h4, hI, j, rfl, hj, hxe⟩ := takeNums_inv (many := 4) ht
      have hn1 : (j : Int) = x.length := by
        rcases Classical.em ((j : Int) = x.length) with h | h
        · exact h
        · exact absurd (.inl h) hn
      have hn0 : l.getD 0 0 = 0 := by
        rcases Classical.em (l.getD 0 0 = 0) with h | h
        · exact h
        · exact absurd (.inr h) hn
      have hd : x.drop j = [] := List.drop_eq_nil_of_le (by omega)
      rw [hd, List.append_nil] at hxe
      match l, h4 with
      | [a, b, c, d], _ =>
        simp only [List.getD_cons_zero, List.getD_cons_succ, Prod.mk.injEq, and_true] at hn0 hh
        subst hn0
        have hb := hI b (by simp)
        have hc := hI c (by simp)
        have hd := hI d (by simp)
        subst hh
        have e : numsL (headN ⟨b, c, d⟩) = (x, 0) := by
          unfold numsL
          rw [if_pos (by intro m hm; exact (hI m hm).1)]
          rw [show headN ⟨b, c, d⟩ = [0, b, c, d] from rfl, ← hxe]
        refine ⟨?_, ?_⟩
        · unfold headL
          rw [e, if_neg (by simp)]
          exact frameL_ok hx
        · unfold OkHd
          simp only
          omega
theorem recordL_inv {x : List UInt8} {r : Rc} (hr : recordL x = (r, true)) : x = bodyR r ∧ OkRc r ∧ checkL r = 0 := by
  unfold recordL at hr
  obtain ⟨t, ht⟩ : ∃ t, takeNumsL x 6 = t := ⟨_, rfl⟩
  obtain ⟨l, n, e⟩ := t
  rw [ht] at hr
  simp only at hr
  split at hr
  · simp at hr
  · rename_i he
    have he : e = 0 := Decidable.not_not.1 he
    subst he
    obtain ⟨y, hy⟩ : ∃ y, takeVecL (x.drop n.toNat) = y := ⟨_, rfl⟩
    obtain ⟨v, k, e⟩ := y
    rw [hy] at hr
    simp only at hr
    split at hr
    · simp at hr
    · rename_i hn
      obtain ⟨h6, hI, j, rfl, hj, hxe⟩ := takeNums_inv (many := 6) ht
      have he : e = 0 := Decidable.not_not.1 (fun h => hn (.inl h))
      subst he
      have hk : ¬ ((j : Int) + k < x.length) := fun h => hn (.inr h)
      rw [Int.toNat_natCast] at hy
      obtain ⟨q, rfl, hq1, hq2, hv, hv65⟩ := takeVec_one hy
      rw [List.length_drop] at hq2
      have hq : q = (x.drop j).length := by rw [List.length_drop]; omega
      rw [hq, List.take_length] at hv
      unfold vecL at hv
      rw [if_pos hv65] at hv
      injection hv with hv _
      match l, h6 with
      | [a, b, c, d, e, f], _ =>
        simp only [List.getD_cons_zero, List.getD_cons_succ, Prod.mk.injEq, decide_eq_true_eq] at hr
        obtain ⟨rfl, hc⟩ := hr
        refine ⟨?_, ?_, hc⟩
        · unfold bodyR
          rw [hv]
          exact hxe
        · intro m hm
          have := hI m hm
          constructor <;> omega
theorem errL_append {l m : List Rc} (h : errL l = 0) : errL (l ++ m) = errL m := by
  induction l with
  | nil => rfl
  | cons r l ih =>
    unfold errL at h
    by_cases hr : (recL r).2 = 0
    · rw [if_neg (by simp [hr])] at h
      rw [List.cons_append]
      unfold errL
      rw [if_neg (by simp [hr]), ih h]
      cases m <;> rfl
    · rw [if_pos hr] at h; exact absurd h hr
theorem atsL_append (u : Nat) (l m : List Rc) : atsL u (l ++ m) = atsL u l ++ atsL (u + (frsL l).length) m := by
  induction l generalizing u with
  | nil => simp [atsL, frsL]
  | cons r l ih => simp [atsL, frsL, ih, Nat.add_assoc]
theorem atsL_len (u : Nat) (l : List Rc) : (atsL u l).length = l.length := by
  induction l generalizing u with
  | nil => rfl
  | cons r l ih => simp [atsL, ih]
theorem atsL_at (u : Nat) (l : List Rc) {k : Nat} (hk : k < l.length) : (atsL u l)[k]? = some ((u + (frsL (l.take k)).length : Nat) : Int) := by
  induction l generalizing u k with
  | nil => simp at hk
  | cons r l ih =>
    cases k with
    | zero => simp [atsL, frsL]
    | succ k =>
      simp only [atsL, List.getElem?_cons_succ, List.take_succ_cons, frsL, List.length_append]
      rw [ih (u + (recL r).1.length) (by simpa using hk), Nat.add_assoc]
/-- what a state of Scan is: what was written so far -/
structure Sound (b : List UInt8) (f : Fd) : Prop where
  no : f.head = false → f = f0d
  yes : f.head = true → OkHd f.h ∧ (headL f.h).2 = 0 ∧ errL f.l = 0 ∧ (∀ r ∈ f.l, OkRc r) ∧ b.take f.used = (headL f.h).1 ++ frsL f.l ∧ f.at_ = atsL (headL f.h).1.length f.l ∧ f.l.length ≤ f.used
  le : f.used ≤ b.length
theorem Sound.start (b : List UInt8) : Sound b f0d := ⟨fun _ => rfl, fun h => (by simp [f0d] at h), Nat.zero_le _⟩
theorem Sound.next {b : List UInt8} {f g : Fd} (h : Sound b f) (hs : stepS b f = some g) : Sound b g := by
  have hu := stepS_used h.le hs
  unfold stepS at hs
  obtain ⟨t, ht⟩ : ∃ t, takeF (b.drop f.used) = t := ⟨_, rfl⟩
  obtain ⟨x, n, ok⟩ := t
  simp only [ht] at hs
  cases ok with
  | false => simp at hs
  | true =>
    obtain ⟨j, rfl, h1, h2, h3, h4⟩ := takeF_inv ht
    rw [frameL_ok h4] at h3
    injection h3 with h3 _
    simp only [Int.toNat_natCast, Bool.true_eq_false, if_false] at hs
    split at hs
    · rename_i hf
      obtain rfl := h.no hf
      split at hs
      · cases hs
      · rename_i hh
        obtain ⟨z, hz⟩ : ∃ z, headerL x = z := ⟨_, rfl⟩
        obtain ⟨hd, ok⟩ := z
        rw [hz] at hs hh
        simp only at hs hh
        have hok : ok = true := by cases ok <;> simp_all
        subst hok
        cases hs
        obtain ⟨e1, e2⟩ := headerL_inv h4 hz
        refine ⟨fun hx => (by simp at hx), fun _ => ⟨e2, by rw [e1], rfl, fun r hr => (by simp [f0d] at hr), ?_, by simp [f0d, atsL], by simp [f0d]⟩, hu.2⟩
        simp only [f0d, e1, frsL, List.append_nil, Nat.zero_add]
        rw [h3]; rfl
    · rename_i hf
      obtain ⟨e1, e2, e3, e4, e5, e6, e7⟩ := h.yes (by simpa using hf)
      split at hs
      · cases hs
      · rename_i hh
        obtain ⟨z, hz⟩ : ∃ z, recordL x = z := ⟨_, rfl⟩
        obtain ⟨r, ok⟩ := z
        rw [hz] at hs hh
        simp only at hs hh
        have hok : ok = true := by cases ok <;> simp_all
        subst hok
        cases hs
        obtain ⟨d1, d2, d3⟩ := recordL_inv hz
        have hrec : recL r = (frB x, 0) := by rw [d1]; exact recL_ok d2 d3
        refine ⟨fun hx => (by simp at hx), fun _ => ⟨e1, e2, ?_, ?_, ?_, ?_, ?_⟩, hu.2⟩
        · simp only
          rw [errL_append e3]
          simp [errL, hrec]
        · intro r' hr'
          rcases List.mem_append.1 hr' with h | h
          · exact e4 r' h
          · rw [List.mem_singleton] at h; rw [h]; exact d2
        · simp only [frsL_append, frsL, List.append_nil, hrec]
          rw [List.take_add, e5, h3, List.append_assoc]
        · simp only [atsL_append, atsL, e6]
          have hl := congrArg List.length e5
          rw [List.length_take, List.length_append, Nat.min_eq_left h.le] at hl
          rw [← hl]
        · simp only [List.length_append, List.length_singleton]
          omega
theorem Sound.iter {b : List UInt8} : ∀ (n : Nat) (f : Fd), Sound b f → Sound b (iterS b n f)
  | 0, _, h => h
  | n + 1, f, h => by
    unfold iterS
    cases hs : stepS b f with
    | none => exact h
    | some g => exact Sound.iter n g (h.next hs)
theorem scan_sound (b : List UInt8) : Sound b (scanL b) := Sound.iter _ _ (Sound.start b)
/-- what was written is found; behind it stands what is no record -/
theorem scan_back2 {h : Hd} {l : List Rc} {rest : List UInt8} (hh : OkHd h) (he : (headL h).2 = 0) (hl : errL l = 0) (hok : ∀ r ∈ l, OkRc r) (hno : (takeF rest).2.2 = false ∨ (recordL (takeF rest).1).2 = false) :
    scanL ((headL h).1 ++ frsL l ++ rest) = ⟨true, h, l, atsL (headL h).1.length l, (headL h).1.length + (frsL l).length⟩ := by
  obtain ⟨x, h1, h2, h3⟩ := headerL_back hh he
  rw [h1]
  dsimp only
  have w0 := (OnWay.start (frB x ++ frsL l ++ rest)).next (step_head (rest := frsL l ++ rest) h2 h3 (by simp)) |>.1
  have w1 := way_recs l [] [] (frB x).length rest w0 (by rw [List.append_assoc, List.drop_left]) hl hok
  simp only [List.nil_append] at w1
  refine w1.stop ?_
  unfold stepS
  dsimp only
  rw [show (frB x ++ frsL l ++ rest).drop ((frB x).length + (frsL l).length) = rest by rw [← List.length_append, List.drop_left]]
  rcases hno with hno | hno
  · rw [if_pos hno]
  · split
    · rfl
    · simp
/-- what is found, written again, is the bytes that were whole; scanned again it is the same -/
theorem scan_twice {b : List UInt8} (h : (scanL b).head = true) : segP (scanL b).h (scanL b).l = (b.take (scanL b).used, 0) ∧ scanL (b.take (scanL b).used) = scanL b := by
  have hS := scan_sound b
  obtain ⟨e1, e2, e3, e4, e5, e6, e7⟩ := hS.yes h
  constructor
  · unfold segP
    rw [if_neg (by simp [e2]), if_neg (by simp [e3]), e5]
  · have := scan_back2 (rest := []) e1 e2 e3 e4 (.inl (takeF_short (by simp)))
    rw [List.append_nil, ← e5, ← e6] at this
    rw [this]
    have hl := congrArg List.length e5
    rw [List.length_take, List.length_append, Nat.min_eq_left hS.le] at hl
    rw [← hl]
    obtain ⟨z, hz⟩ : ∃ z, scanL b = z := ⟨_, rfl⟩
    rw [hz] at h ⊢
    obtain ⟨a1, a2, a3, a4, a5⟩ := z
    simp only at h
    subst h
    rfl
theorem record_nil : (recordL []).2 = false := by
  unfold recordL
  rw [if_pos]
  obtain ⟨t, ht⟩ : ∃ t, takeNumsL [] 6 = t := ⟨_, rfl⟩
  obtain ⟨l, n, e⟩ := t
  rw [ht]
  intro he
  dsimp only at he
  subst he
  obtain ⟨h6, _, j, _, _, hx⟩ := takeNums_inv (many := 6) ht
  match l, h6 with
  | a :: l, _ =>
    have := congrArg List.length hx
    have hp := putL_pos a.toNat
    simp [flatN] at this
    omega
theorem zeros_no (n : Nat) : (takeF (List.replicate n 0)).2.2 = false ∨ (recordL (takeF (List.replicate n 0)).1).2 = false := by
  cases n with
  | zero => exact .inl (takeF_short (by simp))
  | succ n =>
    refine .inr ?_
    have h := takeVec_put (x := []) (rest := List.replicate n 0) (by simp)
    have e : (putL ([] : List UInt8).length ++ ([] ++ List.replicate n 0)) = List.replicate (n + 1) 0 := by
      rw [List.length_nil, putL_lt (by omega)]; rfl
    rw [e] at h
    rw [takeF_of h, if_neg (by simp)]
    exact record_nil
/-- of what was cut off those frames that are whole -/
theorem scan_cut0 {h : Hd} {l : List Rc} (hh : OkHd h) (he : (headL h).2 = 0) {c : Nat} (hc : c < (headL h).1.length) : scanL (((headL h).1 ++ frsL l).take c) = f0d := by
  obtain ⟨x, h1, h2, h3⟩ := headerL_back hh he
  rw [h1] at hc ⊢
  dsimp only at hc ⊢
  refine (OnWay.start _).stop ?_
  unfold stepS
  have ht := takeF_cut h2 hc
  rw [show ((frB x ++ frsL l).take c).drop f0d.used = (frB x).take c by
    show (frB x ++ frsL l).take c = _
    rw [List.take_append, show c - (frB x).length = 0 by omega]; simp]
  rw [if_pos ht]
theorem frsL_take_succ {l : List Rc} {k : Nat} {r : Rc} (hk : l[k]? = some r) : frsL (l.take (k + 1)) = frsL (l.take k) ++ (recL r).1 := by
  obtain ⟨h1, h2⟩ := List.getElem?_eq_some_iff.1 hk
  rw [List.take_succ_eq_append_getElem h1, frsL_append, h2]
  simp [frsL]
theorem errL_mem {l : List Rc} (h : errL l = 0) : ∀ r ∈ l, (recL r).2 = 0 := by
  induction l with
  | nil => intro r hr; cases hr
  | cons r l ih =>
    unfold errL at h
    by_cases hr : (recL r).2 = 0
    · rw [if_neg (by simp [hr])] at h
      intro x hx
      rcases List.mem_cons.1 hx with e | e
      · rw [e]; exact hr
      · exact ih h x e
    · rw [if_pos hr] at h; exact absurd h hr
theorem errL_of {l : List Rc} (h : ∀ r ∈ l, (recL r).2 = 0) : errL l = 0 := by
  induction l with
  | nil => rfl
  | cons r l ih =>
    unfold errL
    rw [if_neg (by simp [h r (List.mem_cons_self ..)])]
    exact ih fun x hx => h x (List.mem_cons_of_mem _ hx)
theorem scan_cut {h : Hd} {l : List Rc} (hh : OkHd h) (he : (headL h).2 = 0) (hl : errL l = 0) (hok : ∀ r ∈ l, OkRc r) {c k : Nat}
    (h1 : (headL h).1.length + (frsL (l.take k)).length ≤ c) (h2 : k < l.length → c < (headL h).1.length + (frsL (l.take (k + 1))).length) :
    scanL (((headL h).1 ++ frsL l).take c) = ⟨true, h, l.take k, atsL (headL h).1.length (l.take k), (headL h).1.length + (frsL (l.take k)).length⟩ := by
  have hm := errL_mem hl
  have hl' : errL (l.take k) = 0 := errL_of fun r hr => hm r (List.mem_of_mem_take hr)
  have hok' : ∀ r ∈ l.take k, OkRc r := fun r hr => hok r (List.mem_of_mem_take hr)
  have hsp : (headL h).1 ++ frsL l = ((headL h).1 ++ frsL (l.take k)) ++ frsL (l.drop k) := by
    rw [List.append_assoc, ← frsL_append, List.take_append_drop]
  have hcut : ((headL h).1 ++ frsL l).take c = (headL h).1 ++ frsL (l.take k) ++ (frsL (l.drop k)).take (c - ((headL h).1.length + (frsL (l.take k)).length)) := by
    rw [hsp, List.take_append, List.take_of_length_le (by rw [List.length_append]; omega), List.length_append]
  rw [hcut]
  refine scan_back2 hh he hl' hok' (.inl ?_)
  rcases Nat.lt_or_ge k l.length with hlt | hge
  · have hr := hok _ (List.getElem_mem hlt)
    have hr2 := hm _ (List.getElem_mem hlt)
    have h3 := h2 hlt
    rw [frsL_take_succ (List.getElem?_eq_getElem hlt), List.length_append] at h3
    rw [List.drop_eq_getElem_cons hlt]
    simp only [frsL]
    have hch : checkL l[k] = 0 := by
      by_cases h : checkL l[k] = 0
      · exact h
      · rw [recL_no h] at hr2; exact hr2
    rw [recL_ok hr hch] at h3 ⊢
    dsimp only at h3 ⊢
    rw [List.take_append, show c - ((headL h).1.length + (frsL (l.take k)).length) - (frB (bodyR l[k])).length = 0 by omega, List.take_zero, List.append_nil]
    exact takeF_cut (by have := bodyR_le hr hch; omega) (by omega)
  · rw [List.drop_eq_nil_of_le hge]
    exact takeF_short (by simp [frsL])
end Go.Proofs.YtlippmghgagdaaaGreat
