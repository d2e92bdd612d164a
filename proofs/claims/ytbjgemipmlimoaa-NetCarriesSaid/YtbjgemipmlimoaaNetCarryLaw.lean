/- The plain law of NetCarries: what is on its way and what came out, counted by key, against what was sent. Over any messages and any keys; no program in sight. -/
/- Maps of the call's own from strings to ints that count, and to bools: made, looked up, written, ranged over. Over any program. -/
import Derived.Test.YtbjgemipmlimoaaMs
import Derived.Maps.Own
import Derived.Maps.RangeWalk
import Derived.Sort.MapsRangeIn
import Derived.StringKeys
namespace Go.Proofs.Ytbjgemipmlimoaa

section
variable {α κ : Type} [DecidableEq κ] (key : α → κ)

/-- how many of l have this key -/
def cntK (l : List α) (s : κ) : Nat := l.countP fun m => decide (key m = s)
def one (m : α) (s : κ) : Nat := if key m = s then 1 else 0
theorem cntK_nil (s : κ) : cntK key [] s = 0 := rfl
theorem cntK_append (l r : List α) (s : κ) : cntK key (l ++ r) s = cntK key l s + cntK key r s := by simp [cntK]
theorem cntK_one (m : α) (s : κ) : cntK key [m] s = one key m s := by simp [cntK, one, List.countP_cons]
theorem cntK_le (l : List α) (s : κ) : cntK key l s ≤ l.length := List.countP_le_length
theorem one_le (m : α) (s : κ) : one key m s ≤ 1 := by unfold one; split <;> omega
theorem one_self (m : α) : one key m (key m) = 1 := by simp [one]
theorem one_ne {m : α} {s : κ} (h : s ≠ key m) : one key m s = 0 := by simp [one, Ne.symm h]
theorem cntK_snoc (l : List α) {j : Nat} (h : j < l.length) (s : κ) : cntK key (l.take (j + 1)) s = cntK key (l.take j) s + one key l[j] s := by
  rw [List.take_succ_eq_append_getElem h, cntK_append, cntK_one]
/-- one is picked -/
theorem cntK_pick {l : List α} {k : Nat} {m : α} (h : l[k]? = some m) (s : κ) : cntK key (l.take k ++ l.drop (k + 1)) s + one key m s = cntK key l s := by
  obtain ⟨hk, rfl⟩ := List.getElem?_eq_some_iff.1 h
  have e : l = l.take k ++ ([l[k]] ++ l.drop (k + 1)) := by
    rw [List.singleton_append, ← List.drop_eq_getElem_cons hk, List.take_append_drop]
  have h2 := congrArg (fun x => cntK key x s) e
  simp only [cntK_append, cntK_one] at h2 ⊢
  omega
theorem cntK_sub {l r : List α} (h : r.Sublist l) (s : κ) : cntK key r s ≤ cntK key l s := h.countP_le
theorem cntK_pos {l : List α} {s : κ} (h : 0 < cntK key l s) : ∃ m ∈ l, key m = s := by
  obtain ⟨m, hm, he⟩ := List.countP_pos_iff.1 h
  exact ⟨m, hm, of_decide_eq_true he⟩
theorem cntK_of {l : List α} {m : α} (h : m ∈ l) : 0 < cntK key l (key m) := List.countP_pos_iff.2 ⟨m, h, by simp⟩

/-- what holds after j things were done at a net of this capacity: S what was sent, O what came out, D what was doubled -/
structure Carry (cap j : Nat) (q : List α) (S O : κ → Nat) (D : κ → Bool) : Prop where
  len : q.length ≤ cap
  sent : ∀ s, S s ≤ cap * j
  out : ∀ s, O s ≤ j
  was : ∀ s, 0 < O s → 0 < S s
  on : ∀ s, 0 < cntK key q s → 0 < S s
  often : ∀ s, D s = false → O s + cntK key q s ≤ S s

variable {key} {cap j : Nat} {q : List α} {S O : κ → Nat} {D D' : κ → Bool}
theorem Carry.start (cap : Nat) : Carry key cap 0 ([] : List α) (fun _ => 0) (fun _ => 0) (fun _ => false) :=
  ⟨Nat.zero_le _, fun _ => Nat.zero_le _, fun _ => Nat.zero_le _, fun _ h => by omega, fun _ h => by simp [cntK] at h, fun _ _ => by simp [cntK]⟩
/-- nothing was done -/
theorem Carry.idle (h : Carry key cap j q S O D) : Carry key cap (j + 1) q S O D :=
  ⟨h.len, fun s => Nat.le_trans (h.sent s) (Nat.mul_le_mul_left _ (Nat.le_succ j)), fun s => Nat.le_succ_of_le (h.out s), h.was, h.on, h.often⟩
/-- more is doubled -/
theorem Carry.more (h : Carry key cap j q S O D) (hd : ∀ s, D s = true → D' s = true) : Carry key cap j q S O D' :=
  ⟨h.len, h.sent, h.out, h.was, h.on, fun s hs => h.often s (by cases e : D s with | false => rfl | true => rw [hd s e] at hs; cases hs)⟩
/-- t is sent -/
theorem Carry.send (h : Carry key cap j q S O D) {t : List α} (ht : (q ++ t).length ≤ cap) : Carry key cap (j + 1) (q ++ t) (fun s => S s + cntK key t s) O D := by
  refine ⟨ht, fun s => ?_, fun s => Nat.le_succ_of_le (h.out s), fun s hs => ?_, fun s hs => ?_, fun s hs => ?_⟩
  · have h1 := h.sent s
    have h2 := cntK_le key t s
    have h3 : t.length ≤ cap := by simp at ht; omega
    show S s + cntK key t s ≤ cap * (j + 1)
    rw [Nat.mul_succ]; omega
  · have := h.was s hs; show 0 < S s + _; omega
  · rw [cntK_append] at hs
    show 0 < S s + cntK key t s
    rcases Nat.eq_zero_or_pos (cntK key q s) with h0 | h0
    · omega
    · have := h.on s h0; omega
  · have := h.often s hs
    rw [cntK_append]
    show _ ≤ S s + cntK key t s
    omega
/-- a message is delivered -/
theorem Carry.take (h : Carry key cap j q S O D) {k : Nat} {m : α} (hm : q[k]? = some m) : Carry key cap (j + 1) (q.take k ++ q.drop (k + 1)) S (fun s => O s + one key m s) D := by
  have hp := cntK_pick key hm
  have hk := (List.getElem?_eq_some_iff.1 hm).1
  refine ⟨?_, (h.idle).sent, fun s => ?_, fun s hs => ?_, fun s hs => ?_, fun s hs => ?_⟩
  · have := h.len; simp; omega
  · have h1 := h.out s; have h2 := one_le key m s; show O s + _ ≤ _; omega
  · have hs' : 0 < O s + one key m s := hs
    rcases Nat.eq_zero_or_pos (O s) with h0 | h0
    · refine h.on s ?_; have := hp s; omega
    · exact h.was s h0
  · refine h.on s ?_; have := hp s; omega
  · have h1 := h.often s hs; have h2 := hp s; show O s + one key m s + _ ≤ _; omega
/-- some are lost -/
theorem Carry.lose (h : Carry key cap j q S O D) {r : List α} (hr : r.Sublist q) : Carry key cap (j + 1) r S O D := by
  refine ⟨Nat.le_trans hr.length_le h.len, (h.idle).sent, (h.idle).out, h.was, fun s hs => h.on s ?_, fun s hs => ?_⟩
  · have := cntK_sub key hr s; omega
  · have h1 := cntK_sub key hr s; have h2 := h.often s hs; omega
theorem Carry.drop (h : Carry key cap j q S O D) (k : Nat) : Carry key cap (j + 1) (q.take k ++ q.drop (k + 1)) S O D := by
  refine h.lose ?_
  have := List.Sublist.append (List.Sublist.refl (q.take k)) (List.drop_sublist 1 (q.drop k))
  rwa [List.drop_drop, List.take_append_drop] at this
/-- one comes twice, and is known to -/
theorem Carry.double (h : Carry key cap j q S O D) {k : Nat} {m : α} (hm : q[k]? = some m) (hd : D (key m) = true) (hl : q.length < cap) : Carry key cap (j + 1) (q ++ [m]) S O D := by
  refine ⟨by simp; omega, (h.idle).sent, (h.idle).out, h.was, fun s hs => ?_, fun s hs => ?_⟩
  · rw [cntK_append, cntK_one] at hs
    rcases Nat.eq_zero_or_pos (cntK key q s) with h0 | h0
    · refine h.on s ?_
      have hp := cntK_pick key hm s
      omega
    · exact h.on s h0
  · have hne : s ≠ key m := fun e => by rw [e, hd] at hs; cases hs
    rw [cntK_append, cntK_one, one_ne key hne]
    exact h.often s hs
/-- one comes later -/
theorem Carry.later (h : Carry key cap j q S O D) {k : Nat} {m : α} (hm : q[k]? = some m) : Carry key cap (j + 1) (q.take k ++ q.drop (k + 1) ++ [m]) S O D := by
  have hp := cntK_pick key hm
  have hk := (List.getElem?_eq_some_iff.1 hm).1
  have e : ∀ s, cntK key (q.take k ++ q.drop (k + 1) ++ [m]) s = cntK key q s := fun s => by rw [cntK_append, cntK_one]; exact hp s
  refine ⟨?_, (h.idle).sent, (h.idle).out, h.was, fun s hs => h.on s (by rw [← e]; exact hs), fun s hs => by rw [e]; exact h.often s hs⟩
  have := h.len; simp; omega
/-- the answer at what came out -/
theorem Carry.good (h : Carry key cap j q S O D) {s : κ} (hs : 0 < O s) : S s ≠ 0 ∧ (D s = true ∨ O s + cntK key q s ≤ S s) := by
  refine ⟨by have := h.was s hs; omega, ?_⟩
  cases e : D s with
  | true => exact .inl rfl
  | false => exact .inr (h.often s e)
/-- the answer at what is left -/
theorem Carry.good_left (h : Carry key cap j q S O D) {s : κ} (hs : 0 < cntK key q s) : S s ≠ 0 := by have := h.on s hs; omega
end
end Go.Proofs.Ytbjgemipmlimoaa
namespace Go.Proofs.Ytbjgemipmlimoaa
open Go.RowKit Go.Maps Go.WideMaps

/-- block b counts: at the string s it holds f s; what it does not hold counts nothing -/
def CntM (P : Program) (k e : TypeId) (w : World) (b n : Nat) (f : List UInt8 → Nat) : Prop :=
  ∃ D : DataW Unit, w.ownsMap P k (plainElem P e) b n D ∧ IsMap D ∧ (∀ s, D.atKey (.string s) (.lit (.int .i64 0)) = .lit (.int .i64 (f s))) ∧ ∀ s, Maps.has D (.string s) = true → 0 < f s
/-- block b tells true or false: at the string s it holds g s -/
def BoolM (P : Program) (k e : TypeId) (w : World) (b n : Nat) (g : List UInt8 → Bool) : Prop :=
  ∃ D : DataW Unit, w.ownsMap P k (plainElem P e) b n D ∧ IsMap D ∧ ∀ s, D.atKey (.string s) (.lit (.bool false)) = .lit (.bool (g s))
/-- a range over it at iterator r; what is still to come is let -/
def RngM (P : Program) (k e : TypeId) (w : World) (b r n : Nat) (f : List UInt8 → Nat) (cnt : Nat) : Prop :=
  ∃ (D : DataW Unit) (left : Lit → Bool), w.ranges P k (plainElem P e) b r n D left cnt ∧ (∀ s, D.atKey (.string s) (.lit (.int .i64 0)) = .lit (.int .i64 (f s))) ∧ ∀ s, left (.string s) = true → 0 < f s

section
variable {P : Program} {k e : TypeId} {w w' : World} {b n r cnt : Nat} {f : List UInt8 → Nat} {g : List UInt8 → Bool}
theorem CntM.made (w : World) : CntM P k e (w.alloc (.map #[] 0)) w.heap.size 0 (fun _ => 0) :=
  ⟨.map [], World.ownsMap_made w P k _, isMap_empty, fun _ => rfl, fun s h => by simp [Maps.has] at h⟩
theorem BoolM.made (w : World) : BoolM P k e (w.alloc (.map #[] 0)) w.heap.size 0 (fun _ => false) :=
  ⟨.map [], World.ownsMap_made w P k _, isMap_empty, fun _ => rfl⟩
theorem CntM.lt (h : CntM P k e w b n f) : b < w.heap.size := by obtain ⟨D, h, _⟩ := h; exact h.lt
theorem BoolM.lt (h : BoolM P k e w b n g) : b < w.heap.size := by obtain ⟨D, h, _⟩ := h; exact h.lt
theorem CntM.kept {row : Option Nat} (h : CntM P k e w b n f) (hg : w.grownBy w' row) (hne : some b ≠ row) : CntM P k e w' b n f := by
  obtain ⟨D, h1, h2⟩ := h; exact ⟨D, h1.kept hg hne, h2⟩
theorem BoolM.kept {row : Option Nat} (h : BoolM P k e w b n g) (hg : w.grownBy w' row) (hne : some b ≠ row) : BoolM P k e w' b n g := by
  obtain ⟨D, h1, h2⟩ := h; exact ⟨D, h1.kept hg hne, h2⟩
theorem RngM.kept {row : Option Nat} (h : RngM P k e w b r n f cnt) (hg : w.grownBy w' row) (hne : some b ≠ row) (hr : some r ≠ row) : RngM P k e w' b r n f cnt := by
  obtain ⟨D, left, h1, h2⟩ := h; exact ⟨D, left, h1.kept hg hne hr, h2⟩
/-- a world that kept all blocks that were -/
theorem grownBy_of_below (h : Below w.heap.size w w') : w.grownBy w' none := ⟨h.os, h.tape, h.output, h.size, fun i hi _ => h.block i hi⟩
theorem CntM.step (h : CntM P k e w b n f) (hb : Below w.heap.size w w') : CntM P k e w' b n f := h.kept (grownBy_of_below hb) (by simp)
theorem BoolM.step (h : BoolM P k e w b n g) (hb : Below w.heap.size w w') : BoolM P k e w' b n g := h.kept (grownBy_of_below hb) (by simp)
theorem RngM.step (h : RngM P k e w b r n f cnt) (hb : Below w.heap.size w w') : RngM P k e w' b r n f cnt := h.kept (grownBy_of_below hb) (by simp) (by simp)
theorem RngM.owns (h : RngM P k e w b r n f cnt) : b < w.heap.size := by obtain ⟨D, left, h1, _⟩ := h; exact h1.owns.lt
theorem RngM.lt (h : RngM P k e w b r n f cnt) : r < w.heap.size := by obtain ⟨D, left, h1, _⟩ := h; exact h1.lt
theorem RngM.left_eq (h : RngM P k e w b r n f cnt) : w.rangeLeft b r = cnt := by obtain ⟨D, left, h1, _⟩ := h; exact h1.left_eq

variable {ops : Array Oper} {rest : List Oper} {o : Oper} {a : Act} {Q : Exit → Act → World → Prop}
theorem wpList_lookupK (hg : o.guard = none) (m x : Operand) (t : TypeId) (hop : o.op = Op.lookup t m x false)
    (k e : TypeId) (hk : P.underlying k = some .string) (ht : P.underlying t = some (.map k e)) (he : P.underlying e = some (.int .i64)) (hz : (zeroValue e).run P w = .ok (.int .i64 0) w)
    (b n : Nat) (f : List UInt8 → Nat) (hm : a.eval m = .map (some b)) (hM : CntM P k e w b n f) (key : ByteArray) (hx : a.eval x = .string key) (hs : key.size ≤ maxLen)
    (hK : wpList P ops Q rest (a.put o.dst (.int .i64 (f key.data.toList))) w) : wpList P ops Q (o :: rest) a w := by
  refine wpList_plain hg fun K' hK' => ?_
  obtain ⟨D, hown, _, hat, _⟩ := hM
  obtain ⟨c, hrun, hc, _⟩ := hown.lookup_int (string_keyed hk) ht he hz (keyOf_string_mk hk hs)
  rw [hat] at hc
  injection hc with hc
  injection hc with _ hc
  subst hc
  unfold Oper.wp
  simp [execOp, hop, hm, hx, hrun, Result.andThen]
  exact hK' _ _ hK
theorem wpList_lookupBoolK (hg : o.guard = none) (m x : Operand) (t : TypeId) (hop : o.op = Op.lookup t m x false)
    (k e : TypeId) (hk : P.underlying k = some .string) (ht : P.underlying t = some (.map k e)) (he : P.underlying e = some .bool) (hz : (zeroValue e).run P w = .ok (.bool false) w)
    (b n : Nat) (g : List UInt8 → Bool) (hm : a.eval m = .map (some b)) (hM : BoolM P k e w b n g) (key : ByteArray) (hx : a.eval x = .string key) (hs : key.size ≤ maxLen)
    (hK : wpList P ops Q rest (a.put o.dst (.bool (g key.data.toList))) w) : wpList P ops Q (o :: rest) a w := by
  refine wpList_plain hg fun K' hK' => ?_
  obtain ⟨D, hown, _, hat⟩ := hM
  obtain ⟨v, ps, hrun, hv⟩ := hown.lookup (string_keyed hk) ht hz (plainElem_bool he false) (keyOf_string_mk hk hs)
  rw [hat] at hv
  unfold plainElem at hv
  rw [he] at hv
  cases v <;> simp at hv
  obtain ⟨rfl, _⟩ := hv
  unfold Oper.wp
  simp [execOp, hop, hm, hx, hrun, Result.andThen]
  exact hK' _ _ hK
/-- one more is counted -/
theorem wpList_countK (hg : o.guard = none) (m x v : Operand) (t : TypeId) (hop : o.op = Op.mapUpdate t m x v)
    (k e : TypeId) (hk : P.underlying k = some .string) (ht : P.underlying t = some (.map k e)) (he : P.underlying e = some (.int .i64))
    (b n : Nat) (f : List UInt8 → Nat) (hm : a.eval m = .map (some b)) (hM : CntM P k e w b n f) (hn : n < maxLen) (key : ByteArray) (c : Int) (hx : a.eval x = .string key) (hv : a.eval v = .int .i64 c) (hs : key.size ≤ maxLen)
    (hc : c = f key.data.toList + 1) (hlt : f key.data.toList < 9223372036854775807)
    (hK : ∀ w', CntM P k e w' b (n + 1) (fun s => f s + if key.data.toList = s then 1 else 0) → w.grownBy w' (some b) → wpList P ops Q rest (a.put o.dst undef) w') : wpList P ops Q (o :: rest) a w := by
  obtain ⟨D, hown, hD, hat, hhas⟩ := hM
  have hwf : (Lit.int .i64 c).wf = true := by simp [Lit.wf, IntKind.min, IntKind.max, IntKind.signed, IntKind.bits]; omega
  refine wpList_mapUpdate_own w hg m x v t hop k e (string_keyed hk) ht _ b n D hm hown hn _ _ _ hx hv (keyOf_string_mk hk hs) _ _ (plainElem_int he hwf) fun w' h1 h2 => hK w' ⟨_, h1, hD.put _ _, fun s => ?_, fun s hs' => ?_⟩ h2
  · by_cases e1 : key.data.toList = s
    · subst e1; rw [atKey_put_same hD (show WideAt.IsKeyLit (.string key.data.toList) from trivial)]; simp [hc]
    · rw [atKey_put_other (by simpa using Ne.symm e1), hat]; simp [e1]
  · by_cases e1 : key.data.toList = s
    · simp only [if_pos e1]; omega
    · rw [has_put_other (by simpa using Ne.symm e1)] at hs'
      have := hhas s hs'
      show 0 < f s + _
      omega
/-- it is marked -/
theorem wpList_markK (hg : o.guard = none) (m x v : Operand) (t : TypeId) (hop : o.op = Op.mapUpdate t m x v)
    (k e : TypeId) (hk : P.underlying k = some .string) (ht : P.underlying t = some (.map k e)) (he : P.underlying e = some .bool)
    (b n : Nat) (g : List UInt8 → Bool) (hm : a.eval m = .map (some b)) (hM : BoolM P k e w b n g) (hn : n < maxLen) (key : ByteArray) (hx : a.eval x = .string key) (hv : a.eval v = .bool true) (hs : key.size ≤ maxLen)
    (hK : ∀ w', BoolM P k e w' b (n + 1) (fun s => decide (key.data.toList = s) || g s) → w.grownBy w' (some b) → wpList P ops Q rest (a.put o.dst undef) w') : wpList P ops Q (o :: rest) a w := by
  obtain ⟨D, hown, hD, hat⟩ := hM
  refine wpList_mapUpdate_own w hg m x v t hop k e (string_keyed hk) ht _ b n D hm hown hn _ _ _ hx hv (keyOf_string_mk hk hs) _ _ (plainElem_bool he true) fun w' h1 h2 => hK w' ⟨_, h1, hD.put _ _, fun s => ?_⟩ h2
  by_cases e1 : key.data.toList = s
  · subst e1; rw [atKey_put_same hD (show WideAt.IsKeyLit (.string key.data.toList) from trivial)]; simp
  · rw [atKey_put_other (by simpa using Ne.symm e1), hat]; simp [e1]
/-- a range begins -/
theorem wpList_rangeK (hg : o.guard = none) (m : Operand) (t : TypeId) (hop : o.op = Op.range t m) (k e : TypeId) (hk : P.underlying k = some .string) (ht : P.underlying t = some (.map k e))
    (b n : Nat) (f : List UInt8 → Nat) (hm : a.eval m = .map (some b)) (hM : CntM P k e w b n f)
    (hK : ∀ w' cnt, RngM P k e w' b w.heap.size n f cnt → w.grownBy w' none → w'.heap.size = w.heap.size + 1 → wpList P ops Q rest (a.put o.dst (.pointer (some ⟨w.heap.size, 0, none⟩))) w') :
    wpList P ops Q (o :: rest) a w := by
  obtain ⟨D, hown, _, hat, hhas⟩ := hM
  exact wpList_range_own w hg m t hop k e (string_keyed hk) ht _ b n D hm hown fun w' h1 h2 h3 => hK w' _ ⟨D, _, h1, hat, hhas⟩ h2 h3
/-- its step: nothing is left, or a key has come that counts -/
theorem wpList_nextK (hg : o.guard = none) (it : Operand) (hop : o.op = Op.next it false) (k e : TypeId) (hk : P.underlying k = some .string) (he : P.underlying e = some (.int .i64))
    (b r n : Nat) (f : List UInt8 → Nat) (cnt : Nat) (hit : a.eval it = .pointer (some ⟨r, 0, none⟩)) (h : RngM P k e w b r n f cnt)
    (hDone : wpList P ops Q rest (a.put o.dst (.tuple #[.bool false])) w)
    (hMore : ∀ (s : ByteArray) (w' : World) (cnt' : Nat), s.size ≤ maxLen → 0 < f s.data.toList → RngM P k e w' b r n f cnt' → cnt' < cnt → w.grownBy w' (some r) → w'.heap.size = w.heap.size →
      (Instr.entry (.pointer (some ⟨r, 0, none⟩))).run P w' = .ok (.tuple #[.string s, .int .i64 (f s.data.toList)]) w' → wpList P ops Q rest (a.put o.dst (.tuple #[.bool true, .string s, .int .i64 (f s.data.toList)])) w') :
    wpList P ops Q (o :: rest) a w := by
  obtain ⟨D, left, hrg, hat, hl⟩ := h
  refine wpList_next_ranges w hg it hop k (string_keyed hk) (plainElem P e) Value.string (Value.int .i64) (fun key kl hkey => Maps.keyOf_string_inv hk hkey) (fun v y hv => by obtain ⟨c, rfl, _⟩ := plainElem_int_inv he hv; exact ⟨c, rfl⟩)
    b r n D left cnt hit hrg (fun _ _ => hDone) fun x c kl y w' cnt' hkey hlk hv hy hrg' hlt hgr hsz hen => ?_
  have hk2 : x.size ≤ maxLen ∧ kl = .string x.data.toList := by
    simp [keyOf, hk, mapKey] at hkey
    exact ⟨hkey.1, hkey.2.symm⟩
  obtain ⟨hsx, rfl⟩ := hk2
  obtain ⟨c', ec, rfl, _⟩ := plainElem_int_inv he hv
  cases ec
  have h1 := (hat x.data.toList).symm.trans (hy _)
  injection h1 with h1
  injection h1 with _ h1
  subst h1
  refine hMore x w' cnt' hsx (hl _ hlk) ⟨D, _, hrg', hat, fun s hs => hl s ?_⟩ hlt hgr hsz hen
  simp only [Bool.and_eq_true] at hs
  exact hs.1
end
end Go.Proofs.Ytbjgemipmlimoaa
