/- The plain law of crc: the sum as a function on bytes; one turned byte turns the sum. No program in sight. -/
import Derived.Test.YtpacjjaekmipfaaMore
namespace Go.Proofs.Ytpacjjaekmipfaa

def stepC (r : Nat) : Nat := (r / 2) ^^^ (if r % 2 = 1 then 2197175160 else 0)
def tabC (i : Nat) : Nat := stepC (stepC (stepC (stepC (stepC (stepC (stepC (stepC i)))))))
def goC (r : Nat) (x : UInt8) : Nat := (r / 256) ^^^ tabC ((r % 256) ^^^ x.toNat)
def crcL (b : List UInt8) : Nat := 4294967295 ^^^ b.foldl goC 4294967295

theorem stepC_lt {r : Nat} (h : r < 4294967296) : stepC r < 4294967296 := by
  unfold stepC
  have : (4294967296 : Nat) = 2 ^ 32 := rfl
  rw [this] at h ⊢
  refine Nat.xor_lt_two_pow (by omega) ?_
  split <;> omega
theorem tabC_lt {r : Nat} (h : r < 4294967296) : tabC r < 4294967296 := by
  unfold tabC
  exact stepC_lt (stepC_lt (stepC_lt (stepC_lt (stepC_lt (stepC_lt (stepC_lt (stepC_lt h)))))))
theorem low_lt (r : Nat) (x : UInt8) : (r % 256) ^^^ x.toNat < 256 := by
  have : (256 : Nat) = 2 ^ 8 := rfl
  have hx := x.toNat_lt
  rw [this]
  exact Nat.xor_lt_two_pow (by omega) (by omega)
theorem goC_lt {r : Nat} (x : UInt8) (h : r < 4294967296) : goC r x < 4294967296 := by
  have h1 := low_lt r x
  have h2 : tabC ((r % 256) ^^^ x.toNat) < 4294967296 := tabC_lt (by omega)
  have : (4294967296 : Nat) = 2 ^ 32 := rfl
  unfold goC
  rw [this] at h2 ⊢
  exact Nat.xor_lt_two_pow (by omega) h2
theorem fold_lt (b : List UInt8) : ∀ r, r < 4294967296 → b.foldl goC r < 4294967296 := by
  induction b with
  | nil => intro r h; exact h
  | cons x b ih => intro r h; exact ih _ (goC_lt x h)
theorem crcL_lt (b : List UInt8) : crcL b < 4294967296 := by
  have h := fold_lt b 4294967295 (by omega)
  have : (4294967296 : Nat) = 2 ^ 32 := rfl
  unfold crcL
  rw [this] at h ⊢
  exact Nat.xor_lt_two_pow (by omega) h
theorem xor_left {a b c : Nat} (h : a ^^^ b = a ^^^ c) : b = c := by
  have : a ^^^ (a ^^^ b) = a ^^^ (a ^^^ c) := by rw [h]
  simpa [← Nat.xor_assoc] using this
theorem xor_right {a b c : Nat} (h : b ^^^ a = c ^^^ a) : b = c := by
  rw [Nat.xor_comm b, Nat.xor_comm c] at h; exact xor_left h
/-- the top byte of an entry tells which one it is -/
theorem tab_top : ∀ i : Fin 256, ∀ j : Fin 256, tabC i / 16777216 = tabC j / 16777216 → i = j := by
  set_option maxRecDepth 1000000 in
  decide
theorem goC_tells {r s : Nat} {x y : UInt8} (hr : r < 4294967296) (hs : s < 4294967296) (h : goC r x = goC s y) : r / 256 = s / 256 ∧ (r % 256) ^^^ x.toNat = (s % 256) ^^^ y.toNat := by
  have hi := low_lt r x
  have hj := low_lt s y
  have ht : tabC ((r % 256) ^^^ x.toNat) / 16777216 = tabC ((s % 256) ^^^ y.toNat) / 16777216 := by
    have h1 : goC r x / 2 ^ 24 = goC s y / 2 ^ 24 := by rw [h]
    unfold goC at h1
    rw [Nat.xor_div_two_pow, Nat.xor_div_two_pow] at h1
    rw [show r / 256 / 2 ^ 24 = 0 by omega, show s / 256 / 2 ^ 24 = 0 by omega] at h1
    simpa using h1
  have he := tab_top ⟨_, hi⟩ ⟨_, hj⟩ ht
  have he2 := congrArg Fin.val he
  dsimp only at he2
  refine ⟨?_, he2⟩
  unfold goC at h
  rw [he2] at h
  exact xor_right h
theorem goC_inj {r s : Nat} {x : UInt8} (hr : r < 4294967296) (hs : s < 4294967296) (h : goC r x = goC s x) : r = s := by
  obtain ⟨h1, h2⟩ := goC_tells hr hs h
  have := xor_right h2
  omega
theorem goC_byte {r : Nat} {x y : UInt8} (hr : r < 4294967296) (h : goC r x = goC r y) : x = y := by
  obtain ⟨_, h2⟩ := goC_tells hr hr h
  exact UInt8.toNat_inj.1 (xor_left h2)
theorem fold_inj (b : List UInt8) : ∀ r s, r < 4294967296 → s < 4294967296 → b.foldl goC r = b.foldl goC s → r = s := by
  induction b with
  | nil => intro r s _ _ h; exact h
  | cons x b ih => intro r s hr hs h; exact goC_inj hr hs (ih _ _ (goC_lt x hr) (goC_lt x hs) h)
theorem crc_turned (p q : List UInt8) {x y : UInt8} (h : crcL (p ++ x :: q) = crcL (p ++ y :: q)) : x = y := by
  unfold crcL at h
  have h := xor_left h
  rw [List.foldl_append, List.foldl_append] at h
  have hp := fold_lt p 4294967295 (by omega)
  exact goC_byte hp (fold_inj q _ _ (goC_lt _ hp) (goC_lt _ hp) h)
end Go.Proofs.Ytpacjjaekmipfaa
