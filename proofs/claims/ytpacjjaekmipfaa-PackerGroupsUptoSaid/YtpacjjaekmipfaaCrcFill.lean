/- The table of crc: what is known of its block; the walk of fill. -/
import Derived.Test.YtpacjjaekmipfaaRows
import Derived.Test.YtpacjjaekmipfaaLib
import Derived.Test.YtpacjjaekmipfaaCrcPlain
import Derived.Test.YtpacjjaekmipfaaTurned
import Derived.Laws.BitsAllLaws
namespace Go.Proofs.Ytpacjjaekmipfaa
open Go.RowKit

/-- block g is a table: done holds n, the lock s, the entries t, used u -/
structure TabC (w : World) (g : Nat) (n s : Int) (t : Nat → Nat) (u : Int) : Prop where
  lt : g < w.heap.size
  free : ∀ o, w.frozen? ⟨g, o, none⟩ = false
  done : w.cell? ⟨g, 0, none⟩ = some (.int .u32 n)
  lock : w.cell? ⟨g, 1, none⟩ = some (.int .i32 s)
  tab : ∀ i, i < 256 → w.cell? ⟨g, 3 + i, none⟩ = some (.int .u32 (t i))
  used : w.cell? ⟨g, 259, none⟩ = some (.int .i64 u)

section
variable {w w' : World} {g : Nat} {n s : Int} {t : Nat → Nat} {u : Int}
theorem cell_set (w : World) (g i o : Nat) (x : Value) {y : Value} (hy : w.cell? ⟨g, o, none⟩ = some y) : (w.setCell ⟨g, i, none⟩ x).cell? ⟨g, o, none⟩ = some (if o = i then x else y) := by
  by_cases h : o = i
  · subst h; rw [if_pos rfl]; exact World.cell?_setCell_same w _ _ hy
  · rw [if_neg h]; exact (World.cell?_setCell_other _ ⟨g, i, none⟩ ⟨g, o, none⟩ _ (by simp; try omega)).trans hy
theorem TabC.drew (h : TabC w g n s t u) : TabC w.drew g n s t u := ⟨h.lt, h.free, h.done, h.lock, h.tab, h.used⟩
theorem TabC.setT (h : TabC w g n s t u) {i : Nat} (hi : i < 256) (x : Nat) : TabC (w.setCell ⟨g, 3 + i, none⟩ (.int .u32 x)) g n s (fun k => if k = i then x else t k) u :=
  ⟨by simpa using h.lt, fun o => by simpa using h.free o, by simpa [show ¬ (0 = 3 + i) by omega] using cell_set w g (3 + i) 0 (.int .u32 x) h.done, by simpa [show ¬ (1 = 3 + i) by omega] using cell_set w g (3 + i) 1 (.int .u32 x) h.lock,
   fun k hk => by
    have := cell_set w g (3 + i) (3 + k) (.int .u32 x) (h.tab k hk)
    by_cases hki : k = i
    · subst hki; simpa using this
    · rw [if_neg (by omega)] at this; rw [this]; simp [hki],
   by simpa [show ¬ (259 = 3 + i) by omega] using cell_set w g (3 + i) 259 (.int .u32 x) h.used⟩
theorem TabC.setN (h : TabC w g n s t u) (x : Int) : TabC (w.setCell ⟨g, 0, none⟩ (.int .u32 x)) g x s t u :=
  ⟨by simpa using h.lt, fun o => by simpa using h.free o, by simpa using cell_set w g 0 0 (.int .u32 x) h.done, by simpa using cell_set w g 0 1 (.int .u32 x) h.lock,
   fun k hk => by simpa [show ¬ (3 + k = 0) by omega] using cell_set w g 0 (3 + k) (.int .u32 x) (h.tab k hk), by simpa using cell_set w g 0 259 (.int .u32 x) h.used⟩
theorem TabC.setS (h : TabC w g n s t u) (x : Int) : TabC (w.setCell ⟨g, 1, none⟩ (.int .i32 x)) g n x t u :=
  ⟨by simpa using h.lt, fun o => by simpa using h.free o, by simpa using cell_set w g 1 0 (.int .i32 x) h.done, by simpa using cell_set w g 1 1 (.int .i32 x) h.lock,
   fun k hk => by simpa [show ¬ (3 + k = 1) by omega] using cell_set w g 1 (3 + k) (.int .i32 x) (h.tab k hk), by simpa using cell_set w g 1 259 (.int .i32 x) h.used⟩
theorem TabC.setU (h : TabC w g n s t u) (x : Int) : TabC (w.setCell ⟨g, 259, none⟩ (.int .i64 x)) g n s t x :=
  ⟨by simpa using h.lt, fun o => by simpa using h.free o, by simpa using cell_set w g 259 0 (.int .i64 x) h.done, by simpa using cell_set w g 259 1 (.int .i64 x) h.lock,
   fun k hk => by simpa [show ¬ (3 + k = 259) by omega] using cell_set w g 259 (3 + k) (.int .i64 x) (h.tab k hk), by simpa using cell_set w g 259 259 (.int .i64 x) h.used⟩
end

def stepsC : Nat → Nat → Nat
  | 0, r => r
  | k + 1, r => stepC (stepsC k r)
theorem stepsC_8 (r : Nat) : stepsC 8 r = tabC r := rfl
theorem stepsC_lt {r : Nat} (h : r < 4294967296) : ∀ k, stepsC k r < 4294967296
  | 0 => h
  | k + 1 => stepC_lt (stepsC_lt h k)

theorem stepC_bits (r : Nat) (h : r < 4294967296) : bits BinOp.xor IntKind.u32 ((r : Int) / 2) (bits BinOp.and IntKind.u32 2197175160 (-bits BinOp.and IntKind.u32 (r : Int) 1 % 4294967296)) = ((stepC r : Nat) : Int) := by
  have h1 : bits BinOp.and IntKind.u32 (r : Int) 1 = ((r % 2 : Nat) : Int) := by rw [show (1 : Int) = ((1 : Nat) : Int) from rfl, u32_and_nat _ _ h (by omega), Nat.and_one_is_mod]
  have h2 : (-((r % 2 : Nat) : Int)) % 4294967296 = ((if r % 2 = 1 then 4294967295 else 0 : Nat) : Int) := by split <;> omega
  have h3 : 2197175160 &&& (if r % 2 = 1 then 4294967295 else 0 : Nat) = (if r % 2 = 1 then 2197175160 else 0 : Nat) := by split <;> decide
  rw [h1, h2, show (2197175160 : Int) = ((2197175160 : Nat) : Int) from rfl, u32_and_nat _ _ (by omega) (by split <;> omega), h3, show (r : Int) / 2 = ((r / 2 : Nat) : Int) by omega, u32_xor_nat _ _ (by omega) (by split <;> omega)]
  rfl

set_option maxRecDepth 100000 in
set_option maxHeartbeats 1000000 in
theorem fill_any (g : Nat) (n s : Int) (t : Nat → Nat) (u : Int) (w : World) (hT : TabC w g n s t u) :
    Calls Try.prog 59 #[.pointer (some ⟨g, 0, none⟩)] w fun e w' => e = .returned (.tuple #[]) ∧ TabC w' g n s tabC u ∧ Turned w w' (· = g) := by
  go_enter Try.func59, Try.ntmps59
  go_wp2
  go_loopw [4] (fun i wr => ∃ (j : Nat) (t : Nat → Nat), i = .int .i64 j ∧ j ≤ 256 ∧ (∀ k, k < j → t k = tabC k) ∧ TabC wr g n s t u ∧ Turned w wr (· = g)) (fun i _ => 256 - (intOf i).toNat)
  case atStart => exact ⟨0, t, rfl, by omega, fun k hk => by omega, hT, Turned.refl _ _⟩
  case round =>
    obtain ⟨j, t1, rfl, hj, ht, hT1, hb⟩ := hrel
    by_cases hlt : j < 256
    · obtain ⟨wo, rfl⟩ : ∃ wo : World, wo = wr := ⟨_, rfl⟩
      go_wp2
      go_loopw [3, 9] (fun r k wx => ∃ (c : Nat), r = .int .u32 (stepsC c j : Nat) ∧ k = .int .i64 c ∧ c ≤ 8 ∧ wx = wo) (fun _ k _ => 8 - (intOf k).toNat)
      case atStart => exact ⟨0, by go_num, rfl, by omega, rfl⟩
      case round =>
        obtain ⟨c, rfl, rfl, hc, rfl⟩ := hrel
        have hr := stepsC_lt (r := j) (by omega) c
        by_cases hc8 : c < 8
        · go_wp2
          go_roundw
          case rel =>
            refine ⟨c + 1, ?_, by go_num, by omega, trivial⟩
            rw [stepC_bits _ hr]
            rfl
          case measure => simp [intOf]; omega
        · obtain rfl : c = 8 := by omega
          have hcell := hT1.tab j hlt
          have hfr := hT1.free
          go_wp2
          refine ⟨⟨j + 1, _, by go_num, by omega, ?_, hT1.setT hlt _, hb.set rfl _ _⟩, by simp [intOf]; omega⟩
          intro k hk
          by_cases hkj : k = j
          · rw [if_pos hkj, hkj]; exact stepsC_8 j
          · rw [if_neg hkj]; exact ht k (by omega)
    · go_wp2
      obtain rfl : j = 256 := by omega
      go_end0
      refine ⟨rfl, ?_, hb⟩
      refine ⟨hT1.lt, hT1.free, hT1.done, hT1.lock, fun i hi => ?_, hT1.used⟩
      rw [← ht i hi]; exact hT1.tab i hi
end Go.Proofs.Ytpacjjaekmipfaa
