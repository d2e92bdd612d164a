import Derived.Test.YtpacjjaekmipfaaLib
import Derived.Test.YtpacjjaekmipfaaRows
import Derived.Test.YtpacjjaekmipfaaRep
import Derived.Laws.BitsAllLaws
import Derived.Tactics
import Derived.Tactics2
import Derived.Defers
import Derived.Laws.Pointers
import Derived.Laws.LoneSync
import Derived.Laws.NewBlocks
import Derived.RegionTactic
import Derived.RegionCalls
import Derived.ChangeAlike

/- The plain law of crc: the sum as a function on bytes; one turned byte turns the sum. No program in sight. -/
namespace Go.Proofs.Ytpacjjaekmipfaa

def stepC (r : Nat) : Nat := (r / 2) ^^^ (if r % 2 = 1 then 2197175160 else 0)
def tabC (i : Nat) : Nat := stepC (stepC (stepC (stepC (stepC (stepC (stepC (stepC i)))))))
def goC (r : Nat) (x : UInt8) : Nat := (r / 256) ^^^ tabC ((r % 256) ^^^ x.toNat)
def crcL (b : List UInt8) : Nat := 4294967295 ^^^ b.foldl goC 4294967295

theorem stepC_lt {r : Nat} (h : r < 4294967296) : stepC r < 4294967296 := by
  unfold stepC
  have : (4294967296 : Nat) = 2 ^ 32 := rfl
  rw [this] at h ⊢
  refine Nat.xor_lt_two_pow (by omega) ?_
  split <;> omega
theorem tabC_lt {r : Nat} (h : r < 4294967296) : tabC r < 4294967296 := by
  unfold tabC
  exact stepC_lt (stepC_lt (stepC_lt (stepC_lt (stepC_lt (stepC_lt (stepC_lt (stepC_lt h)))))))
theorem low_lt (r : Nat) (x : UInt8) : (r % 256) ^^^ x.toNat < 256 := by
  have : (256 : Nat) = 2 ^ 8 := rfl
  have hx := x.toNat_lt
  rw [this]
  exact Nat.xor_lt_two_pow (by omega) (by omega)
theorem goC_lt {r : Nat} (x : UInt8) (h : r < 4294967296) : goC r x < 4294967296 := by
  have h1 := low_lt r x
  have h2 : tabC ((r % 256) ^^^ x.toNat) < 4294967296 := tabC_lt (by omega)
  have : (4294967296 : Nat) = 2 ^ 32 := rfl
  unfold goC
  rw [this] at h2 ⊢
  exact Nat.xor_lt_two_pow (by omega) h2
theorem fold_lt (b : List UInt8) : ∀ r, r < 4294967296 → b.foldl goC r < 4294967296 := by
  induction b with
  | nil => intro r h; exact h
  | cons x b ih => intro r h; exact ih _ (goC_lt x h)
theorem crcL_lt (b : List UInt8) : crcL b < 4294967296 := by
  have h := fold_lt b 4294967295 (by omega)
  have : (4294967296 : Nat) = 2 ^ 32 := rfl
  unfold crcL
  rw [this] at h ⊢
  exact Nat.xor_lt_two_pow (by omega) h
theorem xor_left {a b c : Nat} (h : a ^^^ b = a ^^^ c) : b = c := by
  have : a ^^^ (a ^^^ b) = a ^^^ (a ^^^ c) := by rw [h]
  simpa [← Nat.xor_assoc] using this
theorem xor_right {a b c : Nat} (h : b ^^^ a = c ^^^ a) : b = c := by
  rw [Nat.xor_comm b, Nat.xor_comm c] at h; exact xor_left h
/-- the top byte of an entry tells which one it is -/
theorem tab_top : ∀ i : Fin 256, ∀ j : Fin 256, tabC i / 16777216 = tabC j / 16777216 → i = j := by
  set_option maxRecDepth 1000000 in
  decide
theorem goC_tells {r s : Nat} {x y : UInt8} (hr : r < 4294967296) (hs : s < 4294967296) (h : goC r x = goC s y) : r / 256 = s / 256 ∧ (r % 256) ^^^ x.toNat = (s % 256) ^^^ y.toNat := by
  have hi := low_lt r x
  have hj := low_lt s y
  have ht : tabC ((r % 256) ^^^ x.toNat) / 16777216 = tabC ((s % 256) ^^^ y.toNat) / 16777216 := by
    have h1 : goC r x / 2 ^ 24 = goC s y / 2 ^ 24 := by rw [h]
    unfold goC at h1
    rw [Nat.xor_div_two_pow, Nat.xor_div_two_pow] at h1
    rw [show r / 256 / 2 ^ 24 = 0 by omega, show s / 256 / 2 ^ 24 = 0 by omega] at h1
    simpa using h1
  have he := tab_top ⟨_, hi⟩ ⟨_, hj⟩ ht
  have he2 := congrArg Fin.val he
  dsimp only at he2
  refine ⟨?_, he2⟩
  unfold goC at h
  rw [he2] at h
  exact xor_right h
theorem goC_inj {r s : Nat} {x : UInt8} (hr : r < 4294967296) (hs : s < 4294967296) (h : goC r x = goC s x) : r = s := by
  obtain ⟨h1, h2⟩ := goC_tells hr hs h
  have := xor_right h2
  omega
theorem goC_byte {r : Nat} {x y : UInt8} (hr : r < 4294967296) (h : goC r x = goC r y) : x = y := by
  obtain ⟨_, h2⟩ := goC_tells hr hr h
  exact UInt8.toNat_inj.1 (xor_left h2)
theorem fold_inj (b : List UInt8) : ∀ r s, r < 4294967296 → s < 4294967296 → b.foldl goC r = b.foldl goC s → r = s := by
  induction b with
  | nil => intro r s _ _ h; exact h
  | cons x b ih => intro r s hr hs h; exact goC_inj hr hs (ih _ _ (goC_lt x hr) (goC_lt x hs) h)
theorem crc_turned (p q : List UInt8) {x y : UInt8} (h : crcL (p ++ x :: q) = crcL (p ++ y :: q)) : x = y := by
  unfold crcL at h
  have h := xor_left h
  rw [List.foldl_append, List.foldl_append] at h
  have hp := fold_lt p 4294967295 (by omega)
  exact goC_byte hp (fold_inj q _ _ (goC_lt _ hp) (goC_lt _ hp) h)
end Go.Proofs.Ytpacjjaekmipfaa

/- The table of crc: what is known of its block; the walk of fill. -/
namespace Go.Proofs.Ytpacjjaekmipfaa
open Go.RowKit

/-- block g is a table: done holds n, the lock s, the entries t, used u -/
structure TabC (w : World) (g : Nat) (n s : Int) (t : Nat → Nat) (u : Int) : Prop where
  lt : g < w.heap.size
  free : ∀ o, w.frozen? ⟨g, o, none⟩ = false
  done : w.cell? ⟨g, 0, none⟩ = some (.int .u32 n)
  lock : w.cell? ⟨g, 1, none⟩ = some (.int .i32 s)
  tab : ∀ i, i < 256 → w.cell? ⟨g, 3 + i, none⟩ = some (.int .u32 (t i))
  used : w.cell? ⟨g, 259, none⟩ = some (.int .i64 u)

section
variable {w w' : World} {g : Nat} {n s : Int} {t : Nat → Nat} {u : Int}
theorem cell_set (w : World) (g i o : Nat) (x : Value) {y : Value} (hy : w.cell? ⟨g, o, none⟩ = some y) : (w.setCell ⟨g, i, none⟩ x).cell? ⟨g, o, none⟩ = some (if o = i then x else y) := by
  by_cases h : o = i
  · subst h; rw [if_pos rfl]; exact World.cell?_setCell_same w _ _ hy
  · rw [if_neg h]; exact (World.cell?_setCell_other _ ⟨g, i, none⟩ ⟨g, o, none⟩ _ (by simp; try omega)).trans hy
theorem TabC.drew (h : TabC w g n s t u) : TabC w.drew g n s t u := ⟨h.lt, h.free, h.done, h.lock, h.tab, h.used⟩
theorem TabC.setT (h : TabC w g n s t u) {i : Nat} (hi : i < 256) (x : Nat) : TabC (w.setCell ⟨g, 3 + i, none⟩ (.int .u32 x)) g n s (fun k => if k = i then x else t k) u :=
  ⟨by simpa using h.lt, fun o => by simpa using h.free o, by simpa [show ¬ (0 = 3 + i) by omega] using cell_set w g (3 + i) 0 (.int .u32 x) h.done, by simpa [show ¬ (1 = 3 + i) by omega] using cell_set w g (3 + i) 1 (.int .u32 x) h.lock,
   fun k hk => by
    have := cell_set w g (3 + i) (3 + k) (.int .u32 x) (h.tab k hk)
    by_cases hki : k = i
    · subst hki; simpa using this
    · rw [if_neg (by omega)] at this; rw [this]; simp [hki],
   by simpa [show ¬ (259 = 3 + i) by omega] using cell_set w g (3 + i) 259 (.int .u32 x) h.used⟩
theorem TabC.setN (h : TabC w g n s t u) (x : Int) : TabC (w.setCell ⟨g, 0, none⟩ (.int .u32 x)) g x s t u :=
  ⟨by simpa using h.lt, fun o => by simpa using h.free o, by simpa using cell_set w g 0 0 (.int .u32 x) h.done, by simpa using cell_set w g 0 1 (.int .u32 x) h.lock,
   fun k hk => by simpa [show ¬ (3 + k = 0) by omega] using cell_set w g 0 (3 + k) (.int .u32 x) (h.tab k hk), by simpa using cell_set w g 0 259 (.int .u32 x) h.used⟩
theorem TabC.setS (h : TabC w g n s t u) (x : Int) : TabC (w.setCell ⟨g, 1, none⟩ (.int .i32 x)) g n x t u :=
  ⟨by simpa using h.lt, fun o => by simpa using h.free o, by simpa using cell_set w g 1 0 (.int .i32 x) h.done, by simpa using cell_set w g 1 1 (.int .i32 x) h.lock,
   fun k hk => by simpa [show ¬ (3 + k = 1) by omega] using cell_set w g 1 (3 + k) (.int .i32 x) (h.tab k hk), by simpa using cell_set w g 1 259 (.int .i32 x) h.used⟩
theorem TabC.setU (h : TabC w g n s t u) (x : Int) : TabC (w.setCell ⟨g, 259, none⟩ (.int .i64 x)) g n s t x :=
  ⟨by simpa using h.lt, fun o => by simpa using h.free o, by simpa using cell_set w g 259 0 (.int .i64 x) h.done, by simpa using cell_set w g 259 1 (.int .i64 x) h.lock,
   fun k hk => by simpa [show ¬ (3 + k = 259) by omega] using cell_set w g 259 (3 + k) (.int .i64 x) (h.tab k hk), by simpa using cell_set w g 259 259 (.int .i64 x) h.used⟩
end

def stepsC : Nat → Nat → Nat
  | 0, r => r
  | k + 1, r => stepC (stepsC k r)
theorem stepsC_8 (r : Nat) : stepsC 8 r = tabC r := rfl
theorem stepsC_lt {r : Nat} (h : r < 4294967296) : ∀ k, stepsC k r < 4294967296
  | 0 => h
  | k + 1 => stepC_lt (stepsC_lt h k)

theorem stepC_bits (r : Nat) (h : r < 4294967296) : bits BinOp.xor IntKind.u32 ((r : Int) / 2) (bits BinOp.and IntKind.u32 2197175160 (-bits BinOp.and IntKind.u32 (r : Int) 1 % 4294967296)) = ((stepC r : Nat) : Int) := by
  have h1 : bits BinOp.and IntKind.u32 (r : Int) 1 = ((r % 2 : Nat) : Int) := by rw [show (1 : Int) = ((1 : Nat) : Int) from rfl, u32_and_nat _ _ h (by omega), Nat.and_one_is_mod]
  have h2 : (-((r % 2 : Nat) : Int)) % 4294967296 = ((if r % 2 = 1 then 4294967295 else 0 : Nat) : Int) := by split <;> omega
  have h3 : 2197175160 &&& (if r % 2 = 1 then 4294967295 else 0 : Nat) = (if r % 2 = 1 then 2197175160 else 0 : Nat) := by split <;> decide
  rw [h1, h2, show (2197175160 : Int) = ((2197175160 : Nat) : Int) from rfl, u32_and_nat _ _ (by omega) (by split <;> omega), h3, show (r : Int) / 2 = ((r / 2 : Nat) : Int) by omega, u32_xor_nat _ _ (by omega) (by split <;> omega)]
  rfl

set_option maxRecDepth 100000 in
set_option maxHeartbeats 1000000 in
theorem fill_any (g : Nat) (n s : Int) (t : Nat → Nat) (u : Int) (w : World) (hT : TabC w g n s t u) :
    Calls Try.prog 59 #[.pointer (some ⟨g, 0, none⟩)] w fun e w' => e = .returned (.tuple #[]) ∧ TabC w' g n s tabC u ∧ Turned w w' (· = g) := by
  go_enter Try.func59, Try.ntmps59
  go_wp2
  go_loopw [4] (fun i wr => ∃ (j : Nat) (t : Nat → Nat), i = .int .i64 j ∧ j ≤ 256 ∧ (∀ k, k < j → t k = tabC k) ∧ TabC wr g n s t u ∧ Turned w wr (· = g)) (fun i _ => 256 - (intOf i).toNat)
  case atStart => exact ⟨0, t, rfl, by omega, fun k hk => by omega, hT, Turned.refl _ _⟩
  case round =>
    obtain ⟨j, t1, rfl, hj, ht, hT1, hb⟩ := hrel
    by_cases hlt : j < 256
    · obtain ⟨wo, rfl⟩ : ∃ wo : World, wo = wr := ⟨_, rfl⟩
      go_wp2
      go_loopw [3, 9] (fun r k wx => ∃ (c : Nat), r = .int .u32 (stepsC c j : Nat) ∧ k = .int .i64 c ∧ c ≤ 8 ∧ wx = wo) (fun _ k _ => 8 - (intOf k).toNat)
      case atStart => exact ⟨0, by go_num, rfl, by omega, rfl⟩
      case round =>
        obtain ⟨c, rfl, rfl, hc, rfl⟩ := hrel
        have hr := stepsC_lt (r := j) (by omega) c
        by_cases hc8 : c < 8
        · go_wp2
          go_roundw
          case rel =>
            refine ⟨c + 1, ?_, by go_num, by omega, trivial⟩
            rw [stepC_bits _ hr]
            rfl
          case measure => simp [intOf]; omega
        · obtain rfl : c = 8 := by omega
          have hcell := hT1.tab j hlt
          have hfr := hT1.free
          go_wp2
          refine ⟨⟨j + 1, _, by go_num, by omega, ?_, hT1.setT hlt _, hb.set rfl _ _⟩, by simp [intOf]; omega⟩
          intro k hk
          by_cases hkj : k = j
          · rw [if_pos hkj, hkj]; exact stepsC_8 j
          · rw [if_neg hkj]; exact ht k (by omega)
    · go_wp2
      obtain rfl : j = 256 := by omega
      go_end0
      refine ⟨rfl, ?_, hb⟩
      refine ⟨hT1.lt, hT1.free, hT1.done, hT1.lock, fun i hi => ?_, hT1.used⟩
      rw [← ht i hi]; exact hT1.tab i hi
end Go.Proofs.Ytpacjjaekmipfaa

/- The walks of sync.Once round crc's fill (turned from the kit's worked example on sync.Once). -/
namespace Go.Proofs.Ytpacjjaekmipfaa

theorem raceDisable (w : World) : (callFunc 76 #[]).run Try.prog w = .ok (.value (.tuple #[])) w := run_call_mark0 Try.func76 (by kernel_rfl) (by kernel_rfl) (by kernel_rfl) .disable (by kernel_rfl) w
theorem raceEnable (w : World) : (callFunc 78 #[]).run Try.prog w = .ok (.value (.tuple #[])) w := run_call_mark0 Try.func78 (by kernel_rfl) (by kernel_rfl) (by kernel_rfl) .enable (by kernel_rfl) w
theorem raceAcquire (a : Addr) (w : World) : (callFunc 79 #[.pointer (some a)]).run Try.prog w = .ok (.value (.tuple #[])) w := run_call_marked Try.func79 (by kernel_rfl) (by kernel_rfl) (by kernel_rfl) .acquire (by kernel_rfl) a w
theorem raceReleaseMerge (a : Addr) (w : World) : (callFunc 81 #[.pointer (some a)]).run Try.prog w = .ok (.value (.tuple #[])) w := run_call_marked Try.func81 (by kernel_rfl) (by kernel_rfl) (by kernel_rfl) .releaseMerge (by kernel_rfl) a w

set_option maxRecDepth 100000 in
theorem store_deferred (a : Addr) (x : Value) (u : FrameMode) (w : World) (hc : w.cell? a = some x) (hz : w.frozen? a = false) :
    CallsD Try.prog 69 #[.pointer (some a), .bool true] u w fun e u' w' => u' = u ∧ (e = .returned (.tuple #[]) ∧ w' = w.drew.setCell a (.int .u32 1)) := by
  have hc' : w.drew.cell? a = some x := by go_simp
  have hz' : w.drew.frozen? a = false := by go_simp
  have hst := run_call_store (P := Try.prog) Try.func73 (by kernel_rfl) (by kernel_rfl) (by kernel_rfl) (by kernel_rfl) (k := .u32) (y := 1) hc' hz'
  go_enter_d Try.func69, Try.ntmps69
  go_wp2
  go_region_calls
  all_goals (go_end0; exact ⟨rfl, rfl⟩)

set_option maxRecDepth 100000 in
/-- the inner Unlock, the lock held and nobody waiting -/
theorem unlock_in (a : Addr) (w : World) (hc : w.cell? a = some (.int .i32 1)) (hz : w.frozen? a = false) :
    Calls Try.prog 72 #[.pointer (some a)] w fun e w' => e = .returned (.tuple #[]) ∧ w' = w.setCell a (.int .i32 0) := by
  have hd := raceDisable
  have he := raceEnable
  have hr := raceReleaseMerge
  have hadd := run_call_add (P := Try.prog) Try.func82 (by kernel_rfl) (by kernel_rfl) (by kernel_rfl) .i32 (by kernel_rfl) (y := -1) (s := 0) hc hz (by simp [go_sem]; rfl)
  have hcv := run_convert_to_unsafe (P := Try.prog) (src := 145) (dst := 149) Try.underlying145 Try.underlying149 (by kernel_rfl) hc
  go_enter Try.func72, Try.ntmps72
  go_wp2
  go_end0
  exact ⟨rfl, rfl⟩
set_option maxRecDepth 100000 in
theorem unlock_deferred (a : Addr) (u : FrameMode) (w : World) (hc : w.cell? a = some (.int .i32 1)) (hz : w.frozen? a = false) :
    CallsD Try.prog 68 #[.pointer (some a)] u w fun e u' w' => u' = u ∧ (e = .returned (.tuple #[]) ∧ w' = w.setCell a (.int .i32 0)) := by
  go_enter_d Try.func68, Try.ntmps68
  go_wp2_with (go_at_call 72; refine (unlock_in a _ hc hz).mono ?_; rintro e w' ⟨rfl, rfl⟩)
  go_end0
  exact ⟨rfl, rfl⟩
set_option maxRecDepth 100000 in
/-- the inner Lock, the lock free -/
theorem lock_in (a : Addr) (w : World) (hc : w.cell? a = some (.int .i32 0)) (hz : w.frozen? a = false) :
    Calls Try.prog 71 #[.pointer (some a)] w fun e w' => e = .returned (.tuple #[]) ∧ w' = w.setCell a (.int .i32 1) := by
  have hd := raceDisable
  have he := raceEnable
  have ha := raceAcquire
  have hcas := run_call_cas_hit (P := Try.prog) Try.func77 (by kernel_rfl) (by kernel_rfl) (by kernel_rfl) .i32 (by kernel_rfl) (y := 1) hc hz
  have hc' : (w.setCell a (.int .i32 1)).cell? a = some (.int .i32 1) := World.cell?_setCell_same w a _ hc
  have hcv := run_convert_to_unsafe (P := Try.prog) (src := 145) (dst := 149) Try.underlying145 Try.underlying149 (by kernel_rfl) hc'
  go_enter Try.func71, Try.ntmps71
  go_wp2
  first | go_end0 | (simp only [Exit.inBlock, Exit.then]; refine bodyPost_ret (results_none rfl _ _ _) rfl ?_) | refine bodyPost_ret (results_none rfl _ _ _) rfl ?_
  exact ⟨rfl, rfl⟩
set_option maxRecDepth 100000 in
theorem lock_free (a : Addr) (w : World) (hc : w.cell? a = some (.int .i32 0)) (hz : w.frozen? a = false) :
    Calls Try.prog 67 #[.pointer (some a)] w fun e w' => e = .returned (.tuple #[]) ∧ w' = w.setCell a (.int .i32 1) := by
  go_enter Try.func67, Try.ntmps67
  go_wp2_with (go_at_call 71; refine (lock_in a _ hc hz).mono ?_; rintro e w' ⟨rfl, rfl⟩)
  go_end0
  exact ⟨rfl, rfl⟩
set_option maxRecDepth 100000 in
theorem load_bool (a : Addr) (d : Int) (w : World) (hc : w.cell? a = some (.int .u32 d)) :
    Calls Try.prog 63 #[.pointer (some a)] w fun e w' => e = .returned (.bool (d != 0)) ∧ w' = w := by
  have hl := run_call_load (P := Try.prog) Try.func66 (by kernel_rfl) (by kernel_rfl) (by kernel_rfl) .u32 (by kernel_rfl) hc
  go_enter Try.func63, Try.ntmps63
  go_wp2
  go_ret
  exact ⟨rfl, rfl⟩

set_option maxRecDepth 100000 in
set_option maxHeartbeats 1600000 in
theorem slow_any (g : Nat) (t : Nat → Nat) (u : Int) (w : World) (hT : TabC w g 0 0 t u) :
    Calls Try.prog 64 #[.pointer (some ⟨g, 0, none⟩), .func (.func 59) #[.pointer (some ⟨g, 0, none⟩)] #[]] w fun e w' => e = .returned (.tuple #[]) ∧ TabC w' g 1 0 tabC u ∧ Turned w w' (· = g) := by
  have hnot : ∀ (x : Bool) (w : World), (Op.unary .not (.bool x)).run Try.prog w = .ok (.bool (!x)) w := fun _ _ => rfl
  have hT1 := hT.setS 1
  go_enter_defers Try.func64, Try.ntmps64
  go_wp2_with (first
    | (go_at_call 67; refine (lock_free ⟨g, 1, none⟩ _ hT.lock (hT.free 1)).mono ?_; rintro e w' ⟨rfl, rfl⟩)
    | (go_at_call 63; refine (load_bool ⟨g, 0, none⟩ 0 _ hT1.done).mono ?_; rintro e w' ⟨rfl, rfl⟩)
    | (go_at_call 59; refine (fill_any g 0 1 t u _ hT1).mono ?_; rintro e w5 ⟨rfl, hT5, hb5⟩))
  refine leaves_cons (f := 69) (args := #[.pointer (some ⟨g, 0, none⟩), .bool true]) (by simp) (by simp [go_sem]) ?_
  refine (store_deferred ⟨g, 0, none⟩ _ .returning _ hT5.done (hT5.free 0)).mono ?_
  rintro e u' w'' ⟨rfl, rfl, rfl⟩
  have hT6 := hT5.drew.setN 1
  refine leaves_cons (f := 68) (args := #[.pointer (some ⟨g, 1, none⟩)]) (by simp [settle]) (by simp [go_sem]) ?_
  refine (unlock_deferred ⟨g, 1, none⟩ _ _ hT6.lock (hT6.free 1)).mono ?_
  rintro e u' w'' ⟨rfl, rfl, rfl⟩
  have hT7 := hT6.setS 0
  have hb : Turned w (((w5.drew.setCell ⟨g, 0, none⟩ (.int .u32 1))).setCell ⟨g, 1, none⟩ (.int .i32 0)) (· = g) :=
    (((((Turned.refl w (· = g)).set rfl 1 (.int .i32 1)).trans hb5).drew).set rfl _ _).set rfl _ _
  simp only [Leaves, settle, results, Try.results64]
  simp
  exact ⟨hT7, hb⟩

set_option maxRecDepth 100000 in
set_option maxHeartbeats 1600000 in
/-- Do: behind it the table is there -/
theorem once_any (g : Nat) (n : Int) (t : Nat → Nat) (u : Int) (w : World) (hT : TabC w g n 0 t u) (hn : n = 0 ∨ n = 1 ∧ ∀ i, i < 256 → t i = tabC i) :
    Calls Try.prog 58 #[.pointer (some ⟨g, 0, none⟩), .func (.func 59) #[.pointer (some ⟨g, 0, none⟩)] #[]] w fun e w' => e = .returned (.tuple #[]) ∧ TabC w' g 1 0 tabC u ∧ Turned w w' (· = g) := by
  have hnot : ∀ (x : Bool) (w : World), (Op.unary .not (.bool x)).run Try.prog w = .ok (.bool (!x)) w := fun _ _ => rfl
  rcases hn with rfl | ⟨rfl, ht⟩
  · go_enter Try.func58, Try.ntmps58
    go_wp2_with (first
      | (go_at_call 63; refine (load_bool ⟨g, 0, none⟩ 0 _ hT.done).mono ?_; rintro e w' ⟨rfl, rfl⟩)
      | (go_at_call 64; refine (slow_any g t u _ hT).mono ?_; rintro e w5 ⟨rfl, hT5, hb5⟩))
    go_end0
    exact ⟨rfl, hT5, hb5⟩
  · go_enter Try.func58, Try.ntmps58
    go_wp2_with (first
      | (go_at_call 63; refine (load_bool ⟨g, 0, none⟩ 1 _ hT.done).mono ?_; rintro e w' ⟨rfl, rfl⟩))
    go_end0
    exact ⟨rfl, ⟨hT.lt, hT.free, hT.done, hT.lock, fun i hi => by rw [← ht i hi]; exact hT.tab i hi, hT.used⟩, Turned.refl _ _⟩
end Go.Proofs.Ytpacjjaekmipfaa
