/- The walks of the document's answer for zones: big, Copy, Same, Check, Append, Torn. -/
import Derived.Test.YtcjmcfjjbicimaaZonePlain
import Derived.Test.YtcjmcfjjbicimaaMore
import Derived.Test.YtcjmcfjjbicimaaRows
import Derived.Deep.RegionWith
namespace Go.Proofs.Ytcjmcfjjbicimaa
open Go.RowKit

theorem Try.info8 : (Try.prog.info? 5).map (fun i => (i.zero, i.size, i.bytes)) = some (some (.int .u8 0), 1, 1) := by kernel_rfl

def bigB (z : Zn) (l : List UInt8) : Bool := decide (70000 < (z.d.length : Int)) || decide (70000 < (l.length : Int))
theorem bigB_false {z : Zn} {l : List UInt8} (h : bigB z l = false) : z.d.length ≤ 70000 ∧ l.length ≤ 70000 := by
  unfold bigB at h; simp at h; omega

set_option maxRecDepth 100000 in
set_option maxHeartbeats 1000000 in
theorem big_any (v sv : Value) (z : Zn) (l : List UInt8) (K K' : Nat → Prop) (w : World) (hz : IsZ w K v z) (hs : IsB w K' sv l) :
    Calls Try.prog 17 #[v, sv] w fun e w' => e = .returned (.bool (bigB z l)) ∧ Below w.heap.size w w' := by
  obtain ⟨A, c, rfl, hsb⟩ := hz
  have hl1 := hsb.len
  have hl2 := hs.len
  obtain ⟨A2, c2, rfl, _⟩ := hs
  unfold zv
  by_cases h1 : 70000 < (z.d.length : Int)
  · have hb : bigB z l = true := by unfold bigB; simp; omega
    rw [hb]
    go_enter Try.func17, Try.ntmps17
    go_wp2
    go_ret
    exact ⟨rfl, (Below.refl _ _).alloc (Nat.le_refl _) _⟩
  · have hb : bigB z l = decide (70000 < (l.length : Int)) := by unfold bigB; simp; omega
    rw [hb]
    clear hb
    go_enter Try.func17, Try.ntmps17
    go_wp2
    go_ret
    exact ⟨rfl, (Below.refl _ _).alloc (Nat.le_refl _) _⟩

set_option maxRecDepth 100000 in
set_option maxHeartbeats 1000000 in
theorem copy_any (v : Value) (z : Zn) (K : Nat → Prop) (w : World) (hz : IsZ w K v z) :
    Calls Try.prog 18 #[v] w fun e w' => ∃ v', e = .returned v' ∧ OwnZ w' w.heap.size v' z ∧ Below w.heap.size w w' := by
  obtain ⟨i0, hi, hz0, hz1, hz2⟩ := info_parts Try.info8
  obtain ⟨A, c, rfl, hsb⟩ := hz
  obtain ⟨_, hr, _, _, hl1⟩ := hsb.open_
  unfold zv
  have Ba := (Blk.new w 26 #[.int .i64 z.st, .int .i64 z.fe, .slice A z.d.length c] rfl).alloc (.cells #[.int .i64 0, .int .i64 0, .slice none 0 0] 26)
  have Bb := Blk.new (g := w.heap.size + 1) (w.alloc (.cells #[.int .i64 z.st, .int .i64 z.fe, .slice A z.d.length c] 26)) 26 #[.int .i64 0, .int .i64 0, .slice none 0 0] (by simp)
  go_enter Try.func18, Try.ntmps18
  go_wp2_with (at_builtin; refine wpList_appN rfl (.const _) (.tmp 4) _ rfl (w.heap.size + 2) 5 i0 _ 1 1 Try.underlying24 hi hz0 hz1 hz2 rfl (by omega) rfl (World.ownsRow_nil _ _ _ _) rfl ((hr.alloc _).alloc _) (cells8_one _) (by simp only [maxLen]; omega) (by omega) (by simp) ?_; intro A4 c4 w4 hown4 hg4; simp only [Nat.zero_add, List.nil_append] at hown4 hg4 ⊢; have Ba4 := Ba.below hg4.below (by omega); have Bb4 := Bb.below hg4.below (by omega); obtain ⟨qa, fa⟩ := Ba4.rules; obtain ⟨qb, fb⟩ := Bb4.rules)
  have W2 : Below w.heap.size w ((w.alloc (.cells #[.int .i64 z.st, .int .i64 z.fe, .slice A z.d.length c] 26)).alloc (.cells #[.int .i64 0, .int .i64 0, .slice none 0 0] 26)) := ((Below.refl _ _).alloc (Nat.le_refl _) _).alloc (by simp) _
  refine bodyPost_ret (v := zv z A4 c4) (by simp [results, Try.results18, go_sem, zv, qb]) rfl ⟨_, rfl, ⟨A4, c4, rfl, own_set3 (ownsRow_setCell_below hown4 (by simp) _) (by omega) (by omega)⟩, ?_⟩
  exact below_set3 ((W2.trans (hg4.below.mono (by omega))).setCell (Nat.le_refl _) _) (by omega)

def sameZ (a b : Zn) : Bool := a.st == b.st && a.fe == b.fe && a.d == b.d
theorem sameZ_iff {a b : Zn} : sameZ a b = true ↔ a = b := by
  cases a; cases b
  simp [sameZ, and_assoc]
theorem sameZ_self (a : Zn) : sameZ a a = true := sameZ_iff.2 rfl

set_option maxRecDepth 100000 in
set_option maxHeartbeats 1000000 in
theorem same_any (v u : Value) (a b : Zn) (K K' : Nat → Prop) (w : World) (hv : IsZ w K v a) (hu : IsZ w K' u b) :
    Calls Try.prog 22 #[v, u] w fun e w' => e = .returned (.bool (sameZ a b)) ∧ Below w.heap.size w w' := by
  obtain ⟨A, c, rfl, hsa⟩ := hv
  obtain ⟨A2, c2, rfl, hsb⟩ := hu
  obtain ⟨_, hra, _⟩ := hsa.open_
  obtain ⟨_, hrb, _⟩ := hsb.open_
  unfold zv
  have hs1 := run_string_of (P := Try.prog) (cap := c) ((w.alloc (.cells #[.int .i64 a.st, .int .i64 a.fe, .slice A a.d.length c] 26)).alloc (.cells #[.int .i64 b.st, .int .i64 b.fe, .slice A2 b.d.length c2] 26)) 24 9 5 Try.underlying24 Try.underlying5 Try.underlying9 rfl ((hra.alloc _).alloc _)
  have hs2 := run_string_of (P := Try.prog) (cap := c2) ((w.alloc (.cells #[.int .i64 a.st, .int .i64 a.fe, .slice A a.d.length c] 26)).alloc (.cells #[.int .i64 b.st, .int .i64 b.fe, .slice A2 b.d.length c2] 26)) 24 9 5 Try.underlying24 Try.underlying5 Try.underlying9 rfl ((hrb.alloc _).alloc _)
  have W2 : Below w.heap.size w ((w.alloc (.cells #[.int .i64 a.st, .int .i64 a.fe, .slice A a.d.length c] 26)).alloc (.cells #[.int .i64 b.st, .int .i64 b.fe, .slice A2 b.d.length c2] 26)) := ((Below.refl _ _).alloc (Nat.le_refl _) _).alloc (by simp) _
  by_cases h1 : a.st = b.st
  · have h1b : (a.st == b.st) = true := beq_iff_eq.2 h1
    by_cases h2 : a.fe = b.fe
    · have h2b : (a.fe == b.fe) = true := beq_iff_eq.2 h2
      have hf : sameZ a b = (a.d == b.d) := by unfold sameZ; rw [h1b, h2b]; rfl
      rw [hf]
      clear h1 h2 hf
      go_enter Try.func22, Try.ntmps22
      go_wp2
      go_ret
      exact ⟨rfl, W2⟩
    · have h2b : (a.fe == b.fe) = false := beq_eq_false_iff_ne.2 h2
      have hf : sameZ a b = false := by unfold sameZ; rw [h1b, h2b]; rfl
      rw [hf]
      clear h1 h2 hf
      go_enter Try.func22, Try.ntmps22
      go_wp2
      go_ret
      exact ⟨rfl, W2⟩
  · have h1b : (a.st == b.st) = false := beq_eq_false_iff_ne.2 h1
    have hf : sameZ a b = false := by unfold sameZ; rw [h1b]; rfl
    rw [hf]
    clear h1 hf
    go_enter Try.func22, Try.ntmps22
    go_wp2
    go_ret
    exact ⟨rfl, W2⟩

set_option maxRecDepth 100000 in
set_option maxHeartbeats 1000000 in
theorem refCheck_any (v : Value) (z : Zn) (most : Int) (K : Nat → Prop) (w : World) (hz : IsZ w K v z) :
    Calls Try.prog 24 #[v, .int .i64 most] w fun e w' => e = .returned (.int .i64 (chkZ z most)) ∧ Below w.heap.size w w' := by
  obtain ⟨A, c, rfl, hsb⟩ := hz
  have hl := hsb.len
  clear hsb
  unfold zv
  obtain ⟨r, hr⟩ : ∃ r, r = chkZ z most := ⟨_, rfl⟩
  rw [← hr]
  have HR := Lib.hid hr; clear hr
  go_enter Try.func24, Try.ntmps24
  go_wp2
  all_goals
    go_ret
    refine ⟨congrArg (fun x => Ending.returned (.int .i64 x)) ?_, (Below.refl _ _).alloc (Nat.le_refl _) _⟩
    rw [HR.out]
    clear HR
    try simp only [beq_iff_eq, beq_eq_false_iff_ne, ne_eq, Bool.not_eq_true', Bool.not_eq_false', decide_eq_true_eq, decide_eq_false_iff_not] at *
    unfold chkZ
    first
      | (rw [if_pos (show okZ z most by unfold okZ; omega)]; done)
      | (rw [if_neg (show ¬ okZ z most by unfold okZ; omega)]; done)
end Go.Proofs.Ytcjmcfjjbicimaa
