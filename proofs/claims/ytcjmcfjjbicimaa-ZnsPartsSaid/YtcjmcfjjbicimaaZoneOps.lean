/- The walks of zone.Finish, Reset, Close, Open. -/
import Derived.Test.YtcjmcfjjbicimaaZone
import Derived.Test.YtcjmcfjjbicimaaZoneRoom
namespace Go.Proofs.Ytcjmcfjjbicimaa
open Go.RowKit

set_option maxRecDepth 100000 in
set_option maxHeartbeats 1000000 in
theorem finish_any (v : Value) (z : Zn) (K : Nat → Prop) (w : World) (hz : IsZ w K v z) :
    Calls Try.prog 29 #[v] w fun e w' => ∃ v', e = .returned (.tuple #[v', .int .i64 0]) ∧ OwnZ w' w.heap.size v' (finZ z) ∧ Below w.heap.size w w' := by
  have hz0 := hz
  obtain ⟨A, c, rfl, hsb⟩ := hz
  have hl1 := hsb.len
  have W0 : Below w.heap.size w ((w.alloc (.cells #[.int .i64 z.st, .int .i64 z.fe, .slice A z.d.length c] 26)).alloc (.cells #[.int .i64 0, .int .i64 0, .slice none 0 0] 26)) := ((Below.refl _ _).alloc (Nat.le_refl _) _).alloc (by simp) _
  unfold zv
  go_enter Try.func29, Try.ntmps29
  go_wp2_with (go_at_call 53; refine (with_any _ _ z 4 z.d K K _ ((hz0.alloc _).alloc _) ((hsb.alloc _).alloc _)).mono ?_; rintro e w1 ⟨v1, rfl, ⟨A4, c4, rfl, hown1⟩, hb1⟩; have Bb := (Blk.new (g := w.heap.size + 1) _ _ _ (by simp)).step hb1; obtain ⟨qb, fb⟩ := Bb.rules; unfold zv)
  have hW := W0.trans (hb1.mono W0.size)
  refine bodyPost_ret (v := .tuple #[zv ⟨4, z.fe, z.d⟩ A4 c4, .int .i64 0]) (by simp [results, Try.results29, go_sem, zv, qb]) rfl ⟨_, rfl, ⟨A4, c4, rfl, own_set3 hown1 (by simp) (by simp; omega)⟩, ?_⟩
  exact below_set3 hW (by omega)

set_option maxRecDepth 100000 in
set_option maxHeartbeats 1000000 in
theorem reset_any (v : Value) (z : Zn) (K : Nat → Prop) (w : World) (hz : IsZ w K v z) :
    Calls Try.prog 32 #[v] w fun e w' => ∃ v', e = .returned (.tuple #[v', .int .i64 0]) ∧ OwnZ w' w.heap.size v' (rstZ z) ∧ Below w.heap.size w w' := by
  have hz0 := hz
  obtain ⟨A, c, rfl, hsb⟩ := hz
  have hl1 := hsb.len
  have W0 : Below w.heap.size w ((w.alloc (.cells #[.int .i64 z.st, .int .i64 z.fe, .slice A z.d.length c] 26)).alloc (.cells #[.int .i64 0, .int .i64 0, .slice none 0 0] 26)) := ((Below.refl _ _).alloc (Nat.le_refl _) _).alloc (by simp) _
  unfold zv
  go_enter Try.func32, Try.ntmps32
  go_wp2_with (go_at_call 53; refine (with_any _ _ z 0 [] K K _ ((hz0.alloc _).alloc _) (IsB.nil_ _ _)).mono ?_; rintro e w1 ⟨v1, rfl, ⟨A4, c4, rfl, hown1⟩, hb1⟩; have Bb := (Blk.new (g := w.heap.size + 1) _ _ _ (by simp)).step hb1; obtain ⟨qb, fb⟩ := Bb.rules; unfold zv)
  have hW := W0.trans (hb1.mono W0.size)
  refine bodyPost_ret (v := .tuple #[zv ⟨0, z.fe, []⟩ A4 c4, .int .i64 0]) (by simp [results, Try.results32, go_sem, zv, qb]) rfl ⟨_, rfl, ⟨A4, c4, rfl, own_set3 hown1 (by simp) (by simp; omega)⟩, ?_⟩
  exact below_set3 hW (by omega)

set_option maxRecDepth 100000 in
set_option maxHeartbeats 1000000 in
theorem close_any (v : Value) (z : Zn) (K : Nat → Prop) (w : World) (hz : IsZ w K v z) :
    Calls Try.prog 31 #[v] w fun e w' => ∃ v', e = .returned (.tuple #[v', .int .i64 (closeZ z).2]) ∧ OwnZ w' w.heap.size v' (closeZ z).1 ∧ Below w.heap.size w w' := by
  have hz0 := hz
  obtain ⟨A, c, rfl, hsb⟩ := hz
  have hl1 := hsb.len
  have W0 : Below w.heap.size w ((w.alloc (.cells #[.int .i64 z.st, .int .i64 z.fe, .slice A z.d.length c] 26)).alloc (.cells #[.int .i64 0, .int .i64 0, .slice none 0 0] 26)) := ((Below.refl _ _).alloc (Nat.le_refl _) _).alloc (by simp) _
  unfold zv
  unfold closeZ
  by_cases h0 : z.st = 0 ∨ z.st = 4
  · rw [if_pos h0]
    have hb : (z.st == 0) = true ∨ (z.st == 0) = false ∧ (z.st == 4) = true := by simp; omega
    clear h0
    rcases hb with h0 | ⟨h0, h4⟩
    all_goals
      go_enter Try.func31, Try.ntmps31
      go_wp2_with (go_at_call 48; refine (fail_any _ _).mono ?_; rintro e w1 ⟨rfl, hb1⟩; have Bb := (Blk.new (g := w.heap.size + 1) _ _ _ (by simp)).step hb1; obtain ⟨qb, fb⟩ := Bb.rules)
      have hW := W0.trans (hb1.mono W0.size)
      refine bodyPost_ret (v := .tuple #[.agg #[.int .i64 0, .int .i64 0, .slice none 0 0], .int .i64 41]) (by simp [results, Try.results31, go_sem, qb]) rfl ⟨_, rfl, OwnZ.zero _ _, ?_⟩
      exact below_set3 hW (by omega)
  · rw [if_neg h0]
    have h1 : (z.st == 0) = false := beq_eq_false_iff_ne.2 (fun h => h0 (.inl h))
    have h4 : (z.st == 4) = false := beq_eq_false_iff_ne.2 (fun h => h0 (.inr h))
    clear h0
    by_cases hd : z.d.length = 0
    · have hdb : ((z.d.length : Int) == 0) = true := beq_iff_eq.2 (by omega)
      rw [if_pos hd]
      clear hd
      go_enter Try.func31, Try.ntmps31
      go_wp2_with (go_at_call 53; refine (with_any _ _ z 0 z.d K K _ ((hz0.alloc _).alloc _) ((hsb.alloc _).alloc _)).mono ?_; rintro e w1 ⟨v1, rfl, ⟨A4, c4, rfl, hown1⟩, hb1⟩; have Bb := (Blk.new (g := w.heap.size + 1) _ _ _ (by simp)).step hb1; obtain ⟨qb, fb⟩ := Bb.rules; unfold zv)
      have hW := W0.trans (hb1.mono W0.size)
      refine bodyPost_ret (v := .tuple #[zv ⟨0, z.fe, z.d⟩ A4 c4, .int .i64 0]) (by simp [results, Try.results31, go_sem, zv, qb]) rfl ⟨_, rfl, ⟨A4, c4, rfl, own_set3 hown1 (by simp) (by simp; omega)⟩, ?_⟩
      exact below_set3 hW (by omega)
    · have hdb : ((z.d.length : Int) == 0) = false := beq_eq_false_iff_ne.2 (by omega)
      rw [if_neg hd]
      clear hd
      go_enter Try.func31, Try.ntmps31
      go_wp2_with (go_at_call 53; refine (with_any _ _ z 3 z.d K K _ ((hz0.alloc _).alloc _) ((hsb.alloc _).alloc _)).mono ?_; rintro e w1 ⟨v1, rfl, ⟨A4, c4, rfl, hown1⟩, hb1⟩; have Bb := (Blk.new (g := w.heap.size + 1) _ _ _ (by simp)).step hb1; obtain ⟨qb, fb⟩ := Bb.rules; unfold zv)
      have hW := W0.trans (hb1.mono W0.size)
      refine bodyPost_ret (v := .tuple #[zv ⟨3, z.fe, z.d⟩ A4 c4, .int .i64 0]) (by simp [results, Try.results31, go_sem, zv, qb]) rfl ⟨_, rfl, ⟨A4, c4, rfl, own_set3 hown1 (by simp) (by simp; omega)⟩, ?_⟩
      exact below_set3 hW (by omega)

set_option maxRecDepth 100000 in
set_option maxHeartbeats 1000000 in
theorem open_any (v : Value) (z : Zn) (most : Int) (K : Nat → Prop) (w : World) (hz : IsZ w K v z) :
    Calls Try.prog 30 #[v, .int .i64 most] w fun e w' => ∃ v', e = .returned (.tuple #[v', .int .i64 (openZ z most).2]) ∧ OwnZ w' w.heap.size v' (openZ z most).1 ∧ Below w.heap.size w w' := by
  have hz0 := hz
  obtain ⟨A, c, rfl, hsb⟩ := hz
  have hl1 := hsb.len
  have W0 : Below w.heap.size w ((w.alloc (.cells #[.int .i64 z.st, .int .i64 z.fe, .slice A z.d.length c] 26)).alloc (.cells #[.int .i64 0, .int .i64 0, .slice none 0 0] 26)) := ((Below.refl _ _).alloc (Nat.le_refl _) _).alloc (by simp) _
  unfold zv
  unfold openZ
  by_cases hok : okZ z most
  · rw [if_neg (by simpa using hok)]
    have HC : Hid (chkZ z most = 0) := Lib.hid (if_pos hok)
    clear hok
    by_cases hst : z.st = 4
    · rw [if_pos hst]
      have hsb4 : (z.st == 4) = true := beq_iff_eq.2 hst
      clear hst
      go_enter Try.func30, Try.ntmps30
      go_wp2_with (first | (go_at_call 23; refine (check_any _ z most K _ ((hz0.alloc _).alloc _)).mono ?_; rintro e w2 ⟨rfl, hb2⟩; rw [HC.out]; have Ba2 := ((Blk.new w _ _ rfl).alloc _).step hb2; have Bb2 := (Blk.new (g := w.heap.size + 1) _ _ _ (by simp)).step hb2; obtain ⟨qa2, fa2⟩ := Ba2.rules; obtain ⟨qb2, fb2⟩ := Bb2.rules) | (go_at_call 48; refine (fail_any _ _).mono ?_; rintro e w1 ⟨rfl, hb1⟩; have Bb := Bb2.step hb1; obtain ⟨qb, fb⟩ := Bb.rules))
      have hW := (W0.trans (hb2.mono W0.size)).trans (hb1.mono (W0.trans (hb2.mono W0.size)).size)
      refine bodyPost_ret (v := .tuple #[.agg #[.int .i64 0, .int .i64 0, .slice none 0 0], .int .i64 41]) (by simp [results, Try.results30, go_sem, qb]) rfl ⟨_, rfl, OwnZ.zero _ _, ?_⟩
      exact below_set3 hW (by omega)
    · rw [if_neg hst]
      have hsb4 : (z.st == 4) = false := beq_eq_false_iff_ne.2 hst
      clear hst
      go_enter Try.func30, Try.ntmps30
      go_wp2_with (first | (go_at_call 23; refine (check_any _ z most K _ ((hz0.alloc _).alloc _)).mono ?_; rintro e w2 ⟨rfl, hb2⟩; rw [HC.out]; have Ba2 := ((Blk.new w _ _ rfl).alloc _).step hb2; have Bb2 := (Blk.new (g := w.heap.size + 1) _ _ _ (by simp)).step hb2; obtain ⟨qa2, fa2⟩ := Ba2.rules; obtain ⟨qb2, fb2⟩ := Bb2.rules) | (go_at_call 53; refine (with_any _ _ z 2 z.d K K _ (((hz0.alloc _).alloc _).step hb2) (((hsb.alloc _).alloc _).step hb2)).mono ?_; rintro e w1 ⟨v1, rfl, ⟨A4, c4, rfl, hown1⟩, hb1⟩; have Bb := Bb2.step hb1; obtain ⟨qb, fb⟩ := Bb.rules; unfold zv))
      have h02 := W0.trans (hb2.mono W0.size)
      have hW := h02.trans (hb1.mono h02.size)
      refine bodyPost_ret (v := .tuple #[zv ⟨2, z.fe, z.d⟩ A4 c4, .int .i64 0]) (by simp [results, Try.results30, go_sem, zv, qb]) rfl ⟨_, rfl, ⟨A4, c4, rfl, own_set3 hown1 Bb2.lt h02.size⟩, ?_⟩
      exact below_set3 hW (by omega)
  · rw [if_pos hok]
    have HC : Hid (chkZ z most = 1) := Lib.hid (if_neg hok)
    clear hok
    go_enter Try.func30, Try.ntmps30
    go_wp2_with (first | (go_at_call 23; refine (check_any _ z most K _ ((hz0.alloc _).alloc _)).mono ?_; rintro e w2 ⟨rfl, hb2⟩; rw [HC.out]; have Ba2 := ((Blk.new w _ _ rfl).alloc _).step hb2; have Bb2 := (Blk.new (g := w.heap.size + 1) _ _ _ (by simp)).step hb2; obtain ⟨qa2, fa2⟩ := Ba2.rules; obtain ⟨qb2, fb2⟩ := Bb2.rules) | (go_at_call 48; refine (fail_any _ _).mono ?_; rintro e w1 ⟨rfl, hb1⟩; have Bb := Bb2.step hb1; obtain ⟨qb, fb⟩ := Bb.rules))
    have hW := (W0.trans (hb2.mono W0.size)).trans (hb1.mono (W0.trans (hb2.mono W0.size)).size)
    refine bodyPost_ret (v := .tuple #[.agg #[.int .i64 0, .int .i64 0, .slice none 0 0], .int .i64 1]) (by simp [results, Try.results30, go_sem, qb]) rfl ⟨_, rfl, OwnZ.zero _ _, ?_⟩
    exact below_set3 hW (by omega)

end Go.Proofs.Ytcjmcfjjbicimaa
