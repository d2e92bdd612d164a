/- The walks of zone.Torn and zone.Read. -/
import Derived.Test.YtcjmcfjjbicimaaZone
import Derived.Test.YtcjmcfjjbicimaaZoneRoom
namespace Go.Proofs.Ytcjmcfjjbicimaa
open Go.RowKit

set_option maxRecDepth 100000 in
set_option maxHeartbeats 2000000 in
theorem torn_any (v sv : Value) (z : Zn) (most keep : Int) (l : List UInt8) (K K' : Nat → Prop) (w : World) (hz : IsZ w K v z) (hs : IsB w K' sv l) :
    Calls Try.prog 20 #[v, .int .i64 most, sv, .int .i64 keep] w fun e w' => ∃ v', e = .returned (.tuple #[v', .int .i64 (tornZ z most l keep).2]) ∧ OwnZ w' w.heap.size v' (tornZ z most l keep).1 ∧ Below w.heap.size w w' := by
  have hz0 := hz
  obtain ⟨A, c, rfl, hsb⟩ := hz
  have hl1 := hsb.len
  have hl2 := hs.len
  have hs0 := hs
  obtain ⟨A2, c2, rfl, _, hlc2, hcc2, _⟩ := hs
  clear hsb
  have W0 : Below w.heap.size w ((w.alloc (.cells #[.int .i64 z.st, .int .i64 z.fe, .slice A z.d.length c] 26)).alloc (.cells #[.int .i64 0, .int .i64 0, .slice none 0 0] 26)) := ((Below.refl _ _).alloc (Nat.le_refl _) _).alloc (by simp) _
  unfold zv tornZ
  by_cases hr : roomZ z most l = 0
  · rw [if_neg (by simpa using hr)]
    obtain ⟨hok, hl0, hst, hfit⟩ := roomZ_zero hr
    have hm := hok.2.1
    have HR := Lib.hid hr; clear hr
    clear hok hst
    by_cases hk : 0 ≤ keep ∧ keep ≤ l.length
    · rw [if_pos hk]
      obtain ⟨hk0, hk1⟩ := hk
      obtain ⟨k, rfl⟩ : ∃ k : Nat, keep = (k : Int) := ⟨keep.toNat, by omega⟩
      rw [Int.toNat_natCast]
      have hkl : k ≤ l.length := by omega
      have hkc : (k : Int) ≤ (c2 : Int) := by omega
      have htl : (l.take k).length = k := by rw [List.length_take]; omega
      have HTL := Lib.hid htl; clear htl
      go_enter Try.func20, Try.ntmps20
      go_wp2_with (go_at_call 45; refine (room_any _ _ z most l K K' _ ((hz0.alloc _).alloc _) ((hs0.alloc _).alloc _)).mono ?_; rintro e w1 ⟨rfl, hb1⟩; rw [HR.out]; have Ba := ((Blk.new w _ _ rfl).alloc _).step hb1; have Bb := (Blk.new (g := w.heap.size + 1) _ _ _ (by simp)).step hb1; obtain ⟨qa, fa⟩ := Ba.rules; obtain ⟨qb, fb⟩ := Bb.rules)
      go_region_with (go_at_call 46; refine (grown_any _ _ z most (l.take k) K K' _ ?_ ?_ (by rw [HTL.out]; omega)).mono ?_; (first | exact (((hz0.alloc _).alloc _).step hb1).drew | exact ((hz0.alloc _).alloc _).step hb1); (first | exact ((((hs0.pre hkl).alloc _).alloc _).step hb1).drew | exact (((hs0.pre hkl).alloc _).alloc _).step hb1); rintro e w2 ⟨v2, rfl, ⟨A4, c4, rfl, hown2⟩, hb2⟩; have Ba2 := Ba.drew.step hb2; have Bb2 := Bb.drew.step hb2; obtain ⟨qa2, fa2⟩ := Ba2.rules; obtain ⟨qb2, fb2⟩ := Bb2.rules; unfold zv)
      all_goals
        have hW := W0.trans (hb1.mono W0.size)
        go_wp2
        refine bodyPost_ret (v := .tuple #[zv (grownZ z most (l.take k)) A4 c4, .int .i64 0]) (by simp [results, Try.results20, go_sem, zv, qb2]) rfl ⟨_, rfl, ⟨A4, c4, rfl, own_set3 hown2 Bb.lt hW.size⟩, ?_⟩
        exact below_set3 (hW.drew.trans (hb2.mono hW.size)) (by omega)
    · rw [if_neg hk]
      have hkk : (keep < 0) ∨ ¬ keep < 0 ∧ (l.length : Int) < keep := by omega
      clear hk
      rcases hkk with hk | ⟨hk, hk2⟩
      all_goals
        go_enter Try.func20, Try.ntmps20
        go_wp2_with (first | (go_at_call 45; refine (room_any _ _ z most l K K' _ ((hz0.alloc _).alloc _) ((hs0.alloc _).alloc _)).mono ?_; rintro e w1 ⟨rfl, hb1⟩; rw [HR.out]; have Bb := (Blk.new (g := w.heap.size + 1) _ _ _ (by simp)).step hb1; obtain ⟨qb, fb⟩ := Bb.rules) | (go_at_call 48; refine (fail_any _ _).mono ?_; rintro e w2 ⟨rfl, hb2⟩; have Bb2 := Bb.step hb2; obtain ⟨qb2, fb2⟩ := Bb2.rules))
        have hW := (W0.trans (hb1.mono W0.size)).trans (hb2.mono (W0.trans (hb1.mono W0.size)).size)
        refine bodyPost_ret (v := .tuple #[.agg #[.int .i64 0, .int .i64 0, .slice none 0 0], .int .i64 1]) (by simp [results, Try.results20, go_sem, qb2]) rfl ⟨_, rfl, OwnZ.zero _ _, ?_⟩
        exact below_set3 hW (by omega)
  · rw [if_pos hr]
    obtain ⟨r, hre⟩ : ∃ r, r = roomZ z most l := ⟨_, rfl⟩
    rw [← hre] at hr ⊢
    have HE := Lib.hid hre; clear hre
    have hrb : (r != 0) = true := by simpa using hr
    clear hr
    go_enter Try.func20, Try.ntmps20
    go_wp2_with (first | (go_at_call 45; refine (room_any _ _ z most l K K' _ ((hz0.alloc _).alloc _) ((hs0.alloc _).alloc _)).mono ?_; rintro e w1 ⟨rfl, hb1⟩; rw [← HE.out]; have Bb := (Blk.new (g := w.heap.size + 1) _ _ _ (by simp)).step hb1; obtain ⟨qb, fb⟩ := Bb.rules) | (go_at_call 48; refine (fail_any _ _).mono ?_; rintro e w2 ⟨rfl, hb2⟩; have Bb2 := Bb.step hb2; obtain ⟨qb2, fb2⟩ := Bb2.rules))
    have hW := (W0.trans (hb1.mono W0.size)).trans (hb2.mono (W0.trans (hb1.mono W0.size)).size)
    refine bodyPost_ret (v := .tuple #[.agg #[.int .i64 0, .int .i64 0, .slice none 0 0], .int .i64 r]) (by simp [results, Try.results20, go_sem, qb2]) rfl ⟨_, rfl, OwnZ.zero _ _, ?_⟩
    exact below_set3 hW (by omega)

set_option maxRecDepth 100000 in
set_option maxHeartbeats 1000000 in
theorem read_any (v : Value) (z : Zn) (off n : Int) (K : Nat → Prop) (w : World) (hz : IsZ w K v z) (ho : off ≤ 9223372036854775807) :
    Calls Try.prog 16 #[v, .int .i64 off, .int .i64 n] w fun e w' => ∃ v', e = .returned (.tuple #[v', .int .i64 (readZ z off n).2]) ∧ OwnB w' w.heap.size v' (readZ z off n).1 ∧ Below w.heap.size w w' := by
  obtain ⟨A, c, rfl, hsb⟩ := hz
  obtain ⟨_, _, hlc, hcc, hl1⟩ := hsb.open_
  unfold zv readZ
  by_cases hk : 0 ≤ off ∧ 0 ≤ n ∧ off + n ≤ z.d.length
  · rw [if_pos hk]
    obtain ⟨hk0, hk1, hk2⟩ := hk
    obtain ⟨i, rfl⟩ : ∃ i : Nat, off = (i : Int) := ⟨off.toNat, by omega⟩
    obtain ⟨k, rfl⟩ : ∃ i : Nat, n = (i : Int) := ⟨n.toNat, by omega⟩
    rw [Int.toNat_natCast, Int.toNat_natCast]
    have hik : i + k ≤ z.d.length := by omega
    by_cases hci : c = i
    · subst hci
      have hk0' : k = 0 := by omega
      subst hk0'
      rw [List.take_zero]
      go_enter Try.func16, Try.ntmps16
      go_wp2_with (go_at_call 47; refine (cloneB_any _ [] (fun _ => True) _ ?_).mono ?_; (exact ⟨_, _, rfl, ⟨rfl, fun h => absurd h (by simp)⟩, by simp, by simp, by simp⟩); rintro e w1 ⟨A3, c3, rfl, hown1, hb1⟩)
      go_ret2
      exact ⟨_, rfl, ⟨A3, c3, rfl, own_base hown1 (by simp)⟩, ((Below.refl _ _).alloc (Nat.le_refl _) _).trans (hb1.mono (by simp))⟩
    · have hB := hsb.mid (i := i) (k := k) (c' := c - i) hik (by omega) (by omega)
      generalize (z.d.drop i).take k = m at hB ⊢
      go_enter Try.func16, Try.ntmps16
      go_wp2_with (go_at_call 47; refine (cloneB_any _ _ K _ (hB.alloc _)).mono ?_; rintro e w1 ⟨A3, c3, rfl, hown1, hb1⟩)
      go_ret2
      exact ⟨_, rfl, ⟨A3, c3, rfl, own_base hown1 (by simp)⟩, ((Below.refl _ _).alloc (Nat.le_refl _) _).trans (hb1.mono (by simp))⟩
  · rw [if_neg hk]
    have hkk : off < 0 ∨ ¬ off < 0 ∧ n < 0 ∨ ¬ off < 0 ∧ ¬ n < 0 ∧ (z.d.length : Int) < off ∨ ¬ off < 0 ∧ ¬ n < 0 ∧ ¬ (z.d.length : Int) < off ∧ (z.d.length : Int) - off < n := by omega
    clear hk
    rcases hkk with h1 | ⟨h1, h2⟩ | ⟨h1, h2, h3⟩ | ⟨h1, h2, h3, h4⟩
    all_goals
      go_enter Try.func16, Try.ntmps16
      go_wp2
      go_ret2
      exact ⟨_, rfl, ⟨none, 0, rfl, World.ownsRow_nil _ _ _ _⟩, (Below.refl _ _).alloc (Nat.le_refl _) _⟩
end Go.Proofs.Ytcjmcfjjbicimaa
