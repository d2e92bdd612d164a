/- The walk of zone.Append. -/
import Derived.Test.YtcjmcfjjbicimaaZone
import Derived.Test.YtcjmcfjjbicimaaZoneRoom
namespace Go.Proofs.Ytcjmcfjjbicimaa
open Go.RowKit

set_option maxRecDepth 100000 in
set_option maxHeartbeats 2000000 in
theorem append_any (v sv : Value) (z : Zn) (most : Int) (l : List UInt8) (K K' : Nat → Prop) (w : World) (hz : IsZ w K v z) (hs : IsB w K' sv l) :
    Calls Try.prog 15 #[v, .int .i64 most, sv] w fun e w' => ∃ v', e = .returned (.tuple #[v', .int .i64 (appZ z most l).2.1, .int .i64 (appZ z most l).2.2]) ∧ OwnZ w' w.heap.size v' (appZ z most l).1 ∧ Below w.heap.size w w' := by
  have hz0 := hz
  obtain ⟨A, c, rfl, hsb⟩ := hz
  have hl1 := hsb.len
  have hl2 := hs.len
  have hs0 := hs
  obtain ⟨A2, c2, rfl, _⟩ := hs
  clear hsb
  unfold zv appZ
  by_cases hr : roomZ z most l = 0
  · rw [if_pos hr]
    obtain ⟨hok, hl0, hst, hfit⟩ := roomZ_zero hr
    have hm := hok.2.1
    have HR := Lib.hid hr; clear hr
    clear hok hst
    go_enter Try.func15, Try.ntmps15
    go_wp2_with (go_at_call 45; refine (room_any _ _ z most l K K' _ ((hz0.alloc _).alloc _) ((hs0.alloc _).alloc _)).mono ?_; rintro e w1 ⟨rfl, hb1⟩; rw [HR.out]; have Ba := ((Blk.new w _ _ rfl).alloc _).step hb1; have Bb := (Blk.new (g := w.heap.size + 1) _ _ _ (by simp)).step hb1; obtain ⟨qa, fa⟩ := Ba.rules; obtain ⟨qb, fb⟩ := Bb.rules)
    go_region_with (go_at_call 46; refine (grown_any _ _ z most l K K' _ ?_ ?_ (by omega)).mono ?_; (first | exact (((hz0.alloc _).alloc _).step hb1).drew | exact ((hz0.alloc _).alloc _).step hb1); (first | exact (((hs0.alloc _).alloc _).step hb1).drew | exact ((hs0.alloc _).alloc _).step hb1); rintro e w2 ⟨v2, rfl, ⟨A4, c4, rfl, hown2⟩, hb2⟩; have Ba2 := Ba.drew.step hb2; have Bb2 := Bb.drew.step hb2; obtain ⟨qa2, fa2⟩ := Ba2.rules; obtain ⟨qb2, fb2⟩ := Bb2.rules; unfold zv)
    all_goals
      have hW : Below w.heap.size w w1 := (((Below.refl _ _).alloc (Nat.le_refl _) _).alloc (by simp) _).trans (hb1.mono (by simp; omega))
      go_wp2
      refine bodyPost_ret (v := .tuple #[zv (grownZ z most l) A4 c4, .int .i64 z.d.length, .int .i64 0]) (by simp [results, Try.results15, go_sem, zv, qb2]) rfl ⟨_, rfl, ⟨A4, c4, rfl, own_set3 hown2 Bb.lt hW.size⟩, ?_⟩
      exact below_set3 (hW.drew.trans (hb2.mono hW.size)) (by omega)
  · rw [if_neg hr]
    obtain ⟨r, hre⟩ : ∃ r, r = roomZ z most l := ⟨_, rfl⟩
    rw [← hre] at hr ⊢
    have HE := Lib.hid hre; clear hre
    have hrb : (r != 0) = true := by simpa using hr
    clear hr
    go_enter Try.func15, Try.ntmps15
    go_wp2_with (go_at_call 45; refine (room_any _ _ z most l K K' _ ((hz0.alloc _).alloc _) ((hs0.alloc _).alloc _)).mono ?_; rintro e w1 ⟨rfl, hb1⟩; rw [← HE.out]; have Bb := (Blk.new (g := w.heap.size + 1) _ _ _ (by simp)).step hb1; obtain ⟨qb, fb⟩ := Bb.rules)
    have hW : Below w.heap.size w w1 := (((Below.refl _ _).alloc (Nat.le_refl _) _).alloc (by simp) _).trans (hb1.mono (by simp; omega))
    refine bodyPost_ret (v := .tuple #[.agg #[.int .i64 0, .int .i64 0, .slice none 0 0], .int .i64 0, .int .i64 r]) (by simp [results, Try.results15, go_sem, qb]) rfl ⟨_, rfl, OwnZ.zero _ _, ?_⟩
    exact below_set3 hW (by omega)
end Go.Proofs.Ytcjmcfjjbicimaa
