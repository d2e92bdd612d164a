/- The walks of zone.room and zone.fail. -/
import Derived.Test.YtcjmcfjjbicimaaZoneCheck
namespace Go.Proofs.Ytcjmcfjjbicimaa
open Go.RowKit

set_option maxRecDepth 100000 in
set_option maxHeartbeats 1000000 in
theorem room_any (v sv : Value) (z : Zn) (most : Int) (l : List UInt8) (K K' : Nat → Prop) (w : World) (hz : IsZ w K v z) (hs : IsB w K' sv l) :
    Calls Try.prog 45 #[v, .int .i64 most, sv] w fun e w' => e = .returned (.int .i64 (roomZ z most l)) ∧ Below w.heap.size w w' := by
  have hz0 := hz
  obtain ⟨A, c, rfl, hsb⟩ := hz
  have hl1 := hsb.len
  have hl2 := hs.len
  obtain ⟨A2, c2, rfl, _⟩ := hs
  clear hsb
  have hck : ∀ n : Int, chkZ z most = n → Calls Try.prog 23 #[.agg #[.int .i64 z.st, .int .i64 z.fe, .slice A z.d.length c], .int .i64 most] (w.alloc (.cells #[.int .i64 z.st, .int .i64 z.fe, .slice A z.d.length c] 26)) fun e w' => e = .returned (.int .i64 n) ∧ Below (w.alloc (.cells #[.int .i64 z.st, .int .i64 z.fe, .slice A z.d.length c] 26)).heap.size (w.alloc (.cells #[.int .i64 z.st, .int .i64 z.fe, .slice A z.d.length c] 26)) w' := by
    intro n hn; subst hn; exact check_any _ z most K _ (hz0.alloc _)
  have hfin : ∀ w1, Below (w.alloc (.cells #[.int .i64 z.st, .int .i64 z.fe, .slice A z.d.length c] 26)).heap.size (w.alloc (.cells #[.int .i64 z.st, .int .i64 z.fe, .slice A z.d.length c] 26)) w1 → Below w.heap.size w w1 := fun w1 h =>
    ((Below.refl _ _).alloc (Nat.le_refl _) _).trans (h.mono (by simp))
  have HCK := Lib.hid hck; clear hck
  have HFIN := Lib.hid hfin; clear hfin
  unfold zv
  by_cases hok : okZ z most
  · have h0 : chkZ z most = 0 := if_pos hok
    have HC := HCK.out 0 h0
    have H0 := Lib.hid h0; clear h0
    have hm := hok.2.1
    have hm1 := hok.1
    have HOK := Lib.hid hok; clear hok
    have HH := Lib.hid HC; clear HC
    by_cases hl : l.length = 0
    · have hr : roomZ z most l = 1 := if_pos (.inr hl)
      rw [hr]
      have hlb : ((l.length : Int) == 0) = true := by simp; exact List.eq_nil_of_length_eq_zero hl
      clear hl hr
      go_enter Try.func45, Try.ntmps45
      go_wp2_with (go_at_call 23; refine (HH.out).mono ?_; rintro e w1 ⟨rfl, hb1⟩; obtain ⟨hc1, hf1⟩ := bcell hb1)
      go_ret
      exact ⟨rfl, HFIN.out _ hb1⟩
    · have hlb : ((l.length : Int) == 0) = false := by simp; intro h; exact hl (by rw [h]; rfl)
      by_cases hst : z.st = 4
      · have hr : roomZ z most l = 41 := by unfold roomZ; rw [if_neg (by rintro (h | h); exact h HOK.out; exact hl h), if_pos hst]
        rw [hr]
        have hsb : (z.st == 4) = true := beq_iff_eq.2 hst
        clear hl hr hst
        go_enter Try.func45, Try.ntmps45
        go_wp2_with (go_at_call 23; refine (HH.out).mono ?_; rintro e w1 ⟨rfl, hb1⟩; obtain ⟨hc1, hf1⟩ := bcell hb1)
        go_ret
        exact ⟨rfl, HFIN.out _ hb1⟩
      · have hsb : (z.st == 4) = false := beq_eq_false_iff_ne.2 hst
        by_cases hfit : (z.d.length : Int) + l.length ≤ most
        · have hr : roomZ z most l = 0 := by unfold roomZ; rw [if_neg (by rintro (h | h); exact h HOK.out; exact hl h), if_neg hst, if_pos hfit]
          rw [hr]
          clear hl hr hst
          go_enter Try.func45, Try.ntmps45
          go_wp2_with (go_at_call 23; refine (HH.out).mono ?_; rintro e w1 ⟨rfl, hb1⟩; obtain ⟨hc1, hf1⟩ := bcell hb1)
          go_ret
          exact ⟨rfl, HFIN.out _ hb1⟩
        · have hr : roomZ z most l = 40 := by unfold roomZ; rw [if_neg (by rintro (h | h); exact h HOK.out; exact hl h), if_neg hst, if_neg hfit]
          rw [hr]
          clear hl hr hst
          go_enter Try.func45, Try.ntmps45
          go_wp2_with (go_at_call 23; refine (HH.out).mono ?_; rintro e w1 ⟨rfl, hb1⟩; obtain ⟨hc1, hf1⟩ := bcell hb1)
          go_ret
          exact ⟨rfl, HFIN.out _ hb1⟩
  · have hr : roomZ z most l = 1 := if_pos (.inl hok)
    rw [hr]
    have HC := HCK.out 1 (if_neg hok)
    have HH := Lib.hid HC; clear HC
    clear hok hr
    go_enter Try.func45, Try.ntmps45
    go_wp2_with (go_at_call 23; refine (HH.out).mono ?_; rintro e w1 ⟨rfl, hb1⟩; obtain ⟨hc1, hf1⟩ := bcell hb1)
    go_ret
    exact ⟨rfl, HFIN.out _ hb1⟩

set_option maxRecDepth 100000 in
set_option maxHeartbeats 400000 in
theorem fail_any (n : Int) (w : World) :
    Calls Try.prog 48 #[.int .i64 n] w fun e w' => e = .returned (.tuple #[.agg #[.int .i64 0, .int .i64 0, .slice none 0 0], .int .i64 n]) ∧ Below w.heap.size w w' := by
  go_enter Try.func48, Try.ntmps48
  go_wp2
  refine bodyPost_ret (v := .tuple #[.agg #[.int .i64 0, .int .i64 0, .slice none 0 0], .int .i64 n]) (by simp [results, Try.results48, go_sem]) rfl ⟨rfl, ?_⟩
  exact (Below.refl _ _).alloc (Nat.le_refl _) _
end Go.Proofs.Ytcjmcfjjbicimaa
