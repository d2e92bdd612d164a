/- The walks of seg.Head, Check, Rec. -/
import Derived.Test.YtpacjjaekmipfaaSegPlain
import Derived.Test.YtpacjjaekmipfaaKn
namespace Go.Proofs.Ytpacjjaekmipfaa
open Go.RowKit

theorem isL_ints {w : World} {l : List Int} {cs : Array Value} {n : Nat} (hI : I63 l) (t : TypeId) (hcs : cs.toList = l.map I64) (hn : l.length = n) (h47 : n ≤ 1000) :
    IsL Rp.int (w.alloc (.cells cs t)) (fun b => b = w.heap.size) (.slice (some ⟨w.heap.size, 0, none⟩) n n) l := by
  subst hn
  exact ⟨_, _, l.map I64, rfl, Reads.new (n := l.length) (size := 1) rfl hcs (by have := congrArg List.length hcs; simpa using this), cells_ints hI, Nat.le_refl _, by omega, by omega⟩
def hdV (h : Hd) : Value := .agg #[.int .i64 h.host, .int .i64 h.epoch, .int .i64 h.seq]
def OkHd (h : Hd) : Prop := (-9223372036854775808 ≤ h.host ∧ h.host ≤ 9223372036854775807) ∧ (-9223372036854775808 ≤ h.epoch ∧ h.epoch ≤ 9223372036854775807) ∧ (-9223372036854775808 ≤ h.seq ∧ h.seq ≤ 9223372036854775807)
theorem OkHd.i63 {h : Hd} (hh : OkHd h) : I63 (headN h) := by
  obtain ⟨h1, h2, h3⟩ := hh
  intro n hn
  simp only [headN, List.mem_cons, List.not_mem_nil, or_false] at hn
  rcases hn with rfl | rfl | rfl | rfl <;> omega

set_option maxRecDepth 100000 in
set_option maxHeartbeats 1600000 in
theorem head_any (h : Hd) (w : World) (hh : OkHd h) :
    Calls Try.prog 25 #[hdV h] w fun e w' => ∃ A c, e = .returned (.tuple #[.slice A (headL h).1.length c, .int .i64 (headL h).2]) ∧
      w'.ownsRow w.heap.size 5 1 (.slice A (headL h).1.length c) (headL h).1.length (cells8 (headL h).1) ∧ Below w.heap.size w w' := by
  have hI := hh.i63
  have hcs : (#[.int .i64 0, .int .i64 h.host, .int .i64 h.epoch, .int .i64 h.seq] : Array Value).toList = (headN h).map I64 := rfl
  have hcalls := fun W => wnums_any _ (headN h) _ _ (isL_ints (w := W) (n := 4) hI 3 hcs rfl (by omega)) (by show 4 ≤ _; omega)
  have hlen4 : (headN h).length = 4 := rfl
  unfold headL hdV
  obtain ⟨nb, hnb⟩ : ∃ nb, numsL (headN h) = nb := ⟨_, rfl⟩
  have hnl := flatN_len hI
  have hnl2 : nb.1.length ≤ 40 := by
    rw [← hnb]; unfold numsL; split
    · rw [hlen4] at hnl; exact hnl
    · simp
  simp only [hnb] at hcalls ⊢
  obtain ⟨nb, ne⟩ := nb
  simp only at hcalls hnl2 ⊢
  replace hcalls := hcalls (w.alloc (.cells #[.int .i64 h.host, .int .i64 h.epoch, .int .i64 h.seq] 23))
  simp only [World.size_alloc] at hcalls
  have HC := Lib.hid hcalls; clear hcalls hcs hnl hlen4
  by_cases he : ne = 0
  · subst he
    simp only [ne_eq, not_true_eq_false, if_false]
    obtain ⟨fr, hfr⟩ : ∃ fr, frameL nb = fr := ⟨_, rfl⟩
    rw [hfr]
    have HF := Lib.hid hfr; clear hfr
    go_enter Try.func25, Try.ntmps25
    go_wp2_with fail
    refine HC.out.mono ?_
    rintro e w1 ⟨A1, c1, rfl, own1, hb1⟩
    have hb2 : Below w.heap.size w w1 := (((Below.refl _ _).alloc (Nat.le_refl _) _).alloc (by simp) _).trans (hb1.mono (by omega))
    go_wp2_with fail
    refine (begin_any _).mono ?_
    rintro e w2 ⟨g, rfl, hg, hT2, hb3⟩
    have own2 := own_below own1 hb3 (Nat.le_refl _)
    have hs2 := hb2.size
    have hs3 := hb3.size
    have hlt := own1.lt
    have hxB : IsB w2 (fun k => k < w1.heap.size) (.slice A1 nb.length c1) nb := ⟨A1, c1, rfl, (Reads.of_own own2).more (fun b hb => (own1.lt b hb.symm).2), own_cap own2, own_cap63 own2, by omega⟩
    go_wp2_with fail
    refine (put_frame g _ nb _ _ hT2 hxB (fun k hk => by omega)).mono ?_
    rintro e w3 ⟨A5, c5, rfl, own5, hT5, hb5⟩
    rw [HF.out] at own5 ⊢
    have hb6 : Below w.heap.size w w3 := (hb2.trans (hb3.mono hs2)).trans (hb5.below (fun k hk => by omega) (by omega))
    go_wp2
    go_ret2
    exact ⟨A5, c5, rfl, own_base own5 (by omega), hb6⟩
  · simp only [ne_eq, he, not_false_eq_true, if_true]
    have he' : ((ne : Int) != 0) = true := by simp [he]
    go_enter Try.func25, Try.ntmps25
    go_wp2_with fail
    refine HC.out.mono ?_
    rintro e w1 ⟨A1, c1, rfl, own1, hb1⟩
    have hb2 : Below w.heap.size w w1 := (((Below.refl _ _).alloc (Nat.le_refl _) _).alloc (by simp) _).trans (hb1.mono (by omega))
    go_wp2
    go_ret2
    exact ⟨none, 0, rfl, World.ownsRow_nil _ _ _ _, hb2⟩
end Go.Proofs.Ytpacjjaekmipfaa
