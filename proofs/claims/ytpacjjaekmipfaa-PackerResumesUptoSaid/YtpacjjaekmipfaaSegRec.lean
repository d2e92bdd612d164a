/- The walk of seg.Rec. -/
import Derived.Test.YtpacjjaekmipfaaSegCheck
namespace Go.Proofs.Ytpacjjaekmipfaa
open Go.RowKit

theorem isB_form {w : World} {K : Nat → Prop} {v : Value} {l : List UInt8} (h : IsB w K v l) : ∃ A c, v = .slice A l.length c ∧ l.length ≤ 140737488355328 := by
  obtain ⟨A, c, rfl, _, _, _, h5⟩ := h; exact ⟨A, c, rfl, h5⟩
set_option maxRecDepth 100000 in
set_option maxHeartbeats 2000000 in
theorem rec_any (r : Rc) (v : Value) (K : Nat → Prop) (w : World) (hr : OkRc r) (hv : IsB w K v r.data) :
    Calls Try.prog 13 #[rcV r v] w fun e w' => ∃ A c, e = .returned (.tuple #[.slice A (recL r).1.length c, .int .i64 (recL r).2]) ∧
      w'.ownsRow w.heap.size 5 1 (.slice A (recL r).1.length c) (recL r).1.length (cells8 (recL r).1) ∧ Below w.heap.size w w' := by
  have hv0 := hv.lt
  obtain ⟨A, c, rfl, hl47⟩ := isB_form hv
  have hchk := fun W => check_any r A c W hr hl47
  by_cases hc : checkL r = 0
  · rw [recL_ok hr hc]
    have hok := checkL_ok hc
    have hn : numsL (recN r) = (flatN (recN r), 0) := if_pos hok.2
    have hvv : vecL r.data = (putL r.data.length ++ r.data, 0) := if_pos (by omega)
    have hbl := bodyR_le hr hc
    have hfr := frameL_ok (x := bodyR r) (by omega)
    have hN : ∀ W : World, Calls Try.prog 30 #[.slice (some ⟨W.heap.size, 0, none⟩) 6 6] (W.alloc (.cells #[.int .i64 r.kind, .int .i64 r.lba, .int .i64 r.n, .int .i64 r.ver, .int .i64 r.zone, .int .i64 r.off] 3)) fun e w' => ∃ A' c', e = .returned (.tuple #[.slice A' (flatN (recN r)).length c', .int .i64 0]) ∧
        w'.ownsRow (W.heap.size + 1) 5 1 (.slice A' (flatN (recN r)).length c') (flatN (recN r)).length (cells8 (flatN (recN r))) ∧ Below (W.heap.size + 1) (W.alloc (.cells #[.int .i64 r.kind, .int .i64 r.lba, .int .i64 r.n, .int .i64 r.ver, .int .i64 r.zone, .int .i64 r.off] 3)) w' := fun W => by
      have := wnums_any _ (recN r) _ _ (isL_ints (w := W) (n := 6) (cs := #[.int .i64 r.kind, .int .i64 r.lba, .int .i64 r.n, .int .i64 r.ver, .int .i64 r.zone, .int .i64 r.off]) hr 3 rfl rfl (by omega)) (by show 6 ≤ _; omega)
      rw [hn] at this
      simpa only [World.size_alloc] using this
    have hV : ∀ W, IsB W (fun b => K b ∧ b < w.heap.size) (.slice A r.data.length c) r.data → Calls Try.prog 31 #[.slice A r.data.length c] W fun e w' => ∃ A' c', e = .returned (.tuple #[.slice A' (putL r.data.length ++ r.data).length c', .int .i64 0]) ∧
        w'.ownsRow W.heap.size 5 1 (.slice A' (putL r.data.length ++ r.data).length c') (putL r.data.length ++ r.data).length (cells8 (putL r.data.length ++ r.data)) ∧ Below W.heap.size W w' := fun W h => by
      have := wvec_any _ r.data _ W h
      rw [hvv] at this; exact this
    rw [show bodyR r = flatN (recN r) ++ (putL r.data.length ++ r.data) from rfl] at hbl hfr ⊢
    generalize flatN (recN r) = nb at hN hbl hfr ⊢
    generalize putL r.data.length ++ r.data = vb at hV hbl hfr ⊢
    generalize frB (nb ++ vb) = fr at hfr ⊢
    rw [List.length_append] at hbl
    have hap : cells8 (nb ++ vb) = cells8 nb ++ cells8 vb := by simp [cells8]
    have HAP := Lib.hid hap; have HF := Lib.hid hfr; have HCK := Lib.hid hc
    clear hap hfr hn hvv hok
    obtain ⟨i0, hi, hz0, hz1, hz2⟩ := info_parts Try.info5
    unfold rcV at *
    have hnv := cells8_one vb
    go_enter Try.func13, Try.ntmps13
    go_wp2_with fail
    refine (hchk _).mono ?_
    rintro e w1 ⟨rfl, hb1⟩
    rw [HCK.out]
    have hb2 : Below w.heap.size w w1 := ((Below.refl _ _).alloc (Nat.le_refl _) _).trans (hb1.mono (by simp))
    have hs2 := hb2.size
    have hB := (Blk.new w 34 #[.int .i64 r.kind, .int .i64 r.lba, .int .i64 r.n, .int .i64 r.ver, .int .i64 r.zone, .int .i64 r.off, .slice A r.data.length c] rfl).step hb1
    obtain ⟨r1, r2⟩ := hB.rules
    clear hchk hc
    go_wp2_with fail
    refine (hN w1).mono ?_
    rintro e w3 ⟨A3, c3, rfl, own3, hb3⟩
    have hb4 : Below w1.heap.size w1 w3 := ((Below.refl _ _).alloc (Nat.le_refl _) _).trans (hb3.mono (by omega))
    have hs4 := hb3.size
    simp only [World.size_alloc] at hs4
    obtain ⟨q1, q2⟩ := (hB.step hb4).rules
    have hv4 := (hv0.step hb2).step hb4
    clear r1 r2
    go_wp2_with fail
    refine (hV _ hv4).mono ?_
    rintro e w5 ⟨A5, c5, rfl, own5, hb5⟩
    have own4 := own_below own3 hb5 (Nat.le_refl _)
    have hs5 := hb5.size
    clear q1 q2
    go_wp2_with fail
    refine (begin_any _).mono ?_
    rintro e w6 ⟨g, rfl, hg, hT6, hb6⟩
    have own6 := own_below own4 hb6 (Nat.le_refl _)
    have own7 := own_below own5 hb6 (Nat.le_refl _)
    have hs6 := hb6.size
    have hr7 := Reads.of_own own7
    go_wp2_with (at_builtin; refine wpList_appN rfl _ _ _ rfl (w1.heap.size + 1) 5 i0 _ 1 1 Try.underlying27 hi hz0 hz1 hz2 rfl (by omega) rfl own6 rfl hr7 hnv (by simp only [maxLen]; omega) (by omega) (by omega) ?_; intro A7 c7 w7 own8 hg7)
    have hne3 : ∀ b, some b = (Value.slice A3 nb.length c3).ownBlock → b ≠ g := fun b hb => by have := (own3.lt b hb.symm).2; omega
    have hT7 : TabOk w7 g := hT6.turned (S := fun k => some k = (Value.slice A3 nb.length c3).ownBlock) ⟨hg7.grown.os, hg7.grown.tape, hg7.grown.output, hg7.grown.size, fun k hk hn => hg7.grown.block k hk hn⟩ (fun h => hne3 g h rfl)
    have hne7 : ∀ b, some b = (Value.slice A7 (nb.length + vb.length) c7).ownBlock → b ≠ g := fun b hb => by
      rcases hg7.at_ with h5 | ⟨g', h5, h6⟩
      · exact hne3 b (hb.trans h5)
      · rw [h5] at hb
        injection hb with hb
        have := hT6.lt
        omega
    have hxB : IsB w7 (fun k => k ≠ g) (.slice A7 (nb.length + vb.length) c7) (nb ++ vb) := ⟨A7, c7, by rw [List.length_append], by rw [HAP.out, List.length_append]; exact (Reads.of_own own8).more (fun b hb => hne7 b hb), by rw [List.length_append]; exact own_cap own8, own_cap63 own8, by rw [List.length_append]; omega⟩
    have hb7 : Below w.heap.size w w7 := ((hb2.trans (hb4.mono hs2)).trans (hb5.mono (by omega))).trans (((hb6.mono (by omega)).trans (hg7.below.mono (by omega))))
    refine (put_frame g _ (nb ++ vb) _ _ hT7 hxB (fun k hk => hk)).mono ?_
    rintro e w8 ⟨A9, c9, rfl, own9, hT9, hb9⟩
    rw [HF.out] at own9 ⊢
    have hs7 := hg7.below.size
    have hb10 : Below w.heap.size w w8 := hb7.trans (hb9.below (fun k hk => by omega) (by omega))
    go_wp2
    go_ret2
    exact ⟨A9, c9, rfl, own_base own9 (by omega), hb10⟩
  · rw [recL_no hc]
    have hc' : (checkL r != 0) = true := by simpa using hc
    generalize checkL r = ck at hc' hchk
    clear hc
    unfold rcV at *
    go_enter Try.func13, Try.ntmps13
    go_wp2_with fail
    refine (hchk _).mono ?_
    rintro e w1 ⟨rfl, hb1⟩
    have hb2 : Below w.heap.size w w1 := ((Below.refl _ _).alloc (Nat.le_refl _) _).trans (hb1.mono (by simp))
    go_wp2
    go_ret2
    exact ⟨none, 0, rfl, World.ownsRow_nil _ _ _ _, hb2⟩
end Go.Proofs.Ytpacjjaekmipfaa
