/- The walks of the document's Append and Torn. -/
import Derived.Test.YtcjmcfjjbicimaaZoneRef
namespace Go.Proofs.Ytcjmcfjjbicimaa
open Go.RowKit

set_option maxRecDepth 100000 in
set_option maxHeartbeats 4000000 in
theorem refAppend_any (v sv : Value) (z : Zn) (most : Int) (l : List UInt8) (K K' : Nat → Prop) (w : World) (hz : IsZ w K v z) (hs : IsB w K' sv l) :
    Calls Try.prog 19 #[v, .int .i64 most, sv] w fun e w' => ∃ v', e = .returned (.tuple #[v', .int .i64 (appZ z most l).2.1, .int .i64 (appZ z most l).2.2]) ∧ OwnZ w' w.heap.size v' (appZ z most l).1 ∧ Below w.heap.size w w' := by
  obtain ⟨i0, hi, hz0', hz1', hz2'⟩ := info_parts Try.info8
  have hz0 := hz
  obtain ⟨A, c, rfl, hsb⟩ := hz
  have hl1 := hsb.len
  have hl2 := hs.len
  obtain ⟨A2, c2, rfl, hr2, _⟩ := hs
  clear hsb
  unfold zv
  have W0 : Below w.heap.size w ((w.alloc (.cells #[.int .i64 z.st, .int .i64 z.fe, .slice A z.d.length c] 26)).alloc (.cells #[.int .i64 0, .int .i64 0, .slice none 0 0] 26)) := ((Below.refl _ _).alloc (Nat.le_refl _) _).alloc (by simp) _
  have hck : ∀ n : Int, chkZ z most = n → Calls Try.prog 24 #[.agg #[.int .i64 z.st, .int .i64 z.fe, .slice A z.d.length c], .int .i64 most] ((w.alloc (.cells #[.int .i64 z.st, .int .i64 z.fe, .slice A z.d.length c] 26)).alloc (.cells #[.int .i64 0, .int .i64 0, .slice none 0 0] 26)) fun e w1 => e = .returned (.int .i64 n) ∧ Below w.heap.size w w1 ∧ IsZ w1 K (zv z A c) z ∧ Reads w1 K' 1 A2 l.length (cells8 l) ∧ w.heap.size + 2 ≤ w1.heap.size ∧
      Blk w1 w.heap.size 26 #[.int .i64 z.st, .int .i64 z.fe, .slice A z.d.length c] ∧ Blk w1 (w.heap.size + 1) 26 #[.int .i64 0, .int .i64 0, .slice none 0 0] := by
    intro n hn
    subst hn
    refine (refCheck_any _ z most K _ ((hz0.alloc _).alloc _)).mono ?_
    rintro e w1 ⟨he, hb1⟩
    exact ⟨he, W0.trans (hb1.mono W0.size), ((hz0.alloc _).alloc _).step hb1, ((hr2.alloc _).alloc _).step hb1, by have := hb1.size; simpa using this, ((Blk.new w _ _ rfl).alloc _).step hb1, (Blk.new (g := w.heap.size + 1) _ _ _ (by simp)).step hb1⟩
  have HCK := Lib.hid hck; clear hck
  have hfail : ∀ n : Int, n ≠ 0 → roomZ z most l = n → appZ z most l = (z0, 0, n) := fun n hn h => by unfold appZ; rw [if_neg (by rw [h]; exact hn), h]
  have HF := Lib.hid hfail; clear hfail
  by_cases hok : okZ z most
  · have HC := Lib.hid (HCK.out 0 (if_pos hok))
    have hm := hok.2.1
    have hm1 := hok.1
    have HOK := Lib.hid hok; clear hok
    by_cases hl : l.length = 0
    · rw [HF.out 1 (by omega) (if_pos (.inr hl))]
      have hlb : ((l.length : Int) == 0) = true := beq_iff_eq.2 (by omega)
      clear hl
      go_enter Try.func19, Try.ntmps19
      go_wp2_with (go_at_call 24; refine (HC.out).mono ?_; rintro e w1 ⟨rfl, hb1, hz1, hr1, hsz, Ba, Bb⟩; obtain ⟨qa, fa⟩ := Ba.rules; obtain ⟨qb, fb⟩ := Bb.rules)
      refine bodyPost_ret (v := .tuple #[.agg #[.int .i64 0, .int .i64 0, .slice none 0 0], .int .i64 0, .int .i64 1]) (by simp [results, Try.results19, go_sem, qb]) rfl ⟨_, rfl, OwnZ.zero _ _, ?_⟩
      exact below_set3 hb1 (by omega)
    · have hlb : ((l.length : Int) == 0) = false := beq_eq_false_iff_ne.2 (by omega)
      by_cases hst : z.st = 4
      · rw [HF.out 41 (by omega) (by unfold roomZ; rw [if_neg (by rintro (h | h); exact h HOK.out; exact hl h), if_pos hst])]
        have hsb : (z.st == 4) = true := beq_iff_eq.2 hst
        clear hl hst
        go_enter Try.func19, Try.ntmps19
        go_wp2_with (go_at_call 24; refine (HC.out).mono ?_; rintro e w1 ⟨rfl, hb1, hz1, hr1, hsz, Ba, Bb⟩; obtain ⟨qa, fa⟩ := Ba.rules; obtain ⟨qb, fb⟩ := Bb.rules)
        refine bodyPost_ret (v := .tuple #[.agg #[.int .i64 0, .int .i64 0, .slice none 0 0], .int .i64 0, .int .i64 41]) (by simp [results, Try.results19, go_sem, qb]) rfl ⟨_, rfl, OwnZ.zero _ _, ?_⟩
        exact below_set3 hb1 (by omega)
      · have hsb : (z.st == 4) = false := beq_eq_false_iff_ne.2 hst
        by_cases hfit : (z.d.length : Int) + l.length ≤ most
        · have hr0 : roomZ z most l = 0 := by unfold roomZ; rw [if_neg (by rintro (h | h); exact h HOK.out; exact hl h), if_neg hst, if_pos hfit]
          have hA : appZ z most l = (grownZ z most l, (z.d.length : Int), 0) := if_pos hr0
          rw [hA]
          have hgs : ∃ s : Int, (grownZ z most l).st = s ∧ ((((z.d.length : Int) + l.length == most) = true ∧ s = 4) ∨ (((z.d.length : Int) + l.length == most) = false ∧ ((z.st != 2) = true ∧ s = 1 ∨ (z.st != 2) = false ∧ s = z.st))) := by
            refine ⟨_, rfl, ?_⟩
            unfold grownZ
            by_cases h1 : (z.d.length : Int) + l.length = most
            · exact .inl ⟨beq_iff_eq.2 h1, if_pos h1⟩
            · refine .inr ⟨beq_eq_false_iff_ne.2 h1, ?_⟩
              rw [if_neg h1, if_neg hl]
              by_cases h2 : z.st = 2
              · exact .inr ⟨by simp [h2], by rw [if_pos h2, h2]⟩
              · exact .inl ⟨by simp [h2], if_neg h2⟩
          obtain ⟨s, hs1, hs2⟩ := hgs
          have hg : grownZ z most l = ⟨s, z.fe, z.d ++ l⟩ := by rw [← hs1]; rfl
          rw [hg]
          clear hA hr0 hl hst hs1 hg
          have hll : (z.d ++ l).length = z.d.length + l.length := by simp
          have hcc : cells8 (z.d ++ l) = cells8 z.d ++ cells8 l := cells8_append _ _
          have HL := Lib.hid hll; clear hll
          have HCC := Lib.hid hcc; clear hcc
          rcases hs2 with ⟨hq, rfl⟩ | ⟨hq, ⟨hq2, rfl⟩ | ⟨hq2, rfl⟩⟩
          · go_enter Try.func19, Try.ntmps19
            go_wp2_with (first
              | (go_at_call 24; refine (HC.out).mono ?_; rintro e w1 ⟨rfl, hb1, hz1, hr1, hsz, Ba, Bb⟩; obtain ⟨qa, fa⟩ := Ba.rules; obtain ⟨qb, fb⟩ := Bb.rules)
              | (go_at_call 18; refine (copy_any _ z K _ hz1).mono ?_; rintro e w2 ⟨v2, rfl, ⟨A4, c4, rfl, hown2⟩, hb3⟩; have Ba2 := Ba.step hb3; have Bb2 := Bb.step hb3; have lta := Ba2.lt; have ltb := Bb2.lt; have h02 := hb1.trans (hb3.mono hb1.size); have B9 := Blk.new w2 26 #[.int .i64 z.st, .int .i64 z.fe, .slice A4 z.d.length c4] rfl; have o9 := (own_base hown2 hb1.size).alloc (.cells #[.int .i64 z.st, .int .i64 z.fe, .slice A4 z.d.length c4] 26); obtain ⟨qa2, fa2⟩ := Ba2.rules; obtain ⟨qb2, fb2⟩ := Bb2.rules; unfold zv)
              | (at_builtin; refine wpList_appN rfl (.tmp 40) (.tmp 41) _ rfl w.heap.size 5 i0 _ 1 1 Try.underlying24 hi hz0' hz1' hz2' rfl (by omega) rfl o9 rfl ((hr1.step hb3).alloc _) (cells8_one _) (by simp only [maxLen]; omega) (by omega) ?_ ?_; (have := h02.size; simp; omega); intro A5 c5 w5 hown5 hg5; have Ba5 := (Ba2.alloc _).grew o9 (by decide) hg5; have Bb5 := (Bb2.alloc _).grew o9 (by decide) hg5; have B95 := B9.grew o9 (by decide) hg5; have lta5 := Ba5.lt; have ltb5 := Bb5.lt; have lt95 := B95.lt; obtain ⟨qa5, fa5⟩ := Ba5.rules; obtain ⟨qb5, fb5⟩ := Bb5.rules; obtain ⟨q95, f95⟩ := B95.rules))
            have h05 := (h02.alloc h02.size _).trans hg5.below
            refine bodyPost_ret (v := .tuple #[zv ⟨4, z.fe, z.d ++ l⟩ A5 c5, .int .i64 z.d.length, .int .i64 0]) (by simp [results, Try.results19, go_sem, zv, qb5]) rfl ⟨_, rfl, ⟨A5, c5, rfl, ?_⟩, ?_⟩
            · show World.ownsRow _ _ _ _ (.slice A5 (z.d ++ l).length c5) (z.d ++ l).length (cells8 (z.d ++ l))
              rw [HL.out, HCC.out]
              exact own_setBlk3 (own_setBlk (own_setBlk hown5 B95 (by decide) _ _) (B95.set_ _ _) (by decide) _ _) ((Bb5.far (by simp; omega) _).far (by simp; omega) _) (by decide)
            · exact below_set3 ((h05.setCell (by simp; omega) _).setCell (by simp; omega) _) (by omega)
          · go_enter Try.func19, Try.ntmps19
            go_wp2_with (first
              | (go_at_call 24; refine (HC.out).mono ?_; rintro e w1 ⟨rfl, hb1, hz1, hr1, hsz, Ba, Bb⟩; obtain ⟨qa, fa⟩ := Ba.rules; obtain ⟨qb, fb⟩ := Bb.rules)
              | (go_at_call 18; refine (copy_any _ z K _ hz1).mono ?_; rintro e w2 ⟨v2, rfl, ⟨A4, c4, rfl, hown2⟩, hb3⟩; have Ba2 := Ba.step hb3; have Bb2 := Bb.step hb3; have lta := Ba2.lt; have ltb := Bb2.lt; have h02 := hb1.trans (hb3.mono hb1.size); have B9 := Blk.new w2 26 #[.int .i64 z.st, .int .i64 z.fe, .slice A4 z.d.length c4] rfl; have o9 := (own_base hown2 hb1.size).alloc (.cells #[.int .i64 z.st, .int .i64 z.fe, .slice A4 z.d.length c4] 26); obtain ⟨qa2, fa2⟩ := Ba2.rules; obtain ⟨qb2, fb2⟩ := Bb2.rules; unfold zv)
              | (at_builtin; refine wpList_appN rfl (.tmp 40) (.tmp 41) _ rfl w.heap.size 5 i0 _ 1 1 Try.underlying24 hi hz0' hz1' hz2' rfl (by omega) rfl o9 rfl ((hr1.step hb3).alloc _) (cells8_one _) (by simp only [maxLen]; omega) (by omega) ?_ ?_; (have := h02.size; simp; omega); intro A5 c5 w5 hown5 hg5; have Ba5 := (Ba2.alloc _).grew o9 (by decide) hg5; have Bb5 := (Bb2.alloc _).grew o9 (by decide) hg5; have B95 := B9.grew o9 (by decide) hg5; have lta5 := Ba5.lt; have ltb5 := Bb5.lt; have lt95 := B95.lt; obtain ⟨qa5, fa5⟩ := Ba5.rules; obtain ⟨qb5, fb5⟩ := Bb5.rules; obtain ⟨q95, f95⟩ := B95.rules))
            have h05 := (h02.alloc h02.size _).trans hg5.below
            refine bodyPost_ret (v := .tuple #[zv ⟨1, z.fe, z.d ++ l⟩ A5 c5, .int .i64 z.d.length, .int .i64 0]) (by simp [results, Try.results19, go_sem, zv, qb5]) rfl ⟨_, rfl, ⟨A5, c5, rfl, ?_⟩, ?_⟩
            · show World.ownsRow _ _ _ _ (.slice A5 (z.d ++ l).length c5) (z.d ++ l).length (cells8 (z.d ++ l))
              rw [HL.out, HCC.out]
              exact own_setBlk3 (own_setBlk (own_setBlk hown5 B95 (by decide) _ _) (B95.set_ _ _) (by decide) _ _) ((Bb5.far (by simp; omega) _).far (by simp; omega) _) (by decide)
            · exact below_set3 ((h05.setCell (by simp; omega) _).setCell (by simp; omega) _) (by omega)
          · go_enter Try.func19, Try.ntmps19
            go_wp2_with (first
              | (go_at_call 24; refine (HC.out).mono ?_; rintro e w1 ⟨rfl, hb1, hz1, hr1, hsz, Ba, Bb⟩; obtain ⟨qa, fa⟩ := Ba.rules; obtain ⟨qb, fb⟩ := Bb.rules)
              | (go_at_call 18; refine (copy_any _ z K _ hz1).mono ?_; rintro e w2 ⟨v2, rfl, ⟨A4, c4, rfl, hown2⟩, hb3⟩; have Ba2 := Ba.step hb3; have Bb2 := Bb.step hb3; have lta := Ba2.lt; have ltb := Bb2.lt; have h02 := hb1.trans (hb3.mono hb1.size); have B9 := Blk.new w2 26 #[.int .i64 z.st, .int .i64 z.fe, .slice A4 z.d.length c4] rfl; have o9 := (own_base hown2 hb1.size).alloc (.cells #[.int .i64 z.st, .int .i64 z.fe, .slice A4 z.d.length c4] 26); obtain ⟨qa2, fa2⟩ := Ba2.rules; obtain ⟨qb2, fb2⟩ := Bb2.rules; unfold zv)
              | (at_builtin; refine wpList_appN rfl (.tmp 40) (.tmp 41) _ rfl w.heap.size 5 i0 _ 1 1 Try.underlying24 hi hz0' hz1' hz2' rfl (by omega) rfl o9 rfl ((hr1.step hb3).alloc _) (cells8_one _) (by simp only [maxLen]; omega) (by omega) ?_ ?_; (have := h02.size; simp; omega); intro A5 c5 w5 hown5 hg5; have Ba5 := (Ba2.alloc _).grew o9 (by decide) hg5; have Bb5 := (Bb2.alloc _).grew o9 (by decide) hg5; have B95 := B9.grew o9 (by decide) hg5; have lta5 := Ba5.lt; have ltb5 := Bb5.lt; have lt95 := B95.lt; obtain ⟨qa5, fa5⟩ := Ba5.rules; obtain ⟨qb5, fb5⟩ := Bb5.rules; obtain ⟨q95, f95⟩ := B95.rules))
            have h05 := (h02.alloc h02.size _).trans hg5.below
            refine bodyPost_ret (v := .tuple #[zv ⟨z.st, z.fe, z.d ++ l⟩ A5 c5, .int .i64 z.d.length, .int .i64 0]) (by simp [results, Try.results19, go_sem, zv, qb5]) rfl ⟨_, rfl, ⟨A5, c5, rfl, ?_⟩, ?_⟩
            · show World.ownsRow _ _ _ _ (.slice A5 (z.d ++ l).length c5) (z.d ++ l).length (cells8 (z.d ++ l))
              rw [HL.out, HCC.out]
              exact own_setBlk3 (own_setBlk hown5 B95 (by decide) _ _) (Bb5.far (by simp; omega) _) (by decide)
            · exact below_set3 ((h05.setCell (by simp; omega) _)) (by omega)
        · rw [HF.out 40 (by omega) (by unfold roomZ; rw [if_neg (by rintro (h | h); exact h HOK.out; exact hl h), if_neg hst, if_neg hfit])]
          clear hl hst
          go_enter Try.func19, Try.ntmps19
          go_wp2_with (go_at_call 24; refine (HC.out).mono ?_; rintro e w1 ⟨rfl, hb1, hz1, hr1, hsz, Ba, Bb⟩; obtain ⟨qa, fa⟩ := Ba.rules; obtain ⟨qb, fb⟩ := Bb.rules)
          refine bodyPost_ret (v := .tuple #[.agg #[.int .i64 0, .int .i64 0, .slice none 0 0], .int .i64 0, .int .i64 40]) (by simp [results, Try.results19, go_sem, qb]) rfl ⟨_, rfl, OwnZ.zero _ _, ?_⟩
          exact below_set3 hb1 (by omega)
  · have HC := Lib.hid (HCK.out 1 (if_neg hok))
    rw [HF.out 1 (by omega) (if_pos (.inl hok))]
    go_enter Try.func19, Try.ntmps19
    go_wp2_with (go_at_call 24; refine (HC.out).mono ?_; rintro e w1 ⟨rfl, hb1, hz1, hr1, hsz, Ba, Bb⟩; obtain ⟨qa, fa⟩ := Ba.rules; obtain ⟨qb, fb⟩ := Bb.rules)
    refine bodyPost_ret (v := .tuple #[.agg #[.int .i64 0, .int .i64 0, .slice none 0 0], .int .i64 0, .int .i64 1]) (by simp [results, Try.results19, go_sem, qb]) rfl ⟨_, rfl, OwnZ.zero _ _, ?_⟩
    exact below_set3 hb1 (by omega)

theorem grown_nil {z : Zn} {most : Int} {l : List UInt8} (h : roomZ z most l = 0) : grownZ z most [] = z := by
  obtain ⟨hok, hl, hst, hfit⟩ := roomZ_zero h
  unfold grownZ
  rw [if_neg (by simp only [List.length_nil]; omega), if_pos (by simp), List.append_nil]
theorem room_take {z : Zn} {most : Int} {l : List UInt8} (h : roomZ z most l = 0) {k : Nat} (hk : 0 < k) (hkl : k ≤ l.length) : roomZ z most (l.take k) = 0 := by
  obtain ⟨hok, hl, hst, hfit⟩ := roomZ_zero h
  have e : (l.take k).length = k := by rw [List.length_take]; omega
  unfold roomZ
  rw [if_neg (by rw [e]; rintro (h | h); exact h hok; omega), if_neg hst, if_pos (by rw [e]; omega)]

end Go.Proofs.Ytcjmcfjjbicimaa
