/- The walk of ref02's Msg. -/
import Derived.Test.YtbjgemipmlimoaaRefNums
import Derived.Test.YtbjgemipmlimoaaWireMsg
namespace Go.Proofs.Ytbjgemipmlimoaa
open Go.RowKit

theorem msgL_ref (m : Ms) : msgL m = if (numsL [m.kind, m.frm, m.to, m.id]).2 ≠ 0 then ([], (numsL [m.kind, m.frm, m.to, m.id]).2) else if (numsL m.args).2 ≠ 0 then ([], (numsL m.args).2) else if 64 < m.args.length then ([], 2)
    else if (vecL m.data).2 ≠ 0 then ([], (vecL m.data).2) else ((((numsL [m.kind, m.frm, m.to, m.id]).1 ++ putL m.args.length) ++ (numsL m.args).1) ++ (vecL m.data).1, 0) := by
  have hall : (∀ n ∈ headM m ++ m.args, 0 ≤ n) ↔ (∀ n ∈ [m.kind, m.frm, m.to, m.id], 0 ≤ n) ∧ ∀ n ∈ m.args, 0 ≤ n := by
    unfold headM
    constructor
    · intro h
      refine ⟨fun n hn => h n ?_, fun n hn => h n (List.mem_append_right _ hn)⟩
      simp at hn ⊢
      rcases hn with h | h | h | h <;> simp [h]
    · rintro ⟨h1, h2⟩ n hn
      rcases List.mem_append.1 hn with hn | hn
      · simp only [List.mem_cons, List.not_mem_nil, or_false] at hn
        rcases hn with rfl | rfl | rfl | rfl | rfl
        · exact h1 _ (by simp)
        · exact h1 _ (by simp)
        · exact h1 _ (by simp)
        · exact h1 _ (by simp)
        · omega
      · exact h2 n hn
  have hfl : flatN (headM m ++ m.args) = (flatN [m.kind, m.frm, m.to, m.id] ++ putL m.args.length) ++ flatN m.args := by
    rw [flatN_append]; simp [headM, flatN]
  unfold msgL
  generalize vecL m.data = vd
  unfold numsL
  by_cases h1 : ∀ n ∈ [m.kind, m.frm, m.to, m.id], 0 ≤ n
  · by_cases h2 : ∀ n ∈ m.args, 0 ≤ n
    · rw [if_pos (hall.2 ⟨h1, h2⟩), if_pos h1, if_pos h2, hfl]
      simp
    · rw [if_neg (fun h => h2 (hall.1 h).2), if_pos h1, if_neg h2]
      simp
  · rw [if_neg (fun h => h1 (hall.1 h).1), if_neg h1]
    simp

set_option maxRecDepth 100000 in
set_option maxHeartbeats 2000000 in
theorem rmsg_any (v : Value) (m : Ms) (K : Nat → Prop) (w : World) (hv : IsM w K v m) (hl : m.args.length ≤ 1000000000000) :
    Calls Try.prog 25 #[v] w fun e w' => ∃ A' c', e = .returned (.tuple #[.slice A' (msgL m).1.length c', .int .i64 (msgL m).2]) ∧
      w'.ownsRow w.heap.size 5 1 (.slice A' (msgL m).1.length c') (msgL m).1.length (cells8 (msgL m).1) ∧ Below w.heap.size w w' := by
  obtain ⟨i0, hi, hz0, hz1, hz2⟩ := info_parts Try.info5
  obtain ⟨A1, c1, A2, c2, rfl, h1, h2, h3⟩ := hv
  have h1' := h1
  obtain ⟨_, ⟨cs, hr1, hcl⟩, hlc, hcc, _⟩ := h1'.open_
  obtain ⟨rfl, ha63⟩ := ints_cells hcl
  have hd := h2.len
  unfold mv
  have hm := msgL_ref m
  obtain ⟨q, hq⟩ : ∃ q, numsL [m.kind, m.frm, m.to, m.id] = q := ⟨_, rfl⟩
  obtain ⟨r, hr⟩ : ∃ r, numsL m.args = r := ⟨_, rfl⟩
  obtain ⟨s, hs⟩ : ∃ s, vecL m.data = s := ⟨_, rfl⟩
  rw [hq, hr, hs] at hm
  obtain ⟨res, hres⟩ : ∃ res, res = msgL m := ⟨_, rfl⟩
  rw [← hres]
  rw [← hres] at hm
  clear hres
  have hh63 : I63 [m.kind, m.frm, m.to, m.id] := h3
  have hql : q.1.length ≤ 40 := by
    rw [← hq]; unfold numsL
    split
    · have := flatN_len hh63; simpa using this
    · simp
  have hrl : r.1.length ≤ 20000000000000 := by
    rw [← hr]; unfold numsL
    split
    · have := flatN_len ha63; simp only; omega
    · simp
  have hsl : s.1.length ≤ 65546 := by
    rw [← hs]; unfold vecL
    split
    · have := putL_len10 (n := m.data.length) (by omega); rw [List.length_append]; omega
    · simp
  have hp10 : (putL m.args.length).length ≤ 10 := putL_len10 (by omega)
  have hput := fun W => rput_any m.args.length W (by omega) hp10
  generalize putL m.args.length = pk at hp10 hput hm
  have HPUT := Lib.hid hput; clear hput
  obtain ⟨qb, qe⟩ := q
  obtain ⟨rb, re⟩ := r
  obtain ⟨sb, se⟩ := s
  simp only at hql hrl hsl hm
  have HM := Lib.hid hm; clear hm
  have HQ := Lib.hid hq; clear hq
  have HR := Lib.hid hr; clear hr
  have HS := Lib.hid hs; clear hs
  have H63 := Lib.hid hh63; clear hh63 h3
  have hnew : IsL Rp.int ((w.alloc (.cells #[.int .i64 m.kind, .int .i64 m.frm, .int .i64 m.to, .int .i64 m.id, .slice A1 m.args.length c1, .slice A2 m.data.length c2] 45)).alloc (.cells #[.int .i64 m.kind, .int .i64 m.frm, .int .i64 m.to, .int .i64 m.id] 3)) (fun _ => True) (.slice (some ⟨w.heap.size + 1, 0, none⟩) 4 4) [m.kind, m.frm, m.to, m.id] :=
    ⟨_, 4, [m.kind, m.frm, m.to, m.id].map I64, rfl, (Reads.new (by simp) rfl rfl).more (fun _ _ => trivial), cells_ints H63.out, by simp, by omega, by simp⟩
  have E := ((((Kn.start w).give Stable.list h1).give Stable.bytes h2).push 45 #[.int .i64 m.kind, .int .i64 m.frm, .int .i64 m.to, .int .i64 m.id, .slice A1 m.args.length c1, .slice A2 m.data.length c2]).alloc (.cells #[.int .i64 m.kind, .int .i64 m.frm, .int .i64 m.to, .int .i64 m.id] 3)
  have hr4 := rnums_any _ [m.kind, m.frm, m.to, m.id] _ _ hnew (by simp)
  rw [HQ.out] at hr4
  have HR4 := Lib.hid hr4; clear hr4 hnew
  clear h1 h2 h1' hr1 hcl
  go_enter Try.func25, Try.ntmps25
  go_wp2_with fail
  refine HR4.out.mono ?_
  rintro e w1 ⟨A3, c3, rfl, own3, hb1⟩
  replace E := E.step hb1
  have s1 := hb1.size
  have s01 : w.heap.size + 2 ≤ w1.heap.size := by simp at s1; omega
  replace own3 := own_base (base' := w.heap.size) own3 (by simp; omega)
  have L3 := Lib.hid own3.lt
  clear hb1 s1
  obtain ⟨q1, f1, t1⟩ := E.rules m0
  by_cases hqe : qe = 0
  · subst hqe
    go_wp2_with fail
    refine (rnums_any _ m.args _ w1 (E.get m1) (by omega)).mono ?_
    rw [HR.out]
    rintro e w2 ⟨A4, c4, rfl, own4, hb2⟩
    simp only at own4
    replace E := E.step hb2
    replace own3 := own_below own3 hb2 (Nat.le_refl _)
    have s12 := hb2.size
    have R4 := (Reads.of_own_ge own4).lt (by decide)
    clear hb2
    clear q1 f1 t1
    obtain ⟨q1, f1, t1⟩ := E.rules m0
    by_cases hre : re = 0
    · subst hre
      by_cases h64 : 64 < m.args.length
      · have hx : res = ([], 2) := by rw [HM.out, if_neg (by simp), if_neg (by simp), if_pos h64]
        have HX := Lib.hid hx; clear hx
        have h64' : (64 : Int) < (m.args.length : Int) := by omega
        go_wp2
        go_ret2
        rw [HX.out]
        exact ⟨none, 0, rfl, World.ownsRow_nil _ _ _ _, E.below⟩
      · have hx : res = if se ≠ 0 then ([], se) else (((qb ++ pk) ++ rb) ++ sb, 0) := by rw [HM.out, if_neg (by simp), if_neg (by simp), if_neg h64]
        have HX := Lib.hid hx; clear hx
        have h64' : ¬ (64 : Int) < (m.args.length : Int) := by omega
        go_wp2_with fail
        refine (rvec_any _ m.data _ w2 (E.get m0)).mono ?_
        rw [HS.out]
        rintro e w3 ⟨A5, c5, rfl, own5, hb3⟩
        simp only at own5
        replace E := E.step hb3
        replace own3 := own_below own3 hb3 (Nat.le_refl _)
        replace R4 := R4.step hb3
        have s23 := hb3.size
        have R5 := (Reads.of_own_ge own5).lt (by decide)
        clear hb3
        clear q1 f1 t1
        obtain ⟨q1, f1, t1⟩ := E.rules m0
        by_cases hse : se = 0
        · subst hse
          go_wp2_with fail
          refine (HPUT.out _).mono ?_
          rintro e w4 ⟨A6, c6, rfl, own6, hb4⟩
          replace E := E.step hb4
          replace own3 := own_below own3 hb4 (Nat.le_refl _)
          replace R4 := R4.step hb4
          replace R5 := R5.step hb4
          have R6 := Reads.of_own_ge own6
          have s34 := hb4.size
          clear hb4 own4 own5 own6
          go_wp2_with (first
            | (at_builtin; refine wpList_appN rfl (.tmp 46) (.tmp 51) _ rfl w.heap.size 5 i0 _ 1 1 Try.underlying24 hi hz0 hz1 hz2 rfl (by omega) rfl own3 rfl R6 (cells8_one _) (by simp only [maxLen]; omega) (by omega) (by omega) ?_; intro A7 c7 w5 own7 hg7; have hb5 := hg7.below; have s5 := hg7.grown.size
               have R4' := R4.grown hg7.grown (fun b hb _ e => by have := (L3.out b e.symm).2; omega); have R5' := R5.grown hg7.grown (fun b hb _ e => by have := (L3.out b e.symm).2; omega); have HG7 := Lib.hid hg7.at_; clear hg7)
            | (at_builtin; refine wpList_appN rfl (.tmp 52) (.tmp 53) _ rfl w.heap.size 5 i0 _ 1 1 Try.underlying24 hi hz0 hz1 hz2 rfl (by omega) rfl own7 rfl R4' (cells8_one _) (by simp only [maxLen]; omega) (by omega) (by omega) ?_; intro A8 c8 w6 own8 hg8; have hb6 := hg8.below; have s6 := hg8.grown.size
               have R5'' := R5'.grown hg8.grown (fun b hb _ e => by
                 rcases HG7.out with h | ⟨g, h, hgg⟩
                 · have := (L3.out b (Eq.trans e h).symm).2; omega
                 · have e := Eq.trans e h; injection e with e; omega); clear hg8)
            | (at_builtin; refine wpList_appN rfl (.tmp 55) (.tmp 56) _ rfl w.heap.size 5 i0 _ 1 1 Try.underlying24 hi hz0 hz1 hz2 rfl (by omega) rfl own8 rfl R5'' (cells8_one _) (by simp only [maxLen]; omega) (by omega) (by omega) ?_; intro A9 c9 w7 own9 hg9))
          go_ret2
          rw [HX.out, if_neg (by simp)]
          refine ⟨A9, c9, by simp only [List.length_append]; rfl, ?_, ((E.below.trans hb5).trans hb6).trans hg9.below⟩
          simp only [List.length_append, cells8_append]
          exact own9
        · have hx : res = ([], se) := by rw [HX.out, if_pos (by simpa using hse)]
          have HX2 := Lib.hid hx; clear hx
          have hseb : (se != 0) = true := by simpa using hse
          clear hse
          go_wp2
          go_ret2
          rw [HX2.out]
          exact ⟨none, 0, rfl, World.ownsRow_nil _ _ _ _, E.below⟩
    · have hx : res = ([], re) := by rw [HM.out, if_neg (by simp), if_pos (by simpa using hre)]
      have HX := Lib.hid hx; clear hx
      have hreb : (re != 0) = true := by simpa using hre
      clear hre
      go_wp2
      go_ret2
      rw [HX.out]
      exact ⟨none, 0, rfl, World.ownsRow_nil _ _ _ _, E.below⟩
  · have hx : res = ([], qe) := by rw [HM.out, if_pos (by simpa using hqe)]
    have HX := Lib.hid hx; clear hx
    have hqeb : (qe != 0) = true := by simpa using hqe
    clear hqe
    go_wp2
    go_ret2
    rw [HX.out]
    exact ⟨none, 0, rfl, World.ownsRow_nil _ _ _ _, E.below⟩
end Go.Proofs.Ytbjgemipmlimoaa
