/- The walk of ref02's Put. -/
/- The walks of ref02's Nums, Vec. -/
/- The walk of ref02's Msg. -/
import Derived.Test.YtbjgemipmlimoaaWirePlain
import Derived.Laws.OwnMore
import Derived.Test.YtbjgemipmlimoaaWireNums
import Derived.Test.YtbjgemipmlimoaaWireMsg
namespace Go.Proofs.Ytbjgemipmlimoaa
open Go.RowKit

set_option maxRecDepth 100000 in
set_option maxHeartbeats 4000000 in
theorem rput_any (n : Nat) : ∀ (w : World), n ≤ 18446744073709551615 → (putL n).length ≤ 10 →
    Calls Try.prog 59 #[.int .u64 n] w fun e w' => ∃ A c, e = .returned (.slice A (putL n).length c) ∧ w'.ownsRow w.heap.size 5 1 (.slice A (putL n).length c) (putL n).length (cells8 (putL n)) ∧ Below w.heap.size w w' := by
  induction n using Nat.strongRecOn with
  | ind n ih =>
    intro w h64 hn
    obtain ⟨i0, hi, hz0, hz1, hz2⟩ := info_parts Try.info5
    by_cases hk : n < 128
    · have hp := putL_lt hk
      rw [hp]
      have HP := Lib.hid hp; clear hp ih hn
      go_enter Try.func59, Try.ntmps59
      go_wp2
      go_ret
      have e1 : cells8 [UInt8.ofNat n] = (#[.int .u8 n] : Array Value).toList := by
        have h : (UInt8.ofNat n).toNat = n := by rw [UInt8.toNat_ofNat']; omega
        simp only [cells8, B8, List.map_cons, List.map_nil, h]
      rw [e1]
      exact ⟨_, _, rfl, World.ownsRow_lit w #[.int .u8 n] 1 (Nat.le_refl _) (by decide) rfl, (Below.refl _ _).alloc (Nat.le_refl _) _⟩
    · have hp := putL_ge hk
      rw [hp] at hn ⊢
      have hl : (putL (n / 128)).length ≤ 9 := by simpa using hn
      have hih := ih (n / 128) (by omega)
      have HP := Lib.hid hp; clear hp ih hn
      have HI := Lib.hid hih; clear hih
      generalize putL (n / 128) = l at HI hl HP ⊢
      have i1 : IntKind.u64.wrap ((n : Int) / 128) = ((n / 128 : Nat) : Int) := by
        rw [show (n : Int) / 128 = ((n / 128 : Nat) : Int) by omega]; exact IntWalk.u64_in _ (by omega)
      go_enter Try.func59, Try.ntmps59
      go_wp2_with fail
      refine (HI.out _ (by omega) (by omega)).mono ?_
      rintro e w1 ⟨A, c, rfl, own, hb⟩
      have e1 : cells8 (UInt8.ofNat (n % 128 + 128) :: l) = (#[.int .u8 ((n : Int) % 128 + 128)] : Array Value).toList ++ cells8 l := by
        have h : (UInt8.ofNat (n % 128 + 128)).toNat = n % 128 + 128 := by rw [UInt8.toNat_ofNat']; omega
        simp only [cells8, B8, List.map_cons, List.cons_append, List.nil_append, h]
        rw [show ((n % 128 + 128 : Nat) : Int) = (n : Int) % 128 + 128 by omega]
      have own0 := own_below (World.ownsRow_lit (e := 5) (size := 1) w #[.int .u8 ((n : Int) % 128 + 128)] 1 (Nat.le_refl _) (by decide) rfl) hb (Nat.le_refl _)
      have hr := Reads.of_own own
      have h1 : ∀ u ∈ cells8 l, u.oneCell' = true := by
        intro u hu; simp [cells8] at hu; obtain ⟨b, _, rfl⟩ := hu; rfl
      have hW : Below w.heap.size w w1 := ((Below.refl _ _).alloc (Nat.le_refl _) _).trans (hb.mono (by simp))
      have hsz := hW.size
      go_wp2_with (at_builtin; refine wpList_appN rfl _ _ _ rfl w.heap.size 5 i0 _ 1 1 Try.underlying24 hi hz0 hz1 hz2 rfl (by omega) rfl own0 rfl hr h1 (by simp only [maxLen]; omega) (by omega) hsz ?_; intro A' c' w2 own2 hg2)
      go_ret
      rw [Nat.add_comm 1 l.length] at own2 hg2 ⊢
      rw [e1]
      exact ⟨_, _, rfl, own2, hW.trans hg2.below⟩
end Go.Proofs.Ytbjgemipmlimoaa
namespace Go.Proofs.Ytbjgemipmlimoaa
open Go.RowKit

set_option maxRecDepth 100000 in
set_option maxHeartbeats 1000000 in
theorem rnums_any (v : Value) (l : List Int) (K : Nat → Prop) (w : World) (hv : IsL Rp.int w K v l) (hl : l.length ≤ 17592186043909) :
    Calls Try.prog 57 #[v] w fun e w' => ∃ A' c', e = .returned (.tuple #[.slice A' (numsL l).1.length c', .int .i64 (numsL l).2]) ∧
      w'.ownsRow w.heap.size 5 1 (.slice A' (numsL l).1.length c') (numsL l).1.length (cells8 (numsL l).1) ∧ Below w.heap.size w w' := by
  obtain ⟨i0, hi, hz0, hz1, hz2⟩ := info_parts Try.info5
  have hv0 := hv
  obtain ⟨A, c, cs, rfl, hr, hcl, hlc, hcc, _⟩ := hv
  obtain ⟨rfl, h63⟩ := ints_cells hcl
  have hfl := fun j => flatN_len (l := l.take j) (fun n hn => h63 n (List.mem_of_mem_take hn))
  have HFL := Lib.hid hfl; clear hfl
  go_enter Try.func57, Try.ntmps57
  go_wp2
  go_loopw [4, 9] (fun b i wr => ∃ (j : Nat) (acc : List UInt8) (A4 : Option Addr) (c4 : Nat), i = .int .i64 j ∧ j ≤ l.length ∧ b = .slice A4 acc.length c4 ∧ wr.ownsRow w.heap.size 5 1 (.slice A4 acc.length c4) acc.length (cells8 acc) ∧ acc = flatN (l.take j) ∧
    (∀ n ∈ l.take j, 0 ≤ n) ∧ Below w.heap.size w wr) (fun _ i _ => l.length - (intOf i).toNat)
  case atStart => exact ⟨0, [], none, 0, rfl, Nat.zero_le _, rfl, World.ownsRow_nil _ _ _ _, rfl, by simp, Below.refl _ _⟩
  case round =>
    obtain ⟨j, acc, A4, c4, rfl, hj, rfl, hown, hacc, hpos, hb⟩ := hrel
    have hal : acc.length ≤ 175921860439090 := by rw [hacc]; have h1 := HFL.out j; have h2 := List.length_take_le j l; omega
    have HACC := Lib.hid hacc; clear hacc
    have HPOS := Lib.hid hpos; clear hpos
    have hsz := hb.size
    by_cases hlt : j < l.length
    · obtain ⟨ad, u, rfl, _, hu, hc⟩ := (hr.step hb).at_ hlt
      simp only [List.getElem?_map, List.getElem?_eq_getElem hlt, Option.map_some, Option.some.injEq] at hu
      subst hu
      unfold I64 at hc
      have hmem := h63 l[j] (List.getElem_mem hlt)
      have hsn := flatN_snoc l hlt
      have htk : l.take (j + 1) = l.take j ++ [l[j]] := List.take_succ_eq_append_getElem hlt
      have hmm : l[j] ∈ l := List.getElem_mem hlt
      generalize l[j] = n at hc hmem hsn htk hmm
      have HSN := Lib.hid hsn; clear hsn
      have HTK := Lib.hid htk; clear htk
      have HMM := Lib.hid hmm; clear hmm
      obtain ⟨-, hn63⟩ := hmem
      by_cases hneg : n < 0
      · go_wp2
        go_ret2
        have hx : numsL l = ([], 1) := if_neg (fun h => by have := h n HMM.out; omega)
        rw [hx]
        exact ⟨none, 0, rfl, World.ownsRow_nil _ _ _ _, hb⟩
      · obtain ⟨k, rfl⟩ : ∃ k : Nat, n = (k : Int) := ⟨n.toNat, by omega⟩
        have hp10 : (putL k).length ≤ 10 := putL_len10 (by omega)
        have hput := fun W => rput_any k W (by omega) hp10
        have HPUT := Lib.hid hput; clear hput
        rw [Int.toNat_natCast] at HSN
        generalize putL k = pk at hp10 HPUT HSN
        go_wp2_with (first
          | (go_at_call 59; refine (HPUT.out _).mono ?_; rintro e w1 ⟨A5, c5, rfl, own5, hb5⟩; have own4 := own_below hown hb5 (Nat.le_refl _); have hr5 := Reads.of_own own5; have hs5 := hb5.size)
          | (at_builtin; refine wpList_appBig rfl (.tmp 15) (.tmp 18) _ rfl w.heap.size 5 i0 _ Try.underlying24 hi hz0 hz1 hz2 rfl rfl own4 rfl hr5 (cells8_one _) (by omega) (by omega) ?_; intro A6 c6 w2 own6 hg6))
        go_roundw
        case rel =>
          refine ⟨j + 1, acc ++ pk, A6, c6, by go_num, by omega, by simp, ?_, by rw [HSN.out, HACC.out], ?_, (hb.trans (hb5.mono hsz)).trans hg6.below⟩
          · rw [List.length_append, cells8_append]; exact own6
          · rw [HTK.out]
            intro n hn
            rcases List.mem_append.1 hn with hn | hn
            · exact HPOS.out n hn
            · rw [List.mem_singleton.1 hn]; omega
        case measure => simp [intOf]; omega
    · obtain rfl : j = l.length := by omega
      have hx : numsL l = (acc, 0) := by
        have h1 := HPOS.out; have h2 := HACC.out
        rw [List.take_length] at h1 h2
        rw [h2]
        exact if_pos h1
      have HX := Lib.hid hx; clear hx
      go_wp2
      go_ret2
      rw [HX.out]
      exact ⟨A4, c4, rfl, hown, hb⟩

set_option maxRecDepth 100000 in
set_option maxHeartbeats 1000000 in
theorem rvec_any (v : Value) (l : List UInt8) (K : Nat → Prop) (w : World) (hv : IsB w K v l) :
    Calls Try.prog 58 #[v] w fun e w' => ∃ A' c', e = .returned (.tuple #[.slice A' (vecL l).1.length c', .int .i64 (vecL l).2]) ∧
      w'.ownsRow w.heap.size 5 1 (.slice A' (vecL l).1.length c') (vecL l).1.length (cells8 (vecL l).1) ∧ Below w.heap.size w w' := by
  obtain ⟨i0, hi, hz0, hz1, hz2⟩ := info_parts Try.info5
  have hv0 := hv
  obtain ⟨A, c, rfl, hr, hlc, hcc, _⟩ := hv
  unfold vecL
  by_cases h : l.length ≤ 65536
  · rw [if_pos h]
    have hp10 : (putL l.length).length ≤ 10 := putL_len10 (by omega)
    have hput := fun W => rput_any l.length W (by omega) hp10
    have HPUT := Lib.hid hput; clear hput
    generalize putL l.length = pk at hp10 HPUT
    go_enter Try.func58, Try.ntmps58
    go_wp2_with fail
    refine (HPUT.out _).mono ?_
    rintro e w1 ⟨A5, c5, rfl, own5, hb5⟩
    have hr6 := hr.step hb5
    have h1 : ∀ u ∈ cells8 l, u.oneCell' = true := by
      intro u hu; simp [cells8] at hu; obtain ⟨b, _, rfl⟩ := hu; rfl
    have hsz := hb5.size
    go_wp2_with (at_builtin; refine wpList_appN rfl _ _ _ rfl w.heap.size 5 i0 _ 1 1 Try.underlying24 hi hz0 hz1 hz2 rfl (by omega) rfl own5 rfl hr6 h1 (by simp only [maxLen]; omega) (by omega) hsz ?_; intro A7 c7 w2 own7 hg7)
    go_ret2
    refine ⟨A7, c7, by rw [List.length_append]; rfl, ?_, hb5.trans hg7.below⟩
    rw [List.length_append, cells8_append]
    exact own7
  · rw [if_neg h]
    have h' : (65536 : Int) < (l.length : Int) := by omega
    go_enter Try.func58, Try.ntmps58
    go_wp2
    go_ret2
    exact ⟨none, 0, rfl, World.ownsRow_nil _ _ _ _, Below.refl _ _⟩
end Go.Proofs.Ytbjgemipmlimoaa
namespace Go.Proofs.Ytbjgemipmlimoaa
open Go.RowKit

theorem msgL_ref (m : Ms) : msgL m = if (numsL [m.kind, m.frm, m.to, m.id]).2 ≠ 0 then ([], (numsL [m.kind, m.frm, m.to, m.id]).2) else if (numsL m.args).2 ≠ 0 then ([], (numsL m.args).2) else if 64 < m.args.length then ([], 2)
    else if (vecL m.data).2 ≠ 0 then ([], (vecL m.data).2) else ((((numsL [m.kind, m.frm, m.to, m.id]).1 ++ putL m.args.length) ++ (numsL m.args).1) ++ (vecL m.data).1, 0) := by
  have hall : (∀ n ∈ headM m ++ m.args, 0 ≤ n) ↔ (∀ n ∈ [m.kind, m.frm, m.to, m.id], 0 ≤ n) ∧ ∀ n ∈ m.args, 0 ≤ n := by
    unfold headM
    constructor
    · intro h
      refine ⟨fun n hn => h n ?_, fun n hn => h n (List.mem_append_right _ hn)⟩
      simp at hn ⊢
      rcases hn with h | h | h | h <;> simp [h]
    · rintro ⟨h1, h2⟩ n hn
      rcases List.mem_append.1 hn with hn | hn
      · simp only [List.mem_cons, List.not_mem_nil, or_false] at hn
        rcases hn with rfl | rfl | rfl | rfl | rfl
        · exact h1 _ (by simp)
        · exact h1 _ (by simp)
        · exact h1 _ (by simp)
        · exact h1 _ (by simp)
        · omega
      · exact h2 n hn
  have hfl : flatN (headM m ++ m.args) = (flatN [m.kind, m.frm, m.to, m.id] ++ putL m.args.length) ++ flatN m.args := by
    rw [flatN_append]; simp [headM, flatN]
  unfold msgL
  generalize vecL m.data = vd
  unfold numsL
  by_cases h1 : ∀ n ∈ [m.kind, m.frm, m.to, m.id], 0 ≤ n
  · by_cases h2 : ∀ n ∈ m.args, 0 ≤ n
    · rw [if_pos (hall.2 ⟨h1, h2⟩), if_pos h1, if_pos h2, hfl]
      simp
    · rw [if_neg (fun h => h2 (hall.1 h).2), if_pos h1, if_neg h2]
      simp
  · rw [if_neg (fun h => h1 (hall.1 h).1), if_neg h1]
    simp

set_option maxRecDepth 100000 in
set_option maxHeartbeats 2000000 in
theorem rmsg_any (v : Value) (m : Ms) (K : Nat → Prop) (w : World) (hv : IsM w K v m) (hl : m.args.length ≤ 17592186043904) :
    Calls Try.prog 25 #[v] w fun e w' => ∃ A' c', e = .returned (.tuple #[.slice A' (msgL m).1.length c', .int .i64 (msgL m).2]) ∧
      w'.ownsRow w.heap.size 5 1 (.slice A' (msgL m).1.length c') (msgL m).1.length (cells8 (msgL m).1) ∧ Below w.heap.size w w' := by
  obtain ⟨i0, hi, hz0, hz1, hz2⟩ := info_parts Try.info5
  obtain ⟨A1, c1, A2, c2, rfl, h1, h2, h3⟩ := hv
  have h1' := h1
  obtain ⟨_, ⟨cs, hr1, hcl⟩, hlc, hcc, _⟩ := h1'.open_
  obtain ⟨rfl, ha63⟩ := ints_cells hcl
  have hd := h2.len
  unfold mv
  have hm := msgL_ref m
  obtain ⟨q, hq⟩ : ∃ q, numsL [m.kind, m.frm, m.to, m.id] = q := ⟨_, rfl⟩
  obtain ⟨r, hr⟩ : ∃ r, numsL m.args = r := ⟨_, rfl⟩
  obtain ⟨s, hs⟩ : ∃ s, vecL m.data = s := ⟨_, rfl⟩
  rw [hq, hr, hs] at hm
  obtain ⟨res, hres⟩ : ∃ res, res = msgL m := ⟨_, rfl⟩
  rw [← hres]
  rw [← hres] at hm
  clear hres
  have hh63 : I63 [m.kind, m.frm, m.to, m.id] := h3
  have hql : q.1.length ≤ 40 := by
    rw [← hq]; unfold numsL
    split
    · have := flatN_len hh63; simpa using this
    · simp
  have hrl : r.1.length ≤ 10 * m.args.length := by
    rw [← hr]; unfold numsL
    split
    · have := flatN_len ha63; simp only; omega
    · simp
  have hsl : s.1.length ≤ 65546 := by
    rw [← hs]; unfold vecL
    split
    · have := putL_len10 (n := m.data.length) (by omega); rw [List.length_append]; omega
    · simp
  have hp10 : (putL m.args.length).length ≤ 10 := putL_len10 (by omega)
  have hput := fun W => rput_any m.args.length W (by omega) hp10
  generalize putL m.args.length = pk at hp10 hput hm
  have HPUT := Lib.hid hput; clear hput
  obtain ⟨qb, qe⟩ := q
  obtain ⟨rb, re⟩ := r
  obtain ⟨sb, se⟩ := s
  simp only at hql hrl hsl hm
  have HM := Lib.hid hm; clear hm
  have HQ := Lib.hid hq; clear hq
  have HR := Lib.hid hr; clear hr
  have HS := Lib.hid hs; clear hs
  have H63 := Lib.hid hh63; clear hh63 h3
  have hnew : IsL Rp.int ((w.alloc (.cells #[.int .i64 m.kind, .int .i64 m.frm, .int .i64 m.to, .int .i64 m.id, .slice A1 m.args.length c1, .slice A2 m.data.length c2] 45)).alloc (.cells #[.int .i64 m.kind, .int .i64 m.frm, .int .i64 m.to, .int .i64 m.id] 3)) (fun _ => True) (.slice (some ⟨w.heap.size + 1, 0, none⟩) 4 4) [m.kind, m.frm, m.to, m.id] :=
    ⟨_, 4, [m.kind, m.frm, m.to, m.id].map I64, rfl, (Reads.new (by simp) rfl rfl).more (fun _ _ => trivial), cells_ints H63.out, by simp, by omega, by simp⟩
  have E := ((((Kn.start w).give Stable.list h1).give Stable.bytes h2).push 45 #[.int .i64 m.kind, .int .i64 m.frm, .int .i64 m.to, .int .i64 m.id, .slice A1 m.args.length c1, .slice A2 m.data.length c2]).alloc (.cells #[.int .i64 m.kind, .int .i64 m.frm, .int .i64 m.to, .int .i64 m.id] 3)
  have hr4 := rnums_any _ [m.kind, m.frm, m.to, m.id] _ _ hnew (by simp)
  rw [HQ.out] at hr4
  have HR4 := Lib.hid hr4; clear hr4 hnew
  clear h1 h2 h1' hr1 hcl
  go_enter Try.func25, Try.ntmps25
  go_wp2_with fail
  refine HR4.out.mono ?_
  rintro e w1 ⟨A3, c3, rfl, own3, hb1⟩
  replace E := E.step hb1
  have s1 := hb1.size
  have s01 : w.heap.size + 2 ≤ w1.heap.size := by simp at s1; omega
  replace own3 := own_base (base' := w.heap.size) own3 (by simp; omega)
  have L3 := Lib.hid own3.lt
  clear hb1 s1
  obtain ⟨q1, f1, t1⟩ := E.rules m0
  by_cases hqe : qe = 0
  · subst hqe
    go_wp2_with fail
    refine (rnums_any _ m.args _ w1 (E.get m1) (by omega)).mono ?_
    rw [HR.out]
    rintro e w2 ⟨A4, c4, rfl, own4, hb2⟩
    simp only at own4
    replace E := E.step hb2
    replace own3 := own_below own3 hb2 (Nat.le_refl _)
    have s12 := hb2.size
    have R4 := (Reads.of_own_ge own4).lt (by decide)
    clear hb2
    clear q1 f1 t1
    obtain ⟨q1, f1, t1⟩ := E.rules m0
    by_cases hre : re = 0
    · subst hre
      by_cases h64 : 64 < m.args.length
      · have hx : res = ([], 2) := by rw [HM.out, if_neg (by simp), if_neg (by simp), if_pos h64]
        have HX := Lib.hid hx; clear hx
        have h64' : (64 : Int) < (m.args.length : Int) := by omega
        go_wp2
        go_ret2
        rw [HX.out]
        exact ⟨none, 0, rfl, World.ownsRow_nil _ _ _ _, E.below⟩
      · have hx : res = if se ≠ 0 then ([], se) else (((qb ++ pk) ++ rb) ++ sb, 0) := by rw [HM.out, if_neg (by simp), if_neg (by simp), if_neg h64]
        have HX := Lib.hid hx; clear hx
        have h64' : ¬ (64 : Int) < (m.args.length : Int) := by omega
        go_wp2_with fail
        refine (rvec_any _ m.data _ w2 (E.get m0)).mono ?_
        rw [HS.out]
        rintro e w3 ⟨A5, c5, rfl, own5, hb3⟩
        simp only at own5
        replace E := E.step hb3
        replace own3 := own_below own3 hb3 (Nat.le_refl _)
        replace R4 := R4.step hb3
        have s23 := hb3.size
        have R5 := (Reads.of_own_ge own5).lt (by decide)
        clear hb3
        clear q1 f1 t1
        obtain ⟨q1, f1, t1⟩ := E.rules m0
        by_cases hse : se = 0
        · subst hse
          go_wp2_with fail
          refine (HPUT.out _).mono ?_
          rintro e w4 ⟨A6, c6, rfl, own6, hb4⟩
          replace E := E.step hb4
          replace own3 := own_below own3 hb4 (Nat.le_refl _)
          replace R4 := R4.step hb4
          replace R5 := R5.step hb4
          have R6 := Reads.of_own_ge own6
          have s34 := hb4.size
          clear hb4 own4 own5 own6
          go_wp2_with (first
            | (at_builtin; refine wpList_appN rfl (.tmp 46) (.tmp 51) _ rfl w.heap.size 5 i0 _ 1 1 Try.underlying24 hi hz0 hz1 hz2 rfl (by omega) rfl own3 rfl R6 (cells8_one _) (by simp only [maxLen]; omega) (by omega) (by omega) ?_; intro A7 c7 w5 own7 hg7; have hb5 := hg7.below; have s5 := hg7.grown.size
               have R4' := R4.grown hg7.grown (fun b hb _ e => by have := (L3.out b e.symm).2; omega); have R5' := R5.grown hg7.grown (fun b hb _ e => by have := (L3.out b e.symm).2; omega); have HG7 := Lib.hid hg7.at_; clear hg7)
            | (at_builtin; refine wpList_appN rfl (.tmp 52) (.tmp 53) _ rfl w.heap.size 5 i0 _ 1 1 Try.underlying24 hi hz0 hz1 hz2 rfl (by omega) rfl own7 rfl R4' (cells8_one _) (by simp only [maxLen]; omega) (by omega) (by omega) ?_; intro A8 c8 w6 own8 hg8; have hb6 := hg8.below; have s6 := hg8.grown.size
               have R5'' := R5'.grown hg8.grown (fun b hb _ e => by
                 rcases HG7.out with h | ⟨g, h, hgg⟩
                 · have := (L3.out b (Eq.trans e h).symm).2; omega
                 · have e := Eq.trans e h; injection e with e; omega); clear hg8)
            | (at_builtin; refine wpList_appN rfl (.tmp 55) (.tmp 56) _ rfl w.heap.size 5 i0 _ 1 1 Try.underlying24 hi hz0 hz1 hz2 rfl (by omega) rfl own8 rfl R5'' (cells8_one _) (by simp only [maxLen]; omega) (by omega) (by omega) ?_; intro A9 c9 w7 own9 hg9))
          go_ret2
          rw [HX.out, if_neg (by simp)]
          refine ⟨A9, c9, by simp only [List.length_append]; rfl, ?_, ((E.below.trans hb5).trans hb6).trans hg9.below⟩
          simp only [List.length_append, cells8_append]
          exact own9
        · have hx : res = ([], se) := by rw [HX.out, if_pos (by simpa using hse)]
          have HX2 := Lib.hid hx; clear hx
          have hseb : (se != 0) = true := by simpa using hse
          clear hse
          go_wp2
          go_ret2
          rw [HX2.out]
          exact ⟨none, 0, rfl, World.ownsRow_nil _ _ _ _, E.below⟩
    · have hx : res = ([], re) := by rw [HM.out, if_neg (by simp), if_pos (by simpa using hre)]
      have HX := Lib.hid hx; clear hx
      have hreb : (re != 0) = true := by simpa using hre
      clear hre
      go_wp2
      go_ret2
      rw [HX.out]
      exact ⟨none, 0, rfl, World.ownsRow_nil _ _ _ _, E.below⟩
  · have hx : res = ([], qe) := by rw [HM.out, if_pos (by simpa using hqe)]
    have HX := Lib.hid hx; clear hx
    have hqeb : (qe != 0) = true := by simpa using hqe
    clear hqe
    go_wp2
    go_ret2
    rw [HX.out]
    exact ⟨none, 0, rfl, World.ownsRow_nil _ _ _ _, E.below⟩
end Go.Proofs.Ytbjgemipmlimoaa
