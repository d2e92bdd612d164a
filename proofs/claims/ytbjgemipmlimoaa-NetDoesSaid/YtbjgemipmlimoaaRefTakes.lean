/- The walks of quicksetref02.TakeNums, TakeVec. -/
import Derived.Test.YtbjgemipmlimoaaRefTake
import Derived.Test.YtbjgemipmlimoaaWireTakes
import Derived.Test.YtbjgemipmlimoaaAppBig
namespace Go.Proofs.Ytbjgemipmlimoaa
open Go.RowKit

set_option maxRecDepth 100000 in
set_option maxHeartbeats 2000000 in
theorem rtakeNums_any (v : Value) (l : List UInt8) (many : Int) (K : Nat → Prop) (w : World) (hb : IsB w K v l) (hl : l.length ≤ 10000000000000) (hm : many ≤ 9223372036854775807) :
    Calls Try.prog 87 #[v, .int .i64 many] w fun e w' => ∃ A' c', e = .returned (.tuple #[.slice A' (takeNumsL l many).1.length c', .int .i64 (takeNumsL l many).2.1, .int .i64 (takeNumsL l many).2.2]) ∧
      w'.ownsRow w.heap.size 3 1 (.slice A' (takeNumsL l many).1.length c') (takeNumsL l many).1.length ((takeNumsL l many).1.map I64) ∧ Below w.heap.size w w' := by
  obtain ⟨i0, hi, hz0, hz1, hz2⟩ := info_parts Try.infInt
  have hb0 := hb
  obtain ⟨A, c, rfl, hr, hlc, hcc, hl47⟩ := hb
  unfold takeNumsL
  by_cases hneg : many < 0
  · rw [if_pos hneg]
    go_enter Try.func87, Try.ntmps87
    go_wp2
    go_ret3
    exact ⟨none, 0, rfl, World.ownsRow_nil _ _ _ _, Below.refl _ _⟩
  · rw [if_neg hneg]
    obtain ⟨k, rfl⟩ : ∃ k : Nat, many = (k : Int) := ⟨many.toNat, by omega⟩
    rw [Int.toNat_natCast]
    obtain ⟨r, hr0⟩ : ∃ r, rnums l k [] (0, 0) = r := ⟨_, rfl⟩
    rw [hr0]
    have HR := Lib.hid hr0; clear hr0
    obtain ⟨res, hres⟩ : ∃ res : List Int × Int × Int, (if r.2.2 ≠ 0 then ([], 0, r.2.2) else (r.1, (r.2.1 : Int), 0)) = res := ⟨_, rfl⟩
    rw [hres]
    have HRES := Lib.hid hres; clear hres
    go_enter Try.func87, Try.ntmps87
    go_wp2
    go_loopw [7, 8, 9, 10, 11] (fun a i x9 x10 x11 wr => (∃ (p : Nat) (acc : List Int) (A5 : Option Addr) (c5 : Nat), i = .int .i64 p ∧ acc.length ≤ k ∧ a = .slice A5 acc.length c5 ∧ wr.ownsRow w.heap.size 3 1 (.slice A5 acc.length c5) acc.length (acc.map I64) ∧
      p ≤ l.length ∧ acc.length ≤ p ∧ rnums l (k - acc.length) acc (p, 0) = r ∧ Below w.heap.size w wr) ∧ (∃ y9 y10 y11, x9 = y9 ∧ x10 = y10 ∧ x11 = y11)) (fun _ i _ _ _ _ => l.length - (intOf i).toNat)
    case atStart => exact ⟨⟨0, [], none, 0, rfl, Nat.zero_le _, rfl, World.ownsRow_nil _ _ _ _, Nat.zero_le _, Nat.zero_le _, HR.out, Below.refl _ _⟩, _, _, _, rfl, rfl, rfl⟩
    case round =>
      obtain ⟨⟨p, acc, A5, c5, rfl, hak, rfl, hown, hpl, hap, hrr, hbl⟩, y9, y10, y11, rfl, rfl, rfl⟩ := hrel
      have HRR := Lib.hid hrr; clear hrr
      have hsz := hbl.size
      by_cases hlt : acc.length < k
      · have hlt' : (acc.length : Int) < (k : Int) := by omega
        obtain ⟨x, hx⟩ : ∃ x, rnum l (p, 0) = x := ⟨_, rfl⟩
        obtain ⟨n, p', er⟩ := x
        have hgo := rnum_go (l := l) (s := (p, 0)) rfl
        have hin := rnum_in (l := l) (s := (p, 0)) hpl
        have hoff := rnum_off l p
        have hcut := cut_bytes (hb0.step hbl) hpl
        obtain ⟨A3, hA3⟩ : ∃ A3, (if c = p then A else A.map (fun x => x.add p)) = A3 := ⟨_, rfl⟩
        rw [hA3] at hcut
        have hct := rint_any (l.drop p) _ _ (c - p) _ (by rw [List.length_drop]) (by omega) wr hcut
        have hstep : rnums l (k - acc.length) acc (p, 0) = if er ≠ 0 then ([], (p', er)) else rnums l (k - (acc.length + 1)) (acc ++ [n]) (p', er) := by
          rw [show k - acc.length = (k - (acc.length + 1)) + 1 by omega, rnums, hx]
        rw [hx] at hgo hin hoff
        simp only at hgo hin hoff
        obtain ⟨ho1, ho2, ho3⟩ := hoff
        rw [← ho1, ← ho3] at hct
        obtain ⟨q, hq⟩ : ∃ q, (rnum (l.drop p) (0, 0)).2.1 = q := ⟨_, rfl⟩
        rw [hq] at hct ho2
        have HX := Lib.hid hx; clear hx
        have HST := Lib.hid hstep; clear hstep
        have HC := Lib.hid hct; clear hct
        have HO2 := Lib.hid ho2
        have hpc : (p : Int) ≤ (c : Int) := by omega
        have hpl' : (p : Int) ≤ (l.length : Int) := by omega
        have hp0 : (0 : Int) ≤ (p : Int) := by omega
        have hq9 : q ≤ 10000000000000 := by omega
        have hp9 : p ≤ 10000000000000 := by omega
        clear ho1 ho2 ho3 hq hcut
        by_cases he : er = 0
        · subst he
          have hpp := hgo rfl
          clear hgo
          rw [if_neg (by omega)] at hA3
          subst hA3
          go_wp2_with fail
          refine HC.out.mono ?_
          rintro e' w1 ⟨rfl, rfl⟩
          go_wp2_with (at_builtin; refine wpList_app1g rfl (.tmp 29) (.tmp 31) _ rfl w.heap.size 3 i0 _ 8 Try.underlying43 hi hz0 hz1 hz2 rfl rfl hown rfl rfl rfl (by simp only [maxLen]; omega) (by omega) (by omega) ?_; intro A6 c6 w2 own2 hg2)
          go_roundw
          case rel =>
            refine ⟨⟨p + q, acc ++ [n], A6, c6, by go_num, by simp; omega, by simp, ?_, ?_, ?_, ?_, hbl.trans hg2.below⟩, _, _, _, rfl, rfl, rfl⟩
            · rw [List.map_append, List.length_append]; exact own2
            · have := HO2.out; omega
            · have := HO2.out; simp; omega
            · rw [← HRR.out, HST.out, ← HO2.out]; simp
          case measure => have := HO2.out; simp [intOf]; omega
        · have heb : (er != 0) = true := by simpa using he
          have hfin : res = ([], 0, er) := by
            have e : r = ([], (p', er)) := by rw [← HRR.out, HST.out, if_pos he]
            rw [← HRES.out, e]; exact if_pos he
          have HF := Lib.hid hfin
          clear he hfin hgo
          go_wp2_with fail
          refine HC.out.mono ?_
          rintro e' w1 ⟨rfl, rfl⟩
          go_wp2
          go_ret3
          rw [HF.out]
          exact ⟨none, 0, rfl, World.ownsRow_nil _ _ _ _, hbl⟩
      · obtain rfl : acc.length = k := by omega
        have hfin : res = (acc, (p : Int), 0) := by
          have e : r = (acc, (p, 0)) := by rw [← HRR.out, Nat.sub_self]; rfl
          rw [← HRES.out, e]; exact if_neg (by simp)
        have HF := Lib.hid hfin
        clear hfin
        go_wp2
        go_ret3
        rw [HF.out]
        exact ⟨A5, c5, rfl, hown, hbl⟩

set_option maxRecDepth 100000 in
set_option maxHeartbeats 1000000 in
theorem rtakeVec_any (v : Value) (l : List UInt8) (K : Nat → Prop) (w : World) (hb : IsB w K v l) :
    Calls Try.prog 88 #[v] w fun e w' => ∃ A' c', e = .returned (.tuple #[.slice A' (takeVecL l).1.length c', .int .i64 (takeVecL l).2.1, .int .i64 (takeVecL l).2.2]) ∧
      w'.ownsRow w.heap.size 5 1 (.slice A' (takeVecL l).1.length c') (takeVecL l).1.length (cells8 (takeVecL l).1) ∧ Below w.heap.size w w' := by
  obtain ⟨i0, hi, hz0, hz1, hz2⟩ := info_parts Try.info5
  have hb0 := hb
  obtain ⟨A, c, rfl, hr, hlc, hcc, hl47⟩ := hb
  obtain ⟨res, hres⟩ : ∃ res, takeVecL l = res := ⟨_, rfl⟩
  rw [hres]
  have hct := rint_any l _ _ c _ rfl (by omega) w hr
  have hin := rnum_in (l := l) (s := (0, 0)) (Nat.zero_le _)
  unfold takeVecL rvec rvec1 rmost at hres
  obtain ⟨x, hx⟩ : ∃ x, rnum l (0, 0) = x := ⟨_, rfl⟩
  rw [hx] at hct hin hres
  obtain ⟨n, p, er⟩ := x
  simp only at hct hin hres
  have HC := Lib.hid hct; clear hct hx
  by_cases he : er = 0
  case neg =>
    have hx : res = ([], 0, er) := by rw [← hres]; simp [he]
    have HX := Lib.hid hx
    have heb : (er != 0) = true := by simpa using he
    clear hres hx he
    go_enter Try.func88, Try.ntmps88
    go_wp2_with fail
    refine HC.out.mono ?_
    rintro e' w1 ⟨rfl, rfl⟩
    go_wp2
    go_ret3
    rw [HX.out]
    exact ⟨none, 0, rfl, World.ownsRow_nil _ _ _ _, Below.refl _ _⟩
  subst he
  by_cases h64 : (65536 : Int) < n
  case pos =>
    have hx : res = ([], 0, 2) := by rw [← hres]; simp [h64]
    have HX := Lib.hid hx
    clear hres hx
    go_enter Try.func88, Try.ntmps88
    go_wp2_with fail
    refine HC.out.mono ?_
    rintro e' w1 ⟨rfl, rfl⟩
    go_wp2
    go_ret3
    rw [HX.out]
    exact ⟨none, 0, rfl, World.ownsRow_nil _ _ _ _, Below.refl _ _⟩
  obtain ⟨n, rfl⟩ : ∃ k : Nat, n = (k : Int) := ⟨n.toNat, by omega⟩
  obtain ⟨hpl, -, -, -⟩ := hin
  by_cases hsh : (l.length : Int) - p < n
  case pos =>
    have hx : res = ([], 0, 20) := by rw [← hres]; simp [h64, hsh]
    have HX := Lib.hid hx
    clear hres hx
    go_enter Try.func88, Try.ntmps88
    go_wp2_with fail
    refine HC.out.mono ?_
    rintro e' w1 ⟨rfl, rfl⟩
    go_wp2
    go_ret3
    rw [HX.out]
    exact ⟨none, 0, rfl, World.ownsRow_nil _ _ _ _, Below.refl _ _⟩
  have hx : res = ((l.drop p).take n, ((p + n : Nat) : Int), 0) := by rw [← hres]; simp [h64, hsh]
  have HX := Lib.hid hx
  clear hres hx
  have hlen : ((l.drop p).take n).length = n := by rw [List.length_take, List.length_drop]; omega
  have HL := Lib.hid hlen; clear hlen
  obtain ⟨A3, hA3⟩ : ∃ A3, (if c = p then A else A.map (fun x => x.add p)) = A3 := ⟨_, rfl⟩
  have hcut := (cut_bytes hb0 (at' := p) hpl).pre (k := n) (by omega)
  rw [Nat.mul_one, cells8_take, hA3] at hcut
  have i3 : (0 : Int) ≤ (p : Int) := by omega
  have i4 : (p : Int) ≤ (p : Int) + n := by omega
  have i5 : (p : Int) + n ≤ (c : Int) := by omega
  have i8 : ((p : Int) + n).toNat = p + n := by omega
  have i7 : ((p : Int) + n).toNat - p = n := by omega
  go_enter Try.func88, Try.ntmps88
  go_wp2_with fail
  refine HC.out.mono ?_
  rintro e' w1 ⟨rfl, rfl⟩
  have h1 := cells8_one ((l.drop p).take n)
  generalize hm : (l.drop p).take n = m at HX HL hcut h1
  clear hm
  by_cases hcp : c = p
  · rw [if_pos hcp] at hA3
    subst hA3
    obtain rfl : n = 0 := by omega
    go_wp2_with (at_builtin; refine wpList_appN rfl _ _ _ rfl w.heap.size 5 i0 _ 1 1 Try.underlying24 hi hz0 hz1 hz2 rfl (by omega) rfl (World.ownsRow_nil _ _ _ _) rfl hcut h1 (by simp only [maxLen]; omega) (by omega) (Nat.le_refl _) ?_; intro A7 c7 w2 own7 hg7)
    go_ret3
    rw [HX.out]
    simp only [HL.out, Nat.zero_add, List.nil_append] at own7 ⊢
    exact ⟨A7, c7, rfl, own7, hg7.below⟩
  · rw [if_neg hcp] at hA3
    subst hA3
    go_wp2_with (at_builtin; refine wpList_appN rfl _ _ _ rfl w.heap.size 5 i0 _ 1 1 Try.underlying24 hi hz0 hz1 hz2 rfl (by omega) rfl (World.ownsRow_nil _ _ _ _) rfl hcut h1 (by simp only [maxLen]; omega) (by omega) (Nat.le_refl _) ?_; intro A7 c7 w2 own7 hg7)
    go_ret3
    rw [HX.out]
    simp only [HL.out, Nat.zero_add, List.nil_append] at own7 ⊢
    exact ⟨A7, c7, rfl, own7, hg7.below⟩
end Go.Proofs.Ytbjgemipmlimoaa
