/- The walks of wire.Fixed, ref02's Fixed and TakeFixed, quicksetlaw02.WireFixed. -/
import Derived.Test.YtbjgemipmlimoaaFixed
import Derived.Test.YtbjgemipmlimoaaPut
import Derived.Test.YtbjgemipmlimoaaWireLive
import Derived.Test.YtbjgemipmlimoaaRep
import Derived.BigQuiet
import Derived.Deep.RegionHeld3
import Derived.Deep.DeepCutAuto
import Derived.Deep.QuietTactic
namespace Go.Proofs.Ytbjgemipmlimoaa
open Go.RowKit

theorem ret2_u32 {a b : Int} (h : a = b) : Ending.returned (.tuple #[.int .u32 a, .int .i64 0]) = .returned (.tuple #[.int .u32 b, .int .i64 0]) := by rw [h]
theorem fix_cells {n : Nat} (hn : n < 4294967296) : cells8 (fixL n) = [.int .u8 ((n : Int) % 256), .int .u8 ((n : Int) / 256 % 256), .int .u8 ((n : Int) / 65536 % 256), .int .u8 ((n : Int) / 16777216)] := by
  simp only [cells8, fixL, List.map_cons, List.map_nil, B8, UInt8.toNat_ofNat']
  rw [show ((n % 256 % 2 ^ 8 : Nat) : Int) = (n : Int) % 256 by omega, show ((n / 256 % 256 % 2 ^ 8 : Nat) : Int) = (n : Int) / 256 % 256 by omega, show ((n / 65536 % 256 % 2 ^ 8 : Nat) : Int) = (n : Int) / 65536 % 256 by omega, show ((n / 16777216 % 256 % 2 ^ 8 : Nat) : Int) = (n : Int) / 16777216 by omega]

set_option maxRecDepth 100000 in
set_option maxHeartbeats 1000000 in
theorem rfixed_any (n : Nat) (w : World) (hn : n < 4294967296) :
    Calls Try.prog 19 #[.int .u32 n] w fun e w' => ∃ A c, e = .returned (.slice A 4 c) ∧ w'.ownsRow w.heap.size 5 1 (.slice A 4 c) 4 (cells8 (fixL n)) ∧ Below w.heap.size w w' := by
  have hc := fix_cells hn
  have HC := Lib.hid hc; clear hc
  go_enter Try.func19, Try.ntmps19
  go_wp2
  go_ret
  rw [HC.out]
  exact ⟨_, _, rfl, World.ownsRow_lit w #[.int .u8 ((n : Int) % 256), .int .u8 ((n : Int) / 256 % 256), .int .u8 ((n : Int) / 65536 % 256), .int .u8 ((n : Int) / 16777216)] 4 (Nat.le_refl _) (by decide) rfl, (Below.refl _ _).alloc (Nat.le_refl _) _⟩

set_option maxRecDepth 100000 in
set_option maxHeartbeats 1000000 in
theorem fixed_any (n : Nat) (w : World) (hn : n < 4294967296) :
    Calls Try.prog 17 #[.int .u32 n] w fun e w' => ∃ A c, e = .returned (.slice A 4 c) ∧ w'.ownsRow w.heap.size 5 1 (.slice A 4 c) 4 (cells8 (fixL n)) ∧ Below w.heap.size w w' := by
  obtain ⟨i0, hi, hz0, hz1, hz2⟩ := info_parts Try.info5
  have hc := fix_cells hn
  have HC := Lib.hid hc; clear hc
  go_enter Try.func17, Try.ntmps17
  go_wp2_with fail
  go_loopw [3, 4, 5] (fun a x4 i wr => (∃ (j : Nat) (A : Option Addr) (c : Nat), i = .int .i64 j ∧ j ≤ 4 ∧ a = .slice A j c ∧ wr.ownsRow w.heap.size 5 1 (.slice A j c) j ((cells8 (fixL n)).take j) ∧ Below w.heap.size w wr) ∧ (∃ y, x4 = y)) (fun _ _ i _ => 4 - (intOf i).toNat)
  case atStart => exact ⟨⟨0, none, 0, rfl, by omega, rfl, World.ownsRow_nil _ _ _ _, Below.refl _ _⟩, _, rfl⟩
  case round =>
    obtain ⟨⟨j, A, c, rfl, hj, rfl, hown, hb⟩, y, rfl⟩ := hrel
    have hsz := hb.size
    have hj' : j = 0 ∨ j = 1 ∨ j = 2 ∨ j = 3 ∨ j = 4 := by omega
    clear hj
    rcases hj' with rfl | rfl | rfl | rfl | rfl
    · go_wp2_with (at_builtin; refine wpList_app1g rfl _ _ _ rfl w.heap.size 5 i0 _ 1 Try.underlying24 hi hz0 hz1 hz2 rfl rfl hown rfl rfl rfl (by simp only [maxLen]; omega) (by omega) hsz ?_; intro A6 c6 w6 own6 hg6)
      rw [HC.out] at own6
      exact ⟨⟨⟨1, A6, c6, rfl, by omega, rfl, by rw [HC.out]; exact own6, hb.trans hg6.below⟩, _, rfl⟩, by simp [intOf]⟩
    · go_wp2_with (at_builtin; refine wpList_app1g rfl _ _ _ rfl w.heap.size 5 i0 _ 1 Try.underlying24 hi hz0 hz1 hz2 rfl rfl hown rfl rfl rfl (by simp only [maxLen]; omega) (by omega) hsz ?_; intro A6 c6 w6 own6 hg6)
      rw [HC.out] at own6
      exact ⟨⟨⟨2, A6, c6, rfl, by omega, rfl, by rw [HC.out]; exact own6, hb.trans hg6.below⟩, _, rfl⟩, by simp [intOf]⟩
    · go_wp2_with (at_builtin; refine wpList_app1g rfl _ _ _ rfl w.heap.size 5 i0 _ 1 Try.underlying24 hi hz0 hz1 hz2 rfl rfl hown rfl rfl rfl (by simp only [maxLen]; omega) (by omega) hsz ?_; intro A6 c6 w6 own6 hg6)
      rw [HC.out] at own6
      exact ⟨⟨⟨3, A6, c6, rfl, by omega, rfl, by rw [HC.out]; exact own6, hb.trans hg6.below⟩, _, rfl⟩, by simp [intOf]⟩
    · go_wp2_with (at_builtin; refine wpList_app1g rfl _ _ _ rfl w.heap.size 5 i0 _ 1 Try.underlying24 hi hz0 hz1 hz2 rfl rfl hown rfl rfl rfl (by simp only [maxLen]; omega) (by omega) hsz ?_; intro A6 c6 w6 own6 hg6)
      rw [HC.out] at own6
      exact ⟨⟨⟨4, A6, c6, rfl, by omega, rfl, by rw [HC.out]; exact own6, hb.trans hg6.below⟩, _, rfl⟩, by simp [intOf]⟩
    · go_wp2
      go_ret
      rw [List.take_of_length_le (by rw [HC.out]; simp)] at hown
      exact ⟨A, c, rfl, hown, hb⟩

set_option maxRecDepth 100000 in
set_option maxHeartbeats 2000000 in
theorem rtakeFixed_any (v : Value) (b : List UInt8) (K : Nat → Prop) (w : World) (hv : IsB w K v b) :
    Calls Try.prog 20 #[v] w fun e w' => e = .returned (.tuple #[.int .u32 ((takeFL b).1 : Int), .int .i64 (takeFL b).2]) ∧ Below w.heap.size w w' := by
  obtain ⟨A, c, rfl, hr, hlc, hcc, hl47⟩ := hv
  by_cases h4 : 4 ≤ b.length
  · obtain ⟨ad, rfl, _, hcell⟩ := hr.2 (by omega)
    have hl4 := (fix_take h4).2.2
    match b, h4 with
    | b0 :: b1 :: b2 :: b3 :: r, _ =>
      have h0 := b0.toNat_lt; have h1 := b1.toNat_lt; have h2 := b2.toNat_lt; have h3 := b3.toNat_lt
      have c0 : w.cell? ad = some (.int .u8 (b0.toNat : Int)) := by rw [← addr0 ad]; exact hcell 0 _ rfl
      have c1 : w.cell? ⟨ad.block, ad.off + 1, none⟩ = some (.int .u8 (b1.toNat : Int)) := by rw [← addrS _ 1 (by decide)]; exact hcell 1 _ rfl
      have c2 : w.cell? ⟨ad.block, ad.off + 2, none⟩ = some (.int .u8 (b2.toNat : Int)) := by rw [← addrS _ 2 (by decide)]; exact hcell 2 _ rfl
      have c3 : w.cell? ⟨ad.block, ad.off + 3, none⟩ = some (.int .u8 (b3.toNat : Int)) := by rw [← addrS _ 3 (by decide)]; exact hcell 3 _ rfl
      obtain ⟨L, hL⟩ : ∃ L, (b0 :: b1 :: b2 :: b3 :: r).length = L := ⟨_, rfl⟩
      have hL4 : 4 ≤ L := by rw [← hL]; simp
      have hlc' : L ≤ c := by rw [← hL]; exact hlc
      rw [hL]
      have l0 : (0 : Int) < (L : Int) := by omega
      have l1 : (1 : Int) < (L : Int) := by omega
      have l2 : (2 : Int) < (L : Int) := by omega
      have l3 : (3 : Int) < (L : Int) := by omega
      have l4 : (4 : Int) ≤ (L : Int) := by omega
      simp only [takeFL] at hl4 ⊢
      clear hL hr hcell hlc
      go_enter Try.func20, Try.ntmps20
      go_wp2_with fail
      go_quiet (fail)
      go_wp2
      go_ret2
      exact ⟨ret2_u32 (by omega), below_drewN (Below.refl _ _) _⟩
  · rw [takeFL_short (by omega)]
    have h4' : (b.length : Int) < 4 := by omega
    go_enter Try.func20, Try.ntmps20
    go_wp2
    go_ret2
    exact ⟨rfl, Below.refl _ _⟩

set_option maxRecDepth 100000 in
set_option maxHeartbeats 4000000 in
theorem wireFixed_any (n : Nat) (v : Value) (b : List UInt8) (w : World) (hn : n < 4294967296) (hv : IsB w (· < w.heap.size) v b) :
    Calls Try.prog 4 #[.int .u32 n, v] w fun e w' => e = .returned (.bool true) ∧ Below w.heap.size w w' := by
  obtain ⟨i0, hi, hz0, hz1, hz2⟩ := info_parts Try.info5
  have hv0 := hv
  obtain ⟨A, c, rfl, _, hlc, hcc, hl47⟩ := hv
  have E := (Kn.start w).give Stable.bytes hv0
  by_cases hbig : 1000 < b.length
  · have hb' : (1000 : Int) < (b.length : Int) := by omega
    go_enter Try.func4, Try.ntmps4
    go_wp2_with fail
    refine (live02_any _).mono ?_
    rintro e w1 ⟨rfl, hb1⟩
    replace E := E.step hb1
    go_wp2
    go_ret
    exact ⟨rfl, E.below⟩
  · have hb' : ¬ (1000 : Int) < (b.length : Int) := by omega
    go_enter Try.func4, Try.ntmps4
    go_wp2_with fail
    refine (live02_any _).mono ?_
    rintro e w1 ⟨rfl, hb1⟩
    replace E := E.step hb1
    go_wp2_with fail
    refine (fixed_any n _ hn).mono ?_
    rintro e w2 ⟨A2, c2, rfl, own2, hb2⟩
    replace E := E.step hb2
    have hx : IsB w2 (fun b => w1.heap.size ≤ b) (.slice A2 4 c2) (fixL n) := IsB.of_own (l := fixL n) own2 (by simp [fixL])
    replace E := E.give Stable.bytes hx
    have hr2 := (Reads.of_own own2)
    have hrb := (IsB.open_ (E.get m1)).2.1
    have s2 := E.base
    clear own2 hb2 hx hb1
    go_wp2_with (first
      | (at_builtin; refine wpList_appN rfl (.const (.slice none 0 0)) (.tmp 21) _ rfl w2.heap.size 5 i0 _ 1 1 Try.underlying24 hi hz0 hz1 hz2 rfl (by omega) rfl (World.ownsRow_nil _ _ _ _) rfl hr2 (cells8_one _) (by simp only [maxLen]; omega) (by omega) (Nat.le_refl _) ?_; intro A3 c3 w3 own3 hg3; have hb3 := hg3.below; have hrb3 := hrb.step hb3
         simp only [Nat.zero_add, List.nil_append] at own3)
      | (at_builtin; refine wpList_appN rfl (.tmp 22) (.tmp 23) _ rfl w2.heap.size 5 i0 _ 1 1 Try.underlying24 hi hz0 hz1 hz2 rfl (by omega) (by first | rfl | (simp only [Nat.zero_add]; rfl)) own3 rfl hrb3 (cells8_one _) (by simp only [maxLen]; omega) (by omega) hb3.size ?_; intro A4 c4 w4 own4 hg4; have hb4 := hb3.trans hg4.below))
    have hl4 : (fixL n ++ b).length = 4 + b.length := by rw [List.length_append]; rfl
    have hcat : IsB w4 (fun b => w2.heap.size ≤ b) (.slice A4 (4 + b.length) c4) (fixL n ++ b) := by
      have h := own4
      rw [← cells8_append, ← hl4] at h
      have := IsB.of_own h (by omega)
      rwa [hl4] at this
    replace E := E.step hb4
    clear own4 hg4 own3 hg3 hrb3 hrb hr2 hb3 hb4 hl4
    refine (takeFixed_any _ (fixL n ++ b) _ w4 hcat).mono ?_
    rw [take_fix hn]
    rintro e w5 ⟨rfl, hb5⟩
    replace E := E.step hb5
    clear hb5 hcat
    have hnn : ((n : Int) != (n : Int)) = false := by simp
    go_upto_region 6 with fail
    have hs0 := fun W (h : Below w5.heap.size w5 W) => run_string_of (P := Try.prog) (cap := c2) (n := 4) (l := fixL n) W 24 9 5 Try.underlying24 Try.underlying5 Try.underlying9 rfl (IsB.open_ (l := fixL n) ((E.step h).get m0)).2.1
    have HK : Hid (∀ w', Below w5.heap.size w5 w' → Below w5.heap.size w5 w' ∧ (convert 24 9 (.slice A2 4 c2)).run Try.prog w' = .ok (.string ⟨(fixL n).toArray⟩) w') := Lib.hid fun w' h => ⟨h, hs0 w' h⟩
    clear hs0
    go_region_held (fun w' => Below w5.heap.size w5 w' ∧ (convert 24 9 (.slice A2 4 c2)).run Try.prog w' = .ok (.string ⟨(fixL n).toArray⟩) w')
      (first | exact HK.out _ (Below.refl _ _).drew | exact HK.out _ (hH.1.trans (hbN.mono hH.1.size)) | assumption)
      (first
        | (go_at_call 19; rename_i hH _ _; refine (rfixed_any n _ hn).mono ?_; rintro e wN ⟨A5, c5, rfl, own5, hbN⟩; have hsP := run_string_of (P := Try.prog) (cap := c5) (n := 4) (l := fixL n) wN 24 9 5 Try.underlying24 Try.underlying5 Try.underlying9 rfl (Reads.of_own own5)))
    replace E := E.step (hH.1.trans (hbN.mono hH.1.size))
    clear hbN own5
    obtain ⟨t, ht⟩ : ∃ t, takeFL b = t := ⟨_, rfl⟩
    have hfix := fun h => fix_take (b := b) h
    have hsh := fun h => takeFL_short (b := b) h
    rw [ht] at hfix hsh
    obtain ⟨p, f⟩ := t
    have HT := Lib.hid ht; have HFIX := Lib.hid hfix; have HSH := Lib.hid hsh
    clear ht hfix hsh
    go_wp2_with fail
    refine (takeFixed_any _ b _ _ (E.get m1)).mono ?_
    rw [HT.out]
    rintro e w6 ⟨rfl, hb6⟩
    replace E := E.step hb6
    go_wp2_with fail
    refine (rtakeFixed_any _ b _ _ (E.get m1)).mono ?_
    rw [HT.out]
    rintro e w7 ⟨rfl, hb7⟩
    replace E := E.step hb7
    clear hb6 hb7 HK
    have hpp : ((p : Int) == (p : Int)) = true := by simp
    have hff : (f == f) = true := by simp
    go_upto_region 10 with fail
    by_cases h4 : 4 ≤ b.length
    · obtain ⟨hf1, hf2, hf3⟩ := HFIX.out h4
      replace hf2 : f = 0 := hf2
      replace hf1 : fixL p = b.take 4 := hf1
      replace hf3 : p < 4294967296 := hf3
      subst hf2
      have i4 : (4 : Int) ≤ (b.length : Int) := by omega
      have i5 : (4 : Int) ≤ (c : Int) := by omega
      have hs0 := fun W (h : Below w7.heap.size w7 W) => run_string_of (P := Try.prog) (cap := c) (n := 4) (l := b.take 4) W 24 9 5 Try.underlying24 Try.underlying5 Try.underlying9 (by rw [List.length_take]; omega) (by
        have h1 := (IsB.pre ((E.step h).get m1) (k := 4) h4).open_.2.1
        rwa [show (b.take 4).length = 4 by rw [List.length_take]; omega] at h1)
      rw [← hf1] at hs0
      have HK : Hid (∀ w', Below w7.heap.size w7 w' → Below w7.heap.size w7 w' ∧ (convert 24 9 (.slice A 4 c)).run Try.prog w' = .ok (.string ⟨(fixL p).toArray⟩) w') := Lib.hid fun w' h => ⟨h, hs0 w' h⟩
      clear hs0 hf1 hH
      go_region_held (fun w' => Below w7.heap.size w7 w' ∧ (convert 24 9 (.slice A 4 c)).run Try.prog w' = .ok (.string ⟨(fixL p).toArray⟩) w')
        (first | exact HK.out _ (Below.refl _ _).drew | exact HK.out _ (hH.1.trans (hbN.mono hH.1.size)) | assumption)
        (first
          | (go_at_call 17; rename_i hH _ _; refine (fixed_any p _ hf3).mono ?_; rintro e wN ⟨A5, c5, rfl, own5, hbN⟩; have hsP := run_string_of (P := Try.prog) (cap := c5) (n := 4) (l := fixL p) wN 24 9 5 Try.underlying24 Try.underlying5 Try.underlying9 rfl (Reads.of_own own5)))
      go_wp2
      go_ret
      exact ⟨rfl, E.below.trans ((hH.1.trans (hbN.mono hH.1.size)).mono E.below.size)⟩
    · have hs := HSH.out (by omega)
      injection hs with hs1 hs2
      subst hs1 hs2
      clear hH
      go_quiet (fail)
      go_wp2
      go_ret
      exact ⟨rfl, below_drewN E.below _⟩
end Go.Proofs.Ytbjgemipmlimoaa
