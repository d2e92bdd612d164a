/- Slices of zones; slices.Index and Contains of ints; the counts. -/
import Derived.Test.YtcjmcfjjbicimaaZonePlain
import Derived.Test.YtcjmcfjjbicimaaMore
import Derived.Test.YtcjmcfjjbicimaaRows
namespace Go.Proofs.Ytcjmcfjjbicimaa
open Go.RowKit

instance : Inhabited Zn := ⟨z0⟩

/-- the slice at SA reads as the zones zs, in blocks of which K holds -/
def IsZs (w : World) (K : Nat → Prop) (SA : Option Addr) (zs : List Zn) : Prop :=
  0 < zs.length → ∃ ad, SA = some ad ∧ K ad.block ∧ ∀ (i : Nat) z, zs[i]? = some z → ∃ A c, w.cell? (ad.add (i * 3)) = some (.int .i64 z.st) ∧ w.cell? ⟨(ad.add (i * 3)).block, (ad.add (i * 3)).off + 1, none⟩ = some (.int .i64 z.fe) ∧
    w.cell? ⟨(ad.add (i * 3)).block, (ad.add (i * 3)).off + 2, none⟩ = some (.slice A z.d.length c) ∧ IsB w K (.slice A z.d.length c) z.d

theorem IsZs.step {w w' : World} {K : Nat → Prop} {SA : Option Addr} {zs : List Zn} (h : IsZs w K SA zs) (hb : Below w.heap.size w w') : IsZs w' K SA zs := by
  intro hn
  obtain ⟨ad, h1, h2, h3⟩ := h hn
  refine ⟨ad, h1, h2, fun i z hz => ?_⟩
  obtain ⟨A, c, c0, c1, c2, hB⟩ := h3 i z hz
  exact ⟨A, c, (hb.cell (World.block_lt_of_cell? w _ c0)).trans c0, (hb.cell (World.block_lt_of_cell? w _ c1)).trans c1, (hb.cell (World.block_lt_of_cell? w _ c2)).trans c2, hB.step hb⟩

/-- where a number is first found -/
def idxI (l : List Int) (x : Int) : Int := match l.findIdx? (· == x) with | some i => i | none => -1

set_option maxRecDepth 100000 in
set_option maxHeartbeats 400000 in
theorem index_any (A : Option Addr) (n c : Nat) (l : List Int) (x : Int) (K : Nat → Prop) (w : World) (hn : l.length = n) (hn63 : n ≤ 9223372036854775807) (hr : Reads w K 1 A n (l.map I64)) :
    Calls Try.prog 79 #[.slice A n c, .int .i64 x] w fun e w' => (∃ r : Int, e = .returned (.int .i64 r) ∧ (0 ≤ r ↔ x ∈ l)) ∧ w = w' := by
  subst hn
  go_enter Try.func79, Try.ntmps79
  go_wp2
  go_loop [5, 8] (fun _ i => ∃ j : Nat, j ≤ l.length ∧ i = .int .i64 j ∧ x ∉ l.take j) (fun _ i => l.length - (intOf i).toNat)
  case atStart => exact ⟨0, Nat.zero_le _, rfl, by simp⟩
  case round =>
    obtain ⟨j, hj, rfl, hx⟩ := hrel
    have HX := Lib.hid hx; clear hx
    by_cases hlt : j < l.length
    · obtain ⟨ad, u, rfl, _, hu, hc⟩ := hr.at_ hlt
      simp only [List.getElem?_map, List.getElem?_eq_getElem hlt, Option.map_some, Option.some.injEq] at hu
      subst hu
      unfold I64 at hc
      have hmem : l[j] ∈ l := List.getElem_mem hlt
      have htk : l.take (j + 1) = l.take j ++ [l[j]] := List.take_succ_eq_append_getElem hlt
      generalize hy : l[j] = y at hc hmem htk
      have HM := Lib.hid hmem; clear hmem
      have HT := Lib.hid htk; clear htk
      have HY := Lib.hid hy; clear hy
      by_cases hxy : x = y
      · have hb : (x == y) = true := beq_iff_eq.2 hxy
        have HXY := Lib.hid hxy; clear hxy
        go_wp2
        go_ret
        exact ⟨⟨j, rfl, ⟨fun _ => by rw [HXY.out]; exact HM.out, fun _ => by omega⟩⟩, rfl⟩
      · have hb : (x == y) = false := beq_eq_false_iff_ne.2 hxy
        have HXY := Lib.hid hxy; clear hxy
        go_wp2
        go_round
        case rel => exact ⟨j + 1, by omega, by go_num, by rw [HT.out, List.mem_append, List.mem_singleton]; rintro (h | h); exact HX.out h; exact HXY.out h⟩
        case measure => simp [intOf]; omega
    · go_wp2
      go_ret
      refine ⟨⟨-1, rfl, ⟨fun h => absurd h (by omega), fun h => absurd ?_ HX.out⟩⟩, rfl⟩
      rw [List.take_of_length_le (by omega)]
      exact h

set_option maxRecDepth 100000 in
set_option maxHeartbeats 400000 in
theorem contains_any (A : Option Addr) (n c : Nat) (l : List Int) (x : Int) (K : Nat → Prop) (w : World) (hn : l.length = n) (hn63 : n ≤ 9223372036854775807) (hr : Reads w K 1 A n (l.map I64)) :
    Calls Try.prog 71 #[.slice A n c, .int .i64 x] w fun e w' => e = .returned (.bool (decide (x ∈ l))) ∧ w = w' := by
  go_enter Try.func71, Try.ntmps71
  go_wp2_with fail
  refine (index_any A n c l x K w hn hn63 hr).mono ?_
  rintro e w' ⟨⟨r, rfl, hr0⟩, rfl⟩
  have hd : decide (0 ≤ r) = decide (x ∈ l) := decide_eq_decide.2 hr0
  have HD := Lib.hid hd; clear hd hr0
  go_wp2
  go_ret
  exact ⟨congrArg (fun b => Ending.returned (.bool b)) HD.out, rfl⟩

def cntZ (states : List Int) (zs : List Zn) : Nat := (zs.filter fun z => decide (z.st ∈ states)).length
theorem cnt_snoc (states : List Int) (zs : List Zn) {j : Nat} (h : j < zs.length) : cntZ states (zs.take (j + 1)) = cntZ states (zs.take j) + if zs[j].st ∈ states then 1 else 0 := by
  unfold cntZ
  rw [List.take_succ_eq_append_getElem h, List.filter_append, List.length_append]
  congr 1
  by_cases hm : zs[j].st ∈ states <;> simp [hm]
theorem cnt_le (states : List Int) (zs : List Zn) (j : Nat) : cntZ states (zs.take j) ≤ j := by
  unfold cntZ
  have h1 := List.length_filter_le (fun z : Zn => decide (z.st ∈ states)) (zs.take j)
  have h2 := List.length_take_le j zs
  omega

set_option maxRecDepth 100000 in
set_option maxHeartbeats 1000000 in
theorem count_any (SA SB : Option Addr) (c k cb : Nat) (zs : List Zn) (states : List Int) (K K' : Nat → Prop) (w : World) (hz : IsZs w K SA zs) (hk : states.length = k) (hk63 : k ≤ 9223372036854775807) (hs : Reads w K' 1 SB k (states.map I64)) (hn : zs.length ≤ 9223372036854775807) :
    Calls Try.prog 50 #[.slice SA zs.length c, .slice SB k cb] w fun e w' => e = .returned (.int .i64 (cntZ states zs)) ∧ Below w.heap.size w w' := by
  go_enter Try.func50, Try.ntmps50
  go_wp2
  go_loopw [5, 10] (fun n i wr => ∃ j : Nat, j ≤ zs.length ∧ i = .int .i64 j ∧ n = .int .i64 (cntZ states (zs.take j)) ∧ Below w.heap.size w wr) (fun _ i _ => zs.length - (intOf i).toNat)
  case atStart => exact ⟨0, Nat.zero_le _, rfl, rfl, Below.refl _ _⟩
  case round =>
    obtain ⟨j, hj, rfl, rfl, hb⟩ := hrel
    have hle := cnt_le states zs j
    by_cases hlt : j < zs.length
    · obtain ⟨ad, rfl, _, hel⟩ := (hz.step hb) (by omega)
      obtain ⟨A, ca, c0, c1, c2, hB⟩ := hel j zs[j] (List.getElem?_eq_getElem hlt)
      have hsn := cnt_snoc states zs hlt
      generalize hzz : zs[j] = z at c0 c1 c2 hB hsn
      have HSN := Lib.hid hsn; clear hsn
      have HZ := Lib.hid hzz; clear hzz
      generalize hcc : cntZ states (zs.take j) = C at hle HSN ⊢
      clear hcc
      by_cases hm : z.st ∈ states
      · have hd : Hid (decide (z.st ∈ states) = true) := Lib.hid (decide_eq_true hm)
        have HE : Hid (cntZ states (zs.take (j + 1)) = C + 1) := Lib.hid (by rw [HSN.out, if_pos hm])
        clear hm
        go_wp2_with (go_at_call 71; refine (contains_any SB k cb states z.st K' _ hk hk63 ((hs.step hb).alloc _)).mono ?_; rw [hd.out]; rintro e w1 ⟨rfl, rfl⟩)
        go_roundw
        case rel => exact ⟨j + 1, by omega, by go_num, by rw [HE.out]; go_num, hb.alloc hb.size _⟩
        case measure => simp [intOf]; omega
      · have hd : Hid (decide (z.st ∈ states) = false) := Lib.hid (decide_eq_false hm)
        have HE : Hid (cntZ states (zs.take (j + 1)) = C) := Lib.hid (by rw [HSN.out, if_neg hm]; rfl)
        clear hm
        go_wp2_with (go_at_call 71; refine (contains_any SB k cb states z.st K' _ hk hk63 ((hs.step hb).alloc _)).mono ?_; rw [hd.out]; rintro e w1 ⟨rfl, rfl⟩)
        go_roundw
        case rel => exact ⟨j + 1, by omega, by go_num, by rw [HE.out], hb.alloc hb.size _⟩
        case measure => simp [intOf]; omega
    · obtain rfl : j = zs.length := by omega
      rw [List.take_length]
      go_wp2
      go_ret
      exact ⟨rfl, hb⟩

/-- the states of open and of active zones -/
def openS : List Int := [1, 2]
def activeS : List Int := [1, 2, 3]

set_option maxRecDepth 100000 in
set_option maxHeartbeats 400000 in
theorem opened_any (SA : Option Addr) (c : Nat) (zs : List Zn) (K : Nat → Prop) (w : World) (hz : IsZs w K SA zs) (hn : zs.length ≤ 9223372036854775807) :
    Calls Try.prog 25 #[.slice SA zs.length c] w fun e w' => e = .returned (.int .i64 (cntZ openS zs)) ∧ Below w.heap.size w w' := by
  go_enter Try.func25, Try.ntmps25
  go_wp2_with fail
  refine (count_any SA _ c 2 2 zs openS K (fun _ => True) _ (hz.step ((Below.refl _ _).alloc (Nat.le_refl _) _)) rfl (by omega) ((Reads.new rfl rfl rfl).more (fun _ _ => trivial)) hn).mono ?_
  rintro e w1 ⟨rfl, hb⟩
  go_wp2
  go_ret
  exact ⟨rfl, ((Below.refl _ _).alloc (Nat.le_refl _) _).trans (hb.mono (by simp))⟩

set_option maxRecDepth 100000 in
set_option maxHeartbeats 400000 in
theorem active_any (SA : Option Addr) (c : Nat) (zs : List Zn) (K : Nat → Prop) (w : World) (hz : IsZs w K SA zs) (hn : zs.length ≤ 9223372036854775807) :
    Calls Try.prog 27 #[.slice SA zs.length c] w fun e w' => e = .returned (.int .i64 (cntZ activeS zs)) ∧ Below w.heap.size w w' := by
  go_enter Try.func27, Try.ntmps27
  go_wp2_with fail
  refine (count_any SA _ c 3 3 zs activeS K (fun _ => True) _ (hz.step ((Below.refl _ _).alloc (Nat.le_refl _) _)) rfl (by omega) ((Reads.new rfl rfl rfl).more (fun _ _ => trivial)) hn).mono ?_
  rintro e w1 ⟨rfl, hb⟩
  go_wp2
  go_ret
  exact ⟨rfl, ((Below.refl _ _).alloc (Nat.le_refl _) _).trans (hb.mono (by simp))⟩

set_option maxRecDepth 100000 in
set_option maxHeartbeats 400000 in
theorem isOpen_any (v : Value) (z : Zn) (K : Nat → Prop) (w : World) (hz : IsZ w K v z) :
    Calls Try.prog 51 #[v] w fun e w' => e = .returned (.bool (decide (z.st ∈ openS))) ∧ Below w.heap.size w w' := by
  obtain ⟨A, c, rfl, hsb⟩ := hz
  clear hsb
  unfold zv
  by_cases h1 : z.st = 1
  · have hb : (z.st == 1) = true := beq_iff_eq.2 h1
    have hf : decide (z.st ∈ openS) = true := by simp [openS, h1]
    rw [hf]
    clear h1 hf
    go_enter Try.func51, Try.ntmps51
    go_wp2
    go_ret
    exact ⟨rfl, (Below.refl _ _).alloc (Nat.le_refl _) _⟩
  · have hb : (z.st == 1) = false := beq_eq_false_iff_ne.2 h1
    have hf : decide (z.st ∈ openS) = (z.st == 2) := by
      rw [Bool.eq_iff_iff]; simp [openS] at h1 ⊢; omega
    rw [hf]
    clear h1 hf
    go_enter Try.func51, Try.ntmps51
    go_wp2
    go_ret
    exact ⟨rfl, (Below.refl _ _).alloc (Nat.le_refl _) _⟩

set_option maxRecDepth 100000 in
set_option maxHeartbeats 400000 in
theorem isActive_any (v : Value) (z : Zn) (K : Nat → Prop) (w : World) (hz : IsZ w K v z) :
    Calls Try.prog 52 #[v] w fun e w' => e = .returned (.bool (decide (z.st ∈ activeS))) ∧ Below w.heap.size w w' := by
  have hz0 := hz
  obtain ⟨A, c, rfl, hsb⟩ := hz
  clear hsb
  unfold zv
  have W0 : Below w.heap.size w (w.alloc (.cells #[.int .i64 z.st, .int .i64 z.fe, .slice A z.d.length c] 26)) := (Below.refl _ _).alloc (Nat.le_refl _) _
  have Ba := Blk.new w 26 #[.int .i64 z.st, .int .i64 z.fe, .slice A z.d.length c] rfl
  have hz1 := hz0.alloc (.cells #[.int .i64 z.st, .int .i64 z.fe, .slice A z.d.length c] 26)
  by_cases h1 : z.st ∈ openS
  · have HD : Hid (decide (z.st ∈ openS) = true) := Lib.hid (decide_eq_true h1)
    have hf : decide (z.st ∈ activeS) = true := by simp [openS, activeS] at h1 ⊢; omega
    rw [hf]
    clear h1 hf
    go_enter Try.func52, Try.ntmps52
    go_wp2_with (go_at_call 51; refine (isOpen_any _ z K _ hz1).mono ?_; rw [HD.out]; rintro e w1 ⟨rfl, hb1⟩)
    go_ret
    exact ⟨rfl, W0.trans (hb1.mono W0.size)⟩
  · have HD : Hid (decide (z.st ∈ openS) = false) := Lib.hid (decide_eq_false h1)
    have hf : decide (z.st ∈ activeS) = (z.st == 3) := by
      rw [Bool.eq_iff_iff]; simp [openS, activeS] at h1 ⊢; omega
    rw [hf]
    clear h1 hf
    go_enter Try.func52, Try.ntmps52
    go_wp2_with (go_at_call 51; refine (isOpen_any _ z K _ hz1).mono ?_; rw [HD.out]; rintro e w1 ⟨rfl, hb1⟩; have Ba1 := Ba.step hb1; obtain ⟨q1, f1⟩ := Ba1.rules)
    go_ret
    exact ⟨rfl, W0.trans (hb1.mono W0.size)⟩

set_option maxRecDepth 100000 in
set_option maxHeartbeats 1000000 in
theorem refOpened_any (SA : Option Addr) (c : Nat) (zs : List Zn) (K : Nat → Prop) (w : World) (hz : IsZs w K SA zs) (hn : zs.length ≤ 9223372036854775807) :
    Calls Try.prog 26 #[.slice SA zs.length c] w fun e w' => e = .returned (.int .i64 (cntZ openS zs)) ∧ Below w.heap.size w w' := by
  go_enter Try.func26, Try.ntmps26
  go_wp2
  go_loopw [3, 8] (fun n i wr => ∃ j : Nat, j ≤ zs.length ∧ i = .int .i64 j ∧ n = .int .i64 (cntZ openS (zs.take j)) ∧ Below w.heap.size w wr) (fun _ i _ => zs.length - (intOf i).toNat)
  case atStart => exact ⟨0, Nat.zero_le _, rfl, rfl, Below.refl _ _⟩
  case round =>
    obtain ⟨j, hj, rfl, rfl, hb⟩ := hrel
    have hle := cnt_le openS zs j
    by_cases hlt : j < zs.length
    · obtain ⟨ad, rfl, _, hel⟩ := (hz.step hb) (by omega)
      obtain ⟨A, ca, c0, c1, c2, hB⟩ := hel j zs[j] (List.getElem?_eq_getElem hlt)
      have hsn := cnt_snoc openS zs hlt
      generalize hzz : zs[j] = z at c0 c1 c2 hB hsn
      have HSN := Lib.hid hsn; clear hsn
      clear hzz
      have hzv : IsZ wr K (.agg #[.int .i64 z.st, .int .i64 z.fe, .slice A z.d.length ca]) z := ⟨A, ca, rfl, hB⟩
      generalize hcc : cntZ openS (zs.take j) = C at hle HSN ⊢
      clear hcc
      have hszw := hb.size
      by_cases hm : z.st ∈ openS
      · have HD : Hid (decide (z.st ∈ openS) = true) := Lib.hid (decide_eq_true hm)
        have HE : Hid (cntZ openS (zs.take (j + 1)) = C + 1) := Lib.hid (by rw [HSN.out, if_pos hm])
        clear hm
        go_wp2_with (go_at_call 51; refine (isOpen_any _ z K _ (hzv.alloc _)).mono ?_; rw [HD.out]; rintro e w1 ⟨rfl, hb1⟩)
        go_roundw
        case rel => exact ⟨j + 1, by omega, by go_num, by rw [HE.out]; go_num, (hb.alloc hb.size _).trans (hb1.mono (by simp; omega))⟩
        case measure => simp [intOf]; omega
      · have HD : Hid (decide (z.st ∈ openS) = false) := Lib.hid (decide_eq_false hm)
        have HE : Hid (cntZ openS (zs.take (j + 1)) = C) := Lib.hid (by rw [HSN.out, if_neg hm]; rfl)
        clear hm
        go_wp2_with (go_at_call 51; refine (isOpen_any _ z K _ (hzv.alloc _)).mono ?_; rw [HD.out]; rintro e w1 ⟨rfl, hb1⟩)
        go_roundw
        case rel => exact ⟨j + 1, by omega, by go_num, by rw [HE.out], (hb.alloc hb.size _).trans (hb1.mono (by simp; omega))⟩
        case measure => simp [intOf]; omega
    · obtain rfl : j = zs.length := by omega
      rw [List.take_length]
      go_wp2
      go_ret
      exact ⟨rfl, hb⟩

set_option maxRecDepth 100000 in
set_option maxHeartbeats 1000000 in
theorem refActive_any (SA : Option Addr) (c : Nat) (zs : List Zn) (K : Nat → Prop) (w : World) (hz : IsZs w K SA zs) (hn : zs.length ≤ 9223372036854775807) :
    Calls Try.prog 28 #[.slice SA zs.length c] w fun e w' => e = .returned (.int .i64 (cntZ activeS zs)) ∧ Below w.heap.size w w' := by
  go_enter Try.func28, Try.ntmps28
  go_wp2
  go_loopw [3, 8] (fun n i wr => ∃ j : Nat, j ≤ zs.length ∧ i = .int .i64 j ∧ n = .int .i64 (cntZ activeS (zs.take j)) ∧ Below w.heap.size w wr) (fun _ i _ => zs.length - (intOf i).toNat)
  case atStart => exact ⟨0, Nat.zero_le _, rfl, rfl, Below.refl _ _⟩
  case round =>
    obtain ⟨j, hj, rfl, rfl, hb⟩ := hrel
    have hle := cnt_le activeS zs j
    by_cases hlt : j < zs.length
    · obtain ⟨ad, rfl, _, hel⟩ := (hz.step hb) (by omega)
      obtain ⟨A, ca, c0, c1, c2, hB⟩ := hel j zs[j] (List.getElem?_eq_getElem hlt)
      have hsn := cnt_snoc activeS zs hlt
      generalize hzz : zs[j] = z at c0 c1 c2 hB hsn
      have HSN := Lib.hid hsn; clear hsn
      clear hzz
      have hzv : IsZ wr K (.agg #[.int .i64 z.st, .int .i64 z.fe, .slice A z.d.length ca]) z := ⟨A, ca, rfl, hB⟩
      generalize hcc : cntZ activeS (zs.take j) = C at hle HSN ⊢
      clear hcc
      have hszw := hb.size
      by_cases hm : z.st ∈ activeS
      · have HD : Hid (decide (z.st ∈ activeS) = true) := Lib.hid (decide_eq_true hm)
        have HE : Hid (cntZ activeS (zs.take (j + 1)) = C + 1) := Lib.hid (by rw [HSN.out, if_pos hm])
        clear hm
        go_wp2_with (go_at_call 52; refine (isActive_any _ z K _ (hzv.alloc _)).mono ?_; rw [HD.out]; rintro e w1 ⟨rfl, hb1⟩)
        go_roundw
        case rel => exact ⟨j + 1, by omega, by go_num, by rw [HE.out]; go_num, (hb.alloc hb.size _).trans (hb1.mono (by simp; omega))⟩
        case measure => simp [intOf]; omega
      · have HD : Hid (decide (z.st ∈ activeS) = false) := Lib.hid (decide_eq_false hm)
        have HE : Hid (cntZ activeS (zs.take (j + 1)) = C) := Lib.hid (by rw [HSN.out, if_neg hm]; rfl)
        clear hm
        go_wp2_with (go_at_call 52; refine (isActive_any _ z K _ (hzv.alloc _)).mono ?_; rw [HD.out]; rintro e w1 ⟨rfl, hb1⟩)
        go_roundw
        case rel => exact ⟨j + 1, by omega, by go_num, by rw [HE.out], (hb.alloc hb.size _).trans (hb1.mono (by simp; omega))⟩
        case measure => simp [intOf]; omega
    · obtain rfl : j = zs.length := by omega
      rw [List.take_length]
      go_wp2
      go_ret
      exact ⟨rfl, hb⟩
end Go.Proofs.Ytcjmcfjjbicimaa
