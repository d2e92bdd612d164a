/- The walk of zns's desk.room. -/
import Derived.Test.YtcjmcfjjbicimaaDesk
import Derived.Test.YtcjmcfjjbicimaaZoneOps
import Derived.Deep.DrawnRows
namespace Go.Proofs.Ytcjmcfjjbicimaa
open Go.RowKit

theorem implp_any (z : Zn) (A : Option Addr) (c : Nat) (w : World) :
    Calls Try.prog 81 #[.agg #[.int .i64 z.st, .int .i64 z.fe, .slice A z.d.length c]] w fun e w' => e = .returned (.bool (z.st == 1)) ∧ Below w.heap.size w w' := by
  go_enter Try.func81, Try.ntmps81
  go_wp2
  go_ret
  exact ⟨rfl, (Below.refl _ _).alloc (Nat.le_refl _) _⟩

set_option maxRecDepth 100000 in
set_option maxHeartbeats 2000000 in
theorem zindex_any (v : Value) (l : List Zn) (K : Nat → Prop) (w : World) (hv : IsL Rp.zone w K v l) :
    Calls Try.prog 80 #[v, .func (.func 81) #[] #[]] w fun e w' =>
      e = .returned (.int .i64 (if impl? l < l.length then (impl? l : Int) else -1)) ∧ Below w.heap.size w w' := by
  obtain ⟨res, hres⟩ : ∃ res : Int, res = if impl? l < l.length then (impl? l : Int) else -1 := ⟨_, rfl⟩
  rw [← hres]
  have HRES := Lib.hid hres; clear hres
  have hv0 := hv
  obtain ⟨A, c, rfl, hlc, hcc⟩ := hv.form
  have hlen := hv.len
  go_enter Try.func80, Try.ntmps80
  go_wp2_with fail
  go_loopw [5, 8] (fun x i wr => ∃ j : Nat, i = .int .i64 j ∧ j ≤ l.length ∧ j ≤ impl? l ∧ Below w.heap.size w wr ∧ (∃ y, x = y)) (fun _ i _ => l.length - (intOf i).toNat)
  case atStart => exact ⟨0, rfl, Nat.zero_le _, Nat.zero_le _, Below.refl _ _, _, rfl⟩
  case round =>
    obtain ⟨j, rfl, hj, hjf, hb, y, rfl⟩ := hrel
    have hsz := hb.size
    by_cases hlt : j < l.length
    · have hp : (l[j].st == 1) = true → impl? l = j := fun h => (List.findIdx_eq hlt).2 ⟨h, fun k hk => by
        have := List.not_of_lt_findIdx (p := fun z : Zn => z.st == 1) (xs := l) (i := k) (by unfold impl? at hjf; omega)
        simpa using this⟩
      have hp2 : (l[j].st == 1) = false → j + 1 ≤ impl? l := fun h => by
        rcases Nat.lt_or_ge j (impl? l) with h1 | h1
        · exact h1
        · have e : impl? l = j := by omega
          have := List.findIdx_getElem (p := fun z : Zn => z.st == 1) (xs := l) (w := by unfold impl? at e; omega)
          unfold impl? at e
          simp only [e] at this
          rw [h] at this; cases this
      obtain ⟨ad, B, cB, rfl, hadb, _, hB, hc0, hc1, hc2⟩ := IsL.zone_at (hv0.step hb) (List.getElem?_eq_getElem hlt)
      generalize l[j] = z at hB hc0 hc1 hc2 hp hp2
      obtain ⟨r, hr⟩ : ∃ r, (z.st == 1) = r := ⟨_, rfl⟩
      have HP := Lib.hid hp; have HP2 := Lib.hid hp2
      have HR := Lib.hid hr
      clear hp hp2 hr hB
      have j1 : (j : Int) < (l.length : Int) := by omega
      have j0 : (0 : Int) ≤ (j : Int) := by omega
      cases r with
      | true =>
        go_wp2_with (go_at_call 81; refine (implp_any z B cB _).mono ?_; rw [HR.out]; rintro e w2 ⟨rfl, hb2⟩)
        go_ret
        have e := HRES.out
        have ef := HP.out HR.out
        rw [if_pos (by omega), ef] at e
        rw [e]
        exact ⟨rfl, hb.trans (hb2.mono hsz)⟩
      | false =>
        go_wp2_with (go_at_call 81; refine (implp_any z B cB _).mono ?_; rw [HR.out]; rintro e w2 ⟨rfl, hb2⟩)
        go_roundw
        case rel => exact ⟨j + 1, by go_num, by omega, HP2.out HR.out, hb.trans (hb2.mono hsz), _, rfl⟩
        case measure => simp [intOf]; omega
    · obtain rfl : j = l.length := by omega
      go_wp2
      go_ret
      have e := HRES.out
      rw [if_neg (by omega)] at e
      rw [e]
      exact ⟨rfl, hb⟩

theorem Stable.rowZ {g : Nat} {t : TypeId} {K : Nat → Prop} {l : List Zn} : Stable (fun w => RowZ w g t K l) := fun _ _ h hb => h.step hb
/-- one zone, as several -/
theorem zones_one {w : World} {K : Nat → Prop} {g : Nat} {z : Zn} {A : Option Addr} {c : Nat} (hg : w.heap.size = g) (hz : IsB w K (.slice A z.d.length c) z.d) :
    IsZs (w.alloc (.cells #[.int .i64 z.st, .int .i64 z.fe, .slice A z.d.length c] 26)) (fun _ => True) (some ⟨g, 0, none⟩) [z] :=
  IsZs.of (n := 1) (c := 1) ⟨_, 1, cellsZ z A c, rfl, (Reads.new hg rfl rfl).more (fun _ _ => trivial), CellsL.single (isZ_rp ((hz.alloc _).more fun _ _ => trivial)), by simp, by omega, by simp⟩
theorem cnt_one (s : List Int) (z : Zn) : cntZ s [z] = if z.st ∈ s then 1 else 0 := by
  unfold cntZ; by_cases h : z.st ∈ s <;> simp [h]

set_option linter.unusedSimpArgs false in
set_option maxRecDepth 100000 in
set_option maxHeartbeats 8000000 in
theorem room_desk (g gz i : Nat) {X : Nat → Prop} (hX : ∀ b, g < b → X b) (d : Zd) (c : Cm) (dn : Dn) (w : World) (hd : DeskAt X w g gz d c dn) (hi : c.zone = (i : Int)) (hl : i < d.z.length) (hl47 : d.z.length ≤ 140737488355328) :
    Calls Try.prog 76 #[.pointer (some ⟨g, 0, none⟩)] w fun en w' => en = .returned (.int .i64 (roomK d i).1) ∧
      DeskAt X w' g gz (d.with (roomK d i).2) c dn ∧ Turned w w' (fun b => b = gz) := by
  obtain ⟨res, hres⟩ : ∃ res, roomK d i = res := ⟨_, rfl⟩
  rw [hres]
  have hgi : d.z.getD i z0 = d.z[i] := by rw [List.getD_eq_getElem?_getD, List.getElem?_eq_getElem hl]; rfl
  have hz : d.z[i]? = some d.z[i] := List.getElem?_eq_getElem hl
  unfold roomK at hres
  rw [hgi] at hres
  generalize d.z[i] = z at hres hz
  have HRES := Lib.hid hres; have HZ := Lib.hid hz
  clear hres hz hgi
  have E := (Kn.start w).give Stable.desk hd
  clear hd
  go_enter Try.func76, Try.ntmps76
  go_wp2_with fail
  refine (mine_any g gz i d c dn _ (E.get m0) hi hl).mono ?_
  rintro e w1 ⟨rfl, hb1⟩
  replace E := E.step hb1
  obtain ⟨cz, A1, c1, A2, c2, hB, hR, hx1, hx2, hcz, hcz2, hne⟩ := E.get m0
  obtain ⟨Az, ca, hzB, ⟨n0, n1, n2⟩, ⟨f0, f1, f2⟩⟩ := hR.at_ HZ.out
  have hgz := hR.lt
  have hg := hB.lt
  replace E := (((E.give Stable.bytes hzB).know hB).give Stable.rowZ hR).push 26 #[.int .i64 z.st, .int .i64 z.fe, .slice Az z.d.length ca]
  clear hB hR hx1 hx2
  go_wp2_with fail
  have hzs := zones_one (World.size_alloc _ _) (E.get m1)
  replace E := E.push 26 #[.int .i64 z.st, .int .i64 z.fe, .slice Az z.d.length ca]
  refine (opened_any (some ⟨w1.heap.size + 1, 0, none⟩) 1 [z] _ _ hzs (by simp)).mono ?_
  rintro e w2 ⟨rfl, hb2⟩
  replace E := E.step hb2
  rw [cnt_one]
  by_cases ho : z.st ∈ openS
  · rw [if_pos ho]
    have hr : res = (0, d.z) := by rw [← HRES.out, if_pos ho]
    subst hr
    go_wp2
    go_ret
    exact ⟨rfl, E.get m2, Turned.of E.below⟩
  · rw [if_neg ho]
    have hres := HRES.out
    rw [if_neg ho] at hres
    clear HRES ho
    obtain ⟨r, hr⟩ : ∃ r : Bool, decide (¬z.st ∈ activeS ∧ d.act ≤ (cntZ activeS d.z : Int)) = r := ⟨_, rfl⟩
    have HRES := Lib.hid hres; have HR := Lib.hid hr
    clear hres hr
    go_upto_region 4 with fail
    go_cut [16] (fun s16 wx => s16 = .bool r ∧ Below w2.heap.size w2 wx)
    case first =>
      have hw2 : w.heap.size ≤ w2.heap.size := E.below.size
      have hl63 : d.z.length ≤ 9223372036854775807 := by omega
      have hzb := E.get m1
      have hIL : IsZs w2 (fun b => b = gz ∨ (b ≠ g ∧ b ≠ gz ∧ X b)) (some ⟨gz, 0, none⟩) d.z := IsZs.of ((E.get m0).isL hcz hcz2 hl47)
      have HK : Hid (∀ W, Below w2.heap.size w2 W → (∀ o, W.cell? ⟨w1.heap.size, o, none⟩ = (#[.int .i64 z.st, .int .i64 z.fe, .slice Az z.d.length ca] : Array Value)[o]?) ∧ (∀ o, W.cell? ⟨g, o, none⟩ = (deskA d c dn gz cz A1 c1 A2 c2)[o]?)) := Lib.hid fun W h => ⟨((E.step h).rules m1).1, ((E.step h).rules m2).1⟩
      have hbA : Below w2.heap.size w2 (w2.alloc (.cells #[.int .i64 z.st, .int .i64 z.fe, .slice Az z.d.length ca] 26)).drew := ((Below.refl _ _).alloc (Nat.le_refl _) _).drew
      have hzs2 := (zones_one (z := z) (A := Az) (c := ca) rfl hzb)
      by_cases ha : z.st ∈ activeS
      · have hrf : r = false := by rw [← HR.out]; simp [ha]
        subst hrf
        have HA := Lib.hid ha
        clear ha
        refine wp_region_held_drew (S := fun W => (∀ o, W.cell? ⟨w1.heap.size, o, none⟩ = (#[.int .i64 z.st, .int .i64 z.fe, .slice Az z.d.length ca] : Array Value)[o]?) ∧ (∀ o, W.cell? ⟨g, o, none⟩ = (deskA d c dn gz cz A1 c1 A2 c2)[o]?)) (by kernel_rfl) (HK.out _ (Below.refl _ _).drew) (fun hHeld => ?_)
        refine wpAnyH_take (i := 0) (oi := ⟨some 17, _, _, _, _, _⟩) (v := ?_) rfl (by kernel_rfl) (by kernel_rfl) (by kernel_rfl) (fun _ _ _ h => h) (Or.inl ⟨by rfl, ?hy⟩) (by assumption) ?_
        case hy => intro w hSw; (try dsimp only at hSw); go_simp; with_reducible rfl
        try simp only [Act.put, List.setIfInBounds_toArray, List.set_cons_zero, List.set_cons_succ]
        refine wpAnyH_ready (rs := [1]) (by kernel_rfl) (by simp) ?_
        refine AllReadyH.cons (o := ⟨some 18, _, _, _, _, _⟩) rfl (fun K hK => ?_) AllReadyH.nil
        go_simp
        refine hK.out _ _ (HK.out _ hbA) (fun hHeld => ?_)
        clear hK K
        try simp only [Act.put, List.setIfInBounds_toArray, List.set_cons_zero, List.set_cons_succ]
        refine wpAnyH_ready (rs := [2]) (by kernel_rfl) (by simp) ?_
        refine AllReadyH.cons (o := ⟨some 19, _, _, _, _, _⟩) rfl (fun K hK => ?_) AllReadyH.nil
        go_simp
        refine (active_any (some ⟨w2.heap.size, 0, none⟩) 1 [z] _ _ (hzs2.step (Below.refl _ _).drew) (by simp)).mono ?_
        rintro e w3 ⟨rfl, hb3⟩
        replace hb3 := hbA.trans (hb3.mono hbA.size)
        rw [cnt_one, if_pos HA.out]
        go_wp2_with fail
        refine hK.out _ _ (HK.out _ hb3) (fun hHeld => ?_)
        clear hK K
        try simp only [Act.put, List.setIfInBounds_toArray, List.set_cons_zero, List.set_cons_succ]
        refine wpAnyH_take (i := 3) (oi := ⟨some 20, _, _, _, _, _⟩) (v := ?_) rfl (by kernel_rfl) (by kernel_rfl) (by kernel_rfl) (fun _ _ _ h => h) (Or.inl ⟨by rfl, ?hy⟩) (by assumption) ?_
        case hy => intro w hSw; (try dsimp only at hSw); go_simp; with_reducible rfl
        try simp only [Act.put, List.setIfInBounds_toArray, List.set_cons_zero, List.set_cons_succ]
        refine wpAnyH_take (i := 4) (oi := ⟨some 21, _, _, _, _, _⟩) (v := ?_) rfl (by kernel_rfl) (by kernel_rfl) (by kernel_rfl) (fun _ _ _ h => h) (Or.inl ⟨by rfl, ?hy⟩) (by assumption) ?_
        case hy => intro w hSw; (try dsimp only at hSw); go_simp; with_reducible rfl
        try simp only [Act.put, List.setIfInBounds_toArray, List.set_cons_zero, List.set_cons_succ]
        refine wpAnyH_take (i := 5) (oi := ⟨some 22, _, _, _, _, _⟩) (v := undef) rfl (by kernel_rfl) (by kernel_rfl) (by kernel_rfl) (fun _ _ _ h => h) (Or.inr ⟨?hw, rfl⟩) (by assumption) ?_
        case hw => kernel_rfl
        try simp only [Act.put, List.setIfInBounds_toArray, List.set_cons_zero, List.set_cons_succ]
        refine wpAnyH_take (i := 6) (oi := ⟨some 23, _, _, _, _, _⟩) (v := undef) rfl (by kernel_rfl) (by kernel_rfl) (by kernel_rfl) (fun _ _ _ h => h) (Or.inr ⟨?hw, rfl⟩) (by assumption) ?_
        case hw => kernel_rfl
        try simp only [Act.put, List.setIfInBounds_toArray, List.set_cons_zero, List.set_cons_succ]
        refine wpAnyH_take (i := 7) (oi := ⟨some 24, _, _, _, _, _⟩) (v := undef) rfl (by kernel_rfl) (by kernel_rfl) (by kernel_rfl) (fun _ _ _ h => h) (Or.inr ⟨?hw, rfl⟩) (by assumption) ?_
        case hw => kernel_rfl
        try simp only [Act.put, List.setIfInBounds_toArray, List.set_cons_zero, List.set_cons_succ]
        refine wpAnyH_take (i := 8) (oi := ⟨some 25, _, _, _, _, _⟩) (v := undef) rfl (by kernel_rfl) (by kernel_rfl) (by kernel_rfl) (fun _ _ _ h => h) (Or.inr ⟨?hw, rfl⟩) (by assumption) ?_
        case hw => kernel_rfl
        try simp only [Act.put, List.setIfInBounds_toArray, List.set_cons_zero, List.set_cons_succ]
        refine wpAnyH_take (i := 9) (oi := ⟨some 26, _, _, _, _, _⟩) (v := undef) rfl (by kernel_rfl) (by kernel_rfl) (by kernel_rfl) (fun _ _ _ h => h) (Or.inr ⟨?hw, rfl⟩) (by assumption) ?_
        case hw => kernel_rfl
        try simp only [Act.put, List.setIfInBounds_toArray, List.set_cons_zero, List.set_cons_succ]
        refine wpAnyH_take (i := 10) (oi := ⟨some 27, _, _, _, _, _⟩) (v := undef) rfl (by kernel_rfl) (by kernel_rfl) (by kernel_rfl) (fun _ _ _ h => h) (Or.inr ⟨?hw, rfl⟩) (by assumption) ?_
        case hw => kernel_rfl
        try simp only [Act.put, List.setIfInBounds_toArray, List.set_cons_zero, List.set_cons_succ]
        refine wpAnyH_take (i := 11) (oi := ⟨some 28, _, _, _, _, _⟩) (v := undef) rfl (by kernel_rfl) (by kernel_rfl) (by kernel_rfl) (fun _ _ _ h => h) (Or.inr ⟨?hw, rfl⟩) (by assumption) ?_
        case hw => kernel_rfl
        try simp only [Act.put, List.setIfInBounds_toArray, List.set_cons_zero, List.set_cons_succ]
        refine wpAnyH_take (i := 12) (oi := ⟨some 29, _, _, _, _, _⟩) (v := undef) rfl (by kernel_rfl) (by kernel_rfl) (by kernel_rfl) (fun _ _ _ h => h) (Or.inr ⟨?hw, rfl⟩) (by assumption) ?_
        case hw => kernel_rfl
        try simp only [Act.put, List.setIfInBounds_toArray, List.set_cons_zero, List.set_cons_succ]
        refine wpAnyH_take (i := 13) (oi := ⟨some 30, _, _, _, _, _⟩) (v := undef) rfl (by kernel_rfl) (by kernel_rfl) (by kernel_rfl) (fun _ _ _ h => h) (Or.inr ⟨?hw, rfl⟩) (by assumption) ?_
        case hw => kernel_rfl
        try simp only [Act.put, List.setIfInBounds_toArray, List.set_cons_zero, List.set_cons_succ]
        refine wpAnyH_take (i := 14) (oi := ⟨some 31, _, _, _, _, _⟩) (v := undef) rfl (by kernel_rfl) (by kernel_rfl) (by kernel_rfl) (fun _ _ _ h => h) (Or.inr ⟨?hw, rfl⟩) (by assumption) ?_
        case hw => kernel_rfl
        try simp only [Act.put, List.setIfInBounds_toArray, List.set_cons_zero, List.set_cons_succ]
        refine wpAnyH_take (i := 15) (oi := ⟨some 32, _, _, _, _, _⟩) (v := undef) rfl (by kernel_rfl) (by kernel_rfl) (by kernel_rfl) (fun _ _ _ h => h) (Or.inr ⟨?hw, rfl⟩) (by assumption) ?_
        case hw => kernel_rfl
        try simp only [Act.put, List.setIfInBounds_toArray, List.set_cons_zero, List.set_cons_succ]
        refine wpAnyH_take (i := 16) (oi := ⟨some 33, _, _, _, _, _⟩) (v := undef) rfl (by kernel_rfl) (by kernel_rfl) (by kernel_rfl) (fun _ _ _ h => h) (Or.inr ⟨?hw, rfl⟩) (by assumption) ?_
        case hw => kernel_rfl
        try simp only [Act.put, List.setIfInBounds_toArray, List.set_cons_zero, List.set_cons_succ]
        refine wpAnyH_take (i := 17) (oi := ⟨some 34, _, _, _, _, _⟩) (v := ?_) rfl (by kernel_rfl) (by kernel_rfl) (by kernel_rfl) (fun _ _ _ h => h) (Or.inl ⟨by rfl, ?hy⟩) (by assumption) ?_
        case hy => intro w hSw; (try dsimp only at hSw); go_simp; with_reducible rfl
        try simp only [Act.put, List.setIfInBounds_toArray, List.set_cons_zero, List.set_cons_succ]
        refine wpAnyH_take (i := 18) (oi := ⟨some 16, _, _, _, _, _⟩) (v := ?_) rfl (by kernel_rfl) (by kernel_rfl) (by kernel_rfl) (fun _ _ _ h => h) (Or.inl ⟨by rfl, ?hy⟩) (by assumption) ?_
        case hy => intro w hSw; (try dsimp only at hSw); go_simp; with_reducible rfl
        try simp only [Act.put, List.setIfInBounds_toArray, List.set_cons_zero, List.set_cons_succ]
        refine wpAnyH_done (by kernel_rfl) ?_ _
        go_wp2_with fail
        go_meet
        exact ⟨rfl, hb3⟩
      · have hrv : r = decide (d.act ≤ (cntZ activeS d.z : Int)) := by rw [← HR.out]; simp [ha]
        have HA := Lib.hid ha; have HRV := Lib.hid hrv
        clear ha hrv
        go_region_held3 (fun W => (∀ o, W.cell? ⟨w1.heap.size, o, none⟩ = (#[.int .i64 z.st, .int .i64 z.fe, .slice Az z.d.length ca] : Array Value)[o]?) ∧ (∀ o, W.cell? ⟨g, o, none⟩ = (deskA d c dn gz cz A1 c1 A2 c2)[o]?))
          (first | with_reducible exact HK.out _ hbA | with_reducible exact HK.out _ (Below.refl _ _).drew | with_reducible exact HK.out _ hb4 | with_reducible exact HK.out _ hb3)
          (first
            | (go_at_call 27
               refine (active_any (some ⟨w2.heap.size, 0, none⟩) 1 [z] _ _ (hzs2.step (Below.refl _ _).drew) (by simp)).mono ?_
               rintro e w3 ⟨rfl, hb3⟩
               replace hb3 := hbA.trans (hb3.mono hbA.size)
               rw [cnt_one, if_neg HA.out])
            | (go_at_call 27
               refine (active_any (some ⟨gz, 0, none⟩) cz d.z _ _ (hIL.step hb3) hl63).mono ?_
               rintro e w4 ⟨rfl, hb4⟩
               replace hb4 := hb3.trans (hb4.mono hb3.size)))
        go_wp2_with fail
        go_meet
        exact ⟨by rw [HRV.out], hb4⟩
    case rest =>
      obtain ⟨rfl, hbc⟩ := hcut
      replace E := E.step hbc
      clear hbc hb2 hb1 hzs n0 n1 n2 f0 f1 f2 hzB
      cases r with
      | true =>
        have hr : res = (44, d.z) := by rw [← HRES.out, if_pos (by simpa using HR.out)]
        subst hr
        go_wp2
        go_ret
        exact ⟨rfl, E.get m2, Turned.of E.below⟩
      | false =>
        have hres := HRES.out
        rw [if_neg (by simpa using HR.out)] at hres
        clear HRES HR
        have HRES := Lib.hid hres
        clear hres
        go_upto_region 6 with fail
        have hl63 : d.z.length ≤ 9223372036854775807 := by omega
        have hIL := IsZs.of ((E.get m0).isL hcz hcz2 hl47)
        have HK : Hid (∀ W, Below wc.heap.size wc W → ∀ o, W.cell? ⟨g, o, none⟩ = (deskA d c dn gz cz A1 c1 A2 c2)[o]?) := Lib.hid fun W h => ((E.step h).rules m2).1
        by_cases hc : (cntZ openS d.z : Int) < d.opn
        · have hr : res = (0, d.z) := by rw [← HRES.out, if_pos hc]
          subst hr
          go_region_held3 (fun W => (∀ o, W.cell? ⟨g, o, none⟩ = (deskA d c dn gz cz A1 c1 A2 c2)[o]?))
            (first | with_reducible exact HK.out _ (Below.refl _ _).drew | with_reducible exact HK.out _ hb3)
            (first
              | (go_at_call 25
                 refine (opened_any (some ⟨gz, 0, none⟩) cz d.z _ _ (hIL.step (Below.refl _ _).drew) hl63).mono ?_
                 rintro e w3 ⟨rfl, hb3⟩
                 replace hb3 := (Below.refl wc.heap.size wc).drew.trans hb3))
          replace E := E.step hb3
          go_wp2
          go_ret
          exact ⟨rfl, E.get m2, Turned.of E.below⟩
        · have hres := HRES.out
          rw [if_neg hc] at hres
          clear HRES
          have HRES := Lib.hid hres
          clear hres
          go_region_held3 (fun W => (∀ o, W.cell? ⟨g, o, none⟩ = (deskA d c dn gz cz A1 c1 A2 c2)[o]?))
            (first | with_reducible exact HK.out _ (Below.refl _ _).drew | with_reducible exact HK.out _ hb3)
            (first
              | (go_at_call 25
                 refine (opened_any (some ⟨gz, 0, none⟩) cz d.z _ _ (hIL.step (Below.refl _ _).drew) hl63).mono ?_
                 rintro e w3 ⟨rfl, hb3⟩
                 replace hb3 := (Below.refl wc.heap.size wc).drew.trans hb3))
          replace E := E.step hb3
          go_wp2_with fail
          refine (zindex_any _ d.z _ _ ((E.get m0).isL hcz hcz2 hl47)).mono ?_
          rintro e w4 ⟨rfl, hb4⟩
          replace E := E.step hb4
          by_cases hj : impl? d.z < d.z.length
          · rw [if_pos hj]
            obtain ⟨j, y, hji, hj, hzj, hst, hres⟩ : ∃ (j : Nat) (y : Zn), impl? d.z = j ∧ j < d.z.length ∧ d.z[j]? = some y ∧ y.st = 1 ∧ (0, d.z.set j (closeZ y).1) = res := by
              refine ⟨impl? d.z, d.z[impl? d.z], rfl, hj, List.getElem?_eq_getElem hj, ?_, ?_⟩
              · have := List.findIdx_getElem (p := fun z : Zn => z.st == 1) (xs := d.z) (w := hj)
                unfold impl?
                simpa using this
              · have hgj : d.z.getD (impl? d.z) z0 = d.z[impl? d.z] := by rw [List.getD_eq_getElem?_getD, List.getElem?_eq_getElem hj]; rfl
                rw [← HRES.out, if_pos hj, hgj]
            rw [hji]
            clear hji
            have he0 : (closeZ y).2 = 0 := by unfold closeZ; rw [hst]; rfl
            have hyd : (closeZ y).1.d = y.d := by unfold closeZ; rw [hst]; rfl
            clear hst HRES
            have HRES := Lib.hid hres; have HE0 := Lib.hid he0; have HZJ := Lib.hid hzj
            clear hres he0 hzj
            have j0 : (0 : Int) ≤ (j : Int) := by omega
            have j1 : (j : Int) < (d.z.length : Int) := by omega
            have jn : ((j : Int) < 0) = False := by simp
            obtain ⟨Aj, cj, hjB, ⟨n0, n1, n2⟩, ⟨f0, f1, f2⟩⟩ := (E.get m0).at_ HZJ.out
            obtain ⟨ad, had⟩ : ∃ ad : Addr, ad = ⟨gz, 0, none⟩ := ⟨_, rfl⟩
            have hadd : ∀ o, ad.add o = ⟨gz, o, none⟩ := fun o => by rw [had]; exact addG gz o
            obtain ⟨q1, fz1, t1⟩ := E.rules m2
            unfold deskA at q1
            rw [← had] at q1
            have HAD := Lib.hid had; clear had
            go_wp2_with fail
            refine (close_any _ y _ _ ⟨Aj, cj, rfl, hjB⟩).mono ?_
            rw [HE0.out]
            have hyl : (closeZ y).1.d.length ≤ 140737488355328 := by rw [hyd]; exact hjB.len
            clear hyd
            generalize (closeZ y).1 = y' at HRES hyl ⊢
            rintro e w5 ⟨v', rfl, ⟨A9, c9, rfl, how⟩, hb5⟩
            unfold zv
            have t2 := (E.get m0).lt
            have hyB := (IsB.of_own how hyl).more (K' := fun b => b ≠ g ∧ b ≠ gz ∧ X b) (fun b hb => ⟨by omega, by omega, hX _ (by omega)⟩)
            replace E := ((E.step hb5).give Stable.bytes hyB).push 26 #[.int .i64 y'.st, .int .i64 y'.fe, .slice A9 y'.d.length c9]
            have t5 := hb5.size
            clear q1 fz1 n0 n1 n2 f0 f1 f2 how hyB hjB
            go_upto_region 12 with fail
            generalize hwA : w5.alloc (.cells #[.int .i64 y'.st, .int .i64 y'.fe, .slice A9 y'.d.length c9] 26) = wA at E ⊢
            have HW := Lib.hid hwA
            clear hwA
            have hblk : Blk wA g 85 (#[.int .i64 d.cap, .int .i64 d.opn, .int .i64 d.act, .slice (some ad) d.z.length cz, .int .i64 c.op, .int .i64 c.zone, .int .i64 c.epoch, .int .i64 c.off, .int .i64 c.n, .slice A1 c.data.length c1, .int .i64 dn.e, .int .i64 dn.at_, .slice A2 dn.data.length c2] : Array Value) := by rw [HAD.out]; exact E.at_ m3
            have HQ : Hid (∀ W, Below wA.heap.size wA W → (∀ o, W.cell? ⟨w5.heap.size, o, none⟩ = (#[.int .i64 y'.st, .int .i64 y'.fe, .slice A9 y'.d.length c9] : Array Value)[o]?) ∧ (∀ o, W.cell? ⟨g, o, none⟩ = (#[.int .i64 d.cap, .int .i64 d.opn, .int .i64 d.act, .slice (some ad) d.z.length cz, .int .i64 c.op, .int .i64 c.zone, .int .i64 c.epoch, .int .i64 c.off, .int .i64 c.n, .slice A1 c.data.length c1, .int .i64 dn.e, .int .i64 dn.at_, .slice A2 dn.data.length c2] : Array Value)[o]?)) := Lib.hid fun W h => ⟨((E.step h).rules m0).1, (hblk.step h).cell⟩
            have hb0 : Below wA.heap.size wA wA.drew := (Below.refl _ _).drew
            have hbx : w5.heap.size < wA.heap.size := (E.at_ m0).lt
            have HS : Hid (∀ W, Below wA.heap.size wA W → ∀ u0 u1 u2 : Value, (∀ o, (((W.setCell ⟨gz, j * 3, none⟩ u0).setCell ⟨gz, j * 3 + 1, none⟩ u1).setCell ⟨gz, j * 3 + 2, none⟩ u2).drew.cell? ⟨w5.heap.size, o, none⟩ = (#[.int .i64 y'.st, .int .i64 y'.fe, .slice A9 y'.d.length c9] : Array Value)[o]?) ∧ (∀ o, (((W.setCell ⟨gz, j * 3, none⟩ u0).setCell ⟨gz, j * 3 + 1, none⟩ u1).setCell ⟨gz, j * 3 + 2, none⟩ u2).drew.cell? ⟨g, o, none⟩ = (#[.int .i64 d.cap, .int .i64 d.opn, .int .i64 d.act, .slice (some ad) d.z.length cz, .int .i64 c.op, .int .i64 c.zone, .int .i64 c.epoch, .int .i64 c.off, .int .i64 c.n, .slice A1 c.data.length c1, .int .i64 dn.e, .int .i64 dn.at_, .slice A2 dn.data.length c2] : Array Value)[o]?)) :=
              Lib.hid fun W h u0 u1 u2 => ⟨(((((E.step h).at_ m0).far (p := ⟨gz, j * 3, none⟩) (by show w5.heap.size ≠ gz; omega) u0).far (p := ⟨gz, j * 3 + 1, none⟩) (by show w5.heap.size ≠ gz; omega) u1).far (p := ⟨gz, j * 3 + 2, none⟩) (by show w5.heap.size ≠ gz; omega) u2).drew.cell,
                ((((hblk.step h).far (p := ⟨gz, j * 3, none⟩) hne u0).far (p := ⟨gz, j * 3 + 1, none⟩) hne u1).far (p := ⟨gz, j * 3 + 2, none⟩) hne u2).drew.cell⟩
            obtain ⟨Ak, ck, _, ⟨n0, n1, n2⟩, ⟨f0, f1, f2⟩⟩ := (E.get m1).at_ HZJ.out
            go_region_held3 (fun W => (∀ o, W.cell? ⟨w5.heap.size, o, none⟩ = (#[.int .i64 y'.st, .int .i64 y'.fe, .slice A9 y'.d.length c9] : Array Value)[o]?) ∧ (∀ o, W.cell? ⟨g, o, none⟩ = (#[.int .i64 d.cap, .int .i64 d.opn, .int .i64 d.act, .slice (some ad) d.z.length cz, .int .i64 c.op, .int .i64 c.zone, .int .i64 c.epoch, .int .i64 c.off, .int .i64 c.n, .slice A1 c.data.length c1, .int .i64 dn.e, .int .i64 dn.at_, .slice A2 dn.data.length c2] : Array Value)[o]?))
              (first | with_reducible exact HS.out _ (Below.refl _ _) _ _ _ | with_reducible exact HQ.out _ hb0)
              (fail)
            go_wp2
            go_ret
            have hr := HRES.out
            subst hr
            refine ⟨rfl, ?_, ?_⟩
            · exact (DeskAt.put (E.get m3) hj (E.get m0)).step (Below.refl _ _).drew
            · exact (turn_setZ (S := fun b => b = gz) (Turned.of E.below) rfl _ _ _ _).drew
          · rw [if_neg hj]
            have hr : res = (43, d.z) := by rw [← HRES.out, if_neg hj]
            subst hr
            go_wp2
            go_ret
            exact ⟨rfl, E.get m2, Turned.of E.below⟩
end Go.Proofs.Ytcjmcfjjbicimaa
