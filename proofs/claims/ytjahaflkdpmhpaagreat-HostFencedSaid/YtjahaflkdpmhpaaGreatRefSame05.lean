/- A part of the proof. -/
import Derived.Test.YtjahaflkdpmhpaaGreatZnsPlain2
set_option linter.unusedSimpArgs false
set_option maxHeartbeats 4000000
set_option maxRecDepth 100000
namespace Go.Proofs.YtjahaflkdpmhpaaGreat
open Go.RowKit
theorem zcheckf_any (z : Zn) (A : Option Addr) (c g : Nat) (cap opn act : Int) (v : Value) (K : Nat → Prop) (w : World) (hz : IsB w K (.slice A z.d.length c) z.d) (hB : Blk w g 28 #[.int .i64 cap, .int .i64 opn, .int .i64 act, v]) :
 Calls Tryz.prog 84 #[.agg #[.int .i64 z.st, .int .i64 z.fe, .slice A z.d.length c], .pointer (some ⟨g, 0, none⟩)] w fun e w' => e = .returned (.bool (decide (¬ okZ z cap))) ∧ Below w.heap.size w w' := by
 have E := (((Kn.start w).know hB).give Stable.bytes hz).push 123 #[.int .i64 z.st, .int .i64 z.fe, .slice A z.d.length c]
 obtain ⟨q0, f0, t0⟩ := E.rules m1
 clear hB hz
 go_enter Tryz.func84, Tryz.ntmps84
 go_wp2_with fail
 refine (zcheck_any _ z cap _ _ ⟨A, c, rfl, E.get m0⟩).mono ?_
 rintro e w2 ⟨rfl, hb2⟩
 replace E := E.step hb2
 by_cases hk : okZ z cap
 · have e1 : chkZ z cap = 0 := if_pos hk
   have e2 : decide (¬ okZ z cap) = false := by simpa using hk
   rw [e1]
   go_wp2
   go_ret
   rw [e2]
   exact ⟨rfl, E.below⟩
 · have e1 : chkZ z cap = 1 := if_neg hk
   have e2 : decide (¬ okZ z cap) = true := by simpa using hk
   rw [e1]
   go_wp2
   go_ret
   rw [e2]
   exact ⟨rfl, E.below⟩
def bad? (cap : Int) (zs : List Zn) : Nat := zs.findIdx (fun z => decide (¬ okZ z cap))
theorem zbad_any (v : Value) (l : List Zn) (K : Nat → Prop) (g : Nat) (cap opn act : Int) (v9 : Value) (w : World) (hv : IsL Rp.zone w K v l) (hB9 : Blk w g 28 #[.int .i64 cap, .int .i64 opn, .int .i64 act, v9]) :
 Calls Tryz.prog 143 #[v, .func (.func 84) #[] #[.pointer (some ⟨g, 0, none⟩)]] w fun e w' =>
  e = .returned (.int .i64 (if bad? cap l < l.length then (bad? cap l : Int) else -1)) ∧ Below w.heap.size w w' := by
 obtain ⟨res, hres⟩ : ∃ res : Int, res = if bad? cap l < l.length then (bad? cap l : Int) else -1 := ⟨_, rfl⟩
 rw [← hres]
 have HRES := Lib.hid hres; clear hres
 have hv0 := hv
 obtain ⟨A, c, rfl, hlc, hcc⟩ := hv.form
 have hlen := hv.len
 go_enter Tryz.func143, Tryz.ntmps143
 go_wp2_with fail
 go_loopw [5, 8] (fun x i wr => ∃ j : Nat, i = .int .i64 j ∧ j ≤ l.length ∧ j ≤ bad? cap l ∧ Below w.heap.size w wr ∧ (∃ y, x = y)) (fun _ i _ => l.length - (intOf i).toNat)
 case atStart => exact ⟨0, rfl, Nat.zero_le _, Nat.zero_le _, Below.refl _ _, _, rfl⟩
 case round =>
  obtain ⟨j, rfl, hj, hjf, hb, y, rfl⟩ := hrel
  have hsz := hb.size
  by_cases hlt : j < l.length
  · have hp : decide (¬ okZ l[j] cap) = true → bad? cap l = j := fun h => (List.findIdx_eq hlt).2 ⟨h, fun k hk => by
     have := List.not_of_lt_findIdx (p := fun z : Zn => decide (¬ okZ z cap)) (xs := l) (i := k) (by unfold bad? at hjf; omega)
     simpa using this⟩
    have hp2 : decide (¬ okZ l[j] cap) = false → j + 1 ≤ bad? cap l := fun h => by
     rcases Nat.lt_or_ge j (bad? cap l) with h1 | h1
     · exact h1
     · have e : bad? cap l = j := by omega
       have := List.findIdx_getElem (p := fun z : Zn => decide (¬ okZ z cap)) (xs := l) (w := by unfold bad? at e; omega)
       unfold bad? at e
       simp only [e] at this
       rw [h] at this; cases this
    obtain ⟨ad, B, cB, rfl, hadb, _, hB, hc0, hc1, hc2⟩ := IsL.zone_at (hv0.step hb) (List.getElem?_eq_getElem hlt)
    generalize l[j] = z at hB hc0 hc1 hc2 hp hp2
    obtain ⟨r, hr⟩ : ∃ r, decide (¬ okZ z cap) = r := ⟨_, rfl⟩
    have HP := Lib.hid hp; have HP2 := Lib.hid hp2
    have HR := Lib.hid hr
    have HZB := Lib.hid hB
    clear hp hp2 hr hB
    have j1 : (j : Int) < (l.length : Int) := by omega
    have j0 : (0 : Int) ≤ (j : Int) := by omega
    cases r with
    | true =>
      go_wp2_with (go_at_call 84; refine (zcheckf_any z B cB g cap opn act v9 _ _ HZB.out (hB9.step hb)).mono ?_; rw [HR.out]; rintro e w2 ⟨rfl, hb2⟩)
      go_ret
      have e := HRES.out
      have ef := HP.out HR.out
      rw [if_pos (by omega), ef] at e
      rw [e]
      exact ⟨rfl, hb.trans (hb2.mono hsz)⟩
    | false =>
      go_wp2_with (go_at_call 84; refine (zcheckf_any z B cB g cap opn act v9 _ _ HZB.out (hB9.step hb)).mono ?_; rw [HR.out]; rintro e w2 ⟨rfl, hb2⟩)
      go_roundw
      case rel => exact ⟨j + 1, by go_num, by omega, HP2.out HR.out, hb.trans (hb2.mono hsz), _, rfl⟩
      case measure => simp [intOf]; omega
  · obtain rfl : j = l.length := by omega
    go_wp2
    go_ret
    have e := HRES.out
    rw [if_neg (by omega)] at e
    rw [e]
    exact ⟨rfl, hb⟩
theorem bad_iff (cap : Int) (l : List Zn) : bad? cap l < l.length ↔ ¬ ∀ z ∈ l, okZ z cap := by
 unfold bad?
 rw [List.findIdx_lt_length]
 simp
theorem zbadf_any (v : Value) (l : List Zn) (K : Nat → Prop) (g : Nat) (cap opn act : Int) (v9 : Value) (w : World) (hv : IsL Rp.zone w K v l) (hB9 : Blk w g 28 #[.int .i64 cap, .int .i64 opn, .int .i64 act, v9]) :
 Calls Tryz.prog 83 #[v, .func (.func 84) #[] #[.pointer (some ⟨g, 0, none⟩)]] w fun e w' =>
  e = .returned (.bool (decide (¬ ∀ z ∈ l, okZ z cap))) ∧ Below w.heap.size w w' := by
 obtain ⟨res, hres⟩ : ∃ res : Bool, res = decide (¬ ∀ z ∈ l, okZ z cap) := ⟨_, rfl⟩
 rw [← hres]
 have HRES := Lib.hid hres; clear hres
 obtain ⟨r, hr⟩ : ∃ r : Int, (if bad? cap l < l.length then (bad? cap l : Int) else -1) = r := ⟨_, rfl⟩
 have HR := Lib.hid hr; clear hr
 go_enter Tryz.func83, Tryz.ntmps83
 go_wp2_with (go_at_call 143; refine (zbad_any v l K g cap opn act v9 _ hv hB9).mono ?_; rw [HR.out]; rintro e w2 ⟨rfl, hb2⟩)
 go_ret
 refine ⟨?_, hb2⟩
 have e := HRES.out
 have h := HR.out
 by_cases hb : bad? cap l < l.length
 · rw [if_pos hb] at h
   rw [decide_eq_true ((bad_iff cap l).1 hb)] at e
   rw [e, ← h]; simp
 · rw [if_neg hb] at h
   rw [decide_eq_false (fun hn => hb ((bad_iff cap l).2 hn))] at e
   rw [e, ← h]; simp
def bdsD (d : Zd) : Prop := 1 ≤ d.z.length ∧ d.z.length ≤ 64 ∧ 1 ≤ d.cap ∧ d.cap ≤ 65536 ∧ 1 ≤ d.opn ∧ d.opn ≤ d.act ∧ d.act ≤ d.z.length
instance (d : Zd) : Decidable (bdsD d) := inferInstanceAs (Decidable (_ ∧ _))
theorem zchk_any (d : Zd) (v : Value) (K : Nat → Prop) (w : World) (hv : IsL Rp.zone w K v d.z) :
 Calls Tryz.prog 39 #[.agg #[.int .i64 d.cap, .int .i64 d.opn, .int .i64 d.act, v]] w fun e w' => e = .returned (.int .i64 (chkD d)) ∧ Below w.heap.size w w' := by
 obtain ⟨A, c, rfl, hlc, hcc⟩ := hv.form
 have hlen := hv.len
 obtain ⟨res, hres⟩ : ∃ res : Int, chkD d = res := ⟨_, rfl⟩
 rw [hres]
 have HRES := Lib.hid hres; clear hres
 have E := ((Kn.start w).give Stable.list hv).push 28 #[.int .i64 d.cap, .int .i64 d.opn, .int .i64 d.act, .slice A d.z.length c]
 go_enter Tryz.func39, Tryz.ntmps39
 go_upto_region 2 with fail
 obtain ⟨r, hr⟩ : ∃ r : Bool, decide (bdsD d) = r := ⟨_, rfl⟩
 have HR := Lib.hid hr; clear hr
 go_cut [4] (fun s4 wx => s4 = .bool r ∧ wx = w.alloc (.cells #[.int .i64 d.cap, .int .i64 d.opn, .int .i64 d.act, .slice A d.z.length c] 28))
 case first =>
  go_wp2
  all_goals go_meet
  all_goals refine ⟨congrArg Value.bool ?_, rfl⟩
  all_goals rw [← HR.out]
  all_goals refine Bool.eq_iff_iff.2 ((?_ : _ ↔ bdsD d).trans decide_eq_true_iff.symm)
  all_goals clear E HRES HR
  all_goals unfold bdsD
  all_goals simp
  all_goals omega
 case rest =>
  obtain ⟨rfl, rfl⟩ := hcut
  generalize hwB : w.alloc (.cells #[.int .i64 d.cap, .int .i64 d.opn, .int .i64 d.act, .slice A d.z.length c] 28) = wB at E ⊢
  clear hwB
  have HK : Hid (∀ W, Below wB.heap.size wB W → ∀ o, W.cell? ⟨w.heap.size, o, none⟩ = (#[.int .i64 d.cap, .int .i64 d.opn, .int .i64 d.act, .slice A d.z.length c] : Array Value)[o]?) := Lib.hid fun W h => ((E.step h).rules m0).1
  have hres := HRES.out
  unfold chkD at hres
  go_upto_region 3 with fail
  by_cases hbd : bdsD d
  · have hrt : r = true := by rw [← HR.out]; exact decide_eq_true hbd
    subst hrt
    by_cases ho : d.opn < (cntZ openS d.z : Int)
    · have hr1 : res = 1 := by rw [← hres, if_neg (fun h : okD d => by have := h.2.1; omega)]
      subst hr1
      clear hres HRES HR hbd
      refine wp_region_held_drew (S := fun W => ∀ o, W.cell? ⟨w.heap.size, o, none⟩ = (#[.int .i64 d.cap, .int .i64 d.opn, .int .i64 d.act, .slice A d.z.length c] : Array Value)[o]?) (by kernel_rfl) (HK.out _ (Below.refl _ _).drew) (fun hHeld => ?_)
      refine wT 0 42 ?_
      refine wT 1 43 ?_
      refine wT 2 44 ?_
      refine wT 3 45 ?_
      refine wT 4 46 ?_
      refine wT 6 48 ?_
      refine wT 7 49 ?_
      refine wpAnyH_ready (rs := [5]) (by kernel_rfl) (by simp) ?_
      refine AllReadyH.cons (o := ⟨some 47, _, _, _, _, _⟩) rfl (fun K hK => ?_) AllReadyH.nil
      go_simp
      refine (opened_any A c d.z _ _ ((IsZs.of (E.get m0)).step (Below.refl _ _).drew) (by omega)).mono ?_
      rintro e w3 ⟨rfl, hb3⟩
      replace hb3 := (Below.refl wB.heap.size wB).drew.trans hb3
      go_wp2_with fail
      refine hK.out _ _ (HK.out _ hb3) (fun hHeld => ?_)
      clear hK K
      try simp only [pu, List.set]
      refine wT 8 50 ?_
      refine wT 9 51 ?_
      refine wT 10 52 ?_
      refine wU 11 53 ?_
      refine wU 12 54 ?_
      refine wU 13 55 ?_
      refine wU 14 56 ?_
      refine wU 15 57 ?_
      refine wU 16 58 ?_
      refine wT 17 59 ?_
      refine wpAnyH_done (by kernel_rfl) ?_ _
      go_wp2
      go_ret
      exact ⟨rfl, (E.step hb3).below⟩
    · have HRB : Hid (res = if (cntZ activeS d.z : Int) ≤ d.act ∧ ∀ z ∈ d.z, okZ z d.cap then 0 else 1) := Lib.hid (by
       rw [← hres]
       by_cases h : okD d
       · rw [if_pos h, if_pos h.2.2]
       · rw [if_neg h, if_neg (fun h2 => h ⟨hbd, by omega, h2⟩)])
      clear hres HRES HR hbd
      have hod : decide (d.opn < (cntZ openS d.z : Int)) = false := decide_eq_false ho
      go_region_held3 (fun W => ∀ o, W.cell? ⟨w.heap.size, o, none⟩ = (#[.int .i64 d.cap, .int .i64 d.opn, .int .i64 d.act, .slice A d.z.length c] : Array Value)[o]?)
       (first | with_reducible exact HK.out _ (Below.refl _ _).drew | with_reducible exact HK.out _ hb4 | with_reducible exact HK.out _ hb3)
       (first
        | (go_at_call 81
           refine (opened_any A c d.z _ _ ((IsZs.of (E.get m0)).step (Below.refl _ _).drew) (by omega)).mono ?_
           rintro e w3 ⟨rfl, hb3⟩
           replace hb3 := (Below.refl wB.heap.size wB).drew.trans hb3)
        | (go_at_call 82
           refine (active_any A c d.z _ _ ((IsZs.of (E.get m0)).step hb3) (by omega)).mono ?_
           rintro e w4 ⟨rfl, hb4⟩
           replace hb4 := hb3.trans (hb4.mono hb3.size)))
      by_cases ha : d.act < (cntZ activeS d.z : Int)
      · have hr1 : res = 1 := by rw [HRB.out, if_neg (fun h => by have := h.1; omega)]
        subst hr1
        go_wp2
        go_ret
        exact ⟨rfl, (E.step hb4).below⟩
      · replace E := E.step hb4
        go_wp2_with fail
        refine (zbadf_any _ d.z K w.heap.size d.cap d.opn d.act _ _ (E.get m0) (E.at_ m0)).mono ?_
        rintro e w5 ⟨rfl, hb5⟩
        replace E := E.step hb5
        by_cases hz : ∀ z ∈ d.z, okZ z d.cap
        · rw [decide_eq_false (fun h => h hz)]
          have hr1 : res = 0 := by rw [HRB.out, if_pos ⟨by omega, hz⟩]
          subst hr1
          clear hz
          go_wp2
          go_ret
          exact ⟨rfl, E.below⟩
        · rw [decide_eq_true hz]
          have hr1 : res = 1 := by rw [HRB.out, if_neg (fun h => hz h.2)]
          subst hr1
          clear hz
          go_wp2
          go_ret
          exact ⟨rfl, E.below⟩
  · have hrf : r = false := by rw [← HR.out]; exact decide_eq_false hbd
    have hr1 : res = 1 := by rw [← hres, if_neg (fun h : okD d => hbd h.1)]
    subst hrf hr1
    clear hres HRES HR hbd
    refine wp_region_held_drew (S := fun W => ∀ o, W.cell? ⟨w.heap.size, o, none⟩ = (#[.int .i64 d.cap, .int .i64 d.opn, .int .i64 d.act, .slice A d.z.length c] : Array Value)[o]?) (by kernel_rfl) (HK.out _ (Below.refl _ _).drew) (fun hHeld => ?_)
    refine wT 0 42 ?_
    refine wT 1 43 ?_
    refine wT 2 44 ?_
    refine wU 3 45 ?_
    refine wU 4 46 ?_
    refine wU 5 47 ?_
    refine wU 6 48 ?_
    refine wU 7 49 ?_
    refine wU 8 50 ?_
    refine wT 9 51 ?_
    refine wT 10 52 ?_
    refine wU 11 53 ?_
    refine wU 12 54 ?_
    refine wU 13 55 ?_
    refine wU 14 56 ?_
    refine wU 15 57 ?_
    refine wU 16 58 ?_
    refine wT 17 59 ?_
    refine wpAnyH_done (by kernel_rfl) ?_ _
    go_wp2
    go_ret
    exact ⟨rfl, E.below.drew⟩
end Go.Proofs.YtjahaflkdpmhpaaGreat
namespace Go.Proofs.YtjahaflkdpmhpaaGreat
open Go.RowKit
end Go.Proofs.YtjahaflkdpmhpaaGreat
namespace Go.Proofs.YtjahaflkdpmhpaaGreat
open Go.RowKit
theorem OwnR.rowlt5 {α : Type} {R : Rp α} {w : World} {base : Nat} {e : TypeId} {X : Nat → Prop} {A : Option Addr} {n c : Nat} {l : List α} (h : OwnR R w base e X (.slice A n c) l) : ∀ g, (Value.slice A n c).ownBlock = some g → base ≤ g ∧ g < w.heap.size := by
 intro g hg
 obtain ⟨rfl, cs, h1, _⟩ := h.open_
 exact h1.lt g hg
theorem copy05_any (d : Zd) (v : Value) (w : World) (hd : IsD w v d) (hn : d.z.length * 40 ≤ 140737488355328) :
 Calls Tryz.prog 18 #[v] w fun e w' => ∃ v', e = .returned v' ∧ DevAt w' (fun b => w.heap.size ≤ b) v' d ∧ Below w.heap.size w w' := by
 obtain ⟨i0, hi, hz0, hz1, hz2⟩ := info_parts Tryz.infZ
 obtain ⟨A, c, rfl, hL⟩ := hd
 have E := ((Kn.start w).give Stable.list hL).push 28 #[.int .i64 d.cap, .int .i64 d.opn, .int .i64 d.act, .slice A d.z.length c] |>.push 28 #[.int .i64 0, .int .i64 0, .int .i64 0, .slice none 0 0]
 rw [World.size_alloc] at E
 have hL0 := hL.zlt
 clear hL
 go_enter Tryz.func18, Tryz.ntmps18
 go_upto_region 2 with fail
 obtain ⟨wA, hwA⟩ : ∃ wA, (w.alloc (.cells #[.int .i64 d.cap, .int .i64 d.opn, .int .i64 d.act, .slice A d.z.length c] 28)).alloc (.cells #[.int .i64 0, .int .i64 0, .int .i64 0, .slice none 0 0] 28) = wA := ⟨_, rfl⟩
 have hsA : w.heap.size + 2 ≤ wA.heap.size := by rw [← hwA]; simp [World.size_alloc]
 rw [hwA] at E ⊢
 clear hwA
 obtain ⟨q0, f0, t0⟩ := E.rules m0
 obtain ⟨q1, f1, t1⟩ := E.rules m1
 go_wp2
 clear q0 f0 t0 q1 f1 t1
 have hB0 := E.at_ m0
 have hB1 := E.at_ m1
 have hbA := E.below
 clear E
 go_loopw [3, 5, 9] (fun o x i wr => ∃ (j : Nat) (A9 : Option Addr) (c9 : Nat), i = .int .i64 j ∧ j ≤ d.z.length ∧ o = .slice A9 j c9 ∧ OwnR Rp.zone wr (w.heap.size + 2) 123 (fun b => w.heap.size + 2 ≤ b) (.slice A9 j c9) (d.z.take j) ∧
  Blk wr (w.heap.size + 1) 28 #[.int .i64 0, .int .i64 0, .int .i64 0, .slice none 0 0] ∧ Blk wr w.heap.size 28 #[.int .i64 d.cap, .int .i64 d.opn, .int .i64 d.act, .slice A d.z.length c] ∧ Below w.heap.size w wr ∧ w.heap.size + 2 ≤ wr.heap.size ∧ (∃ y, x = y)) (fun _ _ i _ => d.z.length - (intOf i).toNat)
 case atStart => exact ⟨0, none, 0, rfl, Nat.zero_le _, rfl, by rw [List.take_zero]; exact OwnR.nil_ _ _ _ _, hB0, hB1, hbA, hsA, _, rfl⟩
 case round =>
  clear hB0 hB1 hbA hsA
  obtain ⟨j, A9, c9, rfl, hj, rfl, hO, hB0, hB1, hbr, hsr, y, rfl⟩ := hrel
  have hLr : IsL Rp.zone wr (fun b => True ∧ b < w.heap.size) (.slice A d.z.length c) d.z := hL0.keep fun p hp _ => hbr.cell hp.2
  have hrow := OwnR.rowlt5 hO
  by_cases hlt : j < d.z.length
  · obtain ⟨z, hz⟩ : ∃ z, d.z[j] = z := ⟨_, rfl⟩
    obtain ⟨ad, B, cB, rfl, hadb, _, hB, hc0, hc1, hc2⟩ := IsL.zone_at hLr (List.getElem?_eq_getElem hlt)
    rw [hz] at hB hc0 hc1 hc2
    have HZ := Lib.hid hz
    clear hz
    have j1 : (j : Int) < (d.z.length : Int) := by omega
    have j0 : (0 : Int) ≤ (j : Int) := by omega
    have hzl := hB.len
    have F := ((((Kn.start wr).give Stable.bytes hB).give Stable.list hLr).give (f := fun W => OwnR Rp.zone W (w.heap.size + 2) 123 (fun b => w.heap.size + 2 ≤ b) (.slice A9 j c9) (d.z.take j)) (fun _ _ h hb => OwnR.step h hb) hO).know hB0 |>.know hB1 |>.push 123 #[.int .i64 z.st, .int .i64 z.fe, .slice B z.d.length cB]
    clear hB hLr hO hB0 hB1
    go_wp2_with fail
    refine (copy_any _ z _ _ ⟨B, cB, rfl, F.get m2⟩).mono ?_
    rintro e w4 ⟨v', rfl, ⟨A7, c7, rfl, own7⟩, hb4⟩
    replace F := F.step hb4
    have hs4 := F.below.size
    rw [World.size_alloc] at own7
    have own7' := (IsB.of_own own7 hzl).lt
    clear own7
    unfold zv
    have hO4 := F.get m0
    obtain ⟨hjj, cs, own5, cl5⟩ := hO4.open_
    have HJ := Lib.hid hjj
    clear hjj
    have hlj : (d.z.take j).length = j := by rw [List.length_take]; omega
    rw [hlj] at own5 cl5
    replace own5 : w4.ownsRow (w.heap.size + 2) 123 3 (.slice A9 j c9) j cs := own5
    have HLJ := Lib.hid hlj
    clear hlj hO4
    have hw4s : wr.heap.size + 1 ≤ w4.heap.size := by have := (F.at_ m0).lt; omega
    go_wp2_with (at_builtin; refine wpList_appN rfl _ _ _ rfl (w.heap.size + 2) 123 i0 _ 3 40 Tryz.underlying26 hi hz0 hz1 hz2 rfl (by omega) rfl (own5.alloc _) rfl (Reads.new (xs := cellsZ z A7 c7) (n := 1) rfl rfl rfl) (by intro u hu; simp [cellsZ] at hu; rcases hu with rfl | rfl | rfl <;> rfl) (by simp only [maxLen]; omega) (by omega) (by simp; omega) ?_; intro A8 c8 w5 own8 hg8)
    go_roundw
    case rel =>
     have hsz5 : (w4.alloc (.cells #[.int .i64 z.st, .int .i64 z.fe, .slice A7 z.d.length c7] 123)).heap.size = w4.heap.size + 1 := World.size_alloc _ _
     have hp := OwnR.push (R := Rp.zone) (X := fun b => w.heap.size + 2 ≤ b) (l := d.z.take j) (a := z) (A := A9) (A' := A8) (c := c9) (c' := c8) (w := w4.alloc (.cells #[.int .i64 z.st, .int .i64 z.fe, .slice A7 z.d.length c7] 123)) (news := cellsZ z A7 c7)
      (by rw [HLJ.out, hsz5]; exact (cl5.alloc _).more fun b hb => ⟨hb.1, by omega, hb.2.2⟩)
      (by
       rw [HLJ.out, hsz5]
       refine isZ_rp ((own7'.alloc _).more fun b hb => ⟨by omega, by omega, fun e => ?_⟩)
       have := hrow _ e.symm
       omega)
      (by rw [HLJ.out]; exact own8) (by rw [HLJ.out]; exact hg8)
     rw [HLJ.out] at hp
     have hg5 : Below w.heap.size w w5 := by
      have h1 := hbr.trans (F.below.mono hbr.size)
      have h2 := h1.alloc h1.size (.cells #[.int .i64 z.st, .int .i64 z.fe, .slice A7 z.d.length c7] 123)
      exact h2.trans (hg8.below.mono (by omega))
     have hg2 := hg8.below.size
     refine ⟨j + 1, A8, c8, by go_num, by omega, rfl, ?_, ((F.at_ m2).alloc _).grew (own5.alloc _) (by decide) hg8, ((F.at_ m1).alloc _).grew (own5.alloc _) (by decide) hg8, hg5, by omega, _, rfl⟩
     rw [List.take_succ_eq_append_getElem hlt, HZ.out]
     exact hp
    case measure => simp [intOf]; omega
  · obtain rfl : j = d.z.length := by omega
    rw [List.take_length] at hO
    have hIL := hO.isL (X' := fun b => w.heap.size + 2 ≤ b) (by omega) (fun _ h => h) (fun _ h => h)
    have E := (((Kn.from_ hbr hbr.size).give Stable.list hIL).know hB0).know hB1
    clear hO hLr hB0 hB1 hrow
    obtain ⟨q0, f0, t0⟩ := E.rules m0
    obtain ⟨q1, f1, t1⟩ := E.rules m1
    go_wp2
    have hA := (((((E.at_ m1).far (p := ⟨w.heap.size, 3, none⟩) (by show w.heap.size + 1 ≠ w.heap.size; omega) (.slice A9 d.z.length c9)).set_ 0 (.int .i64 d.cap)).set_ 1 (.int .i64 d.opn)).set_ 2 (.int .i64 d.act)).set_ 3 (.slice A9 d.z.length c9)
    have ht := ((((((Turned.refl wr (fun b => b = w.heap.size ∨ b = w.heap.size + 1)).set (g := w.heap.size) (.inl rfl) 3 (.slice A9 d.z.length c9)).set (g := w.heap.size + 1) (.inr rfl) 0 (.int .i64 d.cap)).set (g := w.heap.size + 1) (.inr rfl) 1 (.int .i64 d.opn)).set (g := w.heap.size + 1) (.inr rfl) 2 (.int .i64 d.act)).set (g := w.heap.size + 1) (.inr rfl) 3 (.slice A9 d.z.length c9))
    generalize ((((wr.setCell ⟨w.heap.size, 3, none⟩ (.slice A9 d.z.length c9)).setCell ⟨w.heap.size + 1, 0, none⟩ (.int .i64 d.cap)).setCell ⟨w.heap.size + 1, 1, none⟩ (.int .i64 d.opn)).setCell ⟨w.heap.size + 1, 2, none⟩ (.int .i64 d.act)).setCell ⟨w.heap.size + 1, 3, none⟩ (.slice A9 d.z.length c9) = w9 at hA ht ⊢
    obtain ⟨q9, f9⟩ := hA.rules
    have hI9 := hIL.turned ht (fun b hb h => by rcases h with h | h <;> omega)
    refine bodyPost_ret (v := .agg #[.int .i64 d.cap, .int .i64 d.opn, .int .i64 d.act, .slice A9 d.z.length c9]) (by simp [results, Tryz.results18, go_sem, q9]) rfl ⟨_, rfl, ⟨A9, c9, rfl, hI9.more fun _ _ => trivial, fun hp => ?_⟩, ?_⟩
    · obtain ⟨ad, _, _, e, _, hK, _⟩ := IsL.zone_at hI9 (List.getElem?_eq_getElem hp)
      exact ⟨ad, e, by have : w.heap.size + 2 ≤ ad.block := hK; omega⟩
    · exact hbr.trans (ht.below (fun b hb => by rcases hb with h | h <;> omega) hbr.size)
end Go.Proofs.YtjahaflkdpmhpaaGreat
namespace Go.Proofs.YtjahaflkdpmhpaaGreat
open Go.RowKit
theorem u8_beq (x y : UInt8) : ((x.toNat : Int) == (y.toNat : Int)) = decide (x = y) := by
 rw [Bool.eq_iff_iff]
 simp only [beq_iff_eq, decide_eq_true_eq]
 constructor
 · intro h; exact UInt8.toNat_inj.1 (by omega)
 · rintro rfl; rfl
def eqL (a b : List Zn) : Bool := a.length == b.length && (List.range a.length).all (fun i => sameZ (a.getD i z0) (b.getD i z0))
theorem eqL_iff {a b : List Zn} : eqL a b = true ↔ a = b := by
 unfold eqL
 simp only [Bool.and_eq_true, beq_iff_eq, List.all_eq_true, List.mem_range, sameZ_iff]
 constructor
 · rintro ⟨h4, h5⟩
   apply List.ext_getElem h4
   intro i hi hi'
   have := h5 i hi
   rw [List.getD_eq_getElem?_getD, List.getD_eq_getElem?_getD, List.getElem?_eq_getElem hi, List.getElem?_eq_getElem hi'] at this
   exact this
 · rintro rfl; simp
end Go.Proofs.YtjahaflkdpmhpaaGreat
namespace Go.Proofs.YtjahaflkdpmhpaaGreat
open Go.RowKit
theorem refSame05_any (a b : Zd) (va vb : Value) (w : World) (ha : IsD w va a) (hb : IsD w vb b) :
 Calls Tryz.prog 19 #[va, vb] w fun e w' => e = .returned (.bool (sameD a b)) ∧ Below w.heap.size w w' := by
 obtain ⟨A, c, rfl, hL⟩ := ha
 obtain ⟨A2, c2, rfl, hL2⟩ := hb
 obtain ⟨r, hr⟩ : ∃ r, sameD a b = r := ⟨_, rfl⟩
 rw [hr]
 have HR := Lib.hid hr
 clear hr
 obtain ⟨_, _, hlc, hcc, hlen⟩ := hL.open_
 obtain ⟨_, _, hlc2, hcc2, hlen2⟩ := hL2.open_
 have E := (((Kn.start w).give Stable.list hL).give Stable.list hL2).push 28 #[.int .i64 a.cap, .int .i64 a.opn, .int .i64 a.act, .slice A a.z.length c] |>.push 28 #[.int .i64 b.cap, .int .i64 b.opn, .int .i64 b.act, .slice A2 b.z.length c2]
 rw [World.size_alloc] at E
 clear hL hL2
 go_enter Tryz.func19, Tryz.ntmps19
 go_upto_region 1 with fail
 obtain ⟨wA, hwA⟩ : ∃ wA, (w.alloc (.cells #[.int .i64 a.cap, .int .i64 a.opn, .int .i64 a.act, .slice A a.z.length c] 28)).alloc (.cells #[.int .i64 b.cap, .int .i64 b.opn, .int .i64 b.act, .slice A2 b.z.length c2] 28) = wA := ⟨_, rfl⟩
 rw [hwA] at E ⊢
 clear hwA
 obtain ⟨q0, f0, t0⟩ := E.rules m0
 obtain ⟨q1, f1, t1⟩ := E.rules m1
 obtain ⟨x, hx⟩ : ∃ x : Bool, decide (¬ (a.cap = b.cap ∧ a.opn = b.opn ∧ a.act = b.act ∧ a.z.length = b.z.length)) = x := ⟨_, rfl⟩
 have HX := Lib.hid hx
 clear hx
 go_cut [33] (fun s wx => s = .bool x ∧ wx = wA)
 case first =>
  have hb : ((a.cap != b.cap) = true ∧ x = true) ∨ ((a.cap != b.cap) = false ∧ (a.opn != b.opn) = true ∧ x = true) ∨ ((a.cap != b.cap) = false ∧ (a.opn != b.opn) = false ∧ (a.act != b.act) = true ∧ x = true) ∨
   ((a.cap != b.cap) = false ∧ (a.opn != b.opn) = false ∧ (a.act != b.act) = false ∧ ((a.z.length : Int) != (b.z.length : Int)) = x) := by
   have h := HX.out
   clear E HR HX q0 q1 f0 f1 t0 t1
   subst h
   by_cases h1 : a.cap = b.cap
   · by_cases h2 : a.opn = b.opn
     · by_cases h3 : a.act = b.act
       · right; right; right
         refine ⟨by simp [h1], by simp [h2], by simp [h3], ?_⟩
         rw [Bool.eq_iff_iff]
         simp [h1, h2, h3]
         omega
       · exact .inr (.inr (.inl ⟨by simp [h1], by simp [h2], by simp [h3], by simp [h3]⟩))
     · exact .inr (.inl ⟨by simp [h1], by simp [h2], by simp [h2]⟩)
   · exact .inl ⟨by simp [h1], by simp [h1]⟩
  clear HX HR
  rcases hb with ⟨h1, rfl⟩ | ⟨h1, h2, rfl⟩ | ⟨h1, h2, h3, rfl⟩ | ⟨h1, h2, h3, h4⟩
  all_goals go_wp2
  all_goals go_meet
  all_goals exact ⟨rfl, rfl⟩
 case rest =>
  obtain ⟨rfl, rfl⟩ := hcut
  cases x with
  | true =>
    have hrf : r = false := by
     rw [← HR.out]
     refine Bool.eq_false_iff.2 (fun hh => of_decide_eq_true HX.out ?_)
     have := sameD_iff.1 hh
     subst this
     exact ⟨rfl, rfl, rfl, rfl⟩
    subst hrf
    go_wp2
    go_ret
    exact ⟨rfl, E.below⟩
  | false =>
    obtain ⟨h1, h2, h3, hn⟩ := Decidable.not_not.1 (of_decide_eq_false HX.out)
    have hr2 : eqL a.z b.z = r := by
     rw [← HR.out, Bool.eq_iff_iff, sameD_iff, eqL_iff]
     obtain ⟨a1, a2, a3, az⟩ := a
     obtain ⟨b1, b2, b3, bz⟩ := b
     simp only at h1 h2 h3
     subst h1 h2 h3
     simp
    have HR2 := Lib.hid hr2
    clear hr2 h1 h2 h3 HR HX
    have HN := Lib.hid hn
    clear hn
    go_wp2
    clear q0 q1 f0 f1 t0 t1
    go_loopw [5, 37] (fun x i wr => ∃ j : Nat, i = .int .i64 j ∧ j ≤ a.z.length ∧ a.z.take j = b.z.take j ∧ Below wc.heap.size wc wr ∧ (∃ y, x = y)) (fun _ i _ => a.z.length - (intOf i).toNat)
    case atStart => exact ⟨0, rfl, Nat.zero_le _, rfl, Below.refl _ _, _, rfl⟩
    case round =>
     obtain ⟨j, rfl, hj, htk, hbw, y, rfl⟩ := hrel
     have HTK := Lib.hid htk
     clear htk
     replace E := E.step hbw
     by_cases hla : j < a.z.length
     · have hlb : j < b.z.length := by have := HN.out; omega
       obtain ⟨ad, B1, k1, rfl, had1, _, hB1, hc0, hc1, hc2⟩ := IsL.zone_at (E.get m1) (List.getElem?_eq_getElem hla)
       obtain ⟨ad2, B2, k2, rfl, had2, _, hB2, hd0, hd1, hd2⟩ := IsL.zone_at (E.get m0) (List.getElem?_eq_getElem hlb)
       obtain ⟨x, hx⟩ : ∃ x, a.z[j] = x := ⟨_, rfl⟩
       obtain ⟨z, hz⟩ : ∃ z, b.z[j] = z := ⟨_, rfl⟩
       rw [hx] at hB1 hc0 hc1 hc2
       rw [hz] at hB2 hd0 hd1 hd2
       have HX := Lib.hid hx; have HZ := Lib.hid hz
       clear hx hz
       have j1 : (j : Int) < (a.z.length : Int) := by omega
       have j2 : (j : Int) < (b.z.length : Int) := by omega
       have j0 : (0 : Int) ≤ (j : Int) := by omega
       obtain ⟨q, hq⟩ : ∃ q, sameZ x z = q := ⟨_, rfl⟩
       have HQ := Lib.hid hq
       clear hq
       obtain ⟨q0, f0, t0⟩ := E.rules m0
       obtain ⟨q1, f1, t1⟩ := E.rules m1
       go_upto_region 6 with fail
       go_cut [51] from 40 to 52 (fun s wx => s = .bool (!q) ∧ Below wr.heap.size wr wx)
       case first =>
        have HK : Hid (∀ W, Below wr.heap.size wr W → (∀ o, W.cell? ⟨w.heap.size, o, none⟩ = (#[.int .i64 a.cap, .int .i64 a.opn, .int .i64 a.act, .slice (some ad) a.z.length c] : Array Value)[o]?) ∧ (∀ o, W.cell? ⟨w.heap.size + 1, o, none⟩ = (#[.int .i64 b.cap, .int .i64 b.opn, .int .i64 b.act, .slice (some ad2) b.z.length c2] : Array Value)[o]?) ∧ ZoneAt W (ad.add (j * 3)) x B1 k1 ∧ ZoneAt W (ad2.add (j * 3)) z B2 k2) :=
         Lib.hid fun W h => ⟨((E.step h).rules m1).1, ((E.step h).rules m0).1, ZoneAt.step ⟨hc0, hc1, hc2⟩ h, ZoneAt.step ⟨hd0, hd1, hd2⟩ h⟩
        go_region_held3 (fun W => (∀ o, W.cell? ⟨w.heap.size, o, none⟩ = (#[.int .i64 a.cap, .int .i64 a.opn, .int .i64 a.act, .slice (some ad) a.z.length c] : Array Value)[o]?) ∧ (∀ o, W.cell? ⟨w.heap.size + 1, o, none⟩ = (#[.int .i64 b.cap, .int .i64 b.opn, .int .i64 b.act, .slice (some ad2) b.z.length c2] : Array Value)[o]?) ∧ (W.cell? (ad.add (j * 3)) = some (.int .i64 x.st) ∧ W.cell? ⟨(ad.add (j * 3)).block, (ad.add (j * 3)).off + 1, none⟩ = some (.int .i64 x.fe) ∧ W.cell? ⟨(ad.add (j * 3)).block, (ad.add (j * 3)).off + 2, none⟩ = some (.slice B1 x.d.length k1)) ∧ (W.cell? (ad2.add (j * 3)) = some (.int .i64 z.st) ∧ W.cell? ⟨(ad2.add (j * 3)).block, (ad2.add (j * 3)).off + 1, none⟩ = some (.int .i64 z.fe) ∧ W.cell? ⟨(ad2.add (j * 3)).block, (ad2.add (j * 3)).off + 2, none⟩ = some (.slice B2 z.d.length k2)))
         (first | with_reducible exact HK.out _ (Below.refl _ _).drew | with_reducible exact HK.out _ hb2)
         (first
          | (go_at_call 62
             refine (same_any _ _ x z _ _ _ ⟨B1, k1, rfl, hB1.drew⟩ ⟨B2, k2, rfl, hB2.drew⟩).mono ?_
             rw [HQ.out]
             rintro e w2 ⟨rfl, hb2⟩
             replace hb2 := (Below.refl wr.heap.size wr).drew.trans hb2))
        go_wp2_with fail
        go_meet
        exact ⟨rfl, hb2⟩
       case rest =>
        obtain ⟨rfl, hb2⟩ := hcut
        replace E := E.step hb2
        clear q0 q1 f0 f1 t0 t1 hc0 hc1 hc2 hd0 hd1 hd2 hB1 hB2
        cases q with
        | true =>
          have he := sameZ_iff.1 HQ.out
          have HE := Lib.hid he
          clear he
          go_wp2
          go_roundw
          case rel => exact ⟨j + 1, by go_num, by omega, by rw [List.take_succ_eq_append_getElem hla, List.take_succ_eq_append_getElem hlb, HTK.out, HX.out, HZ.out, HE.out], hbw.trans (hb2.mono hbw.size), _, rfl⟩
          case measure => simp [intOf]; omega
        | false =>
          have hne : ¬ eqL a.z b.z = true := by
           intro h
           have h := eqL_iff.1 h
           have hx := HX.out
           have hz := HZ.out
           have h9 : a.z[j] = b.z[j] := by simp only [h]
           have := sameZ_iff.2 (hx.symm.trans (h9.trans hz))
           rw [HQ.out] at this; cases this
          have hrf : r = false := by rw [← HR2.out, Bool.eq_false_iff.2 hne]
          subst hrf
          clear hne HR2
          go_wp2
          go_ret
          exact ⟨rfl, E.below⟩
     · obtain rfl : j = a.z.length := by omega
       have he : a.z = b.z := by
        have h := HTK.out
        have h2 : b.z.take a.z.length = b.z := by rw [HN.out, List.take_length]
        rw [List.take_length, h2] at h
        exact h
       have hrt : r = true := by rw [← HR2.out, eqL_iff.2 he]
       subst hrt
       clear he HR2 HTK
       go_wp2
       go_ret
       exact ⟨rfl, E.below⟩
end Go.Proofs.YtjahaflkdpmhpaaGreat
