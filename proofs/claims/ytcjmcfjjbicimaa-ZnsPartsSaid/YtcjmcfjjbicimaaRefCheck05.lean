/- The walk of quicksetref05.Check. -/
import Derived.Test.YtcjmcfjjbicimaaZnsCheck
import Derived.Test.YtcjmcfjjbicimaaZoneRef
namespace Go.Proofs.Ytcjmcfjjbicimaa
open Go.RowKit

set_option linter.unusedSimpArgs false in
set_option maxRecDepth 100000 in
set_option maxHeartbeats 4000000 in
theorem refChk05_any (d : Zd) (v : Value) (K : Nat → Prop) (w : World) (hv : IsL Rp.zone w K v d.z) :
    Calls Try.prog 39 #[.agg #[.int .i64 d.cap, .int .i64 d.opn, .int .i64 d.act, v]] w fun e w' => e = .returned (.int .i64 (chkD d)) ∧ Below w.heap.size w w' := by
  obtain ⟨A, c, rfl, hlc, hcc⟩ := hv.form
  have hlen := hv.len
  obtain ⟨res, hres⟩ : ∃ res : Int, chkD d = res := ⟨_, rfl⟩
  rw [hres]
  have HRES := Lib.hid hres; clear hres
  have E := ((Kn.start w).give Stable.list hv).push 53 #[.int .i64 d.cap, .int .i64 d.opn, .int .i64 d.act, .slice A d.z.length c]
  go_enter Try.func39, Try.ntmps39
  go_upto_region 2 with fail
  obtain ⟨r, hr⟩ : ∃ r : Bool, decide (¬ bdsD d) = r := ⟨_, rfl⟩
  have HR := Lib.hid hr; clear hr
  go_cut [42] (fun s4 wx => s4 = .bool r ∧ wx = w.alloc (.cells #[.int .i64 d.cap, .int .i64 d.opn, .int .i64 d.act, .slice A d.z.length c] 53))
  case first =>
    go_wp2
    all_goals go_meet
    all_goals refine ⟨congrArg Value.bool ?_, rfl⟩
    all_goals rw [← HR.out]
    all_goals refine Bool.eq_iff_iff.2 ((?_ : _ ↔ ¬ bdsD d).trans decide_eq_true_iff.symm)
    all_goals clear E HRES HR
    all_goals unfold bdsD
    all_goals simp
    all_goals omega
  case rest =>
    obtain ⟨rfl, rfl⟩ := hcut
    generalize hwB : w.alloc (.cells #[.int .i64 d.cap, .int .i64 d.opn, .int .i64 d.act, .slice A d.z.length c] 53) = wB at E ⊢
    clear hwB
    have hres := HRES.out
    unfold chkD at hres
    by_cases hbd : bdsD d
    · have hrt : r = false := by rw [← HR.out]; exact decide_eq_false (fun h => h hbd)
      subst hrt
      have HBD := Lib.hid hbd
      clear hbd hres HR
      obtain ⟨q0, f0, t0⟩ := E.rules m0
      go_wp2
      clear q0 f0 t0
      go_loopw [5, 46] (fun x i wr => ∃ j : Nat, i = .int .i64 j ∧ j ≤ d.z.length ∧ (∀ z ∈ d.z.take j, okZ z d.cap) ∧ Below wB.heap.size wB wr ∧ (∃ y, x = y)) (fun _ i _ => d.z.length - (intOf i).toNat)
      case atStart => exact ⟨0, rfl, Nat.zero_le _, by simp, Below.refl _ _, _, rfl⟩
      case round =>
        obtain ⟨j, rfl, hj, hok, hb, y, rfl⟩ := hrel
        replace E := E.step hb
        have HOK := Lib.hid hok
        clear hok
        by_cases hlt : j < d.z.length
        · obtain ⟨z, hz⟩ : ∃ z, d.z[j] = z := ⟨_, rfl⟩
          obtain ⟨ad, B, cB, rfl, hadb, _, hB, hc0, hc1, hc2⟩ := IsL.zone_at (E.get m0) (List.getElem?_eq_getElem hlt)
          rw [hz] at hB hc0 hc1 hc2
          have HZ := Lib.hid hz
          clear hz
          obtain ⟨q0, f0, t0⟩ := E.rules m0
          have j1 : (j : Int) < (d.z.length : Int) := by omega
          have j0 : (0 : Int) ≤ (j : Int) := by omega
          go_upto_region 7 with fail
          have E2 := (E.give Stable.bytes hB).push 26 #[.int .i64 z.st, .int .i64 z.fe, .slice B z.d.length cB]
          go_wp2_with fail
          refine (refCheck_any _ z d.cap _ _ ⟨B, cB, rfl, E2.get m0⟩).mono ?_
          rintro e w2 ⟨rfl, hb2⟩
          replace E2 := E2.step hb2
          clear hc0 hc1 hc2 hB
          by_cases hk : okZ z d.cap
          · have e1 : chkZ z d.cap = 0 := if_pos hk
            rw [e1]
            have HK2 := Lib.hid hk
            clear hk e1
            go_wp2
            go_roundw
            case rel =>
              refine ⟨j + 1, by go_num, by omega, ?_, hb.trans (((Below.refl wr.heap.size wr).alloc (Nat.le_refl _) (.cells #[.int .i64 z.st, .int .i64 z.fe, .slice B z.d.length cB] 26)).trans (hb2.mono (by rw [World.size_alloc]; omega)) |>.mono hb.size), _, rfl⟩
              rw [List.take_succ_eq_append_getElem hlt]
              intro u hu
              rcases List.mem_append.1 hu with h | h
              · exact HOK.out u h
              · rw [List.mem_singleton.1 h, HZ.out]; exact HK2.out
            case measure => simp [intOf]; omega
          · have e1 : chkZ z d.cap = 1 := if_neg hk
            rw [e1]
            have hr1 : res = 1 := by
              rw [← HRES.out]
              refine if_neg (fun h : okD d => hk ?_)
              rw [← HZ.out]
              exact h.2.2.2 _ (List.getElem_mem hlt)
            subst hr1
            clear hk e1 HRES
            go_wp2
            go_ret
            exact ⟨rfl, E2.below⟩
        · obtain rfl : j = d.z.length := by omega
          have hall : ∀ z ∈ d.z, okZ z d.cap := by have := HOK.out; rw [List.take_length] at this; exact this
          have HALL := Lib.hid hall
          clear hall HOK hb
          go_upto_region 10 with fail
          have HK : Hid (∀ W, Below wr.heap.size wr W → ∀ o, W.cell? ⟨w.heap.size, o, none⟩ = (#[.int .i64 d.cap, .int .i64 d.opn, .int .i64 d.act, .slice A d.z.length c] : Array Value)[o]?) := Lib.hid fun W h => ((E.step h).rules m0).1
          have hres := HRES.out
          unfold chkD at hres
          clear HRES
          by_cases ho : d.opn < (cntZ openS d.z : Int)
          · have hr1 : res = 1 := by rw [← hres, if_neg (fun h : okD d => by have := h.2.1; omega)]
            subst hr1
            clear hres
            have hod : decide (d.opn < (cntZ openS d.z : Int)) = true := decide_eq_true ho
            refine wp_region_held_drew (S := fun W => ∀ o, W.cell? ⟨w.heap.size, o, none⟩ = (#[.int .i64 d.cap, .int .i64 d.opn, .int .i64 d.act, .slice A d.z.length c] : Array Value)[o]?) (by kernel_rfl) (HK.out _ (Below.refl _ _).drew) (fun hHeld => ?_)
            refine wpAnyH_take (i := 0) (oi := ⟨some 56, _, _, _, _, _⟩) (v := ?_) rfl (by kernel_rfl) (by kernel_rfl) (by kernel_rfl) (fun _ _ _ h => h) (Or.inl ⟨by rfl, ?hy⟩) (by assumption) ?_
            case hy => intro w hSw; (try dsimp only at hSw); go_simp; with_reducible rfl
            try simp only [Act.put, List.setIfInBounds_toArray, List.set_cons_zero, List.set_cons_succ]
            refine wpAnyH_take (i := 1) (oi := ⟨some 57, _, _, _, _, _⟩) (v := ?_) rfl (by kernel_rfl) (by kernel_rfl) (by kernel_rfl) (fun _ _ _ h => h) (Or.inl ⟨by rfl, ?hy⟩) (by assumption) ?_
            case hy => intro w hSw; (try dsimp only at hSw); go_simp; with_reducible rfl
            try simp only [Act.put, List.setIfInBounds_toArray, List.set_cons_zero, List.set_cons_succ]
            refine wpAnyH_take (i := 3) (oi := ⟨some 59, _, _, _, _, _⟩) (v := ?_) rfl (by kernel_rfl) (by kernel_rfl) (by kernel_rfl) (fun _ _ _ h => h) (Or.inl ⟨by rfl, ?hy⟩) (by assumption) ?_
            case hy => intro w hSw; (try dsimp only at hSw); go_simp; with_reducible rfl
            try simp only [Act.put, List.setIfInBounds_toArray, List.set_cons_zero, List.set_cons_succ]
            refine wpAnyH_take (i := 4) (oi := ⟨some 60, _, _, _, _, _⟩) (v := ?_) rfl (by kernel_rfl) (by kernel_rfl) (by kernel_rfl) (fun _ _ _ h => h) (Or.inl ⟨by rfl, ?hy⟩) (by assumption) ?_
            case hy => intro w hSw; (try dsimp only at hSw); go_simp; with_reducible rfl
            try simp only [Act.put, List.setIfInBounds_toArray, List.set_cons_zero, List.set_cons_succ]
            refine wpAnyH_ready (rs := [2]) (by kernel_rfl) (by simp) ?_
            refine AllReadyH.cons (o := ⟨some 58, _, _, _, _, _⟩) rfl (fun K hK => ?_) AllReadyH.nil
            go_simp
            refine (refOpened_any A c d.z _ _ ((IsZs.of (E.get m0)).step (Below.refl _ _).drew) (by omega)).mono ?_
            rintro e w3 ⟨rfl, hb3⟩
            replace hb3 := (Below.refl wr.heap.size wr).drew.trans hb3
            go_wp2_with fail
            refine hK.out _ _ (HK.out _ hb3) (fun hHeld => ?_)
            clear hK K
            try simp only [Act.put, List.setIfInBounds_toArray, List.set_cons_zero, List.set_cons_succ]
            refine wpAnyH_take (i := 5) (oi := ⟨some 61, _, _, _, _, _⟩) (v := ?_) rfl (by kernel_rfl) (by kernel_rfl) (by kernel_rfl) (fun _ _ _ h => h) (Or.inl ⟨by rfl, ?hy⟩) (by assumption) ?_
            case hy => intro w hSw; (try dsimp only at hSw); go_simp; with_reducible rfl
            try simp only [Act.put, List.setIfInBounds_toArray, List.set_cons_zero, List.set_cons_succ]
            refine wpAnyH_take (i := 6) (oi := ⟨some 62, _, _, _, _, _⟩) (v := ?_) rfl (by kernel_rfl) (by kernel_rfl) (by kernel_rfl) (fun _ _ _ h => h) (Or.inl ⟨by rfl, ?hy⟩) (by assumption) ?_
            case hy => intro w hSw; (try dsimp only at hSw); go_simp; with_reducible rfl
            try simp only [Act.put, List.setIfInBounds_toArray, List.set_cons_zero, List.set_cons_succ]
            refine wpAnyH_take (i := 7) (oi := ⟨some 63, _, _, _, _, _⟩) (v := undef) rfl (by kernel_rfl) (by kernel_rfl) (by kernel_rfl) (fun _ _ _ h => h) (Or.inr ⟨?hw, rfl⟩) (by assumption) ?_
            case hw => kernel_rfl
            try simp only [Act.put, List.setIfInBounds_toArray, List.set_cons_zero, List.set_cons_succ]
            refine wpAnyH_take (i := 8) (oi := ⟨some 64, _, _, _, _, _⟩) (v := undef) rfl (by kernel_rfl) (by kernel_rfl) (by kernel_rfl) (fun _ _ _ h => h) (Or.inr ⟨?hw, rfl⟩) (by assumption) ?_
            case hw => kernel_rfl
            try simp only [Act.put, List.setIfInBounds_toArray, List.set_cons_zero, List.set_cons_succ]
            refine wpAnyH_take (i := 9) (oi := ⟨some 65, _, _, _, _, _⟩) (v := undef) rfl (by kernel_rfl) (by kernel_rfl) (by kernel_rfl) (fun _ _ _ h => h) (Or.inr ⟨?hw, rfl⟩) (by assumption) ?_
            case hw => kernel_rfl
            try simp only [Act.put, List.setIfInBounds_toArray, List.set_cons_zero, List.set_cons_succ]
            refine wpAnyH_take (i := 10) (oi := ⟨some 66, _, _, _, _, _⟩) (v := undef) rfl (by kernel_rfl) (by kernel_rfl) (by kernel_rfl) (fun _ _ _ h => h) (Or.inr ⟨?hw, rfl⟩) (by assumption) ?_
            case hw => kernel_rfl
            try simp only [Act.put, List.setIfInBounds_toArray, List.set_cons_zero, List.set_cons_succ]
            refine wpAnyH_take (i := 11) (oi := ⟨some 67, _, _, _, _, _⟩) (v := undef) rfl (by kernel_rfl) (by kernel_rfl) (by kernel_rfl) (fun _ _ _ h => h) (Or.inr ⟨?hw, rfl⟩) (by assumption) ?_
            case hw => kernel_rfl
            try simp only [Act.put, List.setIfInBounds_toArray, List.set_cons_zero, List.set_cons_succ]
            refine wpAnyH_take (i := 12) (oi := ⟨some 68, _, _, _, _, _⟩) (v := undef) rfl (by kernel_rfl) (by kernel_rfl) (by kernel_rfl) (fun _ _ _ h => h) (Or.inr ⟨?hw, rfl⟩) (by assumption) ?_
            case hw => kernel_rfl
            try simp only [Act.put, List.setIfInBounds_toArray, List.set_cons_zero, List.set_cons_succ]
            refine wpAnyH_take (i := 13) (oi := ⟨some 69, _, _, _, _, _⟩) (v := ?_) rfl (by kernel_rfl) (by kernel_rfl) (by kernel_rfl) (fun _ _ _ h => h) (Or.inl ⟨by rfl, ?hy⟩) (by assumption) ?_
            case hy => intro w hSw; (try dsimp only at hSw); go_simp; with_reducible rfl
            try simp only [Act.put, List.setIfInBounds_toArray, List.set_cons_zero, List.set_cons_succ]
            refine wpAnyH_done (by kernel_rfl) ?_ _
            go_wp2
            go_ret
            exact ⟨rfl, (E.step hb3).below⟩
          · have HRB : Hid (res = if (cntZ activeS d.z : Int) ≤ d.act then 0 else 1) := Lib.hid (by
              rw [← hres]
              by_cases h : okD d
              · rw [if_pos h, if_pos h.2.2.1]
              · rw [if_neg h, if_neg (fun h2 => h ⟨HBD.out, by omega, h2, HALL.out⟩)])
            clear hres
            have hod : decide (d.opn < (cntZ openS d.z : Int)) = false := decide_eq_false ho
            go_region_held3 (fun W => ∀ o, W.cell? ⟨w.heap.size, o, none⟩ = (#[.int .i64 d.cap, .int .i64 d.opn, .int .i64 d.act, .slice A d.z.length c] : Array Value)[o]?)
              (first | with_reducible exact HK.out _ (Below.refl _ _).drew | with_reducible exact HK.out _ hb4 | with_reducible exact HK.out _ hb3)
              (first
                | (go_at_call 26
                   refine (refOpened_any A c d.z _ _ ((IsZs.of (E.get m0)).step (Below.refl _ _).drew) (by omega)).mono ?_
                   rintro e w3 ⟨rfl, hb3⟩
                   replace hb3 := (Below.refl wr.heap.size wr).drew.trans hb3)
                | (go_at_call 28
                   refine (refActive_any A c d.z _ _ ((IsZs.of (E.get m0)).step hb3) (by omega)).mono ?_
                   rintro e w4 ⟨rfl, hb4⟩
                   replace hb4 := hb3.trans (hb4.mono hb3.size)))
            by_cases ha : d.act < (cntZ activeS d.z : Int)
            · have hr1 : res = 1 := by rw [HRB.out, if_neg (by omega)]
              subst hr1
              go_wp2
              go_ret
              exact ⟨rfl, (E.step hb4).below⟩
            · have hr1 : res = 0 := by rw [HRB.out, if_pos (by omega)]
              subst hr1
              go_wp2
              go_ret
              exact ⟨rfl, (E.step hb4).below⟩
    · have hrf : r = true := by rw [← HR.out]; exact decide_eq_true hbd
      have hr1 : res = 1 := by rw [← hres, if_neg (fun h : okD d => hbd h.1)]
      subst hrf hr1
      clear hres HRES HR hbd
      go_wp2
      go_ret
      exact ⟨rfl, E.below⟩
end Go.Proofs.Ytcjmcfjjbicimaa
