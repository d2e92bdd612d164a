/- The walk of PackerRoom. -/
import Derived.Test.YtpacjjaekmipfaaPackLive
import Derived.Test.YtpacjjaekmipfaaRefBig
namespace Go.Proofs.Ytpacjjaekmipfaa
open Go.RowKit

theorem beginL_ok {h : Hd} {z m : Int} (he : (beginL h z m).2 = 0) : beginL h z m = (⟨h, z, m, 0, (headL h).1, []⟩, 0) ∧ ((headL h).1.length : Int) ≤ m ∧ (headL h).2 = 0 := by
  unfold beginL at he ⊢
  by_cases h1 : (headL h).2 = 0
  · rw [if_neg (by simp [h1])] at he ⊢
    by_cases h2 : 0 ≤ z ∧ 1 ≤ m ∧ m ≤ 65536
    · rw [if_neg (fun h => h h2)] at he ⊢
      by_cases h3 : m < ((headL h).1.length : Int)
      · rw [if_pos h3] at he; simp at he
      · rw [if_neg h3]; exact ⟨rfl, by omega, h1⟩
    · rw [if_pos h2] at he; simp at he
  · rw [if_pos h1] at he; exact absurd he h1
theorem errL_one (r : Rc) : errL [r] = (recL r).2 := by simp [errL]; exact fun h => h.symm
theorem frsL_one (r : Rc) : frsL [r] = (recL r).1 := by simp [frsL]
theorem rc_is {w : World} {K : Nat → Prop} {v : Value} {r : Rc} (hv : IsB w K v r.data) (h : OkRc r) : Rp.rc.is w K [.int .i64 r.kind, .int .i64 r.lba, .int .i64 r.n, .int .i64 r.ver, .int .i64 r.zone, .int .i64 r.off, v] r :=
  ⟨v, rfl, hv, h _ (by simp [recN]), h _ (by simp [recN]), h _ (by simp [recN]), h _ (by simp [recN]), h _ (by simp [recN]), h _ (by simp [recN])⟩
/-- a slice of one record, just built -/
theorem isL_rc1 {w : World} {K : Nat → Prop} {A : Option Addr} {c g : Nat} {r : Rc} (hg : w.heap.size = g) (hv : IsB w K (.slice A r.data.length c) r.data) (h : OkRc r) :
    IsL Rp.rc (w.alloc (.cells #[.int .i64 r.kind, .int .i64 r.lba, .int .i64 r.n, .int .i64 r.ver, .int .i64 r.zone, .int .i64 r.off, .slice A r.data.length c] 34)) (fun b => b = g ∨ K b) (.slice (some ⟨g, 0, none⟩) 1 1) [r] :=
  ⟨_, 1, _, rfl, (Reads.new (n := 1) (size := 7) hg rfl rfl).more (fun _ h => .inl h), CellsL.single (rc_is ((hv.alloc _).more fun _ h => .inr h) h), by simp, by omega, by simp⟩

theorem CellsL.ltRc {w : World} {K : Nat → Prop} : ∀ {cs : List Value} {l : List Rc}, CellsL Rp.rc w K cs l → CellsL Rp.rc w (fun b => K b ∧ b < w.heap.size) cs l
  | _, [], h => h
  | _, _ :: _, ⟨c1, c2, e, ⟨v, e1, h1, h2⟩, h3⟩ => ⟨c1, c2, e, ⟨v, e1, h1.lt, h2⟩, h3.ltRc⟩
theorem IsPk.lt {w : World} {K : Nat → Prop} {v : Value} {p : Pk} (h : IsPk w K v p) : IsPk w (fun b => K b ∧ b < w.heap.size) v p := by
  obtain ⟨vb, vl, e, h1, A, c, cs, rfl, h2, h3, h4⟩ := h
  exact ⟨_, _, e, h1.lt, A, c, cs, rfl, h2.lt (by decide), h3.ltRc, h4⟩
theorem Stable.pk {K : Nat → Prop} {v : Value} {p : Pk} : Stable (fun w => IsPk w K v p) := fun _ _ h hb => by
  obtain ⟨vb, vl, e, h1, h2⟩ := h; exact ⟨vb, vl, e, h1.step hb, h2.step hb⟩
abbrev roC (h : Hd) (M : Int) (vb vl : Value) : Array Value := #[.int .i64 h.host, .int .i64 h.epoch, .int .i64 h.seq, .int .i64 0, .int .i64 M, .int .i64 0, vb, vl]
def RoomInv (w wr : World) (h : Hd) (M : Int) (l : List Rc) (g8 : Nat) (i : Value) : Prop :=
  ∃ (j : Nat) (pb : List UInt8) (pl : List Rc) (A5 : Option Addr) (c5 : Nat) (A6 : Option Addr) (c6 : Nat), i = .int .i64 j ∧ j ≤ l.length ∧ Blk wr g8 29 (roC h M (.slice A5 pb.length c5) (.slice A6 pl.length c6)) ∧
    IsPk wr (fun b => b ≠ g8) (.agg (roC h M (.slice A5 pb.length c5) (.slice A6 pl.length c6))) ⟨h, 0, M, 0, pb, pl⟩ ∧ (pb.length : Int) ≤ M ∧ pl.length ≤ j ∧ Below w.heap.size w wr

set_option maxRecDepth 100000 in
set_option maxHeartbeats 8000000 in
theorem packerRoom_any (h : Hd) (lv : Value) (l : List Rc) (most : Int) (w : World) (hh : OkHd h) (hl : IsL Rp.rc w (· < w.heap.size) lv l) :
    Calls Try.prog 3 #[hdV h, lv, .int .i64 most] w fun e w' => e = .returned (.bool true) ∧ Below w.heap.size w w' := by
  have hl0 := hl
  obtain ⟨Al, cl, rfl, hlc, hlc2⟩ := hl.form
  have hok := isL_ok hl
  have E := ((Kn.start w).give Stable.list hl0).push 23 #[.int .i64 h.host, .int .i64 h.epoch, .int .i64 h.seq]
  have b1 := Int.tmod_lt_of_pos most (show (0 : Int) < 2000 by omega)
  have b2 := Int.lt_tmod_of_pos most (show (0 : Int) < 2000 by omega)
  unfold hdV
  go_enter Try.func3, Try.ntmps3
  go_wp2_with fail
  refine (live15_any _).mono ?_
  rintro e w1 ⟨rfl, hb1⟩
  replace E := E.step hb1
  go_wp2_with fail
  refine (bigR_any 100000 _ l _ _ (E.get m0)).mono ?_
  rintro e w2 ⟨rfl, hb2⟩
  replace E := E.step hb2
  obtain ⟨q0, f0, t0⟩ := E.rules m0
  cases hbig : bigR 100000 l with
  | true =>
    go_wp2
    go_ret
    exact ⟨rfl, E.below⟩
  | false =>
    by_cases h200 : 200 < l.length
    · go_wp2
      go_ret
      exact ⟨rfl, E.below⟩
    · go_wp2_with fail
      obtain ⟨M, hM⟩ : ∃ M, 30 + most.tmod 2000 % 2000 = M := ⟨_, rfl⟩
      have hM1 : 30 ≤ M := by omega
      have hM2 : M < 2030 := by omega
      rw [hM]
      generalize (most.tmod 2000 + 2000) % 2000 = X1
      generalize most.tmod 2000 + 2000 = X2
      generalize most.tmod 2000 = X3 at *
      clear hM b1 b2
      refine (pbegin_any h 0 M _ hh).mono ?_
      rintro e w3 ⟨A5, c5, rfl, own3, hb3⟩
      replace E := E.step hb3
      have hs3 := E.below.size
      unfold pkV
      by_cases hbe : (beginL h 0 M).2 = 0
      · obtain ⟨hbg, hbl, _⟩ := beginL_ok hbe
        rw [hbg] at own3 ⊢
        simp only at own3 ⊢
        clear hbg hbe
        generalize (headL h).1 = hb at own3 hbl ⊢
        have hE3 := E
        go_wp2_with fail
        have hB3 : IsB w3 (fun b => b < w3.heap.size) (.slice A5 hb.length c5) hb := (IsB.of_own own3 (by omega)).lt.more (fun b hb => hb.2)
        clear own3
        replace E := (E.give Stable.bytes hB3).push 29 #[.int .i64 h.host, .int .i64 h.epoch, .int .i64 h.seq, .int .i64 0, .int .i64 M, .int .i64 0, .slice A5 hb.length c5, .slice none 0 0]
        go_loopw [42] (fun i wr => RoomInv w wr h M l w3.heap.size i) (fun i _ => l.length - (intOf i).toNat)
        case atStart =>
          refine ⟨0, hb, [], A5, c5, none, 0, rfl, Nat.zero_le _, E.at_ m0, ⟨_, _, rfl, (E.get m0).more (fun b hb => by omega), IsL.nil_ _ _⟩, hbl, Nat.le_refl _, E.below⟩
        case round =>
          obtain ⟨j, pb, pl, A6, c6, A7, c7, rfl, hj, C8, hpk, hpb, hpl, hbw⟩ := hrel
          have hsz := hbw.size
          by_cases hlt : j < l.length
          · obtain ⟨ad, Ad, cd, rfl, hKad, hvd, hokr, hc0, hc1, hc2, hc3, hc4, hc5, hc6⟩ := rc_at (hl0.step hbw) (List.getElem?_eq_getElem hlt)
            generalize l[j] = r at hvd hokr hc0 hc1 hc2 hc3 hc4 hc5 hc6
            have F := ((((Kn.start wr).give Stable.bytes hvd).give Stable.pk hpk).know C8).push 34 #[.int .i64 r.kind, .int .i64 r.lba, .int .i64 r.n, .int .i64 r.ver, .int .i64 r.zone, .int .i64 r.off, .slice Ad r.data.length cd]
            have hrec := fun W h => rec_any r (.slice Ad r.data.length cd) (fun b => b < w.heap.size) W hokr h
            unfold rcV at hrec
            have hrl := recL_len hokr
            have herr := errL_one r
            have hfrs := frsL_one r
            obtain ⟨y, hy⟩ : ∃ y, recL r = y := ⟨_, rfl⟩
            rw [hy] at hrec hrl herr hfrs
            obtain ⟨fb, fe⟩ := y
            simp only at hrec hrl herr hfrs
            clear hy hvd hpk C8 E
            go_wp2_with fail
            refine (hrec _ (F.get m1)).mono ?_
            rintro e w4 ⟨A4, c4, rfl, own4, hb4⟩
            replace F := F.step hb4
            obtain ⟨q1, f1, t1⟩ := F.rules m0
            obtain ⟨q2, f2, t2⟩ := F.rules m1
            go_wp2_with fail
            have hst : Below w4.heap.size w4 (w4.alloc (.cells #[.int .i64 r.kind, .int .i64 r.lba, .int .i64 r.n, .int .i64 r.ver, .int .i64 r.zone, .int .i64 r.off, .slice Ad r.data.length cd] 34)) := (Below.refl _ _).alloc (Nat.le_refl _) _
            have hwr3 := (F.at_ m1).lt
            have hs4 := F.below.size
            have hok8 : OkPk ⟨h, 0, M, 0, pb, pl⟩ := ⟨hh, by simp, by simp only; omega, by simp, by simp only; omega, by simp only; omega⟩
            have hpkl : IsPk w4 (fun b => b ≠ w3.heap.size ∧ b < w4.heap.size) (.agg (roC h M (.slice A6 pb.length c6) (.slice A7 pl.length c7))) ⟨h, 0, M, 0, pb, pl⟩ := (F.get m0).lt
            refine (add_any _ _ ⟨h, 0, M, 0, pb, pl⟩ [r] (fun b => b ≠ w3.heap.size ∧ b < w4.heap.size) _ _ (Stable.pk _ _ hpkl hst) (fun b hb => by rw [World.size_alloc]; omega) hok8 (isL_rc1 rfl (F.get m1) hokr) (by simp)).mono ?_
            rintro e w5 ⟨pv, A9, c9, rfl, ⟨vb, vl, rfl, hB5, hL5⟩, own5, hb5⟩
            have F5 := (F.step hst).step hb5
            clear hb4 q1 f1 t1 q2 f2 t2 own4
            obtain ⟨A10, c10, rfl, hl10⟩ := isB_form hB5
            obtain ⟨A11, c11, rfl, _⟩ := hL5.form
            by_cases hfe : fe = 0
            · subst hfe
              obtain ⟨rm, hrm⟩ : ∃ rm, roomL ⟨h, 0, M, 0, pb, pl⟩ = rm := ⟨_, rfl⟩
              have hroom := fun W hp => room_any (.agg (roC h M (.slice A6 pb.length c6) (.slice A7 pl.length c7))) ⟨h, 0, M, 0, pb, pl⟩ (fun b => b ≠ w3.heap.size) W hp hok8
              rw [hrm] at hroom
              by_cases hf : rm < (fb.length : Int)
              · rw [add_full _ herr (by rw [hfrs, hrm]; exact hf)] at own5 ⊢
                rw [add_full _ herr (by rw [hfrs, hrm]; exact hf)] at hB5 hL5
                unfold pkV p0k
                clear hB5 hL5 own5 hrm
                have F6 := F5.push 29 #[.int .i64 0, .int .i64 0, .int .i64 0, .int .i64 0, .int .i64 0, .int .i64 0, .slice A10 0 c10, .slice A11 0 c11]
                obtain ⟨q1, f1, t1⟩ := F5.rules m1
                go_wp2_with fail
                refine (hroom _ (F6.get m0)).mono ?_
                rintro e w6 ⟨rfl, hb6⟩
                replace F6 := F6.step hb6
                obtain ⟨q2, f2, t2⟩ := F6.rules m0
                go_wp2_with fail
                go_roundw
                case rel =>
                  exact ⟨j + 1, pb, pl, A6, c6, A7, c7, by go_num, by omega, F6.at_ m2, F6.get m0, hpb, by omega, hbw.trans (F6.below.mono hsz)⟩
                case measure => simp [intOf]; omega
              · have hmx : rm = max (M - 0 - (pb.length : Int)) 0 := by rw [← hrm]; rfl
                have hroom2 := fun W hp => room_any (.agg (roC h M (.slice A10 (pb ++ fb).length c10) (.slice A11 (pl ++ [r]).length c11))) ⟨h, 0, M, 0, pb ++ fb, pl ++ [r]⟩ (fun b => b ≠ w3.heap.size) W hp ⟨hh, by simp, by simp only; omega, by simp, by simp only [List.length_append]; omega, by simp only [List.length_append, List.length_singleton]; omega⟩
                have hrm2 : roomL ⟨h, 0, M, 0, pb ++ fb, pl ++ [r]⟩ = rm - fb.length := by unfold roomL; simp only [List.length_append]; omega
                obtain ⟨rq, hrq⟩ : ∃ rq, rm - (fb.length : Int) = rq := ⟨_, rfl⟩
                rw [hrm2, hrq] at hroom2
                have hrq0 : 0 ≤ rq := by omega
                have hrm0 : 0 ≤ rm ∧ rm ≤ 2030 := by omega
                have hpb2 : ((pb ++ fb).length : Int) ≤ M := by rw [List.length_append]; omega
                have HRM := Lib.hid hrm
                rw [add_fits _ herr (by rw [hfrs, hrm]; omega)] at own5 ⊢
                rw [add_fits _ herr (by rw [hfrs, hrm]; omega)] at hB5 hL5
                rw [hfrs] at own5 hB5 ⊢
                clear hmx hrm2 hrm
                have hneq : (rq != rq) = false := by simp
                have hwr1 : IntKind.i64.wrap rq = rq := by rw [IntKind.wrap_i64]; omega
                have hwr2 : IntKind.i64.wrap ((pl.length : Int) + 1) = (pl.length : Int) + 1 := by rw [IntKind.wrap_i64]; omega
                unfold pkV
                simp only [List.length_append, List.length_cons, List.length_nil, Nat.zero_add, plsL_len] at hroom2 hB5 hL5 own5 ⊢
                have hsw := hst.size
                have hs5 := hb5.size
                simp only [World.size_alloc] at hB5 hL5 hs5 hsw
                have hQ : IsPk w5 (fun b => b ≠ w3.heap.size) (.agg (#[.int .i64 h.host, .int .i64 h.epoch, .int .i64 h.seq, .int .i64 0, .int .i64 M, .int .i64 0, .slice A10 (pb.length + fb.length) c10, .slice A11 (pl.length + 1) c11])) ⟨h, 0, M, 0, pb ++ fb, pl ++ [r]⟩ := ⟨_, _, rfl, hB5.more (fun b hb => by omega), hL5.more (fun b hb => by omega)⟩
                have F6 := (F5.give Stable.pk hQ).push 29 #[.int .i64 h.host, .int .i64 h.epoch, .int .i64 h.seq, .int .i64 0, .int .i64 M, .int .i64 0, .slice A10 (pb.length + fb.length) c10, .slice A11 (pl.length + 1) c11]
                obtain ⟨q1, f1, t1⟩ := F5.rules m1
                clear hB5 hL5 own5 hQ
                go_wp2_with fail
                refine (hroom _ (F6.get m1)).mono ?_
                rintro e w7 ⟨rfl, hb7⟩
                replace F6 := F6.step hb7
                obtain ⟨q2, f2, t2⟩ := F6.rules m0
                obtain ⟨q3, f3, t3⟩ := F6.rules m2
                go_upto_region 19 with fail
                go_cut [111] (fun s wx => s = .bool false ∧ Below w7.heap.size w7 wx)
                case first =>
                  have HK : Hid (∀ W, Below w7.heap.size w7 W → (∀ o, W.cell? ⟨w3.heap.size, o, none⟩ = (#[.int .i64 h.host, .int .i64 h.epoch, .int .i64 h.seq, .int .i64 0, .int .i64 M, .int .i64 0, .slice A6 pb.length c6, .slice A7 pl.length c7] : Array Value)[o]?) ∧ (∀ o, W.cell? ⟨w5.heap.size, o, none⟩ = (#[.int .i64 h.host, .int .i64 h.epoch, .int .i64 h.seq, .int .i64 0, .int .i64 M, .int .i64 0, .slice A10 (pb.length + fb.length) c10, .slice A11 (pl.length + 1) c11] : Array Value)[o]?)) := Lib.hid fun W hW => ⟨((F6.step hW).rules m2).1, ((F6.step hW).rules m0).1⟩
                  have hbd := (Below.refl w7.heap.size w7).drew
                  go_region_held3 (fun W : World => (∀ o, W.cell? ⟨w3.heap.size, o, none⟩ = (#[.int .i64 h.host, .int .i64 h.epoch, .int .i64 h.seq, .int .i64 0, .int .i64 M, .int .i64 0, .slice A6 pb.length c6, .slice A7 pl.length c7] : Array Value)[o]?) ∧ (∀ o, W.cell? ⟨w5.heap.size, o, none⟩ = (#[.int .i64 h.host, .int .i64 h.epoch, .int .i64 h.seq, .int .i64 0, .int .i64 M, .int .i64 0, .slice A10 (pb.length + fb.length) c10, .slice A11 (pl.length + 1) c11] : Array Value)[o]?))
                    (first | with_reducible exact HK.out _ hbB | with_reducible exact HK.out _ hbA | with_reducible exact HK.out _ hbd)
                    (first
                      | (go_at_call 15; refine (hroom _ ((F6.step hbA).get m1)).mono ?_; rintro e wB ⟨rfl, hbB⟩; replace hbB := hbA.trans (hbB.mono hbA.size))
                      | (go_at_call 15; refine (hroom2 _ ((F6.step hbd).get m0)).mono ?_; rintro e wA ⟨rfl, hbA⟩; replace hbA := hbd.trans hbA))
                  all_goals go_wp2_with fail
                  all_goals go_meet
                  all_goals exact ⟨rfl, hbB⟩
                case rest =>
                  obtain ⟨rfl, hbc⟩ := hcut
                  replace F6 := F6.step hbc
                  have h8 := st8_all (F6.at_ m2) (.int .i64 h.host) (.int .i64 h.epoch) (.int .i64 h.seq) (.int .i64 0) (.int .i64 M) (.int .i64 0) (.slice A10 (pb.length + fb.length) c10) (.slice A11 (pl.length + 1) c11)
                  unfold st8 at h8
                  obtain ⟨q4, f4, t4⟩ := F6.rules m0
                  obtain ⟨q5, f5, t5⟩ := F6.rules m2
                  obtain ⟨vb2, vl2, e2, hB6, hL6⟩ := F6.get m0
                  have hb9 := below_turned (hbw.trans (F6.below.mono hsz)) h8.2 (by omega) (by have := F6.below.size; omega)
                  have hB7 := hB6.turned h8.2 (fun b hb => hb)
                  have hL7 := hL6.turned h8.2 (fun b hb => hb)
                  unfold pkV at e2
                  injection e2 with e2
                  simp only [Array.mk.injEq, List.cons.injEq, and_true, true_and] at e2
                  obtain ⟨rfl, rfl⟩ := e2
                  obtain ⟨B8, T8⟩ := h8
                  clear hB6 hL6 F6 T8
                  go_wp2_with fail
                  go_roundw
                  case rel => exact ⟨j + 1, pb ++ fb, pl ++ [r], A10, c10, A11, c11, by go_num, by omega, by simpa only [List.length_append, List.length_cons, List.length_nil, Nat.zero_add] using B8, ⟨_, _, by simp [pkV], hB7, hL7⟩, hpb2, by simp only [List.length_append, List.length_cons, List.length_nil]; omega, hb9⟩
                  case measure => simp [intOf]; omega
            · rw [add_err _ herr hfe] at own5 ⊢
              rw [add_err _ herr hfe] at hB5 hL5
              unfold pkV p0k
              clear hB5 hL5 own5
              have F6 := F5.push 29 #[.int .i64 0, .int .i64 0, .int .i64 0, .int .i64 0, .int .i64 0, .int .i64 0, .slice A10 0 c10, .slice A11 0 c11]
              obtain ⟨q1, f1, t1⟩ := F5.rules m1
              have hfe' : ((fe : Int) != 0) = true := by simpa using hfe
              go_wp2_with fail
              go_roundw
              case rel =>
                exact ⟨j + 1, pb, pl, A6, c6, A7, c7, by go_num, by omega, F6.at_ m2, F6.get m0, hpb, by omega, hbw.trans (F6.below.mono hsz)⟩
              case measure => simp [intOf]; omega
          · obtain rfl : j = l.length := by omega
            obtain ⟨q5, f5⟩ := C8.rules
            have t5 := C8.lt
            go_wp2
            go_ret
            exact ⟨rfl, hbw⟩
      · rename_i hbe
        have hbe' : ((beginL h 0 M).2 != 0) = true := by simpa using hbe
        have hbx := E.below.alloc hs3 (.cells #[.int .i64 (beginL h 0 M).1.h.host, .int .i64 (beginL h 0 M).1.h.epoch, .int .i64 (beginL h 0 M).1.h.seq, .int .i64 (beginL h 0 M).1.zone, .int .i64 (beginL h 0 M).1.cap, .int .i64 (beginL h 0 M).1.at_, .slice A5 (beginL h 0 M).1.buf.length c5, .slice none 0 0] 29)
        go_wp2
        go_ret
        exact ⟨rfl, hbx⟩
end Go.Proofs.Ytpacjjaekmipfaa
