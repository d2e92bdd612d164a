/- The walk of quicksetlaw04.ZoneKeeps. -/
import Derived.Test.YtcjmcfjjbicimaaKeepsPlain
import Derived.Test.YtcjmcfjjbicimaaApart
import Derived.Test.YtcjmcfjjbicimaaOp
import Derived.Deep.QuietTactic
import Derived.BigQuiet
namespace Go.Proofs.Ytcjmcfjjbicimaa
open Go.RowKit

def KeepsInv (w wr : World) (g : Nat) (len : Nat) (M : Int) (i : Value) : Prop :=
  ∃ (j : Nat) (z : Zn) (A : Option Addr) (c : Nat), i = .int .i64 j ∧ j ≤ len ∧ Blk wr g 26 #[.int .i64 z.st, .int .i64 z.fe, .slice A z.d.length c] ∧ IsB wr (fun b => b ≠ g) (.slice A z.d.length c) z.d ∧
    okZ z M ∧ z.fe = 3 ∧ Below w.heap.size w wr

set_option maxRecDepth 100000 in
set_option maxHeartbeats 4000000 in
theorem zoneKeeps_any (most0 : Int) (l : List Ac) (v : Value) (w : World) (hl : IsL Rp.op w (· < w.heap.size) v l) :
    Calls Try.prog 8 #[.int .i64 most0, v] w fun e w' => e = .returned (.bool true) ∧ Below w.heap.size w w' := by
  obtain ⟨A, c, rfl, hlc, hcc⟩ := hl.form
  have hl63 := hl.len
  by_cases hbig : l.length ≤ 100
  · go_enter Try.func8, Try.ntmps8
    go_wp2_with (go_at_call 14; refine (live04_any w).mono ?_; rintro e w1 ⟨rfl, hb1⟩)
    have hmod := norm_mod most0 200 (by omega) (by omega)
    have hM : wrap64 (1 + (wrap64 (most0.tmod 200 + 200)).tmod 200) = 1 + (wrap64 (most0.tmod 200 + 200)).tmod 200 := by unfold wrap64 at hmod ⊢; omega
    have hM1 : 1 ≤ wrap64 (1 + (wrap64 (most0.tmod 200 + 200)).tmod 200) := by omega
    have hM2 : wrap64 (1 + (wrap64 (most0.tmod 200 + 200)).tmod 200) ≤ 200 := by omega
    clear hM hmod
    generalize wrap64 (1 + (wrap64 (most0.tmod 200 + 200)).tmod 200) = M at hM1 hM2 ⊢
    have hw1 := hb1.size
    go_loopw [24] (fun i wr => KeepsInv w wr w1.heap.size l.length M i) (fun i _ => l.length - (intOf i).toNat)
    case atStart =>
      exact ⟨0, ⟨0, 3, []⟩, none, 0, rfl, Nat.zero_le _, Blk.new _ _ _ rfl, IsB.nil_ _ _, ⟨hM1, by omega, by decide, .inl ⟨rfl, rfl⟩⟩, rfl, hb1.alloc hb1.size _⟩
    case round =>
      obtain ⟨j, z, A6, c6, rfl, hj, Bz, hzb, hok, hfe, hbw⟩ := hrel
      by_cases hlt : j < l.length
      · obtain ⟨ad, es, rfl, hK, ⟨vb, rfl, hob, _, hoff⟩, hcell⟩ := (hl.step hbw).at_ (List.getElem?_eq_getElem hlt)
        generalize l[j] = o at hob hoff hcell
        have HFE := Lib.hid hfe; clear hfe
        have HOK := Lib.hid hok; clear hok
        obtain ⟨k, b, n, off⟩ := o
        simp only at hob hoff hcell
        obtain ⟨A2, c2, rfl, _⟩ := id hob
        have hc0 : wr.cell? (ad.add (j * 4)) = some (.int .i64 k) := by rw [← addr0 (ad.add (j * 4))]; exact hcell 0 _ rfl
        have hc1 : wr.cell? ⟨(ad.add (j * 4)).block, (ad.add (j * 4)).off + 1, none⟩ = some (.slice A2 b.length c2) := by rw [← addrS _ 1 (by decide)]; exact hcell 1 _ rfl
        have hc2 : wr.cell? ⟨(ad.add (j * 4)).block, (ad.add (j * 4)).off + 2, none⟩ = some (.int .i64 n) := by rw [← addrS _ 2 (by decide)]; exact hcell 2 _ rfl
        have hc3 : wr.cell? ⟨(ad.add (j * 4)).block, (ad.add (j * 4)).off + 3, none⟩ = some (.int .i64 off) := by rw [← addrS _ 3 (by decide)]; exact hcell 3 _ rfl
        obtain ⟨qz, fz⟩ := Bz.rules
        have hltz := Bz.lt
        have E := ((Kn.start wr).give Stable.bytes hob).give Stable.bytes hzb
        clear hcell hob
        by_cases hbl : (1000 : Int) < (b.length : Int)
        · go_wp2
          go_ret
          exact ⟨rfl, (hbw.alloc hbw.size _)⟩
        · replace E := E.push 49 #[.int .i64 k, .slice A2 b.length c2, .int .i64 n, .int .i64 off]
          obtain ⟨r, hr⟩ : ∃ r, r = stepZ z M ⟨k, b, n, off⟩ := ⟨_, rfl⟩
          obtain ⟨x, er⟩ := r
          have HS := Lib.hid hr.symm; clear hr
          have hsl := step_len z M ⟨k, b, n, off⟩ (by obtain ⟨_, _, _, _⟩ := HOK.out; omega)
          rw [HS.out] at hsl
          simp only at hsl
          go_wp2_with fail
          refine (step_any _ _ z M ⟨k, b, n, off⟩ _ _ _ ⟨A6, c6, rfl, E.get m0⟩ (E.get m1) hoff).mono ?_
          rw [HS.out]
          rintro e w3 ⟨v3, rfl, ⟨A3, c3, rfl, hx3⟩, hb3⟩
          replace E := E.step hb3
          obtain ⟨q1, f1, t1⟩ := E.rules m0
          replace Bz := (Bz.alloc _).step hb3
          obtain ⟨qz, fz⟩ := Bz.rules
          simp only at hx3
          unfold zv
          simp only
          have hx3' := hx3.apart Bz
          by_cases her : er = 0
          · subst her
            obtain ⟨kok, kfe, k5, kn5⟩ := step_keeps HOK.out HS.out
            simp only at k5 kn5
            have KOK := Lib.hid (show chkZ x M = 0 from if_pos kok)
            have XOK := Lib.hid kok; clear kok
            have kfe3 : x.fe = 3 := kfe.trans HFE.out
            have KFE := Lib.hid kfe3; clear kfe kfe3
            replace E := ((E.give Stable.bytes hx3').push 26 #[.int .i64 x.st, .int .i64 x.fe, .slice A3 x.d.length c3])
            have HK5 := Lib.hid k5; clear k5
            have HN5 := Lib.hid kn5; clear kn5
            clear q1 f1 t1
            replace Bz := Bz.alloc (.cells #[.int .i64 x.st, .int .i64 x.fe, .slice A3 x.d.length c3] 26)
            go_wp2_with fail
            refine (refCheck_any _ x M _ _ ⟨A3, c3, rfl, E.get m0⟩).mono ?_
            rw [KOK.out]
            rintro e w4 ⟨rfl, hb4⟩
            replace E := E.step hb4
            replace Bz := Bz.step hb4
            obtain ⟨q1, f1, t1⟩ := E.rules m0
            obtain ⟨q2, f2, t2⟩ := E.rules m1
            obtain ⟨qz, fz⟩ := Bz.rules
            have hfe3 : (x.fe != 3) = false := by rw [KFE.out]; decide
            have HX := Lib.hid hx3; clear hx3 hx3'
            by_cases hk : k = 5
            · obtain ⟨h50, h51⟩ := HK5.out hk
              have hk5 : (k == 5) = true := by simpa using hk
              have h50' : (x.st != 0) = false := by rw [h50]; decide
              have h51' : ((x.d.length : Int) != 0) = false := by rw [h51]; decide
              clear h50 h51 hk
              go_wp2
              exact ⟨⟨j + 1, x, A3, c3, by go_num, by omega, Bz.set3, IsB.set3 (E.get m0), XOK.out, KFE.out, below_set3 (hbw.trans (E.below.mono hbw.size)) (by omega)⟩, by simp [intOf]; omega⟩
            · have hk5 : (k == 5) = false := by simpa using hk
              obtain ⟨hpre, h44⟩ := HN5.out hk
              clear hk
              obtain ⟨e3, r3, l3, _⟩ := (E.get (f := fun w => IsB w (fun b => b ≠ w1.heap.size) (.slice A3 x.d.length c3) x.d) m0).open_
              have hs2 : ∀ N, (convert 24 9 (.slice A6 z.d.length c6)).run Try.prog (w4.drewN N) = .ok (.string ⟨z.d.toArray⟩) (w4.drewN N) := fun N =>
                run_string_of (w4.drewN N) 24 9 5 Try.underlying24 Try.underlying5 Try.underlying9 rfl ((E.get (f := fun w => IsB w (fun b => b ≠ w1.heap.size) (.slice A6 z.d.length c6) z.d) m1).open_.2.1.drewN N)
              have hlen : z.d.length ≤ x.d.length := hpre.length_le
              have htk : x.d.take z.d.length = z.d := (List.prefix_iff_eq_take.1 hpre).symm
              have hs1 : ∀ N, (convert 24 9 (.slice A3 z.d.length c3)).run Try.prog (w4.drewN N) = .ok (.string ⟨z.d.toArray⟩) (w4.drewN N) := fun N => by
                have h := ((E.get (f := fun w => IsB w (fun b => b ≠ w1.heap.size) (.slice A3 x.d.length c3) x.d) m0).pre hlen).open_.2.1
                rw [htk] at h
                exact run_string_of (w4.drewN N) 24 9 5 Try.underlying24 Try.underlying5 Try.underlying9 rfl (h.drewN N)
              have hd : decide ((x.d.length : Int) < (z.d.length : Int)) = false := by simp; omega
              have hd2 : decide (x.d.length < z.d.length) = false := by simp; omega
              have i0 : (0 : Int) ≤ (z.d.length : Int) := by omega
              have i1 : (z.d.length : Int) ≤ (c3 : Int) := by omega
              have HPRE := Lib.hid hpre; clear hpre
              clear htk r3 e3
              by_cases h4 : z.st = 4
              · have h4z : (z.st == 4) = true := by simpa using h4
                have h4x : (x.st != 4) = false := by rw [h44 h4]; decide
                clear h44 h4
                go_wp2
                go_quiet (fail)
                clear hs1 hs2
                go_wp2
                exact ⟨⟨j + 1, x, A3, c3, by go_num, by omega, Blk.set3 (Bz.drewN _), IsB.set3 (w := w4.drewN _) (E.get m0), XOK.out, KFE.out, below_set3 (below_drewN (hbw.trans (E.below.mono hbw.size)) _) (by omega)⟩, by simp [intOf]; omega⟩
              · have h4z : (z.st == 4) = false := by simpa using h4
                clear h44 h4
                go_wp2
                go_quiet (fail)
                clear hs1 hs2
                go_wp2
                exact ⟨⟨j + 1, x, A3, c3, by go_num, by omega, Blk.set3 (Bz.drewN _), IsB.set3 (w := w4.drewN _) (E.get m0), XOK.out, KFE.out, below_set3 (below_drewN (hbw.trans (E.below.mono hbw.size)) _) (by omega)⟩, by simp [intOf]; omega⟩
          · have hf := fun h1 h2 => step_fails HS.out her h1 h2
            simp only at hf
            have hq : x.d.length = 0 ∨ k < 0 ∨ 5 < k := by
              rcases Decidable.em (0 ≤ k ∧ k ≤ 5) with h | h
              · exact .inl (by rw [hf h.1 h.2]; rfl)
              · right; omega
            have hq' : ¬ (0 < x.d.length ∧ k ≤ 5 ∧ 0 ≤ k) := by omega
            clear hf hq
            have hne : (er != 0) = true := by simpa using her
            clear her
            have E2 := E.push 26 #[.int .i64 x.st, .int .i64 x.fe, .slice A3 x.d.length c3]
            go_wp2
            all_goals exact ⟨⟨j + 1, z, A6, c6, by go_num, by omega, Bz.alloc _, IsB.alloc (E.get m0) _, HOK.out, HFE.out, hbw.trans (E2.below.mono hbw.size)⟩, by simp [intOf]; omega⟩
      · go_wp2
        go_ret
        exact ⟨rfl, hbw⟩
  · go_enter Try.func8, Try.ntmps8
    have hg : (100 : Int) < (l.length : Int) := by omega
    go_wp2_with (go_at_call 14; refine (live04_any w).mono ?_; rintro e w1 ⟨rfl, hb1⟩)
    go_ret
    exact ⟨rfl, hb1⟩
end Go.Proofs.Ytcjmcfjjbicimaa
