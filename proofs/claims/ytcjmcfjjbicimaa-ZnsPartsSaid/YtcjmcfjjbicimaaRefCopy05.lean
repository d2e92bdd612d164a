/- The walks of quicksetref05.Copy and SameDone. -/
import Derived.Test.YtcjmcfjjbicimaaZnsPlain2
import Derived.Test.YtcjmcfjjbicimaaZoneRef
import Derived.Test.YtcjmcfjjbicimaaOwnR
namespace Go.Proofs.Ytcjmcfjjbicimaa
open Go.RowKit

/-- where the row lies -/
theorem OwnR.rowlt5 {α : Type} {R : Rp α} {w : World} {base : Nat} {e : TypeId} {X : Nat → Prop} {A : Option Addr} {n c : Nat} {l : List α} (h : OwnR R w base e X (.slice A n c) l) : ∀ g, (Value.slice A n c).ownBlock = some g → base ≤ g ∧ g < w.heap.size := by
  intro g hg
  obtain ⟨rfl, cs, h1, _⟩ := h.open_
  exact h1.lt g hg

set_option linter.unusedSimpArgs false in
set_option maxRecDepth 100000 in
set_option maxHeartbeats 4000000 in
theorem copy05_any (d : Zd) (v : Value) (w : World) (hd : IsD w v d) (hn : d.z.length * 40 ≤ 140737488355328) :
    Calls Try.prog 42 #[v] w fun e w' => ∃ v', e = .returned v' ∧ DevAt w' (fun b => w.heap.size ≤ b) v' d ∧ Below w.heap.size w w' := by
  obtain ⟨i0, hi, hz0, hz1, hz2⟩ := info_parts Try.infZ
  obtain ⟨A, c, rfl, hL⟩ := hd
  have E := ((Kn.start w).give Stable.list hL).push 53 #[.int .i64 d.cap, .int .i64 d.opn, .int .i64 d.act, .slice A d.z.length c] |>.push 53 #[.int .i64 0, .int .i64 0, .int .i64 0, .slice none 0 0]
  rw [World.size_alloc] at E
  have hL0 := hL.zlt
  clear hL
  go_enter Try.func42, Try.ntmps42
  go_upto_region 2 with fail
  obtain ⟨wA, hwA⟩ : ∃ wA, (w.alloc (.cells #[.int .i64 d.cap, .int .i64 d.opn, .int .i64 d.act, .slice A d.z.length c] 53)).alloc (.cells #[.int .i64 0, .int .i64 0, .int .i64 0, .slice none 0 0] 53) = wA := ⟨_, rfl⟩
  have hsA : w.heap.size + 2 ≤ wA.heap.size := by rw [← hwA]; simp [World.size_alloc]
  rw [hwA] at E ⊢
  clear hwA
  obtain ⟨q0, f0, t0⟩ := E.rules m0
  obtain ⟨q1, f1, t1⟩ := E.rules m1
  go_wp2
  clear q0 f0 t0 q1 f1 t1
  have hB0 := E.at_ m0
  have hB1 := E.at_ m1
  have hbA := E.below
  clear E
  go_loopw [3, 5, 9] (fun o x i wr => ∃ (j : Nat) (A9 : Option Addr) (c9 : Nat), i = .int .i64 j ∧ j ≤ d.z.length ∧ o = .slice A9 j c9 ∧ OwnR Rp.zone wr (w.heap.size + 2) 26 (fun b => w.heap.size + 2 ≤ b) (.slice A9 j c9) (d.z.take j) ∧
    Blk wr (w.heap.size + 1) 53 #[.int .i64 0, .int .i64 0, .int .i64 0, .slice none 0 0] ∧ Blk wr w.heap.size 53 #[.int .i64 d.cap, .int .i64 d.opn, .int .i64 d.act, .slice A d.z.length c] ∧ Below w.heap.size w wr ∧ w.heap.size + 2 ≤ wr.heap.size ∧ (∃ y, x = y)) (fun _ _ i _ => d.z.length - (intOf i).toNat)
  case atStart => exact ⟨0, none, 0, rfl, Nat.zero_le _, rfl, by rw [List.take_zero]; exact OwnR.nil_ _ _ _ _, hB0, hB1, hbA, hsA, _, rfl⟩
  case round =>
    clear hB0 hB1 hbA hsA
    obtain ⟨j, A9, c9, rfl, hj, rfl, hO, hB0, hB1, hbr, hsr, y, rfl⟩ := hrel
    have hLr : IsL Rp.zone wr (fun b => True ∧ b < w.heap.size) (.slice A d.z.length c) d.z := hL0.keep fun p hp _ => hbr.cell hp.2
    have hrow := OwnR.rowlt5 hO
    by_cases hlt : j < d.z.length
    · obtain ⟨z, hz⟩ : ∃ z, d.z[j] = z := ⟨_, rfl⟩
      obtain ⟨ad, B, cB, rfl, hadb, _, hB, hc0, hc1, hc2⟩ := IsL.zone_at hLr (List.getElem?_eq_getElem hlt)
      rw [hz] at hB hc0 hc1 hc2
      have HZ := Lib.hid hz
      clear hz
      have j1 : (j : Int) < (d.z.length : Int) := by omega
      have j0 : (0 : Int) ≤ (j : Int) := by omega
      have hzl := hB.len
      have F := ((((Kn.start wr).give Stable.bytes hB).give Stable.list hLr).give (f := fun W => OwnR Rp.zone W (w.heap.size + 2) 26 (fun b => w.heap.size + 2 ≤ b) (.slice A9 j c9) (d.z.take j)) (fun _ _ h hb => OwnR.step h hb) hO).know hB0 |>.know hB1 |>.push 26 #[.int .i64 z.st, .int .i64 z.fe, .slice B z.d.length cB]
      clear hB hLr hO hB0 hB1
      go_wp2_with fail
      refine (copy_any _ z _ _ ⟨B, cB, rfl, F.get m2⟩).mono ?_
      rintro e w4 ⟨v', rfl, ⟨A7, c7, rfl, own7⟩, hb4⟩
      replace F := F.step hb4
      have hs4 := F.below.size
      rw [World.size_alloc] at own7
      have own7' := (IsB.of_own own7 hzl).lt
      clear own7
      unfold zv
      have hO4 := F.get m0
      obtain ⟨hjj, cs, own5, cl5⟩ := hO4.open_
      have HJ := Lib.hid hjj
      clear hjj
      have hlj : (d.z.take j).length = j := by rw [List.length_take]; omega
      rw [hlj] at own5 cl5
      replace own5 : w4.ownsRow (w.heap.size + 2) 26 3 (.slice A9 j c9) j cs := own5
      have HLJ := Lib.hid hlj
      clear hlj hO4
      have hw4s : wr.heap.size + 1 ≤ w4.heap.size := by have := (F.at_ m0).lt; omega
      go_wp2_with (at_builtin; refine wpList_appN rfl _ _ _ rfl (w.heap.size + 2) 26 i0 _ 3 40 Try.underlying41 hi hz0 hz1 hz2 rfl (by omega) rfl (own5.alloc _) rfl (Reads.new (xs := cellsZ z A7 c7) (n := 1) rfl rfl rfl) (by intro u hu; simp [cellsZ] at hu; rcases hu with rfl | rfl | rfl <;> rfl) (by simp only [maxLen]; omega) (by omega) (by simp; omega) ?_; intro A8 c8 w5 own8 hg8)
      go_roundw
      case rel =>
        have hsz5 : (w4.alloc (.cells #[.int .i64 z.st, .int .i64 z.fe, .slice A7 z.d.length c7] 26)).heap.size = w4.heap.size + 1 := World.size_alloc _ _
        have hp := OwnR.push (R := Rp.zone) (X := fun b => w.heap.size + 2 ≤ b) (l := d.z.take j) (a := z) (A := A9) (A' := A8) (c := c9) (c' := c8) (w := w4.alloc (.cells #[.int .i64 z.st, .int .i64 z.fe, .slice A7 z.d.length c7] 26)) (news := cellsZ z A7 c7)
          (by rw [HLJ.out, hsz5]; exact (cl5.alloc _).more fun b hb => ⟨hb.1, by omega, hb.2.2⟩)
          (by
            rw [HLJ.out, hsz5]
            refine isZ_rp ((own7'.alloc _).more fun b hb => ⟨by omega, by omega, fun e => ?_⟩)
            have := hrow _ e.symm
            omega)
          (by rw [HLJ.out]; exact own8) (by rw [HLJ.out]; exact hg8)
        rw [HLJ.out] at hp
        have hg5 : Below w.heap.size w w5 := by
          have h1 := hbr.trans (F.below.mono hbr.size)
          have h2 := h1.alloc h1.size (.cells #[.int .i64 z.st, .int .i64 z.fe, .slice A7 z.d.length c7] 26)
          exact h2.trans (hg8.below.mono (by omega))
        have hg2 := hg8.below.size
        refine ⟨j + 1, A8, c8, by go_num, by omega, rfl, ?_, ((F.at_ m2).alloc _).grew (own5.alloc _) (by decide) hg8, ((F.at_ m1).alloc _).grew (own5.alloc _) (by decide) hg8, hg5, by omega, _, rfl⟩
        rw [List.take_succ_eq_append_getElem hlt, HZ.out]
        exact hp
      case measure => simp [intOf]; omega
    · obtain rfl : j = d.z.length := by omega
      rw [List.take_length] at hO
      have hIL := hO.isL (X' := fun b => w.heap.size + 2 ≤ b) (by omega) (fun _ h => h) (fun _ h => h)
      have E := (((Kn.from_ hbr hbr.size).give Stable.list hIL).know hB0).know hB1
      clear hO hLr hB0 hB1 hrow
      obtain ⟨q0, f0, t0⟩ := E.rules m0
      obtain ⟨q1, f1, t1⟩ := E.rules m1
      go_wp2
      have hA := (((((E.at_ m1).far (p := ⟨w.heap.size, 3, none⟩) (by show w.heap.size + 1 ≠ w.heap.size; omega) (.slice A9 d.z.length c9)).set_ 0 (.int .i64 d.cap)).set_ 1 (.int .i64 d.opn)).set_ 2 (.int .i64 d.act)).set_ 3 (.slice A9 d.z.length c9)
      have ht := ((((((Turned.refl wr (fun b => b = w.heap.size ∨ b = w.heap.size + 1)).set (g := w.heap.size) (.inl rfl) 3 (.slice A9 d.z.length c9)).set (g := w.heap.size + 1) (.inr rfl) 0 (.int .i64 d.cap)).set (g := w.heap.size + 1) (.inr rfl) 1 (.int .i64 d.opn)).set (g := w.heap.size + 1) (.inr rfl) 2 (.int .i64 d.act)).set (g := w.heap.size + 1) (.inr rfl) 3 (.slice A9 d.z.length c9))
      generalize ((((wr.setCell ⟨w.heap.size, 3, none⟩ (.slice A9 d.z.length c9)).setCell ⟨w.heap.size + 1, 0, none⟩ (.int .i64 d.cap)).setCell ⟨w.heap.size + 1, 1, none⟩ (.int .i64 d.opn)).setCell ⟨w.heap.size + 1, 2, none⟩ (.int .i64 d.act)).setCell ⟨w.heap.size + 1, 3, none⟩ (.slice A9 d.z.length c9) = w9 at hA ht ⊢
      obtain ⟨q9, f9⟩ := hA.rules
      have hI9 := hIL.turned ht (fun b hb h => by rcases h with h | h <;> omega)
      refine bodyPost_ret (v := .agg #[.int .i64 d.cap, .int .i64 d.opn, .int .i64 d.act, .slice A9 d.z.length c9]) (by simp [results, Try.results42, go_sem, q9]) rfl ⟨_, rfl, ⟨A9, c9, rfl, hI9.more fun _ _ => trivial, fun hp => ?_⟩, ?_⟩
      · obtain ⟨ad, _, _, e, _, hK, _⟩ := IsL.zone_at hI9 (List.getElem?_eq_getElem hp)
        exact ⟨ad, e, by have : w.heap.size + 2 ≤ ad.block := hK; omega⟩
      · exact hbr.trans (ht.below (fun b hb => by rcases hb with h | h <;> omega) hbr.size)

set_option maxRecDepth 100000 in
set_option maxHeartbeats 1000000 in
theorem sameDn_any (v u : Value) (a b : Dn) (w : World) (hv : IsDn w v a) (hu : IsDn w u b) :
    Calls Try.prog 43 #[v, u] w fun e w' => e = .returned (.bool (sameDn a b)) ∧ Below w.heap.size w w' := by
  obtain ⟨A, c, rfl, hsa⟩ := hv
  obtain ⟨A2, c2, rfl, hsb⟩ := hu
  obtain ⟨_, hra, _⟩ := hsa.open_
  obtain ⟨_, hrb, _⟩ := hsb.open_
  have hs1 := run_string_of (P := Try.prog) (cap := c) ((w.alloc (.cells #[.int .i64 a.e, .int .i64 a.at_, .slice A a.data.length c] 64)).alloc (.cells #[.int .i64 b.e, .int .i64 b.at_, .slice A2 b.data.length c2] 64)) 24 9 5 Try.underlying24 Try.underlying5 Try.underlying9 rfl ((hra.alloc _).alloc _)
  have hs2 := run_string_of (P := Try.prog) (cap := c2) ((w.alloc (.cells #[.int .i64 a.e, .int .i64 a.at_, .slice A a.data.length c] 64)).alloc (.cells #[.int .i64 b.e, .int .i64 b.at_, .slice A2 b.data.length c2] 64)) 24 9 5 Try.underlying24 Try.underlying5 Try.underlying9 rfl ((hrb.alloc _).alloc _)
  have W2 : Below w.heap.size w ((w.alloc (.cells #[.int .i64 a.e, .int .i64 a.at_, .slice A a.data.length c] 64)).alloc (.cells #[.int .i64 b.e, .int .i64 b.at_, .slice A2 b.data.length c2] 64)) := ((Below.refl _ _).alloc (Nat.le_refl _) _).alloc (by simp) _
  by_cases h1 : a.e = b.e
  · have h1b : (a.e == b.e) = true := beq_iff_eq.2 h1
    by_cases h2 : a.at_ = b.at_
    · have h2b : (a.at_ == b.at_) = true := beq_iff_eq.2 h2
      have hf : sameDn a b = (a.data == b.data) := by unfold sameDn; rw [h1b, h2b]; rfl
      rw [hf]
      clear h1 h2 hf
      go_enter Try.func43, Try.ntmps43
      go_wp2
      go_ret
      exact ⟨rfl, W2⟩
    · have h2b : (a.at_ == b.at_) = false := beq_eq_false_iff_ne.2 h2
      have hf : sameDn a b = false := by unfold sameDn; rw [h1b, h2b]; rfl
      rw [hf]
      clear h1 h2 hf
      go_enter Try.func43, Try.ntmps43
      go_wp2
      go_ret
      exact ⟨rfl, W2⟩
  · have h1b : (a.e == b.e) = false := beq_eq_false_iff_ne.2 h1
    have hf : sameDn a b = false := by unfold sameDn; rw [h1b]; rfl
    rw [hf]
    clear h1 hf
    go_enter Try.func43, Try.ntmps43
    go_wp2
    go_ret
    exact ⟨rfl, W2⟩
end Go.Proofs.Ytcjmcfjjbicimaa
