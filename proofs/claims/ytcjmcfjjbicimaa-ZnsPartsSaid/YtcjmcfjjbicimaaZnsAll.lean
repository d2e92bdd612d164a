/- The walk of zns.All. -/
import Derived.Test.YtcjmcfjjbicimaaZnsDo
import Derived.Test.YtcjmcfjjbicimaaZnsUsed
import Derived.Test.YtcjmcfjjbicimaaRefCopy05
namespace Go.Proofs.Ytcjmcfjjbicimaa
open Go.RowKit

/-- an answer's cells; its bytes are not looked at -/
def Rp.ans : Rp (Int × Int) := ⟨3, fun _ _ cs o => ∃ A n c, cs = [.int .i64 o.1, .int .i64 o.2, .slice A n c],
  by rintro _ _ _ _ ⟨A, n, c, rfl⟩; rfl, fun h _ => h, fun h _ => h,
  by
    rintro _ _ _ _ ⟨A, n, c, rfl⟩ u hu
    simp only [List.mem_cons, List.not_mem_nil, or_false] at hu
    rcases hu with rfl | rfl | rfl <;> rfl⟩
theorem Try.infDn : (Try.prog.info? 64).map (fun i => (i.zero, i.size, i.bytes)) = some (some (.agg #[.int .i64 0, .int .i64 0, .slice none 0 0]), 3, 40) := by kernel_rfl
def stepA (s : Zd × List (Int × Int)) (c : Cm) : Zd × List (Int × Int) := ((doZ s.1 c).1, s.2 ++ [((doZ s.1 c).2.e, (doZ s.1 c).2.at_)])
def allZ (d : Zd) (l : List Cm) : Zd × List (Int × Int) := l.foldl stepA (d, [])
theorem allZ_take (d : Zd) (l : List Cm) {j : Nat} (hj : j < l.length) : allZ d (l.take (j + 1)) = stepA (allZ d (l.take j)) l[j] := by
  unfold allZ
  rw [List.take_succ_eq_append_getElem hj, List.foldl_append]
  rfl
theorem doZ_len (d : Zd) (c : Cm) : (doZ d c).1.z.length = d.z.length := by
  have h := doK_len d c.zone.toNat c
  unfold doZ
  dsimp only
  (repeat' split) <;> simp [h]
theorem allZ_len (d : Zd) (l : List Cm) : (allZ d l).1.z.length = d.z.length ∧ (allZ d l).2.length = l.length := by
  unfold allZ
  have h : ∀ (l : List Cm) (s : Zd × List (Int × Int)), (l.foldl stepA s).1.z.length = s.1.z.length ∧ (l.foldl stepA s).2.length = s.2.length + l.length := by
    intro l
    induction l with
    | nil => intro s; exact ⟨rfl, rfl⟩
    | cons c l ih =>
      intro s
      rw [List.foldl_cons]
      obtain ⟨h1, h2⟩ := ih (stepA s c)
      refine ⟨h1.trans (doZ_len _ _), h2.trans ?_⟩
      simp [stepA]; omega
  obtain ⟨h1, h2⟩ := h l (d, [])
  exact ⟨h1, by simpa using h2⟩
theorem OwnR.turned5 {α : Type} {R : Rp α} {w w' : World} {base : Nat} {e : TypeId} {X S : Nat → Prop} {A : Option Addr} {n c : Nat} {l : List α} (h : OwnR R w base e X (.slice A n c) l) (ht : Turned w w' S)
    (hrow : ∀ g, (Value.slice A n c).ownBlock = some g → ¬ S g) (hX : ∀ b, X b → ¬ S b) : OwnR R w' base e X (.slice A n c) l := by
  obtain ⟨A', c', cs, hv, h1, h2⟩ := h
  refine ⟨A', c', cs, hv, ?_, (h2.turned ht (fun b hb => hX b hb.1)).more fun b hb => ⟨hb.1, Nat.lt_of_lt_of_le hb.2.1 ht.size, hb.2.2⟩⟩
  have hlt := h1.lt
  rw [← hv] at h1 hlt ⊢
  refine ⟨h1.1, ?_⟩
  rcases h1.2 with h3 | ⟨g', cap, cur, hv', hg, hh, r⟩
  · exact .inl h3
  · have ho : (Value.slice A n c).ownBlock = some g' := by rw [hv']; rfl
    exact .inr ⟨g', cap, cur, hv', hg, (ht.block g' (hlt g' ho).2 (hrow g' ho)).trans hh, r⟩

set_option linter.unusedSimpArgs false in
set_option maxRecDepth 100000 in
set_option maxHeartbeats 8000000 in
theorem all_any (d : Zd) (l : List Cm) (A : Option Addr) (k : Nat) (u : Value) (K : Nat → Prop) (w : World) (hL : IsL Rp.zone w K (.slice A d.z.length k) d.z) (hl : IsL Rp.cmd w K u l) (hlt : ∀ b, K b → b < w.heap.size) (hn : d.z.length * 40 ≤ 140737488355328) (hm : l.length * 40 ≤ 140737488355328) :
    Calls Try.prog 54 #[.agg #[.int .i64 d.cap, .int .i64 d.opn, .int .i64 d.act, .slice A d.z.length k], u] w fun e w' => ∃ v A9 c9, e = .returned (.tuple #[v, .slice A9 l.length c9]) ∧ DevAt w' (fun b => w.heap.size ≤ b) v (allZ d l).1 ∧ IsL Rp.ans w' (fun b => w.heap.size ≤ b) (.slice A9 l.length c9) (allZ d l).2 ∧ Below w.heap.size w w' := by
  obtain ⟨i0, hi, hz0, hz1, hz2⟩ := info_parts Try.infDn
  obtain ⟨Al, cl, rfl, hllc, hlcc⟩ := hl.form
  have hlenl := hl.len
  have E := ((Kn.start w).give Stable.list hL).push 53 #[.int .i64 d.cap, .int .i64 d.opn, .int .i64 d.act, .slice A d.z.length k] |>.push 53 #[.int .i64 0, .int .i64 0, .int .i64 0, .slice none 0 0]
  rw [World.size_alloc] at E
  clear hL
  go_enter Try.func54, Try.ntmps54
  go_upto_region 2 with fail
  obtain ⟨wA, hwA⟩ : ∃ wA, (w.alloc (.cells #[.int .i64 d.cap, .int .i64 d.opn, .int .i64 d.act, .slice A d.z.length k] 53)).alloc (.cells #[.int .i64 0, .int .i64 0, .int .i64 0, .slice none 0 0] 53) = wA := ⟨_, rfl⟩
  have hsA : w.heap.size + 2 ≤ wA.heap.size := by rw [← hwA]; simp [World.size_alloc]
  rw [hwA] at E ⊢
  clear hwA
  go_wp2
  have hL0 := E.get m0
  have hB1 := E.at_ m0
  have hB0 := E.at_ m1
  have hbA := E.below
  clear E
  go_loopw [6, 8, 9, 12] (fun o x y i wr => ∃ (j : Nat) (A9 : Option Addr) (c9 : Nat) (dj : Zd) (aj : List (Int × Int)) (Ad : Option Addr) (kd : Nat), i = .int .i64 j ∧ j ≤ l.length ∧ allZ d (l.take j) = (dj, aj) ∧ o = .slice A9 j c9 ∧
    OwnR Rp.ans wr (w.heap.size + 2) 64 (fun _ => False) (.slice A9 j c9) aj ∧
    Blk wr w.heap.size 53 #[.int .i64 dj.cap, .int .i64 dj.opn, .int .i64 dj.act, .slice Ad dj.z.length kd] ∧ IsL Rp.zone wr (fun b => (K b ∨ w.heap.size + 2 ≤ b) ∧ b < wr.heap.size ∧ some b ≠ (Value.slice A9 j c9).ownBlock) (.slice Ad dj.z.length kd) dj.z ∧
    Blk wr (w.heap.size + 1) 53 #[.int .i64 0, .int .i64 0, .int .i64 0, .slice none 0 0] ∧ Below w.heap.size w wr ∧ w.heap.size + 2 ≤ wr.heap.size ∧ (∃ y1, x = y1) ∧ (∃ y2, y = y2)) (fun _ _ _ i _ => l.length - (intOf i).toNat)
  case atStart => exact ⟨0, none, 0, d, [], A, k, rfl, Nat.zero_le _, rfl, rfl, OwnR.nil_ _ _ _ _, hB0, hL0.more (fun b hb => ⟨.inl hb, by have := hlt b hb; omega, by simp [Value.ownBlock]⟩), hB1, hbA, hsA, ⟨_, rfl⟩, _, rfl⟩
  case round =>
    clear hL0 hB0 hB1 hbA hsA
    obtain ⟨j, A9, c9, dj, aj, Ad, kd, rfl, hj, haj, rfl, hO, hB0, hLd, hB1, hbr, hsr, ⟨y1, rfl⟩, y2, rfl⟩ := hrel
    have hrow := OwnR.rowlt5 hO
    have hlr : IsL Rp.cmd wr K (.slice Al l.length cl) l := hl.keep fun p hp _ => hbr.cell (hlt _ hp)
    have hdl : dj.z.length = d.z.length := by have := (allZ_len d (l.take j)).1; rw [haj] at this; exact this
    have hal : aj.length = j := by have := (allZ_len d (l.take j)).2; rw [haj, List.length_take, Nat.min_eq_left hj] at this; exact this
    have HAJ := Lib.hid haj; have HDL := Lib.hid hdl; have HAL := Lib.hid hal
    clear haj hdl hal
    by_cases hltj : j < l.length
    · obtain ⟨c, hc⟩ : ∃ c, l[j] = c := ⟨_, rfl⟩
      obtain ⟨ad, B, kB, rfl, hadb, _, hBc, hrg, hc0, hc1, hc2, hc3, hc4, hc5⟩ := IsL.cmd_at hlr (List.getElem?_eq_getElem hltj)
      rw [hc] at hBc hrg hc0 hc1 hc2 hc3 hc4 hc5
      have HC := Lib.hid hc
      clear hc
      have j1 : (j : Int) < (l.length : Int) := by omega
      have j0 : (0 : Int) ≤ (j : Int) := by omega
      have F := (((((Kn.start wr).give Stable.bytes hBc).give Stable.list hLd).give (f := fun W => OwnR Rp.ans W (w.heap.size + 2) 64 (fun _ => False) (.slice A9 j c9) aj) (fun _ _ h hb => OwnR.step h hb) hO).know hB1 |>.know hB0 |>.push 62 #[.int .i64 c.op, .int .i64 c.zone, .int .i64 c.epoch, .int .i64 c.off, .int .i64 c.n, .slice B c.data.length kB]).push 64 #[.int .i64 0, .int .i64 0, .slice none 0 0]
      rw [World.size_alloc] at F
      clear hBc hLd hO hB0 hB1 hlr
      obtain ⟨q0, f0, t0⟩ := F.rules m2
      have hW1 : ((wr.alloc (.cells #[.int .i64 c.op, .int .i64 c.zone, .int .i64 c.epoch, .int .i64 c.off, .int .i64 c.n, .slice B c.data.length kB] 62)).alloc (.cells #[.int .i64 0, .int .i64 0, .slice none 0 0] 64)).heap.size = wr.heap.size + 2 := by simp [World.size_alloc]
      go_wp2_with fail
      refine (do_any dj c Ad kd B kB _ _ (F.get m1) (fun b hb => by rw [hW1]; have := hb.2.1; omega) ((F.get m2).more fun b hb => ⟨.inl hb, by have := hlt b hb; omega, fun e => by have := (hrow b e.symm).1; have := hlt b hb; omega⟩) (by rw [HDL.out]; exact hn) hrg.off.2).mono ?_
      obtain ⟨r, hr⟩ : ∃ r, doZ dj c = r := ⟨_, rfl⟩
      rw [hr]
      have HR := Lib.hid hr
      clear hr
      rintro e w4 ⟨v1, v2, rfl, ⟨A5, k5, rfl, hL5, hA5⟩, ⟨A6, k6, rfl, hB6⟩, hb4⟩
      rw [hW1] at hL5 hA5
      have hb4s := hb4.size
      rw [hW1] at hb4s
      replace F := F.step hb4
      clear q0 f0 t0 hc0 hc1 hc2 hc3 hc4 hc5
      have h7 := st7_all (F.at_ m2) (F.at_ m0) (by omega) (.int .i64 r.1.cap) (.int .i64 r.1.opn) (.int .i64 r.1.act) (.slice A5 r.1.z.length k5) (.int .i64 r.2.e) (.int .i64 r.2.at_) (.slice A6 r.2.data.length k6)
      have hO4 : OwnR Rp.ans w4 (w.heap.size + 2) 64 (fun _ => False) (.slice A9 j c9) aj := F.get m0
      have hB14 := F.at_ m3
      obtain ⟨q0, f0, t0⟩ := F.rules m2
      obtain ⟨q1, f1, t1⟩ := F.rules m0
      have hFb := F.below
      clear hb4 F
      go_upto_region 7 with fail
      obtain ⟨hA7, hB7, ht7⟩ := h7
      unfold st7 at hA7 hB7 ht7
      generalize ((((((w4.setCell ⟨w.heap.size, 0, none⟩ (.int .i64 r.1.cap)).setCell ⟨w.heap.size, 1, none⟩ (.int .i64 r.1.opn)).setCell ⟨w.heap.size, 2, none⟩ (.int .i64 r.1.act)).setCell ⟨w.heap.size, 3, none⟩ (.slice A5 r.1.z.length k5)).setCell ⟨wr.heap.size + 1, 0, none⟩ (.int .i64 r.2.e)).setCell ⟨wr.heap.size + 1, 1, none⟩ (.int .i64 r.2.at_)).setCell ⟨wr.heap.size + 1, 2, none⟩ (.slice A6 r.2.data.length k6) = w5 at hA7 hB7 ht7 ⊢
      clear q0 f0 t0 q1 f1 t1
      have hO5 := hO4.turned5 ht7 (fun g hg h => by have := hrow g hg; omega) (fun _ h => h.elim)
      have hL5' := (hL5.turned ht7 (fun b hb h => by rcases hb with hb | hb; have := hb.2.1; rcases hb.1 with hk | hk; have := hlt b hk; omega; omega; omega)).zlt
      have hB5 := hB14.turned ht7 (by omega)
      have hs5 := ht7.size
      have hb5 : Below w.heap.size w w5 := (hbr.trans (hFb.mono hbr.size)).trans (ht7.below (fun b hb => by omega) (by omega))
      clear hO4 hL5 hB14 ht7 hFb
      obtain ⟨q0, f0, t0⟩ : (∀ o, w5.cell? ⟨wr.heap.size + 1, o, none⟩ = _) ∧ (∀ o, w5.frozen? ⟨wr.heap.size + 1, o, none⟩ = false) ∧ wr.heap.size + 1 < w5.heap.size := ⟨hB7.cell, hB7.frozen, hB7.lt⟩
      obtain ⟨hjj, cs, own5, cl5⟩ := hO5.open_
      have HJ := Lib.hid hjj
      clear hjj
      rw [HAL.out] at own5 cl5
      replace own5 : w5.ownsRow (w.heap.size + 2) 64 3 (.slice A9 j c9) j cs := own5
      clear hO5
      go_wp2_with (at_builtin; refine wpList_appN rfl _ _ _ rfl (w.heap.size + 2) 64 i0 _ 3 40 Try.underlying79 hi hz0 hz1 hz2 rfl (by omega) rfl (own5.alloc _) rfl (Reads.new (xs := [.int .i64 r.2.e, .int .i64 r.2.at_, .slice A6 r.2.data.length k6]) (n := 1) rfl rfl rfl) (by intro u hu; simp at hu; rcases hu with rfl | rfl | rfl <;> rfl) (by simp only [maxLen]; omega) (by omega) (by simp; omega) ?_; intro A8 c8 w6 own8 hg8)
      go_roundw
      case rel =>
        have hsz6 : (w5.alloc (.cells #[.int .i64 r.2.e, .int .i64 r.2.at_, .slice A6 r.2.data.length k6] 64)).heap.size = w5.heap.size + 1 := World.size_alloc _ _
        have hg9 : Grew (w.heap.size + 2) (w5.alloc (.cells #[.int .i64 r.2.e, .int .i64 r.2.at_, .slice A6 r.2.data.length k6] 64)) w6 (.slice A9 j c9) (.slice A8 (j + 1) c8) := hg8
        have hp := OwnR.push (R := Rp.ans) (X := fun _ => False) (l := aj) (a := (r.2.e, r.2.at_)) (A := A9) (A' := A8) (c := c9) (c' := c8) (w := w5.alloc (.cells #[.int .i64 r.2.e, .int .i64 r.2.at_, .slice A6 r.2.data.length k6] 64)) (news := [.int .i64 r.2.e, .int .i64 r.2.at_, .slice A6 r.2.data.length k6])
          (by rw [HAL.out]; exact (cl5.alloc _).more fun b hb => hb.1.elim) ⟨_, _, _, rfl⟩ (by rw [HAL.out]; exact own8) (by rw [HAL.out]; exact hg9)
        rw [HAL.out] at hp
        have hg2 := hg9.below.size
        have hb6 : Below w.heap.size w w6 := (hb5.alloc hb5.size _).trans (hg9.below.mono (by omega))
        refine ⟨j + 1, A8, c8, r.1, aj ++ [(r.2.e, r.2.at_)], A5, k5, by go_num, by omega, ?_, rfl, hp, (hA7.alloc _).grew (own5.alloc _) (by decide) hg9, ?_, (hB5.alloc _).grew (own5.alloc _) (by decide) hg9, hb6, by omega, ⟨_, rfl⟩, _, rfl⟩
        · rw [allZ_take d l hltj, HAJ.out, HC.out]
          show ((doZ dj c).1, aj ++ [((doZ dj c).2.e, (doZ dj c).2.at_)]) = _
          rw [HR.out]
        · have hne : ∀ b, (((K b ∨ w.heap.size + 2 ≤ b) ∧ b < wr.heap.size ∧ some b ≠ (Value.slice A9 j c9).ownBlock ∨ wr.heap.size + 2 ≤ b) ∧ b < w5.heap.size) → some b ≠ (Value.slice A9 j c9).ownBlock := fun b hb => by
            rcases hb.1 with h | h
            · exact h.2.2
            · intro e
              have := (hrow b e.symm).2
              omega
          refine ((hL5'.alloc _).keep (w' := w6) fun p hp hl => World.cell?_of_block (hg9.grown.block p.block hl (hne _ hp))).more fun b hb => ⟨?_, by omega, ?_⟩
          · rcases hb.1 with h | h
            · exact h.1
            · exact .inr (by omega)
          · rcases hg9.at_ with h5 | ⟨g, h5, h6⟩
            · rw [h5]; exact hne b hb
            · rw [h5]
              intro e
              injection e with e
              have := hb.2
              omega
      case measure => simp [intOf]; omega
    · obtain rfl : j = l.length := by omega
      have F := ((((Kn.from_ hbr hbr.size).give Stable.list hLd).give (f := fun W => OwnR Rp.ans W (w.heap.size + 2) 64 (fun _ => False) (.slice A9 l.length c9) aj) (fun _ _ h hb => OwnR.step h hb) hO).know hB1).know hB0
      have hall : allZ d l = (dj, aj) := by have := HAJ.out; rw [List.take_length] at this; exact this
      have HALL := Lib.hid hall
      clear hall HAJ hLd hO hB0 hB1 hlr
      obtain ⟨q0, f0, t0⟩ := F.rules m0
      go_wp2_with fail
      refine (copied_any dj _ _ _ (F.get m1) (by rw [HDL.out]; exact hn) (fun b hb => hb.2.1)).mono ?_
      rintro e w5 ⟨v', rfl, ⟨A5, c5, rfl, hL5, hR5⟩, hb5⟩
      replace F := F.step hb5
      have hO5 : OwnR Rp.ans w5 (w.heap.size + 2) 64 (fun _ => False) (.slice A9 l.length c9) aj := F.get m0
      clear q0 f0 t0
      obtain ⟨q0, f0, t0⟩ := F.rules m1
      go_wp2
      have hA := ((((F.at_ m1).set_ 0 (.int .i64 dj.cap)).set_ 1 (.int .i64 dj.opn)).set_ 2 (.int .i64 dj.act)).set_ 3 (.slice A5 dj.z.length c5)
      have ht := ((((Turned.refl w5 (fun b => b = w.heap.size + 1)).set (g := w.heap.size + 1) rfl 0 (.int .i64 dj.cap)).set (g := w.heap.size + 1) rfl 1 (.int .i64 dj.opn)).set (g := w.heap.size + 1) rfl 2 (.int .i64 dj.act)).set (g := w.heap.size + 1) rfl 3 (.slice A5 dj.z.length c5)
      generalize (((w5.setCell ⟨w.heap.size + 1, 0, none⟩ (.int .i64 dj.cap)).setCell ⟨w.heap.size + 1, 1, none⟩ (.int .i64 dj.opn)).setCell ⟨w.heap.size + 1, 2, none⟩ (.int .i64 dj.act)).setCell ⟨w.heap.size + 1, 3, none⟩ (.slice A5 dj.z.length c5) = w9 at hA ht ⊢
      obtain ⟨q9, f9⟩ := hA.rules
      have hO9 := hO5.turned5 ht (fun g hg h => by have := (hrow g hg).1; omega) (fun _ h => h.elim)
      have hI9 := hO9.isL (X' := fun b => w.heap.size ≤ b) (by rw [HAL.out]; omega) (fun b hb => by (show w.heap.size ≤ b); omega) (fun _ h => h.elim)
      refine bodyPost_ret (v := .tuple #[.agg #[.int .i64 dj.cap, .int .i64 dj.opn, .int .i64 dj.act, .slice A5 dj.z.length c5], .slice A9 l.length c9]) (by simp [results, Try.results54, go_sem, q9]) rfl ⟨_, A9, c9, rfl, ?_, ?_, ?_⟩
      · rw [HALL.out]
        exact ⟨A5, c5, rfl, (hL5.turned ht (fun b hb h => by rcases hb with hb | hb; rcases hb.1 with hk | hk; have := hlt b hk; omega; omega; omega)).more fun _ _ => trivial, fun hp => let ⟨gz, e, hg, _⟩ := hR5 hp; ⟨_, e, by (show w.heap.size ≤ gz); omega⟩⟩
      · rw [HALL.out]; exact hI9
      · exact F.below.trans (ht.below (fun b hb => by omega) F.below.size)
end Go.Proofs.Ytcjmcfjjbicimaa
