/- The walk of packer.copied. -/
import Derived.Test.YtpacjjaekmipfaaPack
import Derived.Deep.DeepMust
import Derived.Deep.DeepCutAuto
import Derived.Deep.RegionWith
namespace Go.Proofs.Ytpacjjaekmipfaa
open Go.RowKit

theorem splice_all {α : Type} (cur cs : List α) (h : cur.length = cs.length) : splice cur 0 cs = cs := by
  unfold splice
  rw [List.take_zero, List.nil_append, List.drop_of_length_le (by omega), List.append_nil]

theorem row_made {w : World} {base g n cap : Nat} {e : TypeId} {xs : List Value} (h : w.ownsRow base e 1 (.slice (some ⟨g, 0, none⟩) n cap) n xs) (hn : n = cap) : ∃ cur : List Value, w.heap[g]? = some (.cells cur.toArray e (0, 0)) ∧ cur.length = n := by
  rcases h.2 with ⟨h1, _⟩ | ⟨g', cap', cur, hv, _, hg, _, _, hcs, _⟩
  · cases h1
  · injection hv with e1 e2 e3
    injection e1 with e1
    injection e1 with e1
    subst e1 e3
    exact ⟨cur.toList, by simpa using hg, by simp [hcs, hn]⟩
theorem reads_at {w : World} {K : Nat → Prop} {A : Option Addr} {n : Nat} {cs : List Value} (h : Reads w K 1 A n cs) (hn : 0 < n) : ∃ ad, A = some ad ∧ ∀ j v, cs[j]? = some v → w.cell? (ad.add j) = some v := by
  obtain ⟨ad, e, _, hc⟩ := h.2 hn
  exact ⟨ad, e, hc⟩
theorem row_filled {w : World} {base g n : Nat} {e : TypeId} {xs cs : List Value} (h : w.heap[g]? = some (.cells xs.toArray e (0, 0))) (hx : xs = cs) (hn : cs.length = n) (hb : base ≤ g) (h63 : n ≤ 9223372036854775807) : w.ownsRow base e 1 (.slice (some ⟨g, 0, none⟩) n n) n cs := by
  subst hx
  exact ⟨by omega, .inr ⟨g, n, xs.toArray, rfl, hb, h, Nat.le_refl _, by unfold maxLen; omega, by simp [hn], by simp [← hn]⟩⟩
set_option maxRecDepth 100000 in
set_option maxHeartbeats 1600000 in
theorem copied15_any (v : Value) (p : Pk) (K : Nat → Prop) (w : World) (hv : IsPk w K v p) (hK : ∀ b, K b → b < w.heap.size) (hbl : p.buf.length ≤ 1099511627776) (hll : p.l.length ≤ 1000000000000) :
    Calls Try.prog 34 #[v] w fun e w' => ∃ A c A' c', e = .returned (pkV p (.slice A p.buf.length c) (.slice A' p.l.length c')) ∧ w'.ownsRow w.heap.size 5 1 (.slice A p.buf.length c) p.buf.length (cells8 p.buf) ∧
      OwnR Rp.rc w' w.heap.size 34 K (.slice A' p.l.length c') p.l ∧ Below w.heap.size w w' := by
  obtain ⟨vb, vl, rfl, hb, hl⟩ := hv
  obtain ⟨i0, hi, hz0, hz1, hz2⟩ := info_parts Try.info5
  have hb0 := hb
  have hl0 := hl
  obtain ⟨A, c, rfl, hbr, hbc, hbc2, _⟩ := hb
  obtain ⟨A2, c2, rfl, hlc, hlc2⟩ := hl.form
  have E := ((((Kn.start w).give Stable.list hl0).give Stable.bytes hb0).push 29 #[.int .i64 p.h.host, .int .i64 p.h.epoch, .int .i64 p.h.seq, .int .i64 p.zone, .int .i64 p.cap, .int .i64 p.at_, .slice A p.buf.length c, .slice A2 p.l.length c2]).push 29 #[.int .i64 0, .int .i64 0, .int .i64 0, .int .i64 0, .int .i64 0, .int .i64 0, .slice none 0 0, .slice none 0 0]
  rw [World.size_alloc] at E
  unfold pkV
  go_enter Try.func34, Try.ntmps34
  go_upto_region 1 with fail
  have hw2 : (((w.alloc (.cells #[.int .i64 p.h.host, .int .i64 p.h.epoch, .int .i64 p.h.seq, .int .i64 p.zone, .int .i64 p.cap, .int .i64 p.at_, .slice A p.buf.length c, .slice A2 p.l.length c2] 29)).alloc (.cells #[.int .i64 0, .int .i64 0, .int .i64 0, .int .i64 0, .int .i64 0, .int .i64 0, .slice none 0 0, .slice none 0 0] 29))).heap.size = w.heap.size + 1 + 1 := by simp
  generalize ((w.alloc (.cells #[.int .i64 p.h.host, .int .i64 p.h.epoch, .int .i64 p.h.seq, .int .i64 p.zone, .int .i64 p.cap, .int .i64 p.at_, .slice A p.buf.length c, .slice A2 p.l.length c2] 29)).alloc (.cells #[.int .i64 0, .int .i64 0, .int .i64 0, .int .i64 0, .int .i64 0, .int .i64 0, .slice none 0 0, .slice none 0 0] 29)) = w2 at E hw2 ⊢
  obtain ⟨qa, fa, ta⟩ := E.rules m1
  go_wp2_with (first
    | (at_make; go_must (refine wpList_make_full _ rfl _ _ 27 rfl w2.heap.size 5 i0 _ 1 Try.underlying27 hi hz0 hz1 _ _ _ _ p.buf.length rfl rfl (by omega) (by omega) (by rw [hz2]; omega) (by unfold maxLen; omega) (Nat.le_refl _) ?_)
       intro w1 how hg1
       have hbn : Below w2.heap.size w2 w1 := ⟨hg1.os, hg1.tape, hg1.output, hg1.size, fun k hk => hg1.block k hk (by simp)⟩
       have E1 := E.step hbn
       obtain ⟨qb, fb, tb⟩ := E1.rules m1
       obtain ⟨Ab, cb, eb, hbr1, _⟩ := E1.get m0
       injection eb with eb1 _ eb2
       subst eb1 eb2
       obtain ⟨cur, hcur, hcs⟩ := row_made how rfl
       have hszb : (Try.prog.info? 5).map (·.size) = some 1 := by rw [hi]; simp [hz1]
       have h8l : (cells8 p.buf).length = p.buf.length := by simp [cells8])
    | (refine wpList_copy_splice rfl _ _ _ _ rfl 5 Try.underlying27 hszb _ _ _ _ _ _ rfl rfl (w.heap.size + 1 + 1) 0 cur 5 (by rw [← hw2]; exact hcur) (cells8 p.buf) (by rw [h8l]; exact (Nat.min_self _).symm) (fun h => ⟨rfl, reads_at hbr1 (by omega)⟩) (by omega) (cells8_one _) (w.heap.size + 1 + 1) w1 (Below.refl _ _) (Nat.le_refl _) ?_
       intro w3 hg3 hb3
       have hb13 : Below w2.heap.size w2 w3 := hbn.trans (hb3.mono (by omega))
       have E3 := E.step hb13
       obtain ⟨qc, fc, tc⟩ := E3.rules m1
       have ownB := row_filled (base := w2.heap.size) hg3.out (splice_all cur (cells8 p.buf) (by omega)) h8l (by omega) (by omega)
       obtain ⟨_, ⟨cs, hrl, hcl⟩, _⟩ := (E3.get m1).open_))
  refine (cloneR_any A2 p.l.length c2 K cs _ hrl (CellsL.one hcl) (by omega)).mono ?_
  rintro e w4 ⟨A4, c4, rfl, own4, hb4⟩
  have E4 := E3.step hb4
  have ownB4 := own_below ownB hb4 (Nat.le_refl _)
  obtain ⟨qd, fd, td⟩ := E4.rules m1
  obtain ⟨qe, fe, te⟩ := E4.rules m0
  have hs3 := hb13.size
  have hs4 := hb4.size
  have hcl4 := hcl.step hb4
  clear E E3 qa qc fa fc qb fb
  go_wp2_with fail
  have t5 : Turned w4 ((w4.setCell ⟨w.heap.size, 6, none⟩ (.slice (some ⟨w.heap.size + 1 + 1, 0, none⟩) p.buf.length p.buf.length)).setCell ⟨w.heap.size, 7, none⟩ (.slice A4 p.l.length c4)) (· = w.heap.size) := ((Turned.refl w4 (· = w.heap.size)).set (g := w.heap.size) rfl 6 _).set (g := w.heap.size) rfl 7 _
  have B5 : Blk ((w4.setCell ⟨w.heap.size, 6, none⟩ (.slice (some ⟨w.heap.size + 1 + 1, 0, none⟩) p.buf.length p.buf.length)).setCell ⟨w.heap.size, 7, none⟩ (.slice A4 p.l.length c4)) (w.heap.size + 1) 29 #[.int .i64 0, .int .i64 0, .int .i64 0, .int .i64 0, .int .i64 0, .int .i64 0, .slice none 0 0, .slice none 0 0] := ((E4.at_ m0).far (p := ⟨w.heap.size, 6, none⟩) (by simp) _).far (p := ⟨w.heap.size, 7, none⟩) (by simp) _
  have h8 := st8_all B5 (.int .i64 p.h.host) (.int .i64 p.h.epoch) (.int .i64 p.h.seq) (.int .i64 p.zone) (.int .i64 p.cap) (.int .i64 p.at_) (.slice (some ⟨w.heap.size + 1 + 1, 0, none⟩) p.buf.length p.buf.length) (.slice A4 p.l.length c4)
  obtain ⟨w9, hw9⟩ : ∃ w9, st8 ((w4.setCell ⟨w.heap.size, 6, none⟩ (.slice (some ⟨w.heap.size + 1 + 1, 0, none⟩) p.buf.length p.buf.length)).setCell ⟨w.heap.size, 7, none⟩ (.slice A4 p.l.length c4)) (w.heap.size + 1) (.int .i64 p.h.host) (.int .i64 p.h.epoch) (.int .i64 p.h.seq) (.int .i64 p.zone) (.int .i64 p.cap) (.int .i64 p.at_) (.slice (some ⟨w.heap.size + 1 + 1, 0, none⟩) p.buf.length p.buf.length) (.slice A4 p.l.length c4) = w9 := ⟨_, rfl⟩
  rw [hw9] at h8
  unfold st8 at hw9
  rw [hw9]
  have hb6 := below_turned (below_turned E4.below t5 (Nat.le_refl _) E4.below.size) h8.2 (by omega) (by have := t5.size; have := E4.below.size; omega)
  obtain ⟨q9, f9⟩ := h8.1.rules
  have ownB9 := own_turned (own_turned ownB4 t5 (by omega)) h8.2 (by omega)
  have own9 := own_turned (own_turned own4 t5 (by omega)) h8.2 (by omega)
  refine bodyPost_ret (v := .agg #[.int .i64 p.h.host, .int .i64 p.h.epoch, .int .i64 p.h.seq, .int .i64 p.zone, .int .i64 p.cap, .int .i64 p.at_, .slice (some ⟨w.heap.size + 1 + 1, 0, none⟩) p.buf.length p.buf.length, .slice A4 p.l.length c4]) (by simp [results, Try.results34, go_sem, q9]) rfl ⟨_, _, _, _, rfl, own_base ownB9 (by omega), ⟨A4, c4, cs, rfl, own_base own9 (by omega), ?_⟩, hb6⟩
  refine (hcl4.keep (w' := w9) fun q hq _ => ?_).more fun b hb => ?_
  · have h1 := hK _ hq
    rw [World.cell?_of_block (h8.2.block q.block (by have := t5.size; omega) (by omega)), World.cell?_of_block (t5.block q.block (by omega) (by omega))]
  · have h1 := hK _ hb
    refine ⟨hb, by have := hb6.size; omega, fun e => ?_⟩
    have := (own9.lt b e.symm).1
    omega
end Go.Proofs.Ytpacjjaekmipfaa
