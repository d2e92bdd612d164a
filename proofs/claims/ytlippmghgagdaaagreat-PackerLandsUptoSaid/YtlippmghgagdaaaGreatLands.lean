/- The walk of quicksetlaw15.PackerLands. -/
import Derived.Test.YtlippmghgagdaaaGreatLandLaw
import Derived.Test.YtlippmghgagdaaaGreatRgn
import Derived.Test.YtlippmghgagdaaaGreatZnsDo
import Derived.Test.YtlippmghgagdaaaGreatPackLive
import Derived.Test.YtlippmghgagdaaaGreatPackAdd
import Derived.Test.YtlippmghgagdaaaGreatScan
import Derived.Test.YtlippmghgagdaaaGreatSameSeg
import Derived.Test.YtlippmghgagdaaaGreatOpenLL
namespace Go.Proofs.YtlippmghgagdaaaGreat
open Go.RowKit

theorem newD_land {M : Int} (hM : 1 ≤ M ∧ M ≤ 65536) : newD 2 M 1 1 = (⟨M, 1, 1, [z0, z0]⟩, 0) := by
  have hok : okD ⟨M, 1, 1, [z0, z0]⟩ := landD_ok (b := []) (e := 0) (by omega) hM (by simp; omega)
  have hr : List.replicate (2 : Int).toNat z0 = [z0, z0] := rfl
  unfold newD
  rw [if_neg (by omega), hr]
  unfold chkD
  rw [if_pos hok]
  simp
theorem want_len {l : List Rc} (hok : ∀ r ∈ l, OkRc r) (he : errL l = 0) : 5 * l.length ≤ (frsL l).length := by
  have hm := errL_mem he
  clear he
  induction l with
  | nil => simp
  | cons r l ih =>
    have h1 := ((recL_len (hok r (List.mem_cons_self ..))).2 (hm r (List.mem_cons_self ..))).2
    have h2 := ih (fun x hx => hok x (List.mem_cons_of_mem _ hx)) (fun x hx => hm x (List.mem_cons_of_mem _ hx))
    simp only [frsL, List.length_append, List.length_cons]
    omega

theorem head_epoch {h : Hd} (he : (headL h).2 = 0) : 0 ≤ h.epoch := by
  have h1 : (numsL (headN h)).2 = 0 := by
    unfold headL at he
    by_cases h1 : (numsL (headN h)).2 = 0
    · exact h1
    · rw [if_pos h1] at he; exact absurd he h1
  unfold numsL at h1
  by_cases h2 : ∀ n ∈ headN h, 0 ≤ n
  · exact h2 _ (by simp [headN])
  · rw [if_neg h2] at h1; simp at h1
theorem begin_ok {h : Hd} {M : Int} {p : Pk} {f : Int} (hb : beginL h 1 M = (p, f)) (hf : f = 0) : (headL h).2 = 0 := by
  subst hf
  unfold beginL at hb
  split at hb
  · rename_i h1; simp only [Prod.mk.injEq] at hb; exact absurd hb.2 h1
  · rename_i h1; exact Decidable.not_not.1 h1

/-- four cells stored -/
theorem l4_all {w : World} {a : Nat} {ta : TypeId} {u0 u1 u2 u3 : Value} (hA : Blk w a ta #[u0, u1, u2, u3]) (x0 x1 x2 x3 : Value) :
    Blk ((((w.setCell ⟨a, 0, none⟩ x0).setCell ⟨a, 1, none⟩ x1).setCell ⟨a, 2, none⟩ x2).setCell ⟨a, 3, none⟩ x3) a ta #[x0, x1, x2, x3] ∧
    Turned w ((((w.setCell ⟨a, 0, none⟩ x0).setCell ⟨a, 1, none⟩ x1).setCell ⟨a, 2, none⟩ x2).setCell ⟨a, 3, none⟩ x3) (fun k => k = a) :=
  ⟨(((hA.set_ 0 x0).set_ 1 x1).set_ 2 x2).set_ 3 x3, ((((Turned.refl w (fun k => k = a)).set (g := a) rfl 0 x0).set (g := a) rfl 1 x1).set (g := a) rfl 2 x2).set (g := a) rfl 3 x3⟩
/-- what Do answers of the segment's device -/
def LandPost (K : Nat → Prop) (W : World) (M : Int) (zs : List Zn) (x : Dn) (en : Ending) (w' : World) : Prop :=
  ∃ A k A2 k2, en = .returned (.tuple #[.agg #[.int .i64 M, .int .i64 1, .int .i64 1, .slice A 2 k], .agg #[.int .i64 x.e, .int .i64 x.at_, .slice A2 x.data.length k2]]) ∧
    IsL Rp.zone w' (fun b => K b ∨ W.heap.size ≤ b) (.slice A 2 k) zs ∧ IsB w' (fun _ => True) (.slice A2 x.data.length k2) x.data ∧ Below W.heap.size W w'
theorem landPost_of {K : Nat → Prop} {W w' : World} {M : Int} {zs : List Zn} {x : Dn} {en : Ending} (hz : zs.length = 2) (h : DoPost K W (⟨M, 1, 1, zs⟩, x) en w') : LandPost K W M zs x en w' := by
  obtain ⟨v1, v2, rfl, ⟨A, c, rfl, h1, _⟩, ⟨A2, k2, rfl, h2⟩, hb⟩ := h
  simp only [hz] at h1 ⊢
  exact ⟨A, c, A2, k2, rfl, h1, h2, hb⟩
theorem do_fence (M e : Int) (A : Option Addr) (k : Nat) (K : Nat → Prop) (W : World) (hM : 1 ≤ M ∧ M ≤ 65536) (hz : IsL Rp.zone W K (.slice A 2 k) [z0, z0]) (hlt : ∀ b, K b → b < W.heap.size) :
    Calls Tryz.prog 15 #[.agg #[.int .i64 M, .int .i64 1, .int .i64 1, .slice A 2 k], .agg #[.int .i64 7, .int .i64 1, .int .i64 e, .int .i64 0, .int .i64 0, .slice none 0 0]] W
      (LandPost K W M (if 1 ≤ e then [z0, landZ e M []] else [z0, z0]) (if 1 ≤ e then dn0 else ⟨42, 0, []⟩)) := by
  have h := do_any ⟨M, 1, 1, [z0, z0]⟩ ⟨7, 1, e, 0, 0, []⟩ A k none 0 K W hz hlt (IsB.nil_ _ _) (by simp) (show (0 : Int) ≤ 9223372036854775807 by decide)
  rw [land_fence hM] at h
  refine Calls.mono h fun en w' hp => ?_
  by_cases h1 : 1 ≤ e
  · rw [if_pos h1] at hp ⊢; rw [if_pos h1]; exact landPost_of rfl hp
  · rw [if_neg h1] at hp ⊢; rw [if_neg h1]; exact landPost_of rfl hp
theorem do_append (M e : Int) (b x : List UInt8) (A : Option Addr) (k : Nat) (Ac : Option Addr) (kc : Nat) (K : Nat → Prop) (W : World) (he : 0 ≤ e) (hM : 1 ≤ M ∧ M ≤ 65536) (hx : x ≠ []) (hb : (b.length : Int) + x.length ≤ M)
    (hz : IsL Rp.zone W K (.slice A 2 k) [z0, landZ e M b]) (hlt : ∀ b, K b → b < W.heap.size) (hB : IsB W K (.slice Ac x.length kc) x) :
    Calls Tryz.prog 15 #[.agg #[.int .i64 M, .int .i64 1, .int .i64 1, .slice A 2 k], .agg #[.int .i64 1, .int .i64 1, .int .i64 e, .int .i64 0, .int .i64 0, .slice Ac x.length kc]] W
      (LandPost K W M [z0, landZ e M (b ++ x)] ⟨0, b.length, []⟩) := by
  have h := do_any (landD M e b) ⟨1, 1, e, 0, 0, x⟩ A k Ac kc K W hz hlt hB (by simp [landD]) (show (0 : Int) ≤ 9223372036854775807 by decide)
  rw [land_append he hM hx hb] at h
  exact Calls.mono h fun en w' hp => landPost_of rfl hp
theorem do_read (M e o n : Int) (b : List UInt8) (A : Option Addr) (k : Nat) (K : Nat → Prop) (W : World) (he : 0 ≤ e) (hM : 1 ≤ M ∧ M ≤ 65536) (hb : (b.length : Int) ≤ M) (h0 : 0 ≤ o) (h1 : 0 ≤ n) (h2 : o + n ≤ b.length)
    (hz : IsL Rp.zone W K (.slice A 2 k) [z0, landZ e M b]) (hlt : ∀ b, K b → b < W.heap.size) :
    Calls Tryz.prog 15 #[.agg #[.int .i64 M, .int .i64 1, .int .i64 1, .slice A 2 k], .agg #[.int .i64 2, .int .i64 1, .int .i64 e, .int .i64 o, .int .i64 n, .slice none 0 0]] W
      (LandPost K W M [z0, landZ e M b] ⟨0, 0, (b.drop o.toNat).take n.toNat⟩) := by
  have h := do_any (landD M e b) ⟨2, 1, e, o, n, []⟩ A k none 0 K W hz hlt (IsB.nil_ _ _) (by simp [landD]) (by show o ≤ _; omega)
  rw [land_read he hM hb h0 h1 h2] at h
  exact Calls.mono h fun en w' hp => landPost_of rfl hp

/-- a row of the call's own while one block of another type is written -/
theorem own_boxT {w w' : World} {base g : Nat} {e t : TypeId} {size n : Nat} {v : Value} {xs : List Value} {cs : Array Value} (h : w.ownsRow base e size v n xs) (hB : Blk w g t cs) (hne : e ≠ t) (ht : Turned w w' (fun k => k = g)) : w'.ownsRow base e size v n xs := by
  refine ⟨h.1, ?_⟩
  rcases h.2 with h2 | ⟨g', cap, cur, hv, hg, hh, r⟩
  · exact .inl h2
  · have hgg : g' ≠ g := Blk.ne_ (t := e) hh hB hne
    exact .inr ⟨g', cap, cur, hv, hg, (ht.block g' (Array.getElem?_eq_some_iff.1 hh).1 hgg).trans hh, r⟩
theorem OwnR.boxT {α : Type} {R : Rp α} {w w' : World} {base g : Nat} {e t : TypeId} {X : Nat → Prop} {v : Value} {l : List α} {cs : Array Value} (h : OwnR R w base e X v l) (hB : Blk w g t cs) (hne : e ≠ t) (hX : ¬ X g) (ht : Turned w w' (fun k => k = g)) : OwnR R w' base e X v l := by
  obtain ⟨A, c, cs', rfl, h1, h2⟩ := h
  refine ⟨A, c, cs', rfl, own_boxT h1 hB hne ht, ?_⟩
  exact ((h2.turned ht (fun b hb e => hX (by rw [← e]; exact hb.1)))).more fun b hb => ⟨hb.1, by have := ht.size; omega, hb.2.2⟩
theorem IsL.grewK {α : Type} {R : Rp α} {w w' : World} {base : Nat} {K : Nat → Prop} {v v0 v1 : Value} {l : List α} (h : IsL R w K v l) (hg : Grew base w w' v0 v1) (hK : ∀ b, K b → some b ≠ v0.ownBlock) : IsL R w' K v l := h.keep fun p hp hl => World.cell?_of_block (hg.grown.block p.block hl (hK _ hp))
theorem IsB.grewK {w w' : World} {base : Nat} {K : Nat → Prop} {v v0 v1 : Value} {l : List UInt8} (h : IsB w K v l) (hg : Grew base w w' v0 v1) (hK : ∀ b, K b → some b ≠ v0.ownBlock) : IsB w' K v l := h.keep fun p hp hl => World.cell?_of_block (hg.grown.block p.block hl (hK _ hp))
theorem own_growT {w w' : World} {base base' : Nat} {e : TypeId} {size n : Nat} {v v0 v1 : Value} {xs : List Value} (h : w.ownsRow base e size v n xs) (hne : v.ownBlock = none ∨ v.ownBlock ≠ v0.ownBlock) (hg : Grew base' w w' v0 v1) : w'.ownsRow base e size v n xs := h.kept hg.grown hne
theorem pk_parts {w : World} {K : Nat → Prop} {vb vl : Value} {p : Pk} (h : IsPk w K (pkV p vb vl) p) : IsB w K vb p.buf ∧ IsL Rp.rc w K vl p.l := by
  obtain ⟨vb', vl', e, h1, h2⟩ := h
  unfold pkV at e
  simp only [Value.agg.injEq, Array.mk.injEq, List.cons.injEq, true_and, and_true] at e
  obtain ⟨rfl, rfl⟩ := e
  exact ⟨h1, h2⟩
theorem land_okpk {h : Hd} {M : Int} {p : Pk} {b : List UInt8} {want : List Rc} {places : List Int} (hh : OkHd h) (hM1 : 40 ≤ M) (hM2 : M ≤ 3040) (hl : Land h M p b want places) (hok : ∀ r ∈ want, OkRc r) : OkPk p := by
  obtain ⟨f1, f2, f3, f4⟩ := hl.few_want hok
  exact ⟨by rw [hl.hd]; exact hh, by rw [hl.zone]; omega, by rw [hl.cap]; omega, by rw [hl.at_]; omega, by omega, by have := hl.few; omega⟩
theorem grew_ne {w w' : World} {base : Nat} {v0 v1 : Value} (hg : Grew base w w' v0 v1) {b : Nat} (hb : b < w.heap.size) (hn : some b ≠ v0.ownBlock) : some b ≠ v1.ownBlock := by
  rcases hg.at_ with h | ⟨g, h, hge⟩
  · rw [h]; exact hn
  · rw [h]; intro e; injection e with e; omega
theorem begin_l {h : Hd} {M : Int} {p : Pk} (hb : beginL h 1 M = (p, 0)) : p.l = [] := by
  unfold beginL at hb
  split at hb
  · injection hb with hb _; rw [← hb]; rfl
  · split at hb
    · injection hb with hb _; rw [← hb]; rfl
    · split at hb
      · injection hb with hb _; rw [← hb]; rfl
      · injection hb with hb _; rw [← hb]

/-- a pack's cells -/
abbrev packC (p : Pk) (Ab : Option Addr) (cb : Nat) (Al : Option Addr) (cl : Nat) : Array Value := #[.int .i64 p.h.host, .int .i64 p.h.epoch, .int .i64 p.h.seq, .int .i64 p.zone, .int .i64 p.cap, .int .i64 p.at_, .slice Ab p.buf.length cb, .slice Al p.l.length cl]
/-- what is not written -/
abbrev LK (g8 g10 : Nat) (v13 v14 : Value) (g17 : Nat) : Nat → Prop := fun b => b ≠ g8 ∧ b ≠ g10 ∧ some b ≠ v13.ownBlock ∧ some b ≠ v14.ownBlock ∧ b ≠ g17
/-- what is known in a round -/
structure LW (w wr : World) (g8 g10 : Nat) (h : Hd) (M : Int) (p : Pk) (b : List UInt8) (want : List Rc) (places : List Int) (Ad : Option Addr) (kd : Nat) (Ab : Option Addr) (cb : Nat) (Al : Option Addr) (cl : Nat) (A13 : Option Addr) (c13 : Nat) (A14 : Option Addr) (c14 : Nat) (g17 : Nat) : Prop where
  below : Below w.heap.size w wr
  hd : Blk wr w.heap.size 23 #[.int .i64 h.host, .int .i64 h.epoch, .int .i64 h.seq]
  db : Blk wr g8 28 #[.int .i64 M, .int .i64 1, .int .i64 1, .slice Ad 2 kd]
  pb : Blk wr g10 35 (packC p Ab cb Al cl)
  dz : IsL Rp.zone wr (LK g8 g10 (.slice A13 want.length c13) (.slice A14 places.length c14) g17) (.slice Ad 2 kd) [z0, landZ h.epoch M b]
  bb : IsB wr (LK g8 g10 (.slice A13 want.length c13) (.slice A14 places.length c14) g17) (.slice Ab p.buf.length cb) p.buf
  bl : IsL Rp.rc wr (LK g8 g10 (.slice A13 want.length c13) (.slice A14 places.length c14) g17) (.slice Al p.l.length cl) p.l
  wn : OwnR Rp.rc wr w.heap.size 57 (· < w.heap.size) (.slice A13 want.length c13) want
  pl : wr.ownsRow w.heap.size 3 1 (.slice A14 places.length c14) places.length (places.map I64)
  land : Land h M p b want places
  ok : ∀ r ∈ want, OkRc r
  ge8 : w.heap.size < g8
  ge10 : g8 < g10
/-- what the rounds hand on -/
def LandsRel (w wr : World) (g8 g10 : Nat) (h : Hd) (M : Int) (l : List (List Rc)) (v13 v14 i : Value) : Prop :=
  ∃ (j : Nat) (p : Pk) (b : List UInt8) (want : List Rc) (places : List Int) (Ad : Option Addr) (kd : Nat) (Ab : Option Addr) (cb : Nat) (Al : Option Addr) (cl : Nat) (A13 : Option Addr) (c13 : Nat) (A14 : Option Addr) (c14 : Nat),
    i = .int .i64 j ∧ j ≤ l.length ∧ v13 = .slice A13 want.length c13 ∧ v14 = .slice A14 places.length c14 ∧ LW w wr g8 g10 h M p b want places Ad kd Ab cb Al cl A13 c13 A14 c14 g10

/-- Flush, of something or of nothing -/
theorem flush_both (v : Value) (p : Pk) (K : Nat → Prop) (w : World) (hv : IsPk w K v p) (hK : ∀ b, K b → b < w.heap.size) (hp : OkPk p) :
    Calls Tryz.prog 18 #[v] w fun e w' => ∃ (o z ep : Int) (Ac : Option Addr) (nc kc : Nat) (pf : Pk) (Ab : Option Addr) (cb : Nat) (Al : Option Addr) (cl : Nat) (is : Bool),
      e = .returned (.tuple #[.agg #[.int .i64 o, .int .i64 z, .int .i64 ep, .int .i64 0, .int .i64 0, .slice Ac nc kc], pkV pf (.slice Ab pf.buf.length cb) (.slice Al pf.l.length cl), .bool is]) ∧
      (is = true → o = 1 ∧ z = p.zone ∧ ep = p.h.epoch ∧ nc = p.buf.length ∧ p.buf ≠ [] ∧ IsB w' (fun b => w.heap.size ≤ b ∧ b < w'.heap.size) (.slice Ac p.buf.length kc) p.buf) ∧ (is = false → p.buf = []) ∧ Below w.heap.size w w' := by
  by_cases hn : p.buf = []
  · refine (flush_noneK v p K w hv hK hp hn).mono ?_
    rintro e w' ⟨A, c, A', c', rfl, _, hb⟩
    exact ⟨0, 0, 0, none, 0, 0, p, A, c, A', c', false, rfl, (by simp), fun _ => hn, hb⟩
  · refine (flush_some v p K w hv hp hn).mono ?_
    rintro e w' ⟨A, c, rfl, own, hb⟩
    have hf : (flushP p).buf.length = 0 ∧ (flushP p).l.length = 0 := by unfold flushP; rw [if_neg hn]; exact ⟨rfl, rfl⟩
    have hl : p.buf.length ≤ 140737488355328 := by obtain ⟨_, _, _, _, h, _⟩ := hp; obtain ⟨_, _, _, h2, _⟩ := hv; exact h2.len
    exact ⟨1, p.zone, p.h.epoch, A, p.buf.length, c, flushP p, none, 0, none, 0, true, by rw [hf.1, hf.2]; rfl, fun _ => ⟨rfl, rfl, rfl, rfl, hn, (IsB.of_own own hl).lt⟩, (by simp), hb⟩

set_option maxRecDepth 100000 in
set_option maxHeartbeats 16000000 in
theorem packerLands_any (h : Hd) (v : Value) (l : List (List Rc)) (most0 : Int) (w : World) (hh : OkHd h) (hv : IsL (Rp.rcs 1048576) w (· < w.heap.size) v l) :
    Calls Tryz.prog 3 #[hdV h, v, .int .i64 most0] w fun e w' => e = .returned (.bool true) ∧ Below w.heap.size w w' := by
  have hv0 := hv
  obtain ⟨A, c, rfl, hlc, hcc⟩ := hv.form
  obtain ⟨i0, hi, hz0, hz1, hz2⟩ := info_parts Tryz.infInt
  have E := ((Kn.start w).give Stable.list hv0).push 23 #[.int .i64 h.host, .int .i64 h.epoch, .int .i64 h.seq]
  clear hv
  by_cases h30 : 30 < l.length
  case pos =>
    have h30' : (30 : Int) < (l.length : Int) := by omega
    unfold hdV
    go_enter Tryz.func3, Tryz.ntmps3
    go_wp2_with fail
    refine (live15_any _).mono ?_
    rintro e w1 ⟨rfl, hb1⟩
    replace E := E.step hb1
    go_wp2
    go_ret
    exact ⟨rfl, E.below⟩
  have h30' : ¬ (30 : Int) < (l.length : Int) := by omega
  unfold hdV
  go_enter Tryz.func3, Tryz.ntmps3
  go_wp2_with fail
  refine (live15_any _).mono ?_
  rintro e w1 ⟨rfl, hb1⟩
  replace E := E.step hb1
  clear hb1
  go_wp2_with fail
  have hmod := norm_mod most0 3000 (by omega) (by omega)
  have hM : wrap64 (40 + (wrap64 (most0.tmod 3000 + 3000)).tmod 3000) = 40 + (wrap64 (most0.tmod 3000 + 3000)).tmod 3000 := by unfold wrap64 at hmod ⊢; omega
  have hM1 : 40 ≤ wrap64 (40 + (wrap64 (most0.tmod 3000 + 3000)).tmod 3000) := by omega
  have hM2 : wrap64 (40 + (wrap64 (most0.tmod 3000 + 3000)).tmod 3000) ≤ 3040 := by omega
  clear hM hmod
  generalize wrap64 (40 + (wrap64 (most0.tmod 3000 + 3000)).tmod 3000) = M at hM1 hM2 ⊢
  have HN := Lib.hid (newD_land (M := M) ⟨by omega, by omega⟩)
  refine (znew_any 2 M 1 1 _).mono ?_
  rw [HN.out]
  rintro e w2 ⟨dv, rfl, hd, hb2⟩
  obtain ⟨Ad, kd, rfl, hdz⟩ := hd
  have hg8 : w.heap.size < w2.heap.size := by have := (E.step hb2).at_ m0; exact this.lt
  replace E := ((E.step hb2).give Stable.list hdz.zlt).push 28 #[.int .i64 M, .int .i64 1, .int .i64 1, .slice Ad 2 kd]
  clear hdz hb2
  have hbeg := fun W => pbegin_any h 1 M W hh
  have hbok := fun p f hb => @begin_ok h M p f hb
  have hlst := fun p (hb : beginL h 1 M = (p, 0)) => And.intro (Land.start hb hh) (begin_l hb)
  obtain ⟨⟨p, f⟩, hrb⟩ : ∃ r, beginL h 1 M = r := ⟨_, rfl⟩
  rw [hrb] at hbeg
  replace hbok := hbok p f hrb
  have hlst' := fun (hf : f = 0) => hlst p (by rw [hrb, hf])
  have HBEG := Lib.hid hbeg; have HBOK := Lib.hid hbok; have HLST := Lib.hid hlst'
  clear hbeg hbok hlst hlst' hrb
  obtain ⟨q3, f3, t3⟩ := E.rules m1
  go_wp2_with fail
  refine (HBEG.out _).mono ?_
  rintro e w3 ⟨Ab, cb, rfl, ownb, hb3⟩
  have hg10 : w2.heap.size < w3.heap.size := ((E.step hb3).at_ m0).lt
  have hs3 := hb3.size
  clear q3 f3 t3
  unfold pkV
  by_cases hf : f = 0
  case neg =>
    have hfb : (f != 0) = true := by simpa using hf
    clear hf
    replace E := E.step hb3
    go_wp2
    go_ret
    refine ⟨rfl, ?_⟩
    exact E.below.alloc E.below.size _
  obtain ⟨LA, hpl⟩ := HLST.out hf
  have HEAD0 := Lib.hid (HBOK.out hf)
  have hep := head_epoch (HBOK.out hf)
  subst hf
  have hbl : p.buf.length ≤ 3040 := by have := LA.fits; have h2 : (([] : List UInt8).length : Int) = 0 := rfl; omega
  replace E := ((E.step hb3).give Stable.bytes (IsB.of_own ownb (by omega)).lt).push 35 #[.int .i64 p.h.host, .int .i64 p.h.epoch, .int .i64 p.h.seq, .int .i64 p.zone, .int .i64 p.cap, .int .i64 p.at_, .slice Ab p.buf.length cb, .slice none 0 0]
  clear ownb hb3
  have HLA := Lib.hid LA
  clear LA
  obtain ⟨q3, f3, t3⟩ := E.rules m2
  obtain ⟨q8, f8, t8⟩ := E.rules m1
  go_wp2_with fail
  have hfen := fun K W hz hlt => do_fence M h.epoch Ad kd K W ⟨by omega, by omega⟩ hz hlt
  by_cases hep1 : 1 ≤ h.epoch
  case neg =>
    have he0 : h.epoch = 0 := by omega
    rw [if_neg hep1, if_neg hep1] at hfen
    have HFEN := Lib.hid hfen; have HE0 := Lib.hid he0
    clear hfen he0 hep1 hep
    refine (HFEN.out _ _ (E.get m1) (fun b hb => by have := hb.2; simp; omega)).mono ?_
    rintro e w4 ⟨A4, k4, A5, k5, rfl, hz4, hx4, hb4⟩
    replace E := E.step hb4
    have heb : (h.epoch == 0) = true := by simpa using HE0.out
    clear q3 f3 t3 q8 f8 t8 hb4 hz4 hx4
    obtain ⟨q3, f3, t3⟩ := E.rules m2
    obtain ⟨q8, f8, t8⟩ := E.rules m1
    obtain ⟨hB8, hT8⟩ := l4_all (E.at_ m1) (.int .i64 M) (.int .i64 1) (.int .i64 1) (.slice A4 2 k4)
    have hbe := below_turned E.below hT8 (by omega) E.below.size
    go_wp2
    go_ret
    exact ⟨rfl, hbe.alloc hbe.size _⟩
  rw [if_pos hep1, if_pos hep1] at hfen
  have HFEN := Lib.hid hfen
  clear hfen hep
  refine (HFEN.out _ _ (E.get m1) (fun b hb => by have := hb.2; simp; omega)).mono ?_
  rintro e w4 ⟨A4, k4, A5, k5, rfl, hz4, -, hb4⟩
  simp only [dn0, List.length_nil]
  replace E := E.step hb4
  have hs4 := hb4.size
  simp only [World.size_alloc] at hs4 hs3
  clear q3 f3 t3 q8 f8 t8 hb4
  obtain ⟨q8, f8, t8⟩ := E.rules m1
  obtain ⟨hB8, hT8⟩ := l4_all (E.at_ m1) (.int .i64 M) (.int .i64 1) (.int .i64 1) (.slice A4 2 k4)
  have hbe := below_turned E.below hT8 (by omega) E.below.size
  have hbA : ∀ W : World, Below W.heap.size W (W.alloc (.cells #[.int .i64 0, .int .i64 0, .slice A5 0 k5] 39)) := fun W => (Below.refl _ _).alloc (Nat.le_refl _) _
  have L0 : LW w (((((w4.setCell ⟨w2.heap.size, 0, none⟩ (.int .i64 M)).setCell ⟨w2.heap.size, 1, none⟩ (.int .i64 1)).setCell ⟨w2.heap.size, 2, none⟩ (.int .i64 1)).setCell ⟨w2.heap.size, 3, none⟩ (.slice A4 2 k4)).alloc (.cells #[.int .i64 0, .int .i64 0, .slice A5 0 k5] 39)) w2.heap.size w3.heap.size h M p [] [] [] A4 k4 Ab cb none 0 none 0 none 0 w3.heap.size := by
    have hpl0 : p.l.length = 0 := by rw [hpl]; rfl
    refine ⟨hbe.alloc hbe.size _, ((E.at_ m2).turned hT8 (by omega)).alloc _, hB8.alloc _, ?_, ((hz4.turned hT8 (fun b hb => ?_)).more (fun b hb => ?_)).alloc _, (((E.get m0).turned hT8 (fun b hb => ?_)).more (fun b hb => ?_)).alloc _, ?_, OwnR.nil_ _ _ _ _, World.ownsRow_nil _ _ _ _, HLA.out, by simp, hg8, hg10⟩
    · have := ((E.at_ m0).turned hT8 (by omega)).alloc (.cells #[.int .i64 0, .int .i64 0, .slice A5 0 k5] 39)
      unfold packC
      rw [hpl0]
      exact this
    · rcases hb with hb | hb
      · have := hb.2; omega
      · simp at hb; omega
    · refine ⟨?_, ?_, by simp [Value.ownBlock], by simp [Value.ownBlock], ?_⟩
      · rcases hb with hb | hb
        · have := hb.2; omega
        · simp at hb; omega
      · rcases hb with hb | hb
        · have := hb.2; omega
        · simp at hb; omega
      · rcases hb with hb | hb
        · have := hb.2; omega
        · simp at hb; omega
    · have := hb.1; simp at this; omega
    · have h1 := hb.1; have h2 := hb.2; simp at h1
      exact ⟨by omega, by omega, by simp [Value.ownBlock], by simp [Value.ownBlock], by omega⟩
    · rw [hpl]; exact IsL.nil_ _ _
  have hb5 := fun h => (hbe.alloc hbe.size h : Below _ _ _)
  clear hb5
  go_wp2_with fail
  generalize hw5 : ((((w4.setCell ⟨w2.heap.size, 0, none⟩ (.int .i64 M)).setCell ⟨w2.heap.size, 1, none⟩ (.int .i64 1)).setCell ⟨w2.heap.size, 2, none⟩ (.int .i64 1)).setCell ⟨w2.heap.size, 3, none⟩ (.slice A4 2 k4)).alloc (.cells #[.int .i64 0, .int .i64 0, .slice A5 0 k5] 39) = w5 at L0 ⊢
  clear hw5 hB8 hT8 hbe hbA E hz4 q8 f8 t8 HBEG HBOK HLST HN HFEN HLA hs3 hs4 hbl hpl
  generalize w2.heap.size = g8 at L0 ⊢
  generalize w3.heap.size = g10 at L0 ⊢
  go_loopw [13, 14, 81] (fun v13 v14 i wr => LandsRel w wr g8 g10 h M l v13 v14 i) (fun _ _ i _ => l.length - (intOf i).toNat)
  case atStart => exact ⟨0, p, [], [], [], A4, k4, Ab, cb, none, 0, none, 0, none, 0, rfl, Nat.zero_le _, rfl, rfl, L0⟩
  case round =>
    obtain ⟨j, p, b, want, places, Ad, kd, Ab, cb, Al, cl, A13, c13, A14, c14, rfl, hj, rfl, rfl, L⟩ := hrel
    clear L0
    have hsz := L.below.size
    by_cases hlt : j < l.length
    case neg =>
      obtain rfl : j = l.length := by omega
      clear hlt hj
      have hopk := Lib.hid (land_okpk hh hM1 hM2 L.land L.ok)
      have hg8r : g8 < wr.heap.size := L.db.lt
      have hg10r : g10 < wr.heap.size := L.pb.lt
      have hge8 := L.ge8
      have hge10 := L.ge10
      have HEAD := HEAD0
      have HFW := Lib.hid (L.land.few_want L.ok); have HLL := Lib.hid L.land; have HOK := Lib.hid L.ok
      have E := ((((((Kn.from_ L.below hsz).know L.hd).know L.db).know L.pb).give Stable.list L.dz.zlt).give Stable.bytes L.bb.lt).give Stable.list L.bl.ltRc |>.give Stable.ownRc L.wn |>.give Stable.ownI L.pl
      clear L
      obtain ⟨q10, f10, t10⟩ := E.rules m0
      unfold packC at q10
      go_wp2_with fail
      refine (flush_both _ p _ _ ⟨_, _, rfl, E.get m3, E.get m2⟩ (fun b hb => hb.2) hopk.out).mono ?_
      rintro e w6 ⟨o, z, ep, Ac, nc, kc, pf, Ab1, cb1, Al1, cl1, is, rfl, his, hno, hb6⟩
      have hs6 := hb6.size
      clear q10 f10 t10
      replace E := ((E.step hb6).push 43 #[.int .i64 o, .int .i64 z, .int .i64 ep, .int .i64 0, .int .i64 0, .slice Ac nc kc]).push 35 (packC pf Ab1 cb1 Al1 cl1)
      rw [World.size_alloc] at E
      clear hb6
      unfold pkV
      have HIS := Lib.hid his; have HNO := Lib.hid hno
      clear his hno
      go_upto_if 141 with fail
      have hb67 : Below w6.heap.size w6 ((w6.alloc (.cells #[.int .i64 o, .int .i64 z, .int .i64 ep, .int .i64 0, .int .i64 0, .slice Ac nc kc] 43)).alloc (.cells (packC pf Ab1 cb1 Al1 cl1) 35)) := ((Below.refl _ _).alloc (Nat.le_refl _) _).alloc (by simp) _
      generalize hw7 : (w6.alloc (.cells #[.int .i64 o, .int .i64 z, .int .i64 ep, .int .i64 0, .int .i64 0, .slice Ac nc kc] 43)).alloc (.cells (packC pf Ab1 cb1 Al1 cl1) 35) = w7 at E hb67 ⊢
      clear hw7
      have hs7 : w6.heap.size + 1 < w7.heap.size := (E.at_ m0).lt
      go_cut [26] (fun _ wx => ∃ (Ad2 : Option Addr) (kd2 : Nat), Below w.heap.size w wx ∧ Blk wx w.heap.size 23 #[.int .i64 h.host, .int .i64 h.epoch, .int .i64 h.seq] ∧ Blk wx g8 28 #[.int .i64 M, .int .i64 1, .int .i64 1, .slice Ad2 2 kd2] ∧
        IsL Rp.zone wx (fun _ => True) (.slice Ad2 2 kd2) [z0, landZ h.epoch M ((headL h).1 ++ frsL want)] ∧ OwnR Rp.rc wx w.heap.size 57 (· < w.heap.size) (.slice A13 want.length c13) want ∧ wx.ownsRow w.heap.size 3 1 (.slice A14 places.length c14) places.length (places.map I64))
      case first =>
        cases is
        case false =>
          have hz := HLL.out.done (HNO.out rfl)
          have HZ := Lib.hid hz; clear hz
          go_wp2_with fail
          go_meet
          exact ⟨Ad, kd, E.below, E.at_ m4, E.at_ m3, by rw [← HZ.out]; exact IsL.more (E.get m4) (fun _ _ => trivial), E.get m1, E.get m0⟩
        obtain ⟨rfl, rfl, rfl, rfl, hnil, hbuf⟩ := HIS.out rfl
        have hz := HLL.out.flush hnil
        have hz2 := hz.done (by unfold flushP; rw [if_neg hnil])
        have HZ := Lib.hid hz2; clear hz hz2
        have hz1 : p.zone = 1 := HLL.out.zone
        have hh1 : p.h = h := HLL.out.hd
        have hfit := HLL.out.fits
        have hdo : ∀ (K : Nat → Prop) (W : World) A k Ac kc, IsL Rp.zone W K (.slice A 2 k) [z0, landZ h.epoch M b] → (∀ b, K b → b < W.heap.size) → IsB W K (.slice Ac p.buf.length kc) p.buf →
            Calls Tryz.prog 15 #[.agg #[.int .i64 M, .int .i64 1, .int .i64 1, .slice A 2 k], .agg #[.int .i64 1, .int .i64 p.zone, .int .i64 p.h.epoch, .int .i64 0, .int .i64 0, .slice Ac p.buf.length kc]] W
              (LandPost K W M [z0, landZ h.epoch M (b ++ p.buf)] ⟨0, b.length, []⟩) := fun K W A k Ac kc hz hlt hB => by
          rw [hz1, hh1]
          exact do_append M h.epoch b p.buf A k Ac kc K W (by omega) ⟨by omega, by omega⟩ hnil hfit hz hlt hB
        have HDO := Lib.hid hdo
        have HBUF := Lib.hid (hbuf.step hb67)
        clear hdo hz1 hh1 hfit hnil hbuf HIS HNO HLL HFW hopk
        obtain ⟨q8, f8, t8⟩ := E.rules m3
        obtain ⟨qc, fc, tc⟩ := E.rules m1
        go_wp2_with fail
        refine (HDO.out (fun b => (LK g8 g10 (.slice A13 want.length c13) (.slice A14 places.length c14) g10 b ∧ b < wr.heap.size) ∨ (wr.heap.size ≤ b ∧ b < w6.heap.size)) _ _ _ _ _ (IsL.more (E.get m4) fun b hb => .inl hb) (fun b hb => by rcases hb with hb | hb <;> (have := hb.2; omega)) (HBUF.out.more fun b hb => .inr hb)).mono ?_
        rintro e w14 ⟨A24, k24, A25, k25, rfl, hz24, -, hb14⟩
        simp only [List.length_nil]
        have hs14 := hb14.size
        clear q8 f8 t8 qc fc tc
        replace E := (((E.step hb14).give Stable.list hz24).push 28 #[.int .i64 M, .int .i64 1, .int .i64 1, .slice A24 2 k24]).push 39 #[.int .i64 0, .int .i64 b.length, .slice A25 0 k25]
        rw [World.size_alloc] at E
        clear hz24 hb14
        obtain ⟨qd, fd, td⟩ := E.rules m0
        obtain ⟨qx, fx, tx⟩ := E.rules m1
        obtain ⟨q8, f8, t8⟩ := E.rules m5
        obtain ⟨hB8, hT8⟩ := l4_all (E.at_ m5) (.int .i64 M) (.int .i64 1) (.int .i64 1) (.slice A24 2 k24)
        have hk : ∀ b, ((LK g8 g10 (.slice A13 want.length c13) (.slice A14 places.length c14) g10 b ∧ b < wr.heap.size ∨ wr.heap.size ≤ b ∧ b < w6.heap.size) ∨ w7.heap.size ≤ b) → ¬ b = g8 := by
          rintro b ((hb | hb) | hb)
          · exact hb.1.1
          · have := hb.1; omega
          · omega
        have hbe := below_turned E.below hT8 (by omega) E.below.size
        have W1 := (E.at_ m6).turned hT8 (by omega)
        have V0 := (IsL.turned (E.get m0) hT8 hk).more (K' := fun _ => True) (fun _ _ => trivial)
        rw [HZ.out] at V0
        have V3 := OwnR.boxT (E.get m2) (E.at_ m5) (by decide) (by omega) hT8
        have V2 := own_boxT (E.get m1) (E.at_ m5) (by decide) hT8
        clear hT8 E
        go_wp2_with fail
        go_meet
        exact ⟨A24, k24, hbe, W1, hB8, V0, V3, V2⟩
      case rest =>
        obtain ⟨Ad2, kd2, hbe, W1, W2, V0, V3, V2⟩ := hcut
        obtain ⟨hfw1, hfw2, -, -⟩ := HFW.out
        have hbt := HLL.out.bytes
        have hfit := HLL.out.fits
        have herr := HLL.out.err
        have hhead : (headL h).2 = 0 := HEAD.out
        have hsc0 := land_scan hh hhead herr HOK.out
        have hpd : ∀ (i : Nat) (r : Rc) (o : Int), want[i]? = some r → places[i]? = some o → 0 ≤ o ∧ o + r.data.length ≤ (((headL h).1 ++ frsL want).length : Int) ∧ (((headL h).1 ++ frsL want).drop o.toNat).take r.data.length = r.data := fun i r o h1 h2 => by
          rw [HLL.out.places] at h2
          exact place_data herr HOK.out h1 h2
        obtain ⟨Z, hZ⟩ : ∃ Z, (headL h).1 ++ frsL want = Z := ⟨_, rfl⟩
        have hzM : (Z.length : Int) ≤ M := by
          rw [← hZ, ← hbt, List.length_append]; omega
        have hzl : Z.length ≤ 3040 := by omega
        have HZM := Lib.hid hzM; clear hzM
        rw [hZ] at V0 hsc0 hpd
        obtain ⟨ats, hsc⟩ : ∃ ats, scanL Z = ⟨true, h, want, ats, Z.length⟩ := by
          obtain ⟨h1, h2, h3, h4⟩ := hsc0
          refine ⟨(scanL Z).at_, ?_⟩
          obtain ⟨f1, f2, f3, f4, f5⟩ : ∃ a b c d, scanL Z = ⟨a, b, c, (scanL Z).at_, d⟩ := ⟨_, _, _, _, rfl⟩
          rw [← h1, ← h2, ← h4]
          conv => rhs; rw [← h3]
        have hscan := fun v K W hv => scan_any v Z K W hv (by omega)
        rw [hsc] at hscan
        unfold fdC at hscan
        simp only at hscan
        have HSCAN := Lib.hid hscan; have HPD := Lib.hid hpd
        clear E hb67 HIS HNO HLL HFW hopk hbt hfit herr hhead hsc0 hpd hscan hsc hZ
        obtain ⟨adz, B, dd, rfl, hadz, -, hZB, n0, n1, n2⟩ := IsL.zone_at V0 (j := 1) rfl
        replace n2 : wc.cell? ⟨adz.block, adz.off + 3 + 2, none⟩ = some (.slice B Z.length dd) := by
          have h2 := n2
          rw [show adz.add (1 * 3) = ⟨adz.block, adz.off + 3, none⟩ from addrS _ 3 (by decide)] at h2
          exact h2
        replace hZB : IsB wc (fun _ => True) (.slice B Z.length dd) Z := hZB
        clear n0 n1
        obtain ⟨q8, f8⟩ := W2.rules
        have t8 := W2.lt
        go_wp2_with fail
        refine (HSCAN.out _ _ _ hZB).mono ?_
        rintro e w8 ⟨A31, c31, A32, c32, rfl, hl31, -, hb8⟩
        have F := ((((((Kn.from_ hbe hbe.size).know W1).know W2).give Stable.list V0).give Stable.ownRc V3).give Stable.ownI V2).give (f := fun W => W.cell? ⟨adz.block, adz.off + 3 + 2, none⟩ = some (.slice B Z.length dd)) (fun _ _ h hb => (hb.cell (World.block_lt_of_cell? _ _ h)).trans h) n2
        replace F := ((F.step hb8).give Stable.list hl31).push 51 #[.bool true, .int .i64 h.host, .int .i64 h.epoch, .int .i64 h.seq, .slice A31 want.length c31, .slice A32 ats.length c32, .int .i64 Z.length]
        clear hl31 hb8 W1 W2 V0 V3 V2 hbe q8 f8 t8 n2 hZB
        go_upto_region 41 with fail
        generalize hw9 : w8.alloc (.cells #[.bool true, .int .i64 h.host, .int .i64 h.epoch, .int .i64 h.seq, .slice A31 want.length c31, .slice A32 ats.length c32, .int .i64 Z.length] 51) = w9 at F ⊢
        clear hw9
        have HK : Hid (∀ W, Below w9.heap.size w9 W → (∀ o, W.cell? ⟨w8.heap.size, o, none⟩ = (#[.bool true, .int .i64 h.host, .int .i64 h.epoch, .int .i64 h.seq, .slice A31 want.length c31, .slice A32 ats.length c32, .int .i64 Z.length] : Array Value)[o]?) ∧ (∀ o, W.cell? ⟨w.heap.size, o, none⟩ = (#[.int .i64 h.host, .int .i64 h.epoch, .int .i64 h.seq] : Array Value)[o]?) ∧ (∀ o, W.cell? ⟨g8, o, none⟩ = (#[.int .i64 M, .int .i64 1, .int .i64 1, .slice (some adz) 2 kd2] : Array Value)[o]?) ∧ W.cell? ⟨adz.block, adz.off + 3 + 2, none⟩ = some (.slice B Z.length dd)) := Lib.hid fun W h => ⟨((F.step h).rules m0).1, ((F.step h).rules m2).1, ((F.step h).rules m1).1, (F.step h).get m1⟩
        have hb0 : Below w9.heap.size w9 w9.drew := (Below.refl _ _).drew
        have hwl : want.length ≤ 140737488355328 := by omega
        go_region_held3 (fun W => (∀ o, W.cell? ⟨w8.heap.size, o, none⟩ = (#[.bool true, .int .i64 h.host, .int .i64 h.epoch, .int .i64 h.seq, .slice A31 want.length c31, .slice A32 ats.length c32, .int .i64 Z.length] : Array Value)[o]?) ∧ (∀ o, W.cell? ⟨w.heap.size, o, none⟩ = (#[.int .i64 h.host, .int .i64 h.epoch, .int .i64 h.seq] : Array Value)[o]?) ∧ (∀ o, W.cell? ⟨g8, o, none⟩ = (#[.int .i64 M, .int .i64 1, .int .i64 1, .slice (some adz) 2 kd2] : Array Value)[o]?) ∧ W.cell? ⟨adz.block, adz.off + 3 + 2, none⟩ = some (.slice B Z.length dd))
          (first | with_reducible exact HK.out _ hb0 | with_reducible exact HK.out _ hbA)
          (first
          | (go_at_call 20
             refine (sameRecs_any _ _ want _ _ _ ((F.step hb0).get m0) (OwnR.isL ((F.step hb0).get m3) hwl (X' := fun _ => True) (fun _ _ => trivial) (fun _ _ => trivial))).mono ?_
             rintro e wA ⟨rfl, hbA⟩
             replace hbA := hb0.trans (hbA.mono hb0.size))
          | fail)
        replace F := F.step hbA
        clear HK hb0 hbA
        go_wp2_with fail
        go_loopw [30, 187] (fun x30 x187 wr => (∃ i : Nat, x187 = .int .i64 i ∧ i ≤ want.length ∧ Below wA.heap.size wA wr) ∧ ∃ y, x30 = y) (fun _ x187 _ => want.length - (intOf x187).toNat)
        case atStart => exact ⟨⟨0, rfl, Nat.zero_le _, Below.refl _ _⟩, _, rfl⟩
        case round =>
          obtain ⟨⟨i, rfl, hi', hb⟩, y, rfl⟩ := hrel
          by_cases hlt : i < want.length
          case neg =>
            obtain rfl : i = want.length := by omega
            go_wp2
            go_ret
            exact ⟨rfl, (F.step hb).below⟩
          obtain ⟨adr, Ad6, cd6, rfl, -, hdr, hokr, k0, k1, k2, k3, k4, k5, k6⟩ := rc_at (OwnR.isL ((F.step hb).get m3) hwl (X' := fun _ => True) (fun _ _ => trivial) (fun _ _ => trivial)) (List.getElem?_eq_getElem hlt)
          have hwi := List.getElem?_eq_getElem hlt
          generalize want[i] = r at hdr hokr k0 k1 k2 k3 k4 k5 k6 hwi
          obtain ⟨adp, u, rfl, -, hu, hcp⟩ := (Reads.of_own ((F.step hb).get m2)).at_ (k := i) (by omega)
          rw [List.getElem?_map] at hu
          obtain ⟨o, ho, rfl⟩ := Option.map_eq_some_iff.1 hu
          obtain ⟨ho0, ho1, ho2⟩ := HPD.out i r o hwi ho
          replace hcp : wr.cell? (adp.add i) = some (.int .i64 o) := hcp
          have hdo : ∀ K W, IsL Rp.zone W K (.slice (some adz) 2 kd2) [z0, landZ h.epoch M Z] → (∀ b, K b → b < W.heap.size) →
              Calls Tryz.prog 15 #[.agg #[.int .i64 M, .int .i64 1, .int .i64 1, .slice (some adz) 2 kd2], .agg #[.int .i64 2, .int .i64 1, .int .i64 h.epoch, .int .i64 o, .int .i64 r.data.length, .slice none 0 0]] W
                (LandPost K W M [z0, landZ h.epoch M Z] ⟨0, 0, r.data⟩) := fun K W hz hlt => by
            have hx := do_read M h.epoch o r.data.length Z (some adz) kd2 K W (by omega) ⟨by omega, by omega⟩ HZM.out ho0 (by omega) ho1 hz hlt
            rw [Int.toNat_natCast, ho2] at hx
            exact hx
          have HDO := Lib.hid hdo
          clear hdo hu ho hwi ho2
          have G := (((F.step hb).give Stable.bytes hdr).give (f := fun W => W.cell? (adp.add i) = some (.int .i64 o)) (fun _ _ h hb => (hb.cell (World.block_lt_of_cell? _ _ h)).trans h) hcp).push 57 #[.int .i64 r.kind, .int .i64 r.lba, .int .i64 r.n, .int .i64 r.ver, .int .i64 r.zone, .int .i64 r.off, .slice Ad6 r.data.length cd6]
          obtain ⟨wo, rfl⟩ : ∃ wo : World, wo = wr := ⟨_, rfl⟩
          go_upto_region 46 with fail
          have hbB := hb.alloc hb.size (.cells #[.int .i64 r.kind, .int .i64 r.lba, .int .i64 r.n, .int .i64 r.ver, .int .i64 r.zone, .int .i64 r.off, .slice Ad6 r.data.length cd6] 57)
          generalize hwB : wo.alloc (.cells #[.int .i64 r.kind, .int .i64 r.lba, .int .i64 r.n, .int .i64 r.ver, .int .i64 r.zone, .int .i64 r.off, .slice Ad6 r.data.length cd6] 57) = wB at G hbB ⊢
          clear hwB k0 k1 k2 k3 k4 k5 k6 hdr hcp
          have hpl : places.length ≤ 1000 := by omega
          have i0' : (0 : Int) ≤ (i : Int) := by omega
          have i1' : (i : Int) < (places.length : Int) := by omega
          go_cut [32, 33] (fun _ s33 wx => ∃ b33 A25 k25, s33 = .pointer (some ⟨b33, 0, none⟩) ∧ Blk wx b33 39 #[.int .i64 0, .int .i64 0, .slice A25 r.data.length k25] ∧ IsB wx (fun _ => True) (.slice A25 r.data.length k25) r.data ∧ Below wB.heap.size wB wx)
          case first =>
            have HK : Hid (∀ W, Below wB.heap.size wB W → (∀ o, W.cell? ⟨g8, o, none⟩ = (#[.int .i64 M, .int .i64 1, .int .i64 1, .slice (some adz) 2 kd2] : Array Value)[o]?) ∧ (∀ o, W.cell? ⟨w.heap.size, o, none⟩ = (#[.int .i64 h.host, .int .i64 h.epoch, .int .i64 h.seq] : Array Value)[o]?) ∧ (∀ o, W.cell? ⟨wo.heap.size, o, none⟩ = (#[.int .i64 r.kind, .int .i64 r.lba, .int .i64 r.n, .int .i64 r.ver, .int .i64 r.zone, .int .i64 r.off, .slice Ad6 r.data.length cd6] : Array Value)[o]?) ∧ W.cell? (adp.add i) = some (.int .i64 o)) := Lib.hid fun W h => ⟨((G.step h).rules m2).1, ((G.step h).rules m3).1, ((G.step h).rules m0).1, (G.step h).get m0⟩
            have hb : Below wB.heap.size wB wB.drew := (Below.refl _ _).drew
            have hsB := hb.size
            refine wp_region_held_drew (S := (fun W => (∀ o, W.cell? ⟨g8, o, none⟩ = (#[.int .i64 M, .int .i64 1, .int .i64 1, .slice (some adz) 2 kd2] : Array Value)[o]?) ∧ (∀ o, W.cell? ⟨w.heap.size, o, none⟩ = (#[.int .i64 h.host, .int .i64 h.epoch, .int .i64 h.seq] : Array Value)[o]?) ∧ (∀ o, W.cell? ⟨wo.heap.size, o, none⟩ = (#[.int .i64 r.kind, .int .i64 r.lba, .int .i64 r.n, .int .i64 r.ver, .int .i64 r.zone, .int .i64 r.off, .slice Ad6 r.data.length cd6] : Array Value)[o]?) ∧ W.cell? (adp.add i) = some (.int .i64 o))) (by kernel_rfl) (HK.out _ hb) (fun hHeld => ?_)
            generalize hw0 : wB.drew = w0 at hb hHeld ⊢
            clear hw0
            refine wpAnyH_take (i := 0) (oi := ⟨some 193, _, _, _, _, _⟩) (v := ?_) rfl (by kernel_rfl) (by kernel_rfl) (by kernel_rfl) (fun _ _ _ h => h) (Or.inl ⟨by rfl, ?hy⟩) (by assumption) ?_
            case hy => intro w hSw; (try dsimp only at hSw); go_simp; with_reducible rfl
            try simp only [Act.put, List.setIfInBounds_toArray, List.set_cons_zero, List.set_cons_succ]
            refine wpAnyH_take (i := 1) (oi := ⟨some 194, _, _, _, _, _⟩) (v := ?_) rfl (by kernel_rfl) (by kernel_rfl) (by kernel_rfl) (fun _ _ _ h => h) (Or.inl ⟨by rfl, ?hy⟩) (by assumption) ?_
            case hy => intro w hSw; (try dsimp only at hSw); go_simp; with_reducible rfl
            try simp only [Act.put, List.setIfInBounds_toArray, List.set_cons_zero, List.set_cons_succ]
            refine wpAnyH_take (i := 2) (oi := ⟨some 195, _, _, _, _, _⟩) (v := ?_) rfl (by kernel_rfl) (by kernel_rfl) (by kernel_rfl) (fun _ _ _ h => h) (Or.inl ⟨by rfl, ?hy⟩) (by assumption) ?_
            case hy => intro w hSw; (try dsimp only at hSw); go_simp; with_reducible rfl
            try simp only [Act.put, List.setIfInBounds_toArray, List.set_cons_zero, List.set_cons_succ]
            refine wpAnyH_take (i := 3) (oi := ⟨some 196, _, _, _, _, _⟩) (v := ?_) rfl (by kernel_rfl) (by kernel_rfl) (by kernel_rfl) (fun _ _ _ h => h) (Or.inl ⟨by rfl, ?hy⟩) (by assumption) ?_
            case hy => intro w hSw; (try dsimp only at hSw); go_simp; with_reducible rfl
            try simp only [Act.put, List.setIfInBounds_toArray, List.set_cons_zero, List.set_cons_succ]
            refine wpAnyH_take (i := 4) (oi := ⟨some 197, _, _, _, _, _⟩) (v := ?_) rfl (by kernel_rfl) (by kernel_rfl) (by kernel_rfl) (fun _ _ _ h => h) (Or.inl ⟨by rfl, ?hy⟩) (by assumption) ?_
            case hy => intro w hSw; (try dsimp only at hSw); go_simp; with_reducible rfl
            try simp only [Act.put, List.setIfInBounds_toArray, List.set_cons_zero, List.set_cons_succ]
            refine wpAnyH_take (i := 5) (oi := ⟨some 198, _, _, _, _, _⟩) (v := ?_) rfl (by kernel_rfl) (by kernel_rfl) (by kernel_rfl) (fun _ _ _ h => h) (Or.inl ⟨by rfl, ?hy⟩) (by assumption) ?_
            case hy => intro w hSw; (try dsimp only at hSw); go_simp; with_reducible rfl
            try simp only [Act.put, List.setIfInBounds_toArray, List.set_cons_zero, List.set_cons_succ]
            refine wpAnyH_take (i := 6) (oi := ⟨some 199, _, _, _, _, _⟩) (v := ?_) rfl (by kernel_rfl) (by kernel_rfl) (by kernel_rfl) (fun _ _ _ h => h) (Or.inl ⟨by rfl, ?hy⟩) (by assumption) ?_
            case hy => intro w hSw; (try dsimp only at hSw); go_simp; with_reducible rfl
            try simp only [Act.put, List.setIfInBounds_toArray, List.set_cons_zero, List.set_cons_succ]
            refine wpAnyH_take (i := 7) (oi := ⟨some 200, _, _, _, _, _⟩) (v := ?_) rfl (by kernel_rfl) (by kernel_rfl) (by kernel_rfl) (fun _ _ _ h => h) (Or.inl ⟨by rfl, ?hy⟩) (by assumption) ?_
            case hy => intro w hSw; (try dsimp only at hSw); go_simp; with_reducible rfl
            try simp only [Act.put, List.setIfInBounds_toArray, List.set_cons_zero, List.set_cons_succ]
            refine wpAnyH_take (i := 8) (oi := ⟨some 201, _, _, _, _, _⟩) (v := ?_) rfl (by kernel_rfl) (by kernel_rfl) (by kernel_rfl) (fun _ _ _ h => h) (Or.inl ⟨by rfl, ?hy⟩) (by assumption) ?_
            case hy => intro w hSw; (try dsimp only at hSw); go_simp; with_reducible rfl
            try simp only [Act.put, List.setIfInBounds_toArray, List.set_cons_zero, List.set_cons_succ]
            refine wpAnyH_take (i := 9) (oi := ⟨some 202, _, _, _, _, _⟩) (v := ?_) rfl (by kernel_rfl) (by kernel_rfl) (by kernel_rfl) (fun _ _ _ h => h) (Or.inl ⟨by rfl, ?hy⟩) (by assumption) ?_
            case hy => intro w hSw; (try dsimp only at hSw); go_simp; with_reducible rfl
            try simp only [Act.put, List.setIfInBounds_toArray, List.set_cons_zero, List.set_cons_succ]
            refine wpAnyH_take (i := 10) (oi := ⟨some 203, _, _, _, _, _⟩) (v := ?_) rfl (by kernel_rfl) (by kernel_rfl) (by kernel_rfl) (fun _ _ _ h => h) (Or.inl ⟨by rfl, ?hy⟩) (by assumption) ?_
            case hy => intro w hSw; (try dsimp only at hSw); go_simp; with_reducible rfl
            try simp only [Act.put, List.setIfInBounds_toArray, List.set_cons_zero, List.set_cons_succ]
            refine wpAnyH_ready (rs := [11, 15, 16]) (by kernel_rfl) (by simp) ?_
            refine AllReadyH.cons (o := ⟨some 204, _, _, _, _, _⟩) rfl (fun K hK => ?_) ?_
            · go_simp
              refine (HDO.out _ _ (IsL.zlt ((G.step hb).get m6)) (fun b hb => hb.2)).mono ?_
              rintro e wy ⟨A24, k24, A25, k25, rfl, -, hx25, hbn⟩
              go_wp2_with fail
              (try replace hZ := hZ.step hbn)
              (try replace hD := hD.step hbn)
              replace hb := hb.trans (hbn.mono hb.size)
              refine hK.out _ _ (HK.out _ hb) (fun hHeld => ?_)
              clear hK K
              try simp only [Act.put, List.setIfInBounds_toArray, List.set_cons_zero, List.set_cons_succ]
              refine wpAnyH_take (i := 12) (oi := ⟨some 192, _, _, _, _, _⟩) (v := ?_) rfl (by kernel_rfl) (by kernel_rfl) (by kernel_rfl) (fun _ _ _ h => h) (Or.inl ⟨by rfl, ?hy⟩) (by assumption) ?_
              case hy => intro w hSw; (try dsimp only at hSw); go_simp; with_reducible rfl
              try simp only [Act.put, List.setIfInBounds_toArray, List.set_cons_zero, List.set_cons_succ]
              refine wpAnyH_take (i := 13) (oi := ⟨some 205, _, _, _, _, _⟩) (v := ?_) rfl (by kernel_rfl) (by kernel_rfl) (by kernel_rfl) (fun _ _ _ h => h) (Or.inl ⟨by rfl, ?hy⟩) (by assumption) ?_
              case hy => intro w hSw; (try dsimp only at hSw); go_simp; with_reducible rfl
              try simp only [Act.put, List.setIfInBounds_toArray, List.set_cons_zero, List.set_cons_succ]
              refine wpAnyH_take (i := 14) (oi := ⟨some 206, _, _, _, _, _⟩) (v := ?_) rfl (by kernel_rfl) (by kernel_rfl) (by kernel_rfl) (fun _ _ _ h => h) (Or.inl ⟨by rfl, ?hy⟩) (by assumption) ?_
              case hy => intro w hSw; (try dsimp only at hSw); go_simp; with_reducible rfl
              try simp only [Act.put, List.setIfInBounds_toArray, List.set_cons_zero, List.set_cons_succ]
              refine wpAnyH_ready (rs := [15, 16]) (by kernel_rfl) (by simp) ?_
              refine AllReadyH.cons (o := ⟨some 32, _, _, _, _, _⟩) rfl (fun K hK => ?_) ?_
              · go_simp
                refine at_alloc (K := K _) ?_
                intro wy hbn hZ
                have hgz := hb.size
                (try replace hD := hD.step hbn)
                (try replace hx25 := hx25.step hbn)
                replace hb := hb.trans (hbn.mono hb.size)
                refine hK.out _ _ (HK.out _ hb) (fun hHeld => ?_)
                clear hK K
                try simp only [Act.put, List.setIfInBounds_toArray, List.set_cons_zero, List.set_cons_succ]
                refine wpAnyH_ready (rs := [16]) (by kernel_rfl) (by simp) ?_
                refine AllReadyH.cons (o := ⟨some 33, _, _, _, _, _⟩) rfl (fun K hK => ?_) AllReadyH.nil
                go_simp
                refine at_alloc (K := K _) ?_
                intro wy hbn hD
                have hgd := hb.size
                (try replace hZ := hZ.step hbn)
                (try replace hx25 := hx25.step hbn)
                replace hb := hb.trans (hbn.mono hb.size)
                refine hK.out _ _ (HK.out _ hb) (fun hHeld => ?_)
                clear hK K
                try simp only [Act.put, List.setIfInBounds_toArray, List.set_cons_zero, List.set_cons_succ]
                refine wpAnyH_ready (rs := [17]) (by kernel_rfl) (by simp) ?_
                refine AllReadyH.cons (o := ⟨none, _, _, _, _, _⟩) rfl (fun K hK => ?_) AllReadyH.nil
                obtain ⟨qz, fz⟩ := hZ.rules
                have tz := hZ.lt
                go_simp
                clear qz fz tz
                refine at_st4 (K := K _) hZ _ _ _ _ ?_
                intro wy ht hZ2
                replace hx25 := hx25.boxed hZ (noB_d _ _ _ _ _ _) ht
                (try replace hD := hD.turned ht (Blk.ne_ hD hZ (by decide)))
                replace hb := Turned.upon hb ht hgz (Nat.le_refl _)
                replace hZ := hZ2
                refine hK.out _ _ (HK.out _ hb) (fun hHeld => ?_)
                clear hK K
                try simp only [Act.put, List.setIfInBounds_toArray, List.set_cons_zero, List.set_cons_succ]
                refine wpAnyH_ready (rs := [18]) (by kernel_rfl) (by simp) ?_
                refine AllReadyH.cons (o := ⟨none, _, _, _, _, _⟩) rfl (fun K hK => ?_) AllReadyH.nil
                obtain ⟨qd, fd⟩ := hD.rules
                have td := hD.lt
                go_simp
                clear qd fd td
                refine at_st3 (K := K _) hD _ _ _ ?_
                intro wy ht hD2
                replace hx25 := hx25.boxed hD (noB_n _ _ _ _ _) ht
                (try replace hZ := hZ.turned ht (Blk.ne_ hZ hD (by decide)))
                replace hb := Turned.upon hb ht hgd (Nat.le_refl _)
                replace hD := hD2
                refine hK.out _ _ (HK.out _ hb) (fun hHeld => ?_)
                clear hK K
                try simp only [Act.put, List.setIfInBounds_toArray, List.set_cons_zero, List.set_cons_succ]
                refine wpAnyH_done (by kernel_rfl) ?_ _
                go_wp2
                go_meet
                exact ⟨_, A25, k25, rfl, hD, hx25, hb⟩
              refine AllReadyH.cons (o := ⟨some 33, _, _, _, _, _⟩) rfl (fun K hK => ?_) ?_
              · go_simp
                refine at_alloc (K := K _) ?_
                intro wy hbn hD
                have hgd := hb.size
                (try replace hZ := hZ.step hbn)
                (try replace hx25 := hx25.step hbn)
                replace hb := hb.trans (hbn.mono hb.size)
                refine hK.out _ _ (HK.out _ hb) (fun hHeld => ?_)
                clear hK K
                try simp only [Act.put, List.setIfInBounds_toArray, List.set_cons_zero, List.set_cons_succ]
                refine wpAnyH_ready (rs := [15]) (by kernel_rfl) (by simp) ?_
                refine AllReadyH.cons (o := ⟨some 32, _, _, _, _, _⟩) rfl (fun K hK => ?_) AllReadyH.nil
                go_simp
                refine at_alloc (K := K _) ?_
                intro wy hbn hZ
                have hgz := hb.size
                (try replace hD := hD.step hbn)
                (try replace hx25 := hx25.step hbn)
                replace hb := hb.trans (hbn.mono hb.size)
                refine hK.out _ _ (HK.out _ hb) (fun hHeld => ?_)
                clear hK K
                try simp only [Act.put, List.setIfInBounds_toArray, List.set_cons_zero, List.set_cons_succ]
                refine wpAnyH_ready (rs := [17]) (by kernel_rfl) (by simp) ?_
                refine AllReadyH.cons (o := ⟨none, _, _, _, _, _⟩) rfl (fun K hK => ?_) AllReadyH.nil
                obtain ⟨qz, fz⟩ := hZ.rules
                have tz := hZ.lt
                go_simp
                clear qz fz tz
                refine at_st4 (K := K _) hZ _ _ _ _ ?_
                intro wy ht hZ2
                replace hx25 := hx25.boxed hZ (noB_d _ _ _ _ _ _) ht
                (try replace hD := hD.turned ht (Blk.ne_ hD hZ (by decide)))
                replace hb := Turned.upon hb ht hgz (Nat.le_refl _)
                replace hZ := hZ2
                refine hK.out _ _ (HK.out _ hb) (fun hHeld => ?_)
                clear hK K
                try simp only [Act.put, List.setIfInBounds_toArray, List.set_cons_zero, List.set_cons_succ]
                refine wpAnyH_ready (rs := [18]) (by kernel_rfl) (by simp) ?_
                refine AllReadyH.cons (o := ⟨none, _, _, _, _, _⟩) rfl (fun K hK => ?_) AllReadyH.nil
                obtain ⟨qd, fd⟩ := hD.rules
                have td := hD.lt
                go_simp
                clear qd fd td
                refine at_st3 (K := K _) hD _ _ _ ?_
                intro wy ht hD2
                replace hx25 := hx25.boxed hD (noB_n _ _ _ _ _) ht
                (try replace hZ := hZ.turned ht (Blk.ne_ hZ hD (by decide)))
                replace hb := Turned.upon hb ht hgd (Nat.le_refl _)
                replace hD := hD2
                refine hK.out _ _ (HK.out _ hb) (fun hHeld => ?_)
                clear hK K
                try simp only [Act.put, List.setIfInBounds_toArray, List.set_cons_zero, List.set_cons_succ]
                refine wpAnyH_done (by kernel_rfl) ?_ _
                go_wp2
                go_meet
                exact ⟨_, A25, k25, rfl, hD, hx25, hb⟩
              exact AllReadyH.nil
            refine AllReadyH.cons (o := ⟨some 32, _, _, _, _, _⟩) rfl (fun K hK => ?_) ?_
            · go_simp
              refine at_alloc (K := K _) ?_
              intro wy hbn hZ
              have hgz := hb.size
              (try replace hD := hD.step hbn)
              (try replace hx25 := hx25.step hbn)
              replace hb := hb.trans (hbn.mono hb.size)
              refine hK.out _ _ (HK.out _ hb) (fun hHeld => ?_)
              clear hK K
              try simp only [Act.put, List.setIfInBounds_toArray, List.set_cons_zero, List.set_cons_succ]
              refine wpAnyH_ready (rs := [11, 16]) (by kernel_rfl) (by simp) ?_
              refine AllReadyH.cons (o := ⟨some 204, _, _, _, _, _⟩) rfl (fun K hK => ?_) ?_
              · go_simp
                refine (HDO.out _ _ (IsL.zlt ((G.step hb).get m6)) (fun b hb => hb.2)).mono ?_
                rintro e wy ⟨A24, k24, A25, k25, rfl, -, hx25, hbn⟩
                go_wp2_with fail
                (try replace hZ := hZ.step hbn)
                (try replace hD := hD.step hbn)
                replace hb := hb.trans (hbn.mono hb.size)
                refine hK.out _ _ (HK.out _ hb) (fun hHeld => ?_)
                clear hK K
                try simp only [Act.put, List.setIfInBounds_toArray, List.set_cons_zero, List.set_cons_succ]
                refine wpAnyH_take (i := 12) (oi := ⟨some 192, _, _, _, _, _⟩) (v := ?_) rfl (by kernel_rfl) (by kernel_rfl) (by kernel_rfl) (fun _ _ _ h => h) (Or.inl ⟨by rfl, ?hy⟩) (by assumption) ?_
                case hy => intro w hSw; (try dsimp only at hSw); go_simp; with_reducible rfl
                try simp only [Act.put, List.setIfInBounds_toArray, List.set_cons_zero, List.set_cons_succ]
                refine wpAnyH_take (i := 13) (oi := ⟨some 205, _, _, _, _, _⟩) (v := ?_) rfl (by kernel_rfl) (by kernel_rfl) (by kernel_rfl) (fun _ _ _ h => h) (Or.inl ⟨by rfl, ?hy⟩) (by assumption) ?_
                case hy => intro w hSw; (try dsimp only at hSw); go_simp; with_reducible rfl
                try simp only [Act.put, List.setIfInBounds_toArray, List.set_cons_zero, List.set_cons_succ]
                refine wpAnyH_take (i := 14) (oi := ⟨some 206, _, _, _, _, _⟩) (v := ?_) rfl (by kernel_rfl) (by kernel_rfl) (by kernel_rfl) (fun _ _ _ h => h) (Or.inl ⟨by rfl, ?hy⟩) (by assumption) ?_
                case hy => intro w hSw; (try dsimp only at hSw); go_simp; with_reducible rfl
                try simp only [Act.put, List.setIfInBounds_toArray, List.set_cons_zero, List.set_cons_succ]
                refine wpAnyH_ready (rs := [16]) (by kernel_rfl) (by simp) ?_
                refine AllReadyH.cons (o := ⟨some 33, _, _, _, _, _⟩) rfl (fun K hK => ?_) AllReadyH.nil
                go_simp
                refine at_alloc (K := K _) ?_
                intro wy hbn hD
                have hgd := hb.size
                (try replace hZ := hZ.step hbn)
                (try replace hx25 := hx25.step hbn)
                replace hb := hb.trans (hbn.mono hb.size)
                refine hK.out _ _ (HK.out _ hb) (fun hHeld => ?_)
                clear hK K
                try simp only [Act.put, List.setIfInBounds_toArray, List.set_cons_zero, List.set_cons_succ]
                refine wpAnyH_ready (rs := [17]) (by kernel_rfl) (by simp) ?_
                refine AllReadyH.cons (o := ⟨none, _, _, _, _, _⟩) rfl (fun K hK => ?_) AllReadyH.nil
                obtain ⟨qz, fz⟩ := hZ.rules
                have tz := hZ.lt
                go_simp
                clear qz fz tz
                refine at_st4 (K := K _) hZ _ _ _ _ ?_
                intro wy ht hZ2
                replace hx25 := hx25.boxed hZ (noB_d _ _ _ _ _ _) ht
                (try replace hD := hD.turned ht (Blk.ne_ hD hZ (by decide)))
                replace hb := Turned.upon hb ht hgz (Nat.le_refl _)
                replace hZ := hZ2
                refine hK.out _ _ (HK.out _ hb) (fun hHeld => ?_)
                clear hK K
                try simp only [Act.put, List.setIfInBounds_toArray, List.set_cons_zero, List.set_cons_succ]
                refine wpAnyH_ready (rs := [18]) (by kernel_rfl) (by simp) ?_
                refine AllReadyH.cons (o := ⟨none, _, _, _, _, _⟩) rfl (fun K hK => ?_) AllReadyH.nil
                obtain ⟨qd, fd⟩ := hD.rules
                have td := hD.lt
                go_simp
                clear qd fd td
                refine at_st3 (K := K _) hD _ _ _ ?_
                intro wy ht hD2
                replace hx25 := hx25.boxed hD (noB_n _ _ _ _ _) ht
                (try replace hZ := hZ.turned ht (Blk.ne_ hZ hD (by decide)))
                replace hb := Turned.upon hb ht hgd (Nat.le_refl _)
                replace hD := hD2
                refine hK.out _ _ (HK.out _ hb) (fun hHeld => ?_)
                clear hK K
                try simp only [Act.put, List.setIfInBounds_toArray, List.set_cons_zero, List.set_cons_succ]
                refine wpAnyH_done (by kernel_rfl) ?_ _
                go_wp2
                go_meet
                exact ⟨_, A25, k25, rfl, hD, hx25, hb⟩
              refine AllReadyH.cons (o := ⟨some 33, _, _, _, _, _⟩) rfl (fun K hK => ?_) ?_
              · go_simp
                refine at_alloc (K := K _) ?_
                intro wy hbn hD
                have hgd := hb.size
                (try replace hZ := hZ.step hbn)
                (try replace hx25 := hx25.step hbn)
                replace hb := hb.trans (hbn.mono hb.size)
                refine hK.out _ _ (HK.out _ hb) (fun hHeld => ?_)
                clear hK K
                try simp only [Act.put, List.setIfInBounds_toArray, List.set_cons_zero, List.set_cons_succ]
                refine wpAnyH_ready (rs := [11]) (by kernel_rfl) (by simp) ?_
                refine AllReadyH.cons (o := ⟨some 204, _, _, _, _, _⟩) rfl (fun K hK => ?_) AllReadyH.nil
                go_simp
                refine (HDO.out _ _ (IsL.zlt ((G.step hb).get m6)) (fun b hb => hb.2)).mono ?_
                rintro e wy ⟨A24, k24, A25, k25, rfl, -, hx25, hbn⟩
                go_wp2_with fail
                (try replace hZ := hZ.step hbn)
                (try replace hD := hD.step hbn)
                replace hb := hb.trans (hbn.mono hb.size)
                refine hK.out _ _ (HK.out _ hb) (fun hHeld => ?_)
                clear hK K
                try simp only [Act.put, List.setIfInBounds_toArray, List.set_cons_zero, List.set_cons_succ]
                refine wpAnyH_take (i := 12) (oi := ⟨some 192, _, _, _, _, _⟩) (v := ?_) rfl (by kernel_rfl) (by kernel_rfl) (by kernel_rfl) (fun _ _ _ h => h) (Or.inl ⟨by rfl, ?hy⟩) (by assumption) ?_
                case hy => intro w hSw; (try dsimp only at hSw); go_simp; with_reducible rfl
                try simp only [Act.put, List.setIfInBounds_toArray, List.set_cons_zero, List.set_cons_succ]
                refine wpAnyH_take (i := 13) (oi := ⟨some 205, _, _, _, _, _⟩) (v := ?_) rfl (by kernel_rfl) (by kernel_rfl) (by kernel_rfl) (fun _ _ _ h => h) (Or.inl ⟨by rfl, ?hy⟩) (by assumption) ?_
                case hy => intro w hSw; (try dsimp only at hSw); go_simp; with_reducible rfl
                try simp only [Act.put, List.setIfInBounds_toArray, List.set_cons_zero, List.set_cons_succ]
                refine wpAnyH_take (i := 14) (oi := ⟨some 206, _, _, _, _, _⟩) (v := ?_) rfl (by kernel_rfl) (by kernel_rfl) (by kernel_rfl) (fun _ _ _ h => h) (Or.inl ⟨by rfl, ?hy⟩) (by assumption) ?_
                case hy => intro w hSw; (try dsimp only at hSw); go_simp; with_reducible rfl
                try simp only [Act.put, List.setIfInBounds_toArray, List.set_cons_zero, List.set_cons_succ]
                refine wpAnyH_ready (rs := [17]) (by kernel_rfl) (by simp) ?_
                refine AllReadyH.cons (o := ⟨none, _, _, _, _, _⟩) rfl (fun K hK => ?_) AllReadyH.nil
                obtain ⟨qz, fz⟩ := hZ.rules
                have tz := hZ.lt
                go_simp
                clear qz fz tz
                refine at_st4 (K := K _) hZ _ _ _ _ ?_
                intro wy ht hZ2
                replace hx25 := hx25.boxed hZ (noB_d _ _ _ _ _ _) ht
                (try replace hD := hD.turned ht (Blk.ne_ hD hZ (by decide)))
                replace hb := Turned.upon hb ht hgz (Nat.le_refl _)
                replace hZ := hZ2
                refine hK.out _ _ (HK.out _ hb) (fun hHeld => ?_)
                clear hK K
                try simp only [Act.put, List.setIfInBounds_toArray, List.set_cons_zero, List.set_cons_succ]
                refine wpAnyH_ready (rs := [18]) (by kernel_rfl) (by simp) ?_
                refine AllReadyH.cons (o := ⟨none, _, _, _, _, _⟩) rfl (fun K hK => ?_) AllReadyH.nil
                obtain ⟨qd, fd⟩ := hD.rules
                have td := hD.lt
                go_simp
                clear qd fd td
                refine at_st3 (K := K _) hD _ _ _ ?_
                intro wy ht hD2
                replace hx25 := hx25.boxed hD (noB_n _ _ _ _ _) ht
                (try replace hZ := hZ.turned ht (Blk.ne_ hZ hD (by decide)))
                replace hb := Turned.upon hb ht hgd (Nat.le_refl _)
                replace hD := hD2
                refine hK.out _ _ (HK.out _ hb) (fun hHeld => ?_)
                clear hK K
                try simp only [Act.put, List.setIfInBounds_toArray, List.set_cons_zero, List.set_cons_succ]
                refine wpAnyH_done (by kernel_rfl) ?_ _
                go_wp2
                go_meet
                exact ⟨_, A25, k25, rfl, hD, hx25, hb⟩
              exact AllReadyH.nil
            refine AllReadyH.cons (o := ⟨some 33, _, _, _, _, _⟩) rfl (fun K hK => ?_) ?_
            · go_simp
              refine at_alloc (K := K _) ?_
              intro wy hbn hD
              have hgd := hb.size
              (try replace hZ := hZ.step hbn)
              (try replace hx25 := hx25.step hbn)
              replace hb := hb.trans (hbn.mono hb.size)
              refine hK.out _ _ (HK.out _ hb) (fun hHeld => ?_)
              clear hK K
              try simp only [Act.put, List.setIfInBounds_toArray, List.set_cons_zero, List.set_cons_succ]
              refine wpAnyH_ready (rs := [11, 15]) (by kernel_rfl) (by simp) ?_
              refine AllReadyH.cons (o := ⟨some 204, _, _, _, _, _⟩) rfl (fun K hK => ?_) ?_
              · go_simp
                refine (HDO.out _ _ (IsL.zlt ((G.step hb).get m6)) (fun b hb => hb.2)).mono ?_
                rintro e wy ⟨A24, k24, A25, k25, rfl, -, hx25, hbn⟩
                go_wp2_with fail
                (try replace hZ := hZ.step hbn)
                (try replace hD := hD.step hbn)
                replace hb := hb.trans (hbn.mono hb.size)
                refine hK.out _ _ (HK.out _ hb) (fun hHeld => ?_)
                clear hK K
                try simp only [Act.put, List.setIfInBounds_toArray, List.set_cons_zero, List.set_cons_succ]
                refine wpAnyH_take (i := 12) (oi := ⟨some 192, _, _, _, _, _⟩) (v := ?_) rfl (by kernel_rfl) (by kernel_rfl) (by kernel_rfl) (fun _ _ _ h => h) (Or.inl ⟨by rfl, ?hy⟩) (by assumption) ?_
                case hy => intro w hSw; (try dsimp only at hSw); go_simp; with_reducible rfl
                try simp only [Act.put, List.setIfInBounds_toArray, List.set_cons_zero, List.set_cons_succ]
                refine wpAnyH_take (i := 13) (oi := ⟨some 205, _, _, _, _, _⟩) (v := ?_) rfl (by kernel_rfl) (by kernel_rfl) (by kernel_rfl) (fun _ _ _ h => h) (Or.inl ⟨by rfl, ?hy⟩) (by assumption) ?_
                case hy => intro w hSw; (try dsimp only at hSw); go_simp; with_reducible rfl
                try simp only [Act.put, List.setIfInBounds_toArray, List.set_cons_zero, List.set_cons_succ]
                refine wpAnyH_take (i := 14) (oi := ⟨some 206, _, _, _, _, _⟩) (v := ?_) rfl (by kernel_rfl) (by kernel_rfl) (by kernel_rfl) (fun _ _ _ h => h) (Or.inl ⟨by rfl, ?hy⟩) (by assumption) ?_
                case hy => intro w hSw; (try dsimp only at hSw); go_simp; with_reducible rfl
                try simp only [Act.put, List.setIfInBounds_toArray, List.set_cons_zero, List.set_cons_succ]
                refine wpAnyH_ready (rs := [15]) (by kernel_rfl) (by simp) ?_
                refine AllReadyH.cons (o := ⟨some 32, _, _, _, _, _⟩) rfl (fun K hK => ?_) AllReadyH.nil
                go_simp
                refine at_alloc (K := K _) ?_
                intro wy hbn hZ
                have hgz := hb.size
                (try replace hD := hD.step hbn)
                (try replace hx25 := hx25.step hbn)
                replace hb := hb.trans (hbn.mono hb.size)
                refine hK.out _ _ (HK.out _ hb) (fun hHeld => ?_)
                clear hK K
                try simp only [Act.put, List.setIfInBounds_toArray, List.set_cons_zero, List.set_cons_succ]
                refine wpAnyH_ready (rs := [17]) (by kernel_rfl) (by simp) ?_
                refine AllReadyH.cons (o := ⟨none, _, _, _, _, _⟩) rfl (fun K hK => ?_) AllReadyH.nil
                obtain ⟨qz, fz⟩ := hZ.rules
                have tz := hZ.lt
                go_simp
                clear qz fz tz
                refine at_st4 (K := K _) hZ _ _ _ _ ?_
                intro wy ht hZ2
                replace hx25 := hx25.boxed hZ (noB_d _ _ _ _ _ _) ht
                (try replace hD := hD.turned ht (Blk.ne_ hD hZ (by decide)))
                replace hb := Turned.upon hb ht hgz (Nat.le_refl _)
                replace hZ := hZ2
                refine hK.out _ _ (HK.out _ hb) (fun hHeld => ?_)
                clear hK K
                try simp only [Act.put, List.setIfInBounds_toArray, List.set_cons_zero, List.set_cons_succ]
                refine wpAnyH_ready (rs := [18]) (by kernel_rfl) (by simp) ?_
                refine AllReadyH.cons (o := ⟨none, _, _, _, _, _⟩) rfl (fun K hK => ?_) AllReadyH.nil
                obtain ⟨qd, fd⟩ := hD.rules
                have td := hD.lt
                go_simp
                clear qd fd td
                refine at_st3 (K := K _) hD _ _ _ ?_
                intro wy ht hD2
                replace hx25 := hx25.boxed hD (noB_n _ _ _ _ _) ht
                (try replace hZ := hZ.turned ht (Blk.ne_ hZ hD (by decide)))
                replace hb := Turned.upon hb ht hgd (Nat.le_refl _)
                replace hD := hD2
                refine hK.out _ _ (HK.out _ hb) (fun hHeld => ?_)
                clear hK K
                try simp only [Act.put, List.setIfInBounds_toArray, List.set_cons_zero, List.set_cons_succ]
                refine wpAnyH_done (by kernel_rfl) ?_ _
                go_wp2
                go_meet
                exact ⟨_, A25, k25, rfl, hD, hx25, hb⟩
              refine AllReadyH.cons (o := ⟨some 32, _, _, _, _, _⟩) rfl (fun K hK => ?_) ?_
              · go_simp
                refine at_alloc (K := K _) ?_
                intro wy hbn hZ
                have hgz := hb.size
                (try replace hD := hD.step hbn)
                (try replace hx25 := hx25.step hbn)
                replace hb := hb.trans (hbn.mono hb.size)
                refine hK.out _ _ (HK.out _ hb) (fun hHeld => ?_)
                clear hK K
                try simp only [Act.put, List.setIfInBounds_toArray, List.set_cons_zero, List.set_cons_succ]
                refine wpAnyH_ready (rs := [11]) (by kernel_rfl) (by simp) ?_
                refine AllReadyH.cons (o := ⟨some 204, _, _, _, _, _⟩) rfl (fun K hK => ?_) AllReadyH.nil
                go_simp
                refine (HDO.out _ _ (IsL.zlt ((G.step hb).get m6)) (fun b hb => hb.2)).mono ?_
                rintro e wy ⟨A24, k24, A25, k25, rfl, -, hx25, hbn⟩
                go_wp2_with fail
                (try replace hZ := hZ.step hbn)
                (try replace hD := hD.step hbn)
                replace hb := hb.trans (hbn.mono hb.size)
                refine hK.out _ _ (HK.out _ hb) (fun hHeld => ?_)
                clear hK K
                try simp only [Act.put, List.setIfInBounds_toArray, List.set_cons_zero, List.set_cons_succ]
                refine wpAnyH_take (i := 12) (oi := ⟨some 192, _, _, _, _, _⟩) (v := ?_) rfl (by kernel_rfl) (by kernel_rfl) (by kernel_rfl) (fun _ _ _ h => h) (Or.inl ⟨by rfl, ?hy⟩) (by assumption) ?_
                case hy => intro w hSw; (try dsimp only at hSw); go_simp; with_reducible rfl
                try simp only [Act.put, List.setIfInBounds_toArray, List.set_cons_zero, List.set_cons_succ]
                refine wpAnyH_take (i := 13) (oi := ⟨some 205, _, _, _, _, _⟩) (v := ?_) rfl (by kernel_rfl) (by kernel_rfl) (by kernel_rfl) (fun _ _ _ h => h) (Or.inl ⟨by rfl, ?hy⟩) (by assumption) ?_
                case hy => intro w hSw; (try dsimp only at hSw); go_simp; with_reducible rfl
                try simp only [Act.put, List.setIfInBounds_toArray, List.set_cons_zero, List.set_cons_succ]
                refine wpAnyH_take (i := 14) (oi := ⟨some 206, _, _, _, _, _⟩) (v := ?_) rfl (by kernel_rfl) (by kernel_rfl) (by kernel_rfl) (fun _ _ _ h => h) (Or.inl ⟨by rfl, ?hy⟩) (by assumption) ?_
                case hy => intro w hSw; (try dsimp only at hSw); go_simp; with_reducible rfl
                try simp only [Act.put, List.setIfInBounds_toArray, List.set_cons_zero, List.set_cons_succ]
                refine wpAnyH_ready (rs := [17]) (by kernel_rfl) (by simp) ?_
                refine AllReadyH.cons (o := ⟨none, _, _, _, _, _⟩) rfl (fun K hK => ?_) AllReadyH.nil
                obtain ⟨qz, fz⟩ := hZ.rules
                have tz := hZ.lt
                go_simp
                clear qz fz tz
                refine at_st4 (K := K _) hZ _ _ _ _ ?_
                intro wy ht hZ2
                replace hx25 := hx25.boxed hZ (noB_d _ _ _ _ _ _) ht
                (try replace hD := hD.turned ht (Blk.ne_ hD hZ (by decide)))
                replace hb := Turned.upon hb ht hgz (Nat.le_refl _)
                replace hZ := hZ2
                refine hK.out _ _ (HK.out _ hb) (fun hHeld => ?_)
                clear hK K
                try simp only [Act.put, List.setIfInBounds_toArray, List.set_cons_zero, List.set_cons_succ]
                refine wpAnyH_ready (rs := [18]) (by kernel_rfl) (by simp) ?_
                refine AllReadyH.cons (o := ⟨none, _, _, _, _, _⟩) rfl (fun K hK => ?_) AllReadyH.nil
                obtain ⟨qd, fd⟩ := hD.rules
                have td := hD.lt
                go_simp
                clear qd fd td
                refine at_st3 (K := K _) hD _ _ _ ?_
                intro wy ht hD2
                replace hx25 := hx25.boxed hD (noB_n _ _ _ _ _) ht
                (try replace hZ := hZ.turned ht (Blk.ne_ hZ hD (by decide)))
                replace hb := Turned.upon hb ht hgd (Nat.le_refl _)
                replace hD := hD2
                refine hK.out _ _ (HK.out _ hb) (fun hHeld => ?_)
                clear hK K
                try simp only [Act.put, List.setIfInBounds_toArray, List.set_cons_zero, List.set_cons_succ]
                refine wpAnyH_done (by kernel_rfl) ?_ _
                go_wp2
                go_meet
                exact ⟨_, A25, k25, rfl, hD, hx25, hb⟩
              exact AllReadyH.nil
            exact AllReadyH.nil
          case rest =>
            obtain ⟨b33, A25, k25, rfl, hD, hx, hbx⟩ := hcut
            clear HDO
            obtain ⟨qr, fr, tr⟩ := (G.step hbx).rules m0
            obtain ⟨qd, fd⟩ := hD.rules
            have td := hD.lt
            have hs1 := run_string_of (P := Tryz.prog) (cap := k25) (n := r.data.length) (l := r.data) wc 32 9 5 Tryz.underlying32 Tryz.underlying5 Tryz.underlying9 rfl (IsB.open_ hx).2.1
            have hs2 := run_string_of (P := Tryz.prog) (cap := cd6) (n := r.data.length) (l := r.data) wc 32 9 5 Tryz.underlying32 Tryz.underlying5 Tryz.underlying9 rfl (IsB.open_ ((G.step hbx).get m1)).2.1
            go_wp2_with fail
            go_roundw
            case rel => exact ⟨⟨i + 1, by go_num, by omega, hbB.trans (hbx.mono hbB.size)⟩, _, rfl⟩
            case measure => simp [intOf]; omega
    obtain ⟨adl, es, rfl, -, hes, hcell⟩ := (hv0.step L.below).at_ (List.getElem?_eq_getElem hlt)
    generalize l[j] = rs at hes
    obtain ⟨⟨vr, rfl, hrs⟩, hrl⟩ := hes
    obtain ⟨Ar, cr, rfl, hrc, hrc2⟩ := hrs.form
    have hc0 : wr.cell? (adl.add j) = some (.slice Ar rs.length cr) := by
      have := hcell 0 _ rfl
      rw [addr0] at this
      rw [show j = j * 1 by omega]
      exact this
    have hokr := isL_ok hrs
    have E := ((((((Kn.from_ L.below hsz).know L.hd).know L.db).know L.pb).give Stable.list L.dz.zlt).give Stable.bytes L.bb.lt).give Stable.list L.bl.ltRc
    replace E := ((E.give Stable.list hrs).give Stable.ownRc L.wn).give Stable.ownI L.pl
    clear hcell hrs
    obtain ⟨bg, hbg⟩ : ∃ bg, bigR 8000 rs = bg := ⟨_, rfl⟩
    have HBG := Lib.hid hbg; clear hbg
    go_wp2_with fail
    refine (bigR_any 8000 _ rs _ _ (E.get m2)).mono ?_
    rw [HBG.out]
    rintro e w6 ⟨rfl, hb6⟩
    replace E := E.step hb6
    have hs6 := hb6.size
    clear hc0 hb6
    cases bg
    case true =>
      go_wp2
      go_ret
      exact ⟨rfl, E.below⟩
    obtain ⟨⟨q, at_, er⟩, hra⟩ : ∃ r, addL p rs = r := ⟨_, rfl⟩
    have hland := L.land
    have hok := L.ok
    have hge8 := L.ge8
    have hge10 := L.ge10
    have hg10r : g10 < wr.heap.size := L.pb.lt
    have HR13 := Lib.hid (OwnR.lt L.wn)
    have HR14 := Lib.hid (fun k (hk : (Value.slice A14 places.length c14).ownBlock = some k) => L.pl.lt k hk)
    have HRA := Lib.hid hra; have HOKR := Lib.hid hokr; have HL := Lib.hid hland; have HOK := Lib.hid hok
    have hopk : OkPk p := by
      obtain ⟨f1, f2, f3, f4⟩ := hland.few_want hok
      refine ⟨by rw [hland.hd]; exact hh, by rw [hland.zone]; omega, by rw [hland.cap]; omega, by rw [hland.at_]; omega, by omega, by have := hland.few; omega⟩
    have hfw := hland.few_want hok
    have HFW := Lib.hid hfw; clear hfw
    have hadd := fun v K W hv hK hl => add_any v (.slice Ar rs.length cr) p rs K (· < w.heap.size) W hv hK hopk hl (by omega)
    rw [hra] at hadd
    simp only at hadd
    obtain ⟨na, hna⟩ : ∃ na, at_.length = na := ⟨_, rfl⟩
    rw [hna] at hadd
    have HNA := Lib.hid hna
    clear hna
    have HADD := Lib.hid hadd
    clear hadd hra hokr hland hok L hopk
    obtain ⟨q10, f10, t10⟩ := E.rules m0
    go_wp2_with fail
    refine (HADD.out _ _ _ ⟨_, _, rfl, E.get m4, E.get m3⟩ (fun b hb => by have := hb.2; omega) (E.get m2)).mono ?_
    rintro e w7 ⟨pv, A18, c18, rfl, hpk, own18, hb7⟩
    obtain ⟨vb, vl, rfl, hqb, hql⟩ := hpk
    obtain ⟨Ab2, cb2, rfl, -⟩ := id hqb
    obtain ⟨Al2, cl2, rfl, -, -⟩ := hql.form
    have hs7 := hb7.size
    clear q10 f10 t10
    replace E := (((E.step hb7).give Stable.bytes hqb).give Stable.list hql).give Stable.ownI own18 |>.push 35 (packC q Ab2 cb2 Al2 cl2)
    clear hqb hql own18 hb7
    unfold pkV
    go_upto_if 96 with fail
    generalize hw8 : w7.alloc (.cells (packC q Ab2 cb2 Al2 cl2) 35) = w8 at E ⊢
    clear hw8
    have hs8 : w7.heap.size < w8.heap.size := (E.at_ m0).lt
    go_cut [13, 14] (fun s13 s14 wx => ∃ (p' : Pk) (want' : List Rc) (places' : List Int) (Ab' : Option Addr) (cb' : Nat) (Al' : Option Addr) (cl' : Nat) (A13' : Option Addr) (c13' : Nat) (A14' : Option Addr) (c14' : Nat),
      s13 = .slice A13' want'.length c13' ∧ s14 = .slice A14' places'.length c14' ∧ LW w wx g8 g10 h M p' b want' places' Ad kd Ab' cb' Al' cl' A13' c13' A14' c14' w7.heap.size ∧ Blk wx w7.heap.size 35 (packC q Ab2 cb2 Al2 cl2))
    case first =>
      by_cases her : er = 0
      case neg =>
        have heb : (er == 0) = false := by simpa using her
        clear her
        have hlk0 : ∀ b, (LK g8 g10 (.slice A13 want.length c13) (.slice A14 places.length c14) g10 b ∧ b < wr.heap.size) → LK g8 g10 (.slice A13 want.length c13) (.slice A14 places.length c14) w7.heap.size b := fun b hb => ⟨hb.1.1, hb.1.2.1, hb.1.2.2.1, hb.1.2.2.2.1, by have := hb.2; omega⟩
        go_wp2_with fail
        go_meet
        exact ⟨p, want, places, Ab, cb, Al, cl, A13, c13, A14, c14, rfl, rfl, ⟨E.below, E.at_ m3, E.at_ m2, E.at_ m1, IsL.more (E.get m8) hlk0, IsB.more (E.get m7) hlk0, IsL.more (E.get m6) hlk0, E.get m4, E.get m3, HL.out, HOK.out, hge8, hge10⟩, E.at_ m0⟩
      subst her
      obtain ⟨LA2, hlen2⟩ := HL.out.add HOKR.out HRA.out
      obtain rfl : na = rs.length := by rw [← HNA.out]; exact hlen2
      have hok2 : ∀ r ∈ want ++ rs, OkRc r := fun r hr => by
        rcases List.mem_append.1 hr with hr | hr
        · exact HOK.out r hr
        · exact HOKR.out r hr
      have hfw2 := LA2.few_want hok2
      rw [List.length_append] at hfw2
      have HLA2 := Lib.hid LA2; have HOK2 := Lib.hid hok2; have HLEN2 := Lib.hid hlen2
      obtain ⟨hf1, hf2, hf3, hf4⟩ := hfw2
      rw [List.length_append] at hf2
      obtain ⟨hfw1, hfw2, -, -⟩ := HFW.out
      have hfat : at_.length ≤ 1000 := by omega
      have HF2 := Lib.hid hf2; have HF3 := Lib.hid hfw2
      clear LA2 hok2 hlen2 hf2 hfw2
      have hpl3 : places.length ≤ 1000 := by have := HF3.out; omega
      obtain ⟨q17, f17, t17⟩ := E.rules m0
      obtain ⟨q10, f10, t10⟩ := E.rules m1
      obtain ⟨hB10, hT10⟩ := st8_all (E.at_ m1) (.int .i64 q.h.host) (.int .i64 q.h.epoch) (.int .i64 q.h.seq) (.int .i64 q.zone) (.int .i64 q.cap) (.int .i64 q.at_) (.slice Ab2 q.buf.length cb2) (.slice Al2 q.l.length cl2)
      unfold st8 at hB10 hT10
      unfold packC at q17 q10
      have HBT10 := Lib.hid (And.intro hB10 hT10)
      have HFN := Lib.hid (And.intro hf1 (And.intro hf3 (And.intro hf4 (And.intro hfw1 (And.intro hfat hpl3)))))
      clear f17 hT10 hB10 hf1 hf3 hf4 hfw1 hfat hpl3
      go_upto_region 24 with fail
      clear q17 t17 q10 f10 t10
      obtain ⟨hB10, hT10⟩ := HBT10.out
      have hbe := below_turned E.below hT10 (by omega) E.below.size
      have W1 := (E.at_ m3).turned hT10 (by omega)
      have W2 := (E.at_ m2).turned hT10 (by omega)
      have W3 := (E.at_ m0).turned hT10 (by omega)
      have V8 := IsL.turned (E.get m8) hT10 (fun b hb => hb.1.2.1)
      have hx2 : ∀ b, (b < w7.heap.size ∧ (LK g8 g10 (.slice A13 want.length c13) (.slice A14 places.length c14) g10 b ∧ b < wr.heap.size ∨ w6.heap.size ≤ b)) → ¬ b = g10 := by
        rintro b ⟨-, h1 | h1⟩ e
        · exact h1.1.2.1 e
        · omega
      have V2 := IsB.turned (E.get m2) hT10 hx2
      have V1 := IsL.turned (E.get m1) hT10 hx2
      have V5 := IsL.turned (E.get m5) hT10 (fun b hb e => by omega)
      have V4 := OwnR.boxT (E.get m4) (E.at_ m1) (by decide) (by omega) hT10
      have V3 := own_boxT (E.get m3) (E.at_ m1) (by decide) hT10
      have V0 := own_boxT (E.get m0) (E.at_ m1) (by decide) hT10
      have hs89 := hT10.size
      generalize hw9 : (((((((w8.setCell ⟨g10, 0, none⟩ (.int .i64 q.h.host)).setCell ⟨g10, 1, none⟩ (.int .i64 q.h.epoch)).setCell ⟨g10, 2, none⟩ (.int .i64 q.h.seq)).setCell ⟨g10, 3, none⟩ (.int .i64 q.zone)).setCell ⟨g10, 4, none⟩ (.int .i64 q.cap)).setCell ⟨g10, 5, none⟩ (.int .i64 q.at_)).setCell ⟨g10, 6, none⟩ (.slice Ab2 q.buf.length cb2)).setCell ⟨g10, 7, none⟩ (.slice Al2 q.l.length cl2) = w9 at hB10 hbe hs89 W1 W2 W3 V8 V2 V1 V5 V4 V3 V0 ⊢
      clear hw9 hT10 HBT10 E hx2
      have hs9 := hbe.size
      obtain ⟨-, cs13, own13, cl13⟩ := V4.open_
      obtain ⟨-, ⟨csr, hrr, hclr⟩, -, -, -⟩ := V5.open_
      replace own13 : w9.ownsRow w.heap.size 57 7 (.slice A13 want.length c13) want.length cs13 := own13
      have hro := hclr.one
      have HV := Lib.hid (And.intro V4 (And.intro V5 (And.intro cl13 hclr)))
      have hrow13 := V4.lt
      have HROW13 := Lib.hid hrow13
      clear V4 V5 cl13 hclr hrow13
      obtain ⟨ir, hir, hrz0, hrz1, hrz2⟩ := info_parts Tryz.infR
      have hnb : (want.length + rs.length) ≤ 700 := by obtain ⟨h1, -⟩ := HFN.out; omega
      go_upto_region 25 with (at_builtin; refine wpList_appN rfl (.tmp 103) (.tmp 104) _ rfl w.heap.size 57 ir _ 7 72 Tryz.underlying33 hir hrz0 hrz1 hrz2 rfl (by omega) rfl own13 rfl hrr hro (by simp only [maxLen]; omega) (by omega) hs9 ?_; intro A20 c20 w10 own20 hg20)
      replace hg20 : Grew w.heap.size w9 w10 (.slice A13 want.length c13) (.slice A20 (want.length + rs.length) c20) := hg20
      have hKa : ∀ b, (LK g8 g10 (.slice A13 want.length c13) (.slice A14 places.length c14) g10 b ∧ b < wr.heap.size) → some b ≠ (Value.slice A13 want.length c13).ownBlock := fun b hb => hb.1.2.2.1
      have hKb : ∀ b, (b < w7.heap.size ∧ (LK g8 g10 (.slice A13 want.length c13) (.slice A14 places.length c14) g10 b ∧ b < wr.heap.size ∨ w6.heap.size ≤ b)) → some b ≠ (Value.slice A13 want.length c13).ownBlock := by
        rintro b ⟨-, h1 | h1⟩
        · exact h1.1.2.2.1
        · intro e; have := (HR13.out b e.symm).2; omega
      have hKa4 : ∀ b, (LK g8 g10 (.slice A13 want.length c13) (.slice A14 places.length c14) g10 b ∧ b < wr.heap.size) → some b ≠ (Value.slice A14 places.length c14).ownBlock := fun b hb => hb.1.2.2.2.1
      have hKb4 : ∀ b, (b < w7.heap.size ∧ (LK g8 g10 (.slice A13 want.length c13) (.slice A14 places.length c14) g10 b ∧ b < wr.heap.size ∨ w6.heap.size ≤ b)) → some b ≠ (Value.slice A14 places.length c14).ownBlock := by
        rintro b ⟨-, h1 | h1⟩
        · exact h1.1.2.2.2.1
        · intro e; have := (HR14.out b e.symm).2; omega
      have W1' := W1.grew own13 (by decide) hg20
      have W2' := W2.grew own13 (by decide) hg20
      have W3' := W3.grew own13 (by decide) hg20
      have B10' := hB10.grew own13 (by decide) hg20
      have V8' := V8.grewK hg20 hKa
      have V2' := V2.grewK hg20 hKb
      have V1' := V1.grewK hg20 hKb
      have V3' := own_growT V3 (own_types_ne V3 own13 (by decide)) hg20
      have V0' := own_growT V0 (own_types_ne V0 own13 (by decide)) hg20
      have hbe' := hbe.trans hg20.below
      have hO : OwnR Rp.rc w10 w.heap.size 57 (· < w.heap.size) (.slice A20 (want.length + rs.length) c20) (want ++ rs) := by
        obtain ⟨-, -, hc1, hc2⟩ := HV.out
        refine OwnR.appL rfl (by simp) hc1 (hc2.more fun b hb => ⟨hb, by omega, fun e => ?_⟩) own20 hg20
        have := (HROW13.out b e.symm).1
        omega
      have hs10 := hbe'.size
      have hrat := Reads.of_own V0'
      have hpl3 : places.length ≤ 1000 := HFN.out.2.2.2.2.2
      have hr1000 : rs.length ≤ 1000 := by have h1 := HFN.out.2.2.2.2.1; have h2 := HLEN2.out; omega
      clear W1 W2 W3 hB10 V8 V2 V1 V3 V0 hrr hro own20
      go_wp2_with (at_builtin; refine wpList_appN rfl (.tmp 106) (.tmp 107) _ rfl w.heap.size 3 i0 _ 1 8 Tryz.underlying44 hi hz0 hz1 hz2 rfl (by omega) rfl V3' rfl hrat (by intro u hu; simp only [List.mem_map] at hu; obtain ⟨x, _, rfl⟩ := hu; rfl) (by simp only [maxLen]; omega) (by omega) hs10 ?_; intro A21 c21 w11 own21 hg21)
      go_meet
      replace hg21 : Grew w.heap.size w10 w11 (.slice A14 places.length c14) (.slice A21 (places.length + rs.length) c21) := hg21
      have hl1 : (want ++ rs).length = want.length + rs.length := by simp
      have hl2 : (places ++ at_).length = places.length + rs.length := by rw [List.length_append, HLEN2.out]
      have hs910 := hg20.grown.size
      have hK9 : ∀ b, b < w7.heap.size → b < w9.heap.size := fun b hb => by omega
      have hLK1 : ∀ b, (LK g8 g10 (.slice A13 want.length c13) (.slice A14 places.length c14) g10 b ∧ b < wr.heap.size) → LK g8 g10 (.slice A20 (want.length + rs.length) c20) (.slice A21 (places.length + rs.length) c21) w7.heap.size b := fun b hb =>
        ⟨hb.1.1, hb.1.2.1, grew_ne hg20 (by have := hb.2; omega) (hKa b hb), grew_ne hg21 (by have := hb.2; omega) (hKa4 b hb), by have := hb.2; omega⟩
      have hLK2 : ∀ b, (b < w7.heap.size ∧ (LK g8 g10 (.slice A13 want.length c13) (.slice A14 places.length c14) g10 b ∧ b < wr.heap.size ∨ w6.heap.size ≤ b)) → LK g8 g10 (.slice A20 (want.length + rs.length) c20) (.slice A21 (places.length + rs.length) c21) w7.heap.size b := fun b hb => by
        refine ⟨?_, ?_, grew_ne hg20 (by have := hb.1; omega) (hKb b hb), grew_ne hg21 (by have := hb.1; omega) (hKb4 b hb), by have := hb.1; omega⟩
        · rcases hb.2 with h1 | h1
          · exact h1.1.1
          · omega
        · rcases hb.2 with h1 | h1
          · exact h1.1.2.1
          · omega
      refine ⟨q, want ++ rs, places ++ at_, Ab2, cb2, Al2, cl2, A20, c20, A21, c21, by rw [hl1], by rw [hl2], ?_, W3'.grew V3' (by decide) hg21⟩
      have hLW : LW w w11 g8 g10 h M q b (want ++ rs) (places ++ at_) Ad kd Ab2 cb2 Al2 cl2 A20 c20 A21 c21 w7.heap.size := by
        refine ⟨hbe'.trans hg21.below, W1'.grew V3' (by decide) hg21, W2'.grew V3' (by decide) hg21, B10'.grew V3' (by decide) hg21, ?_, ?_, ?_, ?_, ?_, HLA2.out, HOK2.out, hge8, hge10⟩
        · rw [hl1, hl2]; exact (V8'.grewK hg21 hKa4).more hLK1
        · rw [hl1, hl2]; exact (V2'.grewK hg21 hKb4).more hLK2
        · rw [hl1, hl2]; exact (V1'.grewK hg21 hKb4).more hLK2
        · rw [hl1]; exact OwnR.grew hO V3' (by decide) (fun b hb e => by have := (HR14.out b e.symm).1; omega) hg21
        · rw [hl2, List.map_append]; exact own21
      exact hLW
    case rest =>
      obtain ⟨p', want', places', Ab', cb', Al', cl', A13', c13', A14', c14', rfl, rfl, L, B17⟩ := hcut
      clear E HADD HRA HNA HBG HFW HL HOK HOKR HR13 HR14 hrl hrc hrc2
      have hopk := Lib.hid (land_okpk hh hM1 hM2 L.land L.ok)
      have hL := L.land
      have hfw := hL.few_want L.ok
      have HLL := Lib.hid hL; have HOK := Lib.hid L.ok; have HFW := Lib.hid hfw
      have hszc := L.below.size
      have hg17 := B17.lt
      have hg8c : g8 < wc.heap.size := L.db.lt
      have hg10c : g10 < wc.heap.size := L.pb.lt
      have HR13 := Lib.hid (OwnR.lt L.wn)
      have HR14 := Lib.hid (fun k (hk : (Value.slice A14' places'.length c14').ownBlock = some k) => L.pl.lt k hk)
      have E := ((((((Kn.from_ L.below hszc).know L.hd).know L.db).know B17).know L.pb).give Stable.list L.dz.zlt).give Stable.bytes L.bb.lt |>.give Stable.list L.bl.ltRc |>.give Stable.ownRc L.wn |>.give Stable.ownI L.pl
      clear L hL hfw B17
      by_cases hnil : p'.buf = []
      case pos =>
        obtain ⟨q10, f10, t10⟩ := E.rules m0
        unfold packC at q10
        have HNIL := Lib.hid hnil; clear hnil
        go_wp2_with fail
        refine (flush_noneK _ p' _ _ ⟨_, _, rfl, E.get m3, E.get m2⟩ (fun b hb => hb.2) hopk.out HNIL.out).mono ?_
        rintro e w12 ⟨A22, c22, A23, c23, rfl, hpk, hb12⟩
        obtain ⟨hpb, hpl⟩ := pk_parts hpk
        have hs12 := hb12.size
        clear q10 f10 t10 hpk
        replace E := ((E.step hb12).give Stable.bytes hpb).give Stable.list hpl
        clear hpb hpl hb12
        unfold cmdV pkV
        obtain ⟨q17, f17, t17⟩ := E.rules m1
        obtain ⟨hB17, hT17⟩ := st8_all (E.at_ m1) (.int .i64 p'.h.host) (.int .i64 p'.h.epoch) (.int .i64 p'.h.seq) (.int .i64 p'.zone) (.int .i64 p'.cap) (.int .i64 p'.at_) (.slice A22 p'.buf.length c22) (.slice A23 p'.l.length c23)
        unfold st8 at hB17 hT17
        have HBT := Lib.hid (And.intro hB17 hT17); clear hB17 hT17
        go_upto_region 27 with fail
        clear q17 f17 t17
        obtain ⟨hB17, hT17⟩ := HBT.out
        clear HBT
        have hx : ∀ b, (LK g8 g10 (.slice A13' want'.length c13') (.slice A14' places'.length c14') w7.heap.size b ∧ b < wc.heap.size) → ¬ b = w7.heap.size := fun b hb => hb.1.2.2.2.2
        have hx2 : ∀ b, ((LK g8 g10 (.slice A13' want'.length c13') (.slice A14' places'.length c14') w7.heap.size b ∧ b < wc.heap.size) ∨ wc.heap.size ≤ b) → ¬ b = w7.heap.size := by
          rintro b (hb | hb)
          · exact hx b hb
          · omega
        have hbe := below_turned E.below hT17 (by omega) E.below.size
        have W1 := ((E.at_ m3).turned hT17 (by omega)).alloc (.cells #[.int .i64 0, .int .i64 0, .int .i64 0, .int .i64 0, .int .i64 0, .slice none 0 0] 43)
        have W2 := ((E.at_ m2).turned hT17 (by omega)).alloc (.cells #[.int .i64 0, .int .i64 0, .int .i64 0, .int .i64 0, .int .i64 0, .slice none 0 0] 43)
        have W3 := ((E.at_ m0).turned hT17 (by omega)).alloc (.cells #[.int .i64 0, .int .i64 0, .int .i64 0, .int .i64 0, .int .i64 0, .slice none 0 0] 43)
        have W4 := hB17.alloc (.cells #[.int .i64 0, .int .i64 0, .int .i64 0, .int .i64 0, .int .i64 0, .slice none 0 0] 43)
        have V6 := (IsL.turned (E.get m6) hT17 hx).alloc (.cells #[.int .i64 0, .int .i64 0, .int .i64 0, .int .i64 0, .int .i64 0, .slice none 0 0] 43)
        have V1 := (IsB.turned (E.get m1) hT17 hx2).alloc (.cells #[.int .i64 0, .int .i64 0, .int .i64 0, .int .i64 0, .int .i64 0, .slice none 0 0] 43)
        have V0 := (IsL.turned (E.get m0) hT17 hx2).alloc (.cells #[.int .i64 0, .int .i64 0, .int .i64 0, .int .i64 0, .int .i64 0, .slice none 0 0] 43)
        have V3 := OwnR.step (OwnR.boxT (E.get m3) (E.at_ m1) (by decide) (by omega) hT17) ((Below.refl _ _).alloc (Nat.le_refl _) (.cells #[.int .i64 0, .int .i64 0, .int .i64 0, .int .i64 0, .int .i64 0, .slice none 0 0] 43))
        have V2 := (own_boxT (E.get m2) (E.at_ m1) (by decide) hT17).alloc (.cells #[.int .i64 0, .int .i64 0, .int .i64 0, .int .i64 0, .int .i64 0, .slice none 0 0] 43)
        replace hbe := hbe.alloc hbe.size (.cells #[.int .i64 0, .int .i64 0, .int .i64 0, .int .i64 0, .int .i64 0, .slice none 0 0] 43)
        have hs13 := hT17.size
        clear hT17 hB17 E
        generalize hw13 : ((((((((w12.setCell ⟨w7.heap.size, 0, none⟩ (.int .i64 p'.h.host)).setCell ⟨w7.heap.size, 1, none⟩ (.int .i64 p'.h.epoch)).setCell ⟨w7.heap.size, 2, none⟩ (.int .i64 p'.h.seq)).setCell ⟨w7.heap.size, 3, none⟩ (.int .i64 p'.zone)).setCell ⟨w7.heap.size, 4, none⟩ (.int .i64 p'.cap)).setCell ⟨w7.heap.size, 5, none⟩ (.int .i64 p'.at_)).setCell ⟨w7.heap.size, 6, none⟩ (.slice A22 p'.buf.length c22)).setCell ⟨w7.heap.size, 7, none⟩ (.slice A23 p'.l.length c23)).alloc (.cells #[.int .i64 0, .int .i64 0, .int .i64 0, .int .i64 0, .int .i64 0, .slice none 0 0] 43) = w13 at hbe W1 W2 W3 W4 V6 V1 V0 V3 V2 ⊢
        clear hw13
        obtain ⟨q17, f17⟩ := W4.rules
        have t17 := W4.lt
        obtain ⟨q10, f10⟩ := W3.rules
        have t10 := W3.lt
        unfold packC at q10
        have HBT := Lib.hid (st8_all W3 (.int .i64 p'.h.host) (.int .i64 p'.h.epoch) (.int .i64 p'.h.seq) (.int .i64 p'.zone) (.int .i64 p'.cap) (.int .i64 p'.at_) (.slice A22 p'.buf.length c22) (.slice A23 p'.l.length c23))
        go_upto_region 33 with fail
        clear q17 f17 t17 q10 f10 t10
        obtain ⟨hB10, hT10⟩ := HBT.out
        unfold st8 at hB10 hT10
        clear HBT
        have hlk1 : ∀ b, (LK g8 g10 (.slice A13' want'.length c13') (.slice A14' places'.length c14') w7.heap.size b ∧ b < wc.heap.size) → LK g8 g10 (.slice A13' want'.length c13') (.slice A14' places'.length c14') g10 b := fun b hb => ⟨hb.1.1, hb.1.2.1, hb.1.2.2.1, hb.1.2.2.2.1, hb.1.2.1⟩
        have hlk2 : ∀ b, ((LK g8 g10 (.slice A13' want'.length c13') (.slice A14' places'.length c14') w7.heap.size b ∧ b < wc.heap.size) ∨ wc.heap.size ≤ b) → LK g8 g10 (.slice A13' want'.length c13') (.slice A14' places'.length c14') g10 b := by
          rintro b (hb | hb)
          · exact hlk1 b hb
          · exact ⟨by omega, by omega, fun e => by have := (HR13.out b e.symm).2; omega, fun e => by have := (HR14.out b e.symm).2; omega, by omega⟩
        have hLW : LW w ((((((((w13.setCell ⟨g10, 0, none⟩ (.int .i64 p'.h.host)).setCell ⟨g10, 1, none⟩ (.int .i64 p'.h.epoch)).setCell ⟨g10, 2, none⟩ (.int .i64 p'.h.seq)).setCell ⟨g10, 3, none⟩ (.int .i64 p'.zone)).setCell ⟨g10, 4, none⟩ (.int .i64 p'.cap)).setCell ⟨g10, 5, none⟩ (.int .i64 p'.at_)).setCell ⟨g10, 6, none⟩ (.slice A22 p'.buf.length c22)).setCell ⟨g10, 7, none⟩ (.slice A23 p'.l.length c23)) g8 g10 h M p' b want' places' Ad kd A22 c22 A23 c23 A13' c13' A14' c14' g10 :=
          ⟨below_turned hbe hT10 (by omega) hbe.size, W1.turned hT10 (by omega), W2.turned hT10 (by omega), hB10, (V6.turned hT10 (fun b hb => hb.1.2.1)).more hlk1, (V1.turned hT10 (fun b hb => (hlk2 b hb).2.1)).more hlk2, (V0.turned hT10 (fun b hb => (hlk2 b hb).2.1)).more hlk2, OwnR.boxT V3 W3 (by decide) (by omega) hT10, own_boxT V2 W3 (by decide) hT10, HLL.out, HOK.out, hge8, hge10⟩
        clear W1 W2 W3 W4 V6 V1 V0 V3 V2 hB10 hT10 hbe hlk1 hlk2
        generalize hw14 : (((((((w13.setCell ⟨g10, 0, none⟩ (.int .i64 p'.h.host)).setCell ⟨g10, 1, none⟩ (.int .i64 p'.h.epoch)).setCell ⟨g10, 2, none⟩ (.int .i64 p'.h.seq)).setCell ⟨g10, 3, none⟩ (.int .i64 p'.zone)).setCell ⟨g10, 4, none⟩ (.int .i64 p'.cap)).setCell ⟨g10, 5, none⟩ (.int .i64 p'.at_)).setCell ⟨g10, 6, none⟩ (.slice A22 p'.buf.length c22)).setCell ⟨g10, 7, none⟩ (.slice A23 p'.l.length c23) = w14 at hLW ⊢
        clear hw14
        go_wp2_with fail
        go_roundw
        case rel => exact ⟨j + 1, p', b, want', places', Ad, kd, A22, c22, A23, c23, A13', c13', A14', c14', by go_num, by omega, rfl, rfl, hLW⟩
        case measure => simp [intOf]; omega
      obtain ⟨q10, f10, t10⟩ := E.rules m0
      unfold packC at q10
      have hLF := HLL.out.flush hnil
      obtain ⟨pf, hpf⟩ : ∃ pf, flushP p' = pf := ⟨_, rfl⟩
      have hpfb : pf.buf.length = 0 ∧ pf.l.length = 0 := by rw [← hpf]; unfold flushP; rw [if_neg hnil]; exact ⟨rfl, rfl⟩
      have hfl := fun K W hv => flush_some (pkV p' (.slice Ab' p'.buf.length cb') (.slice Al' p'.l.length cl')) p' K W hv hopk.out hnil
      have hz1 : p'.zone = 1 := HLL.out.zone
      have hh1 : p'.h = h := HLL.out.hd
      have hdo : ∀ (K : Nat → Prop) (W : World) A k Ac kc, IsL Rp.zone W K (.slice A 2 k) [z0, landZ h.epoch M b] → (∀ b, K b → b < W.heap.size) → IsB W K (.slice Ac p'.buf.length kc) p'.buf →
          Calls Tryz.prog 15 #[.agg #[.int .i64 M, .int .i64 1, .int .i64 1, .slice A 2 k], .agg #[.int .i64 1, .int .i64 p'.zone, .int .i64 p'.h.epoch, .int .i64 0, .int .i64 0, .slice Ac p'.buf.length kc]] W
            (LandPost K W M [z0, landZ h.epoch M (b ++ p'.buf)] ⟨0, b.length, []⟩) := fun K W A k Ac kc hz hlt hB => by
        rw [hz1, hh1]
        exact do_append M h.epoch b p'.buf A k Ac kc K W (by omega) ⟨by omega, by omega⟩ hnil HLL.out.fits hz hlt hB
      have hat : ((b.length : Int) != p'.at_) = false := by rw [HLL.out.at_]; exact bne_self_eq_false _
      rw [hpf] at hfl hLF
      have HPFB := Lib.hid hpfb; have HFL := Lib.hid hfl; have HDO := Lib.hid hdo; have HLF := Lib.hid hLF; have HAT := Lib.hid hat; have HH1 := Lib.hid hh1
      have hb47 : p'.buf.length ≤ 140737488355328 := by have := HFW.out.2.2.2; omega
      clear hLF hpf hpfb hfl hdo hz1 hh1 hat hnil
      go_wp2_with fail
      refine (HFL.out _ _ ⟨_, _, rfl, E.get m3, E.get m2⟩).mono ?_
      rintro e w12 ⟨A22, c22, rfl, own22, hb12⟩
      have hs12 := hb12.size
      clear q10 f10 t10
      replace E := (E.step hb12).give Stable.bytes (IsB.of_own own22 hb47).lt
      clear own22 hb12
      unfold cmdV pkV
      obtain ⟨q17, f17, t17⟩ := E.rules m1
      have HBT := Lib.hid (st8_all (E.at_ m1) (.int .i64 pf.h.host) (.int .i64 pf.h.epoch) (.int .i64 pf.h.seq) (.int .i64 pf.zone) (.int .i64 pf.cap) (.int .i64 pf.at_) (.slice none 0 0) (.slice none 0 0))
      go_upto_region 27 with fail
      clear q17 f17 t17
      obtain ⟨hB17, hT17⟩ := HBT.out
      unfold st8 at hB17 hT17
      clear HBT
      have hx : ∀ b, (LK g8 g10 (.slice A13' want'.length c13') (.slice A14' places'.length c14') w7.heap.size b ∧ b < wc.heap.size) → ¬ b = w7.heap.size := fun b hb => hb.1.2.2.2.2
      have hbe := below_turned E.below hT17 (by omega) E.below.size
      have W1 := ((E.at_ m3).turned hT17 (by omega)).alloc (.cells #[.int .i64 1, .int .i64 p'.zone, .int .i64 p'.h.epoch, .int .i64 0, .int .i64 0, .slice A22 p'.buf.length c22] 43)
      have W2 := ((E.at_ m2).turned hT17 (by omega)).alloc (.cells #[.int .i64 1, .int .i64 p'.zone, .int .i64 p'.h.epoch, .int .i64 0, .int .i64 0, .slice A22 p'.buf.length c22] 43)
      have W3 := ((E.at_ m0).turned hT17 (by omega)).alloc (.cells #[.int .i64 1, .int .i64 p'.zone, .int .i64 p'.h.epoch, .int .i64 0, .int .i64 0, .slice A22 p'.buf.length c22] 43)
      have W4 := hB17.alloc (.cells #[.int .i64 1, .int .i64 p'.zone, .int .i64 p'.h.epoch, .int .i64 0, .int .i64 0, .slice A22 p'.buf.length c22] 43)
      have W5 := Blk.new ((((((((w12.setCell ⟨w7.heap.size, 0, none⟩ (.int .i64 pf.h.host)).setCell ⟨w7.heap.size, 1, none⟩ (.int .i64 pf.h.epoch)).setCell ⟨w7.heap.size, 2, none⟩ (.int .i64 pf.h.seq)).setCell ⟨w7.heap.size, 3, none⟩ (.int .i64 pf.zone)).setCell ⟨w7.heap.size, 4, none⟩ (.int .i64 pf.cap)).setCell ⟨w7.heap.size, 5, none⟩ (.int .i64 pf.at_)).setCell ⟨w7.heap.size, 6, none⟩ (.slice none 0 0)).setCell ⟨w7.heap.size, 7, none⟩ (.slice none 0 0)) 43 #[.int .i64 1, .int .i64 p'.zone, .int .i64 p'.h.epoch, .int .i64 0, .int .i64 0, .slice A22 p'.buf.length c22] (g := w12.heap.size) (by simp [World.setCell])
      have V6 := (IsL.turned (E.get m5) hT17 hx).alloc (.cells #[.int .i64 1, .int .i64 p'.zone, .int .i64 p'.h.epoch, .int .i64 0, .int .i64 0, .slice A22 p'.buf.length c22] 43)
      have V1 := (IsB.turned (E.get m0) hT17 (fun b hb => by have := hb.1; omega)).alloc (.cells #[.int .i64 1, .int .i64 p'.zone, .int .i64 p'.h.epoch, .int .i64 0, .int .i64 0, .slice A22 p'.buf.length c22] 43)
      have V3 := OwnR.step (OwnR.boxT (E.get m2) (E.at_ m1) (by decide) (by omega) hT17) ((Below.refl _ _).alloc (Nat.le_refl _) (.cells #[.int .i64 1, .int .i64 p'.zone, .int .i64 p'.h.epoch, .int .i64 0, .int .i64 0, .slice A22 p'.buf.length c22] 43))
      have V2 := (own_boxT (E.get m1) (E.at_ m1) (by decide) hT17).alloc (.cells #[.int .i64 1, .int .i64 p'.zone, .int .i64 p'.h.epoch, .int .i64 0, .int .i64 0, .slice A22 p'.buf.length c22] 43)
      replace hbe := hbe.alloc hbe.size (.cells #[.int .i64 1, .int .i64 p'.zone, .int .i64 p'.h.epoch, .int .i64 0, .int .i64 0, .slice A22 p'.buf.length c22] 43)
      have hs13 : w12.heap.size < ((((((((((w12.setCell ⟨w7.heap.size, 0, none⟩ (.int .i64 pf.h.host)).setCell ⟨w7.heap.size, 1, none⟩ (.int .i64 pf.h.epoch)).setCell ⟨w7.heap.size, 2, none⟩ (.int .i64 pf.h.seq)).setCell ⟨w7.heap.size, 3, none⟩ (.int .i64 pf.zone)).setCell ⟨w7.heap.size, 4, none⟩ (.int .i64 pf.cap)).setCell ⟨w7.heap.size, 5, none⟩ (.int .i64 pf.at_)).setCell ⟨w7.heap.size, 6, none⟩ (.slice none 0 0)).setCell ⟨w7.heap.size, 7, none⟩ (.slice none 0 0)).alloc (.cells #[.int .i64 1, .int .i64 p'.zone, .int .i64 p'.h.epoch, .int .i64 0, .int .i64 0, .slice A22 p'.buf.length c22] 43))).heap.size := W5.lt
      clear hT17 hB17 E
      generalize hw13 : ((((((((w12.setCell ⟨w7.heap.size, 0, none⟩ (.int .i64 pf.h.host)).setCell ⟨w7.heap.size, 1, none⟩ (.int .i64 pf.h.epoch)).setCell ⟨w7.heap.size, 2, none⟩ (.int .i64 pf.h.seq)).setCell ⟨w7.heap.size, 3, none⟩ (.int .i64 pf.zone)).setCell ⟨w7.heap.size, 4, none⟩ (.int .i64 pf.cap)).setCell ⟨w7.heap.size, 5, none⟩ (.int .i64 pf.at_)).setCell ⟨w7.heap.size, 6, none⟩ (.slice none 0 0)).setCell ⟨w7.heap.size, 7, none⟩ (.slice none 0 0)).alloc (.cells #[.int .i64 1, .int .i64 p'.zone, .int .i64 p'.h.epoch, .int .i64 0, .int .i64 0, .slice A22 p'.buf.length c22] 43) = w13 at hbe W1 W2 W3 W4 W5 V6 V1 V3 V2 hs13 ⊢
      clear hw13
      have F := ((((((((((Kn.from_ hbe hbe.size).know W1).know W2).know W3).know W4).know W5).give Stable.list V6).give Stable.bytes V1).give Stable.ownRc V3).give Stable.ownI V2)
      clear W1 W2 W3 W4 W5 V6 V1 V3 V2 hbe
      obtain ⟨q8, f8, t8⟩ := F.rules m3
      obtain ⟨qc, fc, tc⟩ := F.rules m0
      go_wp2_with fail
      have hs13' : w12.heap.size < w13.heap.size := hs13
      refine (HDO.out (fun b => (LK g8 g10 (.slice A13' want'.length c13') (.slice A14' places'.length c14') w7.heap.size b ∧ b < wc.heap.size) ∨ (wc.heap.size ≤ b ∧ b < w12.heap.size)) _ _ _ _ _ (IsL.more (F.get m3) fun b hb => .inl hb) (fun b hb => by rcases hb with hb | hb <;> (have := hb.2; omega)) (IsB.more (F.get m2) fun b hb => .inr hb)).mono ?_
      rintro e w14 ⟨A24, k24, A25, k25, rfl, hz24, -, hb14⟩
      simp only [List.length_nil]
      have hs14 := hb14.size
      clear q8 f8 t8 qc fc tc
      replace F := (((F.step hb14).give Stable.list hz24).push 28 #[.int .i64 M, .int .i64 1, .int .i64 1, .slice A24 2 k24]).push 39 #[.int .i64 0, .int .i64 b.length, .slice A25 0 k25]
      rw [World.size_alloc] at F
      clear hz24 hb14
      obtain ⟨qd, fd, td⟩ := F.rules m0
      obtain ⟨qx, fx, tx⟩ := F.rules m1
      obtain ⟨q10, f10, t10⟩ := F.rules m4
      obtain ⟨q8, f8, t8⟩ := F.rules m5
      unfold packC at q10
      have hat := HAT.out
      have HBT := Lib.hid (l4_all (F.at_ m5) (.int .i64 M) (.int .i64 1) (.int .i64 1) (.slice A24 2 k24))
      go_upto_region 32 with fail
      clear qd fd td qx fx tx q10 f10 t10 q8 f8 t8 hat
      obtain ⟨hB8, hT8⟩ := HBT.out
      clear HBT
      have hk10 : ∀ b, ((LK g8 g10 (.slice A13' want'.length c13') (.slice A14' places'.length c14') w7.heap.size b ∧ b < wc.heap.size ∨ wc.heap.size ≤ b ∧ b < w12.heap.size) ∨ w13.heap.size ≤ b) → LK g8 g10 (.slice A13' want'.length c13') (.slice A14' places'.length c14') g10 b := by
        intro b hb
        have hnew : wc.heap.size ≤ b → LK g8 g10 (.slice A13' want'.length c13') (.slice A14' places'.length c14') g10 b := fun hb => ⟨by omega, by omega, fun e => by have := (HR13.out b e.symm).2; omega, fun e => by have := (HR14.out b e.symm).2; omega, by omega⟩
        rcases hb with (hb | hb) | hb
        · exact ⟨hb.1.1, hb.1.2.1, hb.1.2.2.1, hb.1.2.2.2.1, hb.1.2.1⟩
        · exact hnew hb.1
        · exact hnew (by omega)
      have hbe := below_turned F.below hT8 (by omega) F.below.size
      have W1 := (F.at_ m6).turned hT8 (by omega)
      have W3 := (F.at_ m4).turned hT8 (by omega)
      have W4 := (F.at_ m3).turned hT8 (by omega)
      have V0 := IsL.turned (F.get m0) hT8 (fun b hb => (hk10 b hb).1)
      have V3 := OwnR.boxT (F.get m2) (F.at_ m5) (by decide) (by omega) hT8
      have V2 := own_boxT (F.get m1) (F.at_ m5) (by decide) hT8
      clear hT8 F
      generalize hw16 : (((((w14.alloc (.cells #[.int .i64 M, .int .i64 1, .int .i64 1, .slice A24 2 k24] 28)).alloc (.cells #[.int .i64 0, .int .i64 b.length, .slice A25 0 k25] 39)).setCell ⟨g8, 0, none⟩ (.int .i64 M)).setCell ⟨g8, 1, none⟩ (.int .i64 1)).setCell ⟨g8, 2, none⟩ (.int .i64 1)).setCell ⟨g8, 3, none⟩ (.slice A24 2 k24) = w16 at hbe W1 W3 W4 hB8 V0 V3 V2 ⊢
      clear hw16
      obtain ⟨q17, f17⟩ := W4.rules
      have t17 := W4.lt
      obtain ⟨q10, f10⟩ := W3.rules
      have t10 := W3.lt
      unfold packC at q10
      have HBT := Lib.hid (st8_all W3 (.int .i64 pf.h.host) (.int .i64 pf.h.epoch) (.int .i64 pf.h.seq) (.int .i64 pf.zone) (.int .i64 pf.cap) (.int .i64 pf.at_) (.slice none 0 0) (.slice none 0 0))
      go_upto_region 33 with fail
      clear q17 f17 t17 q10 f10 t10
      obtain ⟨hB10, hT10⟩ := HBT.out
      unfold st8 at hB10 hT10
      clear HBT
      have hpb0 : pf.buf = [] := List.eq_nil_of_length_eq_zero HPFB.out.1
      have hpl0 : pf.l = [] := List.eq_nil_of_length_eq_zero HPFB.out.2
      have hLW : LW w ((((((((w16.setCell ⟨g10, 0, none⟩ (.int .i64 pf.h.host)).setCell ⟨g10, 1, none⟩ (.int .i64 pf.h.epoch)).setCell ⟨g10, 2, none⟩ (.int .i64 pf.h.seq)).setCell ⟨g10, 3, none⟩ (.int .i64 pf.zone)).setCell ⟨g10, 4, none⟩ (.int .i64 pf.cap)).setCell ⟨g10, 5, none⟩ (.int .i64 pf.at_)).setCell ⟨g10, 6, none⟩ (.slice none 0 0)).setCell ⟨g10, 7, none⟩ (.slice none 0 0)) g8 g10 h M pf (b ++ p'.buf) want' places' A24 k24 none 0 none 0 A13' c13' A14' c14' g10 := by
        refine ⟨below_turned hbe hT10 (by omega) hbe.size, W1.turned hT10 (by omega), hB8.turned hT10 (by omega), ?_, (V0.turned hT10 (fun b hb => (hk10 b hb).2.1)).more hk10, ?_, ?_, OwnR.boxT V3 W3 (by decide) (by omega) hT10, own_boxT V2 W3 (by decide) hT10, HLF.out, HOK.out, hge8, hge10⟩
        · unfold packC; rw [HPFB.out.1, HPFB.out.2]; exact hB10
        · rw [hpb0]; exact isB_nil _ _
        · rw [hpl0]; exact IsL.nil_ _ _
      clear W1 W3 W4 V0 V3 V2 hB8 hB10 hT10 hbe hk10 hpb0 hpl0
      generalize hw17 : (((((((w16.setCell ⟨g10, 0, none⟩ (.int .i64 pf.h.host)).setCell ⟨g10, 1, none⟩ (.int .i64 pf.h.epoch)).setCell ⟨g10, 2, none⟩ (.int .i64 pf.h.seq)).setCell ⟨g10, 3, none⟩ (.int .i64 pf.zone)).setCell ⟨g10, 4, none⟩ (.int .i64 pf.cap)).setCell ⟨g10, 5, none⟩ (.int .i64 pf.at_)).setCell ⟨g10, 6, none⟩ (.slice none 0 0)).setCell ⟨g10, 7, none⟩ (.slice none 0 0) = w17 at hLW ⊢
      clear hw17
      go_wp2_with fail
      go_roundw
      case rel => exact ⟨j + 1, pf, b ++ p'.buf, want', places', A24, k24, none, 0, none, 0, A13', c13', A14', c14', by go_num, by omega, rfl, rfl, hLW⟩
      case measure => simp [intOf]; omega
end Go.Proofs.YtlippmghgagdaaaGreat
