/- quicksetlaw04.step: one act upon a zone. -/
import Derived.Test.YtcjmcfjjbicimaaZoneRefA
import Derived.Test.YtcjmcfjjbicimaaZoneLive
import Derived.Test.YtcjmcfjjbicimaaZoneTorn
import Derived.Test.YtcjmcfjjbicimaaZoneOps
import Derived.Test.YtcjmcfjjbicimaaEnv
namespace Go.Proofs.Ytcjmcfjjbicimaa
open Go.RowKit

theorem isZ_own' {w : World} {base : Nat} {A : Option Addr} {c : Nat} {z : Zn} (h : w.ownsRow base 5 1 (.slice A z.d.length c) z.d.length (cells8 z.d)) (hl : z.d.length ≤ 140737488355328) : IsZ w (fun _ => True) (.agg #[.int .i64 z.st, .int .i64 z.fe, .slice A z.d.length c]) z :=
  ⟨A, c, rfl, (IsB.of_own h hl).more (fun _ _ => trivial)⟩

/-- an act: its kind, bytes, number, place -/
structure Ac where
  k : Int
  b : List UInt8
  n : Int
  off : Int

def stepZ (z : Zn) (most : Int) (o : Ac) : Zn × Int :=
  if o.k = 0 then ((appZ z most o.b).1, (appZ z most o.b).2.2) else if o.k = 1 then tornZ z most o.b o.n else if o.k = 2 then openZ z most else if o.k = 3 then closeZ z
  else if o.k = 4 then (finZ z, 0) else if o.k = 5 then (rstZ z, 0) else (z, (readZ z o.off o.n).2)

theorem grown_len {z : Zn} {most : Int} {b : List UInt8} (h : (z.d.length : Int) + b.length ≤ 140737488355328) : (grownZ z most b).d.length ≤ 140737488355328 := by
  show (z.d ++ b).length ≤ _
  rw [List.length_append]; omega

theorem step_len (z : Zn) (most : Int) (o : Ac) (hz : z.d.length ≤ 140737488355328) : (stepZ z most o).1.d.length ≤ 140737488355328 := by
  have h0 : z0.d.length ≤ 140737488355328 := by show 0 ≤ _; omega
  unfold stepZ
  split
  · unfold appZ
    split
    · rename_i h; have := roomZ_zero h; exact grown_len (by have := this.1.2.1; omega)
    · exact h0
  · split
    · unfold tornZ
      split
      · exact h0
      · rename_i h
        split
        · have := roomZ_zero (Decidable.not_not.1 h)
          exact grown_len (by have h1 := List.length_take_le o.n.toNat o.b; have := this.1.2.1; omega)
        · exact h0
    · split
      · unfold openZ
        repeat' split
        all_goals first | exact h0 | exact hz
      · split
        · unfold closeZ
          split
          · exact h0
          · exact hz
        · split
          · exact hz
          · split
            · exact Nat.zero_le _
            · exact hz

set_option maxRecDepth 100000 in
set_option maxHeartbeats 4000000 in
theorem step_any (v bv : Value) (z : Zn) (most : Int) (o : Ac) (K K' : Nat → Prop) (w : World) (hz : IsZ w K v z) (hb : IsB w K' bv o.b) (hoff : o.off ≤ 9223372036854775807) :
    Calls Try.prog 33 #[v, .int .i64 most, .agg #[.int .i64 o.k, bv, .int .i64 o.n, .int .i64 o.off]] w fun e w' =>
      ∃ v', e = .returned (.tuple #[v', .int .i64 (stepZ z most o).2]) ∧ IsZ w' (fun _ => True) v' (stepZ z most o).1 ∧ Below w.heap.size w w' := by
  have hlen := step_len z most o (by obtain ⟨_, _, _, h⟩ := hz; exact h.len)
  obtain ⟨A, c, rfl, hsb⟩ := hz
  have hb0 := hb
  obtain ⟨A2, c2, rfl, _⟩ := hb
  unfold zv
  obtain ⟨k, b, n, off⟩ := o
  simp only at *
  have E : Env w.heap.size w (((w.alloc (.cells #[.int .i64 z.st, .int .i64 z.fe, .slice A z.d.length c] 26)).alloc (.cells #[.int .i64 k, .slice A2 b.length c2, .int .i64 n, .int .i64 off] 49)).alloc (.cells #[.int .i64 0, .int .i64 0, .slice none 0 0] 26))
      [(w.heap.size + 2, 26, #[.int .i64 0, .int .i64 0, .slice none 0 0]), (w.heap.size + 1, 49, #[.int .i64 k, .slice A2 b.length c2, .int .i64 n, .int .i64 off]), (w.heap.size, 26, #[.int .i64 z.st, .int .i64 z.fe, .slice A z.d.length c])]
      [(.slice A2 b.length c2, b), (.slice A z.d.length c, z.d)] := by
    have h := (((((Env.start w).give hsb).give hb0).push 26 #[.int .i64 z.st, .int .i64 z.fe, .slice A z.d.length c]).push 49 #[.int .i64 k, .slice A2 b.length c2, .int .i64 n, .int .i64 off]).push 26 #[.int .i64 0, .int .i64 0, .slice none 0 0]
    simpa using h
  by_cases h0 : k = 0
  · have hk0 : (k == 0) = true := beq_iff_eq.2 h0
    have HS : Hid (stepZ z most ⟨k, b, n, off⟩ = ((appZ z most b).1, (appZ z most b).2.2)) := Lib.hid (if_pos h0)
    rw [HS.out] at hlen ⊢
    clear h0
    obtain ⟨r, hr⟩ : ∃ r, r = appZ z most b := ⟨_, rfl⟩
    rw [← hr] at hlen ⊢
    obtain ⟨x, i, er⟩ := r
    have HR := Lib.hid hr; clear hr
    simp only at hlen ⊢
    go_enter Try.func33, Try.ntmps33
    go_wp2_with fail
    refine (append_any _ _ z most b _ _ _ (E.zone z m1) (E.byt _ m0)).mono ?_
    rw [← HR.out]
    rintro e w1 ⟨v1, rfl, ⟨A1, c1, rfl, own1⟩, hb1⟩
    replace E := E.step hb1
    have B1 : Blk w1 (w.heap.size + 1 + 1) _ _ := E.blk _ m0
    obtain ⟨q1, f1, t1⟩ := E.rules (g := w.heap.size + 2) m0
    have hfin := E.below
    simp only at own1
    unfold zv
    go_wp2_with fail
    have F := ((Blk.set3 (x := .int .i64 x.st) (y := .int .i64 x.fe) (z := .slice A1 x.d.length c1) B1).alloc (.cells #[.int .i64 x.st, .int .i64 x.fe, .slice A1 x.d.length c1] 26)).rules
    refine bodyPost_ret (v := .tuple #[.agg #[.int .i64 x.st, .int .i64 x.fe, .slice A1 x.d.length c1], .int .i64 er]) (by simp [results, Try.results33, go_sem, F.1]) rfl ⟨_, rfl, ?_, ?_⟩
    · exact isZ_own' ((own_setBlk3 own1 B1 (by decide)).alloc _) hlen
    · exact (below_set3 hfin (by omega)).alloc (by have := hfin.size; simp; omega) _
  have e0 := h0
  have hk0 : (k == 0) = false := beq_eq_false_iff_ne.2 h0
  clear h0
  by_cases h1 : k = 1
  · have hk1 : (k == 1) = true := beq_iff_eq.2 h1
    have HS : Hid (stepZ z most ⟨k, b, n, off⟩ = tornZ z most b n) := Lib.hid (by unfold stepZ; simp only [if_neg e0, if_pos h1])
    rw [HS.out] at hlen ⊢
    clear h1 e0
    obtain ⟨r, hr⟩ : ∃ r, r = tornZ z most b n := ⟨_, rfl⟩
    rw [← hr] at hlen ⊢
    obtain ⟨x, er⟩ := r
    have HR := Lib.hid hr; clear hr
    simp only at hlen ⊢
    go_enter Try.func33, Try.ntmps33
    go_wp2_with fail
    refine (torn_any _ _ z most n b _ _ _ (E.zone z m1) (E.byt _ m0)).mono ?_
    rw [← HR.out]
    rintro e w1 ⟨v1, rfl, ⟨A1, c1, rfl, own1⟩, hb1⟩
    replace E := E.step hb1
    have B1 : Blk w1 (w.heap.size + 1 + 1) _ _ := E.blk _ m0
    obtain ⟨q1, f1, t1⟩ := E.rules (g := w.heap.size + 2) m0
    have hfin := E.below
    try simp only at own1
    unfold zv
    go_wp2_with fail
    have F := (Blk.set3 (x := .int .i64 x.st) (y := .int .i64 x.fe) (z := .slice A1 x.d.length c1) B1).rules
    refine bodyPost_ret (v := .tuple #[.agg #[.int .i64 x.st, .int .i64 x.fe, .slice A1 x.d.length c1], .int .i64 _]) (by simp [results, Try.results33, go_sem, F.1]; try rfl) rfl ⟨_, rfl, ?_, ?_⟩
    · exact isZ_own' (own_setBlk3 own1 B1 (by decide)) hlen
    · exact below_set3 hfin (by omega)
  have e1 := h1
  have hk1 : (k == 1) = false := beq_eq_false_iff_ne.2 h1
  clear h1
  by_cases h2 : k = 2
  · have hk2 : (k == 2) = true := beq_iff_eq.2 h2
    have HS : Hid (stepZ z most ⟨k, b, n, off⟩ = openZ z most) := Lib.hid (by unfold stepZ; simp only [if_neg e0, if_neg e1, if_pos h2])
    rw [HS.out] at hlen ⊢
    clear h2 e0 e1
    obtain ⟨r, hr⟩ : ∃ r, r = openZ z most := ⟨_, rfl⟩
    rw [← hr] at hlen ⊢
    obtain ⟨x, er⟩ := r
    have HR := Lib.hid hr; clear hr
    simp only at hlen ⊢
    go_enter Try.func33, Try.ntmps33
    go_wp2_with fail
    refine (open_any _ z most _ _ (E.zone z m1)).mono ?_
    rw [← HR.out]
    rintro e w1 ⟨v1, rfl, ⟨A1, c1, rfl, own1⟩, hb1⟩
    replace E := E.step hb1
    have B1 : Blk w1 (w.heap.size + 1 + 1) _ _ := E.blk _ m0
    obtain ⟨q1, f1, t1⟩ := E.rules (g := w.heap.size + 2) m0
    have hfin := E.below
    try simp only at own1
    unfold zv
    go_wp2_with fail
    have F := (Blk.set3 (x := .int .i64 x.st) (y := .int .i64 x.fe) (z := .slice A1 x.d.length c1) B1).rules
    refine bodyPost_ret (v := .tuple #[.agg #[.int .i64 x.st, .int .i64 x.fe, .slice A1 x.d.length c1], .int .i64 _]) (by simp [results, Try.results33, go_sem, F.1]; try rfl) rfl ⟨_, rfl, ?_, ?_⟩
    · exact isZ_own' (own_setBlk3 own1 B1 (by decide)) hlen
    · exact below_set3 hfin (by omega)
  have e2 := h2
  have hk2 : (k == 2) = false := beq_eq_false_iff_ne.2 h2
  clear h2
  by_cases h3 : k = 3
  · have hk3 : (k == 3) = true := beq_iff_eq.2 h3
    have HS : Hid (stepZ z most ⟨k, b, n, off⟩ = closeZ z) := Lib.hid (by unfold stepZ; simp only [if_neg e0, if_neg e1, if_neg e2, if_pos h3])
    rw [HS.out] at hlen ⊢
    clear h3 e0 e1 e2
    obtain ⟨r, hr⟩ : ∃ r, r = closeZ z := ⟨_, rfl⟩
    rw [← hr] at hlen ⊢
    obtain ⟨x, er⟩ := r
    have HR := Lib.hid hr; clear hr
    simp only at hlen ⊢
    go_enter Try.func33, Try.ntmps33
    go_wp2_with fail
    refine (close_any _ z _ _ (E.zone z m1)).mono ?_
    rw [← HR.out]
    rintro e w1 ⟨v1, rfl, ⟨A1, c1, rfl, own1⟩, hb1⟩
    replace E := E.step hb1
    have B1 : Blk w1 (w.heap.size + 1 + 1) _ _ := E.blk _ m0
    obtain ⟨q1, f1, t1⟩ := E.rules (g := w.heap.size + 2) m0
    have hfin := E.below
    try simp only at own1
    unfold zv
    go_wp2_with fail
    have F := (Blk.set3 (x := .int .i64 x.st) (y := .int .i64 x.fe) (z := .slice A1 x.d.length c1) B1).rules
    refine bodyPost_ret (v := .tuple #[.agg #[.int .i64 x.st, .int .i64 x.fe, .slice A1 x.d.length c1], .int .i64 _]) (by simp [results, Try.results33, go_sem, F.1]; try rfl) rfl ⟨_, rfl, ?_, ?_⟩
    · exact isZ_own' (own_setBlk3 own1 B1 (by decide)) hlen
    · exact below_set3 hfin (by omega)
  have e3 := h3
  have hk3 : (k == 3) = false := beq_eq_false_iff_ne.2 h3
  clear h3
  by_cases h4 : k = 4
  · have hk4 : (k == 4) = true := beq_iff_eq.2 h4
    have HS : Hid (stepZ z most ⟨k, b, n, off⟩ = (finZ z, 0)) := Lib.hid (by unfold stepZ; simp only [if_neg e0, if_neg e1, if_neg e2, if_neg e3, if_pos h4])
    rw [HS.out] at hlen ⊢
    clear h4 e0 e1 e2 e3
    obtain ⟨r, hr⟩ : ∃ r : Zn × Int, r = (finZ z, 0) := ⟨_, rfl⟩
    rw [← hr] at hlen ⊢
    obtain ⟨x, er⟩ := r
    obtain rfl : er = 0 := congrArg Prod.snd hr
    have HR := Lib.hid hr; clear hr
    simp only at hlen ⊢
    go_enter Try.func33, Try.ntmps33
    go_wp2_with fail
    refine (finish_any _ z _ _ (E.zone z m1)).mono ?_
    rw [show finZ z = x from (congrArg Prod.fst HR.out).symm]
    rintro e w1 ⟨v1, rfl, ⟨A1, c1, rfl, own1⟩, hb1⟩
    replace E := E.step hb1
    have B1 : Blk w1 (w.heap.size + 1 + 1) _ _ := E.blk _ m0
    obtain ⟨q1, f1, t1⟩ := E.rules (g := w.heap.size + 2) m0
    have hfin := E.below
    try simp only at own1
    unfold zv
    go_wp2_with fail
    have F := (Blk.set3 (x := .int .i64 x.st) (y := .int .i64 x.fe) (z := .slice A1 x.d.length c1) B1).rules
    refine bodyPost_ret (v := .tuple #[.agg #[.int .i64 x.st, .int .i64 x.fe, .slice A1 x.d.length c1], .int .i64 _]) (by simp [results, Try.results33, go_sem, F.1]; try rfl) rfl ⟨_, rfl, ?_, ?_⟩
    · exact isZ_own' (own_setBlk3 own1 B1 (by decide)) hlen
    · exact below_set3 hfin (by omega)
  have e4 := h4
  have hk4 : (k == 4) = false := beq_eq_false_iff_ne.2 h4
  clear h4
  by_cases h5 : k = 5
  · have hk5 : (k == 5) = true := beq_iff_eq.2 h5
    have HS : Hid (stepZ z most ⟨k, b, n, off⟩ = (rstZ z, 0)) := Lib.hid (by unfold stepZ; simp only [if_neg e0, if_neg e1, if_neg e2, if_neg e3, if_neg e4, if_pos h5])
    rw [HS.out] at hlen ⊢
    clear h5 e0 e1 e2 e3 e4
    obtain ⟨r, hr⟩ : ∃ r : Zn × Int, r = (rstZ z, 0) := ⟨_, rfl⟩
    rw [← hr] at hlen ⊢
    obtain ⟨x, er⟩ := r
    obtain rfl : er = 0 := congrArg Prod.snd hr
    have HR := Lib.hid hr; clear hr
    simp only at hlen ⊢
    go_enter Try.func33, Try.ntmps33
    go_wp2_with fail
    refine (reset_any _ z _ _ (E.zone z m1)).mono ?_
    rw [show rstZ z = x from (congrArg Prod.fst HR.out).symm]
    rintro e w1 ⟨v1, rfl, ⟨A1, c1, rfl, own1⟩, hb1⟩
    replace E := E.step hb1
    have B1 : Blk w1 (w.heap.size + 1 + 1) _ _ := E.blk _ m0
    obtain ⟨q1, f1, t1⟩ := E.rules (g := w.heap.size + 2) m0
    have hfin := E.below
    try simp only at own1
    unfold zv
    go_wp2_with fail
    have F := (Blk.set3 (x := .int .i64 x.st) (y := .int .i64 x.fe) (z := .slice A1 x.d.length c1) B1).rules
    refine bodyPost_ret (v := .tuple #[.agg #[.int .i64 x.st, .int .i64 x.fe, .slice A1 x.d.length c1], .int .i64 _]) (by simp [results, Try.results33, go_sem, F.1]; try rfl) rfl ⟨_, rfl, ?_, ?_⟩
    · exact isZ_own' (own_setBlk3 own1 B1 (by decide)) hlen
    · exact below_set3 hfin (by omega)
  have e5 := h5
  have hk5 : (k == 5) = false := beq_eq_false_iff_ne.2 h5
  clear h5
  have HS : Hid (stepZ z most ⟨k, b, n, off⟩ = (z, (readZ z off n).2)) := Lib.hid (by unfold stepZ; simp only [if_neg e0, if_neg e1, if_neg e2, if_neg e3, if_neg e4, if_neg e5])
  rw [HS.out] at hlen ⊢
  clear e0 e1 e2 e3 e4 e5
  obtain ⟨er, her⟩ : ∃ er, er = (readZ z off n).2 := ⟨_, rfl⟩
  rw [← her]
  have HR := Lib.hid her; clear her
  go_enter Try.func33, Try.ntmps33
  go_wp2_with fail
  refine (read_any _ z off n _ _ (E.zone z m1) hoff).mono ?_
  rw [← HR.out]
  rintro e w1 ⟨v1, rfl, ⟨A1, c1, rfl, own1⟩, hb1⟩
  replace E := E.step hb1
  have B1 : Blk w1 (w.heap.size + 1 + 1) _ _ := E.blk _ m0
  obtain ⟨q1, f1, t1⟩ := E.rules (g := w.heap.size + 2) m0
  obtain ⟨q2, f2, t2⟩ := E.rules (g := w.heap.size) m2
  have hfin := E.below
  go_wp2_with fail
  have F := (Blk.set3 (x := .int .i64 z.st) (y := .int .i64 z.fe) (z := .slice A z.d.length c) B1).rules
  have W3 := below_set3 (x := .int .i64 z.st) (y := .int .i64 z.fe) (z := .slice A z.d.length c) (g := w.heap.size + 1 + 1) hfin (by omega)
  refine bodyPost_ret (v := .tuple #[.agg #[.int .i64 z.st, .int .i64 z.fe, .slice A z.d.length c], .int .i64 er]) (by simp [results, Try.results33, go_sem, F.1]) rfl ⟨_, rfl, ?_, ?_⟩
  · exact ⟨A, c, rfl, (hsb.step W3).more (fun _ _ => trivial)⟩
  · exact W3
end Go.Proofs.Ytcjmcfjjbicimaa
