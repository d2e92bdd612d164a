/- The walk of wire.TakeMsg. -/
import Derived.Test.YtbjgemipmlimoaaWireMsg
namespace Go.Proofs.Ytbjgemipmlimoaa
open Go.RowKit

def m0s : Ms := ⟨0, 0, 0, 0, [], []⟩
/-- what TakeMsg reads: the four numbers, how many more; the reader's place -/
def tmHead (l : List UInt8) : Int × Int × Int × Int × Int × Rs :=
  ((rnum l (0, 0)).1, (rnum l (rnum l (0, 0)).2).1, (rnum l (rnum l (rnum l (0, 0)).2).2).1, (rnum l (rnum l (rnum l (rnum l (0, 0)).2).2).2).1,
    (rmost l 64 (rnum l (rnum l (rnum l (rnum l (0, 0)).2).2).2).2).1, (rmost l 64 (rnum l (rnum l (rnum l (rnum l (0, 0)).2).2).2).2).2)
def tmArgs (l : List UInt8) (many : Int) (s : Rs) : List Int × Rs := if s.2 = 0 then rnums l many.toNat [] s else ([], s)
/-- what TakeMsg answers -/
def takeMsgL (l : List UInt8) : Ms × Int × Int :=
  let h := tmHead l
  let a := tmArgs l h.2.2.2.2.1 h.2.2.2.2.2
  let d := rvec l a.2
  if d.2.2 ≠ 0 then (m0s, 0, d.2.2) else (⟨h.1, h.2.1, h.2.2.1, h.2.2.2.1, a.1, d.1⟩, (d.2.1 : Int), 0)

theorem rnums_in {l : List UInt8} : ∀ (n : Nat) (acc : List Int) (s : Rs), s.1 ≤ l.length → acc.length ≤ s.1 → I63 acc → s.2 = 0 → (rnums l n acc s).2.1 ≤ l.length ∧ (rnums l n acc s).1.length ≤ (rnums l n acc s).2.1 ∧ I63 (rnums l n acc s).1
  | 0, acc, s, h, ha, h63, _ => ⟨h, ha, h63⟩
  | n + 1, acc, s, h, ha, h63, hs => by
    unfold rnums
    have hin := rnum_in (l := l) (s := s) h
    split
    · exact ⟨hin.1, Nat.zero_le _, fun _ h => by cases h⟩
    · rename_i he
      have hgo := rnum_go hs (Decidable.not_not.1 he)
      refine rnums_in n _ _ hin.1 (by simp; omega) ?_ (Decidable.not_not.1 he)
      intro m hm
      rcases List.mem_append.1 hm with hm | hm
      · exact h63 m hm
      · rw [List.mem_singleton.1 hm]; omega

theorem Blk.set6 {w : World} {t : TypeId} {g : Nat} {a b c d e f x1 x2 x3 x4 x5 x6 : Value} (h : Blk w g t #[a, b, c, d, e, f]) :
    Blk ((((((w.setCell ⟨g, 0, none⟩ x1).setCell ⟨g, 1, none⟩ x2).setCell ⟨g, 2, none⟩ x3).setCell ⟨g, 3, none⟩ x4).setCell ⟨g, 4, none⟩ x5).setCell ⟨g, 5, none⟩ x6) g t #[x1, x2, x3, x4, x5, x6] :=
  (((((h.set_ 0 x1).set_ 1 x2).set_ 2 x3).set_ 3 x4).set_ 4 x5).set_ 5 x6
theorem grow_set6 {w w' : World} {g : Nat} {x1 x2 x3 x4 x5 x6 : Value} (h : w.grownBy w' (some g)) :
    w.grownBy ((((((w'.setCell ⟨g, 0, none⟩ x1).setCell ⟨g, 1, none⟩ x2).setCell ⟨g, 2, none⟩ x3).setCell ⟨g, 3, none⟩ x4).setCell ⟨g, 4, none⟩ x5).setCell ⟨g, 5, none⟩ x6) (some g) :=
  grow_set (grow_set (grow_set (grow_set (grow_set (grow_set h _ _) _ _) _ _) _ _) _ _) _ _
theorem grow_draw {w : World} {row : Option Nat} : w.grownBy w.drew row := ⟨rfl, rfl, rfl, Nat.le_refl _, fun _ _ _ => rfl⟩
theorem IsL.grown {α : Type} {R : Rp α} {w w' : World} {K : Nat → Prop} {v : Value} {l : List α} {row : Option Nat} (h : IsL R w K v l) (hg : w.grownBy w' row) (hK : ∀ b, K b → some b ≠ row) : IsL R w' K v l :=
  h.keep fun p hp hl => World.cell?_of_block (hg.block p.block hl (hK _ hp))
theorem IsB.grown {w w' : World} {K : Nat → Prop} {v : Value} {l : List UInt8} {row : Option Nat} (h : IsB w K v l) (hg : w.grownBy w' row) (hK : ∀ b, K b → some b ≠ row) : IsB w' K v l :=
  h.keep fun p hp hl => World.cell?_of_block (hg.block p.block hl (hK _ hp))

set_option maxRecDepth 100000 in
set_option maxHeartbeats 4000000 in
theorem takeMsg_any (v : Value) (l : List UInt8) (K : Nat → Prop) (w : World) (hb : IsB w K v l) (hl : l.length ≤ 10000000000000) :
    Calls Try.prog 41 #[v] w fun e w' => ∃ v', e = .returned (.tuple #[v', .int .i64 (takeMsgL l).2.1, .int .i64 (takeMsgL l).2.2]) ∧
      IsM w' (fun b => w.heap.size ≤ b) v' (takeMsgL l).1 ∧ Below w.heap.size w w' := by
  have hb0 := hb.lt
  obtain ⟨A, c, rfl, _, hlc, hcc, hl47⟩ := hb
  obtain ⟨res, hres⟩ : ∃ res, res = takeMsgL l := ⟨_, rfl⟩
  rw [← hres]
  unfold takeMsgL tmHead tmArgs at hres
  simp only at hres
  obtain ⟨x1, hx1⟩ : ∃ x, rnum l (0, 0) = x := ⟨_, rfl⟩
  have i1 := rnum_in (l := l) (s := (0, 0)) (Nat.zero_le _)
  rw [hx1] at hres i1
  obtain ⟨k1, p1, e1⟩ := x1
  simp only at hres i1
  obtain ⟨x2, hx2⟩ : ∃ x, rnum l (p1, e1) = x := ⟨_, rfl⟩
  have i2 := rnum_in (l := l) (s := (p1, e1)) i1.1
  rw [hx2] at hres i2
  obtain ⟨k2, p2, e2⟩ := x2
  simp only at hres i2
  obtain ⟨x3, hx3⟩ : ∃ x, rnum l (p2, e2) = x := ⟨_, rfl⟩
  have i3 := rnum_in (l := l) (s := (p2, e2)) i2.1
  rw [hx3] at hres i3
  obtain ⟨k3, p3, e3⟩ := x3
  simp only at hres i3
  obtain ⟨x4, hx4⟩ : ∃ x, rnum l (p3, e3) = x := ⟨_, rfl⟩
  have i4 := rnum_in (l := l) (s := (p3, e3)) i3.1
  rw [hx4] at hres i4
  obtain ⟨k4, p4, e4⟩ := x4
  simp only at hres i4
  obtain ⟨x5, hx5⟩ : ∃ x, rmost l 64 (p4, e4) = x := ⟨_, rfl⟩
  have i5 := rmost_in (l := l) (s := (p4, e4)) 64 i4.1
  have j5 := fun h => rmost_le (l := l) (s := (p4, e4)) (m := 64) h
  rw [hx5] at hres i5 j5
  obtain ⟨k5, p5, e5⟩ := x5
  simp only at hres i5 j5
  have HR := Lib.hid hres; clear hres
  have H1 := Lib.hid hx1; clear hx1
  have H2 := Lib.hid hx2; clear hx2
  have H3 := Lib.hid hx3; clear hx3
  have H4 := Lib.hid hx4; clear hx4
  have H5 := Lib.hid hx5; clear hx5
  -- the world ahead of the first number
  have hW : Below w.heap.size w ((w.alloc (.cells #[.int .i64 0, .int .i64 0, .int .i64 0, .int .i64 0, .slice none 0 0, .slice none 0 0] 45)).alloc (.cells #[.slice A l.length c, .int .i64 0, .int .i64 0] 98)) := ((Below.refl _ _).alloc (Nat.le_refl _) _).alloc (by simp) _
  have hB0 : Blk ((w.alloc (.cells #[.int .i64 0, .int .i64 0, .int .i64 0, .int .i64 0, .slice none 0 0, .slice none 0 0] 45)).alloc (.cells #[.slice A l.length c, .int .i64 0, .int .i64 0] 98)) (w.heap.size + 1) 98 #[.slice A l.length c, .int .i64 ((0 : Nat) : Int), .int .i64 0] := Blk.new _ _ _ (by simp)
  have hG0 : Blk ((w.alloc (.cells #[.int .i64 0, .int .i64 0, .int .i64 0, .int .i64 0, .slice none 0 0, .slice none 0 0] 45)).alloc (.cells #[.slice A l.length c, .int .i64 0, .int .i64 0] 98)) w.heap.size 45 #[.int .i64 0, .int .i64 0, .int .i64 0, .int .i64 0, .slice none 0 0, .slice none 0 0] := (Blk.new _ _ _ rfl).alloc _
  have hbb := ((hb0.alloc (.cells #[.int .i64 0, .int .i64 0, .int .i64 0, .int .i64 0, .slice none 0 0, .slice none 0 0] 45)).alloc (.cells #[.slice A l.length c, .int .i64 0, .int .i64 0] 98)).more (K' := fun b => b ≠ w.heap.size + 1) (fun b hb => by omega)
  go_enter Try.func41, Try.ntmps41
  go_wp2_with fail
  refine (num_any (w.heap.size + 1) 0 c A 0 l _ hB0 hbb (Nat.zero_le _)).mono ?_
  rw [H1.out]
  rintro en w1 ⟨rfl, B1, g1⟩
  have G1 := hG0.grown g1 (by simp)
  have b1 := hbb.grow g1
  have W1 := hW.trans (below_grow g1 (show w.heap.size ≤ _ by omega) (by simp; omega))
  clear hB0 hbb hG0 g1
  go_wp2_with fail
  refine (num_any (w.heap.size + 1) p1 c A e1 l _ B1 b1 i1.1).mono ?_
  rw [H2.out]
  rintro en w2 ⟨rfl, B2, g2⟩
  have G2 := G1.grown g2 (by simp)
  have b2 := b1.grow g2
  have W2 := W1.trans (below_grow g2 (show w.heap.size ≤ _ by omega) W1.size)
  clear B1 b1 G1 g2 W1
  go_wp2_with fail
  refine (num_any (w.heap.size + 1) p2 c A e2 l _ B2 b2 i2.1).mono ?_
  rw [H3.out]
  rintro en w3 ⟨rfl, B3, g3⟩
  have G3 := G2.grown g3 (by simp)
  have b3 := b2.grow g3
  have W3 := W2.trans (below_grow g3 (show w.heap.size ≤ _ by omega) W2.size)
  clear B2 b2 G2 g3 W2
  go_wp2_with fail
  refine (num_any (w.heap.size + 1) p3 c A e3 l _ B3 b3 i3.1).mono ?_
  rw [H4.out]
  rintro en w4 ⟨rfl, B4, g4⟩
  have G4 := G3.grown g4 (by simp)
  have b4 := b3.grow g4
  have W4 := W3.trans (below_grow g4 (show w.heap.size ≤ _ by omega) W3.size)
  clear B3 b3 G3 g4 W3
  go_wp2_with fail
  have M4 := Blk.new w4 45 #[.int .i64 k1, .int .i64 k2, .int .i64 k3, .int .i64 k4, .slice none 0 0, .slice none 0 0] rfl
  have hne : w4.heap.size ≠ w.heap.size + 1 := by have := B4.lt; omega
  have hne0 : w4.heap.size ≠ w.heap.size := by have := B4.lt; omega
  have hg6 : w.heap.size + 1 < w4.heap.size := B4.lt
  refine (most_any (w.heap.size + 1) p4 c A e4 64 l _ (B4.alloc _) (b4.alloc _) i4.1).mono ?_
  rw [H5.out]
  rintro en w5 ⟨rfl, B5, g5⟩
  have G5 := (G4.alloc _).grown g5 (by simp)
  have M5 := M4.grown g5 (by simpa using hne)
  have b5 := (b4.alloc _).grow g5
  have W5 := (W4.alloc W4.size _).trans (below_grow g5 (show w.heap.size ≤ _ by omega) (by have := W4.size; simp; omega))
  clear B4 b4 G4 g5 W4 M4
  obtain ⟨q1, f1⟩ := B5.rules
  have t1 := B5.lt
  have h5s := B5.lt
  obtain ⟨qm, fm⟩ := M5.rules
  have tm := M5.lt
  have hb0s := fun W (h : Below w.heap.size w W) => (IsB.below hb0 h (fun b h => h.2)).more (K' := fun b => b ≠ w.heap.size + 1) (fun b h => by omega)
  have HBS := Lib.hid hb0s; clear hb0s
  simp only at B5
  by_cases he5 : e5 = 0
  · subst he5
    have hk5 := j5 rfl
    obtain ⟨k5, rfl⟩ : ∃ k : Nat, k5 = (k : Int) := ⟨k5.toNat, by omega⟩
    obtain ⟨x6, hx6⟩ : ∃ x, rnums l k5 [] (p5, 0) = x := ⟨_, rfl⟩
    have hx6n := rnums_in (l := l) k5 [] (p5, 0) i5.1 (by simp) (fun _ h => by cases h) rfl
    rw [hx6] at hx6n
    have hRx : res = if (rvec l x6.2).2.2 ≠ 0 then (m0s, 0, (rvec l x6.2).2.2) else (⟨k1, k2, k3, k4, x6.1, (rvec l x6.2).1⟩, ((rvec l x6.2).2.1 : Int), 0) := by
      rw [HR.out, if_pos rfl, Int.toNat_natCast, hx6]
    have hct := nums_any (w.heap.size + 1) p5 c k5 A l w5 B5 (HBS.out _ W5) i5.1 hl (by omega)
    rw [hx6] at hct
    obtain ⟨ars, p6, e6⟩ := x6
    simp only at hct hRx hx6n
    have HRX := Lib.hid hRx; clear hRx
    have HC6 := Lib.hid hct; clear hct
    have H6 := Lib.hid hx6; clear hx6
    go_wp2_with fail
    refine HC6.out.mono ?_
    rintro en w6 ⟨A6, c6, rfl, own6, B6, g6⟩
    have G6 := G5.grown g6 (by simp)
    have M6 := M5.grown g6 (by simpa using hne)
    have W6 := W5.trans (below_grow g6 (show w.heap.size ≤ _ by omega) W5.size)
    obtain ⟨ql, fl⟩ := M6.rules
    have tl := M6.lt
    have hs56 := g6.size
    clear q1 f1 t1 qm fm tm B5 G5 M5 g6
    go_wp2_with fail
    have M6' := M6.set_ 4 (.slice A6 ars.length c6)
    have hgm := grow_set (World.grownBy.refl w6 (some w4.heap.size)) 4 (.slice A6 ars.length c6)
    generalize hw7 : w6.setCell ⟨w4.heap.size, 4, none⟩ (.slice A6 ars.length c6) = w7 at M6' hgm ⊢
    have B7 := B6.grown hgm (by simp; omega)
    have G7 := G6.grown hgm (by simp; omega)
    have own7 : w7.ownsRow w5.heap.size 3 1 (.slice A6 ars.length c6) ars.length (ars.map I64) := by rw [← hw7]; exact own_setBlk own6 M6 (by decide) _ _
    have W7 : Below w.heap.size w w7 := W6.trans (below_grow hgm (by omega) W6.size)
    replace M6' : Blk w7 w4.heap.size 45 #[.int .i64 k1, .int .i64 k2, .int .i64 k3, .int .i64 k4, .slice A6 ars.length c6, .slice none 0 0] := M6'
    have hs67 := hgm.size
    clear hw7 hgm M6 own6 B6 G6 ql fl tl
    obtain ⟨x8, hx8⟩ : ∃ x, rvec l (p6, e6) = x := ⟨_, rfl⟩
    have hct := vec_any (w.heap.size + 1) p6 c A e6 l w7 B7 (HBS.out _ W7) hx6n.1
    have hvl : (rvec l (p6, e6)).1.length ≤ 140737488355328 := by
      unfold rvec
      split
      · simp
      · simp only [List.length_take, List.length_drop]; omega
    have hRX := HRX.out
    rw [hx8] at hct hRX hvl
    obtain ⟨d8, p8, e8⟩ := x8
    simp only at hct hRX hvl
    have HC8 := Lib.hid hct; clear hct hx8
    have HRY := Lib.hid hRX; clear hRX
    refine HC8.out.mono ?_
    rintro en w8 ⟨A8, c8, rfl, own8, B8, g8⟩
    have own7' := own7.kept g8 (by
      rcases hA : (Value.slice A6 ars.length c6).ownBlock with _ | k
      · exact .inl rfl
      · exact .inr (by have := (own7.lt k hA).1; intro e; cases e; omega))
    have G8 := G7.grown g8 (by simp)
    have M8 := M6'.grown g8 (by simpa using hne)
    have W8 := W7.trans (below_grow g8 (show w.heap.size ≤ _ by omega) W7.size)
    have hs78 := g8.size
    have hs5 := W5.size
    obtain ⟨ql, fl⟩ := M8.rules
    have tl := M8.lt
    obtain ⟨q1, f1⟩ := B8.rules
    have t1 := B8.lt
    clear B7 G7 M6' g8 own7
    by_cases he8 : e8 = 0
    · subst he8
      have hx : res = (⟨k1, k2, k3, k4, ars, d8⟩, (p8 : Int), 0) := by rw [HRY.out, if_neg (by simp)]
      have HX := Lib.hid hx; clear hx
      go_wp2_with fail
      have M9 := M8.set_ 5 (.slice A8 d8.length c8)
      have hgm := grow_set (World.grownBy.refl w8 (some w4.heap.size)) 5 (.slice A8 d8.length c8)
      generalize hw9 : w8.setCell ⟨w4.heap.size, 5, none⟩ (.slice A8 d8.length c8) = w9 at M9 hgm ⊢
      have B9 := B8.grown hgm (by simp; omega)
      have G9 := G8.grown hgm (by simp; omega)
      have own9 : w9.ownsRow w5.heap.size 3 1 (.slice A6 ars.length c6) ars.length (ars.map I64) := by rw [← hw9]; exact own_setBlk own7' M8 (by decide) _ _
      have own10 : w9.ownsRow w7.heap.size 5 1 (.slice A8 d8.length c8) d8.length (cells8 d8) := by rw [← hw9]; exact own_setBlk own8 M8 (by decide) _ _
      have W9 : Below w.heap.size w w9 := W8.trans (below_grow hgm (by omega) W8.size)
      replace M9 : Blk w9 w4.heap.size 45 #[.int .i64 k1, .int .i64 k2, .int .i64 k3, .int .i64 k4, .slice A6 ars.length c6, .slice A8 d8.length c8] := M9
      clear hw9 hgm M8 own7' own8 B8 G8 ql fl tl q1 f1 t1
      obtain ⟨ql, fl⟩ := M9.rules
      have tl := M9.lt
      obtain ⟨q1, f1⟩ := B9.rules
      have t1 := B9.lt
      obtain ⟨qg, fg⟩ := G9.rules
      have tg := G9.lt
      go_region
      go_wp2
      have F := (G9.set6 (x1 := .int .i64 k1) (x2 := .int .i64 k2) (x3 := .int .i64 k3) (x4 := .int .i64 k4) (x5 := .slice A6 ars.length c6) (x6 := .slice A8 d8.length c8)).drew.rules
      have hgf := grow_trans (grow_set6 (World.grownBy.refl w9 (some w.heap.size)) (x1 := .int .i64 k1) (x2 := .int .i64 k2) (x3 := .int .i64 k3) (x4 := .int .i64 k4) (x5 := .slice A6 ars.length c6) (x6 := .slice A8 d8.length c8)) grow_draw
      rw [HX.out]
      refine bodyPost_ret (v := .tuple #[.agg #[.int .i64 k1, .int .i64 k2, .int .i64 k3, .int .i64 k4, .slice A6 ars.length c6, .slice A8 d8.length c8], .int .i64 p8, .int .i64 0]) (by simp [results, Try.results41, go_sem, F.1]) rfl ⟨_, rfl, ⟨A6, c6, A8, c8, rfl, ?_, ?_, ?_⟩, ?_⟩
      · exact ((IsL.of_ints own9 hx6n.2.2 (by omega)).grown hgf (fun b hb => by simp; omega)).more (fun b hb => by omega)
      · exact ((IsB.of_own own10 hvl).grown hgf (fun b hb => by simp; have := W7.size; omega)).more (fun b hb => by have := W7.size; omega)
      · intro n hn
        simp only [List.mem_cons, List.not_mem_nil, or_false] at hn
        rcases hn with rfl | rfl | rfl | rfl <;> omega
      · exact W9.trans (below_grow hgf (Nat.le_refl _) W9.size)
    · have hx : res = (m0s, 0, e8) := by rw [HRY.out, if_pos he8]
      have HX := Lib.hid hx; clear hx
      have heb : (e8 != 0) = true := by simpa using he8
      clear he8
      go_wp2_with fail
      have M9 := M8.set_ 5 (.slice A8 d8.length c8)
      have hgm := grow_set (World.grownBy.refl w8 (some w4.heap.size)) 5 (.slice A8 d8.length c8)
      generalize hw9 : w8.setCell ⟨w4.heap.size, 5, none⟩ (.slice A8 d8.length c8) = w9 at M9 hgm ⊢
      have B9 := B8.grown hgm (by simp; omega)
      have G9 := G8.grown hgm (by simp; omega)
      have own9 : w9.ownsRow w5.heap.size 3 1 (.slice A6 ars.length c6) ars.length (ars.map I64) := by rw [← hw9]; exact own_setBlk own7' M8 (by decide) _ _
      have own10 : w9.ownsRow w7.heap.size 5 1 (.slice A8 d8.length c8) d8.length (cells8 d8) := by rw [← hw9]; exact own_setBlk own8 M8 (by decide) _ _
      have W9 : Below w.heap.size w w9 := W8.trans (below_grow hgm (by omega) W8.size)
      replace M9 : Blk w9 w4.heap.size 45 #[.int .i64 k1, .int .i64 k2, .int .i64 k3, .int .i64 k4, .slice A6 ars.length c6, .slice A8 d8.length c8] := M9
      clear hw9 hgm M8 own7' own8 B8 G8 ql fl tl q1 f1 t1
      obtain ⟨ql, fl⟩ := M9.rules
      have tl := M9.lt
      obtain ⟨q1, f1⟩ := B9.rules
      have t1 := B9.lt
      obtain ⟨qg, fg⟩ := G9.rules
      have tg := G9.lt
      go_region
      go_wp2
      have F := (G9.set6 (x1 := .int .i64 0) (x2 := .int .i64 0) (x3 := .int .i64 0) (x4 := .int .i64 0) (x5 := .slice none 0 0) (x6 := .slice none 0 0)).drew.rules
      have hgf := grow_trans (grow_set6 (World.grownBy.refl w9 (some w.heap.size)) (x1 := .int .i64 0) (x2 := .int .i64 0) (x3 := .int .i64 0) (x4 := .int .i64 0) (x5 := .slice none 0 0) (x6 := .slice none 0 0)) grow_draw
      rw [HX.out]
      refine bodyPost_ret (v := .tuple #[.agg #[.int .i64 0, .int .i64 0, .int .i64 0, .int .i64 0, .slice none 0 0, .slice none 0 0], .int .i64 0, .int .i64 e8]) (by simp [results, Try.results41, go_sem, F.1]) rfl ⟨_, rfl, ⟨none, 0, none, 0, rfl, IsL.nil_ _ _, IsB.nil_ _ _, ?_⟩, ?_⟩
      · intro n hn
        simp only [m0s, List.mem_cons, List.not_mem_nil, or_false] at hn
        omega
      · exact W9.trans (below_grow hgf (Nat.le_refl _) W9.size)
  · have heb : (e5 == 0) = false := by simpa using he5
    have heb2 : (e5 != 0) = true := by simpa using he5
    have hrn : rnum l (p5, e5) = (0, (p5, e5)) := if_pos he5
    have hrm : rmost l 65536 (p5, e5) = (0, (p5, e5)) := by unfold rmost; rw [hrn, if_neg (fun h => he5 h.1)]
    have hrv1 : rvec1 l (p5, e5) = (0, (p5, e5)) := by unfold rvec1; rw [hrm, if_neg (fun h => he5 h.1)]
    have hrv : rvec l (p5, e5) = ([], (p5, e5)) := by unfold rvec; rw [hrv1, if_pos he5]
    have hx : res = (m0s, 0, e5) := by rw [HR.out, if_neg he5, hrv, if_pos he5]
    have HX := Lib.hid hx; clear hx
    have hct := vec_any (w.heap.size + 1) p5 c A e5 l w5 B5 (HBS.out _ W5) i5.1
    rw [hrv] at hct
    simp only at hct
    have HC8 := Lib.hid hct; clear hct hrn hrm hrv1 hrv he5
    go_wp2_with fail
    refine HC8.out.mono ?_
    rintro en w8 ⟨A8, c8, rfl, own8, B8, g8⟩
    have G8 := G5.grown g8 (by simp)
    have M8 := M5.grown g8 (by simpa using hne)
    have W8 := W5.trans (below_grow g8 (show w.heap.size ≤ _ by omega) W5.size)
    clear q1 f1 t1 qm fm tm B5 G5 M5 g8
    obtain ⟨ql, fl⟩ := M8.rules
    have tl := M8.lt
    obtain ⟨q1, f1⟩ := B8.rules
    have t1 := B8.lt
    go_wp2_with fail
    have hgm := grow_set (World.grownBy.refl w8 (some w4.heap.size)) 5 (.slice A8 0 c8)
    generalize hw9 : w8.setCell ⟨w4.heap.size, 5, none⟩ (.slice A8 0 c8) = w9 at hgm ⊢
    have B9 := B8.grown hgm (by simp; omega)
    have G9 := G8.grown hgm (by simp; omega)
    have W9 : Below w.heap.size w w9 := W8.trans (below_grow hgm (by omega) W8.size)
    clear hw9 hgm M8 own8 B8 G8 ql fl tl q1 f1 t1
    obtain ⟨q1, f1⟩ := B9.rules
    have t1 := B9.lt
    obtain ⟨qg, fg⟩ := G9.rules
    have tg := G9.lt
    go_region
    go_wp2
    have F := (G9.set6 (x1 := .int .i64 0) (x2 := .int .i64 0) (x3 := .int .i64 0) (x4 := .int .i64 0) (x5 := .slice none 0 0) (x6 := .slice none 0 0)).drew.rules
    have hgf := grow_trans (grow_set6 (World.grownBy.refl w9 (some w.heap.size)) (x1 := .int .i64 0) (x2 := .int .i64 0) (x3 := .int .i64 0) (x4 := .int .i64 0) (x5 := .slice none 0 0) (x6 := .slice none 0 0)) grow_draw
    rw [HX.out]
    refine bodyPost_ret (v := .tuple #[.agg #[.int .i64 0, .int .i64 0, .int .i64 0, .int .i64 0, .slice none 0 0, .slice none 0 0], .int .i64 0, .int .i64 e5]) (by simp [results, Try.results41, go_sem, F.1]) rfl ⟨_, rfl, ⟨none, 0, none, 0, rfl, IsL.nil_ _ _, IsB.nil_ _ _, ?_⟩, ?_⟩
    · intro n hn
      simp only [m0s, List.mem_cons, List.not_mem_nil, or_false] at hn
      omega
    · exact W9.trans (below_grow hgf (Nat.le_refl _) W9.size)
end Go.Proofs.Ytbjgemipmlimoaa
