/- What PackerGroups knows in a round; plain laws of packs. -/
import Derived.Test.YtpacjjaekmipfaaSameSeg
import Derived.Test.YtpacjjaekmipfaaPackRoom
namespace Go.Proofs.Ytpacjjaekmipfaa
open Go.RowKit

abbrev grC (h : Hd) (a : Int) (vb vl : Value) : Array Value := #[.int .i64 h.host, .int .i64 h.epoch, .int .i64 h.seq, .int .i64 1, .int .i64 60000, .int .i64 a, vb, vl]
theorem IsPk.keep {w w' : World} {K : Nat → Prop} {v : Value} {p : Pk} (h : IsPk w K v p) (hk : ∀ q : Addr, K q.block → q.block < w.heap.size → w'.cell? q = w.cell? q) : IsPk w' K v p := by
  obtain ⟨vb, vl, e, h1, h2⟩ := h; exact ⟨vb, vl, e, h1.keep hk, h2.keep hk⟩
theorem IsPk.more {w : World} {K K' : Nat → Prop} {v : Value} {p : Pk} (h : IsPk w K v p) (hk : ∀ b, K b → K' b) : IsPk w K' v p := by
  obtain ⟨vb, vl, e, h1, h2⟩ := h; exact ⟨vb, vl, e, h1.more hk, h2.more hk⟩
theorem IsPk.turned {w w' : World} {K S : Nat → Prop} {v : Value} {p : Pk} (h : IsPk w K v p) (ht : Turned w w' S) (hK : ∀ b, K b → ¬ S b) : IsPk w' K v p := h.keep (ht.cells hK)
theorem IsPk.grew {w w' : World} {base : Nat} {K : Nat → Prop} {v v0 v1 : Value} {p : Pk} (h : IsPk w K v p) (hg : Grew base w w' v0 v1) (hK : ∀ b, K b → some b ≠ v0.ownBlock) : IsPk w' K v p :=
  h.keep fun _ h1 h2 => World.cell?_of_block (hg.grown.block _ h2 (hK _ h1))
/-- a row of one's own in another one's growing, blocks apart -/
theorem own_grew' {w w' : World} {base base' : Nat} {e : TypeId} {size n : Nat} {v v0 v1 : Value} {xs : List Value} (h : w.ownsRow base e size v n xs) (hne : v.ownBlock = none ∨ v.ownBlock ≠ v0.ownBlock) (hg : Grew base' w w' v0 v1) : w'.ownsRow base e size v n xs := h.kept hg.grown hne

theorem frsL_take (l : List Rc) (j : Nat) : (frsL (l.take j)).length ≤ (frsL l).length := by
  conv => rhs; rw [← List.take_append_drop j l, frsL_append]
  rw [List.length_append]; omega
/-- one that does not go in keeps them all out -/
theorem add_out {h : Hd} {hb : List UInt8} {l : List Rc} {j : Nat} {r : Rc} (hj : l[j]? = some r) (h0 : errL (l.take j) = 0)
    (hx : (recL r).2 ≠ 0 ∨ (60000 : Int) - hb.length - (frsL (l.take j)).length < (recL r).1.length) (hle : (hb.length : Int) ≤ 60000) : (addL ⟨h, 1, 60000, 0, hb, []⟩ l).2.2 ≠ 0 := by
  rcases hx with hx | hx
  · rw [add_err _ (errL_here l hj h0 hx) hx]; exact hx
  · unfold addL
    by_cases he : errL l = 0
    · rw [if_neg (by simp [he]), if_pos]
      · simp
      · have h1 := frsL_take l (j + 1)
        rw [take_snoc l hj, frsL_snoc, List.length_append] at h1
        unfold roomL
        simp only
        omega
    · rw [if_pos he]; exact he
theorem add_in {h : Hd} {hb : List UInt8} {l : List Rc} (h0 : errL l = 0) (hle : (hb.length : Int) + (frsL l).length ≤ 60000) : addL ⟨h, 1, 60000, 0, hb, []⟩ l = (⟨h, 1, 60000, 0, hb ++ frsL l, l⟩, plsL hb.length l, 0) := by
  rw [add_fits _ h0 (by unfold roomL; simp only; omega)]
  simp
theorem headL_pos {h : Hd} (he : (headL h).2 = 0) : 5 ≤ (headL h).1.length := by
  unfold headL at he ⊢
  by_cases h1 : (numsL (headN h)).2 = 0
  · rw [if_neg (by simp [h1])] at he ⊢
    unfold frameL at he ⊢
    by_cases h2 : (vecL (numsL (headN h)).1).2 = 0
    · rw [if_neg (by simp [h2])]
      unfold vecL at h2 ⊢
      by_cases h3 : (numsL (headN h)).1.length ≤ 65536
      · rw [if_pos h3]
        have := putL_pos (numsL (headN h)).1.length
        simp [fixL]; omega
      · rw [if_neg h3] at h2; simp at h2
    · rw [if_pos h2] at he; exact absurd he h2
  · rw [if_pos h1] at he; exact absurd he h1

abbrev grK (g11 g12 : Nat) (v13 v14 : Value) : Nat → Prop := fun b => (b ≠ g11 ∧ b ≠ g12) ∧ some b ≠ v13.ownBlock ∧ some b ≠ v14.ownBlock
/-- what is known in a round -/
structure GrInv (w0 wr : World) (h : Hd) (hb : List UInt8) (l : List Rc) (g11 g12 : Nat) (v13 v14 : Value) (j : Nat) (ob : List UInt8) (ol : List Rc) (sa : Int) (sb : List UInt8) (sl : List Rc) (bs : List UInt8) (A1 : Option Addr) (c1 : Nat) (A2 : Option Addr) (c2 : Nat) (A3 : Option Addr) (c3 : Nat) (A4 : Option Addr) (c4 : Nat) (A5 : Option Addr) (c5 : Nat) (A6 : Option Addr) (c6 : Nat) : Prop where
  le : j ≤ l.length
  err : errL (l.take j) = 0
  fit : (hb.length : Int) + (frsL (l.take j)).length ≤ 60000
  hob : ob = hb ++ frsL (l.take j)
  hol : ol = l.take j
  at_ : sa = bs.length
  by_ : bs ++ sb = ob
  buf : 0 < j → sb = []
  lst : sl.length ≤ j
  p13 : v13 = .slice A5 j c5
  o13 : wr.ownsRow w0.heap.size 3 1 v13 j ((plsL hb.length (l.take j)).map I64)
  p14 : v14 = .slice A6 bs.length c6
  o14 : wr.ownsRow w0.heap.size 5 1 v14 bs.length (cells8 bs)
  b11 : Blk wr g11 29 (grC h 0 (.slice A1 ob.length c1) (.slice A2 ol.length c2))
  k11 : IsPk wr (grK g11 g12 v13 v14) (.agg (grC h 0 (.slice A1 ob.length c1) (.slice A2 ol.length c2))) ⟨h, 1, 60000, 0, ob, ol⟩
  b12 : Blk wr g12 29 (grC h sa (.slice A3 sb.length c3) (.slice A4 sl.length c4))
  k12 : IsPk wr (grK g11 g12 v13 v14) (.agg (grC h sa (.slice A3 sb.length c3) (.slice A4 sl.length c4))) ⟨h, 1, 60000, sa, sb, sl⟩
  trn : Turned w0 wr (fun k => k = g11 ∨ k = g12)
def GrRel (w0 : World) (h : Hd) (hb : List UInt8) (l : List Rc) (g11 g12 : Nat) (v13 v14 i : Value) (wr : World) : Prop :=
  ∃ (j : Nat) (ob : List UInt8) (ol : List Rc) (sa : Int) (sb : List UInt8) (sl : List Rc) (bs : List UInt8) (A1 : Option Addr) (c1 : Nat) (A2 : Option Addr) (c2 : Nat) (A3 : Option Addr) (c3 : Nat) (A4 : Option Addr) (c4 : Nat) (A5 : Option Addr) (c5 : Nat) (A6 : Option Addr) (c6 : Nat), i = .int .i64 j ∧ GrInv w0 wr h hb l g11 g12 v13 v14 j ob ol sa sb sl bs A1 c1 A2 c2 A3 c3 A4 c4 A5 c5 A6 c6
end Go.Proofs.Ytpacjjaekmipfaa
