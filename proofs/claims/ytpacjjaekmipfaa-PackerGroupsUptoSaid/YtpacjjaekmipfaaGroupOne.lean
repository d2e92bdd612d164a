/- Add of one record that goes in; places' bounds; rows of numbers as lists. -/
import Derived.Test.YtpacjjaekmipfaaGroupLaw
namespace Go.Proofs.Ytpacjjaekmipfaa
open Go.RowKit

theorem plsL_i63 {l : List Rc} : ∀ {b : Int}, 0 ≤ b → b + (frsL l).length ≤ 1000000000000 → errL l = 0 → (∀ r ∈ l, OkRc r) → I63 (plsL b l) := by
  induction l with
  | nil => intro b _ _ _ _ n hn; cases hn
  | cons r l ih =>
    intro b h0 h1 h2 h3
    have hr := recL_len (h3 r (List.mem_cons_self ..))
    unfold errL at h2
    by_cases hx : (recL r).2 = 0
    · simp only [hx, ne_eq, not_true_eq_false, if_false] at h2
      simp only [frsL, List.length_append] at h1
      have h4 := hr.2 hx
      intro n hn
      simp only [plsL, List.mem_cons] at hn
      rcases hn with rfl | hn
      · omega
      · exact ih (b := b + ((recL r).1.length : Int)) (by omega) (by omega) h2 (fun x hx => h3 x (List.mem_cons_of_mem _ hx)) n hn
    · simp [hx] at h2
theorem isL_own_ints {w : World} {base n c : Nat} {e : TypeId} {A : Option Addr} {l : List Int} (h : w.ownsRow base e 1 (.slice A n c) n (l.map I64)) (hn : l.length = n) (h63 : I63 l) (hl : n ≤ 140737488355328) : IsL Rp.int w (fun b => base ≤ b) (.slice A n c) l := by
  subst hn
  exact ⟨A, c, l.map I64, rfl, Reads.of_own_ge h, cells_ints h63, own_cap h, own_cap63 h, hl⟩

theorem add_one (w : World) (p : Pk) (r : Rc) (vb vl : Value) (Ad : Option Addr) (cd g : Nat) (K K' : Nat → Prop) (hg : w.heap.size = g) (hv : IsPk w K (pkV p vb vl) p) (hK : ∀ b, K b → b < w.heap.size) (hp : OkPk p) (hd : IsB w K' (.slice Ad r.data.length cd) r.data) (hr : OkRc r) (hfe : (recL r).2 = 0) (hfi : ((recL r).1.length : Int) ≤ roomL p) :
    Calls Try.prog 14 #[pkV p vb vl, .slice (some ⟨g, 0, none⟩) 1 1] (w.alloc (.cells #[.int .i64 r.kind, .int .i64 r.lba, .int .i64 r.n, .int .i64 r.ver, .int .i64 r.zone, .int .i64 r.off, .slice Ad r.data.length cd] 34)) fun e w' =>
      ∃ A c A' c' A'' c'', e = .returned (.tuple #[pkV ⟨p.h, p.zone, p.cap, p.at_, p.buf ++ (recL r).1, p.l ++ [r]⟩ (.slice A (p.buf ++ (recL r).1).length c) (.slice A' (p.l ++ [r]).length c'), .slice A'' 1 c'', .int .i64 0]) ∧
        IsPk w' (fun b => b < w'.heap.size ∧ (K b ∨ w.heap.size ≤ b)) (pkV ⟨p.h, p.zone, p.cap, p.at_, p.buf ++ (recL r).1, p.l ++ [r]⟩ (.slice A (p.buf ++ (recL r).1).length c) (.slice A' (p.l ++ [r]).length c')) ⟨p.h, p.zone, p.cap, p.at_, p.buf ++ (recL r).1, p.l ++ [r]⟩ ∧
        w'.ownsRow w.heap.size 3 1 (.slice A'' 1 c'') 1 ((plsL (p.at_ + p.buf.length) [r]).map I64) ∧ Below w.heap.size w w' := by
  have hst : Below w.heap.size w (w.alloc (.cells #[.int .i64 r.kind, .int .i64 r.lba, .int .i64 r.n, .int .i64 r.ver, .int .i64 r.zone, .int .i64 r.off, .slice Ad r.data.length cd] 34)) := (Below.refl _ _).alloc (Nat.le_refl _) _
  have h := add_any (pkV p vb vl) (.slice (some ⟨g, 0, none⟩) 1 1) p [r] K _ _ (Stable.pk _ _ hv hst) (fun b hb => by have := hK b hb; rw [World.size_alloc]; omega) hp (isL_rc1 hg hd hr) (by simp)
  rw [add_fits p (by rw [errL_one]; exact hfe) (by rw [frsL_one]; omega), frsL_one] at h
  refine h.mono ?_
  rintro e w' ⟨pv, A'', c'', rfl, ⟨v1, v2, rfl, h1, h2⟩, h3, h4⟩
  simp only at h1 h2 h3
  obtain ⟨A, c, rfl, _⟩ := isB_form h1
  obtain ⟨A', c', rfl, _⟩ := h2.form
  rw [World.size_alloc] at h1 h2 h3 h4
  rw [plsL_len] at h3 ⊢
  exact ⟨A, c, A', c', A'', c'', rfl, ⟨_, _, rfl, h1.more (fun b hb => ⟨hb.1, hb.2.imp id (by omega)⟩), h2.more (fun b hb => ⟨hb.1, hb.2.imp id (by omega)⟩)⟩, own_base h3 (by omega), hst.trans (h4.mono (by omega))⟩
end Go.Proofs.Ytpacjjaekmipfaa
