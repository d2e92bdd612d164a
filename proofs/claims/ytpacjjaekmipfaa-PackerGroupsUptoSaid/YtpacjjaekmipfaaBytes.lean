/- slices.Clone and slices.Concat of bytes, said of lists of bytes. -/
import Derived.Test.YtpacjjaekmipfaaSl8
namespace Go.Proofs.Ytpacjjaekmipfaa
open Go.RowKit

/-- the value is a slice of the bytes l, the call's own, beyond 'base' -/
def OwnB (w : World) (base : Nat) (v : Value) (l : List UInt8) : Prop := ∃ A c, v = .slice A l.length c ∧ w.ownsRow base 5 1 (.slice A l.length c) l.length (cells8 l)

theorem cloneB_any (sv : Value) (l : List UInt8) (K : Nat → Prop) (w : World) (hs : IsB w K sv l) :
    Calls Try.prog 35 #[sv] w fun e w' => ∃ A c, e = .returned (.slice A l.length c) ∧ w'.ownsRow w.heap.size 5 1 (.slice A l.length c) l.length (cells8 l) ∧ Below w.heap.size w w' := by
  obtain ⟨A, c, rfl, hr, _, _, hl⟩ := hs
  exact clone8_any A l.length c K (cells8 l) w hr (cells8_one l) (by omega)

theorem concatB_two (g c c2 : Nat) (A A2 : Option Addr) (l l2 : List UInt8) (K : Nat → Prop) (w : World) (hs : Reads w (fun _ => True) 1 (some ⟨g, 0, none⟩) 2 [.slice A l.length c, .slice A2 l2.length c2])
    (h1 : Reads w K 1 A l.length (cells8 l)) (h2 : Reads w K 1 A2 l2.length (cells8 l2)) (hl : l.length + l2.length ≤ 140737488355328) :
    Calls Try.prog 43 #[.slice (some ⟨g, 0, none⟩) 2 2] w fun e w' => ∃ A' c', e = .returned (.slice A' (l ++ l2).length c') ∧ w'.ownsRow w.heap.size 5 1 (.slice A' (l ++ l2).length c') (l ++ l2).length (cells8 (l ++ l2)) ∧ Below w.heap.size w w' := by
  have e1 : sumN [⟨A, l.length, c, cells8 l⟩, ⟨A2, l2.length, c2, cells8 l2⟩] = (l ++ l2).length := by simp [sumN]
  have e2 : [(⟨A, l.length, c, cells8 l⟩ : Part), ⟨A2, l2.length, c2, cells8 l2⟩].flatMap Part.xs = cells8 (l ++ l2) := by simp [cells8]
  have h := concat8_any (some ⟨g, 0, none⟩) 2 2 (fun _ => True) K [⟨A, l.length, c, cells8 l⟩, ⟨A2, l2.length, c2, cells8 l2⟩] w rfl hs (by
    intro p hp
    simp only [List.mem_cons, List.not_mem_nil, or_false] at hp
    rcases hp with rfl | rfl
    · exact ⟨h1, cells8_one l⟩
    · exact ⟨h2, cells8_one l2⟩) (by rw [e1]; simp; omega) (by omega)
  rw [e1, e2] at h
  exact h
end Go.Proofs.Ytpacjjaekmipfaa
