/- Plain laws: a zone that is read, and commands to others. -/
import Derived.Test.YtcjmcfjjbicimaaZnsLaw
namespace Go.Proofs.Ytcjmcfjjbicimaa
open Go.RowKit

def readC (i : Nat) (z : Zn) : Cm := ⟨2, i, z.fe, 0, z.d.length, []⟩
theorem read_ans {d : Zd} {i : Nat} {z b : Zn} (hd : okD d) (hb : d.z[i]? = some b) (h1 : b.fe = z.fe) (h2 : b.d = z.d) : doZ d (readC i z) = (d, ⟨0, 0, z.d⟩) := by
  have hi := (List.getElem?_eq_some_iff.1 hb).1
  have hg : d.z.getD (readC i z).zone.toNat z0 = b := by
    show d.z.getD ((i : Int).toNat) z0 = b
    rw [Int.toNat_natCast, List.getD_eq_getElem?_getD, hb]; rfl
  unfold doZ
  rw [if_neg (fun hh => by
    rcases hh with hh | hh | hh
    · exact hh ⟨(show (1 : Int) ≤ 2 by decide), (show (2 : Int) ≤ 8 by decide)⟩
    · exact hh hd
    · exact hh ⟨(show (0 : Int) ≤ (i : Int) by omega), (show (i : Int) < d.z.length by omega)⟩), if_neg (fun hh => hh.2 (by rw [hg]; exact h1.symm))]
  have hk : doK d (readC i z).zone.toNat (readC i z) = (0, d.z, ⟨0, 0, z.d⟩) := by
    unfold doK
    rw [if_neg (show ¬ (readC i z).op = 1 from (show ¬ (2 : Int) = 1 by decide)), if_pos (show (readC i z).op = 2 from rfl)]
    unfold readK
    rw [hg]
    have hr : readZ b (readC i z).off (readC i z).n = (z.d, 0) := by
      unfold readZ
      show (if (0 : Int) ≤ 0 ∧ (0 : Int) ≤ (z.d.length : Int) ∧ (0 : Int) + (z.d.length : Int) ≤ b.d.length then ((b.d.drop 0).take ((z.d.length : Int).toNat), (0 : Int)) else ([], 1)) = _
      rw [if_pos ⟨by omega, by omega, by rw [h2]; omega⟩, Int.toNat_natCast, h2, List.drop_zero, List.take_length]
    rw [hr]
  dsimp only
  rw [hk, if_neg (show ¬ (0 : Int) ≠ 0 by decide), if_neg (fun hh => absurd hh.1 (show ¬ (2 : Int) = 8 by decide))]
theorem part_keeps {d : Zd} {c : Cm} {i : Nat} {a : Zn} (hd : okD d) (ha : d.z[i]? = some a) (hc : ¬ c.zone = (i : Int)) : ∃ b, (doZ d c).1.z[i]? = some b ∧ b.fe = a.fe ∧ b.d = a.d := by
  have hi := (List.getElem?_eq_some_iff.1 ha).1
  obtain ⟨b, hb⟩ : ∃ b, (doZ d c).1.z[i]? = some b := ⟨_, List.getElem?_eq_getElem (by rw [doZ_len']; exact hi)⟩
  refine ⟨b, hb, ?_⟩
  rcases doZ_moved c hd with h | ⟨_, _, h0, _, h⟩
  · rw [h, ha] at hb
    have := Option.some.inj hb
    rw [this]; exact ⟨rfl, rfl⟩
  · obtain ⟨k, hk⟩ := moved_at h
    rcases hk i a b ha hb (fun e => hc (by omega)) with rfl | ⟨_, h1, rfl⟩
    · exact ⟨rfl, rfl⟩
    · unfold closeZ; rw [if_neg (by omega)]; exact ⟨rfl, rfl⟩
end Go.Proofs.Ytcjmcfjjbicimaa
