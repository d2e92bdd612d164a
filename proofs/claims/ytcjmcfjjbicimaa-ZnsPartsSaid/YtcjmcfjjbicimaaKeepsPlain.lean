/- What an act upon a zone that may be leaves: a zone that may be. No program in sight. -/
import Derived.Test.YtcjmcfjjbicimaaZoneStep
namespace Go.Proofs.Ytcjmcfjjbicimaa
open Go.RowKit

theorem grown_ok {z : Zn} {most : Int} {b : List UInt8} (h : okZ z most) (_ : z.st ≠ 4) (hl : (z.d.length : Int) + b.length ≤ most) : okZ (grownZ z most b) most := by
  obtain ⟨h1, h2, h3, h⟩ := h
  have hd : (grownZ z most b).d.length = z.d.length + b.length := List.length_append
  refine ⟨h1, h2, h3, ?_⟩
  rw [hd]
  show (grownZ z most b).st = 0 ∧ _ ∨ ((grownZ z most b).st = 1 ∨ (grownZ z most b).st = 3) ∧ _ ∨ (grownZ z most b).st = 2 ∧ _ ∨ (grownZ z most b).st = 4 ∧ _
  have hst : (grownZ z most b).st = if (z.d.length : Int) + b.length = most then 4 else if b.length = 0 then z.st else if z.st = 2 then 2 else 1 := rfl
  rw [hst]
  repeat' split
  all_goals omega

theorem step_keeps {z x : Zn} {most : Int} {o : Ac} (hz : okZ z most) (h : stepZ z most o = (x, 0)) :
    okZ x most ∧ x.fe = z.fe ∧ (o.k = 5 → x.st = 0 ∧ x.d.length = 0) ∧ (o.k ≠ 5 → z.d <+: x.d ∧ (z.st = 4 → x.st = 4)) := by
  unfold stepZ at h
  split at h
  · rename_i hk
    unfold appZ at h
    split at h
    · rename_i hr
      injection h with h1 h2
      subst h1
      have := roomZ_zero hr
      exact ⟨grown_ok hz this.2.2.1 this.2.2.2, rfl, fun h5 => by omega, fun _ => ⟨List.prefix_append _ _, fun h4 => absurd h4 this.2.2.1⟩⟩
    · rename_i hr
      injection h with h1 h2
      exact absurd h2 hr
  split at h
  · unfold tornZ at h
    split at h
    · rename_i hr
      injection h with h1 h2
      exact absurd h2 hr
    · rename_i hr
      have := roomZ_zero (Decidable.not_not.1 hr)
      split at h
      · injection h with h1 h2
        subst h1
        have hl := List.length_take_le o.n.toNat o.b
        exact ⟨grown_ok hz this.2.2.1 (by omega), rfl, fun h5 => by omega, fun _ => ⟨List.prefix_append _ _, fun h4 => absurd h4 this.2.2.1⟩⟩
      · injection h with h1 h2
        cases h2
  split at h
  · unfold openZ at h
    split at h
    · injection h with h1 h2; cases h2
    · split at h
      · injection h with h1 h2; cases h2
      · injection h with h1 h2
        subst h1
        obtain ⟨y1, y2, y3, y4⟩ := hz
        exact ⟨⟨y1, y2, y3, .inr (.inr (.inl ⟨rfl, show (z.d.length : Int) < most by omega⟩))⟩, rfl, fun h5 => by omega, fun _ => ⟨List.prefix_rfl, fun h4 => by omega⟩⟩
  split at h
  · unfold closeZ at h
    split at h
    · injection h with h1 h2; cases h2
    · injection h with h1 h2
      subst h1
      obtain ⟨y1, y2, y3, y4⟩ := hz
      refine ⟨⟨y1, y2, y3, ?_⟩, rfl, fun h5 => by omega, fun _ => ⟨List.prefix_rfl, fun h4 => by omega⟩⟩
      by_cases h0 : z.d.length = 0
      · exact .inl ⟨if_pos h0, h0⟩
      · exact .inr (.inl ⟨.inr (if_neg h0), show 0 < z.d.length by omega, show (z.d.length : Int) < most by omega⟩)
  split at h
  · injection h with h1 h2
    subst h1
    obtain ⟨y1, y2, y3, y4⟩ := hz
    exact ⟨⟨y1, y2, y3, .inr (.inr (.inr ⟨rfl, show (z.d.length : Int) ≤ most by omega⟩))⟩, rfl, fun h5 => by omega, fun _ => ⟨List.prefix_rfl, fun _ => rfl⟩⟩
  split at h
  · injection h with h1 h2
    subst h1
    obtain ⟨y1, y2, y3, y4⟩ := hz
    exact ⟨⟨y1, y2, y3, .inl ⟨rfl, rfl⟩⟩, rfl, fun _ => ⟨rfl, rfl⟩, fun h5 => by omega⟩
  · injection h with h1 h2
    subst h1
    exact ⟨hz, rfl, fun h5 => by omega, fun _ => ⟨List.prefix_rfl, fun h => h⟩⟩

/-- an error comes with no zone -/
theorem step_fails {z x : Zn} {most er : Int} {o : Ac} (h : stepZ z most o = (x, er)) (he : er ≠ 0) (hk : 0 ≤ o.k) (hk5 : o.k ≤ 5) : x.d = [] := by
  unfold stepZ at h
  split at h
  · unfold appZ at h
    split at h
    · injection h with h1 h2; exact absurd h2.symm he
    · injection h with h1 h2; rw [← h1]; rfl
  split at h
  · unfold tornZ at h
    repeat' split at h
    · injection h with h1 h2; rw [← h1]; rfl
    · injection h with h1 h2; exact absurd h2.symm he
    · injection h with h1 h2; rw [← h1]; rfl
  split at h
  · unfold openZ at h
    repeat' split at h
    · injection h with h1 h2; rw [← h1]; rfl
    · injection h with h1 h2; rw [← h1]; rfl
    · injection h with h1 h2; exact absurd h2.symm he
  split at h
  · unfold closeZ at h
    split at h
    · injection h with h1 h2; rw [← h1]; rfl
    · injection h with h1 h2; exact absurd h2.symm he
  split at h
  · injection h with h1 h2; exact absurd h2.symm he
  split at h
  · injection h with h1 h2; exact absurd h2.symm he
  · omega
end Go.Proofs.Ytcjmcfjjbicimaa
