/- Plain laws: a device whose zones are all appended to in turn. -/
import Derived.Test.YtcjmcfjjbicimaaZnsLaw
import Derived.Test.YtcjmcfjjbicimaaZnsPlain2
namespace Go.Proofs.Ytcjmcfjjbicimaa
open Go.RowKit

def appC (t : Int) : Cm := ⟨1, t, 0, 0, 0, [1]⟩
structure Lim (d : Zd) (zones opn act : Int) (j : Nat) : Prop where
  ok : okD d
  cap : d.cap = 1000
  opn : d.opn = opn
  act : d.act = act
  len : (d.z.length : Int) = zones
  zs : ∀ z ∈ d.z, z.fe = 0 ∧ (z.st = 0 ∨ z.st = 1 ∨ z.st = 3) ∧ z.d.length ≤ j
theorem lim_new {zones opn act : Int} (h1 : 1 ≤ zones) (h2 : zones ≤ 16) (h3 : 1 ≤ act) (h4 : act ≤ zones) (h5 : 1 ≤ opn) (h6 : opn ≤ act) : (newD zones 1000 opn act).2 = 0 ∧ Lim (newD zones 1000 opn act).1 zones opn act 0 := by
  have hz : ∀ z ∈ List.replicate zones.toNat z0, z = z0 := fun z h => List.eq_of_mem_replicate h
  have hc : ∀ s : List Int, (0 : Int) ∉ s → cntZ s (List.replicate zones.toNat z0) = 0 := fun s hs => by
    unfold cntZ
    rw [List.length_eq_zero_iff, List.filter_eq_nil_iff]
    intro z h
    rw [hz z h]
    have hs' : z0.st ∉ s := hs
    simpa using hs'
  have hok : okD ⟨1000, opn, act, List.replicate zones.toNat z0⟩ := by
    refine ⟨⟨?_, ?_, (show (1 : Int) ≤ 1000 by decide), (show (1000 : Int) ≤ 65536 by decide), h5, h6, ?_⟩, ?_, ?_, fun z h => ?_⟩
    · show 1 ≤ (List.replicate zones.toNat z0).length; rw [List.length_replicate]; omega
    · show (List.replicate zones.toNat z0).length ≤ 64; rw [List.length_replicate]; omega
    · show act ≤ ((List.replicate zones.toNat z0).length : Int); rw [List.length_replicate]; omega
    · show (cntZ openS (List.replicate zones.toNat z0) : Int) ≤ opn; rw [hc _ (by decide)]; omega
    · show (cntZ activeS (List.replicate zones.toNat z0) : Int) ≤ act; rw [hc _ (by decide)]; omega
    · rw [hz z h]; exact ⟨(show (1 : Int) ≤ 1000 by decide), (show (1000 : Int) ≤ 65536 by decide), (show (0 : Int) ≤ 0 by decide), .inl ⟨rfl, rfl⟩⟩
  unfold newD
  rw [if_neg (by omega), if_pos (show chkD ⟨1000, opn, act, List.replicate zones.toNat z0⟩ = 0 from if_pos hok)]
  refine ⟨rfl, hok, rfl, rfl, rfl, ?_, fun z h => ?_⟩
  · show ((List.replicate zones.toNat z0).length : Int) = zones; rw [List.length_replicate]; omega
  · rw [hz z h]; exact ⟨rfl, .inl rfl, Nat.le_refl _⟩
theorem lim_step {d : Zd} {zones opn act t : Int} {j : Nat} (h : Lim d zones opn act j) (hj : j < 100) (h0 : 0 ≤ t) (ht : t < zones) :
    ((doZ d (appC t)).2.e = 0 ∨ (doZ d (appC t)).2.e = 44 ∧ (cntZ activeS d.z : Int) = act) ∧ Lim (doZ d (appC t)).1 zones opn act (j + 1) := by
  have hi : t.toNat < d.z.length := by have := h.len; omega
  obtain ⟨z, hz⟩ : ∃ z, d.z[t.toNat] = z := ⟨_, rfl⟩
  have hg : d.z.getD t.toNat z0 = z := by rw [getD_at hi, hz]
  have hzm : z ∈ d.z := by rw [← hz]; exact List.getElem_mem hi
  obtain ⟨z1, z2, z3⟩ := h.zs z hzm
  have hzo := h.ok.2.2.2 z hzm
  have hr0 : roomZ z d.cap [1] = 0 := by
    unfold roomZ
    rw [if_neg (fun hh => by rcases hh with hh | hh; exact hh hzo; exact absurd hh (by decide)), if_neg (by omega), if_pos (by rw [h.cap]; show (z.d.length : Int) + 1 ≤ 1000; omega)]
  have hle := doZ_len' d (appC t)
  have hokr := doZ_ok (appC t) h.ok
  have hdo : doZ d (appC t) = if (roomK d t.toNat).1 ≠ 0 then (d, ⟨(roomK d t.toNat).1, 0, []⟩) else (⟨d.cap, d.opn, d.act, (roomK d t.toNat).2.set t.toNat (grownZ z d.cap [1])⟩, ⟨0, z.d.length, []⟩) := by
    unfold doZ
    rw [if_neg (fun hh => by
      rcases hh with hh | hh | hh
      · exact hh ⟨(show (1 : Int) ≤ 1 by decide), (show (1 : Int) ≤ 8 by decide)⟩
      · exact hh h.ok
      · exact hh ⟨h0, by rw [h.len]; exact ht⟩), if_neg (fun hh => hh.2 (by show (0 : Int) = (d.z.getD t.toNat z0).fe; rw [hg, z1]))]
    have hk : doK d (appC t).zone.toNat (appC t) = if (roomK d t.toNat).1 ≠ 0 then ((roomK d t.toNat).1, (roomK d t.toNat).2, dn0) else (0, (roomK d t.toNat).2.set t.toNat (grownZ z d.cap [1]), ⟨0, z.d.length, []⟩) := by
      unfold doK
      rw [if_pos (show (appC t).op = 1 from rfl)]
      unfold appendK
      show (let r := appZ (d.z.getD t.toNat z0) d.cap [1]; if r.2.2 ≠ 0 then (r.2.2, d.z, dn0) else if (roomK d t.toNat).1 ≠ 0 then ((roomK d t.toNat).1, (roomK d t.toNat).2, dn0) else (0, (roomK d t.toNat).2.set t.toNat r.1, ⟨0, r.2.1, []⟩)) = _
      rw [hg]
      have ha : appZ z d.cap [1] = (grownZ z d.cap [1], (z.d.length : Int), (0 : Int)) := by unfold appZ; rw [if_pos hr0]
      rw [ha]
      rfl
    dsimp only
    rw [hk]
    by_cases h8 : (roomK d t.toNat).1 ≠ 0
    · rw [if_pos h8, if_pos h8, if_pos h8]
    · rw [if_neg h8, if_neg h8, if_neg (show ¬ (0 : Int) ≠ 0 by decide), if_neg (fun hh => absurd hh.1 (show ¬ (1 : Int) = 8 by decide))]
  rw [hdo] at hle hokr ⊢
  by_cases h8 : (roomK d t.toNat).1 ≠ 0
  · rw [if_pos h8]
    refine ⟨.inr ?_, h.ok, h.cap, h.opn, h.act, h.len, fun y hy => by obtain ⟨a, b, c⟩ := h.zs y hy; exact ⟨a, b, by omega⟩⟩
    show (roomK d t.toNat).1 = 44 ∧ _
    unfold roomK at h8 ⊢
    rw [hg] at h8 ⊢
    by_cases g1 : z.st ∈ openS
    · rw [if_pos g1] at h8; exact absurd rfl h8
    · rw [if_neg g1] at h8 ⊢
      by_cases g2 : ¬ z.st ∈ activeS ∧ d.act ≤ (cntZ activeS d.z : Int)
      · rw [if_pos g2]
        have := h.ok.2.2.1
        have := h.act
        exact ⟨rfl, by omega⟩
      · rw [if_neg g2] at h8 ⊢
        by_cases g3 : (cntZ openS d.z : Int) < d.opn
        · rw [if_pos g3] at h8; exact absurd rfl h8
        · rw [if_neg g3] at h8 ⊢
          exfalso
          have hpos : 0 < cntZ openS d.z := by have := h.ok.1.2.2.2.2.1; omega
          unfold cntZ at hpos
          obtain ⟨y, hy⟩ := List.exists_mem_of_length_pos hpos
          rw [List.mem_filter] at hy
          obtain ⟨hy1, hy2⟩ := hy
          have hy3 : y.st = 1 := by
            have := (h.zs y hy1).2.1
            have hm := openS_mem.1 (of_decide_eq_true hy2)
            omega
          have hlt : impl? d.z < d.z.length := by
            unfold impl?
            rw [List.findIdx_lt_length]
            exact ⟨y, hy1, by simpa using hy3⟩
          rw [if_pos hlt] at h8
          have hk1 : d.z[impl? d.z].st = 1 := by
            have : (d.z[impl? d.z].st == 1) = true := List.findIdx_getElem (p := fun z : Zn => z.st == 1) (xs := d.z) (w := hlt)
            exact beq_iff_eq.1 this
          exact h8 rfl
  · rw [if_neg h8] at hle hokr ⊢
    refine ⟨.inl rfl, hokr, h.cap, h.opn, h.act, by rw [hle]; exact h.len, ?_⟩
    have hroom := roomed hi (Decidable.not_not.1 h8)
    refine all_set (P := fun y => y.fe = 0 ∧ (y.st = 0 ∨ y.st = 1 ∨ y.st = 3) ∧ y.d.length ≤ j + 1) (fun y hy => ?_) ?_
    · have old : ∀ y ∈ d.z, y.fe = 0 ∧ (y.st = 0 ∨ y.st = 1 ∨ y.st = 3) ∧ y.d.length ≤ j + 1 := fun y hy => by obtain ⟨a, b, c⟩ := h.zs y hy; exact ⟨a, b, by omega⟩
      cases hroom with
      | was _ e => rw [e] at hy; exact old y hy
      | free _ _ _ e => rw [e] at hy; exact old y hy
      | shut k hk _ _ g1 e =>
        rw [e] at hy
        refine all_set (P := fun y => y.fe = 0 ∧ (y.st = 0 ∨ y.st = 1 ∨ y.st = 3) ∧ y.d.length ≤ j + 1) old ?_ y hy
        obtain ⟨a, b, c⟩ := old _ (List.getElem_mem hk)
        unfold closeZ
        rw [if_neg (by omega)]
        refine ⟨a, ?_, c⟩
        show (if d.z[k].d.length = 0 then (0 : Int) else 3) = 0 ∨ _
        by_cases g : d.z[k].d.length = 0
        · exact .inl (if_pos g)
        · exact .inr (.inr (if_neg g))
    · refine ⟨z1, .inr (.inl ?_), ?_⟩
      · show (if (z.d.length : Int) + ([1] : List UInt8).length = d.cap then (4 : Int) else if ([1] : List UInt8).length = 0 then z.st else if z.st = 2 then 2 else 1) = 1
        rw [if_neg (by rw [h.cap]; show ¬ (z.d.length : Int) + 1 = 1000; omega), if_neg (by decide), if_neg (by omega)]
      · show (z.d ++ [1]).length ≤ j + 1
        rw [List.length_append]; show z.d.length + 1 ≤ j + 1; omega
end Go.Proofs.Ytcjmcfjjbicimaa
