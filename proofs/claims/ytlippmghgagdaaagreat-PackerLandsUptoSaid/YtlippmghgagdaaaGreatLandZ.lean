/- A device of an empty zone and a segment's; plain. -/
import Derived.Test.YtlippmghgagdaaaGreatZnsPlain2
namespace Go.Proofs.YtlippmghgagdaaaGreat
open Go.RowKit

/-- the zone of a segment of so many bytes, before, on and at the end of its way -/
def landZ (e M : Int) (b : List UInt8) : Zn := ⟨if b = [] then 0 else if (b.length : Int) = M then 4 else 1, e, b⟩
/-- the device: an empty zone, the segment's -/
def landD (M e : Int) (b : List UInt8) : Zd := ⟨M, 1, 1, [z0, landZ e M b]⟩
theorem landZ_ok {e M : Int} {b : List UInt8} (he : 0 ≤ e) (hM : 1 ≤ M ∧ M ≤ 65536) (hb : (b.length : Int) ≤ M) : okZ (landZ e M b) M := by
  unfold okZ landZ
  refine ⟨hM.1, hM.2, he, ?_⟩
  by_cases h : b = []
  · subst h; exact .inl ⟨by simp, rfl⟩
  · have hl := List.length_pos_iff.2 h
    by_cases h2 : (b.length : Int) = M
    · exact .inr (.inr (.inr ⟨by simp [h, h2], hb⟩))
    · exact .inr (.inl ⟨.inl (by simp [h, h2]), hl, by show (b.length : Int) < M; omega⟩)
theorem landD_ok {e M : Int} {b : List UInt8} (he : 0 ≤ e) (hM : 1 ≤ M ∧ M ≤ 65536) (hb : (b.length : Int) ≤ M) : okD (landD M e b) := by
  refine ⟨⟨by simp [landD], by simp [landD], hM.1, hM.2, by simp [landD], by simp [landD], by simp [landD]⟩, ?_, ?_, ?_⟩
  · unfold cntZ landD
    have h0 : ¬ z0.st ∈ openS := by simp [z0, openS]
    simp only [List.filter_cons, h0, decide_false, Bool.false_eq_true, if_false]
    split <;> simp
  · unfold cntZ landD
    have h0 : ¬ z0.st ∈ activeS := by simp [z0, activeS]
    simp only [List.filter_cons, h0, decide_false, Bool.false_eq_true, if_false]
    split <;> simp
  · intro z hz
    simp only [landD, List.mem_cons, List.not_mem_nil, or_false] at hz
    rcases hz with rfl | rfl
    · exact ⟨hM.1, hM.2, by simp [z0], .inl ⟨rfl, rfl⟩⟩
    · exact landZ_ok he hM hb
theorem landD_get (M e : Int) (b : List UInt8) : (landD M e b).z.getD 1 z0 = landZ e M b := rfl
/-- an append that fits -/
theorem land_append {e M : Int} {b x : List UInt8} (he : 0 ≤ e) (hM : 1 ≤ M ∧ M ≤ 65536) (hx : x ≠ []) (hb : (b.length : Int) + x.length ≤ M) :
    doZ (landD M e b) ⟨1, 1, e, 0, 0, x⟩ = (landD M e (b ++ x), ⟨0, b.length, []⟩) := by
  have hxl := List.length_pos_iff.2 hx
  have hok := landD_ok (b := b) he hM (by omega)
  have hz := landZ_ok (b := b) he hM (by omega)
  have h4 : (landZ e M b).st ≠ 4 := by
    unfold landZ; simp only
    split
    · omega
    · split
      · omega
      · omega
  have hroom : roomZ (landZ e M b) M x = 0 := by
    unfold roomZ
    rw [if_neg (by simp only [not_or, Decidable.not_not]; exact ⟨hz, by omega⟩), if_neg h4, if_pos (by show (b.length : Int) + x.length ≤ M; exact hb)]
  have hbx : b ++ x ≠ [] := by simp [hx]
  have hgr : grownZ (landZ e M b) M x = landZ e M (b ++ x) := by
    unfold grownZ landZ
    simp only [hbx, if_false, List.length_append, Int.natCast_add]
    by_cases hf : (b.length : Int) + x.length = M
    · simp only [hf, if_true]
    · simp only [hf, if_false]
      have h2 : ¬ x.length = 0 := by omega
      simp only [h2, if_false]
      have h3 : ¬ (if b = [] then (0 : Int) else if (b.length : Int) = M then 4 else 1) = 2 := by
        split
        · omega
        · split <;> omega
      simp only [h3, if_false]
  have happ : appZ (landZ e M b) M x = (landZ e M (b ++ x), (b.length : Int), 0) := by
    unfold appZ; rw [if_pos hroom, hgr]; rfl
  have hrk : roomK (landD M e b) 1 = (0, (landD M e b).z) := by
    unfold roomK
    rw [landD_get]
    by_cases hbn : b = []
    · subst hbn
      have h1 : ¬ (landZ e M []).st ∈ openS := by simp [landZ, openS]
      have h2 : cntZ activeS (landD M e []).z = 0 := by simp [cntZ, landD, landZ, z0, activeS]
      have h3 : cntZ openS (landD M e []).z = 0 := by simp [cntZ, landD, landZ, z0, openS]
      rw [if_neg h1, if_neg (by rw [h2]; simp [landD]), if_pos (by rw [h3]; simp [landD])]
    · have h1 : (landZ e M b).st ∈ openS := by
        unfold landZ
        simp only [hbn, if_false]
        rw [if_neg (by omega)]
        simp [openS]
      rw [if_pos h1]
  have hdo : doK (landD M e b) 1 ⟨1, 1, e, 0, 0, x⟩ = (0, (landD M e b).z.set 1 (landZ e M (b ++ x)), ⟨0, b.length, []⟩) := by
    unfold doK
    rw [if_pos rfl]
    unfold appendK
    rw [landD_get]
    show (let r := appZ (landZ e M b) M x; if r.2.2 ≠ 0 then (r.2.2, (landD M e b).z, dn0) else if (roomK (landD M e b) 1).1 ≠ 0 then ((roomK (landD M e b) 1).1, (roomK (landD M e b) 1).2, dn0) else (0, (roomK (landD M e b) 1).2.set 1 r.1, ⟨0, r.2.1, []⟩)) = _
    rw [happ, hrk]
    rfl
  unfold doZ
  rw [if_neg (by simp only [not_or, Decidable.not_not]; exact ⟨by omega, hok, by simp [landD]⟩), if_neg (by simp [landD, landZ])]
  have e1 : (1 : Int).toNat = 1 := rfl
  simp only [e1, hdo]
  rfl
/-- bytes of the segment's -/
theorem land_read {e M o n : Int} {b : List UInt8} (he : 0 ≤ e) (hM : 1 ≤ M ∧ M ≤ 65536) (hb : (b.length : Int) ≤ M) (h0 : 0 ≤ o) (h1 : 0 ≤ n) (h2 : o + n ≤ b.length) :
    doZ (landD M e b) ⟨2, 1, e, o, n, []⟩ = (landD M e b, ⟨0, 0, (b.drop o.toNat).take n.toNat⟩) := by
  have hok := landD_ok (b := b) he hM hb
  have hrd : readZ (landZ e M b) o n = ((b.drop o.toNat).take n.toNat, 0) := by
    unfold readZ; rw [if_pos ⟨h0, h1, h2⟩]; rfl
  have hdo : doK (landD M e b) 1 ⟨2, 1, e, o, n, []⟩ = (0, (landD M e b).z, ⟨0, 0, (b.drop o.toNat).take n.toNat⟩) := by
    unfold doK
    rw [if_neg (by simp), if_pos rfl]
    unfold readK
    rw [landD_get]
    simp only [hrd]
  unfold doZ
  rw [if_neg (by simp only [not_or, Decidable.not_not]; exact ⟨by omega, hok, by simp [landD]⟩), if_neg (by simp [landD, landZ])]
  have e1 : (1 : Int).toNat = 1 := rfl
  simp only [e1, hdo]
  rfl
/-- the fence of the empty zone -/
theorem land_fence {e M : Int} (hM : 1 ≤ M ∧ M ≤ 65536) : doZ ⟨M, 1, 1, [z0, z0]⟩ ⟨7, 1, e, 0, 0, []⟩ = if 1 ≤ e then (landD M e [], dn0) else (⟨M, 1, 1, [z0, z0]⟩, ⟨42, 0, []⟩) := by
  have hok : okD ⟨M, 1, 1, [z0, z0]⟩ := landD_ok (b := []) (e := 0) (by omega) hM (by simp; omega)
  unfold doZ
  rw [if_neg (by simp only [not_or, Decidable.not_not]; exact ⟨by omega, hok, by simp⟩), if_neg (by simp)]
  have e1 : (1 : Int).toNat = 1 := rfl
  simp only [e1]
  have hdo : doK ⟨M, 1, 1, [z0, z0]⟩ 1 ⟨7, 1, e, 0, 0, []⟩ = fenceK ⟨M, 1, 1, [z0, z0]⟩ 1 ⟨7, 1, e, 0, 0, []⟩ := by
    unfold doK; simp
  rw [hdo]
  unfold fenceK
  by_cases h : 1 ≤ e
  · rw [if_pos h]
    have h2 : ¬ e ≤ (([z0, z0] : List Zn).getD 1 z0).fe := by simp [z0]; omega
    simp only [h2, if_false]
    simp [landD, landZ, z0]
  · rw [if_neg h]
    have h2 : e ≤ (([z0, z0] : List Zn).getD 1 z0).fe := by simp [z0]; omega
    simp only [h2, if_true]
    simp

end Go.Proofs.YtlippmghgagdaaaGreat
