import Derived.Test.YtlippmghgagdaaaGreatZnsPlain2
import Derived.Test.YtlippmghgagdaaaGreatSegLaws
import Derived.Test.YtlippmghgagdaaaGreatSegEnd
import Derived.Test.YtlippmghgagdaaaGreatPack
import Derived.Test.YtlippmghgagdaaaGreatPackAdd1

/- A device of an empty zone and a segment's; plain. -/
namespace Go.Proofs.YtlippmghgagdaaaGreat
open Go.RowKit

/-- the zone of a segment of so many bytes, before, on and at the end of its way -/
def landZ (e M : Int) (b : List UInt8) : Zn := ⟨if b = [] then 0 else if (b.length : Int) = M then 4 else 1, e, b⟩
/-- the device: an empty zone, the segment's -/
def landD (M e : Int) (b : List UInt8) : Zd := ⟨M, 1, 1, [z0, landZ e M b]⟩
theorem landZ_ok {e M : Int} {b : List UInt8} (he : 0 ≤ e) (hM : 1 ≤ M ∧ M ≤ 65536) (hb : (b.length : Int) ≤ M) : okZ (landZ e M b) M := by
  unfold okZ landZ
  refine ⟨hM.1, hM.2, he, ?_⟩
  by_cases h : b = []
  · subst h; exact .inl ⟨by simp, rfl⟩
  · have hl := List.length_pos_iff.2 h
    by_cases h2 : (b.length : Int) = M
    · exact .inr (.inr (.inr ⟨by simp [h, h2], hb⟩))
    · exact .inr (.inl ⟨.inl (by simp [h, h2]), hl, by show (b.length : Int) < M; omega⟩)
theorem landD_ok {e M : Int} {b : List UInt8} (he : 0 ≤ e) (hM : 1 ≤ M ∧ M ≤ 65536) (hb : (b.length : Int) ≤ M) : okD (landD M e b) := by
  refine ⟨⟨by simp [landD], by simp [landD], hM.1, hM.2, by simp [landD], by simp [landD], by simp [landD]⟩, ?_, ?_, ?_⟩
  · unfold cntZ landD
    have h0 : ¬ z0.st ∈ openS := by simp [z0, openS]
    simp only [List.filter_cons, h0, decide_false, Bool.false_eq_true, if_false]
    split <;> simp
  · unfold cntZ landD
    have h0 : ¬ z0.st ∈ activeS := by simp [z0, activeS]
    simp only [List.filter_cons, h0, decide_false, Bool.false_eq_true, if_false]
    split <;> simp
  · intro z hz
    simp only [landD, List.mem_cons, List.not_mem_nil, or_false] at hz
    rcases hz with rfl | rfl
    · exact ⟨hM.1, hM.2, by simp [z0], .inl ⟨rfl, rfl⟩⟩
    · exact landZ_ok he hM hb
theorem landD_get (M e : Int) (b : List UInt8) : (landD M e b).z.getD 1 z0 = landZ e M b := rfl
/-- an append that fits -/
theorem land_append {e M : Int} {b x : List UInt8} (he : 0 ≤ e) (hM : 1 ≤ M ∧ M ≤ 65536) (hx : x ≠ []) (hb : (b.length : Int) + x.length ≤ M) :
    doZ (landD M e b) ⟨1, 1, e, 0, 0, x⟩ = (landD M e (b ++ x), ⟨0, b.length, []⟩) := by
  have hxl := List.length_pos_iff.2 hx
  have hok := landD_ok (b := b) he hM (by omega)
  have hz := landZ_ok (b := b) he hM (by omega)
  have h4 : (landZ e M b).st ≠ 4 := by
    unfold landZ; simp only
    split
    · omega
    · split
      · omega
      · omega
  have hroom : roomZ (landZ e M b) M x = 0 := by
    unfold roomZ
    rw [if_neg (by simp only [not_or, Decidable.not_not]; exact ⟨hz, by omega⟩), if_neg h4, if_pos (by show (b.length : Int) + x.length ≤ M; exact hb)]
  have hbx : b ++ x ≠ [] := by simp [hx]
  have hgr : grownZ (landZ e M b) M x = landZ e M (b ++ x) := by
    unfold grownZ landZ
    simp only [hbx, if_false, List.length_append, Int.natCast_add]
    by_cases hf : (b.length : Int) + x.length = M
    · simp only [hf, if_true]
    · simp only [hf, if_false]
      have h2 : ¬ x.length = 0 := by omega
      simp only [h2, if_false]
      have h3 : ¬ (if b = [] then (0 : Int) else if (b.length : Int) = M then 4 else 1) = 2 := by
        split
        · omega
        · split <;> omega
      simp only [h3, if_false]
  have happ : appZ (landZ e M b) M x = (landZ e M (b ++ x), (b.length : Int), 0) := by
    unfold appZ; rw [if_pos hroom, hgr]; rfl
  have hrk : roomK (landD M e b) 1 = (0, (landD M e b).z) := by
    unfold roomK
    rw [landD_get]
    by_cases hbn : b = []
    · subst hbn
      have h1 : ¬ (landZ e M []).st ∈ openS := by simp [landZ, openS]
      have h2 : cntZ activeS (landD M e []).z = 0 := by simp [cntZ, landD, landZ, z0, activeS]
      have h3 : cntZ openS (landD M e []).z = 0 := by simp [cntZ, landD, landZ, z0, openS]
      rw [if_neg h1, if_neg (by rw [h2]; simp [landD]), if_pos (by rw [h3]; simp [landD])]
    · have h1 : (landZ e M b).st ∈ openS := by
        unfold landZ
        simp only [hbn, if_false]
        rw [if_neg (by omega)]
        simp [openS]
      rw [if_pos h1]
  have hdo : doK (landD M e b) 1 ⟨1, 1, e, 0, 0, x⟩ = (0, (landD M e b).z.set 1 (landZ e M (b ++ x)), ⟨0, b.length, []⟩) := by
    unfold doK
    rw [if_pos rfl]
    unfold appendK
    rw [landD_get]
    show (let r := appZ (landZ e M b) M x; if r.2.2 ≠ 0 then (r.2.2, (landD M e b).z, dn0) else if (roomK (landD M e b) 1).1 ≠ 0 then ((roomK (landD M e b) 1).1, (roomK (landD M e b) 1).2, dn0) else (0, (roomK (landD M e b) 1).2.set 1 r.1, ⟨0, r.2.1, []⟩)) = _
    rw [happ, hrk]
    rfl
  unfold doZ
  rw [if_neg (by simp only [not_or, Decidable.not_not]; exact ⟨by omega, hok, by simp [landD]⟩), if_neg (by simp [landD, landZ])]
  have e1 : (1 : Int).toNat = 1 := rfl
  simp only [e1, hdo]
  rfl
/-- bytes of the segment's -/
theorem land_read {e M o n : Int} {b : List UInt8} (he : 0 ≤ e) (hM : 1 ≤ M ∧ M ≤ 65536) (hb : (b.length : Int) ≤ M) (h0 : 0 ≤ o) (h1 : 0 ≤ n) (h2 : o + n ≤ b.length) :
    doZ (landD M e b) ⟨2, 1, e, o, n, []⟩ = (landD M e b, ⟨0, 0, (b.drop o.toNat).take n.toNat⟩) := by
  have hok := landD_ok (b := b) he hM hb
  have hrd : readZ (landZ e M b) o n = ((b.drop o.toNat).take n.toNat, 0) := by
    unfold readZ; rw [if_pos ⟨h0, h1, h2⟩]; rfl
  have hdo : doK (landD M e b) 1 ⟨2, 1, e, o, n, []⟩ = (0, (landD M e b).z, ⟨0, 0, (b.drop o.toNat).take n.toNat⟩) := by
    unfold doK
    rw [if_neg (by simp), if_pos rfl]
    unfold readK
    rw [landD_get]
    simp only [hrd]
  unfold doZ
  rw [if_neg (by simp only [not_or, Decidable.not_not]; exact ⟨by omega, hok, by simp [landD]⟩), if_neg (by simp [landD, landZ])]
  have e1 : (1 : Int).toNat = 1 := rfl
  simp only [e1, hdo]
  rfl
/-- the fence of the empty zone -/
theorem land_fence {e M : Int} (hM : 1 ≤ M ∧ M ≤ 65536) : doZ ⟨M, 1, 1, [z0, z0]⟩ ⟨7, 1, e, 0, 0, []⟩ = if 1 ≤ e then (landD M e [], dn0) else (⟨M, 1, 1, [z0, z0]⟩, ⟨42, 0, []⟩) := by
  have hok : okD ⟨M, 1, 1, [z0, z0]⟩ := landD_ok (b := []) (e := 0) (by omega) hM (by simp; omega)
  unfold doZ
  rw [if_neg (by simp only [not_or, Decidable.not_not]; exact ⟨by omega, hok, by simp⟩), if_neg (by simp)]
  have e1 : (1 : Int).toNat = 1 := rfl
  simp only [e1]
  have hdo : doK ⟨M, 1, 1, [z0, z0]⟩ 1 ⟨7, 1, e, 0, 0, []⟩ = fenceK ⟨M, 1, 1, [z0, z0]⟩ 1 ⟨7, 1, e, 0, 0, []⟩ := by
    unfold doK; simp
  rw [hdo]
  unfold fenceK
  by_cases h : 1 ≤ e
  · rw [if_pos h]
    have h2 : ¬ e ≤ (([z0, z0] : List Zn).getD 1 z0).fe := by simp [z0]; omega
    simp only [h2, if_false]
    simp [landD, landZ, z0]
  · rw [if_neg h]
    have h2 : e ≤ (([z0, z0] : List Zn).getD 1 z0).fe := by simp [z0]; omega
    simp only [h2, if_true]
    simp

end Go.Proofs.YtlippmghgagdaaaGreat

/- What is flushed to an empty zone, flush by flush; plain. -/
namespace Go.Proofs.YtlippmghgagdaaaGreat
open Go.RowKit

/-- what is known behind each flush: the pack, the zone's bytes, what was added, where it stands -/
structure Land (h : Hd) (M : Int) (p : Pk) (b : List UInt8) (want : List Rc) (places : List Int) : Prop where
  hd : p.h = h
  zone : p.zone = 1
  cap : p.cap = M
  at_ : p.at_ = b.length
  bytes : b ++ p.buf = (headL h).1 ++ frsL want
  fits : (b.length : Int) + p.buf.length ≤ M
  nil : p.buf = [] → p.l = []
  few : p.l.length ≤ want.length
  err : errL want = 0
  places : places = plsL (headL h).1.length want
theorem Land.start {h : Hd} {M : Int} {p : Pk} (hb : beginL h 1 M = (p, 0)) (hh : OkHd h) : Land h M p [] [] [] := by
  unfold beginL at hb
  split at hb
  · rename_i h1; injection hb with _ h2; exact absurd h2 h1
  · split at hb
    · injection hb with _ h2; cases h2
    · split at hb
      · injection hb with _ h2; cases h2
      · rename_i h1 h2 h3
        injection hb with hb _
        subst hb
        have h5 := headL_five (Decidable.not_not.1 h1) hh
        exact ⟨rfl, rfl, rfl, rfl, by simp [frsL], by first | (simp; done) | (simp; omega), fun hn => absurd (congrArg List.length (show (headL h).1 = [] from hn)) (by simp only [List.length_nil]; omega), by simp, rfl, rfl⟩
theorem Land.add {h : Hd} {M : Int} {p q : Pk} {b : List UInt8} {want rs : List Rc} {places at_ : List Int} (hl : Land h M p b want places) (hok : ∀ r ∈ rs, OkRc r) (ha : addL p rs = (q, at_, 0)) : Land h M q b (want ++ rs) (places ++ at_) ∧ at_.length = rs.length := by
  have hne : errL rs = 0 := by
    rcases Decidable.em (errL rs = 0) with h | h
    · exact h
    · rw [add_err p rfl h] at ha; simp only [Prod.mk.injEq] at ha; exact absurd ha.2.2 h
  have hfit : ¬ roomL p < ((frsL rs).length : Int) := by
    intro hf
    rw [add_full p hne hf] at ha; simp only [Prod.mk.injEq] at ha; exact absurd ha.2.2 (by decide)
  rw [add_fits p hne hfit] at ha
  injection ha with hq ha
  injection ha with ha _
  subst hq; subst ha
  have hlen := congrArg List.length hl.bytes
  rw [List.length_append, List.length_append] at hlen
  unfold roomL at hfit
  have hc := hl.cap; have hat := hl.at_; have hf := hl.fits
  refine ⟨⟨hl.hd, hl.zone, hl.cap, hl.at_, ?_, ?_, ?_, ?_, ?_, ?_⟩, plsL_len _ _⟩
  · show b ++ (p.buf ++ frsL rs) = _
    rw [← List.append_assoc, hl.bytes, frsL_append, List.append_assoc]
  · show (b.length : Int) + (p.buf ++ frsL rs).length ≤ M
    rw [List.length_append]
    omega
  · intro hn
    have hn' : p.buf ++ frsL rs = [] := hn
    obtain ⟨h1, h2⟩ := List.append_eq_nil_iff.1 hn'
    show p.l ++ rs = []
    rw [hl.nil h1, List.nil_append]
    rcases rs with _ | ⟨r, rs⟩
    · rfl
    · have h3 := (recL_len (hok r (List.mem_cons_self ..))).2 (errL_mem hne r (List.mem_cons_self ..))
      unfold frsL at h2
      have := congrArg List.length h2
      simp at this
      rw [this.1] at h3
      simp at h3
  · show (p.l ++ rs).length ≤ (want ++ rs).length
    rw [List.length_append, List.length_append]
    have := hl.few
    omega
  · rw [errL_append hl.err]; exact hne
  · rw [hl.places, plsL_append]
    congr 2
    show p.at_ + (p.buf.length : Int) = _
    omega
theorem Land.flush {h : Hd} {M : Int} {p : Pk} {b : List UInt8} {want : List Rc} {places : List Int} (hl : Land h M p b want places) (hn : p.buf ≠ []) : Land h M (flushP p) (b ++ p.buf) want places := by
  unfold flushP
  rw [if_neg hn]
  have h1 := hl.at_; have h2 := hl.fits
  exact ⟨hl.hd, hl.zone, hl.cap, by show p.at_ + (p.buf.length : Int) = _; rw [List.length_append]; omega, by show (b ++ p.buf) ++ [] = _; rw [List.append_nil]; exact hl.bytes, by show ((b ++ p.buf).length : Int) + (([] : List UInt8).length : Int) ≤ M; rw [List.length_append]; simp; omega, fun _ => rfl, Nat.zero_le _, hl.err, hl.places⟩
theorem Land.done {h : Hd} {M : Int} {p : Pk} {b : List UInt8} {want : List Rc} {places : List Int} (hl : Land h M p b want places) (hn : p.buf = []) : b = (headL h).1 ++ frsL want := by
  have := hl.bytes
  rwa [hn, List.append_nil] at this
/-- what is found -/
theorem land_scan {h : Hd} {want : List Rc} (hh : OkHd h) (he : (headL h).2 = 0) (hl : errL want = 0) (hok : ∀ r ∈ want, OkRc r) :
    (scanL ((headL h).1 ++ frsL want)).head = true ∧ (scanL ((headL h).1 ++ frsL want)).h = h ∧ (scanL ((headL h).1 ++ frsL want)).l = want ∧ (scanL ((headL h).1 ++ frsL want)).used = ((headL h).1 ++ frsL want).length := by
  have := scan_back (rest := []) hh he hl hok (takeF_short (by simp))
  rw [List.append_nil] at this
  rw [this]
  simp
/-- a record's bytes stand where Add told -/
theorem rec_data {r : Rc} (hr : OkRc r) (he : (recL r).2 = 0) : ∃ a : List UInt8, (recL r).1 = a ++ r.data ++ fixL (crcL (bodyR r)) ∧ (fixL (crcL (bodyR r))).length = 4 := by
  have hc := recL_check he
  rw [recL_ok hr hc]
  refine ⟨putL (bodyR r).length ++ (flatN (recN r) ++ putL r.data.length), ?_, by simp [fixL]⟩
  unfold frB bodyR
  simp
theorem place_data : ∀ {want : List Rc} {pre : List UInt8} {i : Nat} {r : Rc} {o : Int}, errL want = 0 → (∀ r ∈ want, OkRc r) → want[i]? = some r → (plsL pre.length want)[i]? = some o →
    0 ≤ o ∧ o + r.data.length ≤ ((pre ++ frsL want).length : Int) ∧ ((pre ++ frsL want).drop o.toNat).take r.data.length = r.data
  | [], _, _, _, _, _, _, h, _ => by simp at h
  | x :: want, pre, 0, r, o, he, hok, hr, ho => by
    simp only [List.getElem?_cons_zero, Option.some.injEq] at hr
    subst hr
    have h0 := errL_mem he x (List.mem_cons_self ..)
    obtain ⟨a, ha, h4⟩ := rec_data (hok x (List.mem_cons_self ..)) h0
    unfold plsL at ho
    simp only [List.getElem?_cons_zero, Option.some.injEq] at ho
    have hl := congrArg List.length ha
    simp only [List.length_append, h4] at hl
    have ho' : o = ((pre.length + a.length : Nat) : Int) := by omega
    subst ho'
    unfold frsL
    refine ⟨by omega, by simp only [List.length_append]; omega, ?_⟩
    rw [Int.toNat_natCast, ha]
    have e : pre ++ (a ++ x.data ++ fixL (crcL (bodyR x)) ++ frsL want) = (pre ++ a) ++ (x.data ++ (fixL (crcL (bodyR x)) ++ frsL want)) := by simp
    rw [e, List.drop_append_of_le_length (by simp), List.drop_of_length_le (by simp)]
    simp
  | x :: want, pre, i + 1, r, o, he, hok, hr, ho => by
    have h0 := errL_mem he
    have he' : errL want = 0 := errL_of fun y hy => h0 y (List.mem_cons_of_mem _ hy)
    unfold plsL at ho
    simp only [List.getElem?_cons_succ] at hr ho
    have e : (pre.length : Int) + ((recL x).1.length : Int) = ((pre ++ (recL x).1).length : Int) := by simp
    rw [e] at ho
    have := place_data (pre := pre ++ (recL x).1) he' (fun y hy => hok y (List.mem_cons_of_mem _ hy)) hr ho
    unfold frsL
    rwa [List.append_assoc] at this
theorem Land.few_want {h : Hd} {M : Int} {p : Pk} {b : List UInt8} {want : List Rc} {places : List Int} (hl : Land h M p b want places) (hok : ∀ r ∈ want, OkRc r) : (5 * want.length : Int) ≤ M ∧ places.length = want.length ∧ (b.length : Int) ≤ M ∧ (p.buf.length : Int) ≤ M := by
  have hm := errL_mem hl.err
  have h5 : ∀ l : List Rc, (∀ r ∈ l, OkRc r) → (∀ r ∈ l, (recL r).2 = 0) → 5 * l.length ≤ (frsL l).length := by
    intro l
    induction l with
    | nil => simp
    | cons r l ih =>
      intro ho hm
      have h1 := ((recL_len (ho r (List.mem_cons_self ..))).2 (hm r (List.mem_cons_self ..))).2
      have h2 := ih (fun x hx => ho x (List.mem_cons_of_mem _ hx)) (fun x hx => hm x (List.mem_cons_of_mem _ hx))
      simp only [frsL, List.length_append, List.length_cons]
      omega
  have h6 := h5 want hok hm
  have hlen := congrArg List.length hl.bytes
  rw [List.length_append, List.length_append] at hlen
  have hf := hl.fits
  refine ⟨by omega, by rw [hl.places]; exact plsL_len _ _, by omega, by omega⟩
end Go.Proofs.YtlippmghgagdaaaGreat
