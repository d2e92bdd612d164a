import Derived.Test.YtlippmghgagdaaaGreatSegBody
import Derived.Test.YtlippmghgagdaaaGreatPackAdd1
import Derived.Deep.DeepCutAuto
import Derived.Deep.RegionWith

/- A header, a record among the arguments. -/
namespace Go.Proofs.YtlippmghgagdaaaGreat
open Go.RowKit Go.WideShapes Go.ChangeShapes Go.Deep

set_option maxRecDepth 100000 in
theorem open_hd_arg {H : Type} {enc : TypeId × Value → H} {w : World} {base : Nat} {v : Value} {d : DataW H} {p : List MemPlace} (hv : Value.okWide Tryz.prog w .any base 23 v) (h : DataW.Trod enc Tryz.prog w 0 (fun _ => true) true 23 v d p) (hs : Small Tryz.prog 23 d) :
    ∃ z, v = hdV z ∧ OkHd z := by
  obtain ⟨cs, rfl, _⟩ := okWide_struct Tryz.underlying23 hv
  obtain ⟨fuel, hf⟩ := h
  obtain ⟨z, hcs, r⟩ := open_hd hf hs
  refine ⟨z, ?_, r⟩
  unfold hdV
  congr 1
  apply Array.toList_inj.1
  simpa [Value.cells] using hcs
set_option maxRecDepth 100000 in
theorem open_rc_arg {H : Type} {enc : TypeId × Value → H} {w : World} {base : Nat} {v : Value} {d : DataW H} {p : List MemPlace} (hv : Value.okWide Tryz.prog w .any base 57 v) (h : DataW.Trod enc Tryz.prog w 0 (fun _ => true) true 57 v d p) (hs : Small Tryz.prog 57 d) :
    ∃ z vd, v = rcV z vd ∧ IsB w (· < w.heap.size) vd z.data ∧ OkRc z := by
  obtain ⟨cs, rfl, _⟩ := okWide_struct Tryz.underlying57 hv
  obtain ⟨fuel, hf⟩ := h
  obtain ⟨z, hz⟩ := open_rc hf hs
  have hok := rc_ok hz
  obtain ⟨vd, hcs, hB, _⟩ := hz
  have hB0 := hB
  obtain ⟨A2, c2, rfl, _⟩ := hB
  refine ⟨z, _, ?_, hB0, hok⟩
  unfold rcV
  congr 1
  apply Array.toList_inj.1
  simpa [Value.cells] using hcs
end Go.Proofs.YtlippmghgagdaaaGreat

/- ref02's SameInts, ref03's Same and SameRecs, ref15's Same of what is the same. -/
namespace Go.Proofs.YtlippmghgagdaaaGreat
open Go.RowKit

set_option maxRecDepth 100000 in
set_option maxHeartbeats 1000000 in
theorem sameRec_any (r : Rc) (A1 A2 : Option Addr) (c1 c2 : Nat) (K K' : Nat → Prop) (w : World) (hv : IsB w K (.slice A1 r.data.length c1) r.data) (hu : IsB w K' (.slice A2 r.data.length c2) r.data) :
    Calls Tryz.prog 65 #[rcV r (.slice A1 r.data.length c1), rcV r (.slice A2 r.data.length c2)] w fun e w' => e = .returned (.bool true) ∧ Below w.heap.size w w' := by
  unfold rcV
  have E := ((((Kn.start w).give Stable.bytes hv).give Stable.bytes hu).push 57 #[.int .i64 r.kind, .int .i64 r.lba, .int .i64 r.n, .int .i64 r.ver, .int .i64 r.zone, .int .i64 r.off, .slice A1 r.data.length c1]).push 57 #[.int .i64 r.kind, .int .i64 r.lba, .int .i64 r.n, .int .i64 r.ver, .int .i64 r.zone, .int .i64 r.off, .slice A2 r.data.length c2]
  obtain ⟨q1, f1, t1⟩ := E.rules m1
  obtain ⟨q2, f2, t2⟩ := E.rules m0
  rw [World.size_alloc] at q2 f2 t2
  have hs1 := run_string_of (P := Tryz.prog) (cap := c1) (n := r.data.length) (l := r.data) _ 32 9 5 Tryz.underlying32 Tryz.underlying5 Tryz.underlying9 rfl (IsB.open_ (E.get m1)).2.1
  have hs2 := run_string_of (P := Tryz.prog) (cap := c2) (n := r.data.length) (l := r.data) _ 32 9 5 Tryz.underlying32 Tryz.underlying5 Tryz.underlying9 rfl (IsB.open_ (E.get m0)).2.1
  have hb := E.below
  clear E hv hu
  go_enter Tryz.func65, Tryz.ntmps65
  go_wp2
  go_ret
  exact ⟨rfl, hb⟩

theorem CellsL.ltRcs {w : World} {K : Nat → Prop} : ∀ {cs : List Value} {l : List Rc}, CellsL Rp.rc w K cs l → CellsL Rp.rc w (fun b => K b ∧ b < w.heap.size) cs l
  | _, [], h => h
  | _, _ :: _, ⟨c1, c2, e, ⟨v, e1, h1, h2⟩, h3⟩ => ⟨c1, c2, e, ⟨v, e1, h1.lt, h2⟩, h3.ltRcs⟩
theorem IsL.ltRc {w : World} {K : Nat → Prop} {v : Value} {l : List Rc} (h : IsL Rp.rc w K v l) : IsL Rp.rc w (fun b => K b ∧ b < w.heap.size) v l := by
  obtain ⟨A, c, cs, e, h1, h2, h3⟩ := h
  exact ⟨A, c, cs, e, h1.lt (by decide), h2.ltRcs, h3⟩
theorem add_blk (a : Addr) (n : Nat) : (a.add n).block = a.block := by unfold Addr.add; split <;> rfl
/-- a record's cells -/
def RcAt (w : World) (a : Addr) (r : Rc) (vd : Value) : Prop := w.cell? a = some (.int .i64 r.kind) ∧ w.cell? ⟨a.block, a.off + 1, none⟩ = some (.int .i64 r.lba) ∧ w.cell? ⟨a.block, a.off + 2, none⟩ = some (.int .i64 r.n) ∧ w.cell? ⟨a.block, a.off + 3, none⟩ = some (.int .i64 r.ver) ∧ w.cell? ⟨a.block, a.off + 4, none⟩ = some (.int .i64 r.zone) ∧ w.cell? ⟨a.block, a.off + 5, none⟩ = some (.int .i64 r.off) ∧ w.cell? ⟨a.block, a.off + 6, none⟩ = some vd
theorem RcAt.step {w w' : World} {a : Addr} {r : Rc} {vd : Value} (h : RcAt w a r vd) (ha : a.block < w.heap.size) (hb : Below w.heap.size w w') : RcAt w' a r vd := by
  unfold RcAt at h ⊢
  have e : ∀ p : Addr, p.block = a.block → w'.cell? p = w.cell? p := fun p hp => hb.cell (by rw [hp]; exact ha)
  rw [e a rfl, e ⟨a.block, a.off + 1, none⟩ rfl, e ⟨a.block, a.off + 2, none⟩ rfl, e ⟨a.block, a.off + 3, none⟩ rfl, e ⟨a.block, a.off + 4, none⟩ rfl, e ⟨a.block, a.off + 5, none⟩ rfl, e ⟨a.block, a.off + 6, none⟩ rfl]
  exact h
set_option maxRecDepth 100000 in
set_option maxHeartbeats 2000000 in
theorem sameRecs_any (v u : Value) (l : List Rc) (K K' : Nat → Prop) (w : World) (hv : IsL Rp.rc w K v l) (hu : IsL Rp.rc w K' u l) :
    Calls Tryz.prog 20 #[v, u] w fun e w' => e = .returned (.bool true) ∧ Below w.heap.size w w' := by
  have hv0 := hv.ltRc
  have hu0 := hu.ltRc
  have hlen := hv.len
  obtain ⟨A, c, rfl, _, _⟩ := hv.form
  obtain ⟨A', c', rfl, _, _⟩ := hu.form
  go_enter Tryz.func20, Tryz.ntmps20
  go_wp2
  go_loopw [13] (fun i wr => ∃ j : Nat, i = .int .i64 j ∧ j ≤ l.length ∧ Below w.heap.size w wr) (fun i _ => l.length - (intOf i).toNat)
  case atStart => exact ⟨0, rfl, Nat.zero_le _, Below.refl _ _⟩
  case round =>
    obtain ⟨j, rfl, hj, hb⟩ := hrel
    have hsz := hb.size
    by_cases hlt : j < l.length
    · obtain ⟨ad, Ad, cd, rfl, hKa, hvd, _, hc0, hc1, hc2, hc3, hc4, hc5, hc6⟩ := rc_at (hv0.step hb) (List.getElem?_eq_getElem hlt)
      obtain ⟨ad', Ad', cd', rfl, hKb, hud, _, hd0, hd1, hd2, hd3, hd4, hd5, hd6⟩ := rc_at (hu0.step hb) (List.getElem?_eq_getElem hlt)
      generalize l[j] = r at hvd hud hc0 hc1 hc2 hc3 hc4 hc5 hc6 hd0 hd1 hd2 hd3 hd4 hd5 hd6
      have hcall := fun W h1 h2 => sameRec_any r Ad Ad' cd cd' (fun b => K b ∧ b < w.heap.size) (fun b => K' b ∧ b < w.heap.size) W h1 h2
      unfold rcV at hcall
      have j1 : (j : Int) < (l.length : Int) := by omega
      have j0 : (0 : Int) ≤ (j : Int) := by omega
      have HK : Hid (∀ W, Below wr.heap.size wr W → W.cell? (ad.add (j * 7)) = some (.int .i64 r.kind) ∧ W.cell? ⟨(ad.add (j * 7)).block, (ad.add (j * 7)).off + 1, none⟩ = some (.int .i64 r.lba) ∧ W.cell? ⟨(ad.add (j * 7)).block, (ad.add (j * 7)).off + 2, none⟩ = some (.int .i64 r.n) ∧ W.cell? ⟨(ad.add (j * 7)).block, (ad.add (j * 7)).off + 3, none⟩ = some (.int .i64 r.ver) ∧ W.cell? ⟨(ad.add (j * 7)).block, (ad.add (j * 7)).off + 4, none⟩ = some (.int .i64 r.zone) ∧ W.cell? ⟨(ad.add (j * 7)).block, (ad.add (j * 7)).off + 5, none⟩ = some (.int .i64 r.off) ∧ W.cell? ⟨(ad.add (j * 7)).block, (ad.add (j * 7)).off + 6, none⟩ = some (.slice Ad r.data.length cd) ∧ W.cell? (ad'.add (j * 7)) = some (.int .i64 r.kind) ∧ W.cell? ⟨(ad'.add (j * 7)).block, (ad'.add (j * 7)).off + 1, none⟩ = some (.int .i64 r.lba) ∧ W.cell? ⟨(ad'.add (j * 7)).block, (ad'.add (j * 7)).off + 2, none⟩ = some (.int .i64 r.n) ∧ W.cell? ⟨(ad'.add (j * 7)).block, (ad'.add (j * 7)).off + 3, none⟩ = some (.int .i64 r.ver) ∧ W.cell? ⟨(ad'.add (j * 7)).block, (ad'.add (j * 7)).off + 4, none⟩ = some (.int .i64 r.zone) ∧ W.cell? ⟨(ad'.add (j * 7)).block, (ad'.add (j * 7)).off + 5, none⟩ = some (.int .i64 r.off) ∧ W.cell? ⟨(ad'.add (j * 7)).block, (ad'.add (j * 7)).off + 6, none⟩ = some (.slice Ad' r.data.length cd')) := Lib.hid fun W h => by
        obtain ⟨a0, a1, a2, a3, a4, a5, a6⟩ := RcAt.step (show RcAt wr (ad.add (j * 7)) r (.slice Ad r.data.length cd) from ⟨hc0, hc1, hc2, hc3, hc4, hc5, hc6⟩) (by rw [add_blk]; have := hKa.2; omega) h
        obtain ⟨b0, b1, b2, b3, b4, b5, b6⟩ := RcAt.step (show RcAt wr (ad'.add (j * 7)) r (.slice Ad' r.data.length cd') from ⟨hd0, hd1, hd2, hd3, hd4, hd5, hd6⟩) (by rw [add_blk]; have := hKb.2; omega) h
        exact ⟨a0, a1, a2, a3, a4, a5, a6, b0, b1, b2, b3, b4, b5, b6⟩
      have hbd := (Below.refl wr.heap.size wr).drew
      clear hc0 hc1 hc2 hc3 hc4 hc5 hc6 hd0 hd1 hd2 hd3 hd4 hd5 hd6
      go_upto_region 6 with fail
      go_cut [25] (fun s wx => s = .bool false ∧ Below wr.heap.size wr wx)
      case first =>
        go_region_held3 (fun W : World => W.cell? (ad.add (j * 7)) = some (.int .i64 r.kind) ∧ W.cell? ⟨(ad.add (j * 7)).block, (ad.add (j * 7)).off + 1, none⟩ = some (.int .i64 r.lba) ∧ W.cell? ⟨(ad.add (j * 7)).block, (ad.add (j * 7)).off + 2, none⟩ = some (.int .i64 r.n) ∧ W.cell? ⟨(ad.add (j * 7)).block, (ad.add (j * 7)).off + 3, none⟩ = some (.int .i64 r.ver) ∧ W.cell? ⟨(ad.add (j * 7)).block, (ad.add (j * 7)).off + 4, none⟩ = some (.int .i64 r.zone) ∧ W.cell? ⟨(ad.add (j * 7)).block, (ad.add (j * 7)).off + 5, none⟩ = some (.int .i64 r.off) ∧ W.cell? ⟨(ad.add (j * 7)).block, (ad.add (j * 7)).off + 6, none⟩ = some (.slice Ad r.data.length cd) ∧ W.cell? (ad'.add (j * 7)) = some (.int .i64 r.kind) ∧ W.cell? ⟨(ad'.add (j * 7)).block, (ad'.add (j * 7)).off + 1, none⟩ = some (.int .i64 r.lba) ∧ W.cell? ⟨(ad'.add (j * 7)).block, (ad'.add (j * 7)).off + 2, none⟩ = some (.int .i64 r.n) ∧ W.cell? ⟨(ad'.add (j * 7)).block, (ad'.add (j * 7)).off + 3, none⟩ = some (.int .i64 r.ver) ∧ W.cell? ⟨(ad'.add (j * 7)).block, (ad'.add (j * 7)).off + 4, none⟩ = some (.int .i64 r.zone) ∧ W.cell? ⟨(ad'.add (j * 7)).block, (ad'.add (j * 7)).off + 5, none⟩ = some (.int .i64 r.off) ∧ W.cell? ⟨(ad'.add (j * 7)).block, (ad'.add (j * 7)).off + 6, none⟩ = some (.slice Ad' r.data.length cd'))
          (first | with_reducible exact HK.out _ hbA | with_reducible exact HK.out _ hbd)
          (first | (go_at_call 65; refine (hcall _ (hvd.step hbd) (hud.step hbd)).mono ?_; rintro e wA ⟨rfl, hbA⟩; replace hbA := hbd.trans hbA))
        go_wp2_with fail
        go_meet
        exact ⟨rfl, hbA⟩
      case rest =>
        obtain ⟨rfl, hbc⟩ := hcut
        go_wp2_with fail
        go_roundw
        case rel => exact ⟨j + 1, by go_num, by omega, hb.trans (hbc.mono hsz)⟩
        case measure => simp [intOf]; omega
    · obtain rfl : j = l.length := by omega
      go_wp2
      go_ret
      exact ⟨rfl, hb⟩

end Go.Proofs.YtlippmghgagdaaaGreat
