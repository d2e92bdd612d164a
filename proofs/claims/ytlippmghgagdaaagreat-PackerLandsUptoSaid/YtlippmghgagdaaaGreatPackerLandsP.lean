/- PackerLands returns true for every input of bulk at most 1048576; the arguments read as they did. -/
import Derived.Test.YtlippmghgagdaaaGreatRows
import Derived.Test.YtlippmghgagdaaaGreatPost
import Derived.Test.YtlippmghgagdaaaGreatLib
import Derived.Test.YtlippmghgagdaaaGreatLands
import Derived.Test.YtlippmghgagdaaaGreatOpenLL
import Derived.Test.YtlippmghgagdaaaGreatSameSeg
import Derived.Test.YtlippmghgagdaaaGreatPackAdd1
import Derived.ProofKit
import Derived.JoinedCond
import Derived.Deep.CondSized
import Derived.SizedLaws
namespace Go.Proofs.YtlippmghgagdaaaGreat
open Go.ChangeShapes Go.WideShapes Go.ChangeAt Go.RowKit

theorem CellsL.rcs_more {w : World} {K : Nat → Prop} {a b : Nat} (h : a ≤ b) : ∀ {cs : List Value} {l : List (List Rc)}, CellsL (Rp.rcs a) w K cs l → CellsL (Rp.rcs b) w K cs l
  | _, [], hc => hc
  | _, _ :: _, ⟨x, y, e, hx, hy⟩ => ⟨x, y, e, ⟨hx.1, Nat.le_trans hx.2 h⟩, CellsL.rcs_more h hy⟩
theorem IsL.rcs_more {w : World} {K : Nat → Prop} {a b : Nat} {v : Value} {l : List (List Rc)} (hv : IsL (Rp.rcs a) w K v l) (h : a ≤ b) : IsL (Rp.rcs b) w K v l := by
  obtain ⟨A, c, cs, e, h1, h2, h3, h4, h5⟩ := hv
  exact ⟨A, c, cs, e, h1, h2.rcs_more h, h3, h4, h5⟩

set_option maxRecDepth 100000 in
theorem packerLands_lifted (os : Os) (started : os.Started) (H : Type) (enc : TypeId × Value → H) (F : Stop.Interp) :
    ReturnsInHanded {} Tryz.checked os 3 .any ((Rows.OpenSpec.upto Rows.packerLandsSpec).pre6 enc Tryz.prog Tryz.f3 Rows.packerLandsUptoRow.domain false) (((Rows.OpenSpec.upto Rows.packerLandsSpec).at F).post enc Tryz.prog Tryz.f3 false true false false) := by
  refine returnsInHanded_of_cond_sized (C := Tryz.checked) (s := Rows.OpenSpec.upto Rows.packerLandsSpec) (k := Rows.uptoSmall) rfl Tryz.own started (by kernel_rfl) Tryz.func3
    (OpenSpec.witness (enc := enc) (C := Tryz.checked) (s := Rows.OpenSpec.upto Rows.packerLandsSpec) (k := Rows.uptoSmall) rfl false ⟨#[], #[.agg #[.int .i64 0, .int .i64 0, .int .i64 0], .slice none 0 0, .int .i64 0], []⟩ 8 (by kernel_rfl) (by kernel_rfl) (by kernel_rfl)
      (x := ([.agg [.lit (.int .i64 0), .lit (.int .i64 0), .lit (.int .i64 0)], .nil, .lit (.int .i64 0)], [], [])) (by kernel_rfl) rfl (by kernel_rfl)) ?_
  intro W base args ds gs before hval0 hW0 hcnd bk hsz0 _
  have hW : DataW.Whole enc Tryz.prog Tryz.f3.params.toList Rows.packerLandsSpec.vars false W args.toList ds gs before := hW0
  have hval : ∀ (j : Nat) t v, Tryz.f3.params[j]? = some t → args[j]? = some v → Value.okWide Tryz.prog W .any base t v := hval0
  have hsz : (DataW.weightsEach Tryz.prog (Tryz.f3.params.toList ++ Rows.packerLandsSpec.plain.varTypes Tryz.prog) (ds ++ gs)).all (· ≤ reachBytes) = true := hsz0
  have hW' := hW
  obtain ⟨p, q, hA0, hV, rfl, hfz, hnd⟩ := hW
  have hA : DataW.TrodAll enc Tryz.prog W 0 (fun _ => true) true Tryz.f3.params.toList args.toList ds p := hA0
  rw [Tryz.params3] at hA hval hsz
  obtain ⟨v0, v1, v2, d0, d1, d2, p0, p1, p2, rfl, rfl, rfl, h0, h1, h2⟩ := trodAll_three hA
  obtain ⟨rfl, rfl⟩ := trodVars_none hV
  have s0 := Small.of_args hsz (j := 0) (t := 23) (d := d0) rfl rfl
  have s1 := Small.of_args hsz (j := 1) (t := 24) (d := d1) rfl rfl
  have k0 := h0
  obtain ⟨z0, rfl, iz0⟩ := open_hd_arg (hval 0 23 v0 rfl rfl) h0 s0
  have k1 := h1
  obtain ⟨l1, il1⟩ := open_LLA_rc (hval 1 24 v1 rfl rfl) h1 s1
  obtain ⟨m2, rfl, rfl, rfl, wm2⟩ := open_int Tryz.underlying3 (hval 2 3 v2 rfl rfl) h2
  have bm2 := bounds_i64 wm2
  have hlt0 : ∀ x ∈ p0, x.block < W.heap.size := fun x hx => by simpa using hW'.lt x (by simp [hx])
  have hlt1 : ∀ x ∈ p1, x.block < W.heap.size := fun x hx => by simpa using hW'.lt x (by simp [hx])
  clear hA0 hval0
  simp only [List.append_nil] at hW' bk
  refine (packerLands_any z0 _ l1 m2 W iz0 (il1.rcs_more (bulk_part (by simp) bk))).mono fun e W' ⟨he, hw⟩ => ?_
  subst he
  show ∃ v, _ = _ ∧ Rows.packerLandsSpec.post enc Tryz.prog Tryz.f3 false true false false W _ v W'
  exact ⟨_, rfl, post_of_below (pa := _) (pv := []) hW' (fun _ _ _ => trodAll_mk1 (shut_bool Tryz.underlying4 true))
    (fun sp hsp => trodAll_mk3 (args_stay Tryz.laidOut (by kernel_rfl) (of_decide_eq_true (by kernel_rfl)) k0 hw hlt0 (fun x hx => hsp x (by simp [hx]))) (args_stay Tryz.laidOut (by kernel_rfl) (of_decide_eq_true (by kernel_rfl)) k1 hw hlt1 (fun x hx => hsp x (by simp [hx]))) (shut_int Tryz.underlying3 wm2)) (fun _ _ => rfl) (by simp)
    hw (ok_one (by kernel_rfl) rfl (okWide_bool_mk Tryz.underlying4 true))⟩

theorem packerLands_holds : Rows.PackerLandsUptoSaid :=
  OpenClaim.holds_of_cond 3 Tryz.f3 rfl rfl rfl rfl rfl rfl rfl ⟨rfl, rfl, rfl, rfl, rfl⟩ rfl rfl rfl rfl rfl (by kernel_rfl) Tryz.func3 (by kernel_rfl)
    (of_decide_eq_true (by kernel_rfl)) (by unfold Func.isWrapper; rw [if_neg (by decide +kernel)]; exact ⟨rfl, rfl⟩)
    (fun os started H enc _ F => packerLands_lifted os started H enc F)
end Go.Proofs.YtlippmghgagdaaaGreat
