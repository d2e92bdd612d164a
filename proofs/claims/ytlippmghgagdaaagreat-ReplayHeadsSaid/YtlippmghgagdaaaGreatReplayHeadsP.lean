/- ReplayHeads returns true for every input; the arguments read as they did. No condition. -/
import Derived.Test.YtlippmghgagdaaaGreatRows
import Derived.Test.YtlippmghgagdaaaGreatPost
import Derived.Test.YtlippmghgagdaaaGreatLib
import Derived.Test.YtlippmghgagdaaaGreatReplayHeads
import Derived.Test.YtlippmghgagdaaaGreatRunPlain
import Derived.ProofKit
import Derived.SizedLaws
namespace Go.Proofs.YtlippmghgagdaaaGreat
open Go.ChangeShapes Go.WideShapes Go.ChangeAt Go.RowKit

set_option maxRecDepth 100000 in
theorem replayHeads_lifted (os : Os) (started : os.Started) (H : Type) (enc : TypeId × Value → H) :
    ReturnsInHanded {} Tryz.checked os 6 .any (Rows.replayHeadsSpec.pre6 enc Tryz.prog Tryz.f6 Rows.replayHeadsRow.domain false) (Rows.replayHeadsSpec.post enc Tryz.prog Tryz.f6 false true false false) := by
  refine returnsInHanded_of_change_sized (C := Tryz.checked) Tryz.own started (by kernel_rfl) Tryz.func6
    (ChangeSpec.witness6 (enc := enc) (C := Tryz.checked) false ⟨#[], #[.slice none 0 0, .int .i64 0], []⟩ 8 (by kernel_rfl) (by kernel_rfl) (by kernel_rfl) (by kernel_rfl)) ?_
  intro W base args ds gs before hval0 hW hcnd hsz0 _
  have hval : ∀ (j : Nat) t v, Tryz.f6.params[j]? = some t → args[j]? = some v → Value.okWide Tryz.prog W .any base t v := hval0
  have hsz : (DataW.weightsEach Tryz.prog (Tryz.f6.params.toList ++ Rows.replayHeadsSpec.plain.varTypes Tryz.prog) (ds ++ gs)).all (· ≤ reachBytes) = true := hsz0
  have hW' := hW
  obtain ⟨p, q, hA0, hV, rfl, hfz, hnd⟩ := hW
  have hA : DataW.TrodAll enc Tryz.prog W 0 (fun _ => true) true Tryz.f6.params.toList args.toList ds p := hA0
  rw [Tryz.params6] at hA hval hsz
  obtain ⟨v0, v1, d0, d1, p0, p1, rfl, rfl, rfl, h0, h1⟩ := trodAll_two hA
  obtain ⟨rfl, rfl⟩ := trodVars_none hV
  have s0 := Small.of_args hsz (j := 0) (t := 59) (d := d0) rfl rfl
  have k0 := h0
  obtain ⟨l0, il0, bl0⟩ := open_LA_wr (hval 0 59 v0 rfl rfl) h0 s0
  obtain ⟨m1, rfl, rfl, rfl, wm1⟩ := open_int Tryz.underlying3 (hval 1 3 v1 rfl rfl) h1
  have bm1 := bounds_i64 wm1
  have hlt0 : ∀ x ∈ p0, x.block < W.heap.size := fun x hx => by simpa using hW'.lt x (by simp [hx])
  clear hA0 hval0
  simp only [List.append_nil] at hW'
  refine (replayHeads_all l0 _ m1 _ W il0).mono fun e W' ⟨he, hw⟩ => ?_
  subst he
  exact ⟨_, rfl, post_of_below (pa := _) (pv := []) hW' (fun _ _ _ => trodAll_mk1 (shut_bool Tryz.underlying4 true))
    (fun sp hsp => trodAll_mk2 (args_stay Tryz.laidOut (by kernel_rfl) (of_decide_eq_true (by kernel_rfl)) k0 hw hlt0 (fun x hx => hsp x (by simp [hx]))) (shut_int Tryz.underlying3 wm1)) (fun _ _ => rfl) (by simp)
    hw (ok_one (by kernel_rfl) rfl (okWide_bool_mk Tryz.underlying4 true))⟩

theorem replayHeads_holds : Rows.ReplayHeadsSaid :=
  OpenClaim.holds_of_wide 6 Tryz.f6 rfl rfl rfl rfl rfl rfl rfl ⟨rfl, rfl, rfl, rfl, rfl⟩ rfl rfl rfl rfl rfl (by kernel_rfl) Tryz.func6 (by kernel_rfl)
    (of_decide_eq_true (by kernel_rfl)) (by unfold Func.isWrapper; rw [if_neg (by decide +kernel)]; exact ⟨rfl, rfl⟩)
    (fun os started H enc _ => replayHeads_lifted os started H enc)
end Go.Proofs.YtlippmghgagdaaaGreat
