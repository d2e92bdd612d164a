/- ReplayTorn returns true for every input; the arguments read as they did. No condition. -/
import Derived.Test.YtlippmghgagdaaaGreatRows
import Derived.Test.YtlippmghgagdaaaGreatPost
import Derived.Test.YtlippmghgagdaaaGreatLib
import Derived.Test.YtlippmghgagdaaaGreatReplayTorn
import Derived.ProofKit
import Derived.SizedLaws
namespace Go.Proofs.YtlippmghgagdaaaGreat
open Go.ChangeShapes Go.WideShapes Go.ChangeAt Go.RowKit

set_option maxRecDepth 100000 in
theorem replayTorn_lifted (os : Os) (started : os.Started) (H : Type) (enc : TypeId × Value → H) :
    ReturnsInHanded {} Tryz.checked os 7 .any (Rows.replayTornSpec.pre6 enc Tryz.prog Tryz.f7 Rows.replayTornRow.domain false) (Rows.replayTornSpec.post enc Tryz.prog Tryz.f7 false true false false) := by
  refine returnsInHanded_of_change_sized (C := Tryz.checked) Tryz.own started (by kernel_rfl) Tryz.func7
    (ChangeSpec.witness6 (enc := enc) (C := Tryz.checked) false ⟨#[], #[.slice none 0 0, .int .i64 0, .int .i64 0, .agg #[.int .i64 0, .int .i64 0, .int .i64 0, .int .u8 0, .bool false], .int .i64 0], []⟩ 8 (by kernel_rfl) (by kernel_rfl) (by kernel_rfl) (by kernel_rfl)) ?_
  intro W base args ds gs before hval0 hW hcnd hsz0 _
  have hval : ∀ (j : Nat) t v, Tryz.f7.params[j]? = some t → args[j]? = some v → Value.okWide Tryz.prog W .any base t v := hval0
  have hsz : (DataW.weightsEach Tryz.prog (Tryz.f7.params.toList ++ Rows.replayTornSpec.plain.varTypes Tryz.prog) (ds ++ gs)).all (· ≤ reachBytes) = true := hsz0
  have hW' := hW
  obtain ⟨p, q, hA0, hV, rfl, hfz, hnd⟩ := hW
  have hA : DataW.TrodAll enc Tryz.prog W 0 (fun _ => true) true Tryz.f7.params.toList args.toList ds p := hA0
  rw [Tryz.params7] at hA hval hsz
  obtain ⟨v0, v1, v2, v3, v4, d0, d1, d2, d3, d4, p0, p1, p2, p3, p4, rfl, rfl, rfl, h0, h1, h2, h3, h4⟩ := trodAll_five hA
  obtain ⟨rfl, rfl⟩ := trodVars_none hV
  have s0 := Small.of_args hsz (j := 0) (t := 59) (d := d0) rfl rfl
  have s3 := Small.of_args hsz (j := 3) (t := 81) (d := d3) rfl rfl
  have k0 := h0
  obtain ⟨l0, il0, bl0⟩ := open_LA_wr (hval 0 59 v0 rfl rfl) h0 s0
  obtain ⟨m1, rfl, rfl, rfl, wm1⟩ := open_int Tryz.underlying3 (hval 1 3 v1 rfl rfl) h1
  have bm1 := bounds_i64 wm1
  obtain ⟨m2, rfl, rfl, rfl, wm2⟩ := open_int Tryz.underlying3 (hval 2 3 v2 rfl rfl) h2
  have bm2 := bounds_i64 wm2
  have k3 := h3
  obtain ⟨z3, rfl, iz3⟩ := open_wr_arg (hval 3 81 v3 rfl rfl) h3 s3
  obtain ⟨m4, rfl, rfl, rfl, wm4⟩ := open_int Tryz.underlying3 (hval 4 3 v4 rfl rfl) h4
  have bm4 := bounds_i64 wm4
  have hlt0 : ∀ x ∈ p0, x.block < W.heap.size := fun x hx => by simpa using hW'.lt x (by simp [hx])
  have hlt3 : ∀ x ∈ p3, x.block < W.heap.size := fun x hx => by simpa using hW'.lt x (by simp [hx])
  clear hA0 hval0
  simp only [List.append_nil] at hW'
  refine (replayTorn_all l0 _ m1 m2 m4 z3 _ W il0).mono fun e W' ⟨he, hw⟩ => ?_
  subst he
  exact ⟨_, rfl, post_of_below (pa := _) (pv := []) hW' (fun _ _ _ => trodAll_mk1 (shut_bool Tryz.underlying4 true))
    (fun sp hsp => trodAll_mk5 (args_stay Tryz.laidOut (by kernel_rfl) (of_decide_eq_true (by kernel_rfl)) k0 hw hlt0 (fun x hx => hsp x (by simp [hx]))) (shut_int Tryz.underlying3 wm1) (shut_int Tryz.underlying3 wm2) (args_stay Tryz.laidOut (by kernel_rfl) (of_decide_eq_true (by kernel_rfl)) k3 hw hlt3 (fun x hx => hsp x (by simp [hx]))) (shut_int Tryz.underlying3 wm4)) (fun _ _ => rfl) (by simp)
    hw (ok_one (by kernel_rfl) rfl (okWide_bool_mk Tryz.underlying4 true))⟩

theorem replayTorn_holds : Rows.ReplayTornSaid :=
  OpenClaim.holds_of_wide 7 Tryz.f7 rfl rfl rfl rfl rfl rfl rfl ⟨rfl, rfl, rfl, rfl, rfl⟩ rfl rfl rfl rfl rfl (by kernel_rfl) Tryz.func7 (by kernel_rfl)
    (of_decide_eq_true (by kernel_rfl)) (by unfold Func.isWrapper; rw [if_neg (by decide +kernel)]; exact ⟨rfl, rfl⟩)
    (fun os started H enc _ => replayTorn_lifted os started H enc)
end Go.Proofs.YtlippmghgagdaaaGreat
