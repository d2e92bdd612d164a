/- NetCuts returns true for every input; the arguments read as they did. No condition. -/
import Derived.Test.YtbjgemipmlimoaaRows
import Derived.Test.YtbjgemipmlimoaaPost
import Derived.Test.YtbjgemipmlimoaaOpen
import Derived.Test.YtbjgemipmlimoaaMsg
import Derived.Test.YtbjgemipmlimoaaNetCuts
import Derived.ProofKit
import Derived.SizedLaws
namespace Go.Proofs.Ytbjgemipmlimoaa
open Go.ChangeShapes Go.WideShapes Go.ChangeAt Go.RowKit

set_option maxRecDepth 100000 in
theorem netCuts_lifted (os : Os) (started : os.Started) (H : Type) (enc : TypeId × Value → H) :
    ReturnsInHanded {} Try.checked os 7 .any (Rows.netCutsSpec.pre6 enc Try.prog Try.f7 Rows.netCutsRow.domain false) (Rows.netCutsSpec.post enc Try.prog Try.f7 false true false false) := by
  refine returnsInHanded_of_change_sized (C := Try.checked) Try.own started (by kernel_rfl) Try.func7
    (ChangeSpec.witness6 (enc := enc) (C := Try.checked) false ⟨#[], #[.slice none 0 0, .int .i64 0], []⟩ 8 (by kernel_rfl) (by kernel_rfl) (by kernel_rfl) (by kernel_rfl)) ?_
  intro W base args ds gs before hval0 hW hcnd hsz0 _
  have hval : ∀ (j : Nat) t v, Try.f7.params[j]? = some t → args[j]? = some v → Value.okWide Try.prog W .any base t v := hval0
  have hsz : (DataW.weightsEach Try.prog (Try.f7.params.toList ++ Rows.netCutsSpec.plain.varTypes Try.prog) (ds ++ gs)).all (· ≤ reachBytes) = true := hsz0
  have hW' := hW
  obtain ⟨p, q, hA0, hV, rfl, hfz, hnd⟩ := hW
  have hA : DataW.TrodAll enc Try.prog W 0 (fun _ => true) true Try.f7.params.toList args.toList ds p := hA0
  rw [Try.params7] at hA hval hsz
  obtain ⟨v0, v1, d0, d1, p0, p1, rfl, rfl, rfl, h0, h1⟩ := trodAll_two hA
  obtain ⟨rfl, rfl⟩ := trodVars_none hV
  have s0 := Small.of_args hsz (j := 0) (t := 35) (d := d0) rfl rfl
  have k0 := h0
  obtain ⟨l0, il0, bl0⟩ := open_LA_msg (hval 0 35 v0 rfl rfl) h0 s0
  obtain ⟨m1, rfl, rfl, rfl, wm1⟩ := open_int Try.underlying3 (hval 1 3 v1 rfl rfl) h1
  have bm1 := bounds_i64 wm1
  have hlt0 : ∀ x ∈ p0, x.block < W.heap.size := fun x hx => by simpa using hW'.lt x (by simp [hx])
  clear hA0 hval0
  simp only [List.append_nil] at hW'
  refine (netCuts_any v0 l0 m1 W il0).mono fun e W' ⟨he, hw⟩ => ?_
  subst he
  exact ⟨_, rfl, post_of_below (pa := _) (pv := []) hW' (fun _ _ _ => trodAll_mk1 (shut_bool Try.underlying4 true))
    (fun sp hsp => trodAll_mk2 (args_stay Try.laidOut (by kernel_rfl) (of_decide_eq_true (by kernel_rfl)) k0 hw hlt0 (fun x hx => hsp x (by simp [hx]))) (shut_int Try.underlying3 wm1)) (fun _ _ => rfl) (by simp)
    hw (ok_one (by kernel_rfl) rfl (okWide_bool_mk Try.underlying4 true))⟩

theorem netCuts_holds : Rows.NetCutsSaid :=
  OpenClaim.holds_of_wide 7 Try.f7 rfl rfl rfl rfl rfl rfl rfl ⟨rfl, rfl, rfl, rfl, rfl⟩ rfl rfl rfl rfl rfl (by kernel_rfl) Try.func7 (by kernel_rfl)
    (of_decide_eq_true (by kernel_rfl)) (by unfold Func.isWrapper; rw [if_neg (by decide +kernel)]; exact ⟨rfl, rfl⟩)
    (fun os started H enc _ => netCuts_lifted os started H enc)
end Go.Proofs.Ytbjgemipmlimoaa
