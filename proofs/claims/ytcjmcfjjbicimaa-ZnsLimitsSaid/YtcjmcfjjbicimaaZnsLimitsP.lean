/- ZnsLimits returns true for every input; the arguments read as they did. No condition. -/
import Derived.Test.YtcjmcfjjbicimaaRows
import Derived.Test.YtcjmcfjjbicimaaPost
import Derived.Test.YtcjmcfjjbicimaaOpen
import Derived.Test.YtcjmcfjjbicimaaOpenInt
import Derived.Test.YtcjmcfjjbicimaaZnsLimits
import Derived.ProofKit
import Derived.SizedLaws
namespace Go.Proofs.Ytcjmcfjjbicimaa
open Go.ChangeShapes Go.WideShapes Go.ChangeAt Go.RowKit

set_option maxRecDepth 100000 in
theorem znsLimits_lifted (os : Os) (started : os.Started) (H : Type) (enc : TypeId × Value → H) :
    ReturnsInHanded {} Try.checked os 12 .any (Rows.znsLimitsSpec.pre6 enc Try.prog Try.f12 Rows.znsLimitsRow.domain false) (Rows.znsLimitsSpec.post enc Try.prog Try.f12 false true false false) := by
  refine returnsInHanded_of_change_sized (C := Try.checked) Try.own started (by kernel_rfl) Try.func12
    (ChangeSpec.witness6 (enc := enc) (C := Try.checked) false ⟨#[], #[.int .i64 0, .int .i64 0, .int .i64 0, .slice none 0 0], []⟩ 8 (by kernel_rfl) (by kernel_rfl) (by kernel_rfl) (by kernel_rfl)) ?_
  intro W base args ds gs before hval0 hW hcnd hsz0 _
  have hval : ∀ (j : Nat) t v, Try.f12.params[j]? = some t → args[j]? = some v → Value.okWide Try.prog W .any base t v := hval0
  have hsz : (DataW.weightsEach Try.prog (Try.f12.params.toList ++ Rows.znsLimitsSpec.plain.varTypes Try.prog) (ds ++ gs)).all (· ≤ reachBytes) = true := hsz0
  have hW' := hW
  obtain ⟨p, q, hA0, hV, rfl, hfz, hnd⟩ := hW
  have hA : DataW.TrodAll enc Try.prog W 0 (fun _ => true) true Try.f12.params.toList args.toList ds p := hA0
  rw [Try.params12] at hA hval hsz
  obtain ⟨v0, v1, v2, v3, d0, d1, d2, d3, p0, p1, p2, p3, rfl, rfl, rfl, h0, h1, h2, h3⟩ := trodAll_four hA
  obtain ⟨rfl, rfl⟩ := trodVars_none hV
  have s3 := Small.of_args hsz (j := 3) (t := 27) (d := d3) rfl rfl
  obtain ⟨m0, rfl, rfl, rfl, wm0⟩ := open_int Try.underlying3 (hval 0 3 v0 rfl rfl) h0
  have bm0 := bounds_i64 wm0
  obtain ⟨m1, rfl, rfl, rfl, wm1⟩ := open_int Try.underlying3 (hval 1 3 v1 rfl rfl) h1
  have bm1 := bounds_i64 wm1
  obtain ⟨m2, rfl, rfl, rfl, wm2⟩ := open_int Try.underlying3 (hval 2 3 v2 rfl rfl) h2
  have bm2 := bounds_i64 wm2
  have k3 := h3
  obtain ⟨l3, il3, bl3⟩ := open_LA_int (hval 3 27 v3 rfl rfl) h3 s3
  have hlt3 : ∀ x ∈ p3, x.block < W.heap.size := fun x hx => by simpa using hW'.lt x (by simp [hx])
  clear hA0 hval0
  simp only [List.append_nil] at hW'
  refine (znsLimits_any m0 m1 m2 l3 _ W il3).mono fun e W' ⟨he, hw⟩ => ?_
  subst he
  exact ⟨_, rfl, post_of_below (pa := _) (pv := []) hW' (fun _ _ _ => trodAll_mk1 (shut_bool Try.underlying4 true))
    (fun sp hsp => trodAll_mk4 (shut_int Try.underlying3 wm0) (shut_int Try.underlying3 wm1) (shut_int Try.underlying3 wm2) (args_stay Try.laidOut (by kernel_rfl) (of_decide_eq_true (by kernel_rfl)) k3 hw hlt3 (fun x hx => hsp x (by simp [hx])))) (fun _ _ => rfl) (by simp)
    hw (ok_one (by kernel_rfl) rfl (okWide_bool_mk Try.underlying4 true))⟩

theorem znsLimits_holds : Rows.ZnsLimitsSaid :=
  OpenClaim.holds_of_wide 12 Try.f12 rfl rfl rfl rfl rfl rfl rfl ⟨rfl, rfl, rfl, rfl, rfl⟩ rfl rfl rfl rfl rfl (by kernel_rfl) Try.func12 (by kernel_rfl)
    (of_decide_eq_true (by kernel_rfl)) (by unfold Func.isWrapper; rw [if_neg (by decide +kernel)]; exact ⟨rfl, rfl⟩)
    (fun os started H enc _ => znsLimits_lifted os started H enc)
end Go.Proofs.Ytcjmcfjjbicimaa
