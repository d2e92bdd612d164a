/- ZoneAppends returns true for every input; the arguments read as they did. No condition. -/
import Derived.Test.YtcjmcfjjbicimaaRows
import Derived.Test.YtcjmcfjjbicimaaPost
import Derived.Test.YtcjmcfjjbicimaaOpen
import Derived.Test.YtcjmcfjjbicimaaZoneAppends
import Derived.Test.YtcjmcfjjbicimaaOpenZ
import Derived.ProofKit
import Derived.SizedLaws
namespace Go.Proofs.Ytcjmcfjjbicimaa
open Go.ChangeShapes Go.WideShapes Go.ChangeAt Go.RowKit

set_option maxRecDepth 100000 in
theorem zoneAppends_lifted (os : Os) (started : os.Started) (H : Type) (enc : TypeId × Value → H) :
    ReturnsInHanded {} Try.checked os 4 .any (Rows.zoneAppendsSpec.pre6 enc Try.prog Try.f4 Rows.zoneAppendsRow.domain false) (Rows.zoneAppendsSpec.post enc Try.prog Try.f4 false true false false) := by
  refine returnsInHanded_of_change_sized (C := Try.checked) Try.own started (by kernel_rfl) Try.func4
    (ChangeSpec.witness6 (enc := enc) (C := Try.checked) false ⟨#[], #[.agg #[.int .i64 0, .int .i64 0, .slice none 0 0], .int .i64 0, .slice none 0 0, .int .i64 0], []⟩ 8 (by kernel_rfl) (by kernel_rfl) (by kernel_rfl) (by kernel_rfl)) ?_
  intro W base args ds gs before hval0 hW hcnd hsz0 _
  have hval : ∀ (j : Nat) t v, Try.f4.params[j]? = some t → args[j]? = some v → Value.okWide Try.prog W .any base t v := hval0
  have hsz : (DataW.weightsEach Try.prog (Try.f4.params.toList ++ Rows.zoneAppendsSpec.plain.varTypes Try.prog) (ds ++ gs)).all (· ≤ reachBytes) = true := hsz0
  have hW' := hW
  obtain ⟨p, q, hA0, hV, rfl, hfz, hnd⟩ := hW
  have hA : DataW.TrodAll enc Try.prog W 0 (fun _ => true) true Try.f4.params.toList args.toList ds p := hA0
  rw [Try.params4] at hA hval hsz
  obtain ⟨v0, v1, v2, v3, d0, d1, d2, d3, p0, p1, p2, p3, rfl, rfl, rfl, h0, h1, h2, h3⟩ := trodAll_four hA
  obtain ⟨rfl, rfl⟩ := trodVars_none hV
  have s0 := Small.of_args hsz (j := 0) (t := 26) (d := d0) rfl rfl
  have s2 := Small.of_args hsz (j := 2) (t := 24) (d := d2) rfl rfl
  have k0 := h0
  obtain ⟨z0, iz0⟩ := open_zone_arg (hval 0 26 v0 rfl rfl) h0 s0
  obtain ⟨m1, rfl, rfl, rfl, wm1⟩ := open_int Try.underlying3 (hval 1 3 v1 rfl rfl) h1
  have bm1 := bounds_i64 wm1
  have k2 := h2
  obtain ⟨l2, il2⟩ := open_bytes_arg (hval 2 24 v2 rfl rfl) h2 s2
  obtain ⟨m3, rfl, rfl, rfl, wm3⟩ := open_int Try.underlying3 (hval 3 3 v3 rfl rfl) h3
  have bm3 := bounds_i64 wm3
  have hlt0 : ∀ x ∈ p0, x.block < W.heap.size := fun x hx => by simpa using hW'.lt x (by simp [hx])
  have hlt2 : ∀ x ∈ p2, x.block < W.heap.size := fun x hx => by simpa using hW'.lt x (by simp [hx])
  clear hA0 hval0
  simp only [List.append_nil] at hW'
  refine (zoneAppends_any v0 v2 z0 m1 m3 l2 W iz0 il2).mono fun e W' ⟨he, hw⟩ => ?_
  subst he
  exact ⟨_, rfl, post_of_below (pa := _) (pv := []) hW' (fun _ _ _ => trodAll_mk1 (shut_bool Try.underlying4 true))
    (fun sp hsp => trodAll_mk4 (args_stay Try.laidOut (by kernel_rfl) (of_decide_eq_true (by kernel_rfl)) k0 hw hlt0 (fun x hx => hsp x (by simp [hx]))) (shut_int Try.underlying3 wm1) (args_stay Try.laidOut (by kernel_rfl) (of_decide_eq_true (by kernel_rfl)) k2 hw hlt2 (fun x hx => hsp x (by simp [hx]))) (shut_int Try.underlying3 wm3)) (fun _ _ => rfl) (by simp)
    hw (ok_one (by kernel_rfl) rfl (okWide_bool_mk Try.underlying4 true))⟩

theorem zoneAppends_holds : Rows.ZoneAppendsSaid :=
  OpenClaim.holds_of_wide 4 Try.f4 rfl rfl rfl rfl rfl rfl rfl ⟨rfl, rfl, rfl, rfl, rfl⟩ rfl rfl rfl rfl rfl (by kernel_rfl) Try.func4 (by kernel_rfl)
    (of_decide_eq_true (by kernel_rfl)) (by unfold Func.isWrapper; rw [if_neg (by decide +kernel)]; exact ⟨rfl, rfl⟩)
    (fun os started H enc _ => zoneAppends_lifted os started H enc)
end Go.Proofs.Ytcjmcfjjbicimaa
