/- NetDoes returns true for every input; the arguments read as they did. No condition. -/
import Derived.Test.YtbjgemipmlimoaaRows
import Derived.Test.YtbjgemipmlimoaaPost
import Derived.Test.YtbjgemipmlimoaaLib
import Derived.Test.YtbjgemipmlimoaaAct13
import Derived.Test.YtbjgemipmlimoaaRep
import Derived.Test.YtbjgemipmlimoaaNetDoes
import Derived.ProofKit
import Derived.SizedLaws
namespace Go.Proofs.Ytbjgemipmlimoaa
open Go.ChangeShapes Go.WideShapes Go.ChangeAt Go.RowKit

set_option maxRecDepth 100000 in
theorem netDoes_lifted (os : Os) (started : os.Started) (H : Type) (enc : TypeId × Value → H) :
    ReturnsInHanded {} Try.checked os 13 .any (Rows.netDoesSpec.pre6 enc Try.prog Try.f13 Rows.netDoesRow.domain false) (Rows.netDoesSpec.post enc Try.prog Try.f13 false true false false) := by
  refine returnsInHanded_of_change_sized (C := Try.checked) Try.own started (by kernel_rfl) Try.func13
    (ChangeSpec.witness6 (enc := enc) (C := Try.checked) false ⟨#[], #[.int .i64 0, .slice none 0 0, .slice none 0 0], []⟩ 8 (by kernel_rfl) (by kernel_rfl) (by kernel_rfl) (by kernel_rfl)) ?_
  intro W base args ds gs before hval0 hW hcnd hsz0 _
  have hval : ∀ (j : Nat) t v, Try.f13.params[j]? = some t → args[j]? = some v → Value.okWide Try.prog W .any base t v := hval0
  have hsz : (DataW.weightsEach Try.prog (Try.f13.params.toList ++ Rows.netDoesSpec.plain.varTypes Try.prog) (ds ++ gs)).all (· ≤ reachBytes) = true := hsz0
  have hW' := hW
  obtain ⟨p, q, hA0, hV, rfl, hfz, hnd⟩ := hW
  have hA : DataW.TrodAll enc Try.prog W 0 (fun _ => true) true Try.f13.params.toList args.toList ds p := hA0
  rw [Try.params13] at hA hval hsz
  obtain ⟨v0, v1, v2, d0, d1, d2, p0, p1, p2, rfl, rfl, rfl, h0, h1, h2⟩ := trodAll_three hA
  obtain ⟨rfl, rfl⟩ := trodVars_none hV
  have s1 := Small.of_args hsz (j := 1) (t := 68) (d := d1) rfl rfl
  have s2 := Small.of_args hsz (j := 2) (t := 24) (d := d2) rfl rfl
  obtain ⟨m0, rfl, rfl, rfl, wm0⟩ := open_int Try.underlying3 (hval 0 3 v0 rfl rfl) h0
  have bm0 := bounds_i64 wm0
  have k1 := h1
  obtain ⟨l1, il1, bl1⟩ := open_LA_an (hval 1 68 v1 rfl rfl) h1 s1
  have k2 := h2
  obtain ⟨l2, il2⟩ := open_bytes_arg (hval 2 24 v2 rfl rfl) h2 s2
  have hlt1 : ∀ x ∈ p1, x.block < W.heap.size := fun x hx => by simpa using hW'.lt x (by simp [hx])
  have hlt2 : ∀ x ∈ p2, x.block < W.heap.size := fun x hx => by simpa using hW'.lt x (by simp [hx])
  clear hA0 hval0
  simp only [List.append_nil] at hW'
  refine (netDoes_any v1 v2 m0 l1 l2 W il1 il2).mono fun e W' ⟨he, hw⟩ => ?_
  subst he
  exact ⟨_, rfl, post_of_below (pa := _) (pv := []) hW' (fun _ _ _ => trodAll_mk1 (shut_bool Try.underlying4 true))
    (fun sp hsp => trodAll_mk3 (shut_int Try.underlying3 wm0) (args_stay Try.laidOut (by kernel_rfl) (of_decide_eq_true (by kernel_rfl)) k1 hw hlt1 (fun x hx => hsp x (by simp [hx]))) (args_stay Try.laidOut (by kernel_rfl) (of_decide_eq_true (by kernel_rfl)) k2 hw hlt2 (fun x hx => hsp x (by simp [hx])))) (fun _ _ => rfl) (by simp)
    hw (ok_one (by kernel_rfl) rfl (okWide_bool_mk Try.underlying4 true))⟩

theorem netDoes_holds : Rows.NetDoesSaid :=
  OpenClaim.holds_of_wide 13 Try.f13 rfl rfl rfl rfl rfl rfl rfl ⟨rfl, rfl, rfl, rfl, rfl⟩ rfl rfl rfl rfl rfl (by kernel_rfl) Try.func13 (by kernel_rfl)
    (of_decide_eq_true (by kernel_rfl)) (by unfold Func.isWrapper; rw [if_neg (by decide +kernel)]; exact ⟨rfl, rfl⟩)
    (fun os started H enc _ => netDoes_lifted os started H enc)
end Go.Proofs.Ytbjgemipmlimoaa
