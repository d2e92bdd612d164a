/- SegApart returns true for every input; the arguments read as they did. No condition. -/
import Derived.Test.YtpacjjaekmipfaaRows
import Derived.Test.YtpacjjaekmipfaaPost
import Derived.Test.YtpacjjaekmipfaaLib
import Derived.Test.YtpacjjaekmipfaaSegApart
import Derived.ProofKit
import Derived.SizedLaws
namespace Go.Proofs.Ytpacjjaekmipfaa
open Go.ChangeShapes Go.WideShapes Go.ChangeAt Go.RowKit

set_option maxRecDepth 100000 in
theorem segApart_lifted (os : Os) (started : os.Started) (H : Type) (enc : TypeId × Value → H) :
    ReturnsInHanded {} Try.checked os 8 .any (Rows.segApartSpec.pre6 enc Try.prog Try.f8 Rows.segApartRow.domain false) (Rows.segApartSpec.post enc Try.prog Try.f8 false true false false) := by
  refine returnsInHanded_of_change_sized (C := Try.checked) Try.own started (by kernel_rfl) Try.func8
    (ChangeSpec.witness6 (enc := enc) (C := Try.checked) false ⟨#[], #[.agg #[.int .i64 0, .int .i64 0, .int .i64 0], .agg #[.int .i64 0, .int .i64 0, .int .i64 0], .agg #[.int .i64 0, .int .i64 0, .int .i64 0, .int .i64 0, .int .i64 0, .int .i64 0, .slice none 0 0], .agg #[.int .i64 0, .int .i64 0, .int .i64 0, .int .i64 0, .int .i64 0, .int .i64 0, .slice none 0 0]], []⟩ 8 (by kernel_rfl) (by kernel_rfl) (by kernel_rfl) (by kernel_rfl)) ?_
  intro W base args ds gs before hval0 hW hcnd hsz0 _
  have hval : ∀ (j : Nat) t v, Try.f8.params[j]? = some t → args[j]? = some v → Value.okWide Try.prog W .any base t v := hval0
  have hsz : (DataW.weightsEach Try.prog (Try.f8.params.toList ++ Rows.segApartSpec.plain.varTypes Try.prog) (ds ++ gs)).all (· ≤ reachBytes) = true := hsz0
  have hW' := hW
  obtain ⟨p, q, hA0, hV, rfl, hfz, hnd⟩ := hW
  have hA : DataW.TrodAll enc Try.prog W 0 (fun _ => true) true Try.f8.params.toList args.toList ds p := hA0
  rw [Try.params8] at hA hval hsz
  obtain ⟨v0, v1, v2, v3, d0, d1, d2, d3, p0, p1, p2, p3, rfl, rfl, rfl, h0, h1, h2, h3⟩ := trodAll_four hA
  obtain ⟨rfl, rfl⟩ := trodVars_none hV
  have s0 := Small.of_args hsz (j := 0) (t := 23) (d := d0) rfl rfl
  have s1 := Small.of_args hsz (j := 1) (t := 23) (d := d1) rfl rfl
  have s2 := Small.of_args hsz (j := 2) (t := 34) (d := d2) rfl rfl
  have s3 := Small.of_args hsz (j := 3) (t := 34) (d := d3) rfl rfl
  have k0 := h0
  obtain ⟨z0, rfl, iz0⟩ := open_hd_arg (hval 0 23 v0 rfl rfl) h0 s0
  have k1 := h1
  obtain ⟨z1, rfl, iz1⟩ := open_hd_arg (hval 1 23 v1 rfl rfl) h1 s1
  have k2 := h2
  obtain ⟨z2, vd2, rfl, iz2, jz2⟩ := open_rc_arg (hval 2 34 v2 rfl rfl) h2 s2
  have k3 := h3
  obtain ⟨z3, vd3, rfl, iz3, jz3⟩ := open_rc_arg (hval 3 34 v3 rfl rfl) h3 s3
  have hlt0 : ∀ x ∈ p0, x.block < W.heap.size := fun x hx => by simpa using hW'.lt x (by simp [hx])
  have hlt1 : ∀ x ∈ p1, x.block < W.heap.size := fun x hx => by simpa using hW'.lt x (by simp [hx])
  have hlt2 : ∀ x ∈ p2, x.block < W.heap.size := fun x hx => by simpa using hW'.lt x (by simp [hx])
  have hlt3 : ∀ x ∈ p3, x.block < W.heap.size := fun x hx => by simpa using hW'.lt x (by simp [hx])
  clear hA0 hval0
  simp only [List.append_nil] at hW'
  refine (segApart_any z0 z1 z2 z3 vd2 vd3 _ _ W iz0 iz1 jz2 jz3 iz2 iz3).mono fun e W' ⟨he, hw⟩ => ?_
  subst he
  exact ⟨_, rfl, post_of_below (pa := _) (pv := []) hW' (fun _ _ _ => trodAll_mk1 (shut_bool Try.underlying4 true))
    (fun sp hsp => trodAll_mk4 (args_stay Try.laidOut (by kernel_rfl) (of_decide_eq_true (by kernel_rfl)) k0 hw hlt0 (fun x hx => hsp x (by simp [hx]))) (args_stay Try.laidOut (by kernel_rfl) (of_decide_eq_true (by kernel_rfl)) k1 hw hlt1 (fun x hx => hsp x (by simp [hx]))) (args_stay Try.laidOut (by kernel_rfl) (of_decide_eq_true (by kernel_rfl)) k2 hw hlt2 (fun x hx => hsp x (by simp [hx]))) (args_stay Try.laidOut (by kernel_rfl) (of_decide_eq_true (by kernel_rfl)) k3 hw hlt3 (fun x hx => hsp x (by simp [hx])))) (fun _ _ => rfl) (by simp)
    hw (ok_one (by kernel_rfl) rfl (okWide_bool_mk Try.underlying4 true))⟩

theorem segApart_holds : Rows.SegApartSaid :=
  OpenClaim.holds_of_wide 8 Try.f8 rfl rfl rfl rfl rfl rfl rfl ⟨rfl, rfl, rfl, rfl, rfl⟩ rfl rfl rfl rfl rfl (by kernel_rfl) Try.func8 (by kernel_rfl)
    (of_decide_eq_true (by kernel_rfl)) (by unfold Func.isWrapper; rw [if_neg (by decide +kernel)]; exact ⟨rfl, rfl⟩)
    (fun os started H enc _ => segApart_lifted os started H enc)
end Go.Proofs.Ytpacjjaekmipfaa
