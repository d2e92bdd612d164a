/- SegTurned returns true for every input of bulk at most 1048576; the arguments read as they did. -/
import Derived.Test.YtpacjjaekmipfaaRows
import Derived.Test.YtpacjjaekmipfaaPost
import Derived.Test.YtpacjjaekmipfaaLib
import Derived.Test.YtpacjjaekmipfaaSegTurned
import Derived.Test.YtpacjjaekmipfaaBulk
import Derived.ProofKit
import Derived.JoinedCond
import Derived.Deep.CondSized
import Derived.SizedLaws
namespace Go.Proofs.Ytpacjjaekmipfaa
open Go.ChangeShapes Go.WideShapes Go.ChangeAt Go.RowKit

set_option maxRecDepth 100000 in
theorem segTurned_lifted (os : Os) (started : os.Started) (H : Type) (enc : TypeId × Value → H) (F : Stop.Interp) :
    ReturnsInHanded {} Try.checked os 6 .any ((Rows.OpenSpec.upto Rows.segTurnedSpec).pre6 enc Try.prog Try.f6 Rows.segTurnedUptoRow.domain false) (((Rows.OpenSpec.upto Rows.segTurnedSpec).at F).post enc Try.prog Try.f6 false true false false) := by
  refine returnsInHanded_of_cond_sized (C := Try.checked) (s := Rows.OpenSpec.upto Rows.segTurnedSpec) (k := Rows.uptoSmall) rfl Try.own started (by kernel_rfl) Try.func6
    (OpenSpec.witness (enc := enc) (C := Try.checked) (s := Rows.OpenSpec.upto Rows.segTurnedSpec) (k := Rows.uptoSmall) rfl false ⟨#[], #[.agg #[.int .i64 0, .int .i64 0, .int .i64 0], .slice none 0 0, .int .i64 0, .int .i64 0, .int .u8 0], []⟩ 8 (by kernel_rfl) (by kernel_rfl) (by kernel_rfl)
      (x := ([.agg [.lit (.int .i64 0), .lit (.int .i64 0), .lit (.int .i64 0)], .nil, .lit (.int .i64 0), .lit (.int .i64 0), .lit (.int .u8 0)], [], [])) (by kernel_rfl) rfl (by kernel_rfl)) ?_
  intro W base args ds gs before hval0 hW0 hcnd bk hsz0 _
  have hW : DataW.Whole enc Try.prog Try.f6.params.toList Rows.segTurnedSpec.vars false W args.toList ds gs before := hW0
  have hval : ∀ (j : Nat) t v, Try.f6.params[j]? = some t → args[j]? = some v → Value.okWide Try.prog W .any base t v := hval0
  have hsz : (DataW.weightsEach Try.prog (Try.f6.params.toList ++ Rows.segTurnedSpec.plain.varTypes Try.prog) (ds ++ gs)).all (· ≤ reachBytes) = true := hsz0
  have hW' := hW
  obtain ⟨p, q, hA0, hV, rfl, hfz, hnd⟩ := hW
  have hA : DataW.TrodAll enc Try.prog W 0 (fun _ => true) true Try.f6.params.toList args.toList ds p := hA0
  rw [Try.params6] at hA hval hsz
  obtain ⟨v0, v1, v2, v3, v4, d0, d1, d2, d3, d4, p0, p1, p2, p3, p4, rfl, rfl, rfl, h0, h1, h2, h3, h4⟩ := trodAll_five hA
  obtain ⟨rfl, rfl⟩ := trodVars_none hV
  have s0 := Small.of_args hsz (j := 0) (t := 23) (d := d0) rfl rfl
  have s1 := Small.of_args hsz (j := 1) (t := 24) (d := d1) rfl rfl
  have k0 := h0
  obtain ⟨z0, rfl, iz0⟩ := open_hd_arg (hval 0 23 v0 rfl rfl) h0 s0
  have k1 := h1
  obtain ⟨l1, il1, bl1⟩ := open_LA_rc (hval 1 24 v1 rfl rfl) h1 s1
  obtain ⟨m2, rfl, rfl, rfl, wm2⟩ := open_int Try.underlying3 (hval 2 3 v2 rfl rfl) h2
  have bm2 := bounds_i64 wm2
  obtain ⟨m3, rfl, rfl, rfl, wm3⟩ := open_int Try.underlying3 (hval 3 3 v3 rfl rfl) h3
  have bm3 := bounds_i64 wm3
  obtain ⟨m4, rfl, rfl, rfl, wm4⟩ := open_int Try.underlying5 (hval 4 5 v4 rfl rfl) h4
  obtain ⟨y4, rfl⟩ : ∃ y4 : UInt8, m4 = (y4.toNat : Int) := ⟨UInt8.ofNat m4.toNat, by have := bounds_u8 wm4; rw [UInt8.toNat_ofNat']; omega⟩
  have hlt0 : ∀ x ∈ p0, x.block < W.heap.size := fun x hx => by simpa using hW'.lt x (by simp [hx])
  have hlt1 : ∀ x ∈ p1, x.block < W.heap.size := fun x hx => by simpa using hW'.lt x (by simp [hx])
  clear hA0 hval0
  simp only [List.append_nil] at hW' bk
  refine (segTurned_any z0 _ l1 m2 m3 y4 _ W iz0 il1 (Nat.le_trans (bulk_list il1 Try.underlying24 k1) (bulk_part (by simp) bk))).mono fun e W' ⟨he, hw⟩ => ?_
  subst he
  show ∃ v, _ = _ ∧ Rows.segTurnedSpec.post enc Try.prog Try.f6 false true false false W _ v W'
  exact ⟨_, rfl, post_of_below (pa := _) (pv := []) hW' (fun _ _ _ => trodAll_mk1 (shut_bool Try.underlying4 true))
    (fun sp hsp => trodAll_mk5 (args_stay Try.laidOut (by kernel_rfl) (of_decide_eq_true (by kernel_rfl)) k0 hw hlt0 (fun x hx => hsp x (by simp [hx]))) (args_stay Try.laidOut (by kernel_rfl) (of_decide_eq_true (by kernel_rfl)) k1 hw hlt1 (fun x hx => hsp x (by simp [hx]))) (shut_int Try.underlying3 wm2) (shut_int Try.underlying3 wm3) (shut_int Try.underlying5 wm4)) (fun _ _ => rfl) (by simp)
    hw (ok_one (by kernel_rfl) rfl (okWide_bool_mk Try.underlying4 true))⟩

theorem segTurned_holds : Rows.SegTurnedUptoSaid :=
  OpenClaim.holds_of_cond 6 Try.f6 rfl rfl rfl rfl rfl rfl rfl ⟨rfl, rfl, rfl, rfl, rfl⟩ rfl rfl rfl rfl rfl (by kernel_rfl) Try.func6 (by kernel_rfl)
    (of_decide_eq_true (by kernel_rfl)) (by unfold Func.isWrapper; rw [if_neg (by decide +kernel)]; exact ⟨rfl, rfl⟩)
    (fun os started H enc _ F => segTurned_lifted os started H enc F)
end Go.Proofs.Ytpacjjaekmipfaa
