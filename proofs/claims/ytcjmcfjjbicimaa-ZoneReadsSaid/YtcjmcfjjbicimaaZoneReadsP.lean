/- ZoneReads returns true for every number and every list of texts; the arguments read as they did. No condition. -/
import Derived.Test.YtcjmcfjjbicimaaRows
import Derived.Test.YtcjmcfjjbicimaaPost
import Derived.Test.YtcjmcfjjbicimaaOpen
import Derived.Test.YtcjmcfjjbicimaaZoneReads
import Derived.ProofKit
import Derived.SizedLaws
namespace Go.Proofs.Ytcjmcfjjbicimaa
open Go.ChangeShapes Go.WideShapes Go.ChangeAt Go.RowKit

theorem Try.c24 : Try.prog.cellsOf 24 = 1 := by kernel_rfl
theorem Try.c5 : Try.prog.cellsOf 5 = 1 := by kernel_rfl
theorem Try.by5 : Try.prog.bytesOf 5 = 1 := by kernel_rfl
theorem Try.by24 : Try.prog.bytesOf 24 = 24 := by kernel_rfl

set_option maxRecDepth 100000 in
theorem zoneReads_lifted (os : Os) (started : os.Started) (H : Type) (enc : TypeId × Value → H) :
    ReturnsInHanded {} Try.checked os 3 .any (Rows.zoneReadsSpec.pre6 enc Try.prog Try.f3 Rows.zoneReadsRow.domain false) (Rows.zoneReadsSpec.post enc Try.prog Try.f3 false true false false) := by
  refine returnsInHanded_of_change_sized (C := Try.checked) Try.own started (by kernel_rfl) Try.func3
    (ChangeSpec.witness6 (enc := enc) (C := Try.checked) false ⟨#[], #[.int .i64 0, .slice none 0 0], []⟩ 8 (by kernel_rfl) (by kernel_rfl) (by kernel_rfl) (by kernel_rfl)) ?_
  intro W base args ds gs before hval0 hW hcnd hsz0 _
  have hval : ∀ (j : Nat) t v, Try.f3.params[j]? = some t → args[j]? = some v → Value.okWide Try.prog W .any base t v := hval0
  have hsz : (DataW.weightsEach Try.prog (Try.f3.params.toList ++ Rows.zoneReadsSpec.plain.varTypes Try.prog) (ds ++ gs)).all (· ≤ reachBytes) = true := hsz0
  have hW' := hW
  obtain ⟨p, q, hA0, hV, rfl, hfz, hnd⟩ := hW
  have hA : DataW.TrodAll enc Try.prog W 0 (fun _ => true) true Try.f3.params.toList args.toList ds p := hA0
  rw [Try.params3] at hA hval hsz
  obtain ⟨v0, v1, d0, d1, p0, p1, rfl, rfl, rfl, h0, h1⟩ := trodAll_two hA
  obtain ⟨rfl, rfl⟩ := trodVars_none hV
  have s1 := Small.of_args hsz (j := 1) (t := 22) (d := d1) rfl rfl
  obtain ⟨m, rfl, rfl, rfl, wm⟩ := open_int Try.underlying3 (hval 0 3 v0 rfl rfl) h0
  obtain ⟨A1, n1, c1, rfl⟩ := okWide_slice Try.underlying22 (hval 1 22 v1 rfl rfl)
  have h1k := h1
  obtain ⟨fuel, hf⟩ := h1
  obtain ⟨SA, c, vs, ls, hcs, hr, hvl, hel, hby, _, _⟩ := open_cells (IsB W (· < W.heap.size)) Try.underlying22 Try.c24 hf s1 (fun n cs' y hy hs => open_bytes Try.underlying24 Try.underlying5 Try.c5 Try.by5 hy hs)
  have hv : Value.slice A1 n1 c1 = .slice SA ls.length c := by simpa [Value.cells] using hcs
  rw [hv] at h1k
  clear hA0 hval0 hf
  have hlt : ∀ x ∈ p1, x.block < W.heap.size := fun x hx => by simpa using hW'.lt x (by simp [hx])
  simp only [List.append_nil] at hW'
  rw [Try.by24] at hby
  rw [hv] at hW' ⊢
  refine (zoneReads_any m ls SA c vs W ⟨hr, hvl, hel⟩ (by omega)).mono fun e W' ⟨he, hw⟩ => ?_
  subst he
  exact ⟨_, rfl, post_of_below (pa := p1) (pv := []) hW' (fun _ _ _ => trodAll_mk1 (shut_bool Try.underlying4 true))
    (fun sp hsp => trodAll_mk2 (shut_int Try.underlying3 wm) (args_stay Try.laidOut (by kernel_rfl) (of_decide_eq_true (by kernel_rfl)) h1k hw hlt (fun x hx => hsp x (by simpa using hx)))) (fun _ _ => rfl) (by simp)
    hw (ok_one (by kernel_rfl) rfl (okWide_bool_mk Try.underlying4 true))⟩

theorem zoneReads_holds : Rows.ZoneReadsSaid :=
  OpenClaim.holds_of_wide 3 Try.f3 rfl rfl rfl rfl rfl rfl rfl ⟨rfl, rfl, rfl, rfl, rfl⟩ rfl rfl rfl rfl rfl (by kernel_rfl) Try.func3 (by kernel_rfl)
    (of_decide_eq_true (by kernel_rfl)) (by unfold Func.isWrapper; rw [if_neg (by decide +kernel)]; exact ⟨rfl, rfl⟩)
    (fun os started H enc _ => zoneReads_lifted os started H enc)
end Go.Proofs.Ytcjmcfjjbicimaa
