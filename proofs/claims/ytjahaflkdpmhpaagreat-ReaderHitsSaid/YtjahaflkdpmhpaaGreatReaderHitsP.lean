/- ReaderHits returns true for every input;the arguments read as they did. No condition. -/
import Derived.Test.YtjahaflkdpmhpaaGreatPost
import Derived.Test.YtjahaflkdpmhpaaGreatLawHits
set_option maxRecDepth 100000
namespace Go.Proofs.YtjahaflkdpmhpaaGreat
open Go.ChangeShapes Go.WideShapes Go.ChangeAt Go.RowKit
theorem readerHits_lifted (os:Os) (started:os.Started) (H:Type) (enc:TypeId × Value→H) :
 ReturnsInHanded {} Tryz.checked os 6 .any (Rows.readerHitsSpec.pre6 enc Tryz.prog Tryz.f6 Rows.readerHitsRow.domain false) (Rows.readerHitsSpec.post enc Tryz.prog Tryz.f6 false true false false):=by
 refine returnsInHanded_of_change_sized (C:=Tryz.checked) Tryz.own started (by kernel_rfl) Tryz.func6
  (ChangeSpec.witness6 (enc:=enc) (C:=Tryz.checked) false ⟨#[],#[.int .i64 0,.int .i64 0,.int .i64 0],[]⟩ 8 (by kernel_rfl) (by kernel_rfl) (by kernel_rfl) (by kernel_rfl)) ?_
 intro W base args ds gs before hval0 hW hcnd hsz0 _;have hval:∀ (j:Nat) t v,Tryz.f6.params[j]?=some t→args[j]?=some v→Value.okWide Tryz.prog W .any base t v:=hval0;have hsz:(DataW.weightsEach Tryz.prog (Tryz.f6.params.toList++Rows.readerHitsSpec.plain.varTypes Tryz.prog) (ds++gs)).all (·≤reachBytes)=true:=hsz0;have hW':=hW;obtain ⟨p,q,hA0,hV,rfl,hfz,hnd⟩:=hW;have hA:DataW.TrodAll enc Tryz.prog W 0 (fun _=>true) true Tryz.f6.params.toList args.toList ds p:=hA0
 rw [Tryz.params6] at hA hval hsz;obtain ⟨v0,v1,v2,d0,d1,d2,p0,p1,p2,rfl,rfl,rfl,h0,h1,h2⟩:=trodAll_three hA;obtain ⟨rfl,rfl⟩:=trodVars_none hV;obtain ⟨m0,rfl,rfl,rfl,wm0⟩:=open_int Tryz.underlying3 (hval 0 3 v0 rfl rfl) h0;have bm0:=bounds_i64 wm0;obtain ⟨m1,rfl,rfl,rfl,wm1⟩:=open_int Tryz.underlying3 (hval 1 3 v1 rfl rfl) h1;have bm1:=bounds_i64 wm1;obtain ⟨m2,rfl,rfl,rfl,wm2⟩:=open_int Tryz.underlying3 (hval 2 3 v2 rfl rfl) h2;have bm2:=bounds_i64 wm2;clear hA0 hval0;simp only [List.append_nil] at hW';refine (readerHits_all m0 m1 m2 W).mono fun e W' ⟨he,hw⟩=>?_
 subst he;exact ⟨_,rfl,post_of_below (pa:=_) (pv:=[]) hW' (fun _ _ _=>trodAll_mk1 (shut_bool Tryz.underlying4 true))
  (fun sp hsp=>trodAll_mk3 (shut_int Tryz.underlying3 wm0) (shut_int Tryz.underlying3 wm1) (shut_int Tryz.underlying3 wm2)) (fun _ _=>rfl) (by simp)
  hw (ok_one (by kernel_rfl) rfl (okWide_bool_mk Tryz.underlying4 true))⟩
theorem readerHits_holds:Rows.ReaderHitsSaid:=
 OpenClaim.holds_of_wide 6 Tryz.f6 rfl rfl rfl rfl rfl rfl rfl ⟨rfl,rfl,rfl,rfl,rfl⟩ rfl rfl rfl rfl rfl (by kernel_rfl) Tryz.func6 (by kernel_rfl)
  (of_decide_eq_true (by kernel_rfl)) (by unfold Func.isWrapper;rw [if_neg (by decide +kernel)];exact ⟨rfl,rfl⟩)
  (fun os started H enc _=>readerHits_lifted os started H enc)
end Go.Proofs.YtjahaflkdpmhpaaGreat
