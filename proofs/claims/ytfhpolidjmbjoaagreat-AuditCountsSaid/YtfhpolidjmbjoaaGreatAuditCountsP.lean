/- AuditCounts returns true for every input;the arguments read as they did. No condition. -/
import Derived.Test.YtfhpolidjmbjoaaGreatPost
import Derived.Test.YtfhpolidjmbjoaaGreatLive25
import Derived.Test.YtfhpolidjmbjoaaGreatLawCounts
set_option maxRecDepth 100000
namespace Go.Proofs.YtfhpolidjmbjoaaGreat
open Go.ChangeShapes Go.WideShapes Go.ChangeAt Go.RowKit
theorem auditCounts_lifted (os:Os) (started:os.Started) (H:Type) (enc:TypeId × Value→H) :
 ReturnsInHanded {} Tryz.checked os 3 .any (Rows.auditCountsSpec.pre6 enc Tryz.prog Tryz.f3 Rows.auditCountsRow.domain false) (Rows.auditCountsSpec.post enc Tryz.prog Tryz.f3 false true false false):=by
 refine returnsInHanded_of_change_sized (C:=Tryz.checked) Tryz.own started (by kernel_rfl) Tryz.func3
  (ChangeSpec.witness6 (enc:=enc) (C:=Tryz.checked) false ⟨#[],#[.slice none 0 0,.slice none 0 0],[]⟩ 8 (by kernel_rfl) (by kernel_rfl) (by kernel_rfl) (by kernel_rfl)) ?_
 intro W base args ds gs before hval0 hW hcnd hsz0 _;have hval:∀ (j:Nat) t v,Tryz.f3.params[j]?=some t→args[j]?=some v→Value.okWide Tryz.prog W .any base t v:=hval0;have hsz:(DataW.weightsEach Tryz.prog (Tryz.f3.params.toList++Rows.auditCountsSpec.plain.varTypes Tryz.prog) (ds++gs)).all (·≤reachBytes)=true:=hsz0;have hW':=hW;obtain ⟨p,q,hA0,hV,rfl,hfz,hnd⟩:=hW;have hA:DataW.TrodAll enc Tryz.prog W 0 (fun _=>true) true Tryz.f3.params.toList args.toList ds p:=hA0
 rw [Tryz.params3] at hA hval hsz;obtain ⟨v0,v1,d0,d1,p0,p1,rfl,rfl,rfl,h0,h1⟩:=trodAll_two hA;obtain ⟨rfl,rfl⟩:=trodVars_none hV;have s0:=Small.of_args hsz (j:=0) (t:=22) (d:=d0) rfl rfl;have s1:=Small.of_args hsz (j:=1) (t:=23) (d:=d1) rfl rfl;have k0:=h0;obtain ⟨l0,il0,bl0⟩:=open_LA_ft (hval 0 22 v0 rfl rfl) h0 s0;have k1:=h1;obtain ⟨l1,il1,bl1⟩:=open_LA_int (hval 1 23 v1 rfl rfl) h1 s1;have hlt0:∀ x∈p0,x.block<W.heap.size:=fun x hx=>by simpa using hW'.lt x (by simp [hx])
 have hlt1:∀ x∈p1,x.block<W.heap.size:=fun x hx=>by simpa using hW'.lt x (by simp [hx])
 clear hA0 hval0;simp only [List.append_nil] at hW';refine (auditCounts_all live25_any l0 v0 l1 v1 _ _ il0 il1 (fun _ hb=>hb)).mono fun e W' ⟨he,hw⟩=>?_
 subst he;exact ⟨_,rfl,post_of_below (pa:=_) (pv:=[]) hW' (fun _ _ _=>trodAll_mk1 (shut_bool Tryz.underlying4 true))
  (fun sp hsp=>trodAll_mk2 (args_stay Tryz.laidOut (by kernel_rfl) (of_decide_eq_true (by kernel_rfl)) k0 hw hlt0 (fun x hx=>hsp x (by simp [hx]))) (args_stay Tryz.laidOut (by kernel_rfl) (of_decide_eq_true (by kernel_rfl)) k1 hw hlt1 (fun x hx=>hsp x (by simp [hx])))) (fun _ _=>rfl) (by simp)
  hw (ok_one (by kernel_rfl) rfl (okWide_bool_mk Tryz.underlying4 true))⟩
theorem auditCounts_holds:Rows.AuditCountsSaid:=
 OpenClaim.holds_of_wide 3 Tryz.f3 rfl rfl rfl rfl rfl rfl rfl ⟨rfl,rfl,rfl,rfl,rfl⟩ rfl rfl rfl rfl rfl (by kernel_rfl) Tryz.func3 (by kernel_rfl)
  (of_decide_eq_true (by kernel_rfl)) (by unfold Func.isWrapper;rw [if_neg (by decide +kernel)];exact ⟨rfl,rfl⟩)
  (fun os started H enc _=>auditCounts_lifted os started H enc)
end Go.Proofs.YtfhpolidjmbjoaaGreat
