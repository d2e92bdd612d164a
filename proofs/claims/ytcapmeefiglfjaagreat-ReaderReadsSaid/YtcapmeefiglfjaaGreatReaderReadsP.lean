/- ReaderReads returns true for every input;the arguments read as they did. No condition. -/
import Derived.Test.YtcapmeefiglfjaaGreatPost
import Derived.Test.YtcapmeefiglfjaaGreatLawReads24
set_option maxRecDepth 100000
namespace Go.Proofs.YtcapmeefiglfjaaGreat
open Go.ChangeShapes Go.WideShapes Go.ChangeAt Go.RowKit
theorem kX (os:Os) (started:os.Started) (H:Type) (enc:TypeId × Value→H) :
 ReturnsInHanded {} Tryz.checked os 3 .any (Rows.readerReadsSpec.pre6 enc Tryz.prog Tryz.f3 Rows.readerReadsRow.domain false) (Rows.readerReadsSpec.post enc Tryz.prog Tryz.f3 false true false false):=by
 refine returnsInHanded_of_change_sized (C:=Tryz.checked) Tryz.own started (by kernel_rfl) Tryz.func3
  (ChangeSpec.witness6 (enc:=enc) (C:=Tryz.checked) false ⟨#[],#[.int .i64 0,.slice none 0 0],[]⟩ 8 (by kernel_rfl) (by kernel_rfl) (by kernel_rfl) (by kernel_rfl)) ?_
 intro W base args ds gs before hval0 hW hcnd hsz0 _;have hval:∀ (j:Nat) t v,Tryz.f3.params[j]?=some t→args[j]?=some v→Value.okWide Tryz.prog W .any base t v:=hval0;have hsz:(DataW.weightsEach Tryz.prog (Tryz.f3.params.toList++Rows.readerReadsSpec.plain.varTypes Tryz.prog) (ds++gs)).all (·≤reachBytes)=true:=hsz0;have hW':=hW;obtain ⟨p,q,hA0,hV,rfl,hfz,hnd⟩:=hW;have hA:DataW.TrodAll enc Tryz.prog W 0 (fun _=>true) true Tryz.f3.params.toList args.toList ds p:=hA0
 rw [Tryz.params3] at hA hval hsz;obtain ⟨v0,v1,d0,d1,p0,p1,rfl,rfl,rfl,h0,h1⟩:=trodAll_two hA;obtain ⟨rfl,rfl⟩:=trodVars_none hV;have s1:=Small.of_args hsz (j:=1) (t:=22) (d:=d1) rfl rfl;obtain ⟨m0,rfl,rfl,rfl,wm0⟩:=open_int Tryz.underlying3 (hval 0 3 v0 rfl rfl) h0;have bm0:=bounds_i64 wm0;have k1:=h1;obtain ⟨l1,il1,bl1⟩:=zaO (hval 1 22 v1 rfl rfl) h1 s1;have hlt1:∀ x∈p1,x.block<W.heap.size:=fun x hx=>by simpa using hW'.lt x (by simp [hx])
 clear hA0 hval0;simp only [ziz] at hW';refine (pF m0 l1 v1 _ W il1).mono fun e W' ⟨he,hw⟩=>?_
 subst he;exact ⟨_,rfl,sC (pa:=_) (pv:=[]) hW' (fun _ _ _=>trodAll_mk1 (shut_bool Tryz.underlying4 true))
  (fun sp hsp=>trodAll_mk2 (shut_int Tryz.underlying3 wm0) (zdJ Tryz.laidOut (by kernel_rfl) (zjJ (by kernel_rfl)) k1 hw hlt1 (fun x hx=>hsp x (by simp [hx])))) (fun _ _=>rfl) (by simp)
  hw (ok_one (by kernel_rfl) rfl (okWide_bool_mk Tryz.underlying4 true))⟩
theorem readerReads_holds:Rows.ReaderReadsSaid:=
 OpenClaim.holds_of_wide 3 Tryz.f3 rfl rfl rfl rfl rfl rfl rfl ⟨rfl,rfl,rfl,rfl,rfl⟩ rfl rfl rfl rfl rfl (by kernel_rfl) Tryz.func3 (by kernel_rfl)
  (zjJ (by kernel_rfl)) (by unfold Func.isWrapper;rw [zig (by decide +kernel)];exact ⟨rfl,rfl⟩)
  (fun os started H enc _=>kX os started H enc)
end Go.Proofs.YtcapmeefiglfjaaGreat
