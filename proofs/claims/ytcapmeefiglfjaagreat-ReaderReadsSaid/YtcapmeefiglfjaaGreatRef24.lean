/- A part of the proof. -/
import Derived.Test.YtcapmeefiglfjaaGreatRef11
import Derived.Test.YtcapmeefiglfjaaGreatRef16
set_option linter.unusedSimpArgs false
set_option maxHeartbeats 16000000
set_option maxRecDepth 100000
namespace Go.Proofs.YtcapmeefiglfjaaGreat
open Go.RowKit
structure fJ (i:Nat) (k:Ca) (t:Int):Prop where
 nodup:(k.l.map (·.lba)).Nodup
 ent:∀ y∈k.l,0≤y.lba∧y.lba≤9223372036854775807∧y.b.length=16
 most:(k.l.length:Int)≤k.most
 hit:0≤k.hit∧k.hit≤i
 miss:0≤k.miss∧k.miss≤i
 gone:0≤t∧t≤i
 len:k.l.length≤i
section
variable {i j:Nat} {k:Ca} {t:Int}
theorem fJ.start {most:Int} (h:0≤most):fJ 0 ⟨most,[],0,0⟩ 0:=⟨by simp,by simp,h,by simp,by simp,by simp,by simp⟩
theorem fJ.more (h:fJ i k t) (hij:i≤j):fJ j k t:=⟨h.nodup,h.ent,h.most,by have:=h.hit;omega,by have:=h.miss;omega,by have:=h.gone;omega,zit h.len hij⟩
theorem fJ.gap (h:fJ i k t):fJ (i+1) k (t+1):=⟨h.nodup,h.ent,h.most,by have:=h.hit;omega,by have:=h.miss;omega,by have:=h.gone;omega,Nat.le_succ_of_le h.len⟩
theorem zfa (L:List En) (b:Int):(bH L b).length≤L.length:=zj3 _ _
theorem fJ.blk (h:fJ i k t) (b v:Int) (B:List UInt8) (hb:0≤b∧b≤9223372036854775807) (hB:B.length=16):fJ (i+1) (blkC k b v B).1 t:=by
 have h1:=h.hit;have h2:=h.miss;have h3:=h.gone;have h4:=h.len;have h5:=h.most;have hnd:∀ x:Int,((bH k.l x).map (·.lba)).Nodup:=fun x=>zkc (List.Sublist.map _ (List.filter_sublist ..)) h.nodup
 have hno:∀ x:Int,∀ y∈bH k.l x,y.lba≠x:=fun x y hy=>by have:=(zji.1 hy).2;simpa using this
 unfold blkC;cases hg:nC k.l b v with
 | some y=>
   obtain ⟨g1,g2,g3⟩:=gI hg;have hd:(bH k.l b).length+1≤k.l.length:=by
    have:=(zdn h.nodup g1).length_eq;rw [g2] at this;simp at this;omega
   refine ⟨?_,fun z hz=>?_,?_,?_,?_,?_,?_⟩
   · simp only [zj2,zj0]
     refine ⟨fun h9=>?_,hnd b⟩
     obtain ⟨z,hz,e⟩:=zja.1 h9;exact hno b z hz (e.trans g2)
   · rcases zim.1 hz with e | e
     · rw [e];exact h.ent y g1
     · exact h.ent z (zji.1 e).1
   all_goals first | omega | (simp only [List.length_cons];omega)
 | none=>
   have hd:=zfa k.l b;have hput:iR k.most k.l ⟨b,v,B⟩=k.l∨iR k.most k.l ⟨b,v,B⟩=mV k.most (⟨b,v,B⟩::bH k.l b):=by
    unfold iR;split
    · exact .inl rfl
    · exact .inr rfl
   have hcut:∃ q:Nat,mV k.most (⟨b,v,B⟩::bH k.l b)=((⟨b,v,B⟩:En)::bH k.l b).take q∧((((⟨b,v,B⟩:En)::bH k.l b).take q).length:Int)≤k.most:=by
    unfold mV;split
    · exact ⟨_,List.dropLast_eq_take ..,by rw [zio];simp only [List.length_cons];omega⟩
    · exact ⟨_,(zip (zic _)).symm,by rw [zip (zic _)];omega⟩
   have hfull:(((⟨b,v,B⟩:En)::bH k.l b).map (·.lba)).Nodup:=by
    simp only [zj2,zj0];refine ⟨fun h9=>?_,hnd b⟩
    obtain ⟨z,hz,e⟩:=zja.1 h9;exact hno b z hz e
   simp only;rcases hput with e | e
   · rw [e];exact ⟨h.nodup,h.ent,h5,by simp only;omega,by simp only;omega,h3.imp id (by omega),by simp only;omega⟩
   · obtain ⟨q,e2,e3⟩:=hcut
     rw [e,e2];refine ⟨zkc (List.Sublist.map _ (List.take_sublist ..)) hfull,fun z hz=>?_,e3,by simp only;omega,by simp only;omega,by omega,?_⟩
     · rcases zim.1 (zjh hz) with e | e
       · rw [e];exact ⟨hb.1,hb.2,hB⟩
       · exact h.ent z (zji.1 e).1
     · simp only [zio,List.length_cons];omega
theorem fJ.drop (h:fJ i k t) (lba n:Int):fJ i ⟨k.most,eQ lba n k.l,k.hit,k.miss⟩ t:=by
 have hl:(eQ lba n k.l).length≤k.l.length:=zj3 _ _;have:=h.most;have:=h.len;exact ⟨zkc (List.Sublist.map _ (List.filter_sublist ..)) h.nodup,fun y hy=>h.ent y (zji.1 hy).1,by simp only;omega,h.hit,h.miss,h.gone,by simp only;omega⟩
end
theorem zbn {zs:List Zn} {m:List Ex} {s:Ca × Int × List UInt8} {b:Int} (h:(atE m b).2=false∨(atE m b).1.zone<0):oW zs m s b=(s.1,s.2.1+1,s.2.2++bZ 16):=by
 unfold atE at h;unfold oW;cases hs:see m b with
 | none=>rfl
 | some u=>rw [hs] at h;simp only [Bool.true_eq_false,false_or] at h;simp only;rw [zij h]
theorem zA {zs:List Zn} {m:List Ex} {s:Ca × Int × List UInt8} {b:Int} (h:(atE m b).2=true) (hz:¬(atE m b).1.zone<0):oW zs m s b=((blkC s.1 b (atE m b).1.ver (blockB zs m b)).1,s.2.1,s.2.2++(blkC s.1 b (atE m b).1.ver (blockB zs m b)).2):=by
 unfold atE at *;unfold oW;cases hs:see m b with
 | none=>rw [hs] at h;cases h
 | some u=>rw [hs] at hz;simp only at hz ⊢;rw [zig hz]
theorem zhj {m:List Ex} {b:Int} (hch:aC 0 m) (hv:∀ e∈m,e.ver≤9223372036854775807) (h:(atE m b).2=true):0≤(atE m b).1.ver∧(atE m b).1.ver≤9223372036854775807:=by
 unfold atE at *;cases hs:see m b with
 | none=>rw [hs] at h;cases h
 | some u=>
   unfold see at hs;obtain ⟨e,he,rfl⟩:=Option.map_eq_some_iff.1 hs;have hm:=zjV he;exact ⟨(aM hch e hm).1.2.1,hv e hm⟩
theorem oK.grew {X:Nat→Prop} {w w':World} {gk base:Nat} {k:Ca} {v v':Value} (h:oK (fun b=>X b∨some b=v.ownBlock) w gk k) (hg:xZ base w w' v v') (hn:some gk≠v.ownBlock):oK (fun b=>X b∨some b=v'.ownBlock) w' gk k:=
 h.turned hg.turned (fun b hb=>.inr hb) hn fun b hb=>by
  rcases hb with h9 | h9
  · exact .inl (.inl h9)
  · rcases hg.at_ with e | ⟨g,e,hle⟩
    · rw [e] at h9;exact .inl (.inr h9)
    · rw [e] at h9;injection h9 with h9;rw [h9];exact .inr hle
section
variable {X:Nat→Prop} {w:World} {gq gk:Nat} {k:Ca} {t:Int} {i0:Nat}
theorem zF (hq:Blk w gq 51 #[.pointer (some ⟨gk,0,none⟩),.int .i64 t]) (hc:oK X w gk k) (hXq:X gq) (hne:gq≠gk) (hX:∀ b,X b→b<w.heap.size) (hg:fJ i0 k t) (hi0:i0≤500000)
 (d:Zd) (A:Option Addr) (cA:Nat) (h:Ho) (v:Value) (lba n:Int) (K:Nat→Prop) (hd:IsL Rp.zone w K (.slice A d.z.length cA) d.z) (hv:aY w K v h) (hK:∀ b,K b→b≠gq∧b≠gk)
 (hok:okD d) (hch:aC 0 h.m) (hf:rB d.z h.m) (hver:∀ e∈h.m,e.ver≤9223372036854775807) :
 Calls Tryz.prog 12 #[.pointer (some ⟨gq,0,none⟩),.agg (zdC d A cA),v,.int .i64 lba,.int .i64 n] w fun r w'=>
  ∃ vb,r=.returned (.tuple #[vb,.int .i64 (dQ d.z h lba n).2])∧IsB w' (fun b=>w.heap.size≤b) vb (jU d.z h k t lba n).2.2∧Blk w' gq 51 #[.pointer (some ⟨gk,0,none⟩),.int .i64 (jU d.z h k t lba n).2.1]∧oK X w' gk (jU d.z h k t lba n).1∧fJ (i0+256) (jU d.z h k t lba n).1 (jU d.z h k t lba n).2.1∧aA w w' (fun b=>b=gq∨b=gk):=by
 obtain ⟨i1,hi1,hy0,hy1,hy2⟩:=ziH Tryz.info5;have hv0:=hv;obtain ⟨vo,vs,vb,vl,vm,rfl,h1,h2,h3,h4,h5⟩:=hv;obtain ⟨Ao,co,rfl,-⟩:=h1.form;obtain ⟨As,cs,rfl,-⟩:=h2.form;obtain ⟨Ab,cb,rfl,-⟩:=aK h3;obtain ⟨Al,cl,rfl,-⟩:=h4.form;obtain ⟨Am,cm,rfl,-⟩:=h5.form;have hre:=fun W hz hh=>zcL d A cA h (.agg (hoS h Ao co As cs Ab cb Al cl Am cm)) lba n K K W hz hh hok hch hf
 have E:=((((Kn.start w).give aB.list hd).give aB.ho hv0).give aB.list h5) |>.push 26 (zdC d A cA) |>.push 37 (hoS h Ao co As cs Ab cb Al cl Am cm)
 rw [zid] at E;clear h1 h2 h3 h4 h5 hd hv0;obtain ⟨rr,hrr⟩:∃ rr,jU d.z h k t lba n=rr:=⟨_,rfl⟩;rw [hrr];unfold jU at hrr;have hgq:=hq.lt;by_cases h0:(dQ d.z h lba n).2=0
 case neg=>
  rw [zig h0] at hrr;subst hrr;obtain ⟨er,her⟩:∃ er,dQ d.z h lba n=er:=⟨_,rfl⟩;rw [her] at hre h0 ⊢;obtain ⟨lr,e0⟩:=er;simp only at hre h0 ⊢;have hne0:(e0 != 0)=true:=by simpa using h0
  clear her;go_enter Tryz.func12,Tryz.ntmps12
  go_wp2_with (refine eG (E.at_ m0) rfl rfl rfl rfl ?_);refine (hre _ (E.get m2) (E.get m1)).mono ?_;rintro e w3 ⟨A3,c3,rfl,hv3,hb3⟩;replace E:=E.step hb3;have hq2:=hq.step E.below;have hc2:=hc.step E.below;have ht2:aA w w3 (fun b=>b=gq∨b=gk):=aA.of E.below
  clear hre;go_wp2_with fail;go_ret2;exact ⟨_,rfl,IsB.nil_ _ _,hq2,hc2,hg.more (by omega),ht2⟩
 case pos=>
  rw [zij h0] at hrr;have hsb:dF lba n 256:=by
   unfold dQ at h0;by_cases h1:dF lba n 256
   · exact h1
   · rw [zij h1] at h0;cases h0
  have hbl:aJ lba n:=⟨hsb.1,by have:=hsb.2.1;omega,by have:=hsb.2.2.1;omega,hsb.2.2.2⟩
  obtain ⟨N,rfl⟩:∃ N:Nat,n=N:=⟨n.toNat,by have:=hsb.2.1;omega⟩
  have hN:N≤256:=by have:=hsb.2.2.1;omega
  have hlb:0≤lba∧lba≤1099511627776-N:=⟨hsb.1,hsb.2.2.2⟩;rw [lJ hch hbl] at hrr;rw [h0] at hre ⊢;have HRR:=zia hrr;clear hrr h0 hsb;go_enter Tryz.func12,Tryz.ntmps12
  go_wp2_with (refine eG (E.at_ m0) rfl rfl rfl rfl ?_);refine (hre _ (E.get m2) (E.get m1)).mono ?_;rintro e w3 ⟨A3,c3,rfl,-,hb3⟩;replace E:=E.step hb3;clear hre hb3;go_upto_region 6 with fail;have hz3:=E.get m2;have hm3:=E.get m0;have B1:=E.at_ m1;have B0:=E.at_ m0;have hq3:=hq.step E.below;have hc3:=hc.step E.below;have hs3:w.heap.size+1<w3.heap.size:=B0.lt;have ht3:aA w w3 (fun b=>b=gq∨b=gk):=aA.of E.below
  have hgk:gk<w.heap.size:=by obtain ⟨_,hb,_⟩:=hc;exact hb.lt
  clear E hq hc;go_loopw [14,15,16,17,18,19,20,21] (fun x14 x15 x16 x17 x18 x19 x20 x21 wr=>∃ (j o:Nat) (Ax:Option Addr) (cx:Nat) (ki:Ca) (ti:Int) (out:List UInt8),x15=.int .i64 (lba+j)∧j≤N∧x14=.slice Ax o cx∧Hid (dN d.z h.m lba j (k,t,[])=(ki,ti,out))∧Hid (out.length=o)∧Hid (o=16*j)∧Hid (fJ (i0+j) ki ti)∧wr.ownsRow w3.heap.size 5 1 (.slice Ax o cx) o (aE out)∧Blk wr gq 51 #[.pointer (some ⟨gk,0,none⟩),.int .i64 ti]∧oK (fun b=>X b∨some b=(Value.slice Ax o cx).ownBlock) wr gk ki∧aA w3 wr (fun b=>b=gq∨b=gk)∧(∃ y,x16=y)∧(∃ y,x17=y)∧(∃ y,x18=y)∧(∃ y,x19=y)∧(∃ y,x20=y)∧∃ y,x21=y) (fun _ x15 _ _ _ _ _ _ _=>N-(intOf x15-lba).toNat)
  case atStart=>exact ⟨0,0,none,0,k,t,[],by simp,zir _,rfl,zia rfl,zia rfl,zia rfl,zia hg,zin _ _ _ _,hq3,hc3.turned (Y:=fun _=>False) (aA.refl _ _) (fun _ h=>h.elim) id (fun b hb=>hb.imp id (fun h=>by cases h)),aA.refl _ _,⟨_,rfl⟩,⟨_,rfl⟩,⟨_,rfl⟩,⟨_,rfl⟩,⟨_,rfl⟩,_,rfl⟩
  case round=>
   obtain ⟨j,o,Ax,cx,ki,ti,out,rfl,hj,rfl,hbb,hol,ho16,hgi,hown,hqr,hcr,htr,⟨y1,rfl⟩,⟨y2,rfl⟩,⟨y3,rfl⟩,⟨y4,rfl⟩,⟨y5,rfl⟩,y6,rfl⟩:=hrel;clear hq3 hc3;by_cases hlt:j<N
   case neg=>
    obtain rfl:j=N:=by omega
    obtain rfl:(ki,ti,out)=rr:=by rw [←hbb.out,HRR.out]
    have hvb:IsB wr (fun b=>w.heap.size≤b) (.slice Ax o cx) out:=by
     have h9:=IsB.of_own (l:=out) (by rw [hol.out];exact hown) (by rw [hol.out,ho16.out];omega)
     rw [hol.out] at h9;exact h9.more fun b hb=>by omega
    have hcf:oK X wr gk ki:=hcr.turned (Y:=fun _=>False) (aA.refl _ _) (fun _ h=>h.elim) id (fun b hb=>.inl (.inl hb))
    have htf:=ht3.trans htr;have hgf:fJ (i0+256) ki ti:=hgi.out.more (by omega)
    clear hown hcr htr hz3 hm3 B1 B0;go_wp2_with fail;go_ret2;exact ⟨_,rfl,hvb,hqr,hcf,htf⟩
   have hbk:0≤lba+(j:Int)∧lba+(j:Int)<1099511627776:=by omega
   have hjn:lba+(j:Int)<lba+(N:Int):=by omega
   have hmr:=hm3.turned htr fun b hb e=>by have:=hK b hb;omega
   have hzr:=hz3.turned htr fun b hb e=>by have:=hK b hb;omega
   have B1r:=B1.turned htr (by omega)
   have B0r:=B0.turned htr (by omega)
   have hat:=zhq (.slice Am h.m.length cm) h.m (lba+j) K wr hmr hch hbk;have hst:=zia (dC (zs:=d.z) (m:=h.m) lba j (k,t,[]));have hgo:=fun hh=>zbn (zs:=d.z) (m:=h.m) (s:=(ki,ti,out)) (b:=lba+j) hh
   have hth:=fun hh hz=>zA (zs:=d.z) (m:=h.m) (s:=(ki,ti,out)) (b:=lba+j) hh hz
   have hav:=fun hh=>zhj (m:=h.m) (b:=lba+j) hch hver hh
   have hHG:=zia hgo;have hHT:=zia hth;have hHV:=zia hav;clear hgo hth hav;generalize atE h.m (lba+j)=a at hat hHG hHT hHV;obtain ⟨x,is⟩:=a;simp only at hat hHG hHT hHV;obtain ⟨q0,f0⟩:=B0r.rules;have t0:=B0r.lt;go_wp2_with fail;refine hat.mono ?_;rintro e w5 ⟨rfl,hb5⟩;have hs5:=hb5.size;have tr5:=htr.trans (aA.of hb5);have hlr:=fun b (h9:some b=(Value.slice Ax o cx).ownBlock)=>(hown.lt b h9.symm).2
   have hqr5:=hqr.step hb5;have hcr5:=hcr.step hb5;have hown5:=aD hown hb5 (zic _);have hX5:∀ b,(X b∨some b=(Value.slice Ax o cx).ownBlock)→b<w5.heap.size:=fun b hb=>by
    rcases hb with h9 | h9
    · have:=hX b h9;have:=htr.size;omega
    · have:=hlr b h9;omega
   have B1s:=B1r.step hb5;have B0s:=B0r.step hb5;have hz5:=hzr.step hb5;have hm5:=hmr.step hb5;have hsx:=htr.size;clear hat q0 f0 t0 hqr hcr hown hb5 B1r B0r hzr hmr;go_upto_region 9 with fail;have ha:=(zif w5.heap.size w5).alloc (zic _) (.cells (exC x) 90);have Bx:=Blk.new w5 90 (exC x) rfl;have hqr6:=hqr5.step ha;have hcr6:=hcr5.step ha;have hown6:=aD hown5 ha (zic _);have tr6:=tr5.trans (aA.of ha);have hX6:∀ b,(X b∨some b=(Value.slice Ax o cx).ownBlock)→b<w5.heap.size+1:=fun b hb=>Nat.lt_succ_of_lt (hX5 b hb)
   have B1t:=B1s.step ha;have B0t:=B0s.step ha;have hz6:=hz5.step ha;have hm6:=hm5.step ha;clear hqr5 hcr5 hown5 tr5 hX5 B1s B0s hz5 hm5 ha;have hs6:w3.heap.size≤(w5.alloc (.cells (exC x) 90)).heap.size:=by rw [zid];omega
   obtain ⟨gx,hgx⟩:∃ gx,w5.heap.size=gx:=⟨_,rfl⟩;have hgx3:w3.heap.size≤gx:=by omega
   generalize w5.alloc (.cells (exC x) 90)=w6 at Bx hqr6 hcr6 hown6 tr6 B1t B0t hz6 hm6 hs6 ⊢;rw [hgx] at Bx hX6 ⊢;have hgqo:some gq≠(Value.slice Ax o cx).ownBlock:=fun e=>by have:=(hown6.lt gq e.symm).1;omega
   have hgko:some gk≠(Value.slice Ax o cx).ownBlock:=fun e=>by have:=(hown6.lt gk e.symm).1;omega
   have hgxo:some gx≠(Value.slice Ax o cx).ownBlock:=fun e=>by have:=hlr gx e;have:=hsx;omega
   clear hs5 hgx;by_cases hgone:is=false∨x.zone<0
   case pos=>
    have hsb:=zia (hHG.out hgone);have hgm:=zia hgi.out.gap;have hti:=hgi.out.gone;have wti:IntKind.i64.wrap (ti+1)=ti+1:=ziI _ (by omega)
    have t67:=(aA.refl w6 (fun b=>b=gq)).set (g:=gq) rfl 1 (.int .i64 (ti+1))
    have hqr7:Blk (w6.setCell ⟨gq,1,none⟩ (.int .i64 (ti+1))) gq 51 #[.pointer (some ⟨gk,0,none⟩),.int .i64 (ti+1)]:=hqr6.set_ 1 _;have hown7:=eW hown6 t67 (fun b hb=>by rw [hb];exact hgqo)
    have hcr7:=hcr6.turned (X':=fun b=>X b∨some b=(Value.slice Ax o cx).ownBlock) t67 (fun b hb=>.inl (by rw [hb];exact hXq)) (fun e=>hne e.symm) (fun b hb=>.inl hb)
    obtain ⟨q0,f0⟩:=hqr6.rules;have t0:=hqr6.lt;obtain ⟨q1,f1⟩:=Bx.rules;have t1:=Bx.lt;have tr7:=tr6.trans (t67.mono fun b hb=>.inl hb)
    clear hHG hHT hHV hcr6 hown6 hqr6 B1t B0t hz6 hm6 t67 tr6 Bx;have hcases:is=false∨(is=true∧x.zone<0):=by
     cases is
     · exact .inl rfl
     · exact .inr ⟨rfl,hgone.resolve_left (by simp)⟩
    have hB9:∀ {w9:World} {A9:Option Addr} {c9:Nat},w9.ownsRow w3.heap.size 5 1 (.slice A9 (o+16) c9) (o+16) (aE out++aE (List.replicate 16 0))→xZ w3.heap.size (w6.setCell ⟨gq,1,none⟩ (.int .i64 (ti+1))) w9 (.slice Ax o cx) (.slice A9 (o+16) c9)→w9.ownsRow w3.heap.size 5 1 (.slice A9 (o+16) c9) (o+16) (aE (out++bZ 16))∧Blk w9 gq 51 #[.pointer (some ⟨gk,0,none⟩),.int .i64 (ti+1)]∧oK (fun b=>X b∨some b=(Value.slice A9 (o+16) c9).ownBlock) w9 gk ki∧aA w3 w9 (fun b=>b=gq∨b=gk):=fun ho hg9=>⟨by rw [aZ];exact ho,hqr7.grown hg9.grown hgqo,hcr7.grew hg9 hgko,tr7.grow hg9.below⟩
    clear hgone hti hXq hlr hgx3 hgqo hgko hgxo hcr7 hqr7 tr7 hX6;have HS6:=zia hs6;have ho5:o≤5000:=by rw [ho16.out];omega
    rcases hcases with rfl | ⟨rfl,h1⟩ <;> (
     go_wp2_with (at_builtin;refine mU rfl (.tmp 62) (.const (.int .i64 16)) _ _ rfl w3.heap.size 5 i1 .i64 .i64 Tryz.underlying31 Tryz.underlying3 hi1 hy0 hy1 hy2 rfl hown7 16 rfl (by omega) (by simpa using HS6.out) ?_;intro A9 c9 w9 own9 hg9)
     obtain ⟨g1,g2,g3,g4⟩:=hB9 own9 hg9;go_roundw
     case rel=>exact ⟨j+1,o+16,A9,c9,ki,ti+1,out++bZ 16,by simp;omega,by omega,rfl,zia (by rw [hst.out,hbb.out,hsb.out]),zia (by rw [zie,hol.out];rfl),zia (by rw [ho16.out];omega),zia (by have:=hgm.out;rwa [show i0+j+1=i0+(j+1) by omega] at this),g1,g2,g3,g4,⟨_,rfl⟩,⟨_,rfl⟩,⟨_,rfl⟩,⟨_,rfl⟩,⟨_,rfl⟩,_,rfl⟩
     case measure=>simp [intOf];omega)
   case neg=>
    obtain rfl:is=true:=by
     cases is
     · exact absurd (.inl rfl) hgone
     · rfl
    have hz:¬x.zone<0:=fun h=>hgone (.inr h)
    have hsb:=zia (hHT.out rfl (by omega))
    obtain ⟨hv1,hv2⟩:=hHV.out rfl;have hB16:=zaa (zs:=d.z) hf (lba+j);have hgm:=zia (hgi.out.blk (lba+j) x.ver (blockB d.z h.m (lba+j)) (by omega) hB16)
    have hgh:=hgi.out.hit;have hgms:=hgi.out.miss;have hgl:=hgi.out.len;have hgn:=hgi.out.nodup;have hge:=hgi.out.ent;have hgmo:=hgi.out.most;have hby:=vE d A cA Am cm h.m (lba+j) 1 K K;rw [xC hch (b:=lba+j) ⟨by omega,by omega,by omega,by omega⟩ hf] at hby
    have HBY:=zia (fun W hz hm=>hby W hz hm hok hch ⟨by omega,by omega,by omega,by omega⟩ (by decide) hf)
    clear hby hgone hHG hHT hHV;generalize blockB d.z h.m (lba+j)=B at hsb hB16 hgm HBY;have ho5:o≤5000:=by rw [ho16.out];omega
    have HB16:=zia hB16;have hgxk:gx≠gk:=by omega
    have hgxl:=Bx.lt;obtain ⟨q1,f1⟩:=Bx.rules;have t1:=Bx.lt;go_upto_region 12 with fail;have hb0:Below w6.heap.size w6 w6.drew:=(zif _ _).drew;have HK:Hid (∀ W,aA w6 W (fun b=>b=gk)→(∀ o,W.cell? ⟨gq,o,none⟩=(#[.pointer (some ⟨gk,0,none⟩),.int .i64 ti]:Array Value)[o]?)∧∀ o,W.cell? ⟨gx,o,none⟩=(exC x)[o]?):=zia fun W ht=>⟨(hqr6.turned ht hne).rules.1,(Bx.turned ht hgxk).rules.1⟩
    refine wp_region_held_drew (S:=fun W=>(∀ o,W.cell? ⟨gq,o,none⟩=(#[.pointer (some ⟨gk,0,none⟩),.int .i64 ti]:Array Value)[o]?)∧∀ o,W.cell? ⟨gx,o,none⟩=(exC x)[o]?) (by kernel_rfl) (HK.out _ (aA.of hb0)) (fun hHeld=>?_)
    have hcr7:=hcr6.step hb0;have hX7:∀ b,(X b∨some b=(Value.slice Ax o cx).ownBlock)→b<w6.drew.heap.size:=fun b hb=>by have:=hX6 b hb;show b<w6.heap.size;omega
    cases hgc:nC ki.l (lba+j) x.ver with
    | some y=>
      have hget:=zfg hcr7 hgn hX7 (lba+j) x.ver (by omega) (by omega) hgc (by have:=(hge y (gI hgc).1).2.2;omega)
      refine wT 0 65 ?_;refine wT 1 66 ?_;refine wT 2 67 ?_;refine wT 3 68 ?_;refine wT 4 69 ?_;refine wT 5 70 ?_;refine wT 6 71 ?_;refine wR 7 72 (fun K hK=>?_)
      go_simp;refine hget.mono ?_;rintro e w8 ⟨vb,rfl,hvb,hmd⟩;go_wp2_with fail;refine hK.out _ _ (HK.out _ ((aA.of hb0).trans hmd.2)) (fun hHeld=>?_)
      clear hK K;refine wT 8 64 ?_;refine wT 9 73 ?_;refine wT 10 74 ?_;refine wT 11 18 ?_;refine wT 12 19 ?_;refine wpAnyH_done (by kernel_rfl) ?_ _
      have tr8:=(aA.of (S:=fun b=>b=gk) hb0).trans hmd.2
      have hqr8:=hqr6.turned tr8 hne;have hcr8:=hmd.1;have hown8:=eW hown6 tr8 (fun b hb=>by rw [hb];exact hgko)
      have htr8:=tr6.trans (tr8.mono (S':=fun b=>b=gq∨b=gk) fun b hb=>.inr hb)
      obtain ⟨Ay,cy,rfl,-⟩:=aK hvb;have hvr:=hvb.open_.2.1;have hyl:Hid (y.b.length=16):=zia (hge y (gI hgc).1).2.2;have hbl:Hid (blkC ki (lba+j) x.ver B=(⟨ki.most,y::bH ki.l (lba+j),ki.hit+1,ki.miss⟩,y.b)):=zia (by unfold blkC;rw [hgc])
      rw [hyl.out] at hvr ⊢;clear hget hmd hcr7 hX7 tr8 hvb hb0 hcr6 hown6 hqr6 tr6 hge hgn q1 f1 t1;go_upto_region 19 with fail;have hsz9:=htr8.size;go_wp2_with (at_builtin;refine aF rfl (.tmp 98) (.tmp 99) 31 rfl w3.heap.size 5 i1 _ 1 1 Tryz.underlying31 hi1 hy0 hy1 hy2 rfl (by omega) rfl hown8 rfl hvr (aW _) (by simp only [maxLen];omega) (by omega) hsz9 ?_;intro Aq cq wq ownq hgq9)
      have e1:=hqr8.grown hgq9.grown hgqo;have e2:=hcr8.grew hgq9 hgko;have e3:=htr8.grow hgq9.below;go_roundw
      case rel=>exact ⟨j+1,o+16,Aq,cq,_,ti,out++y.b,by simp;omega,by omega,rfl,zia (by rw [hst.out,hbb.out,hsb.out,hbl.out]),zia (by rw [zie,hol.out,hyl.out]),zia (by rw [ho16.out];omega),zia (by have:=hgm.out;rw [hbl.out] at this;rwa [show i0+j+1=i0+(j+1) by omega] at this),by rw [aZ];exact ownq,e1,e2,e3,⟨_,rfl⟩,⟨_,rfl⟩,⟨_,rfl⟩,⟨_,rfl⟩,⟨_,rfl⟩,_,rfl⟩
      case measure=>simp [intOf];omega
    | none=>
      have hget:=zfS hcr7 hgn (lba+j) x.ver (by omega) hgc
      refine wT 0 65 ?_;refine wT 1 66 ?_;refine wT 2 67 ?_;refine wT 3 68 ?_;refine wT 4 69 ?_;refine wT 5 70 ?_;refine wT 6 71 ?_;refine wR 7 72 (fun K hK=>?_)
      go_simp;refine hget.mono ?_;rintro e w8 ⟨rfl,hmd⟩;go_wp2_with fail;refine hK.out _ _ (HK.out _ ((aA.of hb0).trans hmd.2)) (fun hHeld=>?_)
      clear hK K;refine wT 8 64 ?_;refine wT 9 73 ?_;refine wT 10 74 ?_;refine wT 11 18 ?_;refine wT 12 19 ?_;refine wpAnyH_done (by kernel_rfl) ?_ _
      have tr8:=(aA.of (S:=fun b=>b=gk) hb0).trans hmd.2
      have hqr8:=hqr6.turned tr8 hne;have hcr8:=hmd.1;have hown8:=eW hown6 tr8 (fun b hb=>by rw [hb];exact hgko)
      have htr8:=tr6.trans (tr8.mono (S':=fun b=>b=gq∨b=gk) fun b hb=>.inr hb)
      have hz8:=hz6.turned (tr8.mono (S':=fun b=>b=gq∨b=gk) fun b hb=>.inr hb) fun b hb e=>by have:=hK b hb;omega
      have hm8:=hm6.turned (tr8.mono (S':=fun b=>b=gq∨b=gk) fun b hb=>.inr hb) fun b hb e=>by have:=hK b hb;omega
      have B1u:=B1t.turned tr8 (by omega)
      have B0u:=B0t.turned tr8 (by omega)
      have Bx8:=Bx.turned tr8 hgxk;have hs8:=tr8.size;have hb3:=HBY.out _ hz8 hm8;clear hget hmd hcr7 hX7 tr8 hb0 hcr6 hown6 hqr6 tr6 q1 f1 t1 hz6 hm6 B1t B0t Bx;obtain ⟨q0,f0⟩:=B0u.rules;have t0:=B0u.lt;obtain ⟨q1,f1⟩:=B1u.rules;have t1:=B1u.lt;go_wp2_with fail;refine hb3.mono ?_;rintro e w9 ⟨A9,c9,rfl,hrow9,hb9⟩;rw [HB16.out] at hrow9;have hs9:=hb9.size;have hvb9:=IsB.of_own (l:=B) (by rw [HB16.out];exact hrow9) (by rw [HB16.out];decide)
      have hcr9:=hcr8.step hb9;have hqr9:=hqr8.step hb9;have Bx9:=Bx8.step hb9;have hown9:=aD hown8 hb9 (zic _);have htr9:=htr8.trans (aA.of hb9);have hb0:Below w9.heap.size w9 w9.drew:=(zif _ _).drew;have hpb:=zf0 (w:=w9.drew) (k:=⟨ki.most,ki.l,ki.hit,ki.miss+1⟩) (hcr9.step hb0) hgn (fun b hb=>by have:=hX6 b hb;show b<w9.heap.size;omega) ⟨lba+j,x.ver,B⟩ ⟨by simp only;omega,hv1,HB16.out⟩ (hvb9.step hb0) (by simp only;omega) hgmo
      rw [HB16.out] at hpb hvb9;clear hb3 hrow9 q0 f0 t0 q1 f1 t1 hcr8 hqr8 Bx8 hown8 htr8 hz8 hm8 B1u B0u hb9;obtain ⟨q1,f1⟩:=Bx9.rules;have t1:=Bx9.lt;rw [HB16.out];go_upto_region 18 with fail;have HK2:Hid (∀ W,aA w9 W (fun b=>b=gk)→(∀ o,W.cell? ⟨gq,o,none⟩=(#[.pointer (some ⟨gk,0,none⟩),.int .i64 ti]:Array Value)[o]?)∧∀ o,W.cell? ⟨gx,o,none⟩=(exC x)[o]?):=zia fun W ht=>⟨(hqr9.turned ht hne).rules.1,(Bx9.turned ht hgxk).rules.1⟩
      refine wp_region_held_drew (S:=fun W=>(∀ o,W.cell? ⟨gq,o,none⟩=(#[.pointer (some ⟨gk,0,none⟩),.int .i64 ti]:Array Value)[o]?)∧∀ o,W.cell? ⟨gx,o,none⟩=(exC x)[o]?) (by kernel_rfl) (HK2.out _ (aA.of hb0)) (fun hHeld=>?_)
      refine wT 0 89 ?_;refine wT 1 90 ?_;refine wT 2 91 ?_;refine wT 3 92 ?_;refine wT 4 93 ?_;refine wT 5 94 ?_;refine wT 6 95 ?_;refine wT 7 96 ?_;refine wR 8 97 (fun K hK=>?_)
      go_simp;refine hpb.mono ?_;rintro e wz ⟨rfl,hmd⟩;go_wp2_with fail;refine hK.out _ _ (HK2.out _ ((aA.of hb0).trans hmd.2)) (fun hHeld=>?_)
      clear hK K;try simp only [pu,List.set]
      refine wpAnyH_done (by kernel_rfl) ?_ _
      have trz:=(aA.of (S:=fun b=>b=gk) hb0).trans hmd.2
      have hqrz:=hqr9.turned trz hne;have hcrz:=hmd.1;have hownz:=eW hown9 trz (fun b hb=>by rw [hb];exact hgko)
      have htrz:=htr9.trans (trz.mono (S':=fun b=>b=gq∨b=gk) fun b hb=>.inr hb)
      have hvz:=(hvb9.turned trz fun b hb e=>by have h9:w8.heap.size≤b:=hb;omega).open_.2.1
      have hblk:Hid (blkC ki (lba+j) x.ver B=(⟨ki.most,iR ki.most ki.l ⟨lba+j,x.ver,B⟩,ki.hit,ki.miss+1⟩,B)):=zia (by unfold blkC;rw [hgc])
      rw [HB16.out] at hvz;clear hpb hmd trz hqr9 hcr9 hown9 htr9 hvb9 hb0 q1 f1 t1 Bx9;go_upto_region 19 with fail;have hsz9:=htrz.size;go_wp2_with (at_builtin;refine aF rfl (.tmp 98) (.tmp 99) 31 rfl w3.heap.size 5 i1 _ 1 1 Tryz.underlying31 hi1 hy0 hy1 hy2 rfl (by omega) rfl hownz rfl hvz (aW _) (by simp only [maxLen];omega) (by omega) hsz9 ?_;intro Aq cq wq ownq hgq9)
      have e1:=hqrz.grown hgq9.grown hgqo;have e2:=hcrz.grew hgq9 hgko;have e3:=htrz.grow hgq9.below;go_roundw
      case rel=>exact ⟨j+1,o+16,Aq,cq,_,ti,out++B,by simp;omega,by omega,rfl,zia (by rw [hst.out,hbb.out,hsb.out,hblk.out]),zia (by rw [zie,hol.out,HB16.out]),zia (by rw [ho16.out];omega),zia (by have:=hgm.out;rw [hblk.out] at this;rwa [show i0+j+1=i0+(j+1) by omega] at this),by rw [aZ];exact ownq,e1,e2,e3,⟨_,rfl⟩,⟨_,rfl⟩,⟨_,rfl⟩,⟨_,rfl⟩,⟨_,rfl⟩,_,rfl⟩
      case measure=>simp [intOf];omega
end
