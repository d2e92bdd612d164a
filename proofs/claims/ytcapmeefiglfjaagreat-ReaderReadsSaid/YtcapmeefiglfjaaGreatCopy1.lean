/- A part of the proof. -/
import Derived.Test.YtcapmeefiglfjaaGreatAppZG
import Derived.Test.YtcapmeefiglfjaaGreatReadW
set_option linter.unusedSimpArgs false
set_option maxHeartbeats 16000000
set_option maxRecDepth 100000
namespace Go.Proofs.YtcapmeefiglfjaaGreat
open Go.RowKit
def cQ:Zd:=⟨0,0,0,[]⟩
def fY:Ho:=⟨0,[],[],false,⟨⟨0,0,0⟩,0,0,0,[],[]⟩,[],0,0⟩
def rX (d:Zd) (h:Ho) (x:Ex):List UInt8:=(cC d.z h.m x.lba (min x.n 256)).1
def lX (d:Zd) (h:Ho) (z:Int) (x:Ex):Rc:=zgX (cN z x) (rX d h x)
def jS (d:Zd) (h:Ho) (z:Int) (L:List Ex):Zd × Ho × List (Ex × Ex) × Int:=match L.head? with
 | none=>(cQ,fY,[],4)
 | some x=>if bK h z=true then (cQ,fY,[],60) else
   ((bP d h [lX d h z x]).1,(bP d h [lX d h z x]).2.1,if (bP d h [lX d h z x]).2.2.2=0 then [(cN z x,⟨x.lba,min x.n 256,x.ver,(bP d h [lX d h z x]).2.1.p.zone,(bP d h [lX d h z x]).2.2.1.headD 0⟩)] else [],(bP d h [lX d h z x]).2.2.2)
theorem Tryz.infMv:(Tryz.prog.info? 212).map (fun i=>(i.zero,i.size,i.bytes))=some (some (.agg #[.int .i64 0,.int .i64 0,.int .i64 0,.int .i64 0,.int .i64 0,.int .i64 0,.int .i64 0,.int .i64 0,.int .i64 0,.int .i64 0]),10,80):=by kernel_rfl
theorem zd3 (d:Zd) (Az:Option Addr) (cz:Nat) (h:Ho) (v:Value) (Am:Option Addr) (cm:Nat) (z:Int) (K Km:Nat→Prop) (w:World) (hz:IsL Rp.zone w K (.slice Az d.z.length cz) d.z) (hv:aY w K v h) (hm:IsL Rp.ex w Km (.slice Am h.m.length cm) h.m) (hK:∀ b,K b→b<w.heap.size)
 (hd:okD d) (ho:zdT h) (hs:eB h) (hch:aC 0 h.m) (hf:rB d.z h.m) (hz0:0≤z) (hz9:z≤1000000) (hver:∀ e∈h.m,e.ver≤9223372036854775807)
 (herr:∀ L x,InE h.m z L→L.head?=some x→eY [lX d h z x]=0∧(rX d h x).length≤1000000∧((bP d h [lX d h z x]).2.2.2=0→(bP d h [lX d h z x]).2.2.1.length=1)) :
 Calls Tryz.prog 58 #[.agg #[.int .i64 d.cap,.int .i64 d.opn,.int .i64 d.act,.slice Az d.z.length cz],v,.slice Am h.m.length cm,.int .i64 z,.int .i64 1] w fun e w'=>∃ L,InE h.m z L∧∃ dv vh Aa ca,e=.returned (.tuple #[dv,vh,.slice Aa (jS d h z L).2.2.1.length ca,.int .i64 (jS d h z L).2.2.2]) ∧
  IsL Rp.mv w' (fun b=>w.heap.size≤b) (.slice Aa (jS d h z L).2.2.1.length ca) (jS d h z L).2.2.1∧mG w' (fun b=>K b∨w.heap.size≤b) dv vh (jS d h z L).1 (jS d h z L).2.1∧Below w.heap.size w w':=by
 have hck0:dZ h.m=0:=by unfold dZ;rw [zij hch]
 have hpi:=fun W a=>zW (.slice Am h.m.length cm) h.m Km z W a (by have:=hs.m;omega)
 have hnb:¬(z<0∨dZ h.m≠0):=by rintro (h | h);omega;exact h hck0
 simp only [zig hnb] at hpi;clear hnb hck0;obtain ⟨hc,rfl,hn15,h115,hop⟩:=eJ hv;have E:=((((((Kn.start w).give aB.list hz).give aB.ho hv).give aB.list hm).push 26 #[.int .i64 d.cap,.int .i64 d.opn,.int .i64 d.act,.slice Az d.z.length cz]).push 37 hc).push 26 #[.int .i64 0,.int .i64 0,.int .i64 0,.slice none 0 0] |>.push 37 #[.int .i64 0,.slice none 0 0,.slice none 0 0,.bool false,.int .i64 0,.int .i64 0,.int .i64 0,.int .i64 0,.int .i64 0,.int .i64 0,.slice none 0 0,.slice none 0 0,.slice none 0 0,.int .i64 0,.int .i64 0]
 simp only [zid] at E;have HPI:=zia hpi;clear hpi hz hv hm;go_enter Tryz.func58,Tryz.ntmps58
 go_wp2_with fail;generalize (((w.alloc (.cells #[.int .i64 d.cap,.int .i64 d.opn,.int .i64 d.act,.slice Az d.z.length cz] 26)).alloc (.cells hc 37)).alloc (.cells #[.int .i64 0,.int .i64 0,.int .i64 0,.slice none 0 0] 26)).alloc (.cells #[.int .i64 0,.slice none 0 0,.slice none 0 0,.bool false,.int .i64 0,.int .i64 0,.int .i64 0,.int .i64 0,.int .i64 0,.int .i64 0,.slice none 0 0,.slice none 0 0,.slice none 0 0,.int .i64 0,.int .i64 0] 37)=w1 at E ⊢;refine (HPI.out _ (E.get m0)).mono ?_;rintro x w2 ⟨A2,c2,l,rfl,⟨L,hL,hl⟩,own2,hb2⟩;have HL:=zia hL;have hE1:=E.below;have hg0:=(E.at_ m0).lt;replace E:=E.step hb2;have hbw:=E.below;have hR1:=E.at_ m1;have hR2:=E.at_ m0;have hg1:=(E.at_ m0).lt;cases hhd:L.head? with
 | none=>
   rw [hhd] at hl;have hl0:l=[]:=hl;subst hl0;have hcopy:jS d h z L=(cQ,fY,[],4):=by unfold jS;rw [hhd]
   clear hhd hl hL;obtain ⟨q0,f0,t0⟩:=E.rules m0;obtain ⟨q1,f1,t1⟩:=E.rules m1;go_wp2_with fail;refine qH (K:=fun W=>bodyPost _ _ _ _ _ W) hR1 hR2 (by omega) _ _ _ _ _ _ _ _ _ _ _ _ _ _ _ _ _ _ _ ?_
   intro w7 hs7 ht7 hB7 hB8;obtain ⟨q2,f2⟩:=hB7.rules;obtain ⟨q3,f3⟩:=hB8.rules;refine zik (v:=.tuple #[.agg #[.int .i64 0,.int .i64 0,.int .i64 0,.slice none 0 0],.agg #[.int .i64 0,.slice none 0 0,.slice none 0 0,.bool false,.int .i64 0,.int .i64 0,.int .i64 0,.int .i64 0,.int .i64 0,.int .i64 0,.slice none 0 0,.slice none 0 0,.slice none 0 0,.int .i64 0,.int .i64 0],.slice none 0 0,.int .i64 4]) (by simp [results,Tryz.results58,go_sem,q2,q3]) rfl
    ⟨L,HL.out,?_⟩
   rw [hcopy];exact ⟨_,_,none,0,rfl,IsL.nil_ _ _,⟨⟨none,0,rfl,IsL.nil_ _ _⟩,⟨_,_,_,_,_,rfl,IsL.nil_ _ _,IsL.nil_ _ _,IsB.nil_ _ _,IsL.nil_ _ _,IsL.nil_ _ _⟩⟩,hbw.trans (ht7.below (fun k hk=>by omega) hbw.size)⟩
 | some x=>
   rw [hhd] at hl;have hl1:l=[cN z x]:=hl;subst hl1;obtain ⟨he1,he2,he3⟩:=herr L x hL hhd;obtain ⟨⟨hx1,hx2,hx3,hx4,hx5,hx6⟩,hxz⟩:=hL.may hch (List.mem_of_head? hhd);have hxv:=hver x (zji.1 (hL.perm.mem_iff.1 (List.mem_of_head? hhd))).1;have hIp:=bI own2 rfl (by simp)
   clear hl herr;go_wp2_with (refine eG (E.at_ m2) hn15 rfl rfl rfl ?_);refine (lY h z _ _ _ (E.get m1)).mono ?_;rintro u w3 ⟨rfl,hb3⟩;replace E:=(E.step hb3).give aB.list (hIp.step hb3);have hbw:=E.below;have hR1:=E.at_ m1;have hR2:=E.at_ m0;have hg1:=(E.at_ m0).lt;obtain ⟨q0,f0,t0⟩:=E.rules m0;obtain ⟨q1,f1,t1⟩:=E.rules m1;cases hwr:bK h z with
   | true=>
     have hcopy:jS d h z L=(cQ,fY,[],60):=by unfold jS;rw [hhd];simp only [hwr,zkh]
     clear hhd hL hIp hR1 hR2;have hR1:=E.at_ m1;have hR2:=E.at_ m0;go_wp2_with fail;refine qH (K:=fun W=>bodyPost _ _ _ _ _ W) hR1 hR2 (by omega) _ _ _ _ _ _ _ _ _ _ _ _ _ _ _ _ _ _ _ ?_
     intro w7 hs7 ht7 hB7 hB8;obtain ⟨q2,f2⟩:=hB7.rules;obtain ⟨q3,f3⟩:=hB8.rules;refine zik (v:=.tuple #[.agg #[.int .i64 0,.int .i64 0,.int .i64 0,.slice none 0 0],.agg #[.int .i64 0,.slice none 0 0,.slice none 0 0,.bool false,.int .i64 0,.int .i64 0,.int .i64 0,.int .i64 0,.int .i64 0,.int .i64 0,.slice none 0 0,.slice none 0 0,.slice none 0 0,.int .i64 0,.int .i64 0],.slice none 0 0,.int .i64 60]) (by simp [results,Tryz.results58,go_sem,q2,q3]) rfl
      ⟨L,HL.out,?_⟩
     rw [hcopy];exact ⟨_,_,none,0,rfl,IsL.nil_ _ _,⟨⟨none,0,rfl,IsL.nil_ _ _⟩,⟨_,_,_,_,_,rfl,IsL.nil_ _ _,IsL.nil_ _ _,IsB.nil_ _ _,IsL.nil_ _ _,IsL.nil_ _ _⟩⟩,hbw.trans (ht7.below (fun k hk=>by omega) hbw.size)⟩
   | false=>
     obtain ⟨r,hr⟩:∃ r,bP d h [lX d h z x]=r:=⟨_,rfl⟩;have hcopy:jS d h z L=(r.1,r.2.1,if r.2.2.2=0 then [(cN z x,⟨x.lba,min x.n 256,x.ver,r.2.1.p.zone,r.2.2.1.headD 0⟩)] else [],r.2.2.2):=by unfold jS;rw [hhd];simp only [hwr,hr];rfl
     clear hhd hL;obtain ⟨q2,f2,t2⟩:=E.rules m3;have hpx:(cN z x).n=min x.n 256:=rfl;have hbl:aJ (cN z x).lba (cN z x).n:=by unfold aJ at hx1 ⊢;show 0≤x.lba∧0<min x.n 256∧min x.n 256≤1099511627776∧x.lba≤1099511627776-min x.n 256;omega
     have h64:zhS (cN z x):=by
      unfold aJ at hx1;have hof:x.off≤1125899906842624:=by by_cases h:x.zone = -1 <;> omega
      exact ⟨⟨by show _≤x.lba;omega,by show x.lba≤_;omega⟩,⟨by show _≤min x.n 256;omega,by show min x.n 256≤_;omega⟩,⟨by show _≤x.ver;omega,by show x.ver≤_;omega⟩,⟨by show _≤z;omega,by show z≤_;omega⟩,⟨by show _≤x.off;omega,by show x.off≤_;omega⟩⟩
     go_wp2_with fail;refine (xB d Az cz Am cm h.m (cN z x) A2 c2 _ _ _ _ (E.get m3) (E.get m1) (E.get m0) hd hch hbl (by show min x.n 256≤4096;omega) hf h64 he2).mono ?_
     rintro u w4 ⟨A4,c4,rfl,hrec,hb4⟩;replace E:=(E.step hb4);have hsz4:=E.below.size;have hBd:=E.at_ m3;have hBh:=E.at_ m2;have hBz:=E.at_ m1;have hBr:=E.at_ m0;have hg1':=hBr.lt;have hbw4:=E.below;have hpu:=kS d Az cz h (.agg hc) (.slice A4 1 c4) [lX d h z x] _ _ w4 (E.get m3) (E.get m2) hrec (fun b hb=>by have:=hK b hb;omega) hd ho hs (by simp) he1 (by simp)
     rw [hr] at hpu he3;clear q0 f0 t0 q1 f1 t1 q2 f2 t2 hIp hR1 hR2 hg1 hbl h64 hpx hd ho hs hch hf he1 he2 hrec hr hx1 hx2 hx3 hx4 hx5 hx6;obtain ⟨q2,f2⟩:=hBd.rules;have HPU:=zia hpu;have HC:=zia hcopy;have HE3:=zia he3;clear hpu hcopy he3;go_wp2_with (refine eG hBh hn15 rfl rfl rfl ?_);refine HPU.out.mono ?_;rintro u w5 ⟨dv,vh,Aa,ca,rfl,own5,⟨⟨Az5,cz5,rfl,hz5⟩,hv5⟩,hb5⟩;have hc7:∃ hc5,vh=.agg hc5∧hc5.size=15∧hc5.toList.all (·.oneCell')=true∧hc5[7]?=some (.int .i64 r.2.1.p.zone):=by
      obtain ⟨hc5,hvv,hn5,h15,-⟩:=eJ hv5;refine ⟨hc5,hvv,hn5,h15,?_⟩;obtain ⟨_,_,_,_,_,e,-⟩:=hv5;rw [hvv] at e;injection e with e;rw [e];rfl
     obtain ⟨hc5,rfl,hn5,h15,hc57⟩:=hc7;replace E:=E.step hb5;have hbw5:=E.below;have hBd5:=E.at_ m3;have hBh5:=E.at_ m2;have hBz5:=E.at_ m1;have hBr5:=E.at_ m0;have hIp5:=E.get m0;obtain ⟨e6,he6⟩:∃ e6,r.2.2.2=e6:=⟨_,rfl⟩;obtain ⟨na,hna⟩:∃ na,r.2.2.1.length=na:=⟨_,rfl⟩;rw [hna] at own5 ⊢;rw [he6];have HE6:=zia he6;have HNA:=zia hna;clear he6 hna HPU hBd hBh hBz hBr q2 f2;go_upto_region 13 with (first | (refine eU hBd5 rfl rfl rfl rfl rfl (by rfl) (by rfl) ?_;intro w6 hs6 ht6 hBd6) | (refine jT (hBh5.turned ht6 (by omega)) hn15 rfl rfl rfl rfl hn5 h15 ?_;intro w7 hs7 ht7 hBh7))
     have hKK:∀ b,(K b∨w4.heap.size≤b)→b≠w.heap.size∧b≠w.heap.size+1∧b≠w.heap.size+1+1∧b≠w.heap.size+1+1+1:=fun b hb=>by
      have h9:w.heap.size+1+1+1<w4.heap.size:=ziE hg1' (zic _);rcases hb with hb | hb
      · have:=hK b hb;omega
      · omega
     have hz7:=(hz5.turned ht6 (fun b hb e=>(hKK b hb).1 e)).turned ht7 (fun b hb e=>(hKK b hb).2.1 e)
     have hh7:=aY.keep (aY.keep hv5 (ht6.cells (K:=fun b=>K b∨w4.heap.size≤b) fun b hb e=>(hKK b hb).1 e)) (ht7.cells (K:=fun b=>K b∨w4.heap.size≤b) fun b hb e=>(hKK b hb).2.1 e)
     have hBd7:=hBd6.turned ht7 (by omega)
     have hBz7:=(hBz5.turned ht6 (by omega)).turned ht7 (by omega)
     have hBr7:=(hBr5.turned ht6 (by omega)).turned ht7 (by omega)
     have hb7:Below w.heap.size w w7:=aA.upon (aA.upon hbw5 ht6 (zic _) (zic _)) ht7 (by omega) (zic _)
     clear hBd5 hBh5 hBz5 hBr5 hz5 hv5 hBd6 hbw hbw4 hbw5 hs6 hs7;obtain ⟨KP,hKP⟩:∃ KP:Nat→Prop,KP=fun b=>K b∨w4.heap.size≤b:=⟨_,rfl⟩
     have HKK:Hid (∀ b,KP b→b≠w.heap.size∧b≠w.heap.size+1∧b≠w.heap.size+1+1∧b≠w.heap.size+1+1+1):=zia fun b hb=>hKK b (by rw [hKP] at hb;exact hb)
     rw [←hKP] at hz7 hh7;have HKP:=zia hKP;clear hKP hKK;by_cases h60:e6=0
     · subst h60
       have hna1:na=1:=by rw [←HNA.out];exact HE3.out HE6.out
       subst hna1;obtain ⟨a0,ha0⟩:∃ a0,r.2.2.1=[a0]:=List.length_eq_one_iff.1 HNA.out;rw [ha0] at own5;have hcopy:=HC.out;rw [HE6.out,zij rfl,ha0] at hcopy;obtain ⟨ga,cur,hAa,hga,hBa5,hcur⟩:=gM own5 (by omega)
       subst hAa;have hca:=hcur 0 (.int .i64 a0) rfl;have hBa7:=(hBa5.turned ht6 (by omega)).turned ht7 (by omega)
       have hIp7:=(hIp5.turned ht6 (fun b hb e=>by omega)).turned ht7 (fun b hb e=>by omega)
       have hla:ga<w7.heap.size:=hBa7.lt;clear own5 hcur hBa5 hIp5 HE3 HC;have F:=((((((Kn.from_ hb7 hb7.size).know hBd7).know hBh7).know hBz7).know hBr7).know hBa7).give aB.list hIp7;obtain ⟨ad,had,-,c0,c1,c2',c3,c4⟩:=bY (F.get m0) (show ([cN z x]:List Ex)[0]?=some (cN z x) from rfl);subst had;have h0:ad.add (0*5)=ad:=by simp [Addr.add]
       rw [h0] at c0 c1 c2' c3 c4;obtain ⟨p,hp⟩:∃ p,cN z x=p:=⟨_,rfl⟩;rw [hp] at c0 c1 c2' c3 c4 F;have HP:=zia hp;clear hp;clear h0 hBd7 hBh7 hBz7 hBr7 hBa7 hIp7 E;go_wp2_with fail;go_loopw [18,70] (fun o i wr=>∃ j:Nat,i=.int .i64 j∧((j=0∧o=.slice none 0 0∧wr=w7)∨(j=1∧∃ Ao co,o=.slice Ao 1 co∧IsL Rp.mv wr (fun b=>w.heap.size≤b∧b≠w.heap.size+1+1∧b≠w.heap.size+1+1+1) (.slice Ao 1 co) [(p,⟨p.lba,p.n,p.ver,r.2.1.p.zone,a0⟩)]∧Below w7.heap.size w7 wr))) (fun _ i _=>1-(intOf i).toNat)
       case atStart=>exact ⟨0,rfl,Or.inl ⟨rfl,rfl,rfl⟩⟩
       case round=>
        obtain ⟨j,rfl,⟨rfl,rfl,rfl⟩ | ⟨rfl,Ao,co,rfl,hR,hbR⟩⟩:=hrel
        · have F2:=(F.push 90 (exC p)).push 90 (exC p)
          rw [zid] at F2;go_upto_region 20 with fail;change Code.wp _ _ _ _ ((wr.alloc (.cells (exC p) 90)).alloc (.cells (exC p) 90))
          have hb5':Below wr.heap.size wr ((wr.alloc (.cells (exC p) 90)).alloc (.cells (exC p) 90)):=(zBA).alloc (by rw [zid];omega) _
          generalize hw5:(wr.alloc (.cells (exC p) 90)).alloc (.cells (exC p) 90)=w8 at F2 hb5' ⊢;clear hw5;have hbd:Below w8.heap.size w8 w8.drew:=(zif _ _).drew;replace hb5':=hb5'.trans (hbd.mono hb5'.size);replace F2:=F2.step hbd;have hB0:=F2.at_ m0;have hB1:=F2.at_ m1;have hBa:=F2.at_ m2;have hBh:=F2.at_ m5;have hg8:=hB0.lt;have hgw:=hb7.size;refine wp_region_held_drew (S:=fun W=>W.cell? ⟨w.heap.size+1,7,none⟩=some (.int .i64 r.2.1.p.zone)∧W.cell? ⟨ga,0,none⟩=some (.int .i64 a0)) (by kernel_rfl) ⟨(hBh.cell 7).trans hc57,(hBa.cell 0).trans hca⟩ (fun hHeld=>?_)
          generalize w8.drew=wx at hB0 hB1 hBa hBh hg8 hb5' hHeld ⊢;clear F2 hbd;refine wT 0 76 ?_;refine wT 1 77 ?_;refine wT 2 78 ?_;refine wT 3 79 ?_;refine wT 4 80 ?_;refine wT 5 81 ?_;refine wT 6 82 ?_;refine wT 7 83 ?_;refine wRn 8 (fun K hK=>?_)
          obtain ⟨q0,f0⟩:=hB0.rules;have t0:=hB0.lt;go_simp;refine cF (K:=K _) hB0 3 _ ?_;intro wx hsx htx hB2;replace hB1:=hB1.turned htx (by omega)
          replace hBa:=hBa.turned htx (by omega)
          replace hBh:=hBh.turned htx (by omega)
          clear q0 f0 t0 hsx;refine hK.out _ _ ⟨(hBh.cell 7).trans hc57,(hBa.cell 0).trans hca⟩ (fun hHeld=>?_)
          clear hK K;refine wT 9 84 ?_;refine wRn 10 (fun K hK=>?_)
          obtain ⟨q0,f0⟩:=hB2.rules;have t0:=hB2.lt;go_simp;refine cF (K:=K _) hB2 4 _ ?_;intro wy hsy hty hB3;replace hB1:=hB1.turned hty (by omega)
          replace hBa:=hBa.turned hty (by omega)
          replace hBh:=hBh.turned hty (by omega)
          clear q0 f0 t0 hsy;refine hK.out _ _ ⟨(hBh.cell 7).trans hc57,(hBa.cell 0).trans hca⟩ (fun hHeld=>?_)
          clear hK K;try simp only [pu,List.set]
          refine wpAnyH_done (by kernel_rfl) ?_ _
          have hB4:Blk wy (wr.heap.size+1) 90 (exC ⟨p.lba,p.n,p.ver,r.2.1.p.zone,a0⟩):=hB3;have htz:aA wr wy (fun b=>b=wr.heap.size+1):=((aA.of hb5').trans htx).trans hty
          have hby:Below wr.heap.size wr wy:=htz.below (fun k hk=>by omega) (zic _)
          have hz9:=hby.size;obtain ⟨q0,f0⟩:=hB4.rules;obtain ⟨q1,f1⟩:=hB1.rules;clear hB0 hB2 hB3 hHeld;obtain ⟨i8,hi8,hy0,hy1,hy2⟩:=ziH Tryz.infMv;generalize hto:(⟨p.lba,p.n,p.ver,r.2.1.p.zone,a0⟩:Ex)=tx at q0 ⊢;go_wp2_with (at_builtin;refine aF rfl _ _ _ rfl wr.heap.size 212 i8 _ 10 80 Tryz.underlying141 hi8 hy0 hy1 hy2 rfl (by omega) rfl (zin _ _ _ _) rfl (aG.new (xs:=(mvC p tx).toList) (n:=1) rfl rfl rfl) (by simp [Value.oneCell']) (by simp only [maxLen];omega) (by omega) (by rw [zid];omega) ?_;intro A8 c8 wz own8 hg8)
          have hb6:Below wy.heap.size wy wz:=(zBA).trans (hg8.turned.below (fun k hk=>by have hk':some k=none:=hk;cases hk') (by rw [zid];omega))
          have own9:wz.ownsRow wr.heap.size 212 10 (.slice A8 1 c8) 1 (mvC p tx).toList:=own8;have hgr:=(F.at_ m1).lt;have hIM:IsL Rp.mv wz (fun b=>w.heap.size≤b∧b≠w.heap.size+1+1∧b≠w.heap.size+1+1+1) (.slice A8 1 c8) [(p,tx)]:=⟨A8,c8,_,rfl,(aG.of_own_ge own9).more fun b hb=>⟨by omega,by omega,by omega⟩,⟨_,[],(ziz _).symm,rfl,rfl⟩,cD own9,bF own9,by show 1≤_;omega⟩
          rw [←hto] at hIM;go_roundw
          case rel=>exact ⟨1,by go_num,Or.inr ⟨rfl,A8,c8,rfl,hIM,hby.trans (hb6.mono hby.size)⟩⟩
          case measure=>decide
        · go_upto_region 23 with fail
          have G:=F.step hbR;have hBd7:=G.at_ m4;have hBh7:=G.at_ m3;have hBz7:=G.at_ m2;have hBr7:=G.at_ m1;replace hz7:=hz7.step hbR;replace hh7:=hh7.step hbR;replace hb7:=G.below;clear G F;have hb0:Below wr.heap.size wr wr.drew:=(zif _ _).drew;refine wp_region_held_drew (S:=fun W=>(∀ o,W.cell? ⟨w.heap.size,o,none⟩=(#[.int .i64 r.1.cap,.int .i64 r.1.opn,.int .i64 r.1.act,.slice Az5 r.1.z.length cz5]:Array Value)[o]?)∧∀ o,W.cell? ⟨w.heap.size+1,o,none⟩=hc5[o]?) (by kernel_rfl) ⟨(hBd7.step hb0).rules.1,(hBh7.step hb0).rules.1⟩ (fun hHeld=>?_)
          replace hBz7:=hBz7.step hb0;replace hBr7:=hBr7.step hb0;replace hBd7:=hBd7.step hb0;replace hBh7:=hBh7.step hb0;replace hz7:=hz7.step hb0;replace hh7:=hh7.step hb0;replace hb7:=hb7.trans (hb0.mono hb7.size);replace hR:=hR.step hb0;generalize wr.drew=wx at hR hBz7 hBr7 hBd7 hBh7 hz7 hh7 hb7 hHeld ⊢;refine wT 0 92 ?_;refine wT 1 93 ?_ (hy:=by intro w hSw;(try dsimp only at hSw);refine zkF (dU hSw.2 hn5 rfl rfl) ?_;with_reducible rfl)
          refine wT 2 94 ?_;refine wRn 3 (fun K hK=>?_)
          refine fN rfl hBz7 rfl rfl rfl rfl rfl (by rfl) ?_
          intro wy hsy hty hBy;replace hR:=hR.turned hty (fun b hb e=>hb.2.1 e)
          replace hz7:=hz7.turned hty (fun b hb e=>by have:=HKK.out b hb;omega)
          replace hh7:=aY.keep hh7 (hty.cells (K:=KP) fun b hb e=>by have:=HKK.out b hb;omega)
          replace hBr7:=hBr7.turned hty (show ¬w.heap.size+1+1+1=w.heap.size+1+1 by omega)
          replace hBd7:=hBd7.turned hty (show ¬w.heap.size=w.heap.size+1+1 by omega)
          replace hBh7:=hBh7.turned hty (show ¬w.heap.size+1=w.heap.size+1+1 by omega)
          refine hK.out _ _ ⟨hBd7.rules.1,hBh7.rules.1⟩ (fun hHeld=>?_)
          clear hK K;try simp only [pu,List.set]
          refine wRn 4 (fun K hK=>?_)
          refine jX rfl hBr7 rfl rfl rfl rfl hn5 h15 ?_;intro wz hsz htz hBz;replace hR:=hR.turned htz (fun b hb e=>hb.2.2 e)
          replace hz7:=hz7.turned htz (fun b hb e=>by have:=HKK.out b hb;omega)
          replace hh7:=aY.keep hh7 (htz.cells (K:=KP) fun b hb e=>by have:=HKK.out b hb;omega)
          replace hBy:=hBy.turned htz (show ¬w.heap.size+1+1=w.heap.size+1+1+1 by omega)
          replace hBd7:=hBd7.turned htz (show ¬w.heap.size=w.heap.size+1+1+1 by omega)
          replace hBh7:=hBh7.turned htz (show ¬w.heap.size+1=w.heap.size+1+1+1 by omega)
          refine hK.out _ _ ⟨hBd7.rules.1,hBh7.rules.1⟩ (fun hHeld=>?_)
          clear hK K;refine wT 5 12 ?_;refine wT 6 13 ?_;refine wpAnyH_done (by kernel_rfl) ?_ _
          go_wp2_with fail;obtain ⟨q0,f0⟩:=hBy.rules;obtain ⟨q1,f1⟩:=hBz.rules;have hl1:=eR hBz hn5;have hl0:=cY hBy rfl;have hbF:Below w.heap.size w wz:=aA.upon (aA.upon hb7 hty (by omega) (zic _)) htz (by omega) (zic _)
          refine zik (v:=.tuple #[.agg #[.int .i64 r.1.cap,.int .i64 r.1.opn,.int .i64 r.1.act,.slice Az5 r.1.z.length cz5],.agg hc5,.slice Ao 1 co,.int .i64 0]) (by simp [results,Tryz.results58,asAddr,hl0,hl1,Result.andThen]) rfl ⟨L,HL.out,?_⟩
          rw [hcopy];have hp:=HP.out;subst hp;exact ⟨_,_,Ao,co,rfl,hR.more fun b hb=>hb.1,⟨⟨Az5,cz5,rfl,hz7.more fun b hb=>by rw [HKP.out] at hb;rcases hb with h | h;exact .inl h;exact .inr (by omega)⟩,hh7.more fun b hb=>by rw [HKP.out] at hb;rcases hb with h | h;exact .inl h;exact .inr (by omega)⟩,hbF⟩
     · have h6b:(e6 != 0)=true:=by simpa using h60
       have hcopy:=HC.out;rw [HE6.out,zig h60] at hcopy;clear E;go_upto_region 14 with fail;have hb0:Below w7.heap.size w7 w7.drew:=(zif _ _).drew;refine wp_region_held_drew (S:=fun W=>(∀ o,W.cell? ⟨w.heap.size,o,none⟩=(#[.int .i64 r.1.cap,.int .i64 r.1.opn,.int .i64 r.1.act,.slice Az5 r.1.z.length cz5]:Array Value)[o]?)∧∀ o,W.cell? ⟨w.heap.size+1,o,none⟩=hc5[o]?) (by kernel_rfl) ⟨(hBd7.step hb0).rules.1,(hBh7.step hb0).rules.1⟩ (fun hHeld=>?_)
       replace hBz7:=hBz7.step hb0;replace hBr7:=hBr7.step hb0;replace hBd7:=hBd7.step hb0;replace hBh7:=hBh7.step hb0;replace hz7:=hz7.step hb0;replace hh7:=hh7.step hb0;replace hb7:=hb7.trans (hb0.mono hb7.size);generalize w7.drew=wx at hBz7 hBr7 hBd7 hBh7 hz7 hh7 hb7 hHeld ⊢;refine wT 0 65 ?_;refine wT 1 66 ?_ (hy:=by intro w hSw;(try dsimp only at hSw);refine zkF (dU hSw.2 hn5 rfl rfl) ?_;with_reducible rfl)
       refine wT 2 67 ?_;refine wRn 3 (fun K hK=>?_)
       refine fN rfl hBz7 rfl rfl rfl rfl rfl (by rfl) ?_
       intro wy hsy hty hBy;replace hz7:=hz7.turned hty (fun b hb e=>by have:=HKK.out b hb;omega)
       replace hh7:=aY.keep hh7 (hty.cells (K:=KP) fun b hb e=>by have:=HKK.out b hb;omega)
       replace hBr7:=hBr7.turned hty (show ¬w.heap.size+1+1+1=w.heap.size+1+1 by omega)
       replace hBd7:=hBd7.turned hty (show ¬w.heap.size=w.heap.size+1+1 by omega)
       replace hBh7:=hBh7.turned hty (show ¬w.heap.size+1=w.heap.size+1+1 by omega)
       refine hK.out _ _ ⟨hBd7.rules.1,hBh7.rules.1⟩ (fun hHeld=>?_)
       clear hK K;try simp only [pu,List.set]
       refine wRn 4 (fun K hK=>?_)
       refine jX rfl hBr7 rfl rfl rfl rfl hn5 h15 ?_;intro wz hsz htz hBz;replace hz7:=hz7.turned htz (fun b hb e=>by have:=HKK.out b hb;omega)
       replace hh7:=aY.keep hh7 (htz.cells (K:=KP) fun b hb e=>by have:=HKK.out b hb;omega)
       replace hBy:=hBy.turned htz (show ¬w.heap.size+1+1=w.heap.size+1+1+1 by omega)
       replace hBd7:=hBd7.turned htz (show ¬w.heap.size=w.heap.size+1+1+1 by omega)
       replace hBh7:=hBh7.turned htz (show ¬w.heap.size+1=w.heap.size+1+1+1 by omega)
       refine hK.out _ _ ⟨hBd7.rules.1,hBh7.rules.1⟩ (fun hHeld=>?_)
       clear hK K;refine wT 5 12 ?_;refine wT 6 13 ?_;refine wpAnyH_done (by kernel_rfl) ?_ _
       go_wp2_with fail;obtain ⟨q0,f0⟩:=hBy.rules;obtain ⟨q1,f1⟩:=hBz.rules;have hl1:=eR hBz hn5;have hl0:=cY hBy rfl;have hbF:Below w.heap.size w wz:=aA.upon (aA.upon hb7 hty (by omega) (zic _)) htz (by omega) (zic _)
       refine zik (v:=.tuple #[.agg #[.int .i64 r.1.cap,.int .i64 r.1.opn,.int .i64 r.1.act,.slice Az5 r.1.z.length cz5],.agg hc5,.slice none 0 0,.int .i64 e6]) (by simp [results,Tryz.results58,asAddr,hl0,hl1,Result.andThen]) rfl ⟨L,HL.out,?_⟩
       rw [hcopy];exact ⟨_,_,none,0,rfl,IsL.nil_ _ _,⟨⟨Az5,cz5,rfl,hz7.more fun b hb=>by rw [HKP.out] at hb;rcases hb with h | h;exact .inl h;exact .inr (by omega)⟩,hh7.more fun b hb=>by rw [HKP.out] at hb;rcases hb with h | h;exact .inl h;exact .inr (by omega)⟩,hbF⟩
