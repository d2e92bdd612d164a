/- A part of the proof. -/
import Derived.Test.YtcapmeefiglfjaaGreatHostRoom2
import Derived.Test.YtcapmeefiglfjaaGreatCache
set_option linter.unusedSimpArgs false
set_option maxHeartbeats 16000000
set_option maxRecDepth 100000
namespace Go.Proofs.YtcapmeefiglfjaaGreat
open Go.RowKit
theorem zgN {K:World→Prop} {w:World} {g:Nat} {t:TypeId} {u0 u1 u2 u3 u4 u5 u6 u7 u8 u9 u10 u11 u12 u13 u14 u15 u16 u17 u18:Value} (hB:Blk w g t #[u0,u1,u2,u3,u4,u5,u6,u7,u8,u9,u10,u11,u12,u13,u14,u15,u16,u17,u18]) (x0 x1 x2 x3 x4 x5 x6 x7 x8 x9 x10 x11 x12 x13 x14:Value)
 (h:∀ wy,wy.heap.size=w.heap.size→aA w wy (fun b=>b=g)→Blk wy g t #[x0,x1,x2,x3,x4,x5,x6,x7,x8,x9,x10,x11,x12,x13,x14,u15,u16,u17,u18]→K wy):K (((((((((((((((w.setCell ⟨g,0,none⟩ x0).setCell ⟨g,1,none⟩ x1).setCell ⟨g,2,none⟩ x2).setCell ⟨g,3,none⟩ x3).setCell ⟨g,4,none⟩ x4).setCell ⟨g,5,none⟩ x5).setCell ⟨g,6,none⟩ x6).setCell ⟨g,7,none⟩ x7).setCell ⟨g,8,none⟩ x8).setCell ⟨g,9,none⟩ x9).setCell ⟨g,10,none⟩ x10).setCell ⟨g,11,none⟩ x11).setCell ⟨g,12,none⟩ x12).setCell ⟨g,13,none⟩ x13).setCell ⟨g,14,none⟩ x14):=by
 have t0:=aA.refl w (fun b=>b=g)
 have t1:=t0.set (g:=g) rfl 0 x0;replace hB:Blk _ g t #[x0,u1,u2,u3,u4,u5,u6,u7,u8,u9,u10,u11,u12,u13,u14,u15,u16,u17,u18]:=hB.set_ 0 x0;have t2:=t1.set (g:=g) rfl 1 x1;replace hB:Blk _ g t #[x0,x1,u2,u3,u4,u5,u6,u7,u8,u9,u10,u11,u12,u13,u14,u15,u16,u17,u18]:=hB.set_ 1 x1;have t3:=t2.set (g:=g) rfl 2 x2;replace hB:Blk _ g t #[x0,x1,x2,u3,u4,u5,u6,u7,u8,u9,u10,u11,u12,u13,u14,u15,u16,u17,u18]:=hB.set_ 2 x2;have t4:=t3.set (g:=g) rfl 3 x3;replace hB:Blk _ g t #[x0,x1,x2,x3,u4,u5,u6,u7,u8,u9,u10,u11,u12,u13,u14,u15,u16,u17,u18]:=hB.set_ 3 x3;have t5:=t4.set (g:=g) rfl 4 x4;replace hB:Blk _ g t #[x0,x1,x2,x3,x4,u5,u6,u7,u8,u9,u10,u11,u12,u13,u14,u15,u16,u17,u18]:=hB.set_ 4 x4;have t6:=t5.set (g:=g) rfl 5 x5;replace hB:Blk _ g t #[x0,x1,x2,x3,x4,x5,u6,u7,u8,u9,u10,u11,u12,u13,u14,u15,u16,u17,u18]:=hB.set_ 5 x5;have t7:=t6.set (g:=g) rfl 6 x6;replace hB:Blk _ g t #[x0,x1,x2,x3,x4,x5,x6,u7,u8,u9,u10,u11,u12,u13,u14,u15,u16,u17,u18]:=hB.set_ 6 x6;have t8:=t7.set (g:=g) rfl 7 x7;replace hB:Blk _ g t #[x0,x1,x2,x3,x4,x5,x6,x7,u8,u9,u10,u11,u12,u13,u14,u15,u16,u17,u18]:=hB.set_ 7 x7;have t9:=t8.set (g:=g) rfl 8 x8;replace hB:Blk _ g t #[x0,x1,x2,x3,x4,x5,x6,x7,x8,u9,u10,u11,u12,u13,u14,u15,u16,u17,u18]:=hB.set_ 8 x8;have t10:=t9.set (g:=g) rfl 9 x9;replace hB:Blk _ g t #[x0,x1,x2,x3,x4,x5,x6,x7,x8,x9,u10,u11,u12,u13,u14,u15,u16,u17,u18]:=hB.set_ 9 x9;have t11:=t10.set (g:=g) rfl 10 x10;replace hB:Blk _ g t #[x0,x1,x2,x3,x4,x5,x6,x7,x8,x9,x10,u11,u12,u13,u14,u15,u16,u17,u18]:=hB.set_ 10 x10;have t12:=t11.set (g:=g) rfl 11 x11;replace hB:Blk _ g t #[x0,x1,x2,x3,x4,x5,x6,x7,x8,x9,x10,x11,u12,u13,u14,u15,u16,u17,u18]:=hB.set_ 11 x11;have t13:=t12.set (g:=g) rfl 12 x12;replace hB:Blk _ g t #[x0,x1,x2,x3,x4,x5,x6,x7,x8,x9,x10,x11,x12,u13,u14,u15,u16,u17,u18]:=hB.set_ 12 x12;have t14:=t13.set (g:=g) rfl 13 x13;replace hB:Blk _ g t #[x0,x1,x2,x3,x4,x5,x6,x7,x8,x9,x10,x11,x12,x13,u14,u15,u16,u17,u18]:=hB.set_ 13 x13;have t15:=t14.set (g:=g) rfl 14 x14;replace hB:Blk _ g t #[x0,x1,x2,x3,x4,x5,x6,x7,x8,x9,x10,x11,x12,x13,x14,u15,u16,u17,u18]:=hB.set_ 14 x14;exact h _ (by simp) t15 hB
theorem zef {p:Pk} {l:List Rc} (hp:zbE p) (h:(fX p l).2.2=0) (hl:l.length≤100000000) (hpl:p.l.length≤1000000000):zbE (fX p l).1:=by
 obtain ⟨h1,h2,h3,h4,h5,h6⟩:=hp;unfold fX at h ⊢;split at h
 · rename_i h0;exact absurd h h0
 · rename_i h0
   rw [zig h0];split at h
   · exact absurd h (by decide)
   · rename_i h7
     rw [zig h7];unfold gT at h7;refine ⟨h1,h2,h3,h4,?_,?_⟩
     · simp only [zie];omega
     · simp only [zie];omega
theorem zeU (g:Nat) (h:Ho) (d:Zd) (lv:Value) (l:List Rc) (K K':Nat→Prop) (w:World) (hW:zfp w g K h d) (hKlt:∀ b,K b→b<w.heap.size∧b≠g) (hp:zbE h.p) (hl:IsL Rp.rc w K' lv l) (hll:l.length≤100000000) (hn:d.z.length*40≤140737488355328)
 (hpl:h.p.l.length≤1000000000) (hbuf:(fX h.p l).2.2=0→(fX h.p l).1.buf≠[]) :
 Calls Tryz.prog 86 #[.pointer (some ⟨g,0,none⟩),lv] w fun e w'=>∃ Aa ca,e=.returned (.tuple #[.slice Aa (zV d h l).2.2.1.length ca,.int .i64 (zV d h l).2.2.2])∧w'.ownsRow w.heap.size 3 1 (.slice Aa (zV d h l).2.2.1.length ca) (zV d h l).2.2.1.length ((zV d h l).2.2.1.map I64) ∧
  zfp w' g (fun b=>K b∨w.heap.size≤b) (zV d h l).2.1 (zV d h l).1∧aA w w' (fun b=>b=g):=by
 obtain ⟨vo,vs,vb,vl,vm,vz,hB,h1,h2,h3,h4,h5,h6⟩:=hW;obtain ⟨Ao,co,rfl,-⟩:=h1.form;obtain ⟨As,cs,rfl,-⟩:=h2.form;obtain ⟨Ab,cb,rfl,-⟩:=aK h3;obtain ⟨Al,cl,rfl,-⟩:=h4.form;obtain ⟨Am,cm,rfl,-⟩:=h5.form;obtain ⟨Az,cz,rfl,-⟩:=h6.form;have hgl:=hB.lt;have E:=(((((((Kn.start w).know hB).give aB.list h1).give aB.list h2).give aB.bytes h3).give aB.list h4).give aB.list h5).give aB.list h6;have hok:=zef (l:=l) hp;have had:=fun W a b c=>zgu (pkV h.p (.slice Ab h.p.buf.length cb) (.slice Al h.p.l.length cl)) lv h.p l K K' W a b hp c hll
 obtain ⟨res,hres⟩:∃ res,zV d h l=res:=⟨_,rfl⟩;rw [hres];unfold zV at hres;obtain ⟨r,hr⟩:∃ r,fX h.p l=r:=⟨_,rfl⟩;rw [hr] at had hres hok hbuf;obtain ⟨q,at_,e1⟩:=r;simp only at had hres hok hbuf;have HRES:=zia hres;have HKL:=zia hKlt;have km:∀ b,K b→K b∨w.heap.size≤b:=fun b h=>.inl h
 unfold pkV at had;clear hB h1 h2 h3 h4 h5 h6 hres hr hKlt;go_enter Tryz.func86,Tryz.ntmps86
 obtain ⟨q0,f0,t0⟩:=E.rules m0;go_wp2_with fail;refine (had _ ⟨_,_,rfl,E.get m3,E.get m2⟩ (fun b hb=>(HKL.out b hb).1) hl).mono ?_
 rintro e w2 ⟨pv,A2,c2,rfl,⟨qb,ql,hpv,hqb,hql⟩,own2,hb2⟩;unfold pkV at hpv;subst hpv;obtain ⟨Aq,cq,rfl,-⟩:=aK hqb;obtain ⟨Ar,cr,rfl,-⟩:=hql.form;replace E:=((E.step hb2).give aB.bytes hqb).give aB.list hql;clear q0 f0 t0 had hqb hql hl;go_upto_region 2 with fail;replace E:=E.push 34 (pkC q (.slice Aq q.buf.length cq) (.slice Ar q.l.length cr));have own3:=own2.alloc (.cells (pkC q (.slice Aq q.buf.length cq) (.slice Ar q.l.length cr)) 34);have hb3:=hb2.alloc hb2.size (.cells (pkC q (.slice Aq q.buf.length cq) (.slice Ar q.l.length cr)) 34);have hs2:=hb2.size;generalize w2.alloc (.cells (pkC q (.slice Aq q.buf.length cq) (.slice Ar q.l.length cr)) 34)=w3 at E own3 hb3 ⊢;clear hb2 own2;obtain ⟨an,han⟩:∃ an,at_.length=an:=⟨_,rfl⟩;rw [han] at own3 ⊢;have HAN:=zia han;clear han;by_cases he:e1=0
 case neg=>
  have he2:(e1 == (0:Int))=false:=by simpa using he
  have hr:=HRES.out;rw [zij he] at hr;subst hr;clear HRES;go_wp2;refine zik (v:=.tuple #[.slice none 0 0,.int .i64 e1]) (by simp [results,Tryz.results86,go_sem]) rfl ⟨none,0,rfl,zin _ _ _ _,⟨_,_,_,_,_,_,E.at_ m1,(E.get m7).more km,(E.get m6).more km,(E.get m5).more km,(E.get m4).more km,(E.get m3).more km,(E.get m2).more km⟩,aA.of hb3⟩
 subst he;have hok:=hok rfl hll hpl;have hbuf:=hbuf rfl;have hr:=HRES.out;rw [zig (by simp),zig hbuf] at hr
 have HR:=zia hr;clear hr HRES;have hq47:q.buf.length≤140737488355328:=by have:=(E.get m1).open_;have:=aK (E.get m1);obtain ⟨_,_,_,h47⟩:=this;exact h47
 have hfl:=fun W (X:Nat→Prop) (a:ze8 W X (pkV q (.slice Aq q.buf.length cq) (.slice Ar q.l.length cr)) q)=>zbg (pkV q (.slice Aq q.buf.length cq) (.slice Ar q.l.length cr)) q X W a hok hbuf
 unfold pkV zhG at hfl;obtain ⟨q0,f0,t0⟩:=E.rules m0;go_wp2_with fail;refine (hfl _ _ ⟨_,_,rfl,E.get m1,E.get m0⟩).mono ?_;rintro e w4 ⟨A4,c4,rfl,own4,hb4⟩;have hbf4:IsB w4 (fun b=>w3.heap.size≤b) (.slice A4 q.buf.length c4) q.buf:=IsB.of_own own4 hq47
 replace E:=(E.step hb4).give aB.bytes hbf4;replace own3:=aD own3 hb4 (zic _);have hs3:=hb3.size;have hs4:=hb4.size;replace hb3:=hb3.trans (hb4.mono hs3);clear q0 f0 t0 hfl own4 hb4 hbf4;go_upto_region 5 with fail;replace E:=(E.push 80 #[.int .i64 1,.int .i64 q.zone,.int .i64 q.h.epoch,.int .i64 0,.int .i64 0,.slice A4 q.buf.length c4]).push 34 (pkC (gA q) (.slice none 0 0) (.slice none 0 0));rw [zid] at E;replace own3:=(own3.alloc (.cells #[.int .i64 1,.int .i64 q.zone,.int .i64 q.h.epoch,.int .i64 0,.int .i64 0,.slice A4 q.buf.length c4] 80)).alloc (.cells (pkC (gA q) (.slice none 0 0) (.slice none 0 0)) 34);replace hb3:=(hb3.alloc hb3.size (.cells #[.int .i64 1,.int .i64 q.zone,.int .i64 q.h.epoch,.int .i64 0,.int .i64 0,.slice A4 q.buf.length c4] 80)).alloc (hb3.alloc hb3.size (.cells #[.int .i64 1,.int .i64 q.zone,.int .i64 q.h.epoch,.int .i64 0,.int .i64 0,.slice A4 q.buf.length c4] 80)).size (.cells (pkC (gA q) (.slice none 0 0) (.slice none 0 0)) 34);generalize (w4.alloc (.cells #[.int .i64 1,.int .i64 q.zone,.int .i64 q.h.epoch,.int .i64 0,.int .i64 0,.slice A4 q.buf.length c4] 80)).alloc (.cells (pkC (gA q) (.slice none 0 0) (.slice none 0 0)) 34)=w5 at E own3 hb3 ⊢;have hs5:w4.heap.size+1<w5.heap.size:=(E.at_ m0).lt;have hw3:w.heap.size≤w3.heap.size:=by omega
 have hdo:=fun W a b c e=>zdA g h (.slice Ao h.own.length co) (.slice As h.s.length cs) (.slice Ab h.p.buf.length cb) (.slice Al h.p.l.length cl) (.slice Am h.m.length cm) d Az cz ⟨1,q.zone,q.h.epoch,0,0,q.buf⟩ A4 c4 (fun b=>(K b∨w3.heap.size≤b)∧b<w5.heap.size) W a b c e hn (show (0:Int)≤9223372036854775807 by decide)
 obtain ⟨rd,hrd⟩:∃ rd,doZ d ⟨1,q.zone,q.h.epoch,0,0,q.buf⟩=rd:=⟨_,rfl⟩;rw [hrd] at hdo HR;obtain ⟨d',x⟩:=rd;simp only at hdo HR;clear hrd;have kn:∀ b,K b→¬b=g:=fun b hb=>(HKL.out b hb).2
 obtain ⟨q0,f0,t0⟩:=E.rules m1;go_wp2_with fail;refine (hdo _ (E.at_ m3) ((E.get m3).zlt.more fun b hb=>⟨.inl hb.1,hb.2⟩) (fun b hb=>⟨hb.2,by rcases hb.1 with h1 | h1;exact kn b h1;omega⟩) ((E.get m0).lt.more fun b hb=>⟨.inr hb.1,hb.2⟩)).mono ?_
 rintro e w6 ⟨A9,c9,rfl,hB9,hz9,ht9⟩;have b1:=(E.get m8).turned ht9 kn;have b2:=(E.get m7).turned ht9 kn;have b3:=(E.get m6).turned ht9 kn;have b4:=(E.get m5).turned ht9 kn;have b5:=(E.get m4).turned ht9 kn;have hBp:=(E.at_ m0).turned ht9 (show ¬w4.heap.size+1=g by omega)
 have own6:=aH own3 ht9 hgl;have hT:=(aA.of (S:=fun b=>b=g) hb3).trans ht9
 have hz6:=hz9.more (K':=fun b=>K b∨w.heap.size≤b) fun b hb=>by rcases hb with hb | hb;(rcases hb.1 with h1 | h1;exact .inl h1;exact .inr (by omega));exact .inr (by omega)
 have hs6:=hT.size;clear q0 f0 t0 E hdo own3 ht9 hz9;obtain ⟨q0,f0⟩:=hB9.rules;have t0:=hB9.lt;obtain ⟨q1,f1⟩:=hBp.rules;have t1:=hBp.lt;by_cases hx:x.e=0
 case neg=>
  have hx2:(x.e == (0:Int))=false:=by simpa using hx
  have hr:=HR.out;rw [zij hx] at hr;subst hr;clear HR;go_wp2_with fail;refine (rF h _ K _ ⟨_,_,_,_,_,rfl,b1,b2,b3,b4,b5⟩).mono ?_;rintro e w7 ⟨v7,rfl,⟨vo7,vs7,vb7,vl7,vm7,hv7,a1,a2,a3,a4,a5⟩,hb7⟩;obtain ⟨Ao7,co7,rfl,-⟩:=a1.form;obtain ⟨As7,cs7,rfl,-⟩:=a2.form;obtain ⟨Ab7,cb7,rfl,-⟩:=aK a3;obtain ⟨Al7,cl7,rfl,-⟩:=a4.form;obtain ⟨Am7,cm7,rfl,-⟩:=a5.form;subst hv7;have hB7:=hB9.step hb7;have hz7:=hz6.step hb7;have hT7:=hT.trans (aA.of hb7);clear q0 f0 t0 q1 f1 t1 hB9 hz6 own6 hBp;obtain ⟨q0,f0⟩:=hB7.rules;have t0:=hB7.lt;go_upto_region 9 with fail;refine zgN (K:=fun W=>Code.wp _ _ _ _ W) hB7 _ _ _ _ _ _ _ _ _ _ _ _ _ _ _ ?_
  intro w8 hs8 ht8 hB8;have kz:∀ b,(K b∨w.heap.size≤b)→¬b=g:=fun b hb e=>by rcases hb with hb | hb;exact kn b hb e;omega
  go_wp2;refine zik (v:=.tuple #[.slice none 0 0,.int .i64 x.e]) (by simp [results,Tryz.results86,go_sem]) rfl ⟨none,0,rfl,zin _ _ _ _,⟨_,_,_,_,_,_,hB8,(a1.turned ht8 kn).more km,(a2.turned ht8 kn).more km,(a3.turned ht8 kn).more km,(a4.turned ht8 kn).more km,(a5.turned ht8 kn).more km,hz7.turned ht8 kz⟩,hT7.trans ht8⟩
 have hr:=HR.out;rw [zig (by rw [hx];simp)] at hr
 subst hr;clear HR;go_upto_region 11 with fail;refine zdy (K:=fun W=>Code.wp _ _ _ _ W) hB9 _ _ _ _ _ _ _ _ ?_
 intro w8 hs8 ht8 hB8;have kz:∀ b,(K b∨w.heap.size≤b)→¬b=g:=fun b hb e=>by rcases hb with hb | hb;exact kn b hb e;omega
 have own8:=aH own6 ht8 hgl;have hfb:(gA q).buf=[]∧(gA q).l=[]:=by unfold gA;rw [zig (by first | exact hbuf | exact hbuf trivial)];exact ⟨rfl,rfl⟩
 clear q0 f0 t0 q1 f1 t1;go_wp2;refine zik (v:=.tuple #[.slice A2 an c2,.int .i64 0]) (by simp [results,Tryz.results86,go_sem]) rfl ⟨A2,c2,by rw [HAN.out],by rw [HAN.out];exact own8,⟨_,_,_,_,_,_,hB8,(b1.turned ht8 kn).more km,(b2.turned ht8 kn).more km,by show IsB _ _ _ (gA q).buf;rw [hfb.1];exact IsB.nil_ _ _,by show IsL Rp.rc _ _ _ (gA q).l;rw [hfb.2];exact IsL.nil_ _ _,(b5.turned ht8 kn).more km,hz6.turned ht8 kz⟩,hT.trans ht8⟩
end Go.Proofs.YtcapmeefiglfjaaGreat
namespace Go.Proofs.YtcapmeefiglfjaaGreat
open Go.RowKit Go.WideMaps
theorem Tryz.infPE:(Tryz.prog.info? 98).map (fun i=>(i.zero,i.size,i.bytes))=some (some (.pointer none),1,8):=by kernel_rfl
theorem Tryz.infEn:∃ j,Tryz.prog.info? 100=some j∧j.size≠0:=by
 have h:(Tryz.prog.info? 100).map (fun i=>i.size)=some 5:=by kernel_rfl
 cases hj:Tryz.prog.info? 100 with
 | none=>rw [hj] at h;cases h
 | some j=>rw [hj] at h;injection h with h;exact ⟨j,rfl,fun h9=>by rw [show (fun i:TypeInfo=>i.size) j=j.size from rfl,h9] at h;cases h⟩
theorem zf6 (w:World) (a:Addr):(binOp .neq 98 (.pointer (some a)) (.pointer (some a))).run Tryz.prog w=.ok (.bool false) w:=by
 obtain ⟨j,hj,_⟩:=Tryz.infEn;have h:∀ d:Nat,(Op.equalIn (d+1) 98 (.pointer (some a)) (.pointer (some a))).run Tryz.prog w=.ok true w:=fun d=>by
  simp [Op.equalIn,ziK Tryz.underlying98,sizeOf,typeInfo,hj,run_sameAddr_same]
 simp only [binOp];simp [Op.equal,Op.maxDepth,h 9999]
theorem zcj (w:World) {a b:Addr} {ca cb:Array Value} {ta tb:TypeId} (hne:a≠b) (ha:Blk w a.block ta ca) (hb:Blk w b.block tb cb) :
 (binOp .neq 98 (.pointer (some a)) (.pointer (some b))).run Tryz.prog w=.ok (.bool true) w:=by
 obtain ⟨j,hj,hsz⟩:=Tryz.infEn;have h:∀ d:Nat,(Op.equalIn (d+1) 98 (.pointer (some a)) (.pointer (some b))).run Tryz.prog w=.ok false w:=fun d=>by
  simp [Op.equalIn,ziK Tryz.underlying98,sizeOf,typeInfo,hj,hsz,run_sameAddr_other w hne ha hb]
 simp only [binOp];simp [Op.equal,Op.maxDepth,h 9999]
def zgL (c:Nat) (ns:List Nat) (i:Nat):Value:=match ns[i]? with | some g=>.pointer (some ⟨g,0,none⟩) | none=>.pointer (some ⟨c,2,none⟩)
def zeg (ns:List Nat):List Value:=ns.map fun g=>.pointer (some ⟨g,0,none⟩)
section
variable {Kd:Nat→Prop} {w w':World} {c m g e:Nat} {most hit miss:Int} {ns l r:List Nat} {dt:Nat→En} {ah af:Nat→Nat}
theorem zd9 {i:Nat} (hi:ns[i]?=some g):zgL c ns i=.pointer (some ⟨g,0,none⟩):=by unfold zgL;rw [hi]
theorem za2 {i:Nat} (hi:ns.length≤i):zgL c ns i=.pointer (some ⟨c,2,none⟩):=by unfold zgL;rw [ziX hi]
theorem gZ.cur0 (h:gZ Kd w c m ns dt ah af most hit miss):adV c (af c)=zgL c ns 0:=by
 unfold adV;rw [h.ring.head];cases ns with
 | nil=>show Value.pointer (some ⟨c,ofs c c,none⟩)=_;rw [zK];rfl
 | cons x l=>show Value.pointer (some ⟨x,ofs c x,none⟩)=_;rw [nR (fun h9=>h.ne (by rw [←h9];exact zih ..))];rfl
theorem gZ.cur_next (h:gZ Kd w c m ns dt ah af most hit miss) {i:Nat} (hi:ns[i]?=some g):adV c (af g)=zgL c ns (i+1):=by
 obtain ⟨hlt,hg⟩:=zil.1 hi;have e1:ns=ns.take i++g::ns.drop (i+1):=by rw [←hg,←zjk hlt,ziP]
 have h1:=h.ring;rw [e1] at h1;unfold adV;rw [h1.next];rcases zjb (i+1) ns.length with h2 | h2
 · rw [zjk h2]
   show Value.pointer (some ⟨ns[i+1],ofs c ns[i+1],none⟩)=_;rw [nR (fun h9=>h.ne (by rw [←h9];exact ziD h2)),zd9 (zib h2)]
 · rw [List.drop_eq_nil_of_le h2,za2 h2]
   show Value.pointer (some ⟨c,ofs c c,none⟩)=_;rw [zK]
theorem zex (h:gZ Kd w c m ns dt ah af most hit miss) (hns:ns.length≤1000000) :
 Calls Tryz.prog 61 #[.pointer (some ⟨c,0,none⟩)] w fun r' w'=>∃ A k,r'=.returned (.slice A ns.length k)∧w'.ownsRow w.heap.size 98 1 (.slice A ns.length k) ns.length (zeg ns)∧Below w.heap.size w w':=by
 obtain ⟨i0,hi,hz0,hz1,hz2⟩:=ziH Tryz.infPE;obtain ⟨q0,f0⟩:=h.nd.ca.rules;have u0:=h.nd.ca.lt;have hc0:=h.cur0;obtain ⟨n,hn⟩:∃ n,ns.length=n:=⟨_,rfl⟩;have HN:=zia hn;rw [hn] at hns ⊢;clear hn;go_enter Tryz.func61,Tryz.ntmps61
 go_upto_region 3 with fail;go_loopw [3,4] (fun x3 x4 wr=>∃ (i:Nat) (A:Option Addr) (k:Nat),x4=zgL c ns i∧i≤n∧x3=.slice A i k∧wr.ownsRow w.heap.size 98 1 (.slice A i k) i (zeg (ns.take i))∧Below w.heap.size w wr) (fun x3 _ _=>n-(match x3 with | .slice _ i _=>i | _=>0))
 case atStart=>exact ⟨0,none,0,by first | rfl | exact hc0,zir _,rfl,zin _ _ _ _,zif _ _⟩
 case round=>
  obtain ⟨i,A,k,rfl,hin,rfl,hown,hb⟩:=hrel;have hs:=hb.size;by_cases hlt:i<n
  case neg=>
   obtain rfl:i=n:=by omega
   have hne:=zf6 wr ⟨c,2,none⟩;rw [za2 (c:=c) (ns:=ns) (i:=i) (zjA HN.out)];rw [zip (by rw [HN.out];exact zic _)] at hown
   go_wp2;go_ret;exact ⟨A,k,rfl,hown,hb⟩
  have hlt':i<ns.length:=by rw [HN.out];exact hlt
  have hge:=zib hlt';have hcn:=(h.step hb).cur_next hge;obtain ⟨v,hE,-⟩:=(h.step hb).nd.en _ (ziD hlt');have hgm:=ziD hlt';have hta:zeg (ns.take (i+1))=zeg (ns.take i)++[.pointer (some ⟨ns[i],0,none⟩)]:=by unfold zeg;rw [ziy hlt',ziZ];rfl
  rw [zd9 hge];generalize ns[i]=g at hge hcn hE hta hgm;have hne:=zcj wr (a:=⟨g,0,none⟩) (b:=⟨c,2,none⟩) (by simp) hE (h.step hb).nd.ca
  clear hE;go_upto_region 4 with (at_builtin;refine dB rfl (.tmp 19) (.tmp 21) 147 rfl w.heap.size 98 i0 _ 8 Tryz.underlying147 hi hz0 hz1 hz2 rfl rfl hown rfl rfl rfl (by simp only [maxLen];omega) (by omega) (by omega) ?_;intro A' k' w3 hown3 hg3)
  have hb3:=hb.trans hg3.below;obtain ⟨v,hE,-⟩:=(h.step hb3).nd.en _ hgm;obtain ⟨q1,f1⟩:=hE.rules;have u1:=hE.lt;rw [←hta] at hown3;clear hne hown hb hg3 hta;go_wp2;go_roundw
  case rel=>exact ⟨i+1,A',k',by first | exact hcn | rfl,by omega,rfl,hown3,hb3⟩
  case measure=>simp;omega
def inR (lba n:Int) (y:En):Bool:=decide (lba≤y.lba) && decide (y.lba-lba<n)
def eQ (lba n:Int) (L:List En):List En:=L.filter fun y=>!inR lba n y
def iE (dt:Nat→En) (lba n:Int) (ns:List Nat):List Nat:=ns.filter fun g=>!inR lba n (dt g)
theorem xM (lba n:Int) (ns:List Nat):(iE dt lba n ns).map dt=eQ lba n (ns.map dt):=by
 unfold iE eQ;rw [List.filter_map];rfl
theorem zbb (lba n:Int) {i:Nat} (hi:ns[i]?=some g):iE dt lba n (ns.take (i+1))=iE dt lba n (ns.take i)++(if inR lba n (dt g) then [] else [g]):=by
 obtain ⟨hlt,hg⟩:=zil.1 hi;unfold iE;rw [ziy hlt,zj8,hg];congr 1
 rw [zj9];cases inR lba n (dt g) <;> rfl
theorem zcg (h:gZ Kd w c m ns dt ah af most hit miss) (hns:ns.length≤1000000) (lba n:Int) (hl:0≤lba∧lba≤9223372036854775807) :
 Calls Tryz.prog 25 #[.pointer (some ⟨c,0,none⟩),.int .i64 lba,.int .i64 n] w fun r' w'=>r'=.returned (.int .i64 (ns.length-(eQ lba n (ns.map dt)).length:Int))∧kC Kd w w' c m ns ⟨most,eQ lba n (ns.map dt),hit,miss⟩:=by
 have hall:=zex h hns;obtain ⟨N,hN⟩:∃ N,ns.length=N:=⟨_,rfl⟩;have HN:=zia hN;have hm0:=h.map.lt;have hlt0:=h.lt;rw [hN] at hall hns ⊢;clear hN;go_enter Tryz.func25,Tryz.ntmps25
 go_wp2_with fail;refine hall.mono ?_;rintro r' w1 ⟨A,k,rfl,hown,hb1⟩;have hrd:aG w1 (fun b=>w.heap.size≤b) 1 A N (zeg ns):=aG.of_own_ge hown
 have h1:=h.step hb1;have t1:aA w w1 (fun b=>b=m∨b∈c::ns):=aA.of hb1
 clear hall hown;go_upto_region 3 with fail;go_loopw [7,9,13] (fun x7 x9 x13 wr=>∃ (i:Nat) (ah' af':Nat→Nat),x13=.int .i64 i∧i≤N∧x7=.int .i64 (i-(iE dt lba n (ns.take i)).length:Int)∧gZ Kd wr c m (iE dt lba n (ns.take i)++ns.drop i) dt ah' af' most hit miss∧aG wr (fun b=>w.heap.size≤b) 1 A N (zeg ns)∧aA w wr (fun b=>b=m∨b∈c::ns)∧∃ y,x9=y) (fun _ _ x13 _=>N-(intOf x13).toNat)
 case atStart=>exact ⟨0,_,_,rfl,zir _,by simp [iE],h1,hrd,t1,_,rfl⟩
 case round=>
  clear h1 hrd t1 hb1;obtain ⟨i,ah',af',rfl,hi,rfl,h1,hrd,t1,y,rfl⟩:=hrel;have hkl:(iE dt lba n (ns.take i)).length≤i:=by
   refine zit (zj3 _ _) ?_;rw [zio];omega
  by_cases hlt:i<N
  case neg=>
   obtain rfl:i=N:=by omega
   have e1:ns.take i=ns:=zip (zjA HN.out);have e2:ns.drop i=[]:=List.drop_eq_nil_of_le (zjA HN.out);rw [e1,e2,ziz] at h1;rw [e1] at hkl ⊢;have e3:(iE dt lba n ns).length=(eQ lba n (ns.map dt)).length:=by rw [←xM,zjr]
   rw [e3];clear hrd;go_wp2;go_ret;exact ⟨rfl,_,⟨_,_,_,h1,xM ..⟩,t1,fun g hg=>.inl ((zji.1 hg).1)⟩
  have hlt':i<ns.length:=by rw [HN.out];exact hlt
  have hge:=zib hlt';have hks:=zbb (dt:=dt) lba n hge;have hdr:=zjk hlt';have hgm:ns[i]∈iE dt lba n (ns.take i)++ns.drop i:=by rw [hdr];exact ziR _ (zih ..)
  obtain ⟨ad,u,rfl,hKb,hpu,hcu⟩:=hrd.at_ hlt;rw [show (zeg ns)[i]?=some (.pointer (some ⟨ns[i],0,none⟩)) by unfold zeg;rw [zj1,hge];rfl] at hpu
  injection hpu with hpu;subst hpu;obtain ⟨v,hE,-⟩:=h1.nd.en _ hgm;have hgd:=h1.good _ hgm;rw [hdr] at h1;generalize ns[i]=g at hge hks hdr hgm hcu hE hgd h1;obtain ⟨q1,f1⟩:=hE.rules;have u1:=hE.lt;have j1:(i:Int)<(N:Int):=by omega
  have j0:(0:Int)≤(i:Int):=by omega
  have g1:=hgd.1;have g2:=hgd.2.1;have wv:IntKind.i64.wrap ((dt g).lba-lba)=(dt g).lba-lba:=ziI _ (by omega)
  have hKS:∀ b,w.heap.size≤b→¬(b=m∨b∈c::ns):=fun b hb h9=>by
   rcases h9 with h9 | h9
   · omega
   · have:=hlt0 b h9;omega
  have hsub:∀ b∈iE dt lba n (ns.take i)++ns.drop i,b∈ns:=fun b hb=>by
   rcases ziA.1 hb with h9 | h9
   · exact zjh (zji.1 h9).1
   · exact zky h9
  have hrd0:=hrd;have hKS2:=hKS;clear hgd hge hrd;by_cases hin:lba≤(dt g).lba∧(dt g).lba-lba<n
  case pos=>
   obtain ⟨i1,i2⟩:=hin;have hir:inR lba n (dt g)=true:=by unfold inR;rw [ziu i1,ziu i2];rfl
   rw [hir,zij rfl,ziz] at hks;rw [←hks] at h1 hkl ⊢;have hdp:=pG h1;have i1':(dt g).lba≥lba:=i1;have hkn:((iE dt lba n (ns.take (i+1))).length:Int)≤i:=by omega
   have wk:IntKind.i64.wrap ((i:Int)-(iE dt lba n (ns.take (i+1))).length+1)=(i:Int)-(iE dt lba n (ns.take (i+1))).length+1:=ziI _ (by omega)
   have HKS:=zia hks;clear hks hir;go_wp2_with fail;refine hdp.mono ?_;rintro r' w2 ⟨rfl,⟨ah2,af2,h2⟩,t2⟩;have hrd2:=hrd0.keep (t2.cells (K:=fun b=>w.heap.size≤b) fun b hb h9=>hKS2 b hb (by
    rcases h9 with h9 | h9
    · exact .inl h9
    · rcases zim.1 h9 with h8 | h8
      · exact .inr (by rw [h8];exact zih ..)
      · refine .inr (zii _ (hsub b ?_))
        rw [hdr];rw [HKS.out] at h8;exact h8))
   have t3:=t1.trans (t2.mono fun b h9=>by
    rcases h9 with h9 | h9
    · exact .inl h9
    · rcases zim.1 h9 with h8 | h8
      · exact .inr (by rw [h8];exact zih ..)
      · refine .inr (zii _ (hsub b ?_))
        rw [hdr];rw [HKS.out] at h8;exact h8)
   clear hdp q1 f1 u1 hcu hrd0 t1 t2 hE h1 hgm;go_wp2_with fail;go_roundw
   case rel=>exact ⟨i+1,_,_,by go_num,by omega,by go_num,h2,hrd2,t3,_,rfl⟩
   case measure=>simp [intOf];omega
  case neg=>
   have hir:inR lba n (dt g)=false:=by
    unfold inR;by_cases i1:lba≤(dt g).lba
    · rw [ziu i1,ziv fun i2=>hin ⟨i1,i2⟩];rfl
    · rw [ziv i1];rfl
   rw [hir] at hks;simp only [zjX,zjG] at hks;have h2:gZ Kd wr c m (iE dt lba n (ns.take (i+1))++ns.drop (i+1)) dt ah' af' most hit miss:=by rw [hks,ziq];exact h1
   have hkl2:(iE dt lba n (ns.take (i+1))).length=(iE dt lba n (ns.take i)).length+1:=by rw [hks,zie];rfl
   have HKL:=zia hkl2;clear hks hir hkl2;by_cases i1:lba≤(dt g).lba
   case pos=>
    have i2:¬(dt g).lba-lba<n:=fun i2=>hin ⟨i1,i2⟩
    have i1':(dt g).lba≥lba:=i1;clear hin;go_wp2_with fail;go_roundw
    case rel=>exact ⟨i+1,_,_,by go_num,by omega,by rw [HKL.out];go_num,h2,hrd0,t1,_,rfl⟩
    case measure=>simp [intOf];omega
   case neg=>
    have i1':¬(dt g).lba≥lba:=i1;clear hin;go_wp2_with fail;go_roundw
    case rel=>exact ⟨i+1,_,_,by go_num,by omega,by rw [HKL.out];go_num,h2,hrd0,t1,_,rfl⟩
    case measure=>simp [intOf];omega
theorem zau (a:Addr) (u:Int) (w:World) (hc:w.cell? a=some (.int .i64 u)) :
 Calls Tryz.prog 34 #[.pointer (some a)] w fun e w'=>e=.returned (.int .i64 u)∧w'=w:=by
 have hl:=run_call_load (P:=Tryz.prog) Tryz.func78 (by kernel_rfl) (by kernel_rfl) (by kernel_rfl) .i64 (by kernel_rfl) hc
 go_enter Tryz.func34,Tryz.ntmps34
 go_wp2;go_ret;exact ⟨rfl,rfl⟩
theorem tN (h:gZ Kd w c m ns dt ah af most hit miss) :
 Calls Tryz.prog 13 #[.pointer (some ⟨c,0,none⟩)] w fun r' w'=>r'=.returned (.tuple #[.int .i64 hit,.int .i64 miss])∧Below w.heap.size w w':=by
 have hb:=h.nd.ca;go_enter Tryz.func13,Tryz.ntmps13
 go_upto_region 1 with fail;refine wp_region_held_drew (S:=fun W=>Below w.heap.size w W) (by kernel_rfl) (zif _ _).drew (fun hHeld=>?_)
 generalize w.drew=w1 at hHeld ⊢;refine wT 0 4 ?_;refine wT 1 5 ?_;refine wT 2 6 ?_;refine wT 4 8 ?_;refine wT 5 9 ?_;refine wT 6 10 ?_;refine wR 3 7 (fun K hK=>?_)
 go_simp;refine (zau ⟨c,7,none⟩ hit _ ((hb.step hHeld).rules.1 7)).mono ?_;rintro e w9 ⟨rfl,rfl⟩;go_wp2_with fail;refine hK.out _ _ hHeld (fun hHeld=>?_)
 clear hK K;try simp only [pu,List.set]
 refine wR 7 11 (fun K hK=>?_)
 go_simp;refine (zau ⟨c,8,none⟩ miss _ ((hb.step hHeld).rules.1 8)).mono ?_;rintro e w9 ⟨rfl,rfl⟩;go_wp2_with fail;refine hK.out _ _ hHeld (fun hHeld=>?_)
 clear hK K;refine wT 8 2 ?_;refine wT 9 3 ?_;refine wpAnyH_done (by kernel_rfl) ?_ _
 go_wp2_with fail;go_ret2;exact ⟨rfl,hHeld⟩
theorem ze6 (most:Int) (w:World) :
 Calls Tryz.prog 22 #[.int .i64 most] w fun r' w'=>∃ c m,r'=.returned (.pointer (some ⟨c,0,none⟩))∧zbt Kd w' c m [] ⟨max most 0,[],0,0⟩∧w.heap.size≤c∧w.heap.size≤m∧Below w.heap.size w w':=by
 have hmk:=@run_makeMap Tryz.prog;go_enter Tryz.func22,Tryz.ntmps22
 go_upto_region 2 with fail;clear hmk;have hb0:Below w.heap.size w ((w.alloc (.map #[] 0)).alloc (.cells #[.int .i64 (max most 0),.map (some w.heap.size),.int .i64 0,.int .i64 0,.slice none 0 0,.pointer none,.pointer none,.int .i64 0,.int .i64 0] 107)):=(zBA).alloc (by rw [zid];omega) _
 have hM:=((kD.made (P:=Tryz.prog) (k:=3) w).step ((zif _ _).alloc (zic _) (.cells #[.int .i64 (max most 0),.map (some w.heap.size),.int .i64 0,.int .i64 0,.slice none 0 0,.pointer none,.pointer none,.int .i64 0,.int .i64 0] 107)));have hB:=Blk.new (w.alloc (.map #[] 0)) 107 #[.int .i64 (max most 0),.map (some w.heap.size),.int .i64 0,.int .i64 0,.slice none 0 0,.pointer none,.pointer none,.int .i64 0,.int .i64 0] rfl;rw [zid] at hB;replace hb0:=hb0.drew;replace hM:=hM.step (zif _ _).drew;replace hB:=hB.drew;obtain ⟨m,hm⟩:∃ m,w.heap.size=m:=⟨_,rfl⟩;obtain ⟨mm,hmm⟩:∃ mm,max most 0=mm:=⟨_,rfl⟩;rw [hm] at hB hM hb0 ⊢;rw [hmm] at hB hM hb0 ⊢;refine wp_region_held_drew (S:=fun _=>True) (by kernel_rfl) trivial (fun hHeld=>?_)
 generalize ((w.alloc (.map #[] 0)).alloc (.cells #[.int .i64 mm,.map (some m),.int .i64 0,.int .i64 0,.slice none 0 0,.pointer none,.pointer none,.int .i64 0,.int .i64 0] 107)).drew=w1 at hB hM hb0 hHeld ⊢;refine wT 0 9 ?_;refine wT 1 10 ?_;refine wT 2 11 ?_;refine wT 3 12 ?_;refine wT 4 13 ?_;refine wT 5 14 ?_;refine wT 6 15 ?_;refine wT 7 16 ?_;refine wT 8 17 ?_;refine wT 9 18 ?_;refine wT 10 19 ?_;refine wRn 11 (fun K hK=>?_)
 obtain ⟨q0,f0⟩:=hB.rules;have u0:=hB.lt;go_simp;refine cF (K:=K _) hB 5 _ ?_;intro w2 s2 t2 hB2;refine hK.out _ _ trivial (fun hHeld=>?_)
 clear q0 f0 u0;clear hK K;refine wT 12 20 ?_;refine wT 13 21 ?_;refine wT 14 22 ?_;refine wRn 15 (fun K hK=>?_)
 obtain ⟨q0,f0⟩:=hB2.rules;have u0:=hB2.lt;go_simp;refine cF (K:=K _) hB2 6 _ ?_;intro w3 s3 t3 hB3;refine hK.out _ _ trivial (fun hHeld=>?_)
 clear q0 f0 u0;clear hK K;try simp only [pu,List.set]
 refine wpAnyH_done (by kernel_rfl) ?_ _
 go_wp2_with fail;go_ret;have hpt:(.pointer (some ⟨m+1,2,none⟩):Value)=adV (m+1) (m+1):=by unfold adV;rw [zK]
 have hB3':Blk w3 (m+1) 107 (caC mm m (m+1) (m+1) (m+1) 0 0):=by
  unfold caC;rw [←hpt];exact hB3
 have t23:aA w1 w3 (fun b=>b=m+1):=t2.trans t3
 rw [←hmm] at hB3';exact ⟨m+1,m,rfl,⟨fun _=>⟨0,0,[]⟩,fun _=>m+1,fun _=>m+1,⟨⟨hB3',fun g hg=>absurd hg (by simp)⟩,qB.made,hM.turned t23 (by omega),by simp,fun g hg=>absurd hg (by simp)⟩,rfl⟩,by omega,zjA hm,by rw [hm];exact aA.upon hb0 t23 (by omega) (zjA hm.symm)⟩
end
