/- A part of the proof. -/
import Derived.Test.YthblkdnijhphhaaGreatHostRoom2
import Derived.Test.YthblkdnijhphhaaGreatHostRecs
import Derived.Test.YthblkdnijhphhaaGreatCache
set_option linter.unusedSimpArgs false
set_option maxHeartbeats 16000000
set_option maxRecDepth 100000
namespace Go.Proofs.YthblkdnijhphhaaGreat
open Go.RowKit
theorem znJ {K:World→Prop} {w:World} {g:Nat} {t:TypeId} {u0 u1 u2 u3 u4 u5 u6 u7 u8 u9 u10 u11 u12 u13 u14 u15 u16 u17 u18:Value} (hB:Blk w g t #[u0,u1,u2,u3,u4,u5,u6,u7,u8,u9,u10,u11,u12,u13,u14,u15,u16,u17,u18]) (x0 x1 x2 x3 x4 x5 x6 x7 x8 x9 x10 x11 x12 x13 x14:Value)
 (h:∀ wy,wy.heap.size=w.heap.size→za0 w wy (fun b=>b=g)→Blk wy g t #[x0,x1,x2,x3,x4,x5,x6,x7,x8,x9,x10,x11,x12,x13,x14,u15,u16,u17,u18]→K wy):K (((((((((((((((w.setCell ⟨g,0,none⟩ x0).setCell ⟨g,1,none⟩ x1).setCell ⟨g,2,none⟩ x2).setCell ⟨g,3,none⟩ x3).setCell ⟨g,4,none⟩ x4).setCell ⟨g,5,none⟩ x5).setCell ⟨g,6,none⟩ x6).setCell ⟨g,7,none⟩ x7).setCell ⟨g,8,none⟩ x8).setCell ⟨g,9,none⟩ x9).setCell ⟨g,10,none⟩ x10).setCell ⟨g,11,none⟩ x11).setCell ⟨g,12,none⟩ x12).setCell ⟨g,13,none⟩ x13).setCell ⟨g,14,none⟩ x14):=by
 have t0:=za0.refl w (fun b=>b=g)
 have t1:=t0.set (g:=g) rfl 0 x0;replace hB:Blk _ g t #[x0,u1,u2,u3,u4,u5,u6,u7,u8,u9,u10,u11,u12,u13,u14,u15,u16,u17,u18]:=hB.set_ 0 x0;have t2:=t1.set (g:=g) rfl 1 x1;replace hB:Blk _ g t #[x0,x1,u2,u3,u4,u5,u6,u7,u8,u9,u10,u11,u12,u13,u14,u15,u16,u17,u18]:=hB.set_ 1 x1;have t3:=t2.set (g:=g) rfl 2 x2;replace hB:Blk _ g t #[x0,x1,x2,u3,u4,u5,u6,u7,u8,u9,u10,u11,u12,u13,u14,u15,u16,u17,u18]:=hB.set_ 2 x2;have t4:=t3.set (g:=g) rfl 3 x3;replace hB:Blk _ g t #[x0,x1,x2,x3,u4,u5,u6,u7,u8,u9,u10,u11,u12,u13,u14,u15,u16,u17,u18]:=hB.set_ 3 x3;have t5:=t4.set (g:=g) rfl 4 x4;replace hB:Blk _ g t #[x0,x1,x2,x3,x4,u5,u6,u7,u8,u9,u10,u11,u12,u13,u14,u15,u16,u17,u18]:=hB.set_ 4 x4;have t6:=t5.set (g:=g) rfl 5 x5;replace hB:Blk _ g t #[x0,x1,x2,x3,x4,x5,u6,u7,u8,u9,u10,u11,u12,u13,u14,u15,u16,u17,u18]:=hB.set_ 5 x5;have t7:=t6.set (g:=g) rfl 6 x6;replace hB:Blk _ g t #[x0,x1,x2,x3,x4,x5,x6,u7,u8,u9,u10,u11,u12,u13,u14,u15,u16,u17,u18]:=hB.set_ 6 x6;have t8:=t7.set (g:=g) rfl 7 x7;replace hB:Blk _ g t #[x0,x1,x2,x3,x4,x5,x6,x7,u8,u9,u10,u11,u12,u13,u14,u15,u16,u17,u18]:=hB.set_ 7 x7;have t9:=t8.set (g:=g) rfl 8 x8;replace hB:Blk _ g t #[x0,x1,x2,x3,x4,x5,x6,x7,x8,u9,u10,u11,u12,u13,u14,u15,u16,u17,u18]:=hB.set_ 8 x8;have t10:=t9.set (g:=g) rfl 9 x9;replace hB:Blk _ g t #[x0,x1,x2,x3,x4,x5,x6,x7,x8,x9,u10,u11,u12,u13,u14,u15,u16,u17,u18]:=hB.set_ 9 x9;have t11:=t10.set (g:=g) rfl 10 x10;replace hB:Blk _ g t #[x0,x1,x2,x3,x4,x5,x6,x7,x8,x9,x10,u11,u12,u13,u14,u15,u16,u17,u18]:=hB.set_ 10 x10;have t12:=t11.set (g:=g) rfl 11 x11;replace hB:Blk _ g t #[x0,x1,x2,x3,x4,x5,x6,x7,x8,x9,x10,x11,u12,u13,u14,u15,u16,u17,u18]:=hB.set_ 11 x11;have t13:=t12.set (g:=g) rfl 12 x12;replace hB:Blk _ g t #[x0,x1,x2,x3,x4,x5,x6,x7,x8,x9,x10,x11,x12,u13,u14,u15,u16,u17,u18]:=hB.set_ 12 x12;have t14:=t13.set (g:=g) rfl 13 x13;replace hB:Blk _ g t #[x0,x1,x2,x3,x4,x5,x6,x7,x8,x9,x10,x11,x12,x13,u14,u15,u16,u17,u18]:=hB.set_ 13 x13;have t15:=t14.set (g:=g) rfl 14 x14;replace hB:Blk _ g t #[x0,x1,x2,x3,x4,x5,x6,x7,x8,x9,x10,x11,x12,x13,x14,u15,u16,u17,u18]:=hB.set_ 14 x14;exact h _ (by simp) t15 hB
theorem zmE {p:Pk} {l:List Rc} (hp:OkPk p) (h:(addL p l).2.2=0) (hl:l.length≤100000000) (hpl:p.l.length≤1000000000):OkPk (addL p l).1:=by
 obtain ⟨h1,h2,h3,h4,h5,h6⟩:=hp;unfold addL at h ⊢;split at h
 · rename_i h0;exact absurd h h0
 · rename_i h0
   rw [if_neg h0];split at h
   · exact absurd h (by decide)
   · rename_i h7
     rw [if_neg h7];unfold zcq at h7;refine ⟨h1,h2,h3,h4,?_,?_⟩
     · simp only [List.length_append];omega
     · simp only [List.length_append];omega
theorem zmW (g:Nat) (h:Ho) (d:Zd) (lv:Value) (l:List Rc) (K K':Nat→Prop) (w:World) (hW:WrAt w g K h d) (hKlt:∀ b,K b→b<w.heap.size∧b≠g) (hp:OkPk h.p) (hl:IsL Rp.rc w K' lv l) (hll:l.length≤100000000) (hn:d.z.length*40≤140737488355328)
 (hpl:h.p.l.length≤1000000000) (hbuf:(addL h.p l).2.2=0→(addL h.p l).1.buf≠[]) :
 Calls Tryz.prog 73 #[.pointer (some ⟨g,0,none⟩),lv] w fun e w'=>∃ Aa ca,e=.returned (.tuple #[.slice Aa (putW d h l).2.2.1.length ca,.int .i64 (putW d h l).2.2.2])∧w'.ownsRow w.heap.size 3 1 (.slice Aa (putW d h l).2.2.1.length ca) (putW d h l).2.2.1.length ((putW d h l).2.2.1.map I64) ∧
  WrAt w' g (fun b=>K b∨w.heap.size≤b) (putW d h l).2.1 (putW d h l).1∧za0 w w' (fun b=>b=g):=by
 obtain ⟨vo,vs,vb,vl,vm,vz,hB,h1,h2,h3,h4,h5,h6⟩:=hW;obtain ⟨Ao,co,rfl,-⟩:=h1.form;obtain ⟨As,cs,rfl,-⟩:=h2.form;obtain ⟨Ab,cb,rfl,-⟩:=zab h3;obtain ⟨Al,cl,rfl,-⟩:=h4.form;obtain ⟨Am,cm,rfl,-⟩:=h5.form;obtain ⟨Az,cz,rfl,-⟩:=h6.form;have hgl:=hB.lt;have E:=(((((((Kn.start w).know hB).give za1.list h1).give za1.list h2).give za1.bytes h3).give za1.list h4).give za1.list h5).give za1.list h6;have hok:=zmE (l:=l) hp;have had:=fun W a b c=>zob (pkV h.p (.slice Ab h.p.buf.length cb) (.slice Al h.p.l.length cl)) lv h.p l K K' W a b hp c hll
 obtain ⟨res,hres⟩:∃ res,putW d h l=res:=⟨_,rfl⟩;rw [hres];unfold putW at hres;obtain ⟨r,hr⟩:∃ r,addL h.p l=r:=⟨_,rfl⟩;rw [hr] at had hres hok hbuf;obtain ⟨q,at_,e1⟩:=r;simp only at had hres hok hbuf;have HRES:=Lib.hid hres;have HKL:=Lib.hid hKlt;have km:∀ b,K b→K b∨w.heap.size≤b:=fun b h=>.inl h
 unfold pkV at had;clear hB h1 h2 h3 h4 h5 h6 hres hr hKlt;go_enter Tryz.func73,Tryz.ntmps73
 obtain ⟨q0,f0,t0⟩:=E.rules m0;go_wp2_with fail;refine (had _ ⟨_,_,rfl,E.get m3,E.get m2⟩ (fun b hb=>(HKL.out b hb).1) hl).mono ?_
 rintro e w2 ⟨pv,A2,c2,rfl,⟨qb,ql,hpv,hqb,hql⟩,own2,hb2⟩;unfold pkV at hpv;subst hpv;obtain ⟨Aq,cq,rfl,-⟩:=zab hqb;obtain ⟨Ar,cr,rfl,-⟩:=hql.form;replace E:=((E.step hb2).give za1.bytes hqb).give za1.list hql;clear q0 f0 t0 had hqb hql hl;go_upto_region 2 with fail;replace E:=E.push 35 (pkC q (.slice Aq q.buf.length cq) (.slice Ar q.l.length cr));have own3:=own2.alloc (.cells (pkC q (.slice Aq q.buf.length cq) (.slice Ar q.l.length cr)) 35);have hb3:=hb2.alloc hb2.size (.cells (pkC q (.slice Aq q.buf.length cq) (.slice Ar q.l.length cr)) 35);have hs2:=hb2.size;generalize w2.alloc (.cells (pkC q (.slice Aq q.buf.length cq) (.slice Ar q.l.length cr)) 35)=w3 at E own3 hb3 ⊢;clear hb2 own2;obtain ⟨an,han⟩:∃ an,at_.length=an:=⟨_,rfl⟩;rw [han] at own3 ⊢;have HAN:=Lib.hid han;clear han;by_cases he:e1=0
 case neg=>
  have he2:(e1 == (0:Int))=false:=by simpa using he
  have hr:=HRES.out;rw [if_pos he] at hr;subst hr;clear HRES;go_wp2;refine bodyPost_ret (v:=.tuple #[.slice none 0 0,.int .i64 e1]) (by simp [results,Tryz.results73,go_sem]) rfl ⟨none,0,rfl,World.ownsRow_nil _ _ _ _,⟨_,_,_,_,_,_,E.at_ m1,(E.get m7).more km,(E.get m6).more km,(E.get m5).more km,(E.get m4).more km,(E.get m3).more km,(E.get m2).more km⟩,za0.of hb3⟩
 subst he;have hok:=hok rfl hll hpl;have hbuf:=hbuf rfl;have hr:=HRES.out;rw [if_neg (by simp),if_neg hbuf] at hr
 have HR:=Lib.hid hr;clear hr HRES;have hq47:q.buf.length≤140737488355328:=by have:=(E.get m1).open_;have:=zab (E.get m1);obtain ⟨_,_,_,h47⟩:=this;exact h47
 have hfl:=fun W (X:Nat→Prop) (a:IsPk W X (pkV q (.slice Aq q.buf.length cq) (.slice Ar q.l.length cr)) q)=>zjw (pkV q (.slice Aq q.buf.length cq) (.slice Ar q.l.length cr)) q X W a hok hbuf
 unfold pkV cmdV at hfl;obtain ⟨q0,f0,t0⟩:=E.rules m0;go_wp2_with fail;refine (hfl _ _ ⟨_,_,rfl,E.get m1,E.get m0⟩).mono ?_;rintro e w4 ⟨A4,c4,rfl,own4,hb4⟩;have hbf4:IsB w4 (fun b=>w3.heap.size≤b) (.slice A4 q.buf.length c4) q.buf:=IsB.of_own own4 hq47
 replace E:=(E.step hb4).give za1.bytes hbf4;replace own3:=za4 own3 hb4 (Nat.le_refl _);have hs3:=hb3.size;have hs4:=hb4.size;replace hb3:=hb3.trans (hb4.mono hs3);clear q0 f0 t0 hfl own4 hb4 hbf4;go_upto_region 5 with fail;replace E:=(E.push 78 #[.int .i64 1,.int .i64 q.zone,.int .i64 q.h.epoch,.int .i64 0,.int .i64 0,.slice A4 q.buf.length c4]).push 35 (pkC (zca q) (.slice none 0 0) (.slice none 0 0));rw [World.size_alloc] at E;replace own3:=(own3.alloc (.cells #[.int .i64 1,.int .i64 q.zone,.int .i64 q.h.epoch,.int .i64 0,.int .i64 0,.slice A4 q.buf.length c4] 78)).alloc (.cells (pkC (zca q) (.slice none 0 0) (.slice none 0 0)) 35);replace hb3:=(hb3.alloc hb3.size (.cells #[.int .i64 1,.int .i64 q.zone,.int .i64 q.h.epoch,.int .i64 0,.int .i64 0,.slice A4 q.buf.length c4] 78)).alloc (hb3.alloc hb3.size (.cells #[.int .i64 1,.int .i64 q.zone,.int .i64 q.h.epoch,.int .i64 0,.int .i64 0,.slice A4 q.buf.length c4] 78)).size (.cells (pkC (zca q) (.slice none 0 0) (.slice none 0 0)) 35);generalize (w4.alloc (.cells #[.int .i64 1,.int .i64 q.zone,.int .i64 q.h.epoch,.int .i64 0,.int .i64 0,.slice A4 q.buf.length c4] 78)).alloc (.cells (pkC (zca q) (.slice none 0 0) (.slice none 0 0)) 35)=w5 at E own3 hb3 ⊢;have hs5:w4.heap.size+1<w5.heap.size:=(E.at_ m0).lt;have hw3:w.heap.size≤w3.heap.size:=by omega
 have hdo:=fun W a b c e=>zkG g h (.slice Ao h.own.length co) (.slice As h.s.length cs) (.slice Ab h.p.buf.length cb) (.slice Al h.p.l.length cl) (.slice Am h.m.length cm) d Az cz ⟨1,q.zone,q.h.epoch,0,0,q.buf⟩ A4 c4 (fun b=>(K b∨w3.heap.size≤b)∧b<w5.heap.size) W a b c e hn (show (0:Int)≤9223372036854775807 by decide)
 obtain ⟨rd,hrd⟩:∃ rd,doZ d ⟨1,q.zone,q.h.epoch,0,0,q.buf⟩=rd:=⟨_,rfl⟩;rw [hrd] at hdo HR;obtain ⟨d',x⟩:=rd;simp only at hdo HR;clear hrd;have kn:∀ b,K b→¬b=g:=fun b hb=>(HKL.out b hb).2
 obtain ⟨q0,f0,t0⟩:=E.rules m1;go_wp2_with fail;refine (hdo _ (E.at_ m3) ((E.get m3).zlt.more fun b hb=>⟨.inl hb.1,hb.2⟩) (fun b hb=>⟨hb.2,by rcases hb.1 with h1 | h1;exact kn b h1;omega⟩) ((E.get m0).lt.more fun b hb=>⟨.inr hb.1,hb.2⟩)).mono ?_
 rintro e w6 ⟨A9,c9,rfl,hB9,hz9,ht9⟩;have b1:=(E.get m8).turned ht9 kn;have b2:=(E.get m7).turned ht9 kn;have b3:=(E.get m6).turned ht9 kn;have b4:=(E.get m5).turned ht9 kn;have b5:=(E.get m4).turned ht9 kn;have hBp:=(E.at_ m0).turned ht9 (show ¬w4.heap.size+1=g by omega)
 have own6:=za7 own3 ht9 hgl;have hT:=(za0.of (S:=fun b=>b=g) hb3).trans ht9
 have hz6:=hz9.more (K':=fun b=>K b∨w.heap.size≤b) fun b hb=>by rcases hb with hb | hb;(rcases hb.1 with h1 | h1;exact .inl h1;exact .inr (by omega));exact .inr (by omega)
 have hs6:=hT.size;clear q0 f0 t0 E hdo own3 ht9 hz9;obtain ⟨q0,f0⟩:=hB9.rules;have t0:=hB9.lt;obtain ⟨q1,f1⟩:=hBp.rules;have t1:=hBp.lt;by_cases hx:x.e=0
 case neg=>
  have hx2:(x.e == (0:Int))=false:=by simpa using hx
  have hr:=HR.out;rw [if_pos hx] at hr;subst hr;clear HR;go_wp2_with fail;refine (zfH h _ K _ ⟨_,_,_,_,_,rfl,b1,b2,b3,b4,b5⟩).mono ?_;rintro e w7 ⟨v7,rfl,⟨vo7,vs7,vb7,vl7,vm7,hv7,a1,a2,a3,a4,a5⟩,hb7⟩;obtain ⟨Ao7,co7,rfl,-⟩:=a1.form;obtain ⟨As7,cs7,rfl,-⟩:=a2.form;obtain ⟨Ab7,cb7,rfl,-⟩:=zab a3;obtain ⟨Al7,cl7,rfl,-⟩:=a4.form;obtain ⟨Am7,cm7,rfl,-⟩:=a5.form;subst hv7;have hB7:=hB9.step hb7;have hz7:=hz6.step hb7;have hT7:=hT.trans (za0.of hb7);clear q0 f0 t0 q1 f1 t1 hB9 hz6 own6 hBp;obtain ⟨q0,f0⟩:=hB7.rules;have t0:=hB7.lt;go_upto_region 9 with fail;refine znJ (K:=fun W=>Code.wp _ _ _ _ W) hB7 _ _ _ _ _ _ _ _ _ _ _ _ _ _ _ ?_
  intro w8 hs8 ht8 hB8;have kz:∀ b,(K b∨w.heap.size≤b)→¬b=g:=fun b hb e=>by rcases hb with hb | hb;exact kn b hb e;omega
  go_wp2;refine bodyPost_ret (v:=.tuple #[.slice none 0 0,.int .i64 x.e]) (by simp [results,Tryz.results73,go_sem]) rfl ⟨none,0,rfl,World.ownsRow_nil _ _ _ _,⟨_,_,_,_,_,_,hB8,(a1.turned ht8 kn).more km,(a2.turned ht8 kn).more km,(a3.turned ht8 kn).more km,(a4.turned ht8 kn).more km,(a5.turned ht8 kn).more km,hz7.turned ht8 kz⟩,hT7.trans ht8⟩
 have hr:=HR.out;rw [if_neg (by rw [hx];simp)] at hr
 subst hr;clear HR;go_upto_region 11 with fail;refine zlK (K:=fun W=>Code.wp _ _ _ _ W) hB9 _ _ _ _ _ _ _ _ ?_
 intro w8 hs8 ht8 hB8;have kz:∀ b,(K b∨w.heap.size≤b)→¬b=g:=fun b hb e=>by rcases hb with hb | hb;exact kn b hb e;omega
 have own8:=za7 own6 ht8 hgl;have hfb:(zca q).buf=[]∧(zca q).l=[]:=by unfold zca;rw [if_neg (by first | exact hbuf | exact hbuf trivial)];exact ⟨rfl,rfl⟩
 clear q0 f0 t0 q1 f1 t1;go_wp2;refine bodyPost_ret (v:=.tuple #[.slice A2 an c2,.int .i64 0]) (by simp [results,Tryz.results73,go_sem]) rfl ⟨A2,c2,by rw [HAN.out],by rw [HAN.out];exact own8,⟨_,_,_,_,_,_,hB8,(b1.turned ht8 kn).more km,(b2.turned ht8 kn).more km,by show IsB _ _ _ (zca q).buf;rw [hfb.1];exact IsB.nil_ _ _,by show IsL Rp.rc _ _ _ (zca q).l;rw [hfb.2];exact IsL.nil_ _ _,(b5.turned ht8 kn).more km,hz6.turned ht8 kz⟩,hT.trans ht8⟩
def b8 (x:Int):UInt8:=UInt8.ofNat (x % 256).toNat
theorem znI (x:Int):((b8 x).toNat:Int)=IntKind.u8.wrap x:=by
 unfold b8;have h:(x % 256).toNat<256:=by omega
 rw [UInt8.toNat_ofNat',Nat.mod_eq_of_lt (by omega)]
 simp only [IntKind.wrap,IntKind.bits,IntKind.signed];simp;omega
end Go.Proofs.YthblkdnijhphhaaGreat
namespace Go.Proofs.YthblkdnijhphhaaGreat
open Go.RowKit Go.WideShapes Go.ChangeShapes Go.Deep
end Go.Proofs.YthblkdnijhphhaaGreat
namespace Go.Proofs.YthblkdnijhphhaaGreat
open Go.RowKit
theorem zkY:zhs []:=by
 intro v K w hv;obtain ⟨A,c,rfl,hl47⟩:=zab hv;rw [zm0];go_enter Tryz.func194,Tryz.ntmps194
 go_wp2_with fail;refine (zf0 _).mono ?_;rintro e w1 ⟨g,rfl,hg,hT1,hb1⟩;rw [World.size_alloc] at hg;have E:=(((Kn.start w).push 182 #[.bool false,.int .i64 0,.int .i64 0,.int .i64 0,.slice none 0 0,.slice none 0 0,.int .i64 0]).step hb1).push 225 #[.pointer (some ⟨g,0,none⟩)];have hgl:=hT1.lt;go_wp2_with fail;have hT1':=hT1.step ((Below.refl _ _).alloc (Nat.le_refl _) (.cells #[.pointer (some ⟨g,0,none⟩)] 225));generalize w1.alloc (.cells #[.pointer (some ⟨g,0,none⟩)] 225)=w2 at E hT1' ⊢;have htf:zdq []=([],0,false):=by kernel_rfl
 have hcall:=fun W h=>zli g (.slice A 0 c) [] (fun _=>False) W h ⟨A,c,rfl,⟨rfl,fun h=>absurd h (by decide)⟩,by simp,by have:=(IsB.open_ hv).2.2.2.1;omega,by simp⟩
 rw [htf] at hcall;dsimp only [List.length_nil] at hcall;go_loopw [] (fun wr=>wr=w2) (fun _=>1)
 case atStart=>exact rfl
 case round=>
  subst hrel;go_upto_region 2 with fail;have hb0:Below wr.heap.size wr wr.drew:=(Below.refl _ _).drew;replace E:=E.step hb0;have hT2:=hT1'.step hb0;refine wp_region_held_drew (S:=fun W=>(∀ o,W.cell? ⟨w.heap.size,o,none⟩=(#[.bool false,.int .i64 0,.int .i64 0,.int .i64 0,.slice none 0 0,.slice none 0 0,.int .i64 0]:Array Value)[o]?)∧∀ o,W.cell? ⟨w1.heap.size,o,none⟩=(#[.pointer (some ⟨g,0,none⟩)]:Array Value)[o]?) (by kernel_rfl) ⟨(E.rules m1).1,(E.rules m0).1⟩ (fun hHeld=>?_)
  generalize wr.drew=wx at E hT2 hHeld ⊢;clear hT1' hb0;refine wT 0 13 ?_;refine wT 1 14 ?_;refine wT 2 15 ?_;refine wT 3 16 ?_;refine wT 4 17 ?_;refine wR 5 18 (fun K hK=>?_)
  go_simp;refine (hcall _ hT2).mono ?_;rintro e w5 ⟨A6,c6,rfl,-,hT6,ht6⟩;have B0:=(E.at_ m1).turned ht6 (show ¬w.heap.size=g by omega)
  have B1:=(E.at_ m0).turned ht6 (show ¬w1.heap.size=g by omega)
  have hbw:=E.below.trans (ht6.below (B:=w.heap.size) (fun k hk=>by subst hk;omega) E.below.size)
  go_wp2_with fail;refine hK.out _ _ ⟨B0.rules.1,B1.rules.1⟩ (fun hHeld=>?_)
  clear hK K;refine wT 6 12 ?_;refine wT 7 19 ?_;refine wT 8 20 ?_;refine wT 9 21 ?_;refine wT 10 4 ?_;refine wT 11 5 ?_;refine wT 12 6 ?_;refine wpAnyH_done (by kernel_rfl) ?_ _
  obtain ⟨q0,f0⟩:=B0.rules;have t0:=B0.lt;clear E hcall htf hT2 hHeld;go_wp2_with fail;refine ziE (K:=fun W=>bodyPost _ _ _ _ _ W) B0 _ _ _ _ _ _ _ ?_
  intro w8 ht8 hB8;obtain ⟨q9,f9⟩:=hB8.rules;have hb9:=za0.upon hbw ht8 (Nat.le_refl _) (Nat.le_refl _);refine bodyPost_ret (v:=.agg #[.bool false,.int .i64 0,.int .i64 0,.int .i64 0,.slice none 0 0,.slice none 0 0,.int .i64 0]) (by simp [results,Tryz.results194,go_sem,q9]) rfl ⟨none,0,none,0,rfl,IsL.nil_ _ _,IsL.nil_ _ _,hb9⟩
end Go.Proofs.YthblkdnijhphhaaGreat
namespace Go.Proofs.YthblkdnijhphhaaGreat
open Go.RowKit Go.WideMaps
section
variable {Kd:Nat→Prop} {w w':World} {c m g e:Nat} {most hit miss:Int} {ns l r:List Nat} {dt:Nat→En} {ah af:Nat→Nat}
theorem ziy (a:Addr) (u:Int) (w:World) (hc:w.cell? a=some (.int .i64 u)) :
 Calls Tryz.prog 26 #[.pointer (some a)] w fun e w'=>e=.returned (.int .i64 u)∧w'=w:=by
 have hl:=run_call_load (P:=Tryz.prog) Tryz.func63 (by kernel_rfl) (by kernel_rfl) (by kernel_rfl) .i64 (by kernel_rfl) hc
 go_enter Tryz.func26,Tryz.ntmps26
 go_wp2;go_ret;exact ⟨rfl,rfl⟩
theorem zhE (h:CaAt Kd w c m ns dt ah af most hit miss) :
 Calls Tryz.prog 11 #[.pointer (some ⟨c,0,none⟩)] w fun r' w'=>r'=.returned (.tuple #[.int .i64 hit,.int .i64 miss])∧Below w.heap.size w w':=by
 have hb:=h.nd.ca;go_enter Tryz.func11,Tryz.ntmps11
 go_upto_region 1 with fail;refine wp_region_held_drew (S:=fun W=>Below w.heap.size w W) (by kernel_rfl) (Below.refl _ _).drew (fun hHeld=>?_)
 generalize w.drew=w1 at hHeld ⊢;refine wT 0 4 ?_;refine wT 1 5 ?_;refine wT 2 6 ?_;refine wT 4 8 ?_;refine wT 5 9 ?_;refine wT 6 10 ?_;refine wR 3 7 (fun K hK=>?_)
 go_simp;refine (ziy ⟨c,7,none⟩ hit _ ((hb.step hHeld).rules.1 7)).mono ?_;rintro e w9 ⟨rfl,rfl⟩;go_wp2_with fail;refine hK.out _ _ hHeld (fun hHeld=>?_)
 clear hK K;try simp only [pu,List.set]
 refine wR 7 11 (fun K hK=>?_)
 go_simp;refine (ziy ⟨c,8,none⟩ miss _ ((hb.step hHeld).rules.1 8)).mono ?_;rintro e w9 ⟨rfl,rfl⟩;go_wp2_with fail;refine hK.out _ _ hHeld (fun hHeld=>?_)
 clear hK K;refine wT 8 2 ?_;refine wT 9 3 ?_;refine wpAnyH_done (by kernel_rfl) ?_ _
 go_wp2_with fail;go_ret2;exact ⟨rfl,hHeld⟩
theorem zmc (most:Int) (w:World) :
 Calls Tryz.prog 23 #[.int .i64 most] w fun r' w'=>∃ c m,r'=.returned (.pointer (some ⟨c,0,none⟩))∧IsCa Kd w' c m [] ⟨max most 0,[],0,0⟩∧w.heap.size≤c∧w.heap.size≤m∧Below w.heap.size w w':=by
 have hmk:=@run_makeMap Tryz.prog;go_enter Tryz.func23,Tryz.ntmps23
 go_upto_region 2 with fail;clear hmk;have hb0:Below w.heap.size w ((w.alloc (.map #[] 0)).alloc (.cells #[.int .i64 (max most 0),.map (some w.heap.size),.int .i64 0,.int .i64 0,.slice none 0 0,.pointer none,.pointer none,.int .i64 0,.int .i64 0] 96)):=((Below.refl _ _).alloc (Nat.le_refl _) _).alloc (by rw [World.size_alloc];omega) _
 have hM:=((PtrM.made (P:=Tryz.prog) (k:=3) w).step ((Below.refl _ _).alloc (Nat.le_refl _) (.cells #[.int .i64 (max most 0),.map (some w.heap.size),.int .i64 0,.int .i64 0,.slice none 0 0,.pointer none,.pointer none,.int .i64 0,.int .i64 0] 96)));have hB:=Blk.new (w.alloc (.map #[] 0)) 96 #[.int .i64 (max most 0),.map (some w.heap.size),.int .i64 0,.int .i64 0,.slice none 0 0,.pointer none,.pointer none,.int .i64 0,.int .i64 0] rfl;rw [World.size_alloc] at hB;replace hb0:=hb0.drew;replace hM:=hM.step (Below.refl _ _).drew;replace hB:=hB.drew;obtain ⟨m,hm⟩:∃ m,w.heap.size=m:=⟨_,rfl⟩;obtain ⟨mm,hmm⟩:∃ mm,max most 0=mm:=⟨_,rfl⟩;rw [hm] at hB hM hb0 ⊢;rw [hmm] at hB hM hb0 ⊢;refine wp_region_held_drew (S:=fun _=>True) (by kernel_rfl) trivial (fun hHeld=>?_)
 generalize ((w.alloc (.map #[] 0)).alloc (.cells #[.int .i64 mm,.map (some m),.int .i64 0,.int .i64 0,.slice none 0 0,.pointer none,.pointer none,.int .i64 0,.int .i64 0] 96)).drew=w1 at hB hM hb0 hHeld ⊢;refine wT 0 9 ?_;refine wT 1 10 ?_;refine wT 2 11 ?_;refine wT 3 12 ?_;refine wT 4 13 ?_;refine wT 5 14 ?_;refine wT 6 15 ?_;refine wT 7 16 ?_;refine wT 8 17 ?_;refine wT 9 18 ?_;refine wT 10 19 ?_;refine wRn 11 (fun K hK=>?_)
 obtain ⟨q0,f0⟩:=hB.rules;have u0:=hB.lt;go_simp;refine zaS (K:=K _) hB 5 _ ?_;intro w2 s2 t2 hB2;refine hK.out _ _ trivial (fun hHeld=>?_)
 clear q0 f0 u0;clear hK K;refine wT 12 20 ?_;refine wT 13 21 ?_;refine wT 14 22 ?_;refine wRn 15 (fun K hK=>?_)
 obtain ⟨q0,f0⟩:=hB2.rules;have u0:=hB2.lt;go_simp;refine zaS (K:=K _) hB2 6 _ ?_;intro w3 s3 t3 hB3;refine hK.out _ _ trivial (fun hHeld=>?_)
 clear q0 f0 u0;clear hK K;try simp only [pu,List.set]
 refine wpAnyH_done (by kernel_rfl) ?_ _
 go_wp2_with fail;go_ret;have hpt:(.pointer (some ⟨m+1,2,none⟩):Value)=adV (m+1) (m+1):=by unfold adV;rw [zl9]
 have hB3':Blk w3 (m+1) 96 (caC mm m (m+1) (m+1) (m+1) 0 0):=by
  unfold caC;rw [←hpt];exact hB3
 have t23:za0 w1 w3 (fun b=>b=m+1):=t2.trans t3
 rw [←hmm] at hB3';exact ⟨m+1,m,rfl,⟨fun _=>⟨0,0,[]⟩,fun _=>m+1,fun _=>m+1,⟨⟨hB3',fun g hg=>absurd hg (by simp)⟩,Ring.made,hM.turned t23 (by omega),by simp,fun g hg=>absurd hg (by simp)⟩,rfl⟩,by omega,Nat.le_of_eq hm,by rw [hm];exact za0.upon hb0 t23 (by omega) (Nat.le_of_eq hm.symm)⟩
end
end Go.Proofs.YthblkdnijhphhaaGreat
