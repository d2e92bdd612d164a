/- A part of the proof. -/
import Derived.Test.YthblkdnijhphhaaGreatHostRep
set_option linter.unusedSimpArgs false
set_option maxHeartbeats 8000000
set_option maxRecDepth 100000
namespace Go.Proofs.YthblkdnijhphhaaGreat
open Go.RowKit
theorem zaS {K:World→Prop} {w:World} {g:Nat} {t:TypeId} {cs:Array Value} (hB:Blk w g t cs) (i:Nat) (u:Value)
 (h:∀ wy,wy.heap.size=w.heap.size→za0 w wy (fun b=>b=g)→Blk wy g t (cs.setIfInBounds i u)→K wy):K (w.setCell ⟨g,i,none⟩ u):=
 h _ (by simp) ((za0.refl w (fun b=>b=g)).set (g:=g) rfl i u) (hB.set_ i u)
theorem zbE {K:World→Prop} {w:World} {g:Nat} {t:TypeId} {u0 u1 u2 u3 u4 u5 u6 u7 u8 u9 u10 u11 u12 u13 u14:Value} (hB:Blk w g t #[u0,u1,u2,u3,u4,u5,u6,u7,u8,u9,u10,u11,u12,u13,u14]) (x0 x1 x2 x3 x4 x5 x6 x7 x8 x9 x10 x11 x12 x13 x14:Value)
 (h:∀ wy,wy.heap.size=w.heap.size→za0 w wy (fun b=>b=g)→Blk wy g t #[x0,x1,x2,x3,x4,x5,x6,x7,x8,x9,x10,x11,x12,x13,x14]→K wy):K (((((((((((((((w.setCell ⟨g,0,none⟩ x0).setCell ⟨g,1,none⟩ x1).setCell ⟨g,2,none⟩ x2).setCell ⟨g,3,none⟩ x3).setCell ⟨g,4,none⟩ x4).setCell ⟨g,5,none⟩ x5).setCell ⟨g,6,none⟩ x6).setCell ⟨g,7,none⟩ x7).setCell ⟨g,8,none⟩ x8).setCell ⟨g,9,none⟩ x9).setCell ⟨g,10,none⟩ x10).setCell ⟨g,11,none⟩ x11).setCell ⟨g,12,none⟩ x12).setCell ⟨g,13,none⟩ x13).setCell ⟨g,14,none⟩ x14):=by
 have t0:=za0.refl w (fun b=>b=g)
 have t1:=t0.set (g:=g) rfl 0 x0;replace hB:Blk _ g t #[x0,u1,u2,u3,u4,u5,u6,u7,u8,u9,u10,u11,u12,u13,u14]:=hB.set_ 0 x0;have t2:=t1.set (g:=g) rfl 1 x1;replace hB:Blk _ g t #[x0,x1,u2,u3,u4,u5,u6,u7,u8,u9,u10,u11,u12,u13,u14]:=hB.set_ 1 x1;have t3:=t2.set (g:=g) rfl 2 x2;replace hB:Blk _ g t #[x0,x1,x2,u3,u4,u5,u6,u7,u8,u9,u10,u11,u12,u13,u14]:=hB.set_ 2 x2;have t4:=t3.set (g:=g) rfl 3 x3;replace hB:Blk _ g t #[x0,x1,x2,x3,u4,u5,u6,u7,u8,u9,u10,u11,u12,u13,u14]:=hB.set_ 3 x3;have t5:=t4.set (g:=g) rfl 4 x4;replace hB:Blk _ g t #[x0,x1,x2,x3,x4,u5,u6,u7,u8,u9,u10,u11,u12,u13,u14]:=hB.set_ 4 x4;have t6:=t5.set (g:=g) rfl 5 x5;replace hB:Blk _ g t #[x0,x1,x2,x3,x4,x5,u6,u7,u8,u9,u10,u11,u12,u13,u14]:=hB.set_ 5 x5;have t7:=t6.set (g:=g) rfl 6 x6;replace hB:Blk _ g t #[x0,x1,x2,x3,x4,x5,x6,u7,u8,u9,u10,u11,u12,u13,u14]:=hB.set_ 6 x6;have t8:=t7.set (g:=g) rfl 7 x7;replace hB:Blk _ g t #[x0,x1,x2,x3,x4,x5,x6,x7,u8,u9,u10,u11,u12,u13,u14]:=hB.set_ 7 x7;have t9:=t8.set (g:=g) rfl 8 x8;replace hB:Blk _ g t #[x0,x1,x2,x3,x4,x5,x6,x7,x8,u9,u10,u11,u12,u13,u14]:=hB.set_ 8 x8;have t10:=t9.set (g:=g) rfl 9 x9;replace hB:Blk _ g t #[x0,x1,x2,x3,x4,x5,x6,x7,x8,x9,u10,u11,u12,u13,u14]:=hB.set_ 9 x9;have t11:=t10.set (g:=g) rfl 10 x10;replace hB:Blk _ g t #[x0,x1,x2,x3,x4,x5,x6,x7,x8,x9,x10,u11,u12,u13,u14]:=hB.set_ 10 x10;have t12:=t11.set (g:=g) rfl 11 x11;replace hB:Blk _ g t #[x0,x1,x2,x3,x4,x5,x6,x7,x8,x9,x10,x11,u12,u13,u14]:=hB.set_ 11 x11;have t13:=t12.set (g:=g) rfl 12 x12;replace hB:Blk _ g t #[x0,x1,x2,x3,x4,x5,x6,x7,x8,x9,x10,x11,x12,u13,u14]:=hB.set_ 12 x12;have t14:=t13.set (g:=g) rfl 13 x13;replace hB:Blk _ g t #[x0,x1,x2,x3,x4,x5,x6,x7,x8,x9,x10,x11,x12,x13,u14]:=hB.set_ 13 x13;have t15:=t14.set (g:=g) rfl 14 x14;replace hB:Blk _ g t #[x0,x1,x2,x3,x4,x5,x6,x7,x8,x9,x10,x11,x12,x13,x14]:=hB.set_ 14 x14;exact h _ (by simp) t15 hB
theorem zaU {w:World} {K:Nat→Prop}:∀ {cs:List Value} {l:List Fn},za8 Rp.fn w K cs l↔cs=l.flatMap fnCs
 | cs,[]=>Iff.rfl
 | cs,e::l=>by
   rw [List.flatMap_cons];constructor
   · rintro ⟨c1,c2,rfl,rfl,h⟩
     rw [zaU.1 h];rfl
   · intro h
     exact ⟨fnCs e,l.flatMap fnCs,h,rfl,zaU.2 rfl⟩
theorem zbS {w:World} {K:Nat→Prop}:∀ {cs:List Value} {l:List Sp},za8 Rp.sp w K cs l↔cs=l.flatMap spCs
 | cs,[]=>Iff.rfl
 | cs,e::l=>by
   rw [List.flatMap_cons];constructor
   · rintro ⟨c1,c2,rfl,rfl,h⟩
     rw [zbS.1 h];rfl
   · intro h
     exact ⟨spCs e,l.flatMap spCs,h,rfl,zbS.2 rfl⟩
structure zbn (h:Ho):Prop where
 own:h.own.length≤1000000
 s:h.s.length≤1000000
 buf:h.p.buf.length≤1000000000
 l:h.p.l.length≤1000000
 m:h.m.length≤1000000
section
variable {α:Type} {R:Rp α} {w:World} {K:Nat→Prop} {A:Option Addr} {n c:Nat} {l:List α}
theorem IsL.parts (h:IsL R w K (.slice A n c) l):∃ xs,za6 w K R.size A n xs∧(∀ u∈xs,u.oneCell'=true)∧za8 R w K xs l∧l.length=n:=by
 obtain ⟨e,⟨cs,h1,h2⟩,_⟩:=h.open_;subst e;exact ⟨cs,h1,h2.one,h2,rfl⟩
end
theorem zed (h:Ho) (v:Value) (K:Nat→Prop) (w:World) (hv:IsHo w K v h) (hK:∀ b,K b→b<w.heap.size) (hs:zbn h) :
 Calls Tryz.prog 32 #[v] w fun e w'=>∃ Ao co As cs Ab cb Al cl Am cm,e=.returned (.agg (hoS h Ao co As cs Ab cb Al cl Am cm)) ∧
  OwnL Rp.fn w' w.heap.size 130 (fun _=>False) (.slice Ao h.own.length co) h.own∧IsL Rp.sp w' (fun b=>w.heap.size≤b∧(Value.slice Ao h.own.length co).ownBlock≠some b) (.slice As h.s.length cs) h.s∧IsB w' (fun b=>w.heap.size≤b∧(Value.slice Ao h.own.length co).ownBlock≠some b) (.slice Ab h.p.buf.length cb) h.p.buf ∧
  IsL Rp.rc w' (fun b=>(w.heap.size≤b∧(Value.slice Ao h.own.length co).ownBlock≠some b)∨K b) (.slice Al h.p.l.length cl) h.p.l∧IsL Rp.ex w' (fun b=>w.heap.size≤b∧(Value.slice Ao h.own.length co).ownBlock≠some b) (.slice Am h.m.length cm) h.m∧Below w.heap.size w w':=by
 obtain ⟨vo,vs,vb,vl,vm,rfl,h1,h2,h3,h4,h5⟩:=hv;obtain ⟨Ao,co,rfl,-⟩:=h1.form;obtain ⟨As,cs,rfl,-⟩:=h2.form;obtain ⟨Ab,cb,rfl,-⟩:=zab h3;obtain ⟨Al,cl,rfl,-⟩:=h4.form;obtain ⟨Am,cm,rfl,-⟩:=h5.form;have E:=((((((Kn.start w).give za1.list h1).give za1.list h2).give za1.list h4).give za1.list h5).give za1.bytes h3).push 38 (hoS h Ao co As cs Ab cb Al cl Am cm) |>.push 38 #[.int .i64 0,.slice none 0 0,.slice none 0 0,.bool false,.int .i64 0,.int .i64 0,.int .i64 0,.int .i64 0,.int .i64 0,.int .i64 0,.slice none 0 0,.slice none 0 0,.slice none 0 0,.int .i64 0,.int .i64 0]
 rw [World.size_alloc] at E;obtain ⟨b1,b2,b3,b4,b5⟩:=hs;clear h1 h2 h3 h4 h5;go_enter Tryz.func32,Tryz.ntmps32
 go_upto_region 1 with fail;generalize (w.alloc (.cells (hoS h Ao co As cs Ab cb Al cl Am cm) 38)).alloc (.cells #[.int .i64 0,.slice none 0 0,.slice none 0 0,.bool false,.int .i64 0,.int .i64 0,.int .i64 0,.int .i64 0,.int .i64 0,.int .i64 0,.slice none 0 0,.slice none 0 0,.slice none 0 0,.int .i64 0,.int .i64 0] 38)=w1 at E ⊢;obtain ⟨g,hg⟩:∃ g,w.heap.size=g:=⟨_,rfl⟩;have hK':∀ b,K b→b<g:=fun b hb=>by rw [←hg];exact hK b hb
 obtain ⟨xo,ro,oo,co_,-⟩:=(E.get m4).parts;obtain ⟨xs,rs,os,cs_,-⟩:=(E.get m3).parts;obtain ⟨xm,rm,om,cm_,-⟩:=(E.get m1).parts;have hb0:Below w1.heap.size w1 w1.drew:=(Below.refl _ _).drew;have HKB:=Lib.hid hK';have HK:Hid (∀ W,Below w1.heap.size w1 W→∀ o,W.cell? ⟨g,o,none⟩=(hoS h Ao co As cs Ab cb Al cl Am cm)[o]?):=Lib.hid fun W hb=>by rw [←hg];exact ((E.step hb).rules m1).1
 refine zbe (S:=fun (L:Array Bool) (W:World)=>L.getD 10 false=true∨(∀ o,W.cell? ⟨g,o,none⟩=(hoS h Ao co As cs Ab cb Al cl Am cm)[o]?)) (by kernel_rfl) (.inr (HK.out _ hb0)) (fun hDn hSn=>?_)
 rw [hg] at E ⊢;clear hK hK';generalize w1.drew=w2 at hb0 hDn hSn ⊢;refine wD 0 3 (fun hDn hSn=>?_)
 refine zaf (i:=1) (oi:=⟨some 4,_,_,_,_,_⟩) (v:=?_) (Si:=fun W=>∀ o,W.cell? ⟨g,o,none⟩=(hoS h Ao co As cs Ab cb Al cl Am cm)[o]?) rfl (by kernel_rfl) (by kernel_rfl) (by kernel_rfl) (fun _ _ _ h=>h) (fun L W hD hu hS=>hS.resolve_left (fun h=>by have h:=hD.2 10 _ rfl h ⟨1,.phase⟩ (by simp) rfl;rw [hu] at h;cases h)) (fun L W=>by simp only [getD_set_ne false (show (1:Nat)≠10 by omega)]) (Or.inl ⟨by rfl,?hy⟩) (by assumption) (by assumption) (fun hDn hSn=>?_)
 case hy=>intro w hSw;(try dsimp only at hSw);go_simp;with_reducible rfl
 refine wD 3 6 (fun hDn hSn=>?_)
 refine zaf (i:=4) (oi:=⟨some 7,_,_,_,_,_⟩) (v:=?_) (Si:=fun W=>∀ o,W.cell? ⟨g,o,none⟩=(hoS h Ao co As cs Ab cb Al cl Am cm)[o]?) rfl (by kernel_rfl) (by kernel_rfl) (by kernel_rfl) (fun _ _ _ h=>h) (fun L W hD hu hS=>hS.resolve_left (fun h=>by have h:=hD.2 10 _ rfl h ⟨4,.phase⟩ (by simp) rfl;rw [hu] at h;cases h)) (fun L W=>by simp only [getD_set_ne false (show (4:Nat)≠10 by omega)]) (Or.inl ⟨by rfl,?hy⟩) (by assumption) (by assumption) (fun hDn hSn=>?_)
 case hy=>intro w hSw;(try dsimp only at hSw);go_simp;with_reducible rfl
 refine wD 6 9 (fun hDn hSn=>?_)
 refine zaf (i:=7) (oi:=⟨some 10,_,_,_,_,_⟩) (v:=?_) (Si:=fun W=>∀ o,W.cell? ⟨g,o,none⟩=(hoS h Ao co As cs Ab cb Al cl Am cm)[o]?) rfl (by kernel_rfl) (by kernel_rfl) (by kernel_rfl) (fun _ _ _ h=>h) (fun L W hD hu hS=>hS.resolve_left (fun h=>by have h:=hD.2 10 _ rfl h ⟨7,.phase⟩ (by simp) rfl;rw [hu] at h;cases h)) (fun L W=>by simp only [getD_set_ne false (show (7:Nat)≠10 by omega)]) (Or.inl ⟨by rfl,?hy⟩) (by assumption) (by assumption) (fun hDn hSn=>?_)
 case hy=>intro w hSw;(try dsimp only at hSw);go_simp;with_reducible rfl
 try simp only [pu,List.set]
 refine zah (i:=2) (o:=⟨some 5,_,_,_,_,_⟩) (by kernel_rfl) rfl (by assumption) (fun K hK=>?_)
 go_simp;refine (zjv Ao h.own.length co _ xo _ (ro.step hb0) oo (by omega)).mono ?_
 rintro e w3 ⟨Ao3,co3,rfl,own3,hb3⟩;replace hb3:=hb0.trans (hb3.mono hb0.size);go_wp2_with fail;refine hK.out _ _ (.inr (HK.out _ hb3)) (fun hDn hSn=>?_)
 clear hK K;refine wD 9 12 (fun hDn hSn=>?_)
 refine zah (i:=5) (o:=⟨some 8,_,_,_,_,_⟩) (by kernel_rfl) rfl (by assumption) (fun K hK=>?_)
 go_simp;refine (zj4 As h.s.length cs _ xs _ (rs.step hb3) os (by omega)).mono ?_
 rintro e w4 ⟨As4,cs4,rfl,own4,hb4⟩;have hz34:=hb4.size;have own34:=za4 own3 hb4 (Nat.le_refl _);replace hb4:=hb3.trans (hb4.mono hb3.size);go_wp2_with fail;refine hK.out _ _ (.inr (HK.out _ hb4)) (fun hDn hSn=>?_)
 clear hK K;try simp only [pu,List.set]
 refine zah (i:=8) (o:=⟨some 11,_,_,_,_,_⟩) (by kernel_rfl) rfl (by assumption) (fun K hK=>?_)
 go_simp;refine (zcX Am h.m.length cm _ xm _ (rm.step hb4) om (by omega)).mono ?_
 rintro e w5 ⟨Am5,cm5,rfl,own5,hb5⟩;have hz45:=hb5.size;have own35:=za4 own34 hb5 (Nat.le_refl _);have own45:=za4 own4 hb5 (Nat.le_refl _);replace hb5:=hb4.trans (hb5.mono hb4.size);go_wp2_with fail;refine hK.out _ _ (.inr (HK.out _ hb5)) (fun hDn hSn=>?_)
 clear hK K;try simp only [pu,List.set]
 refine zah (i:=10) (o:=⟨none,_,_,_,_,_⟩) (by kernel_rfl) rfl (by assumption) (fun K hK=>?_)
 have hBx:=(E.step hb5).at_ m1;obtain ⟨q0,f0⟩:=hBx.rules;have t0:=hBx.lt;go_simp;refine zaS (K:=K _) hBx 1 _ ?_;intro w6 hs6 ht6 hB6;clear q0 f0 t0;refine hK.out _ _ (.inl (by kernel_rfl)) (fun hDn hSn=>?_)
 clear hK K;refine wD 11 13 (fun hDn hSn=>?_)
 refine zah (i:=12) (o:=⟨none,_,_,_,_,_⟩) (by kernel_rfl) rfl (by assumption) (fun K hK=>?_)
 obtain ⟨q0,f0⟩:=hB6.rules;have t0:=hB6.lt;go_simp;refine zaS (K:=K _) hB6 2 _ ?_;intro w7 hs7 ht7 hB7;clear q0 f0 t0;refine hK.out _ _ (.inl (by kernel_rfl)) (fun hDn hSn=>?_)
 clear hK K;refine wD 13 14 (fun hDn hSn=>?_)
 refine zah (i:=14) (o:=⟨none,_,_,_,_,_⟩) (by kernel_rfl) rfl (by assumption) (fun K hK=>?_)
 obtain ⟨q0,f0⟩:=hB7.rules;have t0:=hB7.lt;go_simp;refine zaS (K:=K _) hB7 12 _ ?_;intro w8 hs8 ht8 hB8;clear q0 f0 t0;refine hK.out _ _ (.inl (by kernel_rfl)) (fun hDn hSn=>?_)
 clear hK K;try simp only [pu,List.set]
 refine zbd (by kernel_rfl) ?_ _
 have hlo3:∀ b,(Value.slice Ao3 h.own.length co3).ownBlock=some b→b<w3.heap.size:=fun b e=>(own3.lt b e).2
 have T8:=(ht6.trans ht7).trans ht8;have hg1:g<w1.heap.size:=(E.at_ m1).lt;have hgw:g<w2.heap.size:=by have:=hb0.size;omega
 have hs8':w8.heap.size=w5.heap.size:=by rw [hs8,hs7,hs6]
 have hB8':Blk w8 g 38 (hoS h Ao3 co3 As4 cs4 Ab cb Al cl Am5 cm5):=hB8;have hBr:=((E.step hb5).at_ m0).turned T8 (show ¬g+1=g by omega)
 have hbuf:=((E.step hb5).get m0).turned T8 (fun b hb e=>by have:=HKB.out b hb;omega)
 have hrc:=((E.step hb5).get m2).turned T8 (fun b hb e=>by have:=HKB.out b hb;omega)
 have o3:=za7 own35 T8 (by omega)
 have o4:=za7 own45 T8 (by have:=hb3.size;have:=hb0.size;omega)
 have o5:=za7 own5 T8 (by have:=hb4.size;have:=hb0.size;omega)
 have hbl8:=za0.upon (E.below.trans (hb5.mono E.base)) T8 (Nat.le_refl _) (by omega)
 have hsz5:=hb5.size;clear own3 own34 own35 own4 own45 own5 ht6 ht7 ht8 hB6 hB7 hB8 T8 hDn hSn HK;go_upto_region 2 with fail;obtain ⟨xb,rb,ob,hxb⟩:∃ xb,za6 w8 _ 1 Ab h.p.buf.length xb∧(∀ u∈xb,u.oneCell'=true)∧xb=za3 h.p.buf:=⟨_,(IsB.open_ hbuf).2.1,zao _,rfl⟩;obtain ⟨xr,rr,or_,cr_,-⟩:=hrc.parts;have hbA:Below w8.heap.size w8 w8.drew:=(Below.refl _ _).drew;have HK:Hid (∀ W,Below w8.heap.size w8 W→∀ o,W.cell? ⟨g,o,none⟩=(hoS h Ao3 co3 As4 cs4 Ab cb Al cl Am5 cm5)[o]?):=Lib.hid fun W hb=>(hB8'.step hb).rules.1
 refine zbe (S:=fun (L:Array Bool) (W:World)=>L.getD 10 false=true∨(∀ o,W.cell? ⟨g,o,none⟩=(hoS h Ao3 co3 As4 cs4 Ab cb Al cl Am5 cm5)[o]?)) (by kernel_rfl) (.inr (HK.out _ hbA)) (fun hDn hSn=>?_)
 generalize w8.drew=w9 at hbA hDn hSn ⊢;refine wD 0 15 (fun hDn hSn=>?_)
 refine wD 1 16 (fun hDn hSn=>?_)
 refine zaf (i:=2) (oi:=⟨some 17,_,_,_,_,_⟩) (v:=?_) (Si:=fun W=>∀ o,W.cell? ⟨g,o,none⟩=(hoS h Ao3 co3 As4 cs4 Ab cb Al cl Am5 cm5)[o]?) rfl (by kernel_rfl) (by kernel_rfl) (by kernel_rfl) (fun _ _ _ h=>h) (fun L W hD hu hS=>hS.resolve_left (fun h=>by have h:=hD.2 10 _ rfl h ⟨2,.phase⟩ (by simp) rfl;rw [hu] at h;cases h)) (fun L W=>by simp only [getD_set_ne false (show (2:Nat)≠10 by omega)]) (Or.inl ⟨by rfl,?hy⟩) (by assumption) (by assumption) (fun hDn hSn=>?_)
 case hy=>intro w hSw;(try dsimp only at hSw);go_simp;with_reducible rfl
 refine wD 4 19 (fun hDn hSn=>?_)
 refine wD 5 20 (fun hDn hSn=>?_)
 refine zaf (i:=6) (oi:=⟨some 21,_,_,_,_,_⟩) (v:=?_) (Si:=fun W=>∀ o,W.cell? ⟨g,o,none⟩=(hoS h Ao3 co3 As4 cs4 Ab cb Al cl Am5 cm5)[o]?) rfl (by kernel_rfl) (by kernel_rfl) (by kernel_rfl) (fun _ _ _ h=>h) (fun L W hD hu hS=>hS.resolve_left (fun h=>by have h:=hD.2 10 _ rfl h ⟨6,.phase⟩ (by simp) rfl;rw [hu] at h;cases h)) (fun L W=>by simp only [getD_set_ne false (show (6:Nat)≠10 by omega)]) (Or.inl ⟨by rfl,?hy⟩) (by assumption) (by assumption) (fun hDn hSn=>?_)
 case hy=>intro w hSw;(try dsimp only at hSw);go_simp;with_reducible rfl
 try simp only [pu,List.set]
 refine zah (i:=3) (o:=⟨some 18,_,_,_,_,_⟩) (by kernel_rfl) rfl (by assumption) (fun K hK=>?_)
 go_simp;refine (zfB Ab h.p.buf.length cb _ xb _ (rb.step hbA) ob (by omega)).mono ?_
 rintro e w10 ⟨Ab10,cb10,rfl,own10,hb10⟩;have hz910:=hb10.size;replace hb10:=hbA.trans (hb10.mono hbA.size);go_wp2_with fail;refine hK.out _ _ (.inr (HK.out _ hb10)) (fun hDn hSn=>?_)
 clear hK K;refine wD 8 23 (fun hDn hSn=>?_)
 refine wD 9 24 (fun hDn hSn=>?_)
 refine zah (i:=7) (o:=⟨some 22,_,_,_,_,_⟩) (by kernel_rfl) rfl (by assumption) (fun K hK=>?_)
 go_simp;refine (zfO Al h.p.l.length cl _ xr _ (rr.step hb10) or_ (by omega)).mono ?_
 rintro e w11 ⟨Al11,cl11,rfl,own11,hb11⟩;have own101:=za4 own10 hb11 (Nat.le_refl _);replace hb11:=hb10.trans (hb11.mono hb10.size);go_wp2_with fail;refine hK.out _ _ (.inr (HK.out _ hb11)) (fun hDn hSn=>?_)
 clear hK K;try simp only [pu,List.set]
 refine zah (i:=10) (o:=⟨none,_,_,_,_,_⟩) (by kernel_rfl) rfl (by assumption) (fun K hK=>?_)
 have hBx:=hB8'.step hb11;obtain ⟨q0,f0⟩:=hBx.rules;have t0:=hBx.lt;go_simp;refine zaS (K:=K _) hBx 10 _ ?_;intro w12 hs12 ht12 hB12;clear q0 f0 t0;refine hK.out _ _ (.inl (by kernel_rfl)) (fun hDn hSn=>?_)
 clear hK K;refine wD 11 25 (fun hDn hSn=>?_)
 refine wD 12 26 (fun hDn hSn=>?_)
 refine zah (i:=13) (o:=⟨none,_,_,_,_,_⟩) (by kernel_rfl) rfl (by assumption) (fun K hK=>?_)
 obtain ⟨q0,f0⟩:=hB12.rules;have t0:=hB12.lt;go_simp;refine zaS (K:=K _) hB12 11 _ ?_;intro w13 hs13 ht13 hB13;clear q0 f0 t0;refine hK.out _ _ (.inl (by kernel_rfl)) (fun hDn hSn=>?_)
 clear hK K;try simp only [pu,List.set]
 refine zbd (by kernel_rfl) ?_ _
 have T13:=ht12.trans ht13;have hB13':Blk w13 g 38 (hoS h Ao3 co3 As4 cs4 Ab10 cb10 Al11 cl11 Am5 cm5):=hB13;have hBr2:=(hBr.step hb11).turned T13 (show ¬g+1=g by omega)
 have h8s:=hb11.size;have hbl13:=za0.upon (hbl8.trans (hb11.mono (by omega))) T13 (Nat.le_refl _) (by omega)
 have p3:=za7 (za4 o3 hb11 (Nat.le_refl _)) T13 (by omega)
 have p4:=za7 (za4 o4 hb11 (Nat.le_refl _)) T13 (by have:=hb3.size;omega)
 have p5:=za7 (za4 o5 hb11 (Nat.le_refl _)) T13 (by have:=hb4.size;omega)
 have p10:=za7 own101 T13 (by have:=hbA.size;omega)
 have p11:=za7 own11 T13 (by have:=hb10.size;omega)
 have hs13':w13.heap.size=w11.heap.size:=by rw [hs13,hs12]
 have hcr:=(cr_.step hb11).turned T13 (fun b hb e=>by have:=HKB.out b hb;omega)
 obtain ⟨q0,f0⟩:=hB13'.rules;have t0:=hB13'.lt;obtain ⟨q1,f1⟩:=hBr2.rules;have t1:=hBr2.lt;clear hDn hSn HK hB12 hB13 hBx ht12 ht13 own10 own101 own11 o3 o4 o5;go_wp2;refine zbE (K:=fun W=>bodyPost _ _ _ _ _ W) hBr2 _ _ _ _ _ _ _ _ _ _ _ _ _ _ _ ?_
 intro w14 hs14 ht14 hB14;obtain ⟨q2,f2⟩:=hB14.rules;have hg2:g+1<w1.heap.size:=(E.at_ m0).lt;have hbl14:=za0.upon hbl13 ht14 (by omega) (by omega)
 have r3:=za7 p3 ht14 (by have:=hb0.size;omega)
 have r4:=za7 p4 ht14 (by have:=hb3.size;omega)
 have r5:=za7 p5 ht14 (by have:=hb4.size;omega)
 have r10:=za7 p10 ht14 (by have:=hbA.size;omega)
 have r11:=za7 p11 ht14 (by have:=hb10.size;omega)
 have hcr2:=hcr.turned ht14 (fun b hb e=>by have:=HKB.out b hb;omega)
 have s0:=hb0.size;have s3:=hb3.size;have s4:=hb4.size;have sA:=hbA.size;have s10:=hb10.size;refine bodyPost_ret (v:=.agg (hoS h Ao3 co3 As4 cs4 Ab10 cb10 Al11 cl11 Am5 cm5)) (by simp [results,Tryz.results32,go_sem,q2]) rfl ?_
 rw [hg];have fin:∀ {α:Type} {R:Rp α} {e:TypeId} {v:Value} {l:List α} {B:Nat},w3.heap.size≤B→OwnL R w14 B e (fun _=>False) v l→l.length≤140737488355328→IsL R w14 (fun b=>g≤b∧(Value.slice Ao3 h.own.length co3).ownBlock≠some b) v l:=fun hB h hl=>(h.isL hl).more fun b hb=>by
  have hb:=hb.resolve_right (fun h=>h)
  exact ⟨by omega,fun e=>by have:=hlo3 b e;omega⟩
 subst hxb;exact ⟨Ao3,co3,As4,cs4,Ab10,cb10,Al11,cl11,Am5,cm5,rfl,⟨_,_,xo,rfl,zac r3 (by omega),zaU.2 (zaU.1 co_)⟩,fin (Nat.le_refl _) ⟨_,_,xs,rfl,r4,zbS.2 (zbS.1 cs_)⟩ (by omega),(IsB.of_own r10 (by omega)).more (fun b hb=>⟨by omega,fun e=>by have:=hlo3 b e;omega⟩),
  (OwnL.isL ⟨_,_,xr,rfl,r11,hcr2⟩ (by omega)).more (fun b hb=>hb.imp (fun hb=>⟨by omega,fun e=>by have:=hlo3 b e;omega⟩) id),fin hz34 ⟨_,_,xm,rfl,r5,zbw.2 (zbw.1 cm_)⟩ (by omega),hbl14⟩
theorem zf6 (h:Ho) (v:Value) (K:Nat→Prop) (w:World) (hv:IsHo w K v h) (hK:∀ b,K b→b<w.heap.size) (hs:zbn h) :
 Calls Tryz.prog 32 #[v] w fun e w'=>∃ Ao co As cs Ab cb Al cl Am cm,e=.returned (.agg (hoS h Ao co As cs Ab cb Al cl Am cm)) ∧
  OwnL Rp.fn w' w.heap.size 130 (fun _=>False) (.slice Ao h.own.length co) h.own∧IsL Rp.sp w' (fun b=>w.heap.size≤b) (.slice As h.s.length cs) h.s∧IsB w' (fun b=>w.heap.size≤b) (.slice Ab h.p.buf.length cb) h.p.buf ∧
  IsL Rp.rc w' (fun b=>w.heap.size≤b∨K b) (.slice Al h.p.l.length cl) h.p.l∧IsL Rp.ex w' (fun b=>w.heap.size≤b) (.slice Am h.m.length cm) h.m∧Below w.heap.size w w':=
 (zed h v K w hv hK hs).mono fun _ _ ⟨Ao,co,As,cs,Ab,cb,Al,cl,Am,cm,e,h1,h2,h3,h4,h5,h6⟩=>⟨Ao,co,As,cs,Ab,cb,Al,cl,Am,cm,e,h1,h2.more fun _ h=>h.1,h3.more fun _ h=>h.1,h4.more fun _ h=>h.imp (fun h=>h.1) id,h5.more fun _ h=>h.1,h6⟩
def leftS (s:Sp) (a:Int):Sp:=⟨s.from_,min s.till a,s.owner,s.epoch⟩
def rightS (s:Sp) (z:Int):Sp:=⟨max s.from_ z,s.till,s.owner,s.epoch⟩
def okS (s:Sp):Bool:=decide (s.from_<s.till)
def zem (a z:Int) (o:List Sp × Nat) (s:Sp):List Sp × Nat:=
 ((o.1++if okS (leftS s a)=true then [leftS s a] else [])++if okS (rightS s z)=true then [rightS s z] else [],
  if okS (leftS s a)=true∧(leftS s a).from_<a then o.1.length+1 else o.2)
theorem zmZ {a z:Int} (o:List Sp × Nat) (s:Sp) (h:okS (leftS s a)=true→(leftS s a).from_<a) :
 zem a z o s=((o.1++if okS (leftS s a)=true then [leftS s a] else [])++if okS (rightS s z)=true then [rightS s z] else [],if okS (leftS s a)=true then o.1.length+1 else o.2):=by
 unfold zem;by_cases h1:okS (leftS s a)=true
 · simp [h1,h h1]
 · simp [h1]
theorem zdz (s:Sp):∀ u∈spCs s,u.oneCell'=true:=by
 intro u hu;simp only [spCs,List.mem_cons,List.not_mem_nil,or_false] at hu;rcases hu with rfl | rfl | rfl | rfl <;> rfl
def withoutS (a z:Int) (l:List Sp):List Sp × Nat:=l.foldl (zem a z) ([],0)
theorem zh2 {a z:Int} {l:List Sp} {j:Nat} (hj:j<l.length):withoutS a z (l.take (j+1))=zem a z (withoutS a z (l.take j)) l[j]:=by
 unfold withoutS;rw [List.take_succ_eq_append_getElem hj,List.foldl_append];rfl
theorem zdj (a z:Int):∀ (l:List Sp) (o:List Sp × Nat),(l.foldl (zem a z) o).1.length≤o.1.length+2*l.length
 | [],o=>by simp
 | s::l,o=>by
   have ih:=zdj a z l (zem a z o s);have h1:(zem a z o s).1.length≤o.1.length+2:=by
    unfold zem;simp only [List.length_append];split <;> split <;> simp
   rw [List.foldl_cons,List.length_cons];omega
theorem zh3 (A:Option Addr) (c:Nat) (l:List Sp) (a z:Int) (K:Nat→Prop) (w:World) (hv:IsL Rp.sp w K (.slice A l.length c) l) (haz:a<z) (hl:l.length≤1000000) :
 Calls Tryz.prog 38 #[.slice A l.length c,.int .i64 a,.int .i64 z] w fun e w'=>∃ Ao co,e=.returned (.tuple #[.slice Ao (withoutS a z l).1.length co,.int .i64 (withoutS a z l).2]) ∧
  w'.ownsRow w.heap.size 118 4 (.slice Ao (withoutS a z l).1.length co) (withoutS a z l).1.length ((withoutS a z l).1.flatMap spCs)∧Below w.heap.size w w':=by
 have E:=(Kn.start w).give za1.list hv;obtain ⟨n,hn⟩:∃ n,l.length=n:=⟨_,rfl⟩;rw [hn] at E hl ⊢;have HN:=Lib.hid hn;have HWL:=Lib.hid fun j=>zdj a z (l.take j) ([],0)
 clear hn hv;obtain ⟨i0,hi,hz0,hz1,hz2⟩:=info_parts Tryz.infS;go_enter Tryz.func38,Tryz.ntmps38
 go_upto_region 2 with fail;go_loopw [6,7,9,10,11,14] (fun x6 x7 x9 x10 x11 x14 wr=>∃ (j:Nat) (o:List Sp) (t at_:Nat) (Ao:Option Addr) (co:Nat),x14=.int .i64 j∧j≤n∧Hid ((o,at_)=withoutS a z (l.take j))∧Hid (o.length=t)∧t≤2*j∧x6=.slice Ao t co∧x7=.int .i64 at_∧wr.ownsRow w.heap.size 118 4 (.slice Ao t co) t (o.flatMap spCs)∧Below w.heap.size w wr∧(∃ y,x9=y)∧(∃ y,x10=y)∧∃ y,x11=y) (fun _ _ _ _ _ x14 _=>n-(intOf x14).toNat)
 case atStart=>exact ⟨0,[],0,0,none,0,rfl,Nat.zero_le _,Lib.hid rfl,Lib.hid rfl,by omega,rfl,rfl,World.ownsRow_nil _ _ _ _,Below.refl _ _,⟨_,rfl⟩,⟨_,rfl⟩,_,rfl⟩
 case round=>
  obtain ⟨j,o,t,at_,Ao,co,rfl,hj,ho,hto,htj,rfl,rfl,own,hb,⟨y9,rfl⟩,⟨y10,rfl⟩,y11,rfl⟩:=hrel;have F:=E.step hb;by_cases hlt:j<n
  case neg=>
   obtain rfl:j=n:=by omega
   have hw:=ho.out;rw [List.take_of_length_le (by rw [HN.out];exact Nat.le_refl _)] at hw
   have HW:=Lib.hid hw;clear hw E;go_wp2;refine bodyPost_ret (v:=.tuple #[.slice Ao t co,.int .i64 at_]) (by simp [results,Tryz.results38,go_sem]) rfl ?_
   rw [←HW.out];simp only [hto.out];exact ⟨Ao,co,rfl,own,F.below⟩
  have hlt':j<l.length:=by rw [HN.out];exact hlt
  have HT:=Lib.hid (zh2 (a:=a) (z:=z) hlt');obtain ⟨ad,rfl,-,c0,c1,c2,c3⟩:=zoB (F.get m0) (List.getElem?_eq_getElem hlt');generalize l[j]=s at HT c0 c1 c2 c3;have j1:(j:Int)<(n:Int):=by omega
  have j0:(0:Int)≤(j:Int):=by omega
  go_upto_region 4 with fail;have HK0:Blk (wr.alloc (.cells #[.int .i64 s.from_,.int .i64 s.till,.int .i64 s.owner,.int .i64 s.epoch] 118)) wr.heap.size 118 #[.int .i64 s.from_,.int .i64 s.till,.int .i64 s.owner,.int .i64 s.epoch]:=Blk.new _ _ _ rfl;have hb1:=hb.alloc hb.size (.cells #[.int .i64 s.from_,.int .i64 s.till,.int .i64 s.owner,.int .i64 s.epoch] 118);have own1:=za4 own ((Below.refl wr.heap.size wr).alloc (Nat.le_refl _) (.cells #[.int .i64 s.from_,.int .i64 s.till,.int .i64 s.owner,.int .i64 s.epoch] 118)) (Nat.le_refl _);clear c0 c1 c2 c3 own F;generalize wr.alloc (.cells #[.int .i64 s.from_,.int .i64 s.till,.int .i64 s.owner,.int .i64 s.epoch] 118)=wb at HK0 hb1 own1 ⊢;generalize wr.heap.size=gs at HK0 ⊢;go_cut [10,11] (fun x10 x11 wx=>∃ gl gr,x10=.pointer (some ⟨gl,0,none⟩)∧x11=.pointer (some ⟨gr,0,none⟩)∧gl≠gr∧wb.heap.size≤gl∧wb.heap.size≤gr∧Blk wx gl 118 #[.int .i64 s.from_,.int .i64 s.till,.int .i64 s.owner,.int .i64 s.epoch]∧Blk wx gr 118 #[.int .i64 s.from_,.int .i64 s.till,.int .i64 s.owner,.int .i64 s.epoch]∧Below wb.heap.size wb wx)
  case first=>
   have HK:Hid (∀ W,Below wb.heap.size wb W→∀ o,W.cell? ⟨gs,o,none⟩=(#[.int .i64 s.from_,.int .i64 s.till,.int .i64 s.owner,.int .i64 s.epoch]:Array Value)[o]?):=Lib.hid fun W hb=>(HK0.step hb).rules.1
   have hbx:Below wb.heap.size wb wb.drew:=(Below.refl _ _).drew;refine wp_region_held_drew (S:=fun W=>∀ o,W.cell? ⟨gs,o,none⟩=(#[.int .i64 s.from_,.int .i64 s.till,.int .i64 s.owner,.int .i64 s.epoch]:Array Value)[o]?) (by kernel_rfl) (HK.out _ hbx) (fun hHeld=>?_)
   generalize wb.drew=wx at hbx hHeld ⊢;refine wT 0 18 ?_;refine wT 1 19 ?_;refine wpAnyH_ready (rs:=[2,3]) (by kernel_rfl) (by simp) ?_
   refine AllReadyH.cons (o:=⟨some 10,_,_,_,_,_⟩) rfl (fun K hK=>?_) ?_
   · obtain ⟨gl,hgl⟩:∃ gl,wx.heap.size=gl:=⟨_,rfl⟩
     go_simp;try rw [hgl]
     refine zaq (K:=K _) ?_;intro wx hby hBl;rw [hgl] at hBl;have hll:wb.heap.size≤gl:=by rw [←hgl];exact hbx.size
     first | (have hne:gl≠gr:=by have:=hBr.lt;omega) | skip
     first | replace hBr:=hBr.step hby | skip
     replace hbx:=hbx.trans (hby.mono hbx.size);refine hK.out _ _ (HK.out _ hbx) (fun hHeld=>?_)
     clear hK K;try simp only [pu,List.set]
     refine wR 3 11 (fun K hK=>?_)
     obtain ⟨gr,hgr⟩:∃ gr,wx.heap.size=gr:=⟨_,rfl⟩;go_simp;try rw [hgr]
     refine zaq (K:=K _) ?_;intro wx hby hBr;rw [hgr] at hBr;have hlr:wb.heap.size≤gr:=by rw [←hgr];exact hbx.size
     first | (have hne:gl≠gr:=by have:=hBl.lt;omega) | skip
     first | replace hBl:=hBl.step hby | skip
     replace hbx:=hbx.trans (hby.mono hbx.size);refine hK.out _ _ (HK.out _ hbx) (fun hHeld=>?_)
     clear hK K;try simp only [pu,List.set]
     refine wRn 4 (fun K hK=>?_)
     obtain ⟨q0,f0⟩:=hBl.rules;have t0:=hBl.lt;go_simp;refine zb4 (K:=K _) hBl _ _ _ _ ?_;intro wx hsx htx hBl';replace hBr:=hBr.turned htx (by first | exact hne | exact hne.symm)
     replace hbx:=za0.upon hbx htx hll (Nat.le_refl _);clear q0 f0 t0 hBl;have hBl:=hBl';refine hK.out _ _ (HK.out _ hbx) (fun hHeld=>?_)
     clear hK K;try simp only [pu,List.set]
     refine wRn 5 (fun K hK=>?_)
     obtain ⟨q0,f0⟩:=hBr.rules;have t0:=hBr.lt;go_simp;refine zb4 (K:=K _) hBr _ _ _ _ ?_;intro wx hsx htx hBr';replace hBl:=hBl.turned htx (by first | exact hne | exact hne.symm)
     replace hbx:=za0.upon hbx htx hlr (Nat.le_refl _);clear q0 f0 t0 hBr;have hBr:=hBr';refine hK.out _ _ (HK.out _ hbx) (fun hHeld=>?_)
     clear hK K;try simp only [pu,List.set]
     refine wpAnyH_done (by kernel_rfl) ?_ _
     go_wp2_with fail;go_meet;exact ⟨gl,gr,rfl,rfl,hne,hll,hlr,hBl,hBr,hbx⟩
   refine AllReadyH.cons (o:=⟨some 11,_,_,_,_,_⟩) rfl (fun K hK=>?_) ?_
   · obtain ⟨gr,hgr⟩:∃ gr,wx.heap.size=gr:=⟨_,rfl⟩
     go_simp;try rw [hgr]
     refine zaq (K:=K _) ?_;intro wx hby hBr;rw [hgr] at hBr;have hlr:wb.heap.size≤gr:=by rw [←hgr];exact hbx.size
     first | (have hne:gl≠gr:=by have:=hBl.lt;omega) | skip
     first | replace hBl:=hBl.step hby | skip
     replace hbx:=hbx.trans (hby.mono hbx.size);refine hK.out _ _ (HK.out _ hbx) (fun hHeld=>?_)
     clear hK K;try simp only [pu,List.set]
     refine wR 2 10 (fun K hK=>?_)
     obtain ⟨gl,hgl⟩:∃ gl,wx.heap.size=gl:=⟨_,rfl⟩;go_simp;try rw [hgl]
     refine zaq (K:=K _) ?_;intro wx hby hBl;rw [hgl] at hBl;have hll:wb.heap.size≤gl:=by rw [←hgl];exact hbx.size
     first | (have hne:gl≠gr:=by have:=hBr.lt;omega) | skip
     first | replace hBr:=hBr.step hby | skip
     replace hbx:=hbx.trans (hby.mono hbx.size);refine hK.out _ _ (HK.out _ hbx) (fun hHeld=>?_)
     clear hK K;try simp only [pu,List.set]
     refine wRn 4 (fun K hK=>?_)
     obtain ⟨q0,f0⟩:=hBl.rules;have t0:=hBl.lt;go_simp;refine zb4 (K:=K _) hBl _ _ _ _ ?_;intro wx hsx htx hBl';replace hBr:=hBr.turned htx (by first | exact hne | exact hne.symm)
     replace hbx:=za0.upon hbx htx hll (Nat.le_refl _);clear q0 f0 t0 hBl;have hBl:=hBl';refine hK.out _ _ (HK.out _ hbx) (fun hHeld=>?_)
     clear hK K;try simp only [pu,List.set]
     refine wRn 5 (fun K hK=>?_)
     obtain ⟨q0,f0⟩:=hBr.rules;have t0:=hBr.lt;go_simp;refine zb4 (K:=K _) hBr _ _ _ _ ?_;intro wx hsx htx hBr';replace hBl:=hBl.turned htx (by first | exact hne | exact hne.symm)
     replace hbx:=za0.upon hbx htx hlr (Nat.le_refl _);clear q0 f0 t0 hBr;have hBr:=hBr';refine hK.out _ _ (HK.out _ hbx) (fun hHeld=>?_)
     clear hK K;try simp only [pu,List.set]
     refine wpAnyH_done (by kernel_rfl) ?_ _
     go_wp2_with fail;go_meet;exact ⟨gl,gr,rfl,rfl,hne,hll,hlr,hBl,hBr,hbx⟩
   exact AllReadyH.nil
  case rest=>
   obtain ⟨gl,gr,rfl,rfl,hne,hll,hlr,hBl,hBr,hbx⟩:=hcut;have HKc:Hid (∀ W,Below wb.heap.size wb W→∀ o,W.cell? ⟨gs,o,none⟩=(#[.int .i64 s.from_,.int .i64 s.till,.int .i64 s.owner,.int .i64 s.epoch]:Array Value)[o]?):=Lib.hid fun W hb=>(HK0.step hb).rules.1
   go_upto_region 6 with fail;have hbx2:Below wc.heap.size wc wc.drew:=(Below.refl _ _).drew;replace hBl:=hBl.step hbx2;replace hBr:=hBr.step hbx2;replace hbx:=hbx.trans (hbx2.mono hbx.size);refine wp_region_held_drew (S:=fun W=>∀ o,W.cell? ⟨gs,o,none⟩=(#[.int .i64 s.from_,.int .i64 s.till,.int .i64 s.owner,.int .i64 s.epoch]:Array Value)[o]?) (by kernel_rfl) (HKc.out _ hbx) (fun hHeld=>?_)
   generalize wc.drew=wx at hbx hBl hBr hHeld ⊢;clear hbx2;refine wT 0 23 ?_;refine wT 1 24 ?_;refine wT 2 25 ?_;refine wT 3 26 ?_;refine wT 4 27 ?_;refine wT 5 28 ?_;refine wT 6 29 ?_;refine wT 7 30 ?_;refine wT 8 31 ?_;refine wRn 9 (fun K hK=>?_)
   obtain ⟨q0,f0⟩:=hBl.rules;have t0:=hBl.lt;go_simp;refine zaS (K:=K _) hBl 1 _ ?_;intro wy hsx htx hBl';replace hBr:=hBr.turned htx hne.symm;replace hbx:=za0.upon hbx htx hll (Nat.le_refl _);clear q0 f0 t0 hBl;refine hK.out _ _ (HKc.out _ hbx) (fun hHeld=>?_)
   clear hK K;refine wT 10 32 ?_;refine wRn 11 (fun K hK=>?_)
   obtain ⟨q0,f0⟩:=hBr.rules;have t0:=hBr.lt;go_simp;refine zaS (K:=K _) hBr 0 _ ?_;intro wz hsz htz hBr';replace hBl':=hBl'.turned htz hne;replace hbx:=za0.upon hbx htz hlr (Nat.le_refl _);clear q0 f0 t0 hBr;refine hK.out _ _ (HKc.out _ hbx) (fun hHeld=>?_)
   clear hK K;try simp only [pu,List.set]
   refine wpAnyH_done (by kernel_rfl) ?_ _
   have hBl2:Blk wz gl 118 #[.int .i64 (leftS s a).from_,.int .i64 (leftS s a).till,.int .i64 (leftS s a).owner,.int .i64 (leftS s a).epoch]:=hBl';have hBr2:Blk wz gr 118 #[.int .i64 (rightS s z).from_,.int .i64 (rightS s z).till,.int .i64 (rightS s z).owner,.int .i64 (rightS s z).epoch]:=hBr';have own2:=za4 own1 hbx (Nat.le_refl _);have hrow:∀ k,(Value.slice Ao t co).ownBlock=some k→k<wb.heap.size:=fun k hk=>(own1.lt k hk).2
   have hbw:=hb1.trans (hbx.mono hb1.size);have hwz:=hbw.size;have hla:okS (leftS s a)=true→(leftS s a).from_<a:=fun h=>by unfold okS leftS at h;simp only [decide_eq_true_eq] at h;unfold leftS;simp only;omega
   have HST:=zmZ (a:=a) (z:=z) (o,at_) s hla;simp only at HST;generalize leftS s a=L at HST hla hBl2;generalize rightS s z=R at HST hBr2;have HS:=Lib.hid HST;clear HST hBl' hBr' HK0 HKc own1 hb1 hsx hsz htx htz;obtain ⟨q0,f0⟩:=hBl2.rules;obtain ⟨q1,f1⟩:=hBr2.rules;by_cases hL:L.from_<L.till
   · have hLa:L.from_<a:=hla (decide_eq_true hL)
     have HL:=Lib.hid (show okS L=true from decide_eq_true hL);go_upto_region 12 with (at_builtin;refine za5 rfl _ _ _ rfl w.heap.size 118 i0 _ 4 32 Tryz.underlying29 hi hz0 hz1 hz2 rfl (by omega) rfl (own2.alloc _) rfl (za6.new (xs:=spCs L) (n:=1) rfl rfl rfl) (zdz L) (by simp only [maxLen];omega) (by omega) (by rw [World.size_alloc];omega) ?_;intro A8 c8 w8 own8 hg8;have hBl3:=((hBl2.alloc (.cells (spCs L).toArray 118)).grown hg8.grown (fun e=>by have:=hrow gl e.symm;omega));obtain ⟨q2,f2⟩:=hBl3.rules)
     have hBr3:=((hBr2.alloc (.cells (spCs L).toArray 118)).grown hg8.grown (fun e=>by have:=hrow gr e.symm;omega))
     have own9:w8.ownsRow w.heap.size 118 4 (.slice A8 (t+1) c8) (t+1) ((o++[L]).flatMap spCs):=by rw [List.flatMap_append];simpa using own8
     have hb8:=(hbw.alloc hwz (.cells (spCs L).toArray 118)).trans hg8.below;have hw8:=hb8.size;clear q0 f0 q1 f1 own8 hBr2 hBl2 own2;obtain ⟨q1,f1⟩:=hBr3.rules;by_cases hR:R.from_<R.till
     · have HR:=Lib.hid (show okS R=true from decide_eq_true hR)
       go_upto_region 14 with (at_builtin;refine za5 rfl _ _ _ rfl w.heap.size 118 i0 _ 4 32 Tryz.underlying29 hi hz0 hz1 hz2 rfl (by omega) rfl (own9.alloc _) rfl (za6.new (xs:=spCs R) (n:=1) rfl rfl rfl) (zdz R) (by simp only [maxLen];omega) (by omega) (by rw [World.size_alloc];omega) ?_;intro A10 c10 w10 own10 hg10)
       have own11:w10.ownsRow w.heap.size 118 4 (.slice A10 (t+1+1) c10) (t+1+1) (((o++[L])++[R]).flatMap spCs):=by rw [List.flatMap_append];simpa using own10
       have hb10:=(hb8.alloc hw8 (.cells (spCs R).toArray 118)).trans hg10.below;go_wp2_with fail;go_roundw
       case rel=>exact ⟨j+1,((o++[L])++[R]),(t+1+1),(t+1),A10,c10,by go_num,by omega,Lib.hid (by rw [HT.out,←ho.out];exact by rw [HS.out,if_pos HL.out,if_pos HR.out,if_pos HL.out,hto.out]),Lib.hid (by rw [List.length_append,List.length_append,hto.out];rfl),by omega,rfl,by go_num,by exact own11,hb10,⟨_,rfl⟩,⟨_,rfl⟩,_,rfl⟩
       case measure=>simp [intOf];omega
     · have HR:=Lib.hid (show ¬okS R=true from fun h=>hR (of_decide_eq_true h))
       go_wp2_with fail;go_roundw
       case rel=>exact ⟨j+1,(o++[L]),(t+1),(t+1),A8,c8,by go_num,by omega,Lib.hid (by rw [HT.out,←ho.out];exact by rw [HS.out,if_pos HL.out,if_neg HR.out,if_pos HL.out,hto.out,List.append_nil]),Lib.hid (by rw [List.length_append,hto.out];rfl),by omega,rfl,by go_num,by exact own9,hb8,⟨_,rfl⟩,⟨_,rfl⟩,_,rfl⟩
       case measure=>simp [intOf];omega
   · have HL:=Lib.hid (show ¬okS L=true from fun h=>hL (of_decide_eq_true h))
     by_cases hR:R.from_<R.till
     · have HR:=Lib.hid (show okS R=true from decide_eq_true hR)
       go_upto_region 14 with (at_builtin;refine za5 rfl _ _ _ rfl w.heap.size 118 i0 _ 4 32 Tryz.underlying29 hi hz0 hz1 hz2 rfl (by omega) rfl (own2.alloc _) rfl (za6.new (xs:=spCs R) (n:=1) rfl rfl rfl) (zdz R) (by simp only [maxLen];omega) (by omega) (by rw [World.size_alloc];omega) ?_;intro A10 c10 w10 own10 hg10)
       have own11:w10.ownsRow w.heap.size 118 4 (.slice A10 (t+1) c10) (t+1) ((o++[R]).flatMap spCs):=by rw [List.flatMap_append];simpa using own10
       have hb10:=(hbw.alloc hwz (.cells (spCs R).toArray 118)).trans hg10.below;go_wp2_with fail;go_roundw
       case rel=>exact ⟨j+1,(o++[R]),(t+1),at_,A10,c10,by go_num,by omega,Lib.hid (by rw [HT.out,←ho.out];exact by rw [HS.out,if_neg HL.out,if_pos HR.out,if_neg HL.out,List.append_nil]),Lib.hid (by rw [List.length_append,hto.out];rfl),by omega,rfl,by go_num,by exact own11,hb10,⟨_,rfl⟩,⟨_,rfl⟩,_,rfl⟩
       case measure=>simp [intOf];omega
     · have HR:=Lib.hid (show ¬okS R=true from fun h=>hR (of_decide_eq_true h))
       go_wp2_with fail;go_roundw
       case rel=>exact ⟨j+1,o,t,at_,Ao,co,by go_num,by omega,Lib.hid (by rw [HT.out,←ho.out];exact by rw [HS.out,if_neg HL.out,if_neg HR.out,if_neg HL.out,List.append_nil,List.append_nil]),Lib.hid (by exact hto.out),by omega,rfl,by go_num,by exact own2,hbw,⟨_,rfl⟩,⟨_,rfl⟩,_,rfl⟩
       case measure=>simp [intOf];omega
end Go.Proofs.YthblkdnijhphhaaGreat
