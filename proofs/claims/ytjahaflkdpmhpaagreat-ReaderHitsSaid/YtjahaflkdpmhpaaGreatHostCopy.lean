/- A part of the proof. -/
import Derived.Test.YtjahaflkdpmhpaaGreatHostRep
set_option linter.unusedSimpArgs false
set_option maxHeartbeats 8000000
set_option maxRecDepth 100000
namespace Go.Proofs.YtjahaflkdpmhpaaGreat
open Go.RowKit
theorem at_set {K:World→Prop} {w:World} {g:Nat} {t:TypeId} {cs:Array Value} (hB:Blk w g t cs) (i:Nat) (u:Value)
 (h:∀ wy,wy.heap.size=w.heap.size→Turned w wy (fun b=>b=g)→Blk wy g t (cs.setIfInBounds i u)→K wy):K (w.setCell ⟨g,i,none⟩ u):=
 h _ (by simp) ((Turned.refl w (fun b=>b=g)).set (g:=g) rfl i u) (hB.set_ i u)
theorem at_st15 {K:World→Prop} {w:World} {g:Nat} {t:TypeId} {u0 u1 u2 u3 u4 u5 u6 u7 u8 u9 u10 u11 u12 u13 u14:Value} (hB:Blk w g t #[u0,u1,u2,u3,u4,u5,u6,u7,u8,u9,u10,u11,u12,u13,u14]) (x0 x1 x2 x3 x4 x5 x6 x7 x8 x9 x10 x11 x12 x13 x14:Value)
 (h:∀ wy,wy.heap.size=w.heap.size→Turned w wy (fun b=>b=g)→Blk wy g t #[x0,x1,x2,x3,x4,x5,x6,x7,x8,x9,x10,x11,x12,x13,x14]→K wy):K (((((((((((((((w.setCell ⟨g,0,none⟩ x0).setCell ⟨g,1,none⟩ x1).setCell ⟨g,2,none⟩ x2).setCell ⟨g,3,none⟩ x3).setCell ⟨g,4,none⟩ x4).setCell ⟨g,5,none⟩ x5).setCell ⟨g,6,none⟩ x6).setCell ⟨g,7,none⟩ x7).setCell ⟨g,8,none⟩ x8).setCell ⟨g,9,none⟩ x9).setCell ⟨g,10,none⟩ x10).setCell ⟨g,11,none⟩ x11).setCell ⟨g,12,none⟩ x12).setCell ⟨g,13,none⟩ x13).setCell ⟨g,14,none⟩ x14):=by
 have t0:=Turned.refl w (fun b=>b=g)
 have t1:=t0.set (g:=g) rfl 0 x0;replace hB:Blk _ g t #[x0,u1,u2,u3,u4,u5,u6,u7,u8,u9,u10,u11,u12,u13,u14]:=hB.set_ 0 x0;have t2:=t1.set (g:=g) rfl 1 x1;replace hB:Blk _ g t #[x0,x1,u2,u3,u4,u5,u6,u7,u8,u9,u10,u11,u12,u13,u14]:=hB.set_ 1 x1;have t3:=t2.set (g:=g) rfl 2 x2;replace hB:Blk _ g t #[x0,x1,x2,u3,u4,u5,u6,u7,u8,u9,u10,u11,u12,u13,u14]:=hB.set_ 2 x2;have t4:=t3.set (g:=g) rfl 3 x3;replace hB:Blk _ g t #[x0,x1,x2,x3,u4,u5,u6,u7,u8,u9,u10,u11,u12,u13,u14]:=hB.set_ 3 x3;have t5:=t4.set (g:=g) rfl 4 x4;replace hB:Blk _ g t #[x0,x1,x2,x3,x4,u5,u6,u7,u8,u9,u10,u11,u12,u13,u14]:=hB.set_ 4 x4;have t6:=t5.set (g:=g) rfl 5 x5;replace hB:Blk _ g t #[x0,x1,x2,x3,x4,x5,u6,u7,u8,u9,u10,u11,u12,u13,u14]:=hB.set_ 5 x5;have t7:=t6.set (g:=g) rfl 6 x6;replace hB:Blk _ g t #[x0,x1,x2,x3,x4,x5,x6,u7,u8,u9,u10,u11,u12,u13,u14]:=hB.set_ 6 x6;have t8:=t7.set (g:=g) rfl 7 x7;replace hB:Blk _ g t #[x0,x1,x2,x3,x4,x5,x6,x7,u8,u9,u10,u11,u12,u13,u14]:=hB.set_ 7 x7;have t9:=t8.set (g:=g) rfl 8 x8;replace hB:Blk _ g t #[x0,x1,x2,x3,x4,x5,x6,x7,x8,u9,u10,u11,u12,u13,u14]:=hB.set_ 8 x8;have t10:=t9.set (g:=g) rfl 9 x9;replace hB:Blk _ g t #[x0,x1,x2,x3,x4,x5,x6,x7,x8,x9,u10,u11,u12,u13,u14]:=hB.set_ 9 x9;have t11:=t10.set (g:=g) rfl 10 x10;replace hB:Blk _ g t #[x0,x1,x2,x3,x4,x5,x6,x7,x8,x9,x10,u11,u12,u13,u14]:=hB.set_ 10 x10;have t12:=t11.set (g:=g) rfl 11 x11;replace hB:Blk _ g t #[x0,x1,x2,x3,x4,x5,x6,x7,x8,x9,x10,x11,u12,u13,u14]:=hB.set_ 11 x11;have t13:=t12.set (g:=g) rfl 12 x12;replace hB:Blk _ g t #[x0,x1,x2,x3,x4,x5,x6,x7,x8,x9,x10,x11,x12,u13,u14]:=hB.set_ 12 x12;have t14:=t13.set (g:=g) rfl 13 x13;replace hB:Blk _ g t #[x0,x1,x2,x3,x4,x5,x6,x7,x8,x9,x10,x11,x12,x13,u14]:=hB.set_ 13 x13;have t15:=t14.set (g:=g) rfl 14 x14;replace hB:Blk _ g t #[x0,x1,x2,x3,x4,x5,x6,x7,x8,x9,x10,x11,x12,x13,x14]:=hB.set_ 14 x14;exact h _ (by simp) t15 hB
theorem fn_cells {w:World} {K:Nat→Prop}:∀ {cs:List Value} {l:List Fn},CellsL Rp.fn w K cs l↔cs=l.flatMap fnCs
 | cs,[]=>Iff.rfl
 | cs,e::l=>by
   rw [List.flatMap_cons];constructor
   · rintro ⟨c1,c2,rfl,rfl,h⟩
     rw [fn_cells.1 h];rfl
   · intro h
     exact ⟨fnCs e,l.flatMap fnCs,h,rfl,fn_cells.2 rfl⟩
theorem sp_cells {w:World} {K:Nat→Prop}:∀ {cs:List Value} {l:List Sp},CellsL Rp.sp w K cs l↔cs=l.flatMap spCs
 | cs,[]=>Iff.rfl
 | cs,e::l=>by
   rw [List.flatMap_cons];constructor
   · rintro ⟨c1,c2,rfl,rfl,h⟩
     rw [sp_cells.1 h];rfl
   · intro h
     exact ⟨spCs e,l.flatMap spCs,h,rfl,sp_cells.2 rfl⟩
structure SmallHo (h:Ho):Prop where
 own:h.own.length≤1000000
 s:h.s.length≤1000000
 buf:h.p.buf.length≤1000000000
 l:h.p.l.length≤1000000
 m:h.m.length≤1000000
section
variable {α:Type} {R:Rp α} {w:World} {K:Nat→Prop} {A:Option Addr} {n c:Nat} {l:List α}
theorem IsL.parts (h:IsL R w K (.slice A n c) l):∃ xs,Reads w K R.size A n xs∧(∀ u∈xs,u.oneCell'=true)∧CellsL R w K xs l∧l.length=n:=by
 obtain ⟨e,⟨cs,h1,h2⟩,_⟩:=h.open_;subst e;exact ⟨cs,h1,h2.one,h2,rfl⟩
end
theorem hcopiedX_any (h:Ho) (v:Value) (K:Nat→Prop) (w:World) (hv:IsHo w K v h) (hK:∀ b,K b→b<w.heap.size) (hs:SmallHo h) :
 Calls Tryz.prog 41 #[v] w fun e w'=>∃ Ao co As cs Ab cb Al cl Am cm,e=.returned (.agg (hoS h Ao co As cs Ab cb Al cl Am cm)) ∧
  OwnL Rp.fn w' w.heap.size 127 (fun _=>False) (.slice Ao h.own.length co) h.own∧IsL Rp.sp w' (fun b=>w.heap.size≤b∧(Value.slice Ao h.own.length co).ownBlock≠some b) (.slice As h.s.length cs) h.s∧IsB w' (fun b=>w.heap.size≤b∧(Value.slice Ao h.own.length co).ownBlock≠some b) (.slice Ab h.p.buf.length cb) h.p.buf ∧
  IsL Rp.rc w' (fun b=>(w.heap.size≤b∧(Value.slice Ao h.own.length co).ownBlock≠some b)∨K b) (.slice Al h.p.l.length cl) h.p.l∧IsL Rp.ex w' (fun b=>w.heap.size≤b∧(Value.slice Ao h.own.length co).ownBlock≠some b) (.slice Am h.m.length cm) h.m∧Below w.heap.size w w':=by
 obtain ⟨vo,vs,vb,vl,vm,rfl,h1,h2,h3,h4,h5⟩:=hv;obtain ⟨Ao,co,rfl,-⟩:=h1.form;obtain ⟨As,cs,rfl,-⟩:=h2.form;obtain ⟨Ab,cb,rfl,-⟩:=isB_form h3;obtain ⟨Al,cl,rfl,-⟩:=h4.form;obtain ⟨Am,cm,rfl,-⟩:=h5.form;have E:=((((((Kn.start w).give Stable.list h1).give Stable.list h2).give Stable.list h4).give Stable.list h5).give Stable.bytes h3).push 42 (hoS h Ao co As cs Ab cb Al cl Am cm) |>.push 42 #[.int .i64 0,.slice none 0 0,.slice none 0 0,.bool false,.int .i64 0,.int .i64 0,.int .i64 0,.int .i64 0,.int .i64 0,.int .i64 0,.slice none 0 0,.slice none 0 0,.slice none 0 0,.int .i64 0,.int .i64 0]
 rw [World.size_alloc] at E;obtain ⟨b1,b2,b3,b4,b5⟩:=hs;clear h1 h2 h3 h4 h5;go_enter Tryz.func41,Tryz.ntmps41
 go_upto_region 1 with fail;generalize (w.alloc (.cells (hoS h Ao co As cs Ab cb Al cl Am cm) 42)).alloc (.cells #[.int .i64 0,.slice none 0 0,.slice none 0 0,.bool false,.int .i64 0,.int .i64 0,.int .i64 0,.int .i64 0,.int .i64 0,.int .i64 0,.slice none 0 0,.slice none 0 0,.slice none 0 0,.int .i64 0,.int .i64 0] 42)=w1 at E ⊢;obtain ⟨g,hg⟩:∃ g,w.heap.size=g:=⟨_,rfl⟩;have hK':∀ b,K b→b<g:=fun b hb=>by rw [←hg];exact hK b hb
 obtain ⟨xo,ro,oo,co_,-⟩:=(E.get m4).parts;obtain ⟨xs,rs,os,cs_,-⟩:=(E.get m3).parts;obtain ⟨xm,rm,om,cm_,-⟩:=(E.get m1).parts;have hb0:Below w1.heap.size w1 w1.drew:=(Below.refl _ _).drew;have HKB:=Lib.hid hK';have HK:Hid (∀ W,Below w1.heap.size w1 W→∀ o,W.cell? ⟨g,o,none⟩=(hoS h Ao co As cs Ab cb Al cl Am cm)[o]?):=Lib.hid fun W hb=>by rw [←hg];exact ((E.step hb).rules m1).1
 refine wp_region_D (S:=fun (L:Array Bool) (W:World)=>L.getD 10 false=true∨(∀ o,W.cell? ⟨g,o,none⟩=(hoS h Ao co As cs Ab cb Al cl Am cm)[o]?)) (by kernel_rfl) (.inr (HK.out _ hb0)) (fun hDn hSn=>?_)
 rw [hg] at E ⊢;clear hK hK';generalize w1.drew=w2 at hb0 hDn hSn ⊢;refine wD 0 3 (fun hDn hSn=>?_)
 refine wpAnyD_take (i:=1) (oi:=⟨some 4,_,_,_,_,_⟩) (v:=?_) (Si:=fun W=>∀ o,W.cell? ⟨g,o,none⟩=(hoS h Ao co As cs Ab cb Al cl Am cm)[o]?) rfl (by kernel_rfl) (by kernel_rfl) (by kernel_rfl) (fun _ _ _ h=>h) (fun L W hD hu hS=>hS.resolve_left (fun h=>by have h:=hD.2 10 _ rfl h ⟨1,.phase⟩ (by simp) rfl;rw [hu] at h;cases h)) (fun L W=>by simp only [getD_set_ne false (show (1:Nat)≠10 by omega)]) (Or.inl ⟨by rfl,?hy⟩) (by assumption) (by assumption) (fun hDn hSn=>?_)
 case hy=>intro w hSw;(try dsimp only at hSw);go_simp;with_reducible rfl
 refine wD 3 6 (fun hDn hSn=>?_)
 refine wpAnyD_take (i:=4) (oi:=⟨some 7,_,_,_,_,_⟩) (v:=?_) (Si:=fun W=>∀ o,W.cell? ⟨g,o,none⟩=(hoS h Ao co As cs Ab cb Al cl Am cm)[o]?) rfl (by kernel_rfl) (by kernel_rfl) (by kernel_rfl) (fun _ _ _ h=>h) (fun L W hD hu hS=>hS.resolve_left (fun h=>by have h:=hD.2 10 _ rfl h ⟨4,.phase⟩ (by simp) rfl;rw [hu] at h;cases h)) (fun L W=>by simp only [getD_set_ne false (show (4:Nat)≠10 by omega)]) (Or.inl ⟨by rfl,?hy⟩) (by assumption) (by assumption) (fun hDn hSn=>?_)
 case hy=>intro w hSw;(try dsimp only at hSw);go_simp;with_reducible rfl
 refine wD 6 9 (fun hDn hSn=>?_)
 refine wpAnyD_take (i:=7) (oi:=⟨some 10,_,_,_,_,_⟩) (v:=?_) (Si:=fun W=>∀ o,W.cell? ⟨g,o,none⟩=(hoS h Ao co As cs Ab cb Al cl Am cm)[o]?) rfl (by kernel_rfl) (by kernel_rfl) (by kernel_rfl) (fun _ _ _ h=>h) (fun L W hD hu hS=>hS.resolve_left (fun h=>by have h:=hD.2 10 _ rfl h ⟨7,.phase⟩ (by simp) rfl;rw [hu] at h;cases h)) (fun L W=>by simp only [getD_set_ne false (show (7:Nat)≠10 by omega)]) (Or.inl ⟨by rfl,?hy⟩) (by assumption) (by assumption) (fun hDn hSn=>?_)
 case hy=>intro w hSw;(try dsimp only at hSw);go_simp;with_reducible rfl
 try simp only [pu,List.set]
 refine wpAnyD_one (i:=2) (o:=⟨some 5,_,_,_,_,_⟩) (by kernel_rfl) rfl (by assumption) (fun K hK=>?_)
 go_simp;refine (cloneF_any Ao h.own.length co _ xo _ (ro.step hb0) oo (by omega)).mono ?_
 rintro e w3 ⟨Ao3,co3,rfl,own3,hb3⟩;replace hb3:=hb0.trans (hb3.mono hb0.size);go_wp2_with fail;refine hK.out _ _ (.inr (HK.out _ hb3)) (fun hDn hSn=>?_)
 clear hK K;refine wD 9 12 (fun hDn hSn=>?_)
 refine wpAnyD_one (i:=5) (o:=⟨some 8,_,_,_,_,_⟩) (by kernel_rfl) rfl (by assumption) (fun K hK=>?_)
 go_simp;refine (cloneS_any As h.s.length cs _ xs _ (rs.step hb3) os (by omega)).mono ?_
 rintro e w4 ⟨As4,cs4,rfl,own4,hb4⟩;have hz34:=hb4.size;have own34:=own_below own3 hb4 (Nat.le_refl _);replace hb4:=hb3.trans (hb4.mono hb3.size);go_wp2_with fail;refine hK.out _ _ (.inr (HK.out _ hb4)) (fun hDn hSn=>?_)
 clear hK K;try simp only [pu,List.set]
 refine wpAnyD_one (i:=8) (o:=⟨some 11,_,_,_,_,_⟩) (by kernel_rfl) rfl (by assumption) (fun K hK=>?_)
 go_simp;refine (cloneE_any Am h.m.length cm _ xm _ (rm.step hb4) om (by omega)).mono ?_
 rintro e w5 ⟨Am5,cm5,rfl,own5,hb5⟩;have hz45:=hb5.size;have own35:=own_below own34 hb5 (Nat.le_refl _);have own45:=own_below own4 hb5 (Nat.le_refl _);replace hb5:=hb4.trans (hb5.mono hb4.size);go_wp2_with fail;refine hK.out _ _ (.inr (HK.out _ hb5)) (fun hDn hSn=>?_)
 clear hK K;try simp only [pu,List.set]
 refine wpAnyD_one (i:=10) (o:=⟨none,_,_,_,_,_⟩) (by kernel_rfl) rfl (by assumption) (fun K hK=>?_)
 have hBx:=(E.step hb5).at_ m1;obtain ⟨q0,f0⟩:=hBx.rules;have t0:=hBx.lt;go_simp;refine at_set (K:=K _) hBx 1 _ ?_;intro w6 hs6 ht6 hB6;clear q0 f0 t0;refine hK.out _ _ (.inl (by kernel_rfl)) (fun hDn hSn=>?_)
 clear hK K;refine wD 11 13 (fun hDn hSn=>?_)
 refine wpAnyD_one (i:=12) (o:=⟨none,_,_,_,_,_⟩) (by kernel_rfl) rfl (by assumption) (fun K hK=>?_)
 obtain ⟨q0,f0⟩:=hB6.rules;have t0:=hB6.lt;go_simp;refine at_set (K:=K _) hB6 2 _ ?_;intro w7 hs7 ht7 hB7;clear q0 f0 t0;refine hK.out _ _ (.inl (by kernel_rfl)) (fun hDn hSn=>?_)
 clear hK K;refine wD 13 14 (fun hDn hSn=>?_)
 refine wpAnyD_one (i:=14) (o:=⟨none,_,_,_,_,_⟩) (by kernel_rfl) rfl (by assumption) (fun K hK=>?_)
 obtain ⟨q0,f0⟩:=hB7.rules;have t0:=hB7.lt;go_simp;refine at_set (K:=K _) hB7 12 _ ?_;intro w8 hs8 ht8 hB8;clear q0 f0 t0;refine hK.out _ _ (.inl (by kernel_rfl)) (fun hDn hSn=>?_)
 clear hK K;try simp only [pu,List.set]
 refine wpAnyD_done (by kernel_rfl) ?_ _
 have hlo3:∀ b,(Value.slice Ao3 h.own.length co3).ownBlock=some b→b<w3.heap.size:=fun b e=>(own3.lt b e).2
 have T8:=(ht6.trans ht7).trans ht8;have hg1:g<w1.heap.size:=(E.at_ m1).lt;have hgw:g<w2.heap.size:=by have:=hb0.size;omega
 have hs8':w8.heap.size=w5.heap.size:=by rw [hs8,hs7,hs6]
 have hB8':Blk w8 g 42 (hoS h Ao3 co3 As4 cs4 Ab cb Al cl Am5 cm5):=hB8;have hBr:=((E.step hb5).at_ m0).turned T8 (show ¬g+1=g by omega)
 have hbuf:=((E.step hb5).get m0).turned T8 (fun b hb e=>by have:=HKB.out b hb;omega)
 have hrc:=((E.step hb5).get m2).turned T8 (fun b hb e=>by have:=HKB.out b hb;omega)
 have o3:=own_turned own35 T8 (by omega)
 have o4:=own_turned own45 T8 (by have:=hb3.size;have:=hb0.size;omega)
 have o5:=own_turned own5 T8 (by have:=hb4.size;have:=hb0.size;omega)
 have hbl8:=Turned.upon (E.below.trans (hb5.mono E.base)) T8 (Nat.le_refl _) (by omega)
 have hsz5:=hb5.size;clear own3 own34 own35 own4 own45 own5 ht6 ht7 ht8 hB6 hB7 hB8 T8 hDn hSn HK;go_upto_region 2 with fail;obtain ⟨xb,rb,ob,hxb⟩:∃ xb,Reads w8 _ 1 Ab h.p.buf.length xb∧(∀ u∈xb,u.oneCell'=true)∧xb=cells8 h.p.buf:=⟨_,(IsB.open_ hbuf).2.1,cells8_one _,rfl⟩;obtain ⟨xr,rr,or_,cr_,-⟩:=hrc.parts;have hbA:Below w8.heap.size w8 w8.drew:=(Below.refl _ _).drew;have HK:Hid (∀ W,Below w8.heap.size w8 W→∀ o,W.cell? ⟨g,o,none⟩=(hoS h Ao3 co3 As4 cs4 Ab cb Al cl Am5 cm5)[o]?):=Lib.hid fun W hb=>(hB8'.step hb).rules.1
 refine wp_region_D (S:=fun (L:Array Bool) (W:World)=>L.getD 10 false=true∨(∀ o,W.cell? ⟨g,o,none⟩=(hoS h Ao3 co3 As4 cs4 Ab cb Al cl Am5 cm5)[o]?)) (by kernel_rfl) (.inr (HK.out _ hbA)) (fun hDn hSn=>?_)
 generalize w8.drew=w9 at hbA hDn hSn ⊢;refine wD 0 15 (fun hDn hSn=>?_)
 refine wD 1 16 (fun hDn hSn=>?_)
 refine wpAnyD_take (i:=2) (oi:=⟨some 17,_,_,_,_,_⟩) (v:=?_) (Si:=fun W=>∀ o,W.cell? ⟨g,o,none⟩=(hoS h Ao3 co3 As4 cs4 Ab cb Al cl Am5 cm5)[o]?) rfl (by kernel_rfl) (by kernel_rfl) (by kernel_rfl) (fun _ _ _ h=>h) (fun L W hD hu hS=>hS.resolve_left (fun h=>by have h:=hD.2 10 _ rfl h ⟨2,.phase⟩ (by simp) rfl;rw [hu] at h;cases h)) (fun L W=>by simp only [getD_set_ne false (show (2:Nat)≠10 by omega)]) (Or.inl ⟨by rfl,?hy⟩) (by assumption) (by assumption) (fun hDn hSn=>?_)
 case hy=>intro w hSw;(try dsimp only at hSw);go_simp;with_reducible rfl
 refine wD 4 19 (fun hDn hSn=>?_)
 refine wD 5 20 (fun hDn hSn=>?_)
 refine wpAnyD_take (i:=6) (oi:=⟨some 21,_,_,_,_,_⟩) (v:=?_) (Si:=fun W=>∀ o,W.cell? ⟨g,o,none⟩=(hoS h Ao3 co3 As4 cs4 Ab cb Al cl Am5 cm5)[o]?) rfl (by kernel_rfl) (by kernel_rfl) (by kernel_rfl) (fun _ _ _ h=>h) (fun L W hD hu hS=>hS.resolve_left (fun h=>by have h:=hD.2 10 _ rfl h ⟨6,.phase⟩ (by simp) rfl;rw [hu] at h;cases h)) (fun L W=>by simp only [getD_set_ne false (show (6:Nat)≠10 by omega)]) (Or.inl ⟨by rfl,?hy⟩) (by assumption) (by assumption) (fun hDn hSn=>?_)
 case hy=>intro w hSw;(try dsimp only at hSw);go_simp;with_reducible rfl
 try simp only [pu,List.set]
 refine wpAnyD_one (i:=3) (o:=⟨some 18,_,_,_,_,_⟩) (by kernel_rfl) rfl (by assumption) (fun K hK=>?_)
 go_simp;refine (clone8_any Ab h.p.buf.length cb _ xb _ (rb.step hbA) ob (by omega)).mono ?_
 rintro e w10 ⟨Ab10,cb10,rfl,own10,hb10⟩;have hz910:=hb10.size;replace hb10:=hbA.trans (hb10.mono hbA.size);go_wp2_with fail;refine hK.out _ _ (.inr (HK.out _ hb10)) (fun hDn hSn=>?_)
 clear hK K;refine wD 8 23 (fun hDn hSn=>?_)
 refine wD 9 24 (fun hDn hSn=>?_)
 refine wpAnyD_one (i:=7) (o:=⟨some 22,_,_,_,_,_⟩) (by kernel_rfl) rfl (by assumption) (fun K hK=>?_)
 go_simp;refine (cloneR_any Al h.p.l.length cl _ xr _ (rr.step hb10) or_ (by omega)).mono ?_
 rintro e w11 ⟨Al11,cl11,rfl,own11,hb11⟩;have own101:=own_below own10 hb11 (Nat.le_refl _);replace hb11:=hb10.trans (hb11.mono hb10.size);go_wp2_with fail;refine hK.out _ _ (.inr (HK.out _ hb11)) (fun hDn hSn=>?_)
 clear hK K;try simp only [pu,List.set]
 refine wpAnyD_one (i:=10) (o:=⟨none,_,_,_,_,_⟩) (by kernel_rfl) rfl (by assumption) (fun K hK=>?_)
 have hBx:=hB8'.step hb11;obtain ⟨q0,f0⟩:=hBx.rules;have t0:=hBx.lt;go_simp;refine at_set (K:=K _) hBx 10 _ ?_;intro w12 hs12 ht12 hB12;clear q0 f0 t0;refine hK.out _ _ (.inl (by kernel_rfl)) (fun hDn hSn=>?_)
 clear hK K;refine wD 11 25 (fun hDn hSn=>?_)
 refine wD 12 26 (fun hDn hSn=>?_)
 refine wpAnyD_one (i:=13) (o:=⟨none,_,_,_,_,_⟩) (by kernel_rfl) rfl (by assumption) (fun K hK=>?_)
 obtain ⟨q0,f0⟩:=hB12.rules;have t0:=hB12.lt;go_simp;refine at_set (K:=K _) hB12 11 _ ?_;intro w13 hs13 ht13 hB13;clear q0 f0 t0;refine hK.out _ _ (.inl (by kernel_rfl)) (fun hDn hSn=>?_)
 clear hK K;try simp only [pu,List.set]
 refine wpAnyD_done (by kernel_rfl) ?_ _
 have T13:=ht12.trans ht13;have hB13':Blk w13 g 42 (hoS h Ao3 co3 As4 cs4 Ab10 cb10 Al11 cl11 Am5 cm5):=hB13;have hBr2:=(hBr.step hb11).turned T13 (show ¬g+1=g by omega)
 have h8s:=hb11.size;have hbl13:=Turned.upon (hbl8.trans (hb11.mono (by omega))) T13 (Nat.le_refl _) (by omega)
 have p3:=own_turned (own_below o3 hb11 (Nat.le_refl _)) T13 (by omega)
 have p4:=own_turned (own_below o4 hb11 (Nat.le_refl _)) T13 (by have:=hb3.size;omega)
 have p5:=own_turned (own_below o5 hb11 (Nat.le_refl _)) T13 (by have:=hb4.size;omega)
 have p10:=own_turned own101 T13 (by have:=hbA.size;omega)
 have p11:=own_turned own11 T13 (by have:=hb10.size;omega)
 have hs13':w13.heap.size=w11.heap.size:=by rw [hs13,hs12]
 have hcr:=(cr_.step hb11).turned T13 (fun b hb e=>by have:=HKB.out b hb;omega)
 obtain ⟨q0,f0⟩:=hB13'.rules;have t0:=hB13'.lt;obtain ⟨q1,f1⟩:=hBr2.rules;have t1:=hBr2.lt;clear hDn hSn HK hB12 hB13 hBx ht12 ht13 own10 own101 own11 o3 o4 o5;go_wp2;refine at_st15 (K:=fun W=>bodyPost _ _ _ _ _ W) hBr2 _ _ _ _ _ _ _ _ _ _ _ _ _ _ _ ?_
 intro w14 hs14 ht14 hB14;obtain ⟨q2,f2⟩:=hB14.rules;have hg2:g+1<w1.heap.size:=(E.at_ m0).lt;have hbl14:=Turned.upon hbl13 ht14 (by omega) (by omega)
 have r3:=own_turned p3 ht14 (by have:=hb0.size;omega)
 have r4:=own_turned p4 ht14 (by have:=hb3.size;omega)
 have r5:=own_turned p5 ht14 (by have:=hb4.size;omega)
 have r10:=own_turned p10 ht14 (by have:=hbA.size;omega)
 have r11:=own_turned p11 ht14 (by have:=hb10.size;omega)
 have hcr2:=hcr.turned ht14 (fun b hb e=>by have:=HKB.out b hb;omega)
 have s0:=hb0.size;have s3:=hb3.size;have s4:=hb4.size;have sA:=hbA.size;have s10:=hb10.size;refine bodyPost_ret (v:=.agg (hoS h Ao3 co3 As4 cs4 Ab10 cb10 Al11 cl11 Am5 cm5)) (by simp [results,Tryz.results41,go_sem,q2]) rfl ?_
 rw [hg];have fin:∀ {α:Type} {R:Rp α} {e:TypeId} {v:Value} {l:List α} {B:Nat},w3.heap.size≤B→OwnL R w14 B e (fun _=>False) v l→l.length≤140737488355328→IsL R w14 (fun b=>g≤b∧(Value.slice Ao3 h.own.length co3).ownBlock≠some b) v l:=fun hB h hl=>(h.isL hl).more fun b hb=>by
  have hb:=hb.resolve_right (fun h=>h)
  exact ⟨by omega,fun e=>by have:=hlo3 b e;omega⟩
 subst hxb;exact ⟨Ao3,co3,As4,cs4,Ab10,cb10,Al11,cl11,Am5,cm5,rfl,⟨_,_,xo,rfl,own_base r3 (by omega),fn_cells.2 (fn_cells.1 co_)⟩,fin (Nat.le_refl _) ⟨_,_,xs,rfl,r4,sp_cells.2 (sp_cells.1 cs_)⟩ (by omega),(IsB.of_own r10 (by omega)).more (fun b hb=>⟨by omega,fun e=>by have:=hlo3 b e;omega⟩),
  (OwnL.isL ⟨_,_,xr,rfl,r11,hcr2⟩ (by omega)).more (fun b hb=>hb.imp (fun hb=>⟨by omega,fun e=>by have:=hlo3 b e;omega⟩) id),fin hz34 ⟨_,_,xm,rfl,r5,ex_cells.2 (ex_cells.1 cm_)⟩ (by omega),hbl14⟩
theorem hcopied_any (h:Ho) (v:Value) (K:Nat→Prop) (w:World) (hv:IsHo w K v h) (hK:∀ b,K b→b<w.heap.size) (hs:SmallHo h) :
 Calls Tryz.prog 41 #[v] w fun e w'=>∃ Ao co As cs Ab cb Al cl Am cm,e=.returned (.agg (hoS h Ao co As cs Ab cb Al cl Am cm)) ∧
  OwnL Rp.fn w' w.heap.size 127 (fun _=>False) (.slice Ao h.own.length co) h.own∧IsL Rp.sp w' (fun b=>w.heap.size≤b) (.slice As h.s.length cs) h.s∧IsB w' (fun b=>w.heap.size≤b) (.slice Ab h.p.buf.length cb) h.p.buf ∧
  IsL Rp.rc w' (fun b=>w.heap.size≤b∨K b) (.slice Al h.p.l.length cl) h.p.l∧IsL Rp.ex w' (fun b=>w.heap.size≤b) (.slice Am h.m.length cm) h.m∧Below w.heap.size w w':=
 (hcopiedX_any h v K w hv hK hs).mono fun _ _ ⟨Ao,co,As,cs,Ab,cb,Al,cl,Am,cm,e,h1,h2,h3,h4,h5,h6⟩=>⟨Ao,co,As,cs,Ab,cb,Al,cl,Am,cm,e,h1,h2.more fun _ h=>h.1,h3.more fun _ h=>h.1,h4.more fun _ h=>h.imp (fun h=>h.1) id,h5.more fun _ h=>h.1,h6⟩
end Go.Proofs.YtjahaflkdpmhpaaGreat
