/- A part of the proof. -/
import Derived.Test.YtcapmeefiglfjaaGreatKeepsLaw
set_option linter.unusedSimpArgs false
set_option maxHeartbeats 16000000
set_option maxRecDepth 100000
namespace Go.Proofs.YtcapmeefiglfjaaGreat
open Go.RowKit
theorem zc3:∃ d,Tryz.prog.underlying 26=some d∧d.isRow=true:=⟨_,Tryz.underlying26,rfl⟩
theorem eR {W:World} {g:Nat} {t:TypeId} {cs:Array Value} (hB:Blk W g t cs) (hn:cs.size=15):(loadVar 37 ⟨g,0,none⟩).run Tryz.prog W=.ok (.agg cs) W:=by
 obtain ⟨d,hu,hd⟩:=nG;have hr:W.rangeAt g 0 cs.toList:=fun j v hv=>by rw [zj5,hB.rules.1 j,←hv,ziU]
 have:=run_loadVar_mid (P:=Tryz.prog) W g 0 37 cs.toList d hr hu hd (by rw [kJ,Array.length_toList,hn])
 rwa [Array.toArray_toList] at this
theorem cY {W:World} {g:Nat} {t:TypeId} {cs:Array Value} (hB:Blk W g t cs) (hn:cs.size=4):(loadVar 26 ⟨g,0,none⟩).run Tryz.prog W=.ok (.agg cs) W:=by
 obtain ⟨d,hu,hd⟩:=zc3;have hr:W.rangeAt g 0 cs.toList:=fun j v hv=>by rw [zj5,hB.rules.1 j,←hv,ziU]
 have:=run_loadVar_mid (P:=Tryz.prog) W g 0 26 cs.toList d hr hu hd (by rw [sD,Array.length_toList,hn])
 rwa [Array.toArray_toList] at this
structure DB (w:World) (B gd gh:Nat) (wr:World) (d:Zd) (h:Ho):Prop where
 below:Below w.heap.size w wr
 dev:∃ A c,Blk wr gd 26 (zdC d A c)∧IsL Rp.zone wr (fun b=>B≤b∧b≠gd∧b≠gh) (.slice A d.z.length c) d.z
 host:∃ cs,Blk wr gh 37 cs∧cs.size=15∧aY wr (fun b=>B≤b∧b≠gd∧b≠gh) (.agg cs) h
 g0:w.heap.size≤gd
 gl:gd<gh
section
variable {w wr wr':World} {B gd gh:Nat} {d d':Zd} {h h':Ho}
theorem DB.step (hi:DB w B gd gh wr d h) (hb:Below wr.heap.size wr wr'):DB w B gd gh wr' d h:=by
 obtain ⟨h1,⟨A,c,h2,h3⟩,⟨cs,h4,h5,h6⟩,h7,h8⟩:=hi;exact ⟨h1.trans (hb.mono h1.size),⟨A,c,h2.step hb,h3.step hb⟩,⟨cs,h4.step hb,h5,h6.step hb⟩,h7,h8⟩
theorem DB.stD (hi:DB w B gd gh wr d h) (ht:aA wr wr' (fun b=>b=gd)) {A:Option Addr} {c:Nat} (hz:IsL Rp.zone wr (fun b=>B≤b∧b≠gd∧b≠gh) (.slice A d'.z.length c) d'.z) (hB:Blk wr' gd 26 (zdC d' A c)):DB w B gd gh wr' d' h:=by
 obtain ⟨h1,_,⟨cs,h4,h5,h6⟩,h7,h8⟩:=hi;exact ⟨aA.upon h1 ht h7 (zic _),⟨A,c,hB,hz.turned ht (fun b hb e=>hb.2.1 e)⟩,⟨cs,h4.turned ht (by omega),h5,aY.keep h6 (ht.cells (K:=fun b=>B≤b∧b≠gd∧b≠gh) fun b hb e=>hb.2.1 e)⟩,h7,h8⟩
theorem DB.stH (hi:DB w B gd gh wr d h) (ht:aA wr wr' (fun b=>b=gh)) {cs:Array Value} (hn:cs.size=15) (hh:aY wr (fun b=>B≤b∧b≠gd∧b≠gh) (.agg cs) h') (hB:Blk wr' gh 37 cs):DB w B gd gh wr' d h':=by
 obtain ⟨h1,⟨A,c,h2,h3⟩,_,h7,h8⟩:=hi;exact ⟨aA.upon h1 ht (by omega) (zic _),⟨A,c,h2.turned ht (by omega),h3.turned ht (fun b hb e=>hb.2.2 e)⟩,⟨cs,hB,hn,aY.keep hh (ht.cells (K:=fun b=>B≤b∧b≠gd∧b≠gh) fun b hb e=>hb.2.2 e)⟩,h7,h8⟩
theorem DB.made {A:Option Addr} {c:Nat} {cs:Array Value} (hb:Below w.heap.size w wr) (h2:Blk wr gd 26 (zdC d A c)) (h3:IsL Rp.zone wr (fun b=>B≤b∧b≠gd∧b≠gh) (.slice A d.z.length c) d.z) (h4:Blk wr gh 37 cs) (h5:cs.size=15)
 (h6:aY wr (fun b=>B≤b∧b≠gd∧b≠gh) (.agg cs) h) (g0:w.heap.size≤gd) (gl:gd<gh):DB w B gd gh wr d h:=⟨hb,⟨A,c,h2,h3⟩,⟨cs,h4,h5,h6⟩,g0,gl⟩
end
def f24:Nat→Int:=fun _=>2
def s60:List Sp:=[⟨0,60,1,1⟩]
def d24 (j:Nat):Zd:=cO 400 (fz f24 4 j)
abbrev h24 (j:Nat):Ho:=zag s60 f24 j
theorem oS (w:World) :
 Calls Tryz.prog 5 #[] w fun e w'=>∃ dv vh,e=.returned (.tuple #[dv,vh,.bool true])∧mG w' (fun b=>w.heap.size≤b) dv vh (d24 4) (h24 4)∧Below w.heap.size w w':=by
 have hM65:(1:Int)≤400∧(400:Int)≤65536:=by decide
 have hZ64:1≤4∧4≤64:=by decide
 have hnw:=fun W=>zbH 4 400 4 4 W
 rw [show zgm 4 400 4 4=(d24 0,0) from zf1 f24 (n:=4) hZ64 hM65] at hnw;have hoz:∀ j,OkA 400 (fz f24 4 j):=fun j=>zeB hM65 hZ64 fun k _=>by unfold f24;omega
 have hsn:∀ z∈(d24 0).z,vS z.d:=fun z hz=>by
  have e:z.d=[]:=(show ∀ z∈(d24 0).z,z.d=[] by decide) z hz
  rw [e];exact zdF
 have hne:=fun A c K W h=>ze0 1 (d24 0) A c K W (by decide) (hoz 0).ok hsn h (by rw [show (d24 0).z.length=4 from mQ];show ∀ x∈dL (bA (fz f24 4 0)) [] 4,_;rw [zbX];simp) (by show ∀ f∈bA (fz f24 4 0),_;rw [lA];intro f hf;obtain ⟨_,rfl⟩:=List.mem_replicate.1 hf;simp [f0d]) (by show newF 0 (bA (fz f24 4 0))≤_;rw [lA,lP];decide) (by show 0≤newF 0 (bA (fz f24 4 0));rw [lA,lP];decide)
 rw [show newF 0 (bA (d24 0).z)=0 by show newF 0 (bA (fz f24 4 0))=0;rw [lA,lP]] at hne
 have hbl:=fun v K W a b=>yU (zha 1 [] 0) v 0 60 1 K W a b (by constructor <;> decide) (by decide) (by decide) (by decide)
 rw [show nO (zha 1 [] 0) 0 60 1=h24 0 from rfl] at hbl;go_enter Tryz.func5,Tryz.ntmps5
 go_upto_region 1 with fail;have E:=((Kn.start w).push 26 #[.int .i64 0,.int .i64 0,.int .i64 0,.slice none 0 0]) |>.push 37 #[.int .i64 0,.slice none 0 0,.slice none 0 0,.bool false,.int .i64 0,.int .i64 0,.int .i64 0,.int .i64 0,.int .i64 0,.int .i64 0,.slice none 0 0,.slice none 0 0,.slice none 0 0,.int .i64 0,.int .i64 0]
 rw [zid] at E;generalize (w.alloc (.cells #[.int .i64 0,.int .i64 0,.int .i64 0,.slice none 0 0] 26)).alloc (.cells #[.int .i64 0,.slice none 0 0,.slice none 0 0,.bool false,.int .i64 0,.int .i64 0,.int .i64 0,.int .i64 0,.int .i64 0,.int .i64 0,.slice none 0 0,.slice none 0 0,.slice none 0 0,.int .i64 0,.int .i64 0] 37)=w1 at E ⊢;obtain ⟨cs1,hcs1⟩:∃ cs1:Array Value,cs1=#[.int .i64 0,.slice none 0 0,.slice none 0 0,.bool false,.int .i64 0,.int .i64 0,.int .i64 0,.int .i64 0,.int .i64 0,.int .i64 0,.slice none 0 0,.slice none 0 0,.slice none 0 0,.int .i64 0,.int .i64 0]:=⟨_,rfl⟩;rw [←hcs1] at E;have hcs15:cs1.size=15:=by rw [hcs1];rfl
 clear hcs1;have hs1:w.heap.size+1<w1.heap.size:=(E.at_ m0).lt;go_wp2_with fail;refine (hnw _).mono ?_;rintro e w3 ⟨v,rfl,⟨A,c,rfl,hz⟩,hb3⟩;have hg3:w1.heap.size≤w3.heap.size:=hb3.size;replace E:=((E.step hb3).give aB.list hz.zlt) |>.push 26 (zdC (d24 0) A c)
 clear hnw hz hb3;go_upto_region 2 with fail;have hs3:=(E.at_ m0).lt;obtain ⟨gd,hgd⟩:∃ g,w3.heap.size=g:=⟨_,rfl⟩;have hgl:w.heap.size+1<gd:=by omega
 rw [hgd] at E hs3 ⊢;generalize w3.alloc (.cells (zdC (d24 0) A c) 26)=w4 at E hs3 ⊢;obtain ⟨q0,f0,t0⟩:=E.rules m0;go_wp2_with fail;refine (hne A c _ _ (E.get m0)).mono ?_;rintro e w5 ⟨vh,mm,rfl,hmm,-,-,hh5,hb5⟩;have hm0:mm=[]:=by
  rw [show (d24 0).z.length=4 from mQ] at hmm;have hmm:fB (dL (bA (fz f24 4 0)) [] 4) []=(mm,0):=hmm;rw [zbX] at hmm;injection hmm with hmm;exact hmm.symm
 subst hm0;replace E:=(E.step hb5).give aB.ho hh5.lt;have hs5:=hb5.size;obtain ⟨c5,rfl,hn5,h15,-⟩:=eJ hh5;obtain ⟨gh,hgh⟩:∃ g,w5.heap.size=g:=⟨_,rfl⟩;clear q0 f0 t0 hne hmm hh5 hb5;go_upto_region 3 with (refine iI rfl rfl (by first | rfl | simp [Act.eval,zid]) rfl rfl hn5 h15 ?_)
 replace E:=E.push 37 c5;have hs6:=(E.at_ m0).lt;rw [hgh] at E hs5 hs6;generalize w5.alloc (.cells c5 37)=w6 at E hs6 ⊢;have hbl6:=hbl _ _ w6 (E.get m0) (fun b hb=>by have:=hb.2;omega)
 clear hbl;go_wp2_with (refine eG (E.at_ m0) hn5 rfl rfl rfl ?_);refine hbl6.mono ?_;rintro e w7 ⟨v7,rfl,hh7,hb7⟩;replace E:=E.step hb7;have hs7:=hb7.size;obtain ⟨c7,rfl,hn7,h17,-⟩:=eJ hh7;clear hbl6 hb7;have hD:=DB.made (B:=w.heap.size+2) (gd:=gd) (gh:=gh) (d:=d24 0) E.below (E.at_ m1) ((E.get m1).more fun b hb=>⟨by have:=hb.1;omega,by have:=hb.2;omega,by have:=hb.2;omega⟩) (E.at_ m0) hn5 ((E.get m0).more fun b hb=>⟨by have:=hb.1;omega,by have:=hb.1;omega,by have:=hb.2;omega⟩) (by omega) (by omega)
 replace hh7:aY w7 (fun b=>w.heap.size+2≤b∧b≠gd∧b≠gh) (.agg c7) (h24 0):=hh7.more fun b hb=>by rcases hb with hb | hb <;> exact ⟨by omega,by omega,by omega⟩
 have hR0:=E.at_ m3;have hR1:=E.at_ m2;go_upto_region 4 with (refine jT (E.at_ m0) hn5 rfl rfl rfl rfl hn7 h17 ?_;intro w8 hs8 ht8 hB8);replace hD:=hD.stH ht8 hn7 hh7 hB8;replace hR0:=hR0.turned ht8 (show ¬w.heap.size=gh by omega)
 replace hR1:=hR1.turned ht8 (show ¬w.heap.size+1=gh by omega)
 clear E hh7 ht8 hB8 hs8 hs7 hs6 hs5 hs3 hg3 hgd hgh hn5 h15 hn7 h17;go_upto_region 7 with fail;go_loopw [8,9,10,11,12,39] (fun x8 x9 x10 x11 x12 x39 wr=>∃ j:Nat,x39=.int .i64 j∧j≤4∧DB w (w.heap.size+2) gd gh wr (d24 j) (h24 j)∧Blk wr w.heap.size 26 #[.int .i64 0,.int .i64 0,.int .i64 0,.slice none 0 0]∧Blk wr (w.heap.size+1) 37 cs1∧(∃ y,x8=y)∧(∃ y,x9=y)∧(∃ y,x10=y)∧(∃ y,x11=y)∧∃ y,x12=y) (fun _ _ _ _ _ x39 _=>4-(intOf x39).toNat)
 case atStart=>exact ⟨0,rfl,by omega,hD,hR0,hR1,⟨_,rfl⟩,⟨_,rfl⟩,⟨_,rfl⟩,⟨_,rfl⟩,_,rfl⟩
 case round=>
  clear hD hR0 hR1;obtain ⟨j,rfl,hj,hD,hR0,hR1,⟨y1,rfl⟩,⟨y2,rfl⟩,⟨y3,rfl⟩,⟨y4,rfl⟩,y5,rfl⟩:=hrel;by_cases hj4:j<4
  case neg=>
   obtain rfl:j=4:=by omega
   go_upto_region 16 with fail;have hb0:Below wr.heap.size wr wr.drew:=(zif _ _).drew;replace hD:=hD.step hb0;replace hR0:=hR0.step hb0;replace hR1:=hR1.step hb0;clear hb0;obtain ⟨A9,c9,hBd,hz9⟩:=hD.dev;obtain ⟨ch,hBh,hnh,hho⟩:=hD.host;have h1h:ch.toList.all (·.oneCell')=true:=by obtain ⟨cx,ex,_,h1x,_⟩:=eJ hho;injection ex with ex;rw [ex];exact h1x
   have hg0:=hD.g0;have hgg:=hD.gl;have hbw:=hD.below;refine wp_region_held_drew (S:=fun W=>(∀ o,W.cell? ⟨gd,o,none⟩=(zdC (d24 4) A9 c9)[o]?)∧∀ o,W.cell? ⟨gh,o,none⟩=ch[o]?) (by kernel_rfl) ⟨hBd.rules.1,hBh.rules.1⟩ (fun hHeld=>?_)
   generalize wr.drew=wx at hD hR0 hR1 hBd hBh hHeld hz9 hho hbw ⊢;clear hD;refine wT 0 67 ?_;refine wT 1 68 ?_ (hy:=by intro w hSw;(try dsimp only at hSw);refine zkF (dU hSw.2 hnh rfl rfl) ?_;with_reducible rfl)
   refine wRn 2 (fun K hK=>?_)
   refine fN rfl hR0 rfl rfl rfl rfl rfl (by rfl) ?_
   intro wy hsy hty hBy;replace hz9:=hz9.turned hty (fun b hb e=>by have:=hb.1;omega)
   replace hho:=aY.keep hho (hty.cells (K:=fun b=>w.heap.size+2≤b∧b≠gd∧b≠gh) fun b hb e=>by have:=hb.1;omega)
   replace hR1:=hR1.turned hty (show ¬w.heap.size+1=w.heap.size by omega)
   replace hBd:=hBd.turned hty (show ¬gd=w.heap.size by omega)
   replace hBh:=hBh.turned hty (show ¬gh=w.heap.size by omega)
   refine hK.out _ _ ⟨hBd.rules.1,hBh.rules.1⟩ (fun hHeld=>?_)
   clear hK K;try simp only [pu,List.set]
   refine wRn 3 (fun K hK=>?_)
   refine jX rfl hR1 hcs15 rfl rfl rfl hnh h1h ?_;intro wz hsz htz hBz;replace hz9:=hz9.turned htz (fun b hb e=>by have:=hb.1;omega)
   replace hho:=aY.keep hho (htz.cells (K:=fun b=>w.heap.size+2≤b∧b≠gd∧b≠gh) fun b hb e=>by have:=hb.1;omega)
   replace hBy:=hBy.turned htz (show ¬w.heap.size=w.heap.size+1 by omega)
   replace hBd:=hBd.turned htz (show ¬gd=w.heap.size+1 by omega)
   replace hBh:=hBh.turned htz (show ¬gh=w.heap.size+1 by omega)
   refine hK.out _ _ ⟨hBd.rules.1,hBh.rules.1⟩ (fun hHeld=>?_)
   clear hK K;refine wT 4 2 ?_;refine wpAnyH_done (by kernel_rfl) ?_ _
   go_wp2_with fail;obtain ⟨q0,f0⟩:=hBy.rules;obtain ⟨q1,f1⟩:=hBz.rules;have hl1:=eR hBz hnh;have hl0:=cY hBy rfl;refine zik (v:=.tuple #[.agg (zdC (d24 4) A9 c9),.agg ch,.bool true]) (by simp [results,Tryz.results5,asAddr,hl0,hl1,Result.andThen]) rfl ⟨_,_,rfl,⟨⟨A9,c9,rfl,hz9.more fun b hb=>by have:=hb.1;omega⟩,hho.more fun b hb=>by have:=hb.1;omega⟩,aA.upon (aA.upon hbw hty (zic _) (zic _)) htz (by omega) (zic _)⟩
  have j1:(j:Int)<4:=by omega
  have j0:(0:Int)≤(j:Int):=by omega
  have hfen:=zeu (M:=400) (n:=4) (F:=f24) (j:=j) hM65 hZ64 (fun k hk=>by unfold f24;decide) hj4
  have hgai:=zg2 (S:=s60) (F:=f24) (j:=j);obtain ⟨A,c,hBd,hz⟩:=hD.dev;obtain ⟨ch,hBh,hnh,hho⟩:=hD.host;obtain ⟨q0,f0⟩:=hBd.rules;have t0:=hBd.lt;have hdo:=zca (d24 j) ⟨7,j,2,0,0,[]⟩ A c none 0 _ wr hz.zlt (fun b hb=>hb.2) (IsB.nil_ _ _) (by show (fz f24 4 j).length*40≤_;rw [mQ];omega) (by show (0:Int)≤9223372036854775807;decide)
  rw [show doZ (d24 j) ⟨7,j,2,0,0,[]⟩=(d24 (j+1),dn0) from hfen] at hdo;have hghl:=hBh.lt;have hbsz:=hD.below.size;clear hfen;go_wp2_with fail;refine hdo.mono ?_;rintro e wa ⟨va,vdn,rfl,⟨A2,c2,rfl,hza,-⟩,⟨A3,c3,rfl,-⟩,hba⟩;have hza':=hza.more (K':=fun b=>w.heap.size+2≤b∧b≠gd∧b≠gh) (fun b hb=>by have:=hD.g0;rcases hb with hb | hb;exact hb.1;exact ⟨by omega,by omega,by omega⟩)
  replace hD:=hD.step hba;replace hR0:=hR0.step hba;replace hR1:=hR1.step hba;have hba9:=hba.size;clear q0 f0 t0 hBd hz hdo hza hba;go_upto_region 10 with fail;rw [show dn0=(⟨0,0,[]⟩:Dn) from rfl];have hb2:Below wa.heap.size wa ((wa.alloc (.cells (zdC (d24 (j+1)) A2 c2) 26)).alloc (.cells #[.int .i64 0,.int .i64 0,.slice A3 0 c3] 76)):=(zBA).alloc (by rw [zid];omega) _
  have hB9:=(Blk.new wa 26 (zdC (d24 (j+1)) A2 c2) rfl).alloc (.cells #[.int .i64 0,.int .i64 0,.slice A3 0 c3] 76);have hB10:=Blk.new (wa.alloc (.cells (zdC (d24 (j+1)) A2 c2) 26)) 76 #[.int .i64 0,.int .i64 0,.slice A3 0 c3] rfl;rw [zid] at hB10;replace hD:=hD.step hb2;replace hR0:=hR0.step hb2;replace hR1:=hR1.step hb2;replace hza':=hza'.step hb2;have hsa:=hD.below.size;obtain ⟨g9,hg9⟩:∃ g,wa.heap.size=g:=⟨_,rfl⟩;have hg9d:gh<g9:=by rw [←hg9];have:=hba9;omega
  generalize (wa.alloc (.cells (zdC (d24 (j+1)) A2 c2) 26)).alloc (.cells #[.int .i64 0,.int .i64 0,.slice A3 0 c3] 76)=wb at hD hR0 hR1 hza' hB9 hB10 hsa ⊢;rw [hg9] at hB9 hB10 ⊢;clear hb2 hg9 hba9 hBh hho hnh;obtain ⟨ch,hBh,hnh,hho⟩:=hD.host;have hgdl:=hD.gl;have hsm:eB (h24 j):=⟨by show (fo f24 j).length≤_;rw [qS];omega,by show s60.length≤1000000;decide,by show ([]:List UInt8).length≤1000000000;decide,by show ([]:List Rc).length≤1000000;decide,by show ([]:List Ex).length≤1000000;decide⟩
  have hga:=zcO (h24 j) (.agg ch) j 2 _ wb hho.lt (fun b hb=>hb.2) hsm (by omega) (by decide) zga (by show (fo f24 j).length≤_;rw [qS];omega)
  rw [show za0 (h24 j) j 2=h24 (j+1) from hgai] at hga;have hghl2:=hBh.lt;have hg0w:=hD.g0;go_wp2_with (refine eG hBh hnh rfl rfl rfl ?_);refine hga.mono ?_;rintro e wc ⟨vc,rfl,hhc,hbc⟩;obtain ⟨cc,rfl,hnc,h1c,-⟩:=eJ hhc;have hhc':=hhc.more (K':=fun b=>w.heap.size+2≤b∧b≠gd∧b≠gh) (fun b hb=>by rcases hb with hb | hb;exact ⟨by omega,by omega,by omega⟩;exact hb.1)
  replace hD:=hD.step hbc;replace hR0:=hR0.step hbc;replace hR1:=hR1.step hbc;replace hza':=hza'.step hbc;replace hB9:=hB9.step hbc;replace hB10:=hB10.step hbc;have hB10c:=hB10.lt;clear hga hhc hbc hBh hho hsm hgai hnh;go_upto_region 11 with (refine iI rfl rfl (by first | rfl | simp [Act.eval,zid]) rfl rfl hnc h1c ?_)
  have hb3:Below wc.heap.size wc (wc.alloc (.cells cc 37)):=zBA;have hB11:=Blk.new wc 37 cc rfl;replace hD:=hD.step hb3;replace hR0:=hR0.step hb3;replace hR1:=hR1.step hb3;replace hza':=hza'.step hb3;replace hhc':=hhc'.step hb3;replace hB9:=hB9.step hb3;replace hB10:=hB10.step hb3;obtain ⟨g11,hg11⟩:∃ g,wc.heap.size=g:=⟨_,rfl⟩;have hg119:g9+1<g11:=by rw [←hg11];exact hB10c
  generalize wc.alloc (.cells cc 37)=wd at hD hR0 hR1 hza' hhc' hB9 hB10 hB11 ⊢;rw [hg11] at hB11 ⊢;clear hb3 hg11;obtain ⟨q1,f1⟩:=hB10.rules;have t1:=hB10.lt;obtain ⟨q0,f0⟩:=hB9.rules;have t0:=hB9.lt;obtain ⟨_,_,hBd,_⟩:=hD.dev;go_upto_region 14 with (refine eU hBd rfl rfl rfl rfl rfl (by rfl) (by rfl) ?_;intro we hse hte hBe)
  have hD2:=hD.stD hte hza' hBe;have hR02:=hR0.turned hte (show ¬w.heap.size=gd by omega)
  have hR12:=hR1.turned hte (show ¬w.heap.size+1=gd by omega)
  have hB112:=hB11.turned hte (show ¬g11=gd by omega)
  have hhc2:=aY.keep hhc' (hte.cells (K:=fun b=>w.heap.size+2≤b∧b≠gd∧b≠gh) fun b hb e=>hb.2.1 e)
  clear q0 f0 t0 q1 f1 t1 hB9 hB10 hB11 hD hR0 hR1 hza' hhc' hBd hse hte hBe;obtain ⟨c0,hBh,hnh,_⟩:=hD2.host;go_upto_region 15 with (first | (refine eG hB112 hnc rfl rfl rfl ?_) | (refine jT hBh hnh rfl rfl rfl rfl hnc h1c ?_;intro wf hsf htf hBf))
  have hD3:=hD2.stH htf hnc hhc2 hBf;have hR03:=hR02.turned htf (show ¬w.heap.size=gh by omega)
  have hR13:=hR12.turned htf (show ¬w.heap.size+1=gh by omega)
  clear hD2 hR02 hR12 hB112 hhc2 hBh hnh hsf htf hBf;go_wp2;go_roundw
  case rel=>exact ⟨j+1,by go_num,by omega,hD3,hR03,hR13,⟨_,rfl⟩,⟨_,rfl⟩,⟨_,rfl⟩,⟨_,rfl⟩,_,rfl⟩
  case measure=>simp [intOf];omega
end Go.Proofs.YtcapmeefiglfjaaGreat
namespace Go.Proofs.YtcapmeefiglfjaaGreat
open Go.RowKit Go.WideMaps
def nC (L:List En) (lba ver:Int):Option En:=L.find? fun y=>y.lba == lba && y.ver == ver
def blkC (k:Ca) (lba ver:Int) (B:List UInt8):Ca × List UInt8:=
 match nC k.l lba ver with
 | some y=>(⟨k.most,y::bH k.l lba,k.hit+1,k.miss⟩,y.b)
 | none=>(⟨k.most,iR k.most k.l ⟨lba,ver,B⟩,k.hit,k.miss+1⟩,B)
def fM (Kd:Nat→Prop) (w:World) (gr c m:Nat) (ns:List Nat) (k:Ca) (t:Int):Prop:=Blk w gr 59 #[.pointer (some ⟨c,0,none⟩),.int .i64 t]∧zbt Kd w c m ns k
abbrev lW (gr c m:Nat) (ns:List Nat) (b:Nat):Prop:=b=gr∨b=m∨b∈c::ns
def bL (Kd:Nat→Prop) (w w':World) (gr c m:Nat) (ns:List Nat) (k:Ca) (t:Int):Prop:=∃ ns',fM Kd w' gr c m ns' k t∧aA w w' (lW gr c m ns)∧∀ g∈ns',g∈ns∨w.heap.size≤g
section
variable {Kd:Nat→Prop} {w w' w'':World} {gr c m g:Nat} {ns:List Nat} {k k':Ca} {t t':Int}
theorem zbt.step (h:zbt Kd w c m ns k) (hb:Below w.heap.size w w'):zbt Kd w' c m ns k:=by obtain ⟨dt,ah,af,h1,h2⟩:=h;exact ⟨dt,ah,af,h1.step hb,h2⟩
theorem fM.step (h:fM Kd w gr c m ns k t) (hb:Below w.heap.size w w'):fM Kd w' gr c m ns k t:=⟨h.1.step hb,h.2.step hb⟩
theorem zbt.lt (h:zbt Kd w c m ns k):m<w.heap.size∧∀ b∈c::ns,b<w.heap.size:=by obtain ⟨dt,ah,af,h1,h2⟩:=h;exact ⟨h1.map.lt,h1.lt⟩
theorem fM.lt (h:fM Kd w gr c m ns k t) {b:Nat} (hb:lW gr c m ns b):b<w.heap.size:=by
 rcases hb with rfl | rfl | hb
 · exact h.1.lt
 · exact h.2.lt.1
 · exact h.2.lt.2 b hb
theorem fM.apart (h:fM Kd w gr c m ns k t):¬(gr=m∨gr∈c::ns):=fun h9=>by
 obtain ⟨hB,dt,ah,af,h1,h2⟩:=h;rcases h9 with h9 | h9
 · subst h9
   obtain ⟨D,⟨es,k,hm,_⟩,_⟩:=h1.map;unfold Blk at hB;rw [hB] at hm;injection hm with hm;cases hm
 · rcases zim.1 h9 with h8 | h8
   · exact tE hB h1.nd.ca (by decide) h8
   · obtain ⟨v,h3,_⟩:=h1.nd.en _ h8
     exact tE hB h3 (by decide) rfl
theorem fM.len (h:fM Kd w gr c m ns k t):ns.length=k.l.length:=by obtain ⟨_,dt,ah,af,h1,h2⟩:=h;rw [←h2,zjr]
theorem bL.same (h:fM Kd w gr c m ns k t) (hb:Below w.heap.size w w'):bL Kd w w' gr c m ns k t:=⟨ns,h.step hb,aA.of hb,fun _ hg=>.inl hg⟩
theorem bL.on {ns1:List Nat} (t1:aA w w' (lW gr c m ns)) (s1:∀ g∈ns1,g∈ns∨w.heap.size≤g) (h':bL Kd w' w'' gr c m ns1 k' t'):bL Kd w w'' gr c m ns k' t':=by
 obtain ⟨ns2,h2,t2,s2⟩:=h';have hz:=t1.size;refine ⟨ns2,h2,((t1.mono (S':=fun b=>lW gr c m ns b∨w.heap.size≤b) fun b hb=>.inl hb).trans (t2.mono fun b hb=>?_)).fresh fun b hb=>hb,fun g hg=>?_⟩
 · rcases hb with hb | hb | hb
   · exact .inl (.inl hb)
   · exact .inl (.inr (.inl hb))
   · rcases zim.1 hb with h8 | h8
     · exact .inl (.inr (.inr (by rw [h8];exact zih ..)))
     · rcases s1 b h8 with h7 | h7
       · exact .inl (.inr (.inr (zii _ h7)))
       · exact .inr h7
 · rcases s2 g hg with h8 | h8
   · exact s1 g h8
   · exact .inr (by omega)
theorem bL.pre (hb:Below w.heap.size w w') (h':bL Kd w' w'' gr c m ns k' t'):bL Kd w w'' gr c m ns k' t':=bL.on (aA.of hb) (fun _ hg=>.inl hg) h'
theorem bL.post (h:bL Kd w w' gr c m ns k t) (hb:Below w'.heap.size w' w''):bL Kd w w'' gr c m ns k t:=by
 obtain ⟨ns1,h1,t1,s1⟩:=h;exact ⟨ns1,h1.step hb,t1.trans (aA.of hb),s1⟩
theorem kC.rd (h:fM Kd w gr c m ns k t) (hm:kC Kd w w' c m ns k'):bL Kd w w' gr c m ns k' t:=by
 obtain ⟨ns',h1,t1,s1⟩:=hm;exact ⟨ns',⟨h.1.turned t1 h.apart,h1⟩,t1.mono fun b hb=>.inr hb,s1⟩
theorem gI {L:List En} {lba ver:Int} {y:En} (h:nC L lba ver=some y):y∈L∧y.lba=lba∧y.ver=ver:=by
 have h1:=List.find?_some h;simp only [zjC,zkb] at h1;exact ⟨zjV h,h1⟩
theorem zc5 (h:zbt Kd w c m ns k) (lba ver:Int) (hl:0≤lba∧lba≤9223372036854775807) (hm:0≤k.miss∧k.miss<9223372036854775807) (hg:nC k.l lba ver=none) :
 Calls Tryz.prog 70 #[.pointer (some ⟨c,0,none⟩),.int .i64 lba,.int .i64 ver] w fun r w'=>r=.returned (.tuple #[.slice none 0 0,.bool false])∧kC Kd w w' c m ns ⟨k.most,k.l,k.hit,k.miss+1⟩:=by
 obtain ⟨dt,ah,af,h1,h2⟩:=h;refine (zdR h1 lba ver hl hm fun g hf hv=>?_).mono ?_
 · have h3:=zje.1 hg (dt g) (by rw [←h2];exact zjq (fF hf).1)
   simp [(fF hf).2,hv] at h3
 · rintro r w' ⟨rfl,h3,t3⟩
   exact ⟨rfl,ns,⟨dt,ah,af,h3,h2⟩,t3.mono fun b hb=>.inr (by rw [hb];exact zih ..),fun g hg=>.inl hg⟩
theorem zfl (h:zbt Kd w c m ns k) (lba ver:Int) (hm:0≤k.hit∧k.hit<9223372036854775807) {y:En} (hg:nC k.l lba ver=some y) :
 Calls Tryz.prog 70 #[.pointer (some ⟨c,0,none⟩),.int .i64 lba,.int .i64 ver] w fun r w'=>∃ v,r=.returned (.tuple #[v,.bool true])∧IsB w' (fun b=>w.heap.size≤b) v y.b∧kC Kd w w' c m ns ⟨k.most,y::bH k.l lba,k.hit+1,k.miss⟩:=by
 obtain ⟨dt,ah,af,h1,h2⟩:=h;obtain ⟨g1,g2,g3⟩:=gI hg;rw [←h2] at g1;obtain ⟨g,hgm,rfl⟩:=zja.1 g1;obtain ⟨l,r,rfl⟩:=zkr hgm;subst g2 g3;refine (zgx h1 hm).mono ?_;rintro r' w' ⟨v,ah',af',rfl,hv,h3,t3⟩;have hperm:(l++g::r).Perm (g::(l++r)):=zkz;exact ⟨v,rfl,hv,_,⟨dt,ah',af',h3,by
  show dt g::(l++r).map dt=dt g::bH k.l (dt g).lba;rw [←h2,(nI (x:=dt g) h1.lbas rfl).2]⟩,t3.mono fun b hb=>.inr hb,fun y hy=>.inl (hperm.mem_iff.2 hy)⟩
theorem zhL (h:fM Kd w gr c m ns k t) (x:En) (hx:0≤x.lba∧x.lba≤9223372036854775807∧0≤x.ver∧x.ver≤9223372036854775807∧x.b.length=16) {K:Nat→Prop} {v:Value} (hv:IsB w K v x.b) (hns:(k.l.length:Int)≤1000000) (hKd:∀ b,w.heap.size≤b→Kd b) :
 Calls Tryz.prog 71 #[.pointer (some ⟨c,0,none⟩),.int .i64 x.lba,.int .i64 x.ver,v] w fun r' w'=>r'=.returned (.int .i64 0)∧bL Kd w w' gr c m ns ⟨k.most,iR k.most k.l x,k.hit,k.miss⟩ t:=by
 have hlen:=h.len;obtain ⟨hB,dt,ah,af,h1,h2⟩:=h;refine (zeA h1 x hx hv (by omega) hKd).mono ?_
 rintro r' w' ⟨rfl,h3⟩;rw [h2] at h3;exact ⟨rfl,kC.rd ⟨hB,dt,ah,af,h1,h2⟩ h3⟩
theorem zbt.turnedK {S Kd':Nat→Prop} (h:zbt Kd w c m ns k) (ht:aA w w' S) (h1:¬S m∧∀ b∈c::ns,¬S b) (h2:∀ b,Kd b→b<w.heap.size→¬S b∧Kd' b):zbt Kd' w' c m ns k:=by
 obtain ⟨dt,ah,af,⟨⟨n1,n2⟩,n3,n4,n5,n6⟩,n7⟩:=h;refine ⟨dt,ah,af,⟨⟨n1.turned ht (h1.2 c (zih ..)),fun g hg=>?_⟩,n3,n4.turned ht h1.1,n5,n6⟩,n7⟩
 obtain ⟨v,e1,e2⟩:=n2 g hg;exact ⟨v,e1.turned ht (h1.2 g (zii _ hg)),(e2.lt.turned ht fun b hb=>(h2 b hb.1 hb.2).1).more fun b hb=>(h2 b hb.1 hb.2).2⟩
theorem fM.turnedK {S Kd':Nat→Prop} (h:fM Kd w gr c m ns k t) (ht:aA w w' S) (h1:∀ b,lW gr c m ns b→¬S b) (h2:∀ b,Kd b→b<w.heap.size→¬S b∧Kd' b):fM Kd' w' gr c m ns k t:=
 ⟨h.1.turned ht (h1 gr (.inl rfl)),h.2.turnedK ht ⟨h1 m (.inr (.inl rfl)),fun b hb=>h1 b (.inr (.inr hb))⟩ h2⟩
theorem fM.moreK {Kd':Nat→Prop} (h:fM Kd w gr c m ns k t) (h2:∀ b,Kd b→b<w.heap.size→Kd' b):fM Kd' w gr c m ns k t:=
 h.turnedK (aA.refl w fun _=>False) (fun _ _ h=>h) fun b hb hl=>⟨fun h=>h,h2 b hb hl⟩
theorem fM.own {base n:Nat} {v:Value} {xs:List Value} (h:fM Kd w gr c m ns k t) (how:w.ownsRow base 5 1 v n xs):∀ b,lW gr c m ns b→some b≠v.ownBlock:=fun b hb e=>by
 obtain ⟨hB,dt,ah,af,h1,h2⟩:=h;rcases hb with rfl | rfl | hb
 · exact jD how hB (by decide) e.symm
 · obtain ⟨D,⟨es,kk,hm,_⟩,_⟩:=h1.map
   rcases how.2 with ⟨rfl,_⟩ | ⟨g',cap,cur,rfl,_,hh,_⟩
   · simp [Value.ownBlock] at e
   · have:g'=b:=by simpa [Value.ownBlock] using e.symm
     subst this;rw [hm] at hh;injection hh with hh;cases hh
 · rcases zim.1 hb with h8 | h8
   · subst h8;exact jD how h1.nd.ca (by decide) e.symm
   · obtain ⟨v3,h3,_⟩:=h1.nd.en _ h8
     exact jD how h3 (by decide) e.symm
abbrev KO (Kd:Nat→Prop) (v:Value) (b:Nat):Prop:=Kd b∧some b≠v.ownBlock
theorem fM.grew {base n:Nat} {v v':Value} {xs:List Value} (h:fM (KO Kd v) w gr c m ns k t) (how:w.ownsRow base 5 1 v n xs) (hg:xZ base w w' v v'):fM (KO Kd v') w' gr c m ns k t:=by
 have hl:=h.own how;have hg1:=hg.grown;have ht:aA w w' (fun b=>some b=v.ownBlock):=⟨hg1.os,hg1.tape,hg1.output,hg1.size,fun i hi hn=>hg1.block i hi hn⟩
 refine h.turnedK ht hl fun b hb hlt=>⟨hb.2,hb.1,fun e=>?_⟩
 rcases hg.at_ with h9 | ⟨g,h9,h8⟩
 · exact hb.2 (e.trans h9)
 · rw [h9] at e
   injection e with e;omega
theorem fM.trims (h:fM Kd w gr c m ns k t) (u:Int) {K:World→Prop} (hk:∀ wy,wy.heap.size=w.heap.size→aA w wy (fun b=>b=gr)→fM Kd wy gr c m ns k u→K wy):K (w.setCell ⟨gr,1,none⟩ (.int .i64 u)):=by
 have hap:=h.apart;obtain ⟨hB,dt,ah,af,h1,h2⟩:=h;have ht:=(aA.refl w (fun b=>b=gr)).set (g:=gr) rfl 1 (.int .i64 u)
 have hN:NoB #[Value.pointer (some ⟨c,0,none⟩),.int .i64 t]:=by
  intro o n;rcases zjb o 2 with h | h
  · match o,h with
    | 0,_ | 1,_=>simp
  · rw [zjo (by simpa using h)];simp
 have hne:∀ b,b=m∨b∈c::ns→¬b=gr:=fun b hb e=>hap (by rw [←e];exact hb)
 exact hk _ (by simp) ht ⟨hB.set_ 1 _,dt,ah,af,⟨h1.nd.turned hB hN ht (fun e=>hne c (.inr (zih ..)) e.symm) (fun h9=>hne gr (.inr (zii _ h9)) rfl),h1.ring,h1.map.turned ht (hne m (.inl rfl)),h1.lbas,h1.good⟩,h2⟩
theorem zbu (hr:fM Kd w gr c m ns k t) (d:Zd) (A:Option Addr) (cA:Nat) (h:Ho) (v:Value) (lba ver:Int) (B:List UInt8) (K K':Nat→Prop) (hd:IsL Rp.zone w K (.slice A d.z.length cA) d.z) (hv:aY w K' v h)
 (hK:∀ b,K b→¬lW gr c m ns b∧b<w.heap.size) (hK':∀ b,K' b→¬lW gr c m ns b∧b<w.heap.size)
 (hok:okD d) (hch:aC 0 h.m) (hf:rB d.z h.m) (hbl:aJ lba 1) (hB:(cC d.z h.m lba 1).1=B) (hB16:B.length=16)
 (hl:0≤lba∧lba≤9223372036854775807) (hver:0≤ver∧ver≤9223372036854775807) (hhit:0≤k.hit∧k.hit<9223372036854775807) (hmiss:0≤k.miss∧k.miss<9223372036854775807) (hns:(k.l.length:Int)≤1000000) (hKd:∀ b,w.heap.size≤b→Kd b) :
 Calls Tryz.prog 28 #[.pointer (some ⟨gr,0,none⟩),.agg (zdC d A cA),v,.int .i64 lba,.int .i64 ver] w fun r w'=>
  ∃ vb,r=.returned (.tuple #[vb,.int .i64 0])∧IsB w' (fun b=>w.heap.size≤b) vb (blkC k lba ver B).2∧bL Kd w w' gr c m ns (blkC k lba ver B).1 t:=by
 obtain ⟨vo,vs,vb,vl,vm,rfl,h1,h2,h3,h4,h5⟩:=hv;obtain ⟨Ao,co,rfl,-⟩:=h1.form;obtain ⟨As,cs,rfl,-⟩:=h2.form;obtain ⟨Ab,cb,rfl,-⟩:=aK h3;obtain ⟨Al,cl,rfl,-⟩:=h4.form;obtain ⟨Am,cm,rfl,-⟩:=h5.form;have hby:=fun W hz hm=>mF d A cA Am cm h.m lba 1 K K' W hz hm hok hch hbl (by decide) hf
 rw [hB] at hby;have E:=((Kn.start w).give aB.list hd).give aB.list h5 |>.push 26 (zdC d A cA) |>.push 37 (hoS h Ao co As cs Ab cb Al cl Am cm)
 rw [zid] at E;have H16:=zia hB16;clear h1 h2 h3 h4 h5 hd hB16 hB;go_enter Tryz.func28,Tryz.ntmps28
 go_upto_region 1 with fail;have h0:=hr.step E.below;have hlt:=fun {b}=>hr.lt (b:=b)
 generalize (w.alloc (.cells (zdC d A cA) 26)).alloc (.cells (hoS h Ao co As cs Ab cb Al cl Am cm) 37)=w2 at E h0 ⊢;obtain ⟨q0,f0⟩:=h0.1.rules;have u0:=h0.1.lt;cases hg:nC k.l lba ver with
 | some y=>
   have hget:=zfl h0.2 lba ver hhit hg;go_wp2_with fail;refine hget.mono ?_;rintro r' w3 ⟨v3,rfl,hb3,hm3⟩;go_wp2_with fail;go_ret2;unfold blkC;rw [hg];exact ⟨_,rfl,hb3.more fun b hb=>zit E.below.size hb,bL.pre E.below (kC.rd h0 hm3)⟩
 | none=>
   have hget:=zc5 h0.2 lba ver hl hmiss hg;go_wp2_with fail;refine hget.mono ?_;rintro r' w3 ⟨rfl,hm3⟩;obtain ⟨ns3,h3,t3,s3⟩:=kC.rd h0 hm3;have hBd:=(E.at_ m1).turned t3 (fun h9=>by have:=hlt h9;omega)
   have hBh:=(E.at_ m0).turned t3 (fun h9=>by have:=hlt h9;omega)
   have hzl:=(E.get m1).turned t3 (fun b hb=>(hK b hb).1)
   have hml:=(E.get m0).turned t3 (fun b hb=>(hK' b hb).1)
   have hbE:=E.below;clear q0 f0 u0 hget E hm3;obtain ⟨q0,f0⟩:=hBd.rules;have u0:=hBd.lt;obtain ⟨q1,f1⟩:=hBh.rules;have u1:=hBh.lt;go_wp2_with fail;refine (hby _ hzl hml).mono ?_;rintro r' w4 ⟨A4,c4,rfl,hown,hb4⟩;have h4:=h3.step hb4;have hv4:=IsB.of_own hown (by rw [H16.out];decide)
   have hpu:=zhL h4 ⟨lba,ver,B⟩ ⟨hl.1,hl.2,hver.1,hver.2,H16.out⟩ hv4 hns (fun b hb=>hKd b (by have:=hbE.size;have:=t3.size;have:=hb4.size;omega))
   obtain ⟨q2,f2⟩:=h4.1.rules;have u2:=h4.1.lt;clear q0 f0 u0 q1 f1 u1 hby;go_wp2_with fail;refine hpu.mono ?_;rintro r' w5 ⟨rfl,hm5⟩;obtain ⟨ns5,h5,t5,s5⟩:=hm5;have hv5:=hv4.turned t5 (fun b hb h9=>by have:=h3.lt h9;omega)
   clear q2 f2 u2 hpu;go_wp2_with fail;go_ret2;unfold blkC;rw [hg];have hz1:=hbE.size;have hz3:=t3.size;exact ⟨_,rfl,hv5.more fun b hb=>by omega,bL.pre hbE (bL.on t3 s3 (bL.pre hb4 ⟨ns5,h5,t5,s5⟩))⟩
end
