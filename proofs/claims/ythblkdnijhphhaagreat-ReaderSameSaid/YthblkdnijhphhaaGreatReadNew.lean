/- A part of the proof. -/
import Derived.Test.YthblkdnijhphhaaGreatReadRead
set_option linter.unusedSimpArgs false
set_option maxHeartbeats 16000000
set_option maxRecDepth 100000
namespace Go.Proofs.YthblkdnijhphhaaGreat
open Go.RowKit
theorem zdS (F:Nat→Int) (n:Nat):zak (fz F n 0)=List.replicate n f0d:=by
 have:fz F n 0=List.replicate n z0:=by
  unfold fz;rw [List.eq_replicate_iff];exact ⟨by simp,fun z hz=>by obtain ⟨k,_,rfl⟩:=List.mem_map.1 hz;rw [if_neg (by omega)]⟩
 rw [this];unfold zak;rw [List.map_replicate];congr 1
theorem zkK (F:Nat→Int) (n:Nat):fz F n 0=List.replicate n z0:=by
 unfold fz;rw [List.eq_replicate_iff];exact ⟨by simp,fun z hz=>by obtain ⟨k,_,rfl⟩:=List.mem_map.1 hz;rw [if_neg (by omega)]⟩
theorem zmJ (F:Nat→Int) {n:Nat} {M:Int} (hn:1≤n∧n≤64) (hM:1≤M∧M≤65536):newD n M n n=(devA M (fz F n 0),0):=by
 have hok:OkA M (fz (fun _=>0) n 0):=zne hM hn fun _ _=>Int.le_refl 0
 have hok:=hok.ok;rw [zkK] at hok;unfold newD;rw [if_neg (by omega),Int.toNat_natCast]
 have:devA M (List.replicate n z0)=⟨M,n,n,List.replicate n z0⟩:=by unfold devA;rw [List.length_replicate]
 rw [←this,if_pos (by unfold chkD;rw [if_pos hok]),zkK]
theorem zl3 (F:Nat→Int) (n:Nat):zb8 (zak (fz F n 0)) [] n=[]:=by
 unfold zb8;rw [List.flatMap_eq_nil_iff];intro k _;rw [zdS];have:(List.replicate n f0d).getD k f0d=f0d:=by
  rw [List.getD_eq_getElem?_getD,List.getElem?_replicate];split <;> rfl
 rw [this];split
 · rfl
 · rfl
theorem zdW:∀ n,newF 0 (List.replicate n f0d)=0
 | 0=>rfl
 | n+1=>by
   unfold newF;rw [List.replicate_succ,List.foldl_cons];exact zdW n
theorem zll:∃ d,Tryz.prog.underlying 27=some d∧d.isRow=true:=⟨_,Tryz.underlying27,rfl⟩
theorem zbz {W:World} {g:Nat} {t:TypeId} {cs:Array Value} (hB:Blk W g t cs) (hn:cs.size=15):(loadVar 38 ⟨g,0,none⟩).run Tryz.prog W=.ok (.agg cs) W:=by
 obtain ⟨d,hu,hd⟩:=zep;have hr:W.rangeAt g 0 cs.toList:=fun j v hv=>by rw [Nat.zero_add,hB.rules.1 j,←hv,Array.getElem?_toList]
 have:=run_loadVar_mid (P:=Tryz.prog) W g 0 38 cs.toList d hr hu hd (by rw [zdq,Array.length_toList,hn])
 rwa [Array.toArray_toList] at this
theorem zaY {W:World} {g:Nat} {t:TypeId} {cs:Array Value} (hB:Blk W g t cs) (hn:cs.size=4):(loadVar 27 ⟨g,0,none⟩).run Tryz.prog W=.ok (.agg cs) W:=by
 obtain ⟨d,hu,hd⟩:=zll;have hr:W.rangeAt g 0 cs.toList:=fun j v hv=>by rw [Nat.zero_add,hB.rules.1 j,←hv,Array.getElem?_toList]
 have:=run_loadVar_mid (P:=Tryz.prog) W g 0 27 cs.toList d hr hu hd (by rw [zgq,Array.length_toList,hn])
 rwa [Array.toArray_toList] at this
structure DB (w:World) (B gd gh:Nat) (wr:World) (d:Zd) (h:Ho):Prop where
 below:Below w.heap.size w wr
 dev:∃ A c,Blk wr gd 27 (zdC d A c)∧IsL Rp.zone wr (fun b=>B≤b∧b≠gd∧b≠gh) (.slice A d.z.length c) d.z
 host:∃ cs,Blk wr gh 38 cs∧cs.size=15∧IsHo wr (fun b=>B≤b∧b≠gd∧b≠gh) (.agg cs) h
 g0:w.heap.size≤gd
 gl:gd<gh
section
variable {w wr wr':World} {B gd gh:Nat} {d d':Zd} {h h':Ho}
theorem DB.step (hi:DB w B gd gh wr d h) (hb:Below wr.heap.size wr wr'):DB w B gd gh wr' d h:=by
 obtain ⟨h1,⟨A,c,h2,h3⟩,⟨cs,h4,h5,h6⟩,h7,h8⟩:=hi;exact ⟨h1.trans (hb.mono h1.size),⟨A,c,h2.step hb,h3.step hb⟩,⟨cs,h4.step hb,h5,h6.step hb⟩,h7,h8⟩
theorem DB.stD (hi:DB w B gd gh wr d h) (ht:za0 wr wr' (fun b=>b=gd)) {A:Option Addr} {c:Nat} (hz:IsL Rp.zone wr (fun b=>B≤b∧b≠gd∧b≠gh) (.slice A d'.z.length c) d'.z) (hB:Blk wr' gd 27 (zdC d' A c)):DB w B gd gh wr' d' h:=by
 obtain ⟨h1,_,⟨cs,h4,h5,h6⟩,h7,h8⟩:=hi;exact ⟨za0.upon h1 ht h7 (Nat.le_refl _),⟨A,c,hB,hz.turned ht (fun b hb e=>hb.2.1 e)⟩,⟨cs,h4.turned ht (by omega),h5,IsHo.keep h6 (ht.cells (K:=fun b=>B≤b∧b≠gd∧b≠gh) fun b hb e=>hb.2.1 e)⟩,h7,h8⟩
theorem DB.stH (hi:DB w B gd gh wr d h) (ht:za0 wr wr' (fun b=>b=gh)) {cs:Array Value} (hn:cs.size=15) (hh:IsHo wr (fun b=>B≤b∧b≠gd∧b≠gh) (.agg cs) h') (hB:Blk wr' gh 38 cs):DB w B gd gh wr' d h':=by
 obtain ⟨h1,⟨A,c,h2,h3⟩,_,h7,h8⟩:=hi;exact ⟨za0.upon h1 ht (by omega) (Nat.le_refl _),⟨A,c,h2.turned ht (by omega),h3.turned ht (fun b hb e=>hb.2.2 e)⟩,⟨cs,hB,hn,IsHo.keep hh (ht.cells (K:=fun b=>B≤b∧b≠gd∧b≠gh) fun b hb e=>hb.2.2 e)⟩,h7,h8⟩
theorem DB.made {A:Option Addr} {c:Nat} {cs:Array Value} (hb:Below w.heap.size w wr) (h2:Blk wr gd 27 (zdC d A c)) (h3:IsL Rp.zone wr (fun b=>B≤b∧b≠gd∧b≠gh) (.slice A d.z.length c) d.z) (h4:Blk wr gh 38 cs) (h5:cs.size=15)
 (h6:IsHo wr (fun b=>B≤b∧b≠gd∧b≠gh) (.agg cs) h) (g0:w.heap.size≤gd) (gl:gd<gh):DB w B gd gh wr d h:=⟨hb,⟨A,c,h2,h3⟩,⟨cs,h4,h5,h6⟩,g0,gl⟩
end
def f24:Nat→Int:=fun _=>2
def s60:List Sp:=[⟨0,60,1,1⟩]
def d24 (j:Nat):Zd:=devA 400 (fz f24 4 j)
abbrev h24 (j:Nat):Ho:=ziU s60 f24 j
theorem zeO (w:World) :
 Calls Tryz.prog 6 #[] w fun e w'=>∃ dv vh,e=.returned (.tuple #[dv,vh,.bool true])∧ze6 w' (fun b=>w.heap.size≤b) dv vh (d24 4) (h24 4)∧Below w.heap.size w w':=by
 have hM65:(1:Int)≤400∧(400:Int)≤65536:=by decide
 have hZ64:1≤4∧4≤64:=by decide
 have hnw:=fun W=>zku 4 400 4 4 W
 rw [show newD 4 400 4 4=(d24 0,0) from zmJ f24 (n:=4) hZ64 hM65] at hnw;have hoz:∀ j,OkA 400 (fz f24 4 j):=fun j=>zne hM65 hZ64 fun k _=>by unfold f24;omega
 have hsn:∀ z∈(d24 0).z,zgI z.d:=fun z hz=>by
  have e:z.d=[]:=(show ∀ z∈(d24 0).z,z.d=[] by decide) z hz
  rw [e];exact zkO
 have hne:=fun A c K W h=>zng 1 (d24 0) A c K W (by decide) (hoz 0).ok hsn h (by rw [show (d24 0).z.length=4 from zei];show ∀ x∈zb8 (zak (fz f24 4 0)) [] 4,_;rw [zl3];simp) (by show ∀ f∈zak (fz f24 4 0),_;rw [zdS];intro f hf;obtain ⟨_,rfl⟩:=List.mem_replicate.1 hf;simp [f0d]) (by show newF 0 (zak (fz f24 4 0))≤_;rw [zdS,zdW];decide) (by show 0≤newF 0 (zak (fz f24 4 0));rw [zdS,zdW];decide)
 rw [show newF 0 (zak (d24 0).z)=0 by show newF 0 (zak (fz f24 4 0))=0;rw [zdS,zdW]] at hne
 have hbl:=fun v K W a b=>zis (newH 1 [] 0) v 0 60 1 K W a b (by constructor <;> decide) (by decide) (by decide) (by decide)
 rw [show zfh (newH 1 [] 0) 0 60 1=h24 0 from rfl] at hbl;go_enter Tryz.func6,Tryz.ntmps6
 go_upto_region 1 with fail;have E:=((Kn.start w).push 27 #[.int .i64 0,.int .i64 0,.int .i64 0,.slice none 0 0]) |>.push 38 #[.int .i64 0,.slice none 0 0,.slice none 0 0,.bool false,.int .i64 0,.int .i64 0,.int .i64 0,.int .i64 0,.int .i64 0,.int .i64 0,.slice none 0 0,.slice none 0 0,.slice none 0 0,.int .i64 0,.int .i64 0]
 rw [World.size_alloc] at E;generalize (w.alloc (.cells #[.int .i64 0,.int .i64 0,.int .i64 0,.slice none 0 0] 27)).alloc (.cells #[.int .i64 0,.slice none 0 0,.slice none 0 0,.bool false,.int .i64 0,.int .i64 0,.int .i64 0,.int .i64 0,.int .i64 0,.int .i64 0,.slice none 0 0,.slice none 0 0,.slice none 0 0,.int .i64 0,.int .i64 0] 38)=w1 at E ⊢;obtain ⟨cs1,hcs1⟩:∃ cs1:Array Value,cs1=#[.int .i64 0,.slice none 0 0,.slice none 0 0,.bool false,.int .i64 0,.int .i64 0,.int .i64 0,.int .i64 0,.int .i64 0,.int .i64 0,.slice none 0 0,.slice none 0 0,.slice none 0 0,.int .i64 0,.int .i64 0]:=⟨_,rfl⟩;rw [←hcs1] at E;have hcs15:cs1.size=15:=by rw [hcs1];rfl
 clear hcs1;have hs1:w.heap.size+1<w1.heap.size:=(E.at_ m0).lt;go_wp2_with fail;refine (hnw _).mono ?_;rintro e w3 ⟨v,rfl,⟨A,c,rfl,hz⟩,hb3⟩;have hg3:w1.heap.size≤w3.heap.size:=hb3.size;replace E:=((E.step hb3).give za1.list hz.zlt) |>.push 27 (zdC (d24 0) A c)
 clear hnw hz hb3;go_upto_region 2 with fail;have hs3:=(E.at_ m0).lt;obtain ⟨gd,hgd⟩:∃ g,w3.heap.size=g:=⟨_,rfl⟩;have hgl:w.heap.size+1<gd:=by omega
 rw [hgd] at E hs3 ⊢;generalize w3.alloc (.cells (zdC (d24 0) A c) 27)=w4 at E hs3 ⊢;obtain ⟨q0,f0,t0⟩:=E.rules m0;go_wp2_with fail;refine (hne A c _ _ (E.get m0)).mono ?_;rintro e w5 ⟨vh,mm,rfl,hmm,-,-,hh5,hb5⟩;have hm0:mm=[]:=by
  rw [show (d24 0).z.length=4 from zei] at hmm;have hmm:zbL (zb8 (zak (fz f24 4 0)) [] 4) []=(mm,0):=hmm;rw [zl3] at hmm;injection hmm with hmm;exact hmm.symm
 subst hm0;replace E:=(E.step hb5).give za1.ho hh5.lt;have hs5:=hb5.size;obtain ⟨c5,rfl,hn5,h15,-⟩:=zbu hh5;obtain ⟨gh,hgh⟩:∃ g,w5.heap.size=g:=⟨_,rfl⟩;clear q0 f0 t0 hne hmm hh5 hb5;go_upto_region 3 with (refine zcJ rfl rfl (by first | rfl | simp [Act.eval,World.size_alloc]) rfl rfl hn5 h15 ?_)
 replace E:=E.push 38 c5;have hs6:=(E.at_ m0).lt;rw [hgh] at E hs5 hs6;generalize w5.alloc (.cells c5 38)=w6 at E hs6 ⊢;have hbl6:=hbl _ _ w6 (E.get m0) (fun b hb=>by have:=hb.2;omega)
 clear hbl;go_wp2_with (refine zbM (E.at_ m0) hn5 rfl rfl rfl ?_);refine hbl6.mono ?_;rintro e w7 ⟨v7,rfl,hh7,hb7⟩;replace E:=E.step hb7;have hs7:=hb7.size;obtain ⟨c7,rfl,hn7,h17,-⟩:=zbu hh7;clear hbl6 hb7;have hD:=DB.made (B:=w.heap.size+2) (gd:=gd) (gh:=gh) (d:=d24 0) E.below (E.at_ m1) ((E.get m1).more fun b hb=>⟨by have:=hb.1;omega,by have:=hb.2;omega,by have:=hb.2;omega⟩) (E.at_ m0) hn5 ((E.get m0).more fun b hb=>⟨by have:=hb.1;omega,by have:=hb.1;omega,by have:=hb.2;omega⟩) (by omega) (by omega)
 replace hh7:IsHo w7 (fun b=>w.heap.size+2≤b∧b≠gd∧b≠gh) (.agg c7) (h24 0):=hh7.more fun b hb=>by rcases hb with hb | hb <;> exact ⟨by omega,by omega,by omega⟩
 have hR0:=E.at_ m3;have hR1:=E.at_ m2;go_upto_region 4 with (refine zd3 (E.at_ m0) hn5 rfl rfl rfl rfl hn7 h17 ?_;intro w8 hs8 ht8 hB8);replace hD:=hD.stH ht8 hn7 hh7 hB8;replace hR0:=hR0.turned ht8 (show ¬w.heap.size=gh by omega)
 replace hR1:=hR1.turned ht8 (show ¬w.heap.size+1=gh by omega)
 clear E hh7 ht8 hB8 hs8 hs7 hs6 hs5 hs3 hg3 hgd hgh hn5 h15 hn7 h17;go_upto_region 7 with fail;go_loopw [8,9,10,11,12,39] (fun x8 x9 x10 x11 x12 x39 wr=>∃ j:Nat,x39=.int .i64 j∧j≤4∧DB w (w.heap.size+2) gd gh wr (d24 j) (h24 j)∧Blk wr w.heap.size 27 #[.int .i64 0,.int .i64 0,.int .i64 0,.slice none 0 0]∧Blk wr (w.heap.size+1) 38 cs1∧(∃ y,x8=y)∧(∃ y,x9=y)∧(∃ y,x10=y)∧(∃ y,x11=y)∧∃ y,x12=y) (fun _ _ _ _ _ x39 _=>4-(intOf x39).toNat)
 case atStart=>exact ⟨0,rfl,by omega,hD,hR0,hR1,⟨_,rfl⟩,⟨_,rfl⟩,⟨_,rfl⟩,⟨_,rfl⟩,_,rfl⟩
 case round=>
  clear hD hR0 hR1;obtain ⟨j,rfl,hj,hD,hR0,hR1,⟨y1,rfl⟩,⟨y2,rfl⟩,⟨y3,rfl⟩,⟨y4,rfl⟩,y5,rfl⟩:=hrel;by_cases hj4:j<4
  case neg=>
   obtain rfl:j=4:=by omega
   go_upto_region 16 with fail;have hb0:Below wr.heap.size wr wr.drew:=(Below.refl _ _).drew;replace hD:=hD.step hb0;replace hR0:=hR0.step hb0;replace hR1:=hR1.step hb0;clear hb0;obtain ⟨A9,c9,hBd,hz9⟩:=hD.dev;obtain ⟨ch,hBh,hnh,hho⟩:=hD.host;have h1h:ch.toList.all (·.oneCell')=true:=by obtain ⟨cx,ex,_,h1x,_⟩:=zbu hho;injection ex with ex;rw [ex];exact h1x
   have hg0:=hD.g0;have hgg:=hD.gl;have hbw:=hD.below;refine wp_region_held_drew (S:=fun W=>(∀ o,W.cell? ⟨gd,o,none⟩=(zdC (d24 4) A9 c9)[o]?)∧∀ o,W.cell? ⟨gh,o,none⟩=ch[o]?) (by kernel_rfl) ⟨hBd.rules.1,hBh.rules.1⟩ (fun hHeld=>?_)
   generalize wr.drew=wx at hD hR0 hR1 hBd hBh hHeld hz9 hho hbw ⊢;clear hD;refine wT 0 67 ?_;refine wT 1 68 ?_ (hy:=by intro w hSw;(try dsimp only at hSw);refine Eq.trans (zbi hSw.2 hnh rfl rfl) ?_;with_reducible rfl)
   refine wRn 2 (fun K hK=>?_)
   refine zc2 rfl hR0 rfl rfl rfl rfl rfl (by rfl) ?_
   intro wy hsy hty hBy;replace hz9:=hz9.turned hty (fun b hb e=>by have:=hb.1;omega)
   replace hho:=IsHo.keep hho (hty.cells (K:=fun b=>w.heap.size+2≤b∧b≠gd∧b≠gh) fun b hb e=>by have:=hb.1;omega)
   replace hR1:=hR1.turned hty (show ¬w.heap.size+1=w.heap.size by omega)
   replace hBd:=hBd.turned hty (show ¬gd=w.heap.size by omega)
   replace hBh:=hBh.turned hty (show ¬gh=w.heap.size by omega)
   refine hK.out _ _ ⟨hBd.rules.1,hBh.rules.1⟩ (fun hHeld=>?_)
   clear hK K;try simp only [pu,List.set]
   refine wRn 3 (fun K hK=>?_)
   refine zde rfl hR1 hcs15 rfl rfl rfl hnh h1h ?_;intro wz hsz htz hBz;replace hz9:=hz9.turned htz (fun b hb e=>by have:=hb.1;omega)
   replace hho:=IsHo.keep hho (htz.cells (K:=fun b=>w.heap.size+2≤b∧b≠gd∧b≠gh) fun b hb e=>by have:=hb.1;omega)
   replace hBy:=hBy.turned htz (show ¬w.heap.size=w.heap.size+1 by omega)
   replace hBd:=hBd.turned htz (show ¬gd=w.heap.size+1 by omega)
   replace hBh:=hBh.turned htz (show ¬gh=w.heap.size+1 by omega)
   refine hK.out _ _ ⟨hBd.rules.1,hBh.rules.1⟩ (fun hHeld=>?_)
   clear hK K;refine wT 4 2 ?_;refine wpAnyH_done (by kernel_rfl) ?_ _
   go_wp2_with fail;obtain ⟨q0,f0⟩:=hBy.rules;obtain ⟨q1,f1⟩:=hBz.rules;have hl1:=zbz hBz hnh;have hl0:=zaY hBy rfl;refine bodyPost_ret (v:=.tuple #[.agg (zdC (d24 4) A9 c9),.agg ch,.bool true]) (by simp [results,Tryz.results6,asAddr,hl0,hl1,Result.andThen]) rfl ⟨_,_,rfl,⟨⟨A9,c9,rfl,hz9.more fun b hb=>by have:=hb.1;omega⟩,hho.more fun b hb=>by have:=hb.1;omega⟩,za0.upon (za0.upon hbw hty (Nat.le_refl _) (Nat.le_refl _)) htz (by omega) (Nat.le_refl _)⟩
  have j1:(j:Int)<4:=by omega
  have j0:(0:Int)≤(j:Int):=by omega
  have hfen:=zmW (M:=400) (n:=4) (F:=f24) (j:=j) hM65 hZ64 (fun k hk=>by unfold f24;decide) hj4
  have hgai:=zor (S:=s60) (F:=f24) (j:=j);obtain ⟨A,c,hBd,hz⟩:=hD.dev;obtain ⟨ch,hBh,hnh,hho⟩:=hD.host;obtain ⟨q0,f0⟩:=hBd.rules;have t0:=hBd.lt;have hdo:=zlS (d24 j) ⟨7,j,2,0,0,[]⟩ A c none 0 _ wr hz.zlt (fun b hb=>hb.2) (IsB.nil_ _ _) (by show (fz f24 4 j).length*40≤_;rw [zei];omega) (by show (0:Int)≤9223372036854775807;decide)
  rw [show doZ (d24 j) ⟨7,j,2,0,0,[]⟩=(d24 (j+1),dn0) from hfen] at hdo;have hghl:=hBh.lt;have hbsz:=hD.below.size;clear hfen;go_wp2_with fail;refine hdo.mono ?_;rintro e wa ⟨va,vdn,rfl,⟨A2,c2,rfl,hza,-⟩,⟨A3,c3,rfl,-⟩,hba⟩;have hza':=hza.more (K':=fun b=>w.heap.size+2≤b∧b≠gd∧b≠gh) (fun b hb=>by have:=hD.g0;rcases hb with hb | hb;exact hb.1;exact ⟨by omega,by omega,by omega⟩)
  replace hD:=hD.step hba;replace hR0:=hR0.step hba;replace hR1:=hR1.step hba;have hba9:=hba.size;clear q0 f0 t0 hBd hz hdo hza hba;go_upto_region 10 with fail;rw [show dn0=(⟨0,0,[]⟩:Dn) from rfl];have hb2:Below wa.heap.size wa ((wa.alloc (.cells (zdC (d24 (j+1)) A2 c2) 27)).alloc (.cells #[.int .i64 0,.int .i64 0,.slice A3 0 c3] 74)):=((Below.refl _ _).alloc (Nat.le_refl _) _).alloc (by rw [World.size_alloc];omega) _
  have hB9:=(Blk.new wa 27 (zdC (d24 (j+1)) A2 c2) rfl).alloc (.cells #[.int .i64 0,.int .i64 0,.slice A3 0 c3] 74);have hB10:=Blk.new (wa.alloc (.cells (zdC (d24 (j+1)) A2 c2) 27)) 74 #[.int .i64 0,.int .i64 0,.slice A3 0 c3] rfl;rw [World.size_alloc] at hB10;replace hD:=hD.step hb2;replace hR0:=hR0.step hb2;replace hR1:=hR1.step hb2;replace hza':=hza'.step hb2;have hsa:=hD.below.size;obtain ⟨g9,hg9⟩:∃ g,wa.heap.size=g:=⟨_,rfl⟩;have hg9d:gh<g9:=by rw [←hg9];have:=hba9;omega
  generalize (wa.alloc (.cells (zdC (d24 (j+1)) A2 c2) 27)).alloc (.cells #[.int .i64 0,.int .i64 0,.slice A3 0 c3] 74)=wb at hD hR0 hR1 hza' hB9 hB10 hsa ⊢;rw [hg9] at hB9 hB10 ⊢;clear hb2 hg9 hba9 hBh hho hnh;obtain ⟨ch,hBh,hnh,hho⟩:=hD.host;have hgdl:=hD.gl;have hsm:zbm (h24 j):=⟨by show (fo f24 j).length≤_;rw [zfA];omega,by show s60.length≤1000000;decide,by show ([]:List UInt8).length≤1000000000;decide,by show ([]:List Rc).length≤1000000;decide,by show ([]:List Ex).length≤1000000;decide⟩
  have hga:=zkZ (h24 j) (.agg ch) j 2 _ wb hho.lt (fun b hb=>hb.2) hsm (by omega) (by decide) znI (by show (fo f24 j).length≤_;rw [zfA];omega)
  rw [show zhY (h24 j) j 2=h24 (j+1) from hgai] at hga;have hghl2:=hBh.lt;have hg0w:=hD.g0;go_wp2_with (refine zbM hBh hnh rfl rfl rfl ?_);refine hga.mono ?_;rintro e wc ⟨vc,rfl,hhc,hbc⟩;obtain ⟨cc,rfl,hnc,h1c,-⟩:=zbu hhc;have hhc':=hhc.more (K':=fun b=>w.heap.size+2≤b∧b≠gd∧b≠gh) (fun b hb=>by rcases hb with hb | hb;exact ⟨by omega,by omega,by omega⟩;exact hb.1)
  replace hD:=hD.step hbc;replace hR0:=hR0.step hbc;replace hR1:=hR1.step hbc;replace hza':=hza'.step hbc;replace hB9:=hB9.step hbc;replace hB10:=hB10.step hbc;have hB10c:=hB10.lt;clear hga hhc hbc hBh hho hsm hgai hnh;go_upto_region 11 with (refine zcJ rfl rfl (by first | rfl | simp [Act.eval,World.size_alloc]) rfl rfl hnc h1c ?_)
  have hb3:Below wc.heap.size wc (wc.alloc (.cells cc 38)):=(Below.refl _ _).alloc (Nat.le_refl _) _;have hB11:=Blk.new wc 38 cc rfl;replace hD:=hD.step hb3;replace hR0:=hR0.step hb3;replace hR1:=hR1.step hb3;replace hza':=hza'.step hb3;replace hhc':=hhc'.step hb3;replace hB9:=hB9.step hb3;replace hB10:=hB10.step hb3;obtain ⟨g11,hg11⟩:∃ g,wc.heap.size=g:=⟨_,rfl⟩;have hg119:g9+1<g11:=by rw [←hg11];exact hB10c
  generalize wc.alloc (.cells cc 38)=wd at hD hR0 hR1 hza' hhc' hB9 hB10 hB11 ⊢;rw [hg11] at hB11 ⊢;clear hb3 hg11;obtain ⟨q1,f1⟩:=hB10.rules;have t1:=hB10.lt;obtain ⟨q0,f0⟩:=hB9.rules;have t0:=hB9.lt;obtain ⟨_,_,hBd,_⟩:=hD.dev;go_upto_region 14 with (refine zbE hBd rfl rfl rfl rfl rfl (by rfl) (by rfl) ?_;intro we hse hte hBe)
  have hD2:=hD.stD hte hza' hBe;have hR02:=hR0.turned hte (show ¬w.heap.size=gd by omega)
  have hR12:=hR1.turned hte (show ¬w.heap.size+1=gd by omega)
  have hB112:=hB11.turned hte (show ¬g11=gd by omega)
  have hhc2:=IsHo.keep hhc' (hte.cells (K:=fun b=>w.heap.size+2≤b∧b≠gd∧b≠gh) fun b hb e=>hb.2.1 e)
  clear q0 f0 t0 q1 f1 t1 hB9 hB10 hB11 hD hR0 hR1 hza' hhc' hBd hse hte hBe;obtain ⟨c0,hBh,hnh,_⟩:=hD2.host;go_upto_region 15 with (first | (refine zbM hB112 hnc rfl rfl rfl ?_) | (refine zd3 hBh hnh rfl rfl rfl rfl hnc h1c ?_;intro wf hsf htf hBf))
  have hD3:=hD2.stH htf hnc hhc2 hBf;have hR03:=hR02.turned htf (show ¬w.heap.size=gh by omega)
  have hR13:=hR12.turned htf (show ¬w.heap.size+1=gh by omega)
  clear hD2 hR02 hR12 hB112 hhc2 hBh hnh hsf htf hBf;go_wp2;go_roundw
  case rel=>exact ⟨j+1,by go_num,by omega,hD3,hR03,hR13,⟨_,rfl⟩,⟨_,rfl⟩,⟨_,rfl⟩,⟨_,rfl⟩,_,rfl⟩
  case measure=>simp [intOf];omega
def zeL (zs:List Zn) (m:List Ex) (s:Ca × Int × List UInt8) (b:Int):Ca × Int × List UInt8:=
 match see m b with
 | none=>(s.1,s.2.1+1,s.2.2++zaI 16)
 | some t=>if t.2.1<0 then (s.1,s.2.1+1,s.2.2++zaI 16) else ((blkC s.1 b t.1 (zaa zs m b)).1,s.2.1,s.2.2++(blkC s.1 b t.1 (zaa zs m b)).2)
def blocksB (zs:List Zn) (m:List Ex) (a:Int) (n:Nat) (s:Ca × Int × List UInt8):Ca × Int × List UInt8:=(List.range n).foldl (fun s i=>zeL zs m s (a+(i:Nat))) s
section
variable {zs:List Zn} {m:List Ex}
theorem zaM (a:Int) (n:Nat) (s:Ca × Int × List UInt8):blocksB zs m a (n+1) s=zeL zs m (blocksB zs m a n s) (a+(n:Nat)):=by
 unfold blocksB;rw [List.range_succ,List.foldl_append];rfl
theorem zeN (a:Int) (n:Nat) (s:Ca × Int × List UInt8):∀ q:Nat,blocksB zs m a (n+q) s=blocksB zs m (a+(n:Nat)) q (blocksB zs m a n s)
 | 0=>rfl
 | q+1=>by
   rw [←Nat.add_assoc,zaM,zeN a n s q,zaM];congr 1
   omega
theorem zfZ (a:Int) (k:Ca):∀ (q:Nat) (t:Int) (out:List UInt8),(∀ i:Nat,i<q→see m (a+i)=none∨∃ t,see m (a+i)=some t∧t.2.1<0)→blocksB zs m a q (k,t,out)=(k,t+q,out++zaI (q*16))
 | 0,t,out,_=>by show (k,t,out)=_;simp [zaI]
 | q+1,t,out,h=>by
   rw [zaM,zfZ a k q t out fun i hi=>h i (by omega)]
   have hz:zaI ((q+1)*16)=zaI (q*16)++zaI 16:=by rw [←zhD];congr 1;omega
   unfold zeL;rcases h q (by omega) with h1 | ⟨t',h1,h2⟩
   · rw [h1,hz,←List.append_assoc]
     simp only [Prod.mk.injEq,and_true,true_and];omega
   · rw [h1,hz,←List.append_assoc]
     simp only [if_pos h2,Prod.mk.injEq,and_true,true_and];omega
theorem zfN (p:Ex) (hz:¬p.zone<0) (hs:∀ b,hasE p b=true→see m b=some (seeE p b)) (k:Ca) (t:Int) (out:List UInt8):∀ q:Nat,(q:Int)≤p.n →
 blocksB zs m p.lba q (k,t,out)=((zdJ zs m p.lba p.ver q (k,out)).1,t,(zdJ zs m p.lba p.ver q (k,out)).2)
 | 0,_=>rfl
 | q+1,h=>by
   rw [zaM,zfN p hz hs k t out q (by omega)]
   have h1:=hs (p.lba+(q:Nat)) (by unfold hasE endE;simp;omega)
   unfold zeL;rw [h1];show (if p.zone<0 then _ else _)=_;rw [if_neg hz];rfl
theorem zeH:∀ (l:List Ex) (a z:Int),zdG a l z→(∀ p∈l,0<p.n∧((GapE p∧∀ b,hasE p b=true→see m b=none)∨(mayE p∧∀ b,hasE p b=true→see m b=some (seeE p b))))→∀ s,l.foldl (extR zs m) s=blocksB zs m a (z-a).toNat s
 | [],a,z,h,_,s=>by
   have:a=z:=h;subst this;simp [blocksB]
 | p::l,a,z,⟨h1,h2,h3⟩,hp,s=>by
   rw [List.foldl_cons,zeH l (endE p) z h3 (fun q hq=>hp q (List.mem_cons_of_mem _ hq))]
   have hzz:endE p≤z:=by
    have:=(zdx l (endE p) z h3);omega
   unfold endE at hzz;have e1:(z-a).toNat=p.n.toNat+(z-endE p).toNat:=by unfold endE;omega
   rw [e1,zeN];have e2:a+(p.n.toNat:Nat)=endE p:=by unfold endE;omega
   rw [e2];congr 1
   obtain ⟨k,t,out⟩:=s;obtain ⟨_,hc⟩:=hp p (List.mem_cons_self ..);unfold extR;rw [←h1];by_cases hz:p.zone<0
   · rw [if_pos hz,zfZ p.lba k p.n.toNat t out fun i hi=>by
      have hh:hasE p (p.lba+i)=true:=by unfold hasE endE;simp;omega
      rcases hc with ⟨_,hc⟩ | ⟨_,hc⟩
      · exact .inl (hc _ hh)
      · exact .inr ⟨_,hc _ hh,hz⟩]
     simp only [Prod.mk.injEq,true_and,and_true];omega
   · rw [if_neg hz]
     rcases hc with ⟨⟨_,hg,_⟩,_⟩ | ⟨_,hc⟩
     · omega
     · exact (zfN p hz hc k t out p.n.toNat (by omega)).symm
theorem zcg {lba:Int} {n:Nat} (hm:za2 0 m) (hb:za9 lba n) (k:Ca) (t:Int):zcC zs m (lookE m lba n) k t=blocksB zs m lba n (k,t,[]):=by
 obtain ⟨h1,h2,_⟩:=zbJ hm hb;have htl:zdG lba (lookE m lba n) (lba+n):=zcy _ _ _ h1 h2;have:=zeH (zs:=zs) _ _ _ htl (fun p hp=>⟨((zc3 hm hb).1 p hp).1,((zc3 hm hb).1 p hp).2.2.2⟩) (k,t,[])
 unfold zcC;rw [this];congr 1
 omega
end
def Ones (m:List Ex) (P:Int→Bool):Prop:=∀ b,(P b=true→∃ t,see m b=some t∧t.1=1∧¬t.2.1<0)∧(P b=false→see m b=none)
section
variable {zs:List Zn} {m:List Ex} {P:Int→Bool}
theorem zjT (hm:Ones m P) {b:Int} (hb:P b=true) (s:Ca × Int × List UInt8):zeL zs m s b=((blkC s.1 b 1 (zaa zs m b)).1,s.2.1,s.2.2++(blkC s.1 b 1 (zaa zs m b)).2):=by
 obtain ⟨t,h1,h2,h3⟩:=(hm b).1 hb;unfold zeL;rw [h1];simp only [if_neg h3,h2]
end
end Go.Proofs.YthblkdnijhphhaaGreat
namespace Go.Proofs.YthblkdnijhphhaaGreat
open Go.RowKit Go.WideMaps
section
variable {Kd:Nat→Prop} {w:World} {gr c m:Nat} {ns:List Nat} {k:Ca} {t:Int}
theorem zix (room:Int) (w:World) :
 Calls Tryz.prog 8 #[.int .i64 room] w fun r w'=>∃ gr c m,r=.returned (.pointer (some ⟨gr,0,none⟩))∧IsRd Kd w' gr c m [] ⟨max room 0,[],0,0⟩ 0∧(∀ b,OfRd gr c m [] b→w.heap.size≤b)∧Below w.heap.size w w':=by
 have hc:=fun W=>zmN (Kd:=Kd) room W
 go_enter Tryz.func8,Tryz.ntmps8
 go_wp2_with fail;refine (hc _).mono ?_;rintro r w1 ⟨c,m,rfl,hca,h1,h2,hb1⟩;clear hc;go_wp2_with fail;go_ret;have hb2:Below w1.heap.size w1 (w1.alloc (.cells #[.pointer (some ⟨c,0,none⟩),.int .i64 0] 58)):=(Below.refl _ _).alloc (Nat.le_refl _) _;refine ⟨w1.heap.size,c,m,rfl,⟨Blk.new w1 _ _ rfl,hca.step hb2⟩,fun b hb=>?_,hb1.trans (hb2.mono hb1.size)⟩
 rcases hb with h | h | h
 · rw [h];exact hb1.size
 · rw [h];exact h2
 · rcases List.mem_cons.1 h with h | h
   · rw [h];exact h1
   · simp at h
theorem zip (h:IsRd Kd w gr c m ns k t) (hns:k.l.length≤1000000) (lba n:Int) (hl:0≤lba∧lba≤9223372036854775807) :
 Calls Tryz.prog 13 #[.pointer (some ⟨gr,0,none⟩),.int .i64 lba,.int .i64 n] w fun r w'=>r=.returned (.int .i64 (k.l.length-(zgp lba n k.l).length:Int))∧zat Kd w w' gr c m ns ⟨k.most,zgp lba n k.l,k.hit,k.miss⟩ t:=by
 have hlen:=h.len;have h0:=h;obtain ⟨hB,dt,ah,af,h1,h2⟩:=h;have hd:=zky h1 (by omega) lba n hl
 rw [h2,hlen] at hd;obtain ⟨q0,f0⟩:=hB.rules;have u0:=hB.lt;go_enter Tryz.func13,Tryz.ntmps13
 go_wp2_with fail;refine hd.mono ?_;rintro r w1 ⟨rfl,hm⟩;clear q0 f0 u0 hd;go_wp2_with fail;go_ret;exact ⟨rfl,zdd.rd h0 hm⟩
end
end Go.Proofs.YthblkdnijhphhaaGreat
