/- A part of the proof. -/
import Derived.Test.YtjahaflkdpmhpaaGreatReadNew
set_option linter.unusedSimpArgs false
set_option maxHeartbeats 16000000
set_option maxRecDepth 100000
namespace Go.Proofs.YtjahaflkdpmhpaaGreat
open Go.RowKit
def io24 (lba:Int) (n:Nat) (by_:UInt8):Io:=⟨1,lba,n,List.replicate (n*16) by_⟩
abbrev c24 (x:Io):Zd × Ho × Int:=commitH (d24 4) (h24 4) [x]
section
variable {lba:Int} {n:Nat} {by_:UInt8}
theorem mine60 {a m:Int} (h1:0≤a) (h2:1≤m) (h3:a+m≤60):mineS s60 a m=true:=by
 unfold mineS;rw [decide_eq_true (show someB a m 1099511627776 from ⟨h1,h2,by omega,by omega⟩),Bool.true_and,decide_eq_true_eq]
 unfold s60 reachS;simp only [List.foldl_cons,List.foldl_nil];rw [if_pos ⟨h1,by omega⟩]
 exact h3
theorem fine24 (h1:0≤lba) (h2:1≤n) (h3:lba+n≤60):ioErr s60 (io24 lba n by_)=0∧∀ v:Int,0≤v∧v≤1000000→GoodR 10000 (recI v (io24 lba n by_)):=by
 constructor
 · unfold ioErr
   rw [if_neg,show mineS s60 (io24 lba n by_).lba (io24 lba n by_).n=true from mine60 h1 (by show (1:Int)≤(n:Int);omega) h3,if_pos rfl]
   rw [Decidable.not_not];unfold someB ioMost ioLong io24;simp;omega
 · intro v hv
   exact ⟨.inl rfl,⟨h1,by show (1:Int)≤(n:Int);omega,by show lba+(n:Int)≤10000;omega⟩,by show (n:Int)≤256;omega,hv,⟨rfl,rfl⟩,fun _=>by show ((List.replicate (n*16) by_).length:Int)=16*(n:Int);rw [List.length_replicate];omega,fun h=>absurd (show (1:Int)=2 from h) (by decide)⟩
theorem start24:HInv 4 400 f24 10000 s60 (d24 4) (h24 4) (fun _=>⟨1,0,0⟩) []:=HInv.start (by decide) (by decide) (fun k _=>by unfold f24;decide)
theorem okd24:okD (d24 4):=start24.ok.ok
theorem small24:SmallHo (h24 4):=⟨by show (fo f24 4).length≤_;rw [fo_len];omega,by show s60.length≤1000000;decide,by show ([]:List UInt8).length≤1000000000;decide,by show ([]:List Rc).length≤1000000;decide,by show ([]:List Ex).length≤1000000;decide⟩
theorem okh24:OkHo (h24 4):=by
 have ho:∀ f∈fo f24 4,0≤f.zone∧-9223372036854775808≤f.epoch∧f.epoch≤9223372036854775807:=by decide
 exact ⟨by show OkPk p0k;unfold OkPk OkHd p0k;simp,fun f hf=>(ho f hf).1,by decide,fun f hf=>(ho f hf).2,by decide⟩
theorem left24 (h1:0≤lba) (h2:1≤n) (h3:lba+n≤60) (h0:(c24 (io24 lba n by_)).2.2=0) :
 (∃ k H',k<4∧HInv 4 400 f24 10000 s60 (c24 (io24 lba n by_)).1 (c24 (io24 lba n by_)).2.1 H' [(k,recI 1 (io24 lba n by_))])∧PutOk (d24 4) (h24 4) (recsI 1 [io24 lba n by_]):=by
 obtain ⟨f1,f2⟩:=fine24 (by_:=by_) h1 h2 h3;obtain ⟨hs,hp⟩:=commit_step start24 (g:=[io24 lba n by_]) (by simp) (fun o ho=>by rw [List.mem_singleton.1 ho];exact f1) (fun o ho v hv=>by rw [List.mem_singleton.1 ho];exact f2 v hv) (by simp)
 refine ⟨?_,hp⟩;rcases hs with ⟨k,d',h',H',hk,hc,hI⟩ | hs
 · unfold c24
   rw [hc];exact ⟨k,H',hk,hI⟩
 · unfold c24 at h0
   rw [h0] at hs;cases hs
section
variable {k:Nat} {H':Nat→Hd} {d:Zd} {h:Ho}
theorem ones24 (hk:k<4) (hi:HInv 4 400 f24 10000 s60 d h H' [(k,recI 1 (io24 lba n by_))]):Ones h.m (fun b=>decide (lba≤b∧b<lba+n)):=fun b=>by
 rcases run_seeH hi.good (by decide) (hi.map.2 b) with ⟨e1,e2⟩ | ⟨x,hx,hc,_,t,e1,e2,e3⟩
 · refine ⟨fun hb=>absurd (of_decide_eq_true hb) (e2 _ (List.mem_singleton.2 rfl)),fun _=>e1⟩
 · rw [List.mem_singleton.1 hx] at hc e2 e3
   refine ⟨fun _=>⟨t,e1,e2,?_⟩,fun hb=>absurd (show lba≤b∧b<lba+n from hc) (of_decide_eq_false hb)⟩
   rcases e3 with ⟨e4,_⟩ | ⟨_,e4,_⟩
   · exact absurd (show (1:Int)=2 from e4) (by decide)
   · rw [e4];show ¬((k:Nat):Int)<0;omega
theorem read24 (hi:HInv 4 400 f24 10000 s60 d h H' [(k,recI 1 (io24 lba n by_))]) {a m:Int} (h1:0≤a) (h2:1≤m∧m≤256) (h3:a+m≤60):(readH d.z h a m).2=0:=by
 unfold readH;rw [if_neg (fun e=>e ⟨h1,h2.1,h2.2,by omega⟩),hi.s,mine60 h1 h2.1 h3,if_neg (by simp),bytesL_ok hi.map.1 ⟨h1,by omega,by omega,by omega⟩ (by omega) (fitH hi.good (by decide) hi.bytes hi.map)]
theorem vers24 (hi:HInv 4 400 f24 10000 s60 d h H' [(k,recI 1 (io24 lba n by_))]):∀ e∈h.m,e.ver≤9223372036854775807:=fun e he=>by
 obtain ⟨b,hb⟩:∃ b,see h.m b=some (seeE e b):=by
  have hp:=(chain_mem hi.map.1 e he).1.pos;exact ⟨e.lba,see_mem hi.map.1 he (by unfold hasE endE;simp;omega)⟩
 rcases run_seeH hi.good (by decide) (hi.map.2 b) with ⟨e1,_⟩ | ⟨x,hx,_,_,t,e1,e2,_⟩
 · rw [e1] at hb;cases hb
 · rw [e1] at hb
   injection hb with hb;have:e.ver=t.1:=by rw [hb];rfl
   rw [this,e2,List.mem_singleton.1 hx];show (1:Int)≤_;decide
end
theorem com24_any (h1:0≤lba) (h2:1≤n) (h3:lba+n≤60) (h0:(c24 (io24 lba n by_)).2.2=0) (Az:Option Addr) (cz:Nat) (v:Value) (A:Option Addr) (c:Nat) (K Kl:Nat→Prop) (w:World) (hz:IsL Rp.zone w K (.slice Az (d24 4).z.length cz) (d24 4).z) (hv:IsHo w K v (h24 4)) (hl:IsL Rp.io w Kl (.slice A 1 c) [io24 lba n by_]) (hK:∀ b,K b→b<w.heap.size) :
 Calls Tryz.prog 16 #[.agg (zdC (d24 4) Az cz),v,.slice A 1 c] w fun e w'=>∃ dv vh,e=.returned (.tuple #[dv,vh,.int .i64 0])∧DevHo w' (fun b=>K b∨w.heap.size≤b) dv vh (c24 (io24 lba n by_)).1 (c24 (io24 lba n by_)).2.1∧Below w.heap.size w w':=by
 obtain ⟨_,hp⟩:=left24 (by_:=by_) h1 h2 h3 h0;have:=hcommit_any (d24 4) Az cz (h24 4) v A c [io24 lba n by_] K Kl w hz hv hl hK okd24 okh24 small24 (by decide) (by simp) (by simp) (fun _=>errL_of fun r hr=>by
  rw [show recsI (h24 4).ver [io24 lba n by_]=[recI 1 (io24 lba n by_)] from rfl] at hr;rw [List.mem_singleton.1 hr];exact ((fine24 (by_:=by_) h1 h2 h3).2 1 (by decide)).fit (by decide)) (fun _ h=>hp h)
 rw [show (commitH (d24 4) (h24 4) [io24 lba n by_]).2.2=0 from h0] at this;exact this
end
end Go.Proofs.YtjahaflkdpmhpaaGreat
namespace Go.Proofs.YtjahaflkdpmhpaaGreat
open Go.RowKit Go.WideMaps
theorem isL_io1 {w:World} {K:Nat→Prop} {A:Option Addr} {c g n:Nat} {o:Io} (hg:w.heap.size=g) (hv:IsB w K (.slice A n c) o.data) (h:(-9223372036854775808≤o.op∧o.op≤9223372036854775807)∧(-9223372036854775808≤o.lba∧o.lba≤9223372036854775807)∧(-9223372036854775808≤o.n∧o.n≤9223372036854775807)) :
 IsL Rp.io (w.alloc (.cells #[.int .i64 o.op,.int .i64 o.lba,.int .i64 o.n,.slice A n c] 72)) (fun b=>b=g∨K b) (.slice (some ⟨g,0,none⟩) 1 1) [o]:=
 ⟨_,1,_,rfl,(Reads.new (n:=1) (size:=4) hg rfl rfl).more (fun _ h=>.inl h),CellsL.single ⟨_,rfl,(hv.alloc _).more fun _ h=>.inr h,h.1,h.2.1,h.2.2⟩,by simp,by omega,by simp⟩
theorem IsRd.bytes {Kd K:Nat→Prop} {w w':World} {gr c m:Nat} {ns:List Nat} {k:Ca} {t:Int} {v:Value} {b:List UInt8} (h:IsRd Kd w gr c m ns k t) (hv:IsB w K v b) (ht:Turned w w' (OfRd gr c m ns)):IsB w' K v b:=by
 refine ((hv.offS (S:=OfRd gr c m ns) fun p hp n=>?_).turned ht (fun b hb=>hb.2)).more fun _ hb=>hb.1
 obtain ⟨hB,dt,ah,af,h1,h2⟩:=h;rcases hp with hp | hp | hp
 · refine blk_noB hB (fun o n=>?_) p hp n
   rcases Nat.lt_or_ge o 2 with h | h
   · match o,h with
     | 0,_ | 1,_=>simp
   · rw [Array.getElem?_eq_none (by simpa using h)];simp
 · obtain ⟨D,⟨es,k,hm,_⟩,_⟩:=h1.map
   obtain ⟨pb,po,pz⟩:=p;have hp:pb=m:=hp;subst hp;simp [World.cell?,hm]
 · rcases List.mem_cons.1 hp with h8 | h8
   · exact blk_noB h1.nd.ca (noB_ca _ _ _ _ _ _ _) p h8 n
   · obtain ⟨v,h3,_⟩:=h1.nd.en _ h8
     exact blk_noB h3 (h1.nd.noB h8 h3) p rfl n
abbrev ioL:Io:=io24 7 1 3
theorem comL:(c24 ioL).2.2=0:=by kernel_rfl
def B3:List UInt8:=List.replicate 16 3
theorem live_read {zs:List Zn} {m:List Ex} (hm:Ones m (fun b=>decide ((7:Int)≤b∧b<7+((1:Nat):Int)))) (hB:blockB zs m 7=B3) (k:Ca) (t:Int):blocksB zs m 7 1 (k,t,[])=((blkC k 7 1 B3).1,t,(blkC k 7 1 B3).2):=by
 rw [blocksB_succ];show stepB zs m (k,t,[]) (7+((0:Nat):Int))=_;rw [show (7:Int)+((0:Nat):Int)=7 by decide,step_there hm (by decide),hB]
 rfl
theorem live_1:blkC ⟨4,[],0,0⟩ 7 1 B3=(⟨4,[⟨7,1,B3⟩],0,1⟩,B3):=by kernel_rfl
theorem live_2:blkC ⟨4,[⟨7,1,B3⟩],0,1⟩ 7 1 B3=(⟨4,[⟨7,1,B3⟩],1,1⟩,B3):=by kernel_rfl
theorem live24_any (w:World):Calls Tryz.prog 26 #[] w fun e w'=>e=.returned (.bool true)∧Below w.heap.size w w':=by
 have hbe:=fun W=>begin24_any W
 have hnw:=fun (Kd:Nat→Prop) W=>rnew_any (Kd:=Kd) 4 W
 rw [show max (4:Int) 0=4 by decide] at hnw
 have hfi:=fun W=>fill24_any 3 16 W (by decide)
 obtain ⟨⟨k0,H0,hk0,hI⟩,-⟩:=left24 (lba:=7) (n:=1) (by_:=3) (by decide) (by decide) (by decide) comL
 have hco:=fun Az cz v A c K Kl W a b e f=>com24_any (lba:=7) (n:=1) (by_:=3) (by decide) (by decide) (by decide) comL Az cz v A c K Kl W a b e f
 go_enter Tryz.func26,Tryz.ntmps26
 have hb1:Below w.heap.size w w:=Below.refl _ _;go_wp2_with fail;refine (hbe _).mono ?_;rintro e w2 ⟨dv,vh,rfl,⟨⟨A,cA,rfl,hz⟩,hho⟩,hb2⟩;obtain ⟨c5,rfl,hn5,h15,-⟩:=ho_cs hho;clear hbe;go_upto_region 2 with (refine st_ho_new rfl rfl (by first | rfl | simp [Act.eval,World.size_alloc]) rfl rfl hn5 h15 ?_)
 have E:=(((Kn.start w).step (hb1.trans (hb2.mono hb1.size))).give Stable.list hz.zlt).give Stable.ho hho.lt |>.push 28 (zdC (d24 4) A cA) |>.push 42 c5
 rw [World.size_alloc] at E;obtain ⟨gd,hgd⟩:∃ g,w2.heap.size=g:=⟨_,rfl⟩;have hgw:w.heap.size≤gd:=by rw [←hgd];exact Nat.le_trans hb1.size hb2.size
 generalize (w2.alloc (.cells (zdC (d24 4) A cA) 28)).alloc (.cells c5 42)=w3 at E ⊢;rw [hgd] at E ⊢;clear hz hho hb1 hb2 hgd;go_wp2_with fail;refine (hnw (fun b=>gd+1<b) _).mono ?_
 rintro e w4 ⟨gr,c,m,rfl,hR,hof,hb4⟩;have hs3:=(E.at_ m0).lt;replace E:=E.step hb4;have hs34':=hb4.size;clear hnw hb4;go_upto_region 5 with fail;have hs34:w3.heap.size≤w4.heap.size:=hs34';have hb0:Below w4.heap.size w4 w4.drew:=(Below.refl _ _).drew;have HK:Hid (∀ W,Below w4.heap.size w4 W→(∀ o,W.cell? ⟨gd,o,none⟩=(zdC (d24 4) A cA)[o]?)∧∀ o,W.cell? ⟨gd+1,o,none⟩=c5[o]?):=Lib.hid fun W hb=>⟨((E.step hb).rules m1).1,((E.step hb).rules m0).1⟩
 refine wp_region_D (S:=fun (L:Array Bool) (W:World)=>L.getD 10 false=true∨((∀ o,W.cell? ⟨gd,o,none⟩=(zdC (d24 4) A cA)[o]?)∧∀ o,W.cell? ⟨gd+1,o,none⟩=c5[o]?)) (by kernel_rfl) (.inr (HK.out _ hb0)) (fun hDn hSn=>?_)
 have hbx:=hb0;generalize w4.drew=wx at hbx hDn hSn ⊢;refine wpAnyD_take (i:=0) (oi:=⟨some 25,_,_,_,_,_⟩) (v:=?_) (Si:=fun W=>(∀ o,W.cell? ⟨gd,o,none⟩=(zdC (d24 4) A cA)[o]?)∧∀ o,W.cell? ⟨gd+1,o,none⟩=c5[o]?) rfl (by kernel_rfl) (by kernel_rfl) (by kernel_rfl) (fun _ _ _ h=>h) (fun L W hD hu hS=>hS.resolve_left (fun h=>by have h:=hD.2 10 _ rfl h ⟨0,.phase⟩ (by simp) rfl;rw [hu] at h;cases h)) (fun L W=>by simp only [getD_set_ne false (show (0:Nat)≠10 by omega)]) (Or.inl ⟨by rfl,?hy⟩) (by assumption) (by assumption) (fun hDn hSn=>?_)
 case hy=>intro w hSw;(try dsimp only at hSw);go_simp;with_reducible rfl
 try simp only [pu,List.set]
 refine wpAnyD_take (i:=1) (oi:=⟨some 26,_,_,_,_,_⟩) (v:=?_) (Si:=fun W=>(∀ o,W.cell? ⟨gd,o,none⟩=(zdC (d24 4) A cA)[o]?)∧∀ o,W.cell? ⟨gd+1,o,none⟩=c5[o]?) rfl (by kernel_rfl) (by kernel_rfl) (by kernel_rfl) (fun _ _ _ h=>h) (fun L W hD hu hS=>hS.resolve_left (fun h=>by have h:=hD.2 10 _ rfl h ⟨1,.phase⟩ (by simp) rfl;rw [hu] at h;cases h)) (fun L W=>by simp only [getD_set_ne false (show (1:Nat)≠10 by omega)]) (Or.inl ⟨by rfl,?hy⟩) (by assumption) (by assumption) (fun hDn hSn=>?_)
 case hy=>intro w hSw;(try dsimp only at hSw);refine Eq.trans (run_ldho hSw.2 hn5 rfl rfl) ?_;with_reducible rfl
 try simp only [pu,List.set]
 refine wpAnyD_one (i:=2) (o:=⟨some 27,_,_,_,_,_⟩) (by kernel_rfl) rfl (by assumption) (fun K hK=>?_)
 go_simp;refine (hfi _).mono ?_;rintro e w5 ⟨A5,k5,rfl,own5,hb5⟩;replace hbx:=hbx.trans (hb5.mono hbx.size);have hv5:IsB w5 (fun b=>wx.heap.size≤b) (.slice A5 16 k5) (List.replicate 16 3):=IsB.of_own (l:=List.replicate 16 3) own5 (by decide)
 go_wp2_with fail;refine hK.out _ _ (.inr (HK.out _ hbx)) (fun hDn hSn=>?_)
 clear hK K;refine wD 3 28 (fun hDn hSn=>?_)
 refine wpAnyD_one (i:=4) (o:=⟨some 29,_,_,_,_,_⟩) (by kernel_rfl) rfl (by assumption) (fun K hK=>?_)
 go_simp;have hbx6:=hbx.alloc hbx.size (.cells #[.int .i64 1,.int .i64 7,.int .i64 1,.slice A5 16 k5] 72);have hio:IsL Rp.io (w5.alloc (.cells #[.int .i64 1,.int .i64 7,.int .i64 1,.slice A5 16 k5] 72)) (fun b=>b=w5.heap.size∨wx.heap.size≤b) (.slice (some ⟨w5.heap.size,0,none⟩) 1 1) [ioL]:=isL_io1 (w:=w5) (o:=ioL) rfl hv5 (by decide)
 refine hK.out _ _ (.inr (HK.out _ hbx6)) (fun hDn hSn=>?_)
 clear hK K;try simp only [pu,List.set]
 refine wpAnyD_one (i:=5) (o:=⟨some 30,_,_,_,_,_⟩) (by kernel_rfl) rfl (by assumption) (fun K hK=>?_)
 go_simp;have F:=E.step hbx6;refine (hco A cA (.agg c5) (some ⟨w5.heap.size,0,none⟩) 1 (fun b=>w.heap.size≤b∧b<gd) _ _ (F.get m1) (F.get m0) hio (fun b hb=>by have:=hbx6.size;have:=hb.2;omega)).mono ?_
 rintro e w7 ⟨dv,vh,rfl,⟨⟨A7,c7,rfl,hz7⟩,hh7⟩,hb7⟩;replace hbx:=hbx6.trans (hb7.mono hbx6.size);clear F hio hv5 own5;go_wp2_with fail;refine hK.out _ _ (.inr (HK.out _ hbx)) (fun hDn hSn=>?_)
 clear hK K;refine wD 6 24 (fun hDn hSn=>?_)
 refine wD 7 31 (fun hDn hSn=>?_)
 refine wD 8 32 (fun hDn hSn=>?_)
 refine wD 9 33 (fun hDn hSn=>?_)
 refine wpAnyD_one (i:=10) (o:=⟨none,_,_,_,_,_⟩) (by kernel_rfl) rfl (by assumption) (fun K hK=>?_)
 have F:=E.step hbx;obtain ⟨c7h,rfl,hn7,h17,-⟩:=ho_cs hh7;refine st_znsI rfl (F.at_ m1) rfl rfl rfl rfl rfl (by rfl) ?_
 intro w8 hs8 ht8 hB8;refine hK.out _ _ (.inl (by kernel_rfl)) (fun hDn hSn=>?_)
 clear hK K;try simp only [pu,List.set]
 refine wpAnyD_one (i:=11) (o:=⟨none,_,_,_,_,_⟩) (by kernel_rfl) rfl (by assumption) (fun K hK=>?_)
 refine st_hoI rfl ((F.at_ m0).turned ht8 (show ¬gd+1=gd by omega)) hn5 rfl rfl rfl hn7 h17 ?_
 intro w9 hs9 ht9 hB9;refine hK.out _ _ (.inl (by kernel_rfl)) (fun hDn hSn=>?_)
 clear hK K;refine wD 12 5 (fun hDn hSn=>?_)
 refine wpAnyD_done (by kernel_rfl) ?_ _
 have t89:Turned w7 w9 (fun b=>b=gd∨b=gd+1):=(ht8.mono fun b hb=>.inl hb).trans (ht9.mono fun b hb=>.inr hb)
 have hs6:=hbx6.size;have hRlt:=fun {b}=>hR.lt (b:=b)
 have hz9:=(hz7.more (K':=fun b=>b<gd∨w4.heap.size≤b) fun b hb=>by rcases hb with hb | hb;exact .inl hb.2;exact .inr (by omega)).turned t89 (fun b hb e=>by omega)
 have hh9:=IsHo.keep (hh7.more (K':=fun b=>b<gd∨w4.heap.size≤b) fun b hb=>by rcases hb with hb | hb;exact .inl hb.2;exact .inr (by omega)) (t89.cells (K:=fun b=>b<gd∨w4.heap.size≤b) fun b hb e=>by omega)
 have hBd9:=hB8.turned ht9 (show ¬gd=gd+1 by omega)
 have hR9:IsRd (fun b=>gd+1<b) w9 gr c m [] ⟨4,[],0,0⟩ 0:=(hR.step hbx).turnedK t89 (fun b hb e=>by have:=hof b hb;omega) (fun b hb _=>⟨by omega,hb⟩)
 have hbw9:Below w.heap.size w w9:=Turned.upon (Turned.upon F.below ht8 hgw (Nat.le_refl _)) ht9 (by omega) (Nat.le_refl _)
 have hs49:w4.heap.size≤w9.heap.size:=Nat.le_trans hbx.size t89.size;clear hco HK E F hb0 hb5 hbx6 hb7 hbx hz7 hh7 ht8 ht9 hB8 t89 hDn hSn hs8 hs9 hn5 h15 hs6;try clear hDn hSn
 try clear hDn hSn
 generalize c24 (io24 7 1 3)=cr at hI hz9 hh9 hBd9 ⊢;obtain ⟨d1,h1,e1⟩:=cr;dsimp only at hI hz9 hh9 hBd9 ⊢;have hok:okD d1:=by rw [hI.dev];exact hI.ok.ok
 have hone:=ones24 hk0 hI;have hrd:=read24 hI (a:=7) (m:=1) (by omega) (by omega) (by omega)
 have hvs:=vers24 hI;have hft:=fitH hI.good (by decide) hI.bytes hI.map
 have hch:=hI.map.1;have hB3:blockB d1.z h1.m 7=B3:=by rw [block_lastH hI.good (by decide) hI.bytes hI.map 7];rfl
 clear hI hk0;have hq1:∀ k t,readR d1.z h1 k t 7 1=((blkC k 7 1 B3).1,t,(blkC k 7 1 B3).2):=fun k t=>by
  unfold readR;rw [hrd,if_pos rfl];exact (pieces_blocks (lba:=7) (n:=1) hch ⟨by omega,by omega,by omega,by omega⟩ k t).trans (live_read hone hB3 k t)
 go_upto_region 6 with fail;have hof1:∀ b,OfRd gr c m [] b→gd+1<b∧b<w4.heap.size:=fun b hb=>⟨by have:=hof b hb;omega,hRlt hb⟩
 have hrr:=rread_any hR9 (fun b hb=>by have:=hof1 gr (.inl rfl);omega) d1 A7 c7 h1 (.agg c7h) 7 1 _ _ hz9 hh9 (fun b hb h9=>by have:=hof1 b h9;omega) (fun b hb h9=>by have:=hof1 b h9;omega) hok hch hft hvs ⟨by decide,by decide⟩ ⟨by decide,by decide⟩ ⟨by decide,by decide⟩ (by decide)
 rw [hrd,hq1,live_1] at hrr;dsimp only at hrr;obtain ⟨q0,f0⟩:=hBd9.rules;have t0:=hBd9.lt;have hBh9:=hB9;go_wp2_with (refine ld_ho hBh9 hn7 rfl rfl rfl ?_);refine hrr.mono ?_;rintro e wa ⟨va,rfl,hva,⟨ns1,hR1,tR1,sR1⟩⟩;have hsa:=tR1.size;have hz1:=hz9.zlt.turned tR1 (fun b hb h9=>by have:=hof1 b h9;have:=hb.1;omega)
 have hh1:=IsHo.keep (IsHo.lt hh9) (tR1.cells (K:=fun b=>(b<gd∨w4.heap.size≤b)∧b<w9.heap.size) fun b hb h9=>by have:=hof1 b h9;have:=hb.1;omega)
 have hKn:∀ b,(b<gd∨w4.heap.size≤b)∧b<w9.heap.size→¬OfRd gr c m ns1 b:=fun b hb=>ofrd_new sR1 (fun h9=>by have:=hof1 b h9;have:=hb.1;omega) hb.2
 have hBd1:=hBd9.turned tR1 (fun h9=>by have:=hof1 _ h9;omega)
 have hBh1:=hBh9.turned tR1 (fun h9=>by have:=hof1 _ h9;omega)
 clear hrr q0 f0 t0 hz9 hh9 hBd9 hBh9 hB9;have hrr:=rread_any hR1 (fun b hb=>by have:=hof1 gr (.inl rfl);omega) d1 A7 c7 h1 (.agg c7h) 7 1 _ _ hz1 hh1 hKn hKn hok hch hft hvs ⟨by decide,by decide⟩ ⟨by decide,by decide⟩ ⟨by decide,by decide⟩ (by decide)
 rw [hrd,hq1,live_2] at hrr;dsimp only at hrr;obtain ⟨q0,f0⟩:=hBd1.rules;have t0:=hBd1.lt;go_wp2_with (refine ld_ho hBh1 hn7 rfl rfl rfl ?_);refine hrr.mono ?_;rintro e wb ⟨vb,rfl,hvb,⟨ns2,hR2,tR2,sR2⟩⟩;have hva2:=hR1.bytes hva tR2;obtain ⟨ns3,_,tR3,_⟩:=RdMade.on tR1 sR1 ⟨ns2,hR2,tR2,sR2⟩;clear hrr q0 f0 t0 hz1 hh1 hBd1 hBh1 hKn hva;obtain ⟨q0,f0⟩:=hR2.1.rules;have t0:=hR2.1.lt;have hht:∀ W,IsRd (fun b=>gd+1<b) W gr c m ns2 ⟨4,[⟨7,1,B3⟩],1,1⟩ 0→Calls Tryz.prog 31 #[.pointer (some ⟨c,0,none⟩)] W fun r' w'=>r'=.returned (.tuple #[.int .i64 1,.int .i64 1])∧Below W.heap.size W w':=fun W hW=>by
  obtain ⟨_,dt,ah,af,hca,_⟩:=hW;exact chits_any hca
 go_wp2_with fail;refine (hht _ hR2).mono ?_;rintro e wc ⟨rfl,hbc⟩;have hbw:Below w.heap.size w wb:=hbw9.trans (tR3.below (fun k hk=>by have:=hof k hk;omega) hbw9.size)
 have hva3:=hva2.step hbc;have hvb3:=hvb.step hbc;replace hbw:=hbw.trans (hbc.mono hbw.size);obtain ⟨Aa,ka,rfl,-⟩:=isB_form hva3;obtain ⟨Ab,kb,rfl,-⟩:=isB_form hvb3;rw [show B3.length=16 from rfl] at hva3 hvb3 ⊢;clear q0 f0 t0 hht hva2 hvb hbc hR1 hR2 tR1 tR2 sR1 sR2 hR hR9;go_upto_region 9 with fail;have HK:Hid (∀ W,Below wc.heap.size wc W→(convert 36 9 (.slice Aa 16 ka)).run Tryz.prog W=.ok (.string ⟨B3.toArray⟩) W∧(convert 36 9 (.slice Ab 16 kb)).run Tryz.prog W=.ok (.string ⟨B3.toArray⟩) W):=Lib.hid fun W hb=>
  ⟨run_string_of (P:=Tryz.prog) (cap:=ka) (n:=16) (l:=B3) W 36 9 5 Tryz.underlying36 Tryz.underlying5 Tryz.underlying9 rfl (IsB.open_ (hva3.step hb)).2.1,
  run_string_of (P:=Tryz.prog) (cap:=kb) (n:=16) (l:=B3) W 36 9 5 Tryz.underlying36 Tryz.underlying5 Tryz.underlying9 rfl (IsB.open_ (hvb3.step hb)).2.1⟩
 have hb0:Below wc.heap.size wc wc.drew:=(Below.refl _ _).drew;refine wp_region_held_drew (S:=fun W=>(convert 36 9 (.slice Aa 16 ka)).run Tryz.prog W=.ok (.string ⟨B3.toArray⟩) W∧(convert 36 9 (.slice Ab 16 kb)).run Tryz.prog W=.ok (.string ⟨B3.toArray⟩) W) (by kernel_rfl) (HK.out _ hb0) (fun hHeld=>?_)
 have hbx:=hb0;generalize wc.drew=wx at hbx hHeld ⊢;refine wT 0 56 ?_;refine wT 1 57 ?_;refine wT 2 58 ?_;refine wT 3 59 ?_;refine wT 4 60 ?_;refine wT 5 61 ?_;refine wT 6 62 ?_;refine wT 7 63 ?_;refine wT 8 64 ?_;refine wT 9 65 ?_;refine wT 10 66 ?_;refine wT 11 67 ?_;refine wT 12 68 ?_;refine wR 13 69 (fun K hK=>?_)
 go_simp;refine (hfi _).mono ?_;rintro e wx ⟨A24,c24,rfl,own24,hb24⟩;have hB24:IsB wx (fun _=>True) (.slice A24 16 c24) B3:=(IsB.of_own (l:=B3) own24 (by decide)).more fun _ _=>trivial
 replace hbx:=hbx.trans (hb24.mono hbx.size);clear own24 hb24;go_wp2_with fail;refine hK.out _ _ (HK.out _ hbx) (fun hHeld=>?_)
 clear hK K;try simp only [pu,List.set]
 refine wR 14 70 (fun K hK=>?_)
 have hs3:=run_string_of (P:=Tryz.prog) (cap:=c24) (n:=16) (l:=B3) wx 36 9 5 Tryz.underlying36 Tryz.underlying5 Tryz.underlying9 rfl (IsB.open_ hB24).2.1;go_simp;refine hK.out _ _ (HK.out _ hbx) (fun hHeld=>?_)
 clear hK K;refine wT 15 71 ?_;refine wT 16 72 ?_;refine wT 17 73 ?_;refine wT 18 74 ?_;refine wT 19 75 ?_;refine wT 20 76 ?_;refine wT 21 77 ?_;refine wT 22 78 ?_;refine wT 23 79 ?_;refine wT 24 80 ?_;refine wT 25 81 ?_;refine wT 26 82 ?_;refine wT 27 83 ?_;refine wT 28 84 ?_;refine wT 29 85 ?_;refine wT 30 86 ?_;refine wT 31 87 ?_;refine wT 32 0 ?_;refine wpAnyH_done (by kernel_rfl) ?_ _
 go_wp2;go_ret;refine ⟨?_,hbw.trans (hbx.mono hbw.size)⟩;simp [go_sem]
end Go.Proofs.YtjahaflkdpmhpaaGreat
