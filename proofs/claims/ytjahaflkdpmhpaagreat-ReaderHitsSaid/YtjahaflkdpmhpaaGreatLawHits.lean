/- A part of the proof. -/
import Derived.Test.YtjahaflkdpmhpaaGreatLive24
set_option linter.unusedSimpArgs false
set_option maxHeartbeats 16000000
set_option maxRecDepth 100000
namespace Go.Proofs.YtjahaflkdpmhpaaGreat
open Go.RowKit Go.WideMaps
abbrev ioH:Io:=io24 10 15 8
theorem comH:(c24 ioH).2.2=0:=by kernel_rfl
def P15:Int→Bool:=fun b=>decide (10≤b∧b<25)
def StH (L N j:Nat) (k:Ca) (t:Int):Prop:=
 (j=0∧k=⟨100,[],0,0⟩∧t=0)∨(1≤j∧HasC k (fun b=>P15 b=true∧(L:Int)≤b∧b<L+N)∧k.hit=cntP P15 L N*((j:Int)-1)∧k.miss=cntP P15 L N∧k.l.length=cntP P15 L N∧t=((N:Int)-cntP P15 L N)*j)
theorem StH.bnd {L N j:Nat} {k:Ca} {t:Int} (h:StH L N j k t) (hN:N≤20) (hj:j≤10):(0≤k.hit∧k.hit≤1000)∧(0≤k.miss∧k.miss≤1000)∧(0≤t∧t≤1000)∧k.l.length≤20:=by
 have hc:=cntP_le P15 L N;rcases h with ⟨_,rfl,rfl⟩ | ⟨h1,_,h2,h3,h4,h5⟩
 · simp
 · have e1:0≤(cntP P15 L N:Int)*((j:Int)-1):=Int.mul_nonneg (by omega) (by omega)
   have e2:(cntP P15 L N:Int)*((j:Int)-1)≤20*10:=Int.mul_le_mul (by omega) (by omega) (by omega) (by omega)
   have e3:0≤((N:Int)-cntP P15 L N)*j:=Int.mul_nonneg (by omega) (by omega)
   have e4:((N:Int)-cntP P15 L N)*j≤20*10:=Int.mul_le_mul (by omega) (by omega) (by omega) (by omega)
   omega
theorem StH.next {zs:List Zn} {m:List Ex} (hm:Ones m P15) {L N j:Nat} {k:Ca} {t:Int} (h:StH L N j k t) (hN:1≤N∧N≤20):StH L N (j+1) (blocksB zs m L N (k,t,[])).1 (blocksB zs m L N (k,t,[])).2.1:=by
 rcases h with ⟨rfl,rfl,rfl⟩ | ⟨h1,h2,h3,h4,h5,h6⟩
 · obtain ⟨g1,g2,g3,g4,g5⟩:=first_read (zs:=zs) hm L ⟨100,[],0,0⟩ ⟨rfl,by simp,by simp,fun b=>by simp⟩ rfl 0 [] N (by omega)
   exact .inr ⟨by omega,g1,by rw [g2];simp,by rw [g3];simp,g4,by rw [g5];simp⟩
 · obtain ⟨g1,g2,g3,g4,g5⟩:=next_read (zs:=zs) hm L N k h2 t [] N (Nat.le_refl _)
   refine .inr ⟨by omega,g1,?_,by rw [g3,h4],by rw [g4,h5],?_⟩
   · rw [g2,h3,show ((j+1:Nat):Int)-1=((j:Int)-1)+1 by omega,Int.mul_add];omega
   · rw [g5,h6,show ((j+1:Nat):Int)=(j:Int)+1 by omega,Int.mul_add];omega
theorem StH.forget {L N j:Nat} {k:Ca} {t:Int} (h:StH L N j k t):dropR 0 60 k.l=[]:=by
 unfold dropR;rw [List.filter_eq_nil_iff];intro y hy;rcases h with ⟨_,rfl,_⟩ | ⟨_,h2,_⟩
 · simp at hy
 · have:=(h2.all y.lba).2 ⟨y,hy,rfl⟩
   have hp:=of_decide_eq_true this.1;unfold inR;rw [decide_eq_true (show (0:Int)≤y.lba by omega),decide_eq_true (show y.lba-0<60 by omega)]
   simp
theorem readerHits_all (lba n times:Int) (w:World) :
 Calls Tryz.prog 6 #[.int .i64 lba,.int .i64 n,.int .i64 times] w fun e w'=>e=.returned (.bool true)∧Below w.heap.size w w':=by
 have b1:=Int.tmod_lt_of_pos lba (show (0:Int)<40 by omega)
 have b2:=Int.lt_tmod_of_pos lba (show (0:Int)<40 by omega)
 have b3:=Int.tmod_lt_of_pos n (show (0:Int)<20 by omega)
 have b4:=Int.lt_tmod_of_pos n (show (0:Int)<20 by omega)
 have b5:=Int.tmod_lt_of_pos times (show (0:Int)<10 by omega)
 have b6:=Int.lt_tmod_of_pos times (show (0:Int)<10 by omega)
 have hbe:=fun W=>begin24_any W
 have hnw:=fun (Kd:Nat→Prop) W=>rnew_any (Kd:=Kd) 100 W
 rw [show max (100:Int) 0=100 by decide] at hnw
 have hfi:=fun W=>fill24_any 8 240 W (by decide)
 obtain ⟨⟨k0,H0,hk0,hI⟩,-⟩:=left24 (lba:=10) (n:=15) (by_:=8) (by decide) (by decide) (by decide) comH
 have hco:=fun Az cz v A c K Kl W a b e f=>com24_any (lba:=10) (n:=15) (by_:=8) (by decide) (by decide) (by decide) comH Az cz v A c K Kl W a b e f
 go_enter Tryz.func6,Tryz.ntmps6
 go_wp2_with fail;refine (live24_any _).mono ?_;rintro e w1 ⟨rfl,hb1⟩;go_upto_region 5 with fail;obtain ⟨N,hN⟩:∃ N:Nat,(1+n.tmod 20 % 20).toNat=N:=⟨_,rfl⟩;obtain ⟨L,hL⟩:∃ L:Nat,((lba.tmod 40+40) % 40).toNat=L:=⟨_,rfl⟩;obtain ⟨T,hT⟩:∃ T:Nat,(1+times.tmod 10 % 10).toNat=T:=⟨_,rfl⟩;have hN1:1+n.tmod 20 % 20=(N:Int):=by omega
 have hL1:(lba.tmod 40+40) % 40=(L:Int):=by omega
 have hT1:1+times.tmod 10 % 10=(T:Int):=by omega
 have hN20:1≤N∧N≤20:=by omega
 have hL40:L<40:=by omega
 have hT10:1≤T∧T≤10:=by omega
 rw [hN1,hL1,hT1];generalize (n.tmod 20+20) % 20=x1;generalize (times.tmod 10+10) % 10=x2;generalize n.tmod 20=x3;generalize times.tmod 10=x4;generalize lba.tmod 40=x5;clear hN hL hT hN1 hL1 hT1 b1 b2 b3 b4 b5 b6;go_wp2_with fail;refine (hbe _).mono ?_;rintro e w2 ⟨dv,vh,rfl,⟨⟨A,cA,rfl,hz⟩,hho⟩,hb2⟩;obtain ⟨c5,rfl,hn5,h15,-⟩:=ho_cs hho;clear hbe;go_upto_region 6 with (refine st_ho_new rfl rfl (by first | rfl | simp [Act.eval,World.size_alloc]) rfl rfl hn5 h15 ?_)
 have E:=(((Kn.start w).step (hb1.trans (hb2.mono hb1.size))).give Stable.list hz.zlt).give Stable.ho hho.lt |>.push 28 (zdC (d24 4) A cA) |>.push 42 c5
 rw [World.size_alloc] at E;obtain ⟨gd,hgd⟩:∃ g,w2.heap.size=g:=⟨_,rfl⟩;have hgw:w.heap.size≤gd:=by rw [←hgd];exact Nat.le_trans hb1.size hb2.size
 generalize (w2.alloc (.cells (zdC (d24 4) A cA) 28)).alloc (.cells c5 42)=w3 at E ⊢;rw [hgd] at E ⊢;clear hz hho hb1 hb2 hgd;go_wp2_with fail;refine (hnw (fun b=>gd+1<b) _).mono ?_
 rintro e w4 ⟨gr,c,m,rfl,hR,hof,hb4⟩;have hs3:=(E.at_ m0).lt;replace E:=E.step hb4;have hs34':=hb4.size;clear hnw hb4;go_upto_region 9 with fail;have hs34:w3.heap.size≤w4.heap.size:=hs34';have hb0:Below w4.heap.size w4 w4.drew:=(Below.refl _ _).drew;have HK:Hid (∀ W,Below w4.heap.size w4 W→(∀ o,W.cell? ⟨gd,o,none⟩=(zdC (d24 4) A cA)[o]?)∧∀ o,W.cell? ⟨gd+1,o,none⟩=c5[o]?):=Lib.hid fun W hb=>⟨((E.step hb).rules m1).1,((E.step hb).rules m0).1⟩
 refine wp_region_D (S:=fun (L:Array Bool) (W:World)=>L.getD 10 false=true∨((∀ o,W.cell? ⟨gd,o,none⟩=(zdC (d24 4) A cA)[o]?)∧∀ o,W.cell? ⟨gd+1,o,none⟩=c5[o]?)) (by kernel_rfl) (.inr (HK.out _ hb0)) (fun hDn hSn=>?_)
 have hbx:=hb0;generalize w4.drew=wx at hbx hDn hSn ⊢;refine wpAnyD_take (i:=0) (oi:=⟨some 43,_,_,_,_,_⟩) (v:=?_) (Si:=fun W=>(∀ o,W.cell? ⟨gd,o,none⟩=(zdC (d24 4) A cA)[o]?)∧∀ o,W.cell? ⟨gd+1,o,none⟩=c5[o]?) rfl (by kernel_rfl) (by kernel_rfl) (by kernel_rfl) (fun _ _ _ h=>h) (fun L W hD hu hS=>hS.resolve_left (fun h=>by have h:=hD.2 10 _ rfl h ⟨0,.phase⟩ (by simp) rfl;rw [hu] at h;cases h)) (fun L W=>by simp only [getD_set_ne false (show (0:Nat)≠10 by omega)]) (Or.inl ⟨by rfl,?hy⟩) (by assumption) (by assumption) (fun hDn hSn=>?_)
 case hy=>intro w hSw;(try dsimp only at hSw);go_simp;with_reducible rfl
 try simp only [pu,List.set]
 refine wpAnyD_take (i:=1) (oi:=⟨some 44,_,_,_,_,_⟩) (v:=?_) (Si:=fun W=>(∀ o,W.cell? ⟨gd,o,none⟩=(zdC (d24 4) A cA)[o]?)∧∀ o,W.cell? ⟨gd+1,o,none⟩=c5[o]?) rfl (by kernel_rfl) (by kernel_rfl) (by kernel_rfl) (fun _ _ _ h=>h) (fun L W hD hu hS=>hS.resolve_left (fun h=>by have h:=hD.2 10 _ rfl h ⟨1,.phase⟩ (by simp) rfl;rw [hu] at h;cases h)) (fun L W=>by simp only [getD_set_ne false (show (1:Nat)≠10 by omega)]) (Or.inl ⟨by rfl,?hy⟩) (by assumption) (by assumption) (fun hDn hSn=>?_)
 case hy=>intro w hSw;(try dsimp only at hSw);refine Eq.trans (run_ldho hSw.2 hn5 rfl rfl) ?_;with_reducible rfl
 try simp only [pu,List.set]
 refine wpAnyD_one (i:=2) (o:=⟨some 45,_,_,_,_,_⟩) (by kernel_rfl) rfl (by assumption) (fun K hK=>?_)
 go_simp;refine (hfi _).mono ?_;rintro e w5 ⟨A5,k5,rfl,own5,hb5⟩;replace hbx:=hbx.trans (hb5.mono hbx.size);have hv5:IsB w5 (fun b=>wx.heap.size≤b) (.slice A5 240 k5) (List.replicate 240 8):=IsB.of_own (l:=List.replicate 240 8) own5 (by decide)
 go_wp2_with fail;refine hK.out _ _ (.inr (HK.out _ hbx)) (fun hDn hSn=>?_)
 clear hK K;refine wD 3 46 (fun hDn hSn=>?_)
 refine wpAnyD_one (i:=4) (o:=⟨some 47,_,_,_,_,_⟩) (by kernel_rfl) rfl (by assumption) (fun K hK=>?_)
 go_simp;have hbx6:=hbx.alloc hbx.size (.cells #[.int .i64 1,.int .i64 10,.int .i64 15,.slice A5 240 k5] 72);have hio:IsL Rp.io (w5.alloc (.cells #[.int .i64 1,.int .i64 10,.int .i64 15,.slice A5 240 k5] 72)) (fun b=>b=w5.heap.size∨wx.heap.size≤b) (.slice (some ⟨w5.heap.size,0,none⟩) 1 1) [ioH]:=isL_io1 (w:=w5) (o:=ioH) rfl hv5 (by decide)
 refine hK.out _ _ (.inr (HK.out _ hbx6)) (fun hDn hSn=>?_)
 clear hK K;try simp only [pu,List.set]
 refine wpAnyD_one (i:=5) (o:=⟨some 48,_,_,_,_,_⟩) (by kernel_rfl) rfl (by assumption) (fun K hK=>?_)
 go_simp;have F:=E.step hbx6;refine (hco A cA (.agg c5) (some ⟨w5.heap.size,0,none⟩) 1 (fun b=>w1.heap.size≤b∧b<gd) _ _ (F.get m1) (F.get m0) hio (fun b hb=>by have:=hbx6.size;have:=hb.2;omega)).mono ?_
 rintro e w7 ⟨dv,vh,rfl,⟨⟨A7,c7,rfl,hz7⟩,hh7⟩,hb7⟩;replace hbx:=hbx6.trans (hb7.mono hbx6.size);clear F hio hv5 own5;go_wp2_with fail;refine hK.out _ _ (.inr (HK.out _ hbx)) (fun hDn hSn=>?_)
 clear hK K;refine wD 6 42 (fun hDn hSn=>?_)
 refine wD 7 49 (fun hDn hSn=>?_)
 refine wD 8 50 (fun hDn hSn=>?_)
 refine wD 9 51 (fun hDn hSn=>?_)
 refine wpAnyD_one (i:=10) (o:=⟨none,_,_,_,_,_⟩) (by kernel_rfl) rfl (by assumption) (fun K hK=>?_)
 have F:=E.step hbx;obtain ⟨c7h,rfl,hn7,h17,-⟩:=ho_cs hh7;refine st_znsI rfl (F.at_ m1) rfl rfl rfl rfl rfl (by rfl) ?_
 intro w8 hs8 ht8 hB8;refine hK.out _ _ (.inl (by kernel_rfl)) (fun hDn hSn=>?_)
 clear hK K;try simp only [pu,List.set]
 refine wpAnyD_one (i:=11) (o:=⟨none,_,_,_,_,_⟩) (by kernel_rfl) rfl (by assumption) (fun K hK=>?_)
 refine st_hoI rfl ((F.at_ m0).turned ht8 (show ¬gd+1=gd by omega)) hn5 rfl rfl rfl hn7 h17 ?_
 intro w9 hs9 ht9 hB9;refine hK.out _ _ (.inl (by kernel_rfl)) (fun hDn hSn=>?_)
 clear hK K;refine wD 12 12 (fun hDn hSn=>?_)
 refine wpAnyD_done (by kernel_rfl) ?_ _
 have t89:Turned w7 w9 (fun b=>b=gd∨b=gd+1):=(ht8.mono fun b hb=>.inl hb).trans (ht9.mono fun b hb=>.inr hb)
 have hs6:=hbx6.size;have hRlt:=fun {b}=>hR.lt (b:=b)
 have hz9:=(hz7.more (K':=fun b=>b<gd∨w4.heap.size≤b) fun b hb=>by rcases hb with hb | hb;exact .inl hb.2;exact .inr (by omega)).turned t89 (fun b hb e=>by omega)
 have hh9:=IsHo.keep (hh7.more (K':=fun b=>b<gd∨w4.heap.size≤b) fun b hb=>by rcases hb with hb | hb;exact .inl hb.2;exact .inr (by omega)) (t89.cells (K:=fun b=>b<gd∨w4.heap.size≤b) fun b hb e=>by omega)
 have hBd9:=hB8.turned ht9 (show ¬gd=gd+1 by omega)
 have hR9:IsRd (fun b=>gd+1<b) w9 gr c m [] ⟨100,[],0,0⟩ 0:=(hR.step hbx).turnedK t89 (fun b hb e=>by have:=hof b hb;omega) (fun b hb _=>⟨by omega,hb⟩)
 have hbw9:Below w.heap.size w w9:=Turned.upon (Turned.upon F.below ht8 hgw (Nat.le_refl _)) ht9 (by omega) (Nat.le_refl _)
 have hs49:w4.heap.size≤w9.heap.size:=Nat.le_trans hbx.size t89.size;clear hco hfi HK E F hb0 hb5 hbx6 hb7 hbx hz7 hh7 ht8 ht9 hB8 t89 hDn hSn hs8 hs9 hn5 h15 hs6;try clear hDn hSn
 try clear hDn hSn
 generalize c24 (io24 10 15 8)=cr at hI hz9 hh9 hBd9 ⊢;obtain ⟨d1,h1,e1⟩:=cr;dsimp only at hI hz9 hh9 hBd9 ⊢;have hok:okD d1:=by rw [hI.dev];exact hI.ok.ok
 have hone:Ones h1.m P15:=ones24 hk0 hI;have hrd:=read24 hI (a:=L) (m:=N) (by omega) (by omega) (by omega)
 have hvs:=vers24 hI;have hft:=fitH hI.good (by decide) hI.bytes hI.map
 have hch:=hI.map.1;have hbl:blocksE L N:=⟨by omega,by omega,by omega,by omega⟩
 clear hI hk0;go_upto_region 14 with fail;go_loopw [13,14] (fun x13 x14 wr=>∃ i:Nat,x14=.int .i64 ((L:Int)+i)∧i≤N∧x13=.int .i64 (cntP P15 L i)∧wr=w9) (fun _ x14 _=>L+N-(intOf x14).toNat)
 case atStart=>exact ⟨0,by simp,by omega,rfl,rfl⟩
 case round=>
  obtain ⟨i,rfl,hi,rfl,rfl⟩:=hrel;have wv:IntKind.i64.wrap ((L:Int)+(N:Int))=(L:Int)+(N:Int):=IntWalk.i64_in _ (by omega)
  by_cases hiN:i<N
  case pos=>
   have hcs:=cntP_succ P15 L i;have hcl:=cntP_le P15 L i;have i1:(L:Int)+(i:Int)<(L:Int)+(N:Int):=by omega
   have w1':IntKind.i64.wrap ((L:Int)+(i:Int)+1)=(L:Int)+(i:Int)+1:=IntWalk.i64_in _ (by omega)
   by_cases hp:10≤L+i∧L+i<25
   · have hP:P15 ((L:Int)+(i:Nat))=true:=decide_eq_true (by omega)
     rw [hP,if_pos rfl] at hcs;have q1:(L:Int)+(i:Int)≥10:=by omega
     have q2:(L:Int)+(i:Int)<25:=by omega
     have HCS:=Lib.hid hcs;clear hcs hP hp;go_wp2_with fail;go_roundw
     case rel=>exact ⟨i+1,by go_num,by omega,by rw [HCS.out];go_num,trivial⟩
     case measure=>simp [intOf];omega
   · have hP:P15 ((L:Int)+(i:Nat))=false:=decide_eq_false (by omega)
     rw [hP] at hcs;simp only [Bool.false_eq_true,if_false,Nat.add_zero] at hcs;have HCS:=Lib.hid hcs;clear hcs hP;by_cases q1:(L:Int)+(i:Int)≥10
     · have q2:¬(L:Int)+(i:Int)<25:=by omega
       clear hp;go_wp2_with fail;go_roundw
       case rel=>exact ⟨i+1,by go_num,by omega,by rw [HCS.out],trivial⟩
       case measure=>simp [intOf];omega
     · clear hp
       go_wp2_with fail;go_roundw
       case rel=>exact ⟨i+1,by go_num,by omega,by rw [HCS.out],trivial⟩
       case measure=>simp [intOf];omega
  case neg=>
   obtain rfl:i=N:=by omega
   have hs0:StH L i 0 ⟨100,[],0,0⟩ 0:=.inl ⟨rfl,rfl,rfl⟩;obtain ⟨cn,hcn⟩:∃ cn,cntP P15 L i=cn:=⟨_,rfl⟩;have HCN:=Lib.hid hcn;have hcl:=cntP_le P15 L i;rw [hcn] at hcl ⊢;clear hcn hiN hi;go_upto_region 19 with fail;clear hDn hSn;obtain ⟨wo,rfl⟩:∃ wo:World,wo=wr:=⟨_,rfl⟩;go_loopw [15,16,71] (fun x15 x16 x71 wl=>∃ (j:Nat) (k:Ca) (t:Int),x71=.int .i64 j∧j≤T∧Hid (StH L i j k t)∧RdMade (fun b=>gd+1<b) wo wl gr c m [] k t∧(∃ y,x15=y)∧∃ y,x16=y) (fun _ _ x71 _=>T-(intOf x71).toNat)
   case atStart=>exact ⟨0,_,_,rfl,by omega,Lib.hid hs0,⟨[],hR9,Turned.refl _ _,fun g hg=>.inl hg⟩,⟨_,rfl⟩,_,rfl⟩
   case round=>
    clear hs0 hR9 hR;obtain ⟨j,k,t,rfl,hj,HS,⟨ns1,hR1,tR1,sR1⟩,⟨y1,rfl⟩,y2,rfl⟩:=hrel;obtain ⟨bh,bm,bt,bl⟩:=HS.out.bnd hN20.2 (by omega)
    have hsr:=tR1.size;have hof1:∀ b,OfRd gr c m [] b→gd+1<b∧b<w4.heap.size:=fun b hb=>⟨by have:=hof b hb;omega,hRlt hb⟩
    by_cases hjT:j<T
    case pos=>
     have j1:(j:Int)<(T:Int):=by omega
     have j0:(0:Int)≤(j:Int):=by omega
     have hz1:=hz9.zlt.turned tR1 (fun b hb h9=>by have:=hof1 b h9;have:=hb.1;omega)
     have hh1:=IsHo.keep (IsHo.lt hh9) (tR1.cells (K:=fun b=>(b<gd∨w4.heap.size≤b)∧b<wo.heap.size) fun b hb h9=>by have:=hof1 b h9;have:=hb.1;omega)
     have hKn:∀ b,(b<gd∨w4.heap.size≤b)∧b<wo.heap.size→¬OfRd gr c m ns1 b:=fun b hb=>ofrd_new sR1 (fun h9=>by have:=hof1 b h9;have:=hb.1;omega) hb.2
     have hBd1:=hBd9.turned tR1 (fun h9=>by have:=hof1 _ h9;omega)
     have hBh1:=hB9.turned tR1 (fun h9=>by have:=hof1 _ h9;omega)
     have hrr:=rread_any hR1 (fun b hb=>by have:=hof1 gr (.inl rfl);omega) d1 A7 c7 h1 (.agg c7h) L i _ _ hz1 hh1 hKn hKn hok hch hft hvs ⟨bh.1,by omega⟩ ⟨bm.1,by omega⟩ ⟨bt.1,by omega⟩ (by omega)
     have hRd:readR d1.z h1 k t L i=blocksB d1.z h1.m L i (k,t,[]):=by
      unfold readR;rw [hrd,if_pos rfl];exact pieces_blocks hch hbl k t
     have hnx:=Lib.hid (HS.out.next (zs:=d1.z) hone hN20);rw [hrd,hRd] at hrr;obtain ⟨q0,f0⟩:=hBd1.rules;have t0:=hBd1.lt;generalize blocksB d1.z h1.m L i (k,t,[])=rr at hrr hnx;clear hz1 hh1 hKn hRd;go_wp2_with (refine ld_ho hBh1 hn7 rfl rfl rfl ?_);refine hrr.mono ?_;rintro e wq ⟨vb,rfl,-,hm9⟩;have hm8:=RdMade.on tR1 sR1 hm9;clear hrr q0 f0 t0 hBd1 hBh1 tR1 sR1 hR1 hm9;go_wp2_with fail;go_roundw
     case rel=>exact ⟨j+1,rr.1,rr.2.1,by go_num,by omega,hnx,hm8,⟨_,rfl⟩,_,rfl⟩
     case measure=>simp [intOf];omega
    case neg=>
     obtain rfl:j=T:=by omega
     rcases HS.out with ⟨h0,_⟩ | ⟨_,_,e1,e2,e3,e4⟩
     · omega
     have hfg:=HS.out.forget;have hpr:(0≤(cn:Int)*((j:Int)-1)∧(cn:Int)*((j:Int)-1)≤20*10)∧0≤((i:Int)-cn)*j∧((i:Int)-cn)*j≤20*10:=⟨⟨Int.mul_nonneg (by omega) (by omega),Int.mul_le_mul (by omega) (by omega) (by omega) (by omega)⟩,Int.mul_nonneg (by omega) (by omega),Int.mul_le_mul (by omega) (by omega) (by omega) (by omega)⟩
     rw [HCN.out] at e1 e2 e3 e4;clear HS;obtain ⟨km,kl,kh,kmi⟩:=k;simp only at e1 e2 e3 hfg bh bm bl;subst e1 e2 e4;have W1:IntKind.i64.wrap ((j:Int)-1)=(j:Int)-1:=IntWalk.i64_in _ (by omega)
     have W2:IntKind.i64.wrap ((cn:Int)*((j:Int)-1))=(cn:Int)*((j:Int)-1):=IntWalk.i64_in _ (by omega)
     have W3:IntKind.i64.wrap ((i:Int)-(cn:Int))=(i:Int)-(cn:Int):=IntWalk.i64_in _ (by omega)
     have W4:IntKind.i64.wrap (((i:Int)-(cn:Int))*(j:Int))=((i:Int)-(cn:Int))*(j:Int):=IntWalk.i64_in _ (by omega)
     obtain ⟨q0,f0⟩:=hR1.1.rules;have t0:=hR1.1.lt;have hht:∀ W,IsRd (fun b=>gd+1<b) W gr c m ns1 ⟨km,kl,(cn:Int)*((j:Int)-1),cn⟩ (((i:Int)-cn)*j)→Calls Tryz.prog 31 #[.pointer (some ⟨c,0,none⟩)] W fun r' w'=>r'=.returned (.tuple #[.int .i64 ((cn:Int)*((j:Int)-1)),.int .i64 cn])∧Below W.heap.size W w':=fun W hW=>by
      obtain ⟨_,dt,ah,af,hca,_⟩:=hW;exact chits_any hca
     clear hpr;go_wp2_with fail;refine (hht _ hR1).mono ?_;rintro e wa ⟨rfl,hba⟩;have hR2:=hR1.step hba;clear q0 f0 t0 hht;go_wp2_with fail;refine (rtrims_any hR2).mono ?_;rintro e wb ⟨rfl,rfl⟩;have hfo:=rforget_any hR2 (by show kl.length≤1000000;omega) 0 60 (by decide)
     rw [show dropR 0 60 kl=[] from hfg,List.length_nil] at hfo;rw [show ((Ca.mk km kl ((cn:Int)*((j:Int)-1)) cn).l.length:Int)-((0:Nat):Int)=(cn:Int) by show (kl.length:Int)-((0:Nat):Int)=(cn:Int);omega] at hfo
     clear e3 hfg;go_wp2_with fail;refine hfo.mono ?_;rintro e wf ⟨rfl,hm9⟩;obtain ⟨ns9,_,t9,_⟩:=RdMade.on tR1 sR1 (RdMade.pre hba hm9);clear hfo hm9;go_wp2_with fail;go_ret;exact ⟨rfl,hbw9.trans (t9.below (fun k hk=>by have:=hof k hk;omega) hbw9.size)⟩
end Go.Proofs.YtjahaflkdpmhpaaGreat
