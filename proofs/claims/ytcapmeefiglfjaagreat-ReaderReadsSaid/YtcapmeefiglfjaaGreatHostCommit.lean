/- A part of the proof. -/
import Derived.Test.YtcapmeefiglfjaaGreatDelE
import Derived.Test.YtcapmeefiglfjaaGreatWriteM
set_option maxHeartbeats 16000000
set_option maxRecDepth 100000
namespace Go.Proofs.YtcapmeefiglfjaaGreat
open Go.RowKit
def sH (xs:List (Rc × Int × Int)) (m:List Ex):List Ex:=xs.foldl (fun m x=>bC m (eF x)) m
structure zaP (xs:List (Rc × Int × Int)) (m:List Ex):Prop where
 all:∀ j x,xs[j]?=some x→kF 10000 x∧aC 0 (sH (xs.take j) m)∧(joinE (sH (xs.take j) m)).length≤10000∧(bC (sH (xs.take j) m) (eF x)).length≤10000
 go:fB xs m=(sH xs m,0)
theorem tM {xs:List (Rc × Int × Int)} {m:List Ex} {j:Nat} {x:Rc × Int × Int} (h:xs[j]?=some x):sH (xs.take (j+1)) m=bC (sH (xs.take j) m) (eF x):=by
 obtain ⟨hlt,rfl⟩:=zil.1 h;unfold sH;rw [ziy hlt,zjp];rfl
def pT (h:Ho) (rs:List Rc) (at_:List Int):List (Rc × Int × Int):=List.zipWith (fun r o=>(r,h.p.zone,o)) rs at_
theorem zda {d:Zd} {h:Ho} {rs:List Rc} (h0:(bP d h rs).2.2.2=0):(bP d h rs).2.2.1.length=rs.length:=by
 have hw:∀ d h,(zV d h rs).2.2.2=0→(zV d h rs).2.2.1.length=rs.length:=fun d h h0=>by
  have ha:(fX h.p rs).2.2=0→(fX h.p rs).2.1.length=rs.length:=fun h1=>by
   unfold fX at h1 ⊢;split at h1
   · rename_i h2;exact absurd h1 h2
   · rename_i h2
     rw [zig h2];split at h1
     · exact absurd h1 (by decide)
     · rename_i h3
       rw [zig h3];exact sF _ _
  unfold zV at h0 ⊢;split at h0
  · rename_i h2;exact absurd h0 h2
  · rename_i h2
    rw [zig h2];simp only [ne_eq,ziT] at h2;split at h0
    · rename_i h3;rw [zij h3];exact ha h2
    · rename_i h3
      rw [zig h3];split at h0
      · rename_i h4;exact absurd h0 h4
      · rename_i h4;rw [zig h4];exact ha h2
 unfold bP at h0 ⊢;split at h0
 · rename_i h2;exact absurd h0 h2
 · rename_i h2
   rw [zig h2];split at h0
   · rename_i h3;exact absurd h0 h3
   · rename_i h3
     rw [zig h3];split at h0
     · exact absurd h0 (by decide)
     · rename_i h4
       rw [zig h4];exact hw _ _ h0
theorem zeJ {h:Ho} {rs:List Rc} {at_:List Int} {j:Nat} {x:Rc × Int × Int} (hx:(pT h rs at_)[j]?=some x):∃ r o,rs[j]?=some r∧at_[j]?=some o∧x=(r,h.p.zone,o):=by
 unfold pT at hx;rw [List.getElem?_zipWith] at hx;split at hx
 · rename_i a b ha hb
   injection hx with hx;exact ⟨a,b,ha,hb,hx.symm⟩
 · cases hx
theorem rA (d:Zd) (Az:Option Addr) (cz:Nat) (h:Ho) (v:Value) (A:Option Addr) (c:Nat) (l:List Io) (K Kl:Nat→Prop) (w:World) (hz:IsL Rp.zone w K (.slice Az d.z.length cz) d.z) (hv:aY w K v h) (hl:IsL Rp.io w Kl (.slice A l.length c) l) (hK:∀ b,K b→b<w.heap.size)
 (hd:okD d) (ho:zdT h) (hs:eB h) (hvr:0≤h.ver∧h.ver≤100000000000) (hll:l.length≤100000) (hne:l≠[]) (hgood:rE h.s l=0→eY (bE h.ver l)=0)
 (hmap:rE h.s l=0→(bP d h (bE h.ver l)).2.2.2≠0) :
 Calls Tryz.prog 15 #[.agg #[.int .i64 d.cap,.int .i64 d.opn,.int .i64 d.act,.slice Az d.z.length cz],v,.slice A l.length c] w fun e w'=>∃ dv vh,e=.returned (.tuple #[dv,vh,.int .i64 (bJ d h l).2.2])∧mG w' (fun b=>K b∨w.heap.size≤b) dv vh (bJ d h l).1 (bJ d h l).2.1∧Below w.heap.size w w':=by
 have hv0:=hv;obtain ⟨vo,vs,vb,vl,vm,rfl,h1,h2,h3,h4,h5⟩:=hv;obtain ⟨Ao,co,rfl,-⟩:=h1.form;obtain ⟨As,cs,rfl,-⟩:=h2.form;obtain ⟨Ab,cb,rfl,-⟩:=aK h3;obtain ⟨Al,cl,rfl,-⟩:=h4.form;obtain ⟨Am,cm,rfl,-⟩:=h5.form;have hre:=fun W a b=>xJ h (.agg (hoS h Ao co As cs Ab cb Al cl Am cm)) A c l K Kl W a b (by omega) (by omega)
 obtain ⟨res,hres⟩:∃ res,bJ d h l=res:=⟨_,rfl⟩;rw [hres];unfold bJ at hres;obtain ⟨ee,hee⟩:∃ ee,rE h.s l=ee:=⟨_,rfl⟩;have hrr:nX h l=if ee≠0 then ([],ee) else (bE h.ver l,0):=by unfold nX;rw [hee]
 rw [hrr] at hre;rw [hee] at hres hgood hmap;have HRES:=zia hres;obtain ⟨n,hn⟩:∃ n,l.length=n:=⟨_,rfl⟩;have hn0:0<n:=by rw [←hn];exact zjR.2 hne
 have hrsl:(bE h.ver l).length=n:=by rw [oN,hn]
 rw [hn] at hl hre hll ⊢;have HN:=zia hn;have HNE:=zia hne;have HRSL:=zia hrsl;have E:=((Kn.start w).give aB.list hz).give aB.ho hv0 |>.give aB.list hl |>.push 26 #[.int .i64 d.cap,.int .i64 d.opn,.int .i64 d.act,.slice Az d.z.length cz] |>.push 37 (hoS h Ao co As cs Ab cb Al cl Am cm) |>.push 26 #[.int .i64 0,.int .i64 0,.int .i64 0,.slice none 0 0] |>.push 37 #[.int .i64 0,.slice none 0 0,.slice none 0 0,.bool false,.int .i64 0,.int .i64 0,.int .i64 0,.int .i64 0,.int .i64 0,.int .i64 0,.slice none 0 0,.slice none 0 0,.slice none 0 0,.int .i64 0,.int .i64 0]
 simp only [zid] at E;clear h1 h2 h3 h4 h5 hv0 hl hz hres hn hne hrsl hee hrr;go_enter Tryz.func15,Tryz.ntmps15
 go_wp2_with fail;generalize ((((w.alloc (.cells #[.int .i64 d.cap,.int .i64 d.opn,.int .i64 d.act,.slice Az d.z.length cz] 26)).alloc (.cells (hoS h Ao co As cs Ab cb Al cl Am cm) 37)).alloc (.cells #[.int .i64 0,.int .i64 0,.int .i64 0,.slice none 0 0] 26)).alloc (.cells #[.int .i64 0,.slice none 0 0,.slice none 0 0,.bool false,.int .i64 0,.int .i64 0,.int .i64 0,.int .i64 0,.int .i64 0,.int .i64 0,.slice none 0 0,.slice none 0 0,.slice none 0 0,.int .i64 0,.int .i64 0] 37))=w1 at E ⊢;refine (hre _ (E.get m1) (E.get m0)).mono ?_;rintro e w2 ⟨vo,rfl,hrs2,hb2⟩;have hg4:w.heap.size+1+1+1<w1.heap.size:=(E.at_ m0).lt;replace E:=E.step hb2;clear hre;obtain ⟨q0,f0,t0⟩:=E.rules m0;obtain ⟨q1,f1,t1⟩:=E.rules m1;by_cases he:ee=0
 case neg=>
  rw [zij he];have hr:=HRES.out;rw [zij he] at hr;subst hr;have he2:(ee == (0:Int))=false:=by simpa using he
  have hb02:=E.below;clear HRES;simp only;go_wp2;refine qH (K:=fun W=>bodyPost _ _ _ _ _ W) (E.at_ m1) (E.at_ m0) (by omega) _ _ _ _ _ _ _ _ _ _ _ _ _ _ _ _ _ _ _ ?_
  intro w7 hs7 ht7 hB7 hB8;obtain ⟨q2,f2⟩:=hB7.rules;obtain ⟨q3,f3⟩:=hB8.rules;refine zik (v:=.tuple #[.agg #[.int .i64 0,.int .i64 0,.int .i64 0,.slice none 0 0],.agg #[.int .i64 0,.slice none 0 0,.slice none 0 0,.bool false,.int .i64 0,.int .i64 0,.int .i64 0,.int .i64 0,.int .i64 0,.int .i64 0,.slice none 0 0,.slice none 0 0,.slice none 0 0,.int .i64 0,.int .i64 0],.int .i64 ee]) (by simp [results,Tryz.results15,go_sem,q2,q3]) rfl
   ⟨_,_,rfl,⟨⟨none,0,rfl,IsL.nil_ _ _⟩,⟨_,_,_,_,_,rfl,IsL.nil_ _ _,IsL.nil_ _ _,IsB.nil_ _ _,IsL.nil_ _ _,IsL.nil_ _ _⟩⟩,hb02.trans (ht7.below (fun k hk=>by omega) hb02.size)⟩
 subst he;rw [zig (by simp)] at hrs2 ⊢
 simp only at hrs2 ⊢;have hr:=HRES.out;rw [zig (by simp),zig HNE.out] at hr
 have hgood2:=hgood (by first | rfl | trivial)
 have hmap2:=hmap (by first | rfl | trivial)
 clear hgood hmap;obtain ⟨rs,hrs⟩:∃ rs,bE h.ver l=rs:=⟨_,rfl⟩;rw [hrs] at hrs2 hr hgood2 hmap2 HRSL;have hrne:rs≠[]:=fun e=>by have:=HRSL.out;rw [e] at this;simp at this;omega
 have hpu:=fun W a b c=>kS d Az cz h (.agg (hoS h Ao co As cs Ab cb Al cl Am cm)) vo rs K (fun b=>w1.heap.size≤b) W a b c
 have HR:=zia hr;clear hr HRES hrs;have n0:((n:Int) == (0:Int))=false:=by simp;omega
 clear q0 f0 t0 q1 f1 t1;obtain ⟨q0,f0,t0⟩:=E.rules m3;obtain ⟨q1,f1,t1⟩:=E.rules m2;have hs12:=hb2.size;have hrsn:rs.length≤1000000:=by have:=HRSL.out;omega
 obtain ⟨pr,hpr⟩:∃ pr,bP d h rs=pr:=⟨_,rfl⟩;have hat:=zda (d:=d) (h:=h) (rs:=rs);rw [hpr] at hpu hmap2 HR hat;obtain ⟨d3,h3,at3,e3⟩:=pr;simp only at hpu hmap2 HR hat;clear hpr;go_wp2_with fail;refine (hpu _ (E.get m2) (E.get m1) hrs2 (fun b hb=>by have:=hK b hb;omega) hd ho hs hrsn hgood2 hrne).mono ?_
 rintro e w3 ⟨dv,vh,Aa,ca,rfl,own3,⟨⟨A3,c3,rfl,hz3⟩,vo3,vs3,vb3,vl3,vm3,hvh,a1,a2,a3,a4,a5⟩,hb3⟩;obtain ⟨Ao3,co3,rfl,-⟩:=a1.form;obtain ⟨As3,cs3,rfl,-⟩:=a2.form;obtain ⟨Ab3,cb3,rfl,-⟩:=aK a3;obtain ⟨Al3,cl3,rfl,-⟩:=a4.form;obtain ⟨Am3,cm3,rfl,-⟩:=a5.form;subst hvh;clear q0 f0 t0 q1 f1 t1 hpu;replace E:=E.step hb3;have hrs3:=hrs2.step hb3;obtain ⟨q0,f0,t0⟩:=E.rules m3;obtain ⟨q1,f1,t1⟩:=E.rules m2;go_upto_region 7 with fail;refine qH (K:=fun W=>Code.wp _ _ _ _ W) (E.at_ m3) (E.at_ m2) (by omega) _ _ _ _ _ _ _ _ _ _ _ _ _ _ _ _ _ _ _ ?_
 intro w4 hs4 ht4 hB3 hB4;have kk:∀ b,(K b∨w2.heap.size≤b)→¬(b=w.heap.size∨b=w.heap.size+1)∧¬(b=w.heap.size+1+1∨b=w.heap.size+1+1+1)∧(K b∨w.heap.size≤b):=fun b hb=>by
  rcases hb with hb | hb
  · have:=hK b hb;exact ⟨by omega,by omega,.inl hb⟩
  · exact ⟨by omega,by omega,.inr (by omega)⟩
 have KK:=zia kk;have hR1:=(E.at_ m1).turned ht4 (by omega)
 have hR2:=(E.at_ m0).turned ht4 (by omega)
 have b6:=hz3.turned ht4 fun b hb=>(KK.out b hb).1
 have b1:=a1.turned ht4 fun b hb=>(KK.out b hb).1
 have b2:=a2.turned ht4 fun b hb=>(KK.out b hb).1
 have b3:=a3.turned ht4 fun b hb=>(KK.out b hb).1
 have b4:=a4.turned ht4 fun b hb=>(KK.out b hb).1
 have b5:=a5.turned ht4 fun b hb=>(KK.out b hb).1
 have hrs4:=hrs3.turned ht4 fun b hb=>by omega
 have own4:=gQ own3 ht4 fun b hb=>by omega
 have hb4:Below w.heap.size w w4:=E.below.trans (ht4.below (fun k hk=>by omega) E.below.size)
 have hs24:w2.heap.size≤w4.heap.size:=by rw [hs4];exact hb3.size
 clear E q0 f0 t0 q1 f1 t1 hz3 a1 a2 a3 a4 a5 hrs3 own3 kk hb2 hb3 hs4 ht4 hrs2;obtain ⟨Ar,cr,rfl,-⟩:=hrs4.form;have hrl:=hrs4.len;rw [HRSL.out] at hrs4 hrl;by_cases he3:e3=0
 case neg=>
  have hr:=HR.out;rw [zij he3] at hr;subst hr;clear HR hmap2 hat;have he4:(e3 == (0:Int))=false:=by simpa using he3
  have E:=((((Kn.start w4).know hR1).know hR2).know hB3).know hB4 |>.give aB.list hrs4 |>.give aB.list b6 |>.give aB.list b1 |>.give aB.list b2 |>.give aB.bytes b3 |>.give aB.list b4 |>.give aB.list b5
  rw [HRSL.out];clear hR1 hR2 hB3 hB4 hrs4 b6 b1 b2 b3 b4 b5 own4;go_wp2_with fail;go_loopw [10,44] (fun x10 x44 wr=>x10=.int .i64 e3∧(∃ j:Nat,x44=.int .i64 j∧j<n)∧Below w4.heap.size w4 wr) (fun _ _ _=>0)
  case atStart=>exact ⟨rfl,⟨0,rfl,hn0⟩,zif _ _⟩
  case round=>
   obtain ⟨rfl,⟨j,rfl,hlt⟩,hb⟩:=hrel;have F:=E.step hb;obtain ⟨r,hje⟩:∃ r,rs[j]?=some r:=⟨_,zib (by rw [HRSL.out];exact hlt)⟩
   obtain ⟨ad,Ad,cd,rfl,-,-,-,c0,c1,c2,c3',c4,c5,c6⟩:=zbs (F.get m6) hje;have j1:(j:Int)<(n:Int):=by omega
   have j0:(0:Int)≤(j:Int):=by omega
   have hb6:=hb4.trans (hb.mono hb4.size);go_upto_region 11 with fail;have G:=F.push 117 #[.int .i64 r.kind,.int .i64 r.lba,.int .i64 r.n,.int .i64 r.ver,.int .i64 r.zone,.int .i64 r.off,.slice Ad r.data.length cd];replace hb6:=hb6.alloc hb6.size (.cells #[.int .i64 r.kind,.int .i64 r.lba,.int .i64 r.n,.int .i64 r.ver,.int .i64 r.zone,.int .i64 r.off,.slice Ad r.data.length cd] 117);generalize wr.alloc (.cells #[.int .i64 r.kind,.int .i64 r.lba,.int .i64 r.n,.int .i64 r.ver,.int .i64 r.zone,.int .i64 r.off,.slice Ad r.data.length cd] 117)=wA at G hb6 ⊢;have hR1:=G.at_ m4;have hR2:=G.at_ m3;have hBd:=G.at_ m2;have hBh:=G.at_ m1;have b6:=G.get m5;have b1:=G.get m4;have b2:=G.get m3;have b3:=G.get m2;have b4:=G.get m1;have b5:=G.get m0;clear c0 c1 c2 c3' c4 c5 c6 E F G hje hb hb4 n0 he4;go_cut [8] (fun x8 wx=>x8=.int .i64 e3∧Blk wx (w.heap.size+1+1) 26 #[.int .i64 d3.cap,.int .i64 d3.opn,.int .i64 d3.act,.slice A3 d3.z.length c3]∧Blk wx (w.heap.size+1+1+1) 37 (hoS h3 Ao3 co3 As3 cs3 Ab3 cb3 Al3 cl3 Am3 cm3)∧aA wA wx (fun b=>b=w.heap.size+1+1∨b=w.heap.size+1+1+1))
   case first=>
    have hb0:aA wA wA.drew (fun b=>b=w.heap.size+1+1∨b=w.heap.size+1+1+1):=(aA.refl _ _).drew
    have HK:Hid (∀ W,aA wA W (fun b=>b=w.heap.size+1+1∨b=w.heap.size+1+1+1)→(∀ o,W.cell? ⟨w.heap.size,o,none⟩=(#[.int .i64 d3.cap,.int .i64 d3.opn,.int .i64 d3.act,.slice A3 d3.z.length c3]:Array Value)[o]?)∧(∀ o,W.cell? ⟨w.heap.size+1,o,none⟩=((hoS h3 Ao3 co3 As3 cs3 Ab3 cb3 Al3 cl3 Am3 cm3):Array Value)[o]?)):=zia fun W ht=>⟨(hBd.turned ht (by omega)).rules.1,(hBh.turned ht (by omega)).rules.1⟩
    refine wp_region_held_drew (S:=fun W=>(∀ o,W.cell? ⟨w.heap.size,o,none⟩=(#[.int .i64 d3.cap,.int .i64 d3.opn,.int .i64 d3.act,.slice A3 d3.z.length c3]:Array Value)[o]?)∧(∀ o,W.cell? ⟨w.heap.size+1,o,none⟩=((hoS h3 Ao3 co3 As3 cs3 Ab3 cb3 Al3 cl3 Am3 cm3):Array Value)[o]?)) (by kernel_rfl) (HK.out _ hb0) (fun hHeld=>?_)
    replace hR1:=hR1.drew;replace hR2:=hR2.drew;have hbx:=hb0;generalize wA.drew=wx at hbx hR1 hR2 hHeld ⊢;refine wT 0 51 ?_;refine wT 1 52 ?_;refine wT 2 53 ?_;refine wRn 3 (fun K hK=>?_)
    obtain ⟨q0,f0⟩:=hR1.rules;have t0:=hR1.lt;go_simp;refine dI (K:=K _) hR1 _ _ _ _ ?_;intro wx hsx htx hR1';replace hbx:=hbx.trans (htx.mono fun b hb=>.inl hb)
    replace hR2:=hR2.turned htx (show ¬w.heap.size+1+1+1=w.heap.size+1+1 by omega)
    clear q0 f0 t0 hR1 htx hsx;have hR1:=hR1';refine hK.out _ _ (HK.out _ hbx) (fun hHeld=>?_)
    clear hK K;try simp only [pu,List.set]
    refine wRn 4 (fun K hK=>?_)
    obtain ⟨q0,f0⟩:=hR2.rules;have t0:=hR2.lt;go_simp;refine eV (K:=K _) hR2 _ _ _ _ _ _ _ _ _ _ _ _ _ _ _ ?_;intro wx hsx htx hR2';replace hbx:=hbx.trans (htx.mono fun b hb=>.inr hb)
    replace hR1:=hR1.turned htx (show ¬w.heap.size+1+1=w.heap.size+1+1+1 by omega)
    clear q0 f0 t0 hR2 htx hsx;have hR2:=hR2';refine hK.out _ _ (HK.out _ hbx) (fun hHeld=>?_)
    clear hK K;refine wT 5 8 ?_;refine wpAnyH_done (by kernel_rfl) ?_ _
    go_wp2_with fail;go_meet;exact ⟨rfl,hR1,hR2,hbx⟩
   case rest=>
    obtain ⟨rfl,hR1,hR2,hbx⟩:=hcut;obtain ⟨q2,f2⟩:=hR1.rules;obtain ⟨q3,f3⟩:=hR2.rules;go_wp2;refine zik (v:=.tuple #[.agg #[.int .i64 d3.cap,.int .i64 d3.opn,.int .i64 d3.act,.slice A3 d3.z.length c3],.agg (hoS h3 Ao3 co3 As3 cs3 Ab3 cb3 Al3 cl3 Am3 cm3),.int .i64 e3]) (by simp [results,Tryz.results15,go_sem,q2,q3]) rfl ⟨_,_,rfl,⟨⟨A3,c3,rfl,(b6.turned hbx fun b hb=>(KK.out b hb).2.1).more fun b hb=>(KK.out b hb).2.2⟩,⟨_,_,_,_,_,rfl,(b1.turned hbx fun b hb=>(KK.out b hb).2.1).more fun b hb=>(KK.out b hb).2.2,(b2.turned hbx fun b hb=>(KK.out b hb).2.1).more fun b hb=>(KK.out b hb).2.2,(b3.turned hbx fun b hb=>(KK.out b hb).2.1).more fun b hb=>(KK.out b hb).2.2,(b4.turned hbx fun b hb=>(KK.out b hb).2.1).more fun b hb=>(KK.out b hb).2.2,(b5.turned hbx fun b hb=>(KK.out b hb).2.1).more fun b hb=>(KK.out b hb).2.2⟩⟩,hb6.trans (hbx.below (fun k hk=>by omega) hb6.size)⟩
 exact absurd he3 (hmap2)
theorem zaN (d:Zd) (Az:Option Addr) (cz:Nat) (h:Ho) (v:Value) (A:Option Addr) (c:Nat) (l:List Io) (K Kl:Nat→Prop) (w:World) (hz:IsL Rp.zone w K (.slice Az d.z.length cz) d.z) (hv:aY w K v h) (hl:IsL Rp.io w Kl (.slice A l.length c) l) (hK:∀ b,K b→b<w.heap.size)
 (hd:okD d) (ho:zdT h) (hs:eB h) (hvr:0≤h.ver∧h.ver≤100000000000) (hll:l.length≤100000) (hne:l≠[]) (hgood:rE h.s l=0→eY (bE h.ver l)=0)
 (h0:rE h.s l=0) (h03:(bP d h (bE h.ver l)).2.2.2=0) (hmap:(bP d h (bE h.ver l)).2.1.p.zone≤1000000∧(bP d h (bE h.ver l)).2.1.ver≤100000000000∧0≤(bP d h (bE h.ver l)).2.1.ver∧zaP (pT (bP d h (bE h.ver l)).2.1 (bE h.ver l) (bP d h (bE h.ver l)).2.2.1) (bP d h (bE h.ver l)).2.1.m) :
 Calls Tryz.prog 15 #[.agg #[.int .i64 d.cap,.int .i64 d.opn,.int .i64 d.act,.slice Az d.z.length cz],v,.slice A l.length c] w fun e w'=>∃ dv vh,e=.returned (.tuple #[dv,vh,.int .i64 (bJ d h l).2.2])∧mG w' (fun b=>K b∨w.heap.size≤b) dv vh (bJ d h l).1 (bJ d h l).2.1∧Below w.heap.size w w':=by
 have hv0:=hv;obtain ⟨vo,vs,vb,vl,vm,rfl,h1,h2,h3,h4,h5⟩:=hv;obtain ⟨Ao,co,rfl,-⟩:=h1.form;obtain ⟨As,cs,rfl,-⟩:=h2.form;obtain ⟨Ab,cb,rfl,-⟩:=aK h3;obtain ⟨Al,cl,rfl,-⟩:=h4.form;obtain ⟨Am,cm,rfl,-⟩:=h5.form;have hre:=fun W a b=>xJ h (.agg (hoS h Ao co As cs Ab cb Al cl Am cm)) A c l K Kl W a b (by omega) (by omega)
 obtain ⟨res,hres⟩:∃ res,bJ d h l=res:=⟨_,rfl⟩;rw [hres];unfold bJ at hres;obtain ⟨ee,hee⟩:∃ ee,rE h.s l=ee:=⟨_,rfl⟩;have hrr:nX h l=if ee≠0 then ([],ee) else (bE h.ver l,0):=by unfold nX;rw [hee]
 rw [hrr] at hre;rw [hee] at hres hgood h0;have HEE:=zia h0;have HRES:=zia hres;obtain ⟨n,hn⟩:∃ n,l.length=n:=⟨_,rfl⟩;have hn0:0<n:=by rw [←hn];exact zjR.2 hne
 have hrsl:(bE h.ver l).length=n:=by rw [oN,hn]
 rw [hn] at hl hre hll ⊢;have HN:=zia hn;have HNE:=zia hne;have HRSL:=zia hrsl;have E:=((Kn.start w).give aB.list hz).give aB.ho hv0 |>.give aB.list hl |>.push 26 #[.int .i64 d.cap,.int .i64 d.opn,.int .i64 d.act,.slice Az d.z.length cz] |>.push 37 (hoS h Ao co As cs Ab cb Al cl Am cm) |>.push 26 #[.int .i64 0,.int .i64 0,.int .i64 0,.slice none 0 0] |>.push 37 #[.int .i64 0,.slice none 0 0,.slice none 0 0,.bool false,.int .i64 0,.int .i64 0,.int .i64 0,.int .i64 0,.int .i64 0,.int .i64 0,.slice none 0 0,.slice none 0 0,.slice none 0 0,.int .i64 0,.int .i64 0]
 simp only [zid] at E;clear h1 h2 h3 h4 h5 hv0 hl hz hres hn hne hrsl hee hrr;go_enter Tryz.func15,Tryz.ntmps15
 go_wp2_with fail;generalize ((((w.alloc (.cells #[.int .i64 d.cap,.int .i64 d.opn,.int .i64 d.act,.slice Az d.z.length cz] 26)).alloc (.cells (hoS h Ao co As cs Ab cb Al cl Am cm) 37)).alloc (.cells #[.int .i64 0,.int .i64 0,.int .i64 0,.slice none 0 0] 26)).alloc (.cells #[.int .i64 0,.slice none 0 0,.slice none 0 0,.bool false,.int .i64 0,.int .i64 0,.int .i64 0,.int .i64 0,.int .i64 0,.int .i64 0,.slice none 0 0,.slice none 0 0,.slice none 0 0,.int .i64 0,.int .i64 0] 37))=w1 at E ⊢;refine (hre _ (E.get m1) (E.get m0)).mono ?_;rintro e w2 ⟨vo,rfl,hrs2,hb2⟩;have hg4:w.heap.size+1+1+1<w1.heap.size:=(E.at_ m0).lt;replace E:=E.step hb2;clear hre;obtain ⟨q0,f0,t0⟩:=E.rules m0;obtain ⟨q1,f1,t1⟩:=E.rules m1;by_cases he:ee=0
 case neg=>exact absurd HEE.out he
 subst he;rw [zig (by simp)] at hrs2 ⊢
 simp only at hrs2 ⊢;have hr:=HRES.out;rw [zig (by simp),zig HNE.out] at hr
 have hgood2:=hgood (by first | rfl | trivial)
 have hmap2:=hmap;clear hgood hmap;obtain ⟨rs,hrs⟩:∃ rs,bE h.ver l=rs:=⟨_,rfl⟩;rw [hrs] at hrs2 hr hgood2 hmap2 HRSL h03;have hrne:rs≠[]:=fun e=>by have:=HRSL.out;rw [e] at this;simp at this;omega
 have hpu:=fun W a b c=>kS d Az cz h (.agg (hoS h Ao co As cs Ab cb Al cl Am cm)) vo rs K (fun b=>w1.heap.size≤b) W a b c
 have HR:=zia hr;clear hr HRES hrs;have n0:((n:Int) == (0:Int))=false:=by simp;omega
 clear q0 f0 t0 q1 f1 t1;obtain ⟨q0,f0,t0⟩:=E.rules m3;obtain ⟨q1,f1,t1⟩:=E.rules m2;have hs12:=hb2.size;have hrsn:rs.length≤1000000:=by have:=HRSL.out;omega
 obtain ⟨pr,hpr⟩:∃ pr,bP d h rs=pr:=⟨_,rfl⟩;have hat:=zda (d:=d) (h:=h) (rs:=rs);rw [hpr] at hpu hmap2 HR hat h03;obtain ⟨d3,h3,at3,e3⟩:=pr;simp only at hpu hmap2 HR hat h03;have HE3:=zia h03;clear h03;clear hpr;go_wp2_with fail;refine (hpu _ (E.get m2) (E.get m1) hrs2 (fun b hb=>by have:=hK b hb;omega) hd ho hs hrsn hgood2 hrne).mono ?_
 rintro e w3 ⟨dv,vh,Aa,ca,rfl,own3,⟨⟨A3,c3,rfl,hz3⟩,vo3,vs3,vb3,vl3,vm3,hvh,a1,a2,a3,a4,a5⟩,hb3⟩;obtain ⟨Ao3,co3,rfl,-⟩:=a1.form;obtain ⟨As3,cs3,rfl,-⟩:=a2.form;obtain ⟨Ab3,cb3,rfl,-⟩:=aK a3;obtain ⟨Al3,cl3,rfl,-⟩:=a4.form;obtain ⟨Am3,cm3,rfl,-⟩:=a5.form;subst hvh;clear q0 f0 t0 q1 f1 t1 hpu;replace E:=E.step hb3;have hrs3:=hrs2.step hb3;obtain ⟨q0,f0,t0⟩:=E.rules m3;obtain ⟨q1,f1,t1⟩:=E.rules m2;go_upto_region 7 with fail;refine qH (K:=fun W=>Code.wp _ _ _ _ W) (E.at_ m3) (E.at_ m2) (by omega) _ _ _ _ _ _ _ _ _ _ _ _ _ _ _ _ _ _ _ ?_
 intro w4 hs4 ht4 hB3 hB4;have kk:∀ b,(K b∨w2.heap.size≤b)→¬(b=w.heap.size∨b=w.heap.size+1)∧¬(b=w.heap.size+1+1∨b=w.heap.size+1+1+1)∧(K b∨w.heap.size≤b):=fun b hb=>by
  rcases hb with hb | hb
  · have:=hK b hb;exact ⟨by omega,by omega,.inl hb⟩
  · exact ⟨by omega,by omega,.inr (by omega)⟩
 have KK:=zia kk;have hR1:=(E.at_ m1).turned ht4 (by omega)
 have hR2:=(E.at_ m0).turned ht4 (by omega)
 have b6:=hz3.turned ht4 fun b hb=>(KK.out b hb).1
 have b1:=a1.turned ht4 fun b hb=>(KK.out b hb).1
 have b2:=a2.turned ht4 fun b hb=>(KK.out b hb).1
 have b3:=a3.turned ht4 fun b hb=>(KK.out b hb).1
 have b4:=a4.turned ht4 fun b hb=>(KK.out b hb).1
 have b5:=a5.turned ht4 fun b hb=>(KK.out b hb).1
 have hrs4:=hrs3.turned ht4 fun b hb=>by omega
 have own4:=gQ own3 ht4 fun b hb=>by omega
 have hb4:Below w.heap.size w w4:=E.below.trans (ht4.below (fun k hk=>by omega) E.below.size)
 have hs24:w2.heap.size≤w4.heap.size:=by rw [hs4];exact hb3.size
 clear E q0 f0 t0 q1 f1 t1 hz3 a1 a2 a3 a4 a5 hrs3 own3 kk hb2 hb3 hs4 ht4 hrs2;obtain ⟨Ar,cr,rfl,-⟩:=hrs4.form;have hrl:=hrs4.len;rw [HRSL.out] at hrs4 hrl;by_cases he3:e3=0
 case neg=>exact absurd HE3.out he3
 subst he3;have hat2:=hat (by first | rfl | trivial)
 obtain ⟨mz,mv,mv0,hmo⟩:=hmap2;have hmp:zhE h3 rs at3=(sH (pT h3 rs at3) h3.m,0):=hmo.go;have hxl:(pT h3 rs at3).length=n:=by unfold pT;rw [List.length_zipWith,hat2,HRSL.out];exact Nat.min_self n
 have hr:=HR.out;rw [zig (by simp),hmp,HN.out] at hr
 have HX:=zia (fun j x (hx:(pT h3 rs at3)[j]?=some x)=>zeJ hx)
 obtain ⟨xs,hxs⟩:∃ xs,pT h3 rs at3=xs:=⟨_,rfl⟩;rw [hxs] at hmo hxl hr HX;rw [hat2,HRSL.out] at own4;have HA2:=zia hat2;have HMO:=zia hmo;have HXL:=zia hxl;have HR3:=zia hr;clear hat hmo hmp hxl hr HR hxs;rw [HRSL.out,HA2.out,HRSL.out];clear hat2;go_wp2_with fail;go_loopw [10,44] (fun x10 x44 wr=>x10=.int .i64 0∧∃ (j:Nat) (Amj:Option Addr) (mn cmj:Nat),x44=.int .i64 j∧j≤n∧Hid ((sH (xs.take j) h3.m).length=mn)∧Blk wr (w.heap.size+1) 37 (hoC h3 (.slice Ao3 h3.own.length co3) (.slice As3 h3.s.length cs3) (.slice Ab3 h3.p.buf.length cb3) (.slice Al3 h3.p.l.length cl3) (.slice Amj mn cmj))∧IsL Rp.ex wr (fun b=>K b∨w2.heap.size≤b) (.slice Amj mn cmj) (sH (xs.take j) h3.m)∧aA w4 wr (fun b=>b=w.heap.size+1)) (fun _ x44 _=>n-(intOf x44).toNat)
 case atStart=>exact ⟨rfl,0,Am3,h3.m.length,cm3,rfl,zir _,zia rfl,hB4,b5,aA.refl _ _⟩
 case round=>
  obtain ⟨rfl,j,Amj,mn,cmj,rfl,hj,HMN,hBh,hmj,ht⟩:=hrel;have kh:∀ b,(K b∨w2.heap.size≤b)→¬b=w.heap.size+1:=fun b hb e=>(KK.out b hb).1 (.inr e)
  have hsz:=ht.size;by_cases hlt:j<n
  · obtain ⟨x,hx⟩:∃ x,xs[j]?=some x:=⟨_,zib (by rw [HXL.out];exact hlt)⟩
    obtain ⟨r,o,hrj,hoj,rfl⟩:=HX.out j x hx;obtain ⟨hgx,hch,hj1,hj2⟩:=HMO.out.all j _ hx;have hnx:=tM (m:=h3.m) hx;have hrsr:=hrs4.turned ht fun b hb=>by omega
    have ownr:=gQ own4 ht fun b hb=>by omega
    obtain ⟨ad,Ad,cd,rfl,-,hdb,hokr,c0,c1,c2,c3',c4,c5,c6⟩:=zbs hrsr hrj;obtain ⟨adA,rfl,-,hca⟩:=(aG.of_own_ge ownr).2 (by omega)
    have hca:=hca j (.int .i64 o) (by rw [zj1,hoj];rfl)
    have hgr:=hgx.1;have hva:=fun W a=>qT Amj cmj (sH (xs.take j) h3.m) r Ad cd h3.p.zone o (fun b=>K b∨w2.heap.size≤b) W a hch hokr (by obtain ⟨_,_,_,h47⟩:=aK hdb;exact h47) (hgr.check (by omega)) (by rcases hgr.kind with h1 | h1;exact .inl h1;exact .inr (.inl h1)) hgx.2.1.1 (by have:=hgx.2.2;simp only at this;omega) (hgx.may (by omega)) ⟨hj1,hj2⟩
    have hex:bC (sH (xs.take j) h3.m) (fR r h3.p.zone o)=sH (xs.take (j+1)) h3.m:=hnx.symm;rw [hex,HMN.out] at hva;obtain ⟨mn2,hmn2⟩:∃ mn2,(sH (xs.take (j+1)) h3.m).length=mn2:=⟨_,rfl⟩;rw [hmn2] at hva;have HMN2:=zia hmn2;unfold rcV at hva;have j1:(j:Int)<(n:Int):=by omega
    have j0:(0:Int)≤(j:Int):=by omega
    clear hmn2 hex hnx hgr hgx hch hj1 hj2 hrj hoj hx hdb hokr;have F:=(Kn.start wr).know hBh |>.give aB.list hmj
    have hcs:=fun W (hb:Below wr.heap.size wr W)=>(hb.cell (ziB wr _ hca)).trans hca
    go_upto_region 12 with fail;have G:=F.push 117 #[.int .i64 r.kind,.int .i64 r.lba,.int .i64 r.n,.int .i64 r.ver,.int .i64 r.zone,.int .i64 r.off,.slice Ad r.data.length cd];have hbA:Below wr.heap.size wr (wr.alloc (.cells #[.int .i64 r.kind,.int .i64 r.lba,.int .i64 r.n,.int .i64 r.ver,.int .i64 r.zone,.int .i64 r.off,.slice Ad r.data.length cd] 117)):=zBA;generalize wr.alloc (.cells #[.int .i64 r.kind,.int .i64 r.lba,.int .i64 r.n,.int .i64 r.ver,.int .i64 r.zone,.int .i64 r.off,.slice Ad r.data.length cd] 117)=wA at G hbA ⊢;have hgA:w.heap.size+1<wA.heap.size:=(G.at_ m1).lt;have hsA:wr.heap.size<wA.heap.size:=(G.at_ m0).lt;clear c0 c1 c2 c3' c4 c5 c6 hca F;have hb0:Below wA.heap.size wA wA.drew:=(zif _ _).drew;have HK:Hid (∀ W,Below wA.heap.size wA W→(∀ o',W.cell? ⟨w.heap.size+1,o',none⟩=((hoC h3 (.slice Ao3 h3.own.length co3) (.slice As3 h3.s.length cs3) (.slice Ab3 h3.p.buf.length cb3) (.slice Al3 h3.p.l.length cl3) (.slice Amj mn cmj)):Array Value)[o']?)∧(∀ o',W.cell? ⟨wr.heap.size,o',none⟩=(#[.int .i64 r.kind,.int .i64 r.lba,.int .i64 r.n,.int .i64 r.ver,.int .i64 r.zone,.int .i64 r.off,.slice Ad r.data.length cd]:Array Value)[o']?)∧W.cell? (adA.add j)=some (.int .i64 o)):=zia fun W hb=>⟨((G.step hb).rules m1).1,((G.step hb).rules m0).1,hcs W (hbA.trans (hb.mono hbA.size))⟩
    refine cZ (S:=fun (L:Array Bool) (W:World)=>L.getD 15 false=true∨((∀ o',W.cell? ⟨w.heap.size+1,o',none⟩=((hoC h3 (.slice Ao3 h3.own.length co3) (.slice As3 h3.s.length cs3) (.slice Ab3 h3.p.buf.length cb3) (.slice Al3 h3.p.l.length cl3) (.slice Amj mn cmj)):Array Value)[o']?)∧(∀ o',W.cell? ⟨wr.heap.size,o',none⟩=(#[.int .i64 r.kind,.int .i64 r.lba,.int .i64 r.n,.int .i64 r.ver,.int .i64 r.zone,.int .i64 r.off,.slice Ad r.data.length cd]:Array Value)[o']?)∧W.cell? (adA.add j)=some (.int .i64 o))) (by kernel_rfl) (.inr (HK.out _ hb0)) (fun hDn hSn=>?_)
    generalize wA.drew=wx at hb0 hDn hSn ⊢;refine wD 0 55 (fun hDn hSn=>?_)
    refine aN (i:=1) (oi:=⟨some 56,_,_,_,_,_⟩) (v:=?_) (Si:=fun W=>(∀ o',W.cell? ⟨w.heap.size+1,o',none⟩=((hoC h3 (.slice Ao3 h3.own.length co3) (.slice As3 h3.s.length cs3) (.slice Ab3 h3.p.buf.length cb3) (.slice Al3 h3.p.l.length cl3) (.slice Amj mn cmj)):Array Value)[o']?)∧(∀ o',W.cell? ⟨wr.heap.size,o',none⟩=(#[.int .i64 r.kind,.int .i64 r.lba,.int .i64 r.n,.int .i64 r.ver,.int .i64 r.zone,.int .i64 r.off,.slice Ad r.data.length cd]:Array Value)[o']?)∧W.cell? (adA.add j)=some (.int .i64 o)) rfl (by kernel_rfl) (by kernel_rfl) (by kernel_rfl) (fun _ _ _ h=>h) (fun L W hD hu hS=>hS.resolve_left (fun h=>by have h:=hD.2 15 _ rfl h ⟨1,.phase⟩ (by simp) rfl;rw [hu] at h;cases h)) (fun L W=>by simp only [zjf false (show (1:Nat)≠15 by omega)]) (Or.inl ⟨by rfl,?hy⟩) (by assumption) (by assumption) (fun hDn hSn=>?_)
    case hy=>intro w hSw;(try dsimp only at hSw);go_simp;with_reducible rfl
    try simp only [pu,List.set]
    refine aN (i:=2) (oi:=⟨some 57,_,_,_,_,_⟩) (v:=?_) (Si:=fun W=>(∀ o',W.cell? ⟨w.heap.size+1,o',none⟩=((hoC h3 (.slice Ao3 h3.own.length co3) (.slice As3 h3.s.length cs3) (.slice Ab3 h3.p.buf.length cb3) (.slice Al3 h3.p.l.length cl3) (.slice Amj mn cmj)):Array Value)[o']?)∧(∀ o',W.cell? ⟨wr.heap.size,o',none⟩=(#[.int .i64 r.kind,.int .i64 r.lba,.int .i64 r.n,.int .i64 r.ver,.int .i64 r.zone,.int .i64 r.off,.slice Ad r.data.length cd]:Array Value)[o']?)∧W.cell? (adA.add j)=some (.int .i64 o)) rfl (by kernel_rfl) (by kernel_rfl) (by kernel_rfl) (fun _ _ _ h=>h) (fun L W hD hu hS=>hS.resolve_left (fun h=>by have h:=hD.2 15 _ rfl h ⟨2,.phase⟩ (by simp) rfl;rw [hu] at h;cases h)) (fun L W=>by simp only [zjf false (show (2:Nat)≠15 by omega)]) (Or.inl ⟨by rfl,?hy⟩) (by assumption) (by assumption) (fun hDn hSn=>?_)
    case hy=>intro w hSw;(try dsimp only at hSw);go_simp;with_reducible rfl
    refine wD 3 58 (fun hDn hSn=>?_)
    refine wD 4 59 (fun hDn hSn=>?_)
    refine aN (i:=5) (oi:=⟨some 60,_,_,_,_,_⟩) (v:=?_) (Si:=fun W=>(∀ o',W.cell? ⟨w.heap.size+1,o',none⟩=((hoC h3 (.slice Ao3 h3.own.length co3) (.slice As3 h3.s.length cs3) (.slice Ab3 h3.p.buf.length cb3) (.slice Al3 h3.p.l.length cl3) (.slice Amj mn cmj)):Array Value)[o']?)∧(∀ o',W.cell? ⟨wr.heap.size,o',none⟩=(#[.int .i64 r.kind,.int .i64 r.lba,.int .i64 r.n,.int .i64 r.ver,.int .i64 r.zone,.int .i64 r.off,.slice Ad r.data.length cd]:Array Value)[o']?)∧W.cell? (adA.add j)=some (.int .i64 o)) rfl (by kernel_rfl) (by kernel_rfl) (by kernel_rfl) (fun _ _ _ h=>h) (fun L W hD hu hS=>hS.resolve_left (fun h=>by have h:=hD.2 15 _ rfl h ⟨5,.phase⟩ (by simp) rfl;rw [hu] at h;cases h)) (fun L W=>by simp only [zjf false (show (5:Nat)≠15 by omega)]) (Or.inl ⟨by rfl,?hy⟩) (by assumption) (by assumption) (fun hDn hSn=>?_)
    case hy=>intro w hSw;(try dsimp only at hSw);go_simp;with_reducible rfl
    refine wD 6 61 (fun hDn hSn=>?_)
    refine wD 7 62 (fun hDn hSn=>?_)
    refine wD 8 63 (fun hDn hSn=>?_)
    refine aN (i:=9) (oi:=⟨some 64,_,_,_,_,_⟩) (v:=?_) (Si:=fun W=>(∀ o',W.cell? ⟨w.heap.size+1,o',none⟩=((hoC h3 (.slice Ao3 h3.own.length co3) (.slice As3 h3.s.length cs3) (.slice Ab3 h3.p.buf.length cb3) (.slice Al3 h3.p.l.length cl3) (.slice Amj mn cmj)):Array Value)[o']?)∧(∀ o',W.cell? ⟨wr.heap.size,o',none⟩=(#[.int .i64 r.kind,.int .i64 r.lba,.int .i64 r.n,.int .i64 r.ver,.int .i64 r.zone,.int .i64 r.off,.slice Ad r.data.length cd]:Array Value)[o']?)∧W.cell? (adA.add j)=some (.int .i64 o)) rfl (by kernel_rfl) (by kernel_rfl) (by kernel_rfl) (fun _ _ _ h=>h) (fun L W hD hu hS=>hS.resolve_left (fun h=>by have h:=hD.2 15 _ rfl h ⟨9,.phase⟩ (by simp) rfl;rw [hu] at h;cases h)) (fun L W=>by simp only [zjf false (show (9:Nat)≠15 by omega)]) (Or.inl ⟨by rfl,?hy⟩) (by assumption) (by assumption) (fun hDn hSn=>?_)
    case hy=>intro w hSw;(try dsimp only at hSw);go_simp;with_reducible rfl
    try simp only [pu,List.set]
    refine aR (i:=10) (o:=⟨some 65,_,_,_,_,_⟩) (by kernel_rfl) rfl (by assumption) (fun K hK=>?_)
    go_simp;refine (hva _ ((G.step hb0).get m0)).mono ?_;rintro e w5 ⟨A5,c5,rfl,hm5,hb5⟩;replace hb5:=hb0.trans (hb5.mono hb0.size);go_wp2_with fail;refine hK.out _ _ (.inr (HK.out _ hb5)) (fun hDn hSn=>?_)
    clear hK K;refine wD 11 54 (fun hDn hSn=>?_)
    refine wD 12 66 (fun hDn hSn=>?_)
    refine wD 13 67 (fun hDn hSn=>?_)
    refine wD 14 68 (fun hDn hSn=>?_)
    refine aR (i:=15) (o:=⟨none,_,_,_,_,_⟩) (by kernel_rfl) rfl (by assumption) (fun K hK=>?_)
    have hBx:=(G.step hb5).at_ m1;obtain ⟨q0,f0⟩:=hBx.rules;have t0:=hBx.lt;go_simp;refine cF (K:=K _) hBx 12 _ ?_;intro w6 hs6 ht6 hB6;clear q0 f0 t0;refine hK.out _ _ (.inl (by kernel_rfl)) (fun hDn hSn=>?_)
    clear hK K;refine wD 16 10 (fun hDn hSn=>?_)
    refine cX (by kernel_rfl) ?_ _
    have hsx:=hb0.size;have ht16:aA w4 w6 (fun b=>b=w.heap.size+1):=(ht.trans ((aA.of hbA).trans (aA.of hb5))).trans ht6
    have hm6:=(hm5.turned ht6 (fun b hb e=>by omega)).more (K':=fun b=>K b∨w2.heap.size≤b) fun b hb=>.inr (by omega)
    clear hDn hSn HK hva hcs hmj hBh hm5 G;go_wp2;go_roundw
    case rel=>exact ⟨rfl,j+1,A5,mn2,c5,by go_num,by omega,HMN2,hB6,hm6,ht16⟩
    case measure=>simp [intOf];omega
  · obtain rfl:j=n:=by omega
    rw [zip (by rw [HXL.out];exact zic _)] at hmj HMN
    have wv:IntKind.i64.wrap (h3.ver+(j:Int))=h3.ver+(j:Int):=ziI _ (by omega)
    obtain ⟨q0,f0⟩:=hBh.rules;have t0:=hBh.lt;go_upto_region 17 with fail;refine cF (K:=fun W=>Code.wp _ _ _ _ W) hBh 13 _ ?_
    intro w6 hs6 ht6 hB6;have T:=ht.trans ht6;have hr:=HR3.out;obtain ⟨hf,hhf⟩:∃ hf,zgr h3 (sH xs h3.m) j=hf:=⟨_,rfl⟩;rw [hhf] at hr;have hBh6:Blk w6 (w.heap.size+1) 37 (hoC hf (.slice Ao3 h3.own.length co3) (.slice As3 h3.s.length cs3) (.slice Ab3 h3.p.buf.length cb3) (.slice Al3 h3.p.l.length cl3) (.slice Amj mn cmj)):=by subst hhf;exact hB6
    have b1:=b1.turned T kh;have b2:=b2.turned T kh;have b3:=b3.turned T kh;have b4:=b4.turned T kh;have b6:=b6.turned T kh;have b5:=hmj.turned ht6 kh;have hR1:=hR1.turned T (show ¬w.heap.size+1+1=w.heap.size+1 by omega)
    have hR2:=hR2.turned T (show ¬w.heap.size+1+1+1=w.heap.size+1 by omega)
    have hBd:=hB3.turned T (show ¬w.heap.size=w.heap.size+1 by omega)
    have hb6:=hb4.trans (T.below (fun k hk=>by omega) hb4.size)
    have hff:hf.own=h3.own∧hf.s=h3.s∧hf.p=h3.p∧hf.m=sH xs h3.m:=by subst hhf;exact ⟨rfl,rfl,rfl,rfl⟩
    have HFF:=zia hff;subst hr;clear hB6 hBh hmj q0 f0 t0 ht ht6 T hB4 hb4 hhf hff HR3 wv n0;go_cut [8] (fun x8 wx=>x8=.int .i64 0∧Blk wx (w.heap.size+1+1) 26 #[.int .i64 d3.cap,.int .i64 d3.opn,.int .i64 d3.act,.slice A3 d3.z.length c3]∧Blk wx (w.heap.size+1+1+1) 37 (hoC hf (.slice Ao3 h3.own.length co3) (.slice As3 h3.s.length cs3) (.slice Ab3 h3.p.buf.length cb3) (.slice Al3 h3.p.l.length cl3) (.slice Amj mn cmj))∧aA w6 wx (fun b=>b=w.heap.size+1+1∨b=w.heap.size+1+1+1))
    case first=>
     have hb0:aA w6 w6.drew (fun b=>b=w.heap.size+1+1∨b=w.heap.size+1+1+1):=(aA.refl _ _).drew
     have HK:Hid (∀ W,aA w6 W (fun b=>b=w.heap.size+1+1∨b=w.heap.size+1+1+1)→(∀ o,W.cell? ⟨w.heap.size,o,none⟩=(#[.int .i64 d3.cap,.int .i64 d3.opn,.int .i64 d3.act,.slice A3 d3.z.length c3]:Array Value)[o]?)∧(∀ o,W.cell? ⟨w.heap.size+1,o,none⟩=((hoC hf (.slice Ao3 h3.own.length co3) (.slice As3 h3.s.length cs3) (.slice Ab3 h3.p.buf.length cb3) (.slice Al3 h3.p.l.length cl3) (.slice Amj mn cmj)):Array Value)[o]?)):=zia fun W ht=>⟨(hBd.turned ht (by omega)).rules.1,(hBh6.turned ht (by omega)).rules.1⟩
     refine wp_region_held_drew (S:=fun W=>(∀ o,W.cell? ⟨w.heap.size,o,none⟩=(#[.int .i64 d3.cap,.int .i64 d3.opn,.int .i64 d3.act,.slice A3 d3.z.length c3]:Array Value)[o]?)∧(∀ o,W.cell? ⟨w.heap.size+1,o,none⟩=((hoC hf (.slice Ao3 h3.own.length co3) (.slice As3 h3.s.length cs3) (.slice Ab3 h3.p.buf.length cb3) (.slice Al3 h3.p.l.length cl3) (.slice Amj mn cmj)):Array Value)[o]?)) (by kernel_rfl) (HK.out _ hb0) (fun hHeld=>?_)
     replace hR1:=hR1.drew;replace hR2:=hR2.drew;have hbx:=hb0;generalize w6.drew=wx at hbx hR1 hR2 hHeld ⊢;refine wT 0 81 ?_;refine wT 1 82 ?_;refine wRn 2 (fun K hK=>?_)
     obtain ⟨q0,f0⟩:=hR1.rules;have t0:=hR1.lt;go_simp;refine dI (K:=K _) hR1 _ _ _ _ ?_;intro wx hsx htx hR1';replace hbx:=hbx.trans (htx.mono fun b hb=>.inl hb)
     replace hR2:=hR2.turned htx (show ¬w.heap.size+1+1+1=w.heap.size+1+1 by omega)
     clear q0 f0 t0 hR1 htx hsx;have hR1:=hR1';refine hK.out _ _ (HK.out _ hbx) (fun hHeld=>?_)
     clear hK K;try simp only [pu,List.set]
     refine wRn 3 (fun K hK=>?_)
     obtain ⟨q0,f0⟩:=hR2.rules;have t0:=hR2.lt;go_simp;refine eV (K:=K _) hR2 _ _ _ _ _ _ _ _ _ _ _ _ _ _ _ ?_;intro wx hsx htx hR2';replace hbx:=hbx.trans (htx.mono fun b hb=>.inr hb)
     replace hR1:=hR1.turned htx (show ¬w.heap.size+1+1=w.heap.size+1+1+1 by omega)
     clear q0 f0 t0 hR2 htx hsx;have hR2:=hR2';refine hK.out _ _ (HK.out _ hbx) (fun hHeld=>?_)
     clear hK K;refine wT 4 8 ?_;refine wpAnyH_done (by kernel_rfl) ?_ _
     go_wp2_with fail;go_meet;exact ⟨rfl,hR1,hR2,hbx⟩
    case rest=>
     obtain ⟨rfl,hR1,hR2,hbx⟩:=hcut;obtain ⟨q2,f2⟩:=hR1.rules;obtain ⟨q3,f3⟩:=hR2.rules;go_wp2;refine zik (v:=.tuple #[.agg #[.int .i64 d3.cap,.int .i64 d3.opn,.int .i64 d3.act,.slice A3 d3.z.length c3],.agg (hoC hf (.slice Ao3 h3.own.length co3) (.slice As3 h3.s.length cs3) (.slice Ab3 h3.p.buf.length cb3) (.slice Al3 h3.p.l.length cl3) (.slice Amj mn cmj)),.int .i64 0]) (by simp [results,Tryz.results15,go_sem,q2,q3]) rfl ⟨_,_,rfl,⟨⟨A3,c3,rfl,(b6.turned hbx fun b hb=>(KK.out b hb).2.1).more fun b hb=>(KK.out b hb).2.2⟩,⟨_,_,_,_,_,rfl,by rw [HFF.out.1];exact (b1.turned hbx fun b hb=>(KK.out b hb).2.1).more fun b hb=>(KK.out b hb).2.2,by rw [HFF.out.2.1];exact (b2.turned hbx fun b hb=>(KK.out b hb).2.1).more fun b hb=>(KK.out b hb).2.2,by rw [HFF.out.2.2.1];exact (b3.turned hbx fun b hb=>(KK.out b hb).2.1).more fun b hb=>(KK.out b hb).2.2,by rw [HFF.out.2.2.1];exact (b4.turned hbx fun b hb=>(KK.out b hb).2.1).more fun b hb=>(KK.out b hb).2.2,by rw [HFF.out.2.2.2];exact (b5.turned hbx fun b hb=>(KK.out b hb).2.1).more fun b hb=>(KK.out b hb).2.2⟩⟩,hb6.trans (hbx.below (fun k hk=>by omega) hb6.size)⟩
theorem kM (d:Zd) (Az:Option Addr) (cz:Nat) (h:Ho) (v:Value) (A:Option Addr) (c:Nat) (l:List Io) (K Kl:Nat→Prop) (w:World) (hz:IsL Rp.zone w K (.slice Az d.z.length cz) d.z) (hv:aY w K v h) (hl:IsL Rp.io w Kl (.slice A l.length c) l) (hK:∀ b,K b→b<w.heap.size)
 (hd:okD d) (ho:zdT h) (hs:eB h) (hvr:0≤h.ver∧h.ver≤100000000000) (hll:l.length≤100000) (hne:l≠[]) (hgood:rE h.s l=0→eY (bE h.ver l)=0)
 (hmap:rE h.s l=0→(bP d h (bE h.ver l)).2.2.2=0→(bP d h (bE h.ver l)).2.1.p.zone≤1000000∧(bP d h (bE h.ver l)).2.1.ver≤100000000000∧0≤(bP d h (bE h.ver l)).2.1.ver∧zaP (pT (bP d h (bE h.ver l)).2.1 (bE h.ver l) (bP d h (bE h.ver l)).2.2.1) (bP d h (bE h.ver l)).2.1.m) :
 Calls Tryz.prog 15 #[.agg #[.int .i64 d.cap,.int .i64 d.opn,.int .i64 d.act,.slice Az d.z.length cz],v,.slice A l.length c] w fun e w'=>∃ dv vh,e=.returned (.tuple #[dv,vh,.int .i64 (bJ d h l).2.2])∧mG w' (fun b=>K b∨w.heap.size≤b) dv vh (bJ d h l).1 (bJ d h l).2.1∧Below w.heap.size w w':=by
 by_cases h0:rE h.s l=0
 · by_cases h3:(bP d h (bE h.ver l)).2.2.2=0
   · exact zaN d Az cz h v A c l K Kl w hz hv hl hK hd ho hs hvr hll hne hgood h0 h3 (hmap h0 h3)
   · exact rA d Az cz h v A c l K Kl w hz hv hl hK hd ho hs hvr hll hne hgood (fun _=>h3)
 · exact rA d Az cz h v A c l K Kl w hz hv hl hK hd ho hs hvr hll hne hgood (fun h=>absurd h h0)
