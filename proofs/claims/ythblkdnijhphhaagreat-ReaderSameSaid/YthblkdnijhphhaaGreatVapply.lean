/- A part of the proof. -/
import Derived.Test.YthblkdnijhphhaaGreatVmap
import Derived.Test.YthblkdnijhphhaaGreatExtPut
import Derived.Test.YthblkdnijhphhaaGreatFill16
import Derived.Laws.EntriesVeiled
set_option maxHeartbeats 8000000
set_option maxRecDepth 100000
namespace Go.Proofs.YthblkdnijhphhaaGreat
open Go.RowKit
def step1 (m:List Ex) (e:Ex):List Ex:=putE m (zgU m e)
def zez (m l:List Ex):List Ex:=l.foldl step1 m
theorem zl0 (m:List Ex) (e:Ex):zam m e=zez (joinE m) [e]:=rfl
theorem zi5 {m:List Ex} {e:Ex} (h:za2 0 m) (he:mayE e):za2 0 (step1 m e):=(zck (zcQ h fun w hw=>((zge h he).1 w hw).1)).1
theorem zeF:∀ {l m:List Ex},za2 0 m→(∀ e∈l,mayE e)→za2 0 (zez m l)
 | [],_,h,_=>h
 | e::_,m,h,hm=>zeF (m:=step1 m e) (zi5 h (hm e (List.mem_cons_self ..))) fun x hx=>hm x (List.mem_cons_of_mem _ hx)
def newP (m:List Ex) (e:Ex) (lk:List Ex):List Ex:=(lk.filter (newE m e)).map fun p=>withinE e p.lba p.n
theorem zlz (m:List Ex) (e:Ex) (lk:List Ex) (p:Ex):newP m e (lk++[p])=newP m e lk++if newE m e p=true then [withinE e p.lba p.n] else []:=by
 unfold newP;rw [List.filter_append,List.map_append];congr 1
 by_cases h:newE m e p=true
 · rw [if_pos h,List.filter_cons,if_pos h];rfl
 · rw [if_neg h,List.filter_cons,if_neg h];rfl
theorem zjO (A:Option Addr) (c:Nat) (m:List Ex) (Al:Option Addr) (cl:Nat) (l:List Ex) (K K2:Nat→Prop) (w:World) (hv:IsL Rp.ex w K (.slice A m.length c) m) (hch:za2 0 m)
 (hl:IsL Rp.ex w K2 (.slice Al l.length cl) l) (hm:∀ e∈l,mayE e) (hfew:∀ k,k≤l.length→(zez (joinE m) (l.take k)).length≤10000) :
 Calls Tryz.prog 82 #[.slice A m.length c,.slice Al l.length cl] w fun x w'=>
  ∃ Ao co,x=.returned (.tuple #[.slice Ao (zez (joinE m) l).length co,.int .i64 0]) ∧
    IsL Rp.ex w' (fun b=>w.heap.size≤b) (.slice Ao (zez (joinE m) l).length co) (zez (joinE m) l)∧Below w.heap.size w w':=by
 obtain ⟨i0,hi,hz0,hz1,hz2⟩:=info_parts Tryz.infX;have hlen:=hl.len;have jc:=(zck hch).1;have hcj:=fun w hv=>zeJ A c m K w hv hch
 generalize joinE m=jm at *;have HCJ:=Lib.hid hcj;have HJC:=Lib.hid jc;have HM:=Lib.hid hm;have HFEW:=Lib.hid hfew;have HL:=Lib.hid hl;clear hcj jc hm hfew hch;obtain ⟨res,hres⟩:∃ res,zez jm l=res:=⟨_,rfl⟩;rw [hres];have HRES:=Lib.hid hres;clear hres;obtain ⟨ln,hln⟩:∃ ln,l.length=ln:=⟨_,rfl⟩;rw [hln] at hlen hl ⊢;have HLN:=Lib.hid hln;clear hln;go_enter Tryz.func82,Tryz.ntmps82
 go_wp2_with fail;refine (HCJ.out _ hv).mono ?_;rintro x w1 ⟨A1,c1,rfl,own1,hb1⟩;have hL1:=zaA own1 rfl (by have:=zby HJC.out;omega)
 clear own1;go_wp2_with fail;go_loopw [0,7,8,9,10,12,13,14,19] (fun x0 x7 x8 x9 x10 x12 x13 x14 x19 wr=>∃ (j nm:Nat) (Am:Option Addr) (cm:Nat) (mm:List Ex),x0=.slice Am nm cm∧x19=.int .i64 j∧j≤ln∧Hid (mm=zez jm (l.take j)∧nm=mm.length) ∧
  IsL Rp.ex wr (fun b=>w.heap.size≤b) (.slice Am nm cm) mm∧Below w.heap.size w wr∧(∃ y,x7=y)∧(∃ y,x8=y)∧(∃ y,x9=y)∧(∃ y,x10=y)∧(∃ y,x12=y)∧(∃ y,x13=y)∧∃ y,x14=y) (fun _ _ _ _ _ _ _ _ x19 _=>ln-(intOf x19).toNat)
 case atStart=>exact ⟨0,_,A1,c1,jm,rfl,rfl,Nat.zero_le _,Lib.hid ⟨rfl,rfl⟩,hL1,hb1,⟨_,rfl⟩,⟨_,rfl⟩,⟨_,rfl⟩,⟨_,rfl⟩,⟨_,rfl⟩,⟨_,rfl⟩,_,rfl⟩
 case round=>
  obtain ⟨j,nm,Am,cm,mm,rfl,rfl,hj,HMM,hLm,hb,⟨y7,rfl⟩,⟨y8,rfl⟩,⟨y9,rfl⟩,⟨y10,rfl⟩,⟨y12,rfl⟩,⟨y13,rfl⟩,y14,rfl⟩:=hrel;have hsz:=hb.size;by_cases hlt:j<ln
  case neg=>
   obtain rfl:j=ln:=by omega
   obtain ⟨h1,h2⟩:=HMM.out;have h3:mm=res:=by rw [h1,←HLN.out,List.take_length];exact HRES.out
   subst h3;subst h2;clear HMM h1 HRES;go_wp2;go_ret2;exact ⟨Am,cm,rfl,hLm,hb⟩
  obtain ⟨e,he⟩:∃ e,l[j]?=some e:=⟨_,List.getElem?_eq_getElem (by rw [HLN.out];exact hlt)⟩
  have hem:=HM.out e (List.mem_of_getElem? he);obtain ⟨ad,rfl,-,c0,c1',c2,c3,c4⟩:=zb9 (HL.out.step hb) he;have j1:(j:Int)<(ln:Int):=by omega
  have j0:(0:Int)≤(j:Int):=by omega
  obtain ⟨h1,h2⟩:=HMM.out;subst h2;have hmc:za2 0 mm:=by rw [h1];exact zeF HJC.out fun x hx=>HM.out x (List.mem_of_mem_take hx)
  have hnx:zez jm (l.take (j+1))=step1 mm e:=by rw [zdo l he];unfold zez;rw [List.foldl_append];unfold zez at h1;rw [←h1];rfl
  have hfw:(step1 mm e).length≤10000:=by rw [←hnx];exact HFEW.out (j+1) (by rw [HLN.out];omega)
  have hst:step1 mm e=putE mm (newP mm e (lookE mm e.lba e.n)):=rfl;have hnm:∀ x∈newP mm e (lookE mm e.lba e.n),mayE x:=fun x hx=>((zge hmc hem).1 x hx).1
  have hlb:∀ p∈lookE mm e.lba e.n,0<p.n∧e.lba≤p.lba∧endE p≤e.lba+e.n:=fun p hp=>by
   obtain ⟨q1,q2,q3,_⟩:=(zc3 hmc hem.1).1 p hp;exact ⟨q1,q2,q3⟩
  have hlk40:(lookE mm e.lba e.n).length≤2199023255553:=by
   obtain ⟨p1,p2,_⟩:=zbJ hmc hem.1;have hpl:=zbj p1;have h3:=(zdI (partE mm e.lba e.n) e.lba (e.lba+e.n)).length_eq;have h4:=zdv (e.lba+e.n) (partE mm e.lba e.n) [] e.lba;rw [List.nil_append] at h4;rw [h4,List.length_append,List.length_append] at h3;have h5:=zdR (partE mm e.lba e.n) ([],e.lba);have h6:=zgb ((partE mm e.lba e.n).foldl zcK ([],e.lba)).2 (e.lba+e.n);have h7:=hem.1.2.2.1;simp only [List.length_nil] at h5;show (zbI e.lba (partE mm e.lba e.n) (e.lba+e.n)).length≤_;omega
  have hcl:=fun w hv=>zf1 Am cm mm e.lba e.n (fun _=>True) w hv hmc hem.1
  generalize lookE mm e.lba e.n=lk at *;obtain ⟨lk',hlkn⟩:∃ n,lk.length=n:=⟨_,rfl⟩;rw [hlkn] at hcl hlk40;have HLKN:=Lib.hid hlkn;clear hlkn;have HCL:=Lib.hid hcl;have HNX:=Lib.hid hnx;have HST:=Lib.hid hst;have HNM:=Lib.hid hnm;have HLB:=Lib.hid hlb;have HMC:=Lib.hid hmc;have HFW:=Lib.hid hfw;have HEM:=Lib.hid hem;clear hcl hnx hst hnm hlb hmc hfw h1 HMM he;go_wp2_with fail;refine (HCL.out _ ((hLm.alloc _).more fun _ _=>trivial)).mono ?_
  rintro x w2 ⟨Ak,ck,rfl,own2,hb2⟩;clear c0 c1' c2 c3 c4;have hLk:=zaA own2 HLKN.out (by omega)
  have E:=((((Kn.from_ hb hsz).give za1.list hLm).push 85 (exC e)).step hb2).give za1.list hLk;clear own2 hLk hb2;have hsz2:=E.below.size;go_wp2_with fail;go_loopw [10,12,13,14,37] (fun x10 x12 x13 x14 x37 wi=>∃ (i t:Nat) (An:Option Addr) (cn:Nat),x10=.slice An t cn∧x37=.int .i64 i∧i≤lk'∧Hid ((newP mm e (lk.take i)).length=t)∧t≤i∧wi.ownsRow w2.heap.size 85 5 (.slice An t cn) t (exLs (newP mm e (lk.take i)))∧Below w2.heap.size w2 wi∧(∃ y,x12=y)∧(∃ y,x13=y)∧∃ y,x14=y) (fun _ _ _ _ x37 _=>lk'-(intOf x37).toNat)
  case atStart=>exact ⟨0,0,none,0,rfl,rfl,Nat.zero_le _,Lib.hid rfl,Nat.le_refl _,World.ownsRow_nil _ _ _ _,Below.refl _ _,⟨_,rfl⟩,⟨_,rfl⟩,_,rfl⟩
  case round=>
   obtain ⟨i,t,An,cn,rfl,rfl,hi',HT,hti,own3,hb3,⟨y12',rfl⟩,⟨y13',rfl⟩,y14',rfl⟩:=hrel;have hsi:=hb3.size;have E3:=E.step hb3;by_cases hlt2:i<lk'
   case neg=>
    obtain rfl:i=lk':=by omega
    have hnp:newP mm e (lk.take i)=newP mm e lk:=by rw [List.take_of_length_le (by rw [HLKN.out];exact Nat.le_refl _)]
    rw [hnp] at HT own3;have hLn:=zaA own3 HT.out (by omega)
    have hcp:=fun w hv hw=>ziD Am cm mm An cn (newP mm e lk) (fun _=>True) (fun _=>True) w hv HMC.out hw HNM.out (by rw [←HST.out];exact HFW.out)
    rw [HT.out,←HST.out] at hcp;have HCP:=Lib.hid hcp;clear hcp own3 hnp;have hm1:=(E3.get m1);have hbw:=E3.below;have hszw:=hbw.size;go_wp2_with fail;refine (HCP.out _ (hm1.more fun _ _=>trivial) (hLn.more fun _ _=>trivial)).mono ?_
    rintro x w5 ⟨A5,c5,rfl,own5,hb5⟩;have hL5:IsL Rp.ex w5 (fun b=>w.heap.size≤b) (.slice A5 (step1 mm e).length c5) (step1 mm e):=(zaA own5 rfl (by have:=HFW.out;omega)).more fun b hb=>by omega
    have hb6:=hbw.trans (hb5.mono hszw);have HNX2:=HNX.out;have HS:=Lib.hid HNX2;clear own5 hb5 HNX2 HNX HST HFW HT hLn hm1 E3 E;generalize step1 mm e=m2 at *;go_wp2;go_roundw
    case rel=>exact ⟨j+1,m2.length,A5,c5,m2,rfl,by go_num,by omega,Lib.hid ⟨HS.out.symm,rfl⟩,hL5,hb6,⟨_,rfl⟩,⟨_,rfl⟩,⟨_,rfl⟩,⟨_,rfl⟩,⟨_,rfl⟩,⟨_,rfl⟩,_,rfl⟩
    case measure=>simp [intOf];omega
   obtain ⟨p,hp⟩:∃ p,lk[i]?=some p:=⟨_,List.getElem?_eq_getElem (by rw [HLKN.out];exact hlt2)⟩
   obtain ⟨p1,p2,p3⟩:=HLB.out p (List.mem_of_getElem? hp);have hpb:za9 p.lba 1:=by
    have:=HEM.out.1;unfold za9 at this ⊢;unfold endE at p3;omega
   obtain ⟨ad2,rfl,-,c0,c1',c2,c3,c4⟩:=zb9 (E3.get m0) hp;have i1':(i:Int)<(lk':Int):=by omega
   have i0':(0:Int)≤(i:Int):=by omega
   have hns:=zlz mm e (lk.take i) p;rw [←zdo lk hp] at hns;have hca:=fun w hv=>zoe Am cm mm p.lba (fun _=>True) w hv HMC.out hpb
   have hq:newE mm e p=(!(atE mm p.lba).2 || decide (p.ver<e.ver)):=by
    unfold newE atE;cases see mm p.lba <;> simp
   generalize newE mm e p=q at hq hns;generalize atE mm p.lba=r at hq hca;obtain ⟨re,rb⟩:=r;simp only at hq;have HCA:=Lib.hid hca;have HQ:=Lib.hid hq;have HNS:=Lib.hid hns;clear hca hq hns hp;go_wp2_with fail;refine (HCA.out _ (((E3.get m1).alloc _).more fun _ _=>trivial)).mono ?_
   rintro x w4 ⟨rfl,hb4⟩;clear c0 c1' c2 c3 c4;have E5:=((E3.push 85 (exC p)).step hb4).push 85 (exC re);have own4:=za4 (own3.alloc (.cells (exC p) 85)) hb4 (Nat.le_refl _);have own5:=own4.alloc (.cells (exC re) 85);have hb5:=((hb3.alloc hsi (.cells (exC p) 85)).trans (hb4.mono (by rw [World.size_alloc];omega)))
   have hb6:=hb5.alloc hb5.size (.cells (exC re) 85);clear own3 own4 hb5 hb4 E3;go_upto_region 13 with fail;generalize hw5:w4.alloc (.cells #[.int .i64 re.lba,.int .i64 re.n,.int .i64 re.ver,.int .i64 re.zone,.int .i64 re.off] 85)=w5 at E5 own5 hb6 ⊢;clear hw5;obtain ⟨qp,fp,tp⟩:=E5.rules m1;obtain ⟨qe,fe,te⟩:=E5.rules m2;have hs5:=hb6.size;go_cut [56] (fun x56 wx=>x56=.bool q∧wx=w5)
   case first=>
    have hq:=HQ.out;cases rb with
    | false=>
      simp only [Bool.not_false,Bool.true_or] at hq;subst hq;clear HQ;go_wp2;go_meet;exact ⟨rfl,rfl⟩
    | true=>
      simp only [Bool.not_true,Bool.false_or] at hq;have HQ2:=Lib.hid hq;clear HQ hq;go_wp2;go_meet;exact ⟨by rw [HQ2.out],rfl⟩
   case rest=>
    obtain ⟨rfl,rfl⟩:=hcut;cases q with
    | false=>
      have hns:=HNS.out;rw [if_neg (by simp),List.append_nil] at hns
      have HN2:=Lib.hid hns;clear HNS hns;go_wp2;go_roundw
      case rel=>exact ⟨i+1,t,An,cn,rfl,by go_num,by omega,Lib.hid (by rw [HN2.out];exact HT.out),by omega,by rw [HN2.out];exact own5,hb6,⟨_,rfl⟩,⟨_,rfl⟩,_,rfl⟩
      case measure=>simp [intOf];omega
    | true=>
      have hns:=HNS.out;rw [if_pos rfl] at hns;have HN2:=Lib.hid hns;clear HNS hns;have hpb2:=hpb;unfold za9 at hpb2;go_wp2_with fail;refine (zdi e p.lba p.n _ HEM.out.ok (by omega)).mono ?_
      rintro x w7 ⟨rfl,hb7⟩;clear qp fp tp qe fe te;have own7:=za4 own5 hb7 (Nat.le_refl _);have hs7:=hb7.size;generalize withinE e p.lba p.n=y at HN2 ⊢;go_wp2_with (at_builtin;refine za5 rfl _ _ _ rfl w2.heap.size 85 i0 _ 5 40 Tryz.underlying36 hi hz0 hz1 hz2 rfl (by omega) rfl (own7.alloc _) rfl (za6.new (xs:=exCs y) (n:=1) rfl rfl rfl) (by intro u hu;exact zav [y] u (by simpa [exLs] using hu)) (by simp only [maxLen];omega) (by omega) (by rw [World.size_alloc];omega) ?_;intro A8 c8 w8 own8 hg8)
      go_roundw
      case rel=>
       refine ⟨i+1,t+1,A8,c8,rfl,by go_num,by omega,Lib.hid (by rw [HN2.out,List.length_append,HT.out];rfl),by omega,by rw [HN2.out,zbl];exact own8,?_,⟨_,rfl⟩,⟨_,rfl⟩,_,rfl⟩
       exact ((hb6.trans (hb7.mono hs5)).alloc (by omega) (.cells (exC y) 85)).trans (hg8.below.mono (Nat.le_refl _))
      case measure=>simp [intOf];omega
theorem ziV (g:Nat) (e:Ex) (w:World) (hB:Blk w g 85 (exC e)) (hm:mayE e) :
 Calls Tryz.prog 76 #[.pointer (some ⟨g,0,none⟩)] w fun x w'=>∃ g',x=.returned (.tuple #[.slice (some ⟨g',0,none⟩) 1 1,.int .i64 0])∧w.heap.size≤g'∧IsL Rp.ex w' (fun b=>w.heap.size≤b) (.slice (some ⟨g',0,none⟩) 1 1) [e]∧Below w.heap.size w w':=by
 obtain ⟨q0,f0⟩:=hB.rules;have t0:=hB.lt;have hd:decide (mayE e)=true:=decide_eq_true hm;go_enter Tryz.func76,Tryz.ntmps76
 go_wp2_with fail;refine (zgf e _).mono ?_;rintro x w2 ⟨rfl,hb2⟩;rw [hd];have hB2:=hB.step hb2;clear q0 f0 t0 hd hm;obtain ⟨q0,f0⟩:=hB2.rules;have t0:=hB2.lt;have hs2:=hb2.size;go_wp2;go_ret2;exact ⟨w2.heap.size,rfl,hs2,(zkg w2 e rfl).more fun b hb=>by omega,hb2.alloc hs2 _⟩
theorem zlr (g gf:Nat) (e:Ex) (w:World) (hB:Blk w g 85 (exC e)) (hF:Blk w gf 165 #[.func (.func 76) #[] #[.pointer (some ⟨g,0,none⟩)]]) (hm:mayE ⟨e.lba,e.n,e.ver,-1,0⟩) :
 Calls Tryz.prog 78 #[.pointer (some ⟨g,0,none⟩),.pointer (some ⟨gf,0,none⟩)] w fun x w'=>∃ g',x=.returned (.tuple #[.slice (some ⟨g',0,none⟩) 1 1,.int .i64 0])∧w.heap.size≤g'∧IsL Rp.ex w' (fun b=>w.heap.size≤b) (.slice (some ⟨g',0,none⟩) 1 1) [⟨e.lba,e.n,e.ver,-1,0⟩]∧za0 w w' (fun b=>b=g):=by
 obtain ⟨q0,f0⟩:=hB.rules;have t0:=hB.lt;obtain ⟨q1,f1⟩:=hF.rules;have t1:=hF.lt;have hne:gf≠g:=Blk.ne_ hF hB (by decide)
 have hB1:Blk ((w.setCell ⟨g,3,none⟩ (.int .i64 (-1))).setCell ⟨g,4,none⟩ (.int .i64 0)) g 85 (exC ⟨e.lba,e.n,e.ver,-1,0⟩):=(hB.set_ 3 _).set_ 4 _;have hF1:=(hF.far (p:=⟨g,3,none⟩) hne (.int .i64 (-1))).far (p:=⟨g,4,none⟩) hne (.int .i64 0);have ht:=((za0.refl w (fun b=>b=g)).set (g:=g) rfl 3 (.int .i64 (-1))).set (g:=g) rfl 4 (.int .i64 0)
 go_enter Tryz.func78,Tryz.ntmps78
 go_upto_region 2 with fail;generalize hw1:(w.setCell ⟨g,3,none⟩ (.int .i64 (-1))).setCell ⟨g,4,none⟩ (.int .i64 0)=w1 at hB1 hF1 ht ⊢;clear hw1 q0 f0 t0 q1 f1 t1;obtain ⟨q1,f1⟩:=hF1.rules;have t1:=hF1.lt;go_wp2_with fail;refine (ziV g _ _ hB1 hm).mono ?_;rintro x w2 ⟨g',rfl,hg',hL,hb2⟩;have hs:=ht.size;go_wp2;go_ret2;exact ⟨g',rfl,Nat.le_trans hs hg',hL.more fun b hb=>Nat.le_trans hs hb,ht.step hb2⟩
theorem IsL.exlt {w:World} {K:Nat→Prop} {v:Value} {l:List Ex} (h:IsL Rp.ex w K v l):IsL Rp.ex w (fun b=>b<w.heap.size) v l:=by
 obtain ⟨A,c,cs,e,h1,h2,h3⟩:=h;exact ⟨A,c,cs,e,(h1.lt (show 0<5 by decide)).more fun b hb=>hb.2,zbv.2 (zbv.1 h2),h3⟩
abbrev zkI (gr ge gf:Nat):List (Int × Value):=[(1,.func (.func 76) #[] #[.pointer (some ⟨ge,0,none⟩)]),(5,.func (.func 76) #[] #[.pointer (some ⟨ge,0,none⟩)]),(2,.func (.func 78) #[] #[.pointer (some ⟨ge,0,none⟩),.pointer (some ⟨gf,0,none⟩)]),
 (3,.func (.func 79) #[] #[.pointer (some ⟨gr,0,none⟩),.pointer (some ⟨ge,0,none⟩),.pointer (some ⟨gf,0,none⟩)]),(4,.func (.func 80) #[] #[.pointer (some ⟨gr,0,none⟩)])]
theorem zfJ (A:Option Addr) (c:Nat) (m:List Ex) (r:Rc) (Ad:Option Addr) (cd:Nat) (zone off:Int) (K:Nat→Prop) (w:World) (hv:IsL Rp.ex w K (.slice A m.length c) m) (hch:za2 0 m)
 (hr:OkRc r) (hl47:r.data.length≤140737488355328) (hck:checkL r=0) (hk:r.kind=1∨r.kind=2∨r.kind=5) (hz:0≤zone) (ho:0≤off∧off≤1099511627776) (hm:mayE (zbZ r zone off))
 (hfew:(joinE m).length≤10000∧(zam m (zbZ r zone off)).length≤10000) :
 Calls Tryz.prog 34 #[.slice A m.length c,rcV r (.slice Ad r.data.length cd),.int .i64 zone,.int .i64 off] w fun x w'=>
  ∃ Ao co,x=.returned (.tuple #[.slice Ao (zam m (zbZ r zone off)).length co,.int .i64 0])∧IsL Rp.ex w' (fun b=>w.heap.size≤b) (.slice Ao (zam m (zbZ r zone off)).length co) (zam m (zbZ r zone off))∧Below w.heap.size w w':=by
 have hc:chkE m=0:=by unfold chkE;rw [if_pos hch]
 have hcc:=fun w hv=>zaV (.slice A m.length c) m K w hv
 rw [hc] at hcc;have hcs:=fun w=>zhK r Ad cd w hr hl47
 rw [hck] at hcs;have hco:=fun w A2 hv hl=>zjO A c m A2 1 [zbZ r zone off] (fun _=>True) (fun _=>True) w hv hch hl (by intro e he;simp only [List.mem_singleton] at he;subst he;exact hm) (by
  intro k hk;rcases k with _ | k
  · exact hfew.1
  · have:k=0:=by simpa using hk
    subst this;exact hfew.2)
 rw [←zl0] at hco;obtain ⟨x,hx⟩:∃ x,zbZ r zone off=x:=⟨_,rfl⟩;rw [hx] at hm hco hfew ⊢;obtain ⟨mo,hmo⟩:∃ mo,zam m x=mo:=⟨_,rfl⟩;rw [hmo] at hco ⊢;have HCC:=Lib.hid hcc;have HCS:=Lib.hid hcs;have HCO:=Lib.hid hco;have HX:=Lib.hid hx;have HM:=Lib.hid hm;have HK:=Lib.hid hk;clear hcc hcs hco hx hm hk hck hc hmo hfew hch;unfold rcV at HCS ⊢;have E:=((Kn.start w).give za1.list hv.exlt).push 109 #[.int .i64 r.kind,.int .i64 r.lba,.int .i64 r.n,.int .i64 r.ver,.int .i64 r.zone,.int .i64 r.off,.slice Ad r.data.length cd];go_enter Tryz.func34,Tryz.ntmps34
 go_wp2_with fail;refine (HCC.out _ (hv.alloc _)).mono ?_;rintro x w1 ⟨rfl,hb1⟩;replace E:=E.step hb1;obtain ⟨q0,f0,t0⟩:=E.rules m0;go_wp2_with fail;refine (HCS.out _).mono ?_;rintro x w2 ⟨rfl,hb2⟩;replace E:=E.step hb2;have hs2:=E.below.size;clear q0 f0 t0 hb1 hb2;obtain ⟨q0,f0,t0⟩:=E.rules m0;go_upto_region 5 with fail;replace E:=(E.push 85 (exC ⟨r.lba,r.n,r.ver,zone,off⟩)).push 165 #[.func (.func 76) #[] #[.pointer (some ⟨w2.heap.size,0,none⟩)]];rw [World.size_alloc] at E;generalize hw3:(w2.alloc (.cells #[.int .i64 r.lba,.int .i64 r.n,.int .i64 r.ver,.int .i64 zone,.int .i64 off] 85)).alloc (.cells #[.func (.func 76) #[] #[.pointer (some ⟨w2.heap.size,0,none⟩)]] 165)=w3 at E ⊢;clear hw3 q0 f0 t0;have hM:=MapB.made (Below.refl w3.heap.size w3) (Nat.le_refl _);have hmm:=@run_makeMap Tryz.prog;have hF:=E.at_ m0;go_cut [12] (fun s7 wx=>∃ mb,s7=.map (some mb)∧MapB w3.heap.size w3 wx mb (zkI w.heap.size w2.heap.size (w2.heap.size+1)))
 case first=>
  obtain ⟨qf,ff⟩:=(hF.alloc (.map #[] 0)).rules;have tf:=(hF.alloc (.map #[] 0)).lt;go_wp2_with (refine zd8 rfl _ _ _ _ rfl 3 165 Tryz.underlying167 Tryz.underlying3 rfl hM _ _ rfl rfl (by simp) ?_;intro w9 hM;have hF9:=hF.step hM.below;obtain ⟨qf,ff⟩:=hF9.rules;have tf:=hF9.lt)
  go_meet;exact ⟨_,rfl,hM⟩
 case rest=>
  clear hM hF;obtain ⟨mb,rfl,hM⟩:=hcut;replace E:=E.step hM.below;obtain ⟨q0,f0,t0⟩:=E.rules m2;by_cases hk2:r.kind=2
  · have hval:valI .nilFunc (zkI w.heap.size w2.heap.size (w2.heap.size+1)) r.kind=.func (.func 78) #[] #[.pointer (some ⟨w2.heap.size,0,none⟩),.pointer (some ⟨w2.heap.size+1,0,none⟩)]:=by
     rw [hk2];rfl
    have hx:x=⟨r.lba,r.n,r.ver,-1,0⟩:=by rw [←HX.out];unfold zbZ;rw [if_pos hk2,if_pos hk2]
    have HV:=Lib.hid hval;clear hk2 hval HK;subst hx;go_wp2_with (refine zc0 rfl _ _ _ rfl 3 165 Tryz.underlying167 Tryz.underlying3 .nilFunc (by kernel_rfl) rfl hM r.kind rfl ?_;rw [HV.out])
    refine (zlr _ _ _ _ (E.at_ m1) (E.at_ m0) HM.out).mono ?_;rintro y w5 ⟨g5,rfl,hg5,hL5,ht5⟩;have hm5:=IsL.turned (E.get m0) ht5 (fun b hb h=>by omega)
    have hb5:=E.below.trans (ht5.below (B:=w.heap.size) (fun k hk=>by omega) E.below.size)
    have hs5:=hb5.size;clear q0 f0 t0 hM E;go_wp2_with fail;refine (HCO.out _ _ (hm5.more fun _ _=>trivial) (hL5.more fun _ _=>trivial)).mono ?_
    rintro y w6 ⟨A6,c6,rfl,hL6,hb6⟩;go_wp2;go_ret2;exact ⟨A6,c6,rfl,hL6.more fun b hb=>Nat.le_trans hs5 hb,hb5.trans (hb6.mono hs5)⟩
  · have hval:valI .nilFunc (zkI w.heap.size w2.heap.size (w2.heap.size+1)) r.kind=.func (.func 76) #[] #[.pointer (some ⟨w2.heap.size,0,none⟩)]:=by
     rcases HK.out with h | h | h
     · rw [h];rfl
     · exact absurd h hk2
     · rw [h];rfl
    have hx:x=⟨r.lba,r.n,r.ver,zone,off⟩:=by
     rw [←HX.out];unfold zbZ;have h3:¬r.kind=3:=by rcases HK.out with h | h | h <;> omega
     rw [if_neg hk2,if_neg hk2,if_neg h3,if_neg h3]
    have HV:=Lib.hid hval;clear hk2 hval HK;subst hx;go_wp2_with (refine zc0 rfl _ _ _ rfl 3 165 Tryz.underlying167 Tryz.underlying3 .nilFunc (by kernel_rfl) rfl hM r.kind rfl ?_;rw [HV.out])
    refine (ziV _ _ _ (E.at_ m1) HM.out).mono ?_;rintro y w5 ⟨g5,rfl,hg5,hL5,hb5⟩;replace E:=E.step hb5;have hb6:=E.below;have hs5:=hb6.size;clear q0 f0 t0 hM;go_wp2_with fail;refine (HCO.out _ _ ((E.get m0).more fun _ _=>trivial) (hL5.more fun _ _=>trivial)).mono ?_
    rintro y w6 ⟨A6,c6,rfl,hL6,hb6'⟩;clear E;go_wp2;go_ret2;exact ⟨A6,c6,rfl,hL6.more fun b hb=>Nat.le_trans hs5 hb,hb6.trans (hb6'.mono hs5)⟩
end Go.Proofs.YthblkdnijhphhaaGreat
