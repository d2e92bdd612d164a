/- A part of the proof. -/
import Derived.Laws.EntriesVeiled
import Derived.Test.YtcapmeefiglfjaaGreatReplayB
set_option maxHeartbeats 8000000
set_option maxRecDepth 100000
namespace Go.Proofs.YtcapmeefiglfjaaGreat
open Go.RowKit
def step1 (m:List Ex) (e:Ex):List Ex:=putE m (vJ m e)
def pJ (m l:List Ex):List Ex:=l.foldl step1 m
theorem zd4 (m:List Ex) (e:Ex):bC m e=pJ (joinE m) [e]:=rfl
theorem yQ {m:List Ex} {e:Ex} (h:aC 0 m) (he:bO e):aC 0 (step1 m e):=(gO (jR h fun w hw=>((sI h he).1 w hw).1)).1
theorem pN:∀ {l m:List Ex},aC 0 m→(∀ e∈l,bO e)→aC 0 (pJ m l)
 | [],_,h,_=>h
 | e::_,m,h,hm=>pN (m:=step1 m e) (yQ h (hm e (zih ..))) fun x hx=>hm x (zii _ hx)
def zdP (m:List Ex) (e:Ex) (lk:List Ex):List Ex:=(lk.filter (newE m e)).map fun p=>withinE e p.lba p.n
theorem zdi (m:List Ex) (e:Ex) (lk:List Ex) (p:Ex):zdP m e (lk++[p])=zdP m e lk++if newE m e p=true then [withinE e p.lba p.n] else []:=by
 unfold zdP;rw [zj8,ziZ];congr 1
 by_cases h:newE m e p=true
 · rw [zij h,zj9,zij h];rfl
 · rw [zig h,zj9,zig h];rfl
theorem zaE (A:Option Addr) (c:Nat) (m:List Ex) (Al:Option Addr) (cl:Nat) (l:List Ex) (K K2:Nat→Prop) (w:World) (hv:IsL Rp.ex w K (.slice A m.length c) m) (hch:aC 0 m)
 (hl:IsL Rp.ex w K2 (.slice Al l.length cl) l) (hm:∀ e∈l,bO e) (hfew:∀ k,k≤l.length→(pJ (joinE m) (l.take k)).length≤10000) :
 Calls Tryz.prog 95 #[.slice A m.length c,.slice Al l.length cl] w fun x w'=>
  ∃ Ao co,x=.returned (.tuple #[.slice Ao (pJ (joinE m) l).length co,.int .i64 0]) ∧
    IsL Rp.ex w' (fun b=>w.heap.size≤b) (.slice Ao (pJ (joinE m) l).length co) (pJ (joinE m) l)∧Below w.heap.size w w':=by
 obtain ⟨i0,hi,hz0,hz1,hz2⟩:=ziH Tryz.infX;have hlen:=hl.len;have jc:=(gO hch).1;have hcj:=fun w hv=>pB A c m K w hv hch
 generalize joinE m=jm at *;have HCJ:=zia hcj;have HJC:=zia jc;have HM:=zia hm;have HFEW:=zia hfew;have HL:=zia hl;clear hcj jc hm hfew hch;obtain ⟨res,hres⟩:∃ res,pJ jm l=res:=⟨_,rfl⟩;rw [hres];have HRES:=zia hres;clear hres;obtain ⟨ln,hln⟩:∃ ln,l.length=ln:=⟨_,rfl⟩;rw [hln] at hlen hl ⊢;have HLN:=zia hln;clear hln;go_enter Tryz.func95,Tryz.ntmps95
 go_wp2_with fail;refine (HCJ.out _ hv).mono ?_;rintro x w1 ⟨A1,c1,rfl,own1,hb1⟩;have hL1:=bI own1 rfl (by have:=eP HJC.out;omega)
 clear own1;go_wp2_with fail;go_loopw [0,7,8,9,10,12,13,14,19] (fun x0 x7 x8 x9 x10 x12 x13 x14 x19 wr=>∃ (j nm:Nat) (Am:Option Addr) (cm:Nat) (mm:List Ex),x0=.slice Am nm cm∧x19=.int .i64 j∧j≤ln∧Hid (mm=pJ jm (l.take j)∧nm=mm.length) ∧
  IsL Rp.ex wr (fun b=>w.heap.size≤b) (.slice Am nm cm) mm∧Below w.heap.size w wr∧(∃ y,x7=y)∧(∃ y,x8=y)∧(∃ y,x9=y)∧(∃ y,x10=y)∧(∃ y,x12=y)∧(∃ y,x13=y)∧∃ y,x14=y) (fun _ _ _ _ _ _ _ _ x19 _=>ln-(intOf x19).toNat)
 case atStart=>exact ⟨0,_,A1,c1,jm,rfl,rfl,zir _,zia ⟨rfl,rfl⟩,hL1,hb1,⟨_,rfl⟩,⟨_,rfl⟩,⟨_,rfl⟩,⟨_,rfl⟩,⟨_,rfl⟩,⟨_,rfl⟩,_,rfl⟩
 case round=>
  obtain ⟨j,nm,Am,cm,mm,rfl,rfl,hj,HMM,hLm,hb,⟨y7,rfl⟩,⟨y8,rfl⟩,⟨y9,rfl⟩,⟨y10,rfl⟩,⟨y12,rfl⟩,⟨y13,rfl⟩,y14,rfl⟩:=hrel;have hsz:=hb.size;by_cases hlt:j<ln
  case neg=>
   obtain rfl:j=ln:=by omega
   obtain ⟨h1,h2⟩:=HMM.out;have h3:mm=res:=by rw [h1,←HLN.out,ziQ];exact HRES.out
   subst h3;subst h2;clear HMM h1 HRES;go_wp2;go_ret2;exact ⟨Am,cm,rfl,hLm,hb⟩
  obtain ⟨e,he⟩:∃ e,l[j]?=some e:=⟨_,zib (by rw [HLN.out];exact hlt)⟩
  have hem:=HM.out e (zix he);obtain ⟨ad,rfl,-,c0,c1',c2,c3,c4⟩:=bY (HL.out.step hb) he;have j1:(j:Int)<(ln:Int):=by omega
  have j0:(0:Int)≤(j:Int):=by omega
  obtain ⟨h1,h2⟩:=HMM.out;subst h2;have hmc:aC 0 mm:=by rw [h1];exact pN HJC.out fun x hx=>HM.out x (zjh hx)
  have hnx:pJ jm (l.take (j+1))=step1 mm e:=by rw [gG l he];unfold pJ;rw [zjp];unfold pJ at h1;rw [←h1];rfl
  have hfw:(step1 mm e).length≤10000:=by rw [←hnx];exact HFEW.out (j+1) (by rw [HLN.out];omega)
  have hst:step1 mm e=putE mm (zdP mm e (lookE mm e.lba e.n)):=rfl;have hnm:∀ x∈zdP mm e (lookE mm e.lba e.n),bO x:=fun x hx=>((sI hmc hem).1 x hx).1
  have hlb:∀ p∈lookE mm e.lba e.n,0<p.n∧e.lba≤p.lba∧aL p≤e.lba+e.n:=fun p hp=>by
   obtain ⟨q1,q2,q3,_⟩:=(fI hmc hem.1).1 p hp;exact ⟨q1,q2,q3⟩
  have hlk40:(lookE mm e.lba e.n).length≤2199023255553:=by
   obtain ⟨p1,p2,_⟩:=dH hmc hem.1;have hpl:=cI p1;have h3:=(kY (partE mm e.lba e.n) e.lba (e.lba+e.n)).length_eq;have h4:=kR (e.lba+e.n) (partE mm e.lba e.n) [] e.lba;rw [List.nil_append] at h4;rw [h4,zie,zie] at h3;have h5:=kZ (partE mm e.lba e.n) ([],e.lba);have h6:=rL ((partE mm e.lba e.n).foldl iY ([],e.lba)).2 (e.lba+e.n);have h7:=hem.1.2.2.1;simp only [List.length_nil] at h5;show (dG e.lba (partE mm e.lba e.n) (e.lba+e.n)).length≤_;omega
  have hcl:=fun w hv=>pD Am cm mm e.lba e.n (fun _=>True) w hv hmc hem.1
  generalize lookE mm e.lba e.n=lk at *;obtain ⟨lk',hlkn⟩:∃ n,lk.length=n:=⟨_,rfl⟩;rw [hlkn] at hcl hlk40;have HLKN:=zia hlkn;clear hlkn;have HCL:=zia hcl;have HNX:=zia hnx;have HST:=zia hst;have HNM:=zia hnm;have HLB:=zia hlb;have HMC:=zia hmc;have HFW:=zia hfw;have HEM:=zia hem;clear hcl hnx hst hnm hlb hmc hfw h1 HMM he;go_wp2_with fail;refine (HCL.out _ ((hLm.alloc _).more fun _ _=>trivial)).mono ?_
  rintro x w2 ⟨Ak,ck,rfl,own2,hb2⟩;clear c0 c1' c2 c3 c4;have hLk:=bI own2 HLKN.out (by omega)
  have E:=((((Kn.from_ hb hsz).give aB.list hLm).push 90 (exC e)).step hb2).give aB.list hLk;clear own2 hLk hb2;have hsz2:=E.below.size;go_wp2_with fail;go_loopw [10,12,13,14,37] (fun x10 x12 x13 x14 x37 wi=>∃ (i t:Nat) (An:Option Addr) (cn:Nat),x10=.slice An t cn∧x37=.int .i64 i∧i≤lk'∧Hid ((zdP mm e (lk.take i)).length=t)∧t≤i∧wi.ownsRow w2.heap.size 90 5 (.slice An t cn) t (bB (zdP mm e (lk.take i)))∧Below w2.heap.size w2 wi∧(∃ y,x12=y)∧(∃ y,x13=y)∧∃ y,x14=y) (fun _ _ _ _ x37 _=>lk'-(intOf x37).toNat)
  case atStart=>exact ⟨0,0,none,0,rfl,rfl,zir _,zia rfl,zic _,zin _ _ _ _,zif _ _,⟨_,rfl⟩,⟨_,rfl⟩,_,rfl⟩
  case round=>
   obtain ⟨i,t,An,cn,rfl,rfl,hi',HT,hti,own3,hb3,⟨y12',rfl⟩,⟨y13',rfl⟩,y14',rfl⟩:=hrel;have hsi:=hb3.size;have E3:=E.step hb3;by_cases hlt2:i<lk'
   case neg=>
    obtain rfl:i=lk':=by omega
    have hnp:zdP mm e (lk.take i)=zdP mm e lk:=by rw [zip (by rw [HLKN.out];exact zic _)]
    rw [hnp] at HT own3;have hLn:=bI own3 HT.out (by omega)
    have hcp:=fun w hv hw=>zax Am cm mm An cn (zdP mm e lk) (fun _=>True) (fun _=>True) w hv HMC.out hw HNM.out (by rw [←HST.out];exact HFW.out)
    rw [HT.out,←HST.out] at hcp;have HCP:=zia hcp;clear hcp own3 hnp;have hm1:=(E3.get m1);have hbw:=E3.below;have hszw:=hbw.size;go_wp2_with fail;refine (HCP.out _ (hm1.more fun _ _=>trivial) (hLn.more fun _ _=>trivial)).mono ?_
    rintro x w5 ⟨A5,c5,rfl,own5,hb5⟩;have hL5:IsL Rp.ex w5 (fun b=>w.heap.size≤b) (.slice A5 (step1 mm e).length c5) (step1 mm e):=(bI own5 rfl (by have:=HFW.out;omega)).more fun b hb=>by omega
    have hb6:=hbw.trans (hb5.mono hszw);have HNX2:=HNX.out;have HS:=zia HNX2;clear own5 hb5 HNX2 HNX HST HFW HT hLn hm1 E3 E;generalize step1 mm e=m2 at *;go_wp2;go_roundw
    case rel=>exact ⟨j+1,m2.length,A5,c5,m2,rfl,by go_num,by omega,zia ⟨HS.out.symm,rfl⟩,hL5,hb6,⟨_,rfl⟩,⟨_,rfl⟩,⟨_,rfl⟩,⟨_,rfl⟩,⟨_,rfl⟩,⟨_,rfl⟩,_,rfl⟩
    case measure=>simp [intOf];omega
   obtain ⟨p,hp⟩:∃ p,lk[i]?=some p:=⟨_,zib (by rw [HLKN.out];exact hlt2)⟩
   obtain ⟨p1,p2,p3⟩:=HLB.out p (zix hp);have hpb:aJ p.lba 1:=by
    have:=HEM.out.1;unfold aJ at this ⊢;unfold aL at p3;omega
   obtain ⟨ad2,rfl,-,c0,c1',c2,c3,c4⟩:=bY (E3.get m0) hp;have i1':(i:Int)<(lk':Int):=by omega
   have i0':(0:Int)≤(i:Int):=by omega
   have hns:=zdi mm e (lk.take i) p;rw [←gG lk hp] at hns;have hca:=fun w hv=>zfT Am cm mm p.lba (fun _=>True) w hv HMC.out hpb
   have hq:newE mm e p=(!(atE mm p.lba).2 || decide (p.ver<e.ver)):=by
    unfold newE atE;cases see mm p.lba <;> simp
   generalize newE mm e p=q at hq hns;generalize atE mm p.lba=r at hq hca;obtain ⟨re,rb⟩:=r;simp only at hq;have HCA:=zia hca;have HQ:=zia hq;have HNS:=zia hns;clear hca hq hns hp;go_wp2_with fail;refine (HCA.out _ (((E3.get m1).alloc _).more fun _ _=>trivial)).mono ?_
   rintro x w4 ⟨rfl,hb4⟩;clear c0 c1' c2 c3 c4;have E5:=((E3.push 90 (exC p)).step hb4).push 90 (exC re);have own4:=aD (own3.alloc (.cells (exC p) 90)) hb4 (zic _);have own5:=own4.alloc (.cells (exC re) 90);have hb5:=((hb3.alloc hsi (.cells (exC p) 90)).trans (hb4.mono (by rw [zid];omega)))
   have hb6:=hb5.alloc hb5.size (.cells (exC re) 90);clear own3 own4 hb5 hb4 E3;go_upto_region 13 with fail;generalize hw5:w4.alloc (.cells #[.int .i64 re.lba,.int .i64 re.n,.int .i64 re.ver,.int .i64 re.zone,.int .i64 re.off] 90)=w5 at E5 own5 hb6 ⊢;clear hw5;obtain ⟨qp,fp,tp⟩:=E5.rules m1;obtain ⟨qe,fe,te⟩:=E5.rules m2;have hs5:=hb6.size;go_cut [56] (fun x56 wx=>x56=.bool q∧wx=w5)
   case first=>
    have hq:=HQ.out;cases rb with
    | false=>
      simp only [Bool.not_false,Bool.true_or] at hq;subst hq;clear HQ;go_wp2;go_meet;exact ⟨rfl,rfl⟩
    | true=>
      simp only [Bool.not_true,Bool.false_or] at hq;have HQ2:=zia hq;clear HQ hq;go_wp2;go_meet;exact ⟨by rw [HQ2.out],rfl⟩
   case rest=>
    obtain ⟨rfl,rfl⟩:=hcut;cases q with
    | false=>
      have hns:=HNS.out;rw [zig (by simp),ziz] at hns
      have HN2:=zia hns;clear HNS hns;go_wp2;go_roundw
      case rel=>exact ⟨i+1,t,An,cn,rfl,by go_num,by omega,zia (by rw [HN2.out];exact HT.out),by omega,by rw [HN2.out];exact own5,hb6,⟨_,rfl⟩,⟨_,rfl⟩,_,rfl⟩
      case measure=>simp [intOf];omega
    | true=>
      have hns:=HNS.out;rw [zij rfl] at hns;have HN2:=zia hns;clear HNS hns;have hpb2:=hpb;unfold aJ at hpb2;go_wp2_with fail;refine (kN e p.lba p.n _ HEM.out.ok (by omega)).mono ?_
      rintro x w7 ⟨rfl,hb7⟩;clear qp fp tp qe fe te;have own7:=aD own5 hb7 (zic _);have hs7:=hb7.size;generalize withinE e p.lba p.n=y at HN2 ⊢;go_wp2_with (at_builtin;refine aF rfl _ _ _ rfl w2.heap.size 90 i0 _ 5 40 Tryz.underlying35 hi hz0 hz1 hz2 rfl (by omega) rfl (own7.alloc _) rfl (aG.new (xs:=dM y) (n:=1) rfl rfl rfl) (by intro u hu;exact aU [y] u (by simpa [bB] using hu)) (by simp only [maxLen];omega) (by omega) (by rw [zid];omega) ?_;intro A8 c8 w8 own8 hg8)
      go_roundw
      case rel=>
       refine ⟨i+1,t+1,A8,c8,rfl,by go_num,by omega,zia (by rw [HN2.out,zie,HT.out];rfl),by omega,by rw [HN2.out,bM];exact own8,?_,⟨_,rfl⟩,⟨_,rfl⟩,_,rfl⟩
       exact ((hb6.trans (hb7.mono hs5)).alloc (by omega) (.cells (exC y) 90)).trans (hg8.below.mono (zic _))
      case measure=>simp [intOf];omega
theorem zay (g:Nat) (e:Ex) (w:World) (hB:Blk w g 90 (exC e)) (hm:bO e) :
 Calls Tryz.prog 89 #[.pointer (some ⟨g,0,none⟩)] w fun x w'=>∃ g',x=.returned (.tuple #[.slice (some ⟨g',0,none⟩) 1 1,.int .i64 0])∧w.heap.size≤g'∧IsL Rp.ex w' (fun b=>w.heap.size≤b) (.slice (some ⟨g',0,none⟩) 1 1) [e]∧Below w.heap.size w w':=by
 obtain ⟨q0,f0⟩:=hB.rules;have t0:=hB.lt;have hd:decide (bO e)=true:=ziu hm;go_enter Tryz.func89,Tryz.ntmps89
 go_wp2_with fail;refine (rZ e _).mono ?_;rintro x w2 ⟨rfl,hb2⟩;rw [hd];have hB2:=hB.step hb2;clear q0 f0 t0 hd hm;obtain ⟨q0,f0⟩:=hB2.rules;have t0:=hB2.lt;have hs2:=hb2.size;go_wp2;go_ret2;exact ⟨w2.heap.size,rfl,hs2,(zbI w2 e rfl).more fun b hb=>by omega,hb2.alloc hs2 _⟩
theorem zcN (g gf:Nat) (e:Ex) (w:World) (hB:Blk w g 90 (exC e)) (hF:Blk w gf 175 #[.func (.func 89) #[] #[.pointer (some ⟨g,0,none⟩)]]) (hm:bO ⟨e.lba,e.n,e.ver,-1,0⟩) :
 Calls Tryz.prog 91 #[.pointer (some ⟨g,0,none⟩),.pointer (some ⟨gf,0,none⟩)] w fun x w'=>∃ g',x=.returned (.tuple #[.slice (some ⟨g',0,none⟩) 1 1,.int .i64 0])∧w.heap.size≤g'∧IsL Rp.ex w' (fun b=>w.heap.size≤b) (.slice (some ⟨g',0,none⟩) 1 1) [⟨e.lba,e.n,e.ver,-1,0⟩]∧aA w w' (fun b=>b=g):=by
 obtain ⟨q0,f0⟩:=hB.rules;have t0:=hB.lt;obtain ⟨q1,f1⟩:=hF.rules;have t1:=hF.lt;have hne:gf≠g:=Blk.ne_ hF hB (by decide)
 have hB1:Blk ((w.setCell ⟨g,3,none⟩ (.int .i64 (-1))).setCell ⟨g,4,none⟩ (.int .i64 0)) g 90 (exC ⟨e.lba,e.n,e.ver,-1,0⟩):=(hB.set_ 3 _).set_ 4 _;have hF1:=(hF.far (p:=⟨g,3,none⟩) hne (.int .i64 (-1))).far (p:=⟨g,4,none⟩) hne (.int .i64 0);have ht:=((aA.refl w (fun b=>b=g)).set (g:=g) rfl 3 (.int .i64 (-1))).set (g:=g) rfl 4 (.int .i64 0)
 go_enter Tryz.func91,Tryz.ntmps91
 go_upto_region 2 with fail;generalize hw1:(w.setCell ⟨g,3,none⟩ (.int .i64 (-1))).setCell ⟨g,4,none⟩ (.int .i64 0)=w1 at hB1 hF1 ht ⊢;clear hw1 q0 f0 t0 q1 f1 t1;obtain ⟨q1,f1⟩:=hF1.rules;have t1:=hF1.lt;go_wp2_with fail;refine (zay g _ _ hB1 hm).mono ?_;rintro x w2 ⟨g',rfl,hg',hL,hb2⟩;have hs:=ht.size;go_wp2;go_ret2;exact ⟨g',rfl,zit hs hg',hL.more fun b hb=>zit hs hb,ht.step hb2⟩
theorem IsL.exlt {w:World} {K:Nat→Prop} {v:Value} {l:List Ex} (h:IsL Rp.ex w K v l):IsL Rp.ex w (fun b=>b<w.heap.size) v l:=by
 obtain ⟨A,c,cs,e,h1,h2,h3⟩:=h;exact ⟨A,c,cs,e,(h1.lt (show 0<5 by decide)).more fun b hb=>hb.2,eN.2 (eN.1 h2),h3⟩
abbrev zdl (gr ge gf:Nat):List (Int × Value):=[(1,.func (.func 89) #[] #[.pointer (some ⟨ge,0,none⟩)]),(5,.func (.func 89) #[] #[.pointer (some ⟨ge,0,none⟩)]),(2,.func (.func 91) #[] #[.pointer (some ⟨ge,0,none⟩),.pointer (some ⟨gf,0,none⟩)]),
 (3,.func (.func 92) #[] #[.pointer (some ⟨gr,0,none⟩),.pointer (some ⟨ge,0,none⟩),.pointer (some ⟨gf,0,none⟩)]),(4,.func (.func 93) #[] #[.pointer (some ⟨gr,0,none⟩)])]
theorem qT (A:Option Addr) (c:Nat) (m:List Ex) (r:Rc) (Ad:Option Addr) (cd:Nat) (zone off:Int) (K:Nat→Prop) (w:World) (hv:IsL Rp.ex w K (.slice A m.length c) m) (hch:aC 0 m)
 (hr:lZ r) (hl47:r.data.length≤140737488355328) (hck:checkL r=0) (hk:r.kind=1∨r.kind=2∨r.kind=5) (hz:0≤zone) (ho:0≤off∧off≤1099511627776) (hm:bO (fR r zone off))
 (hfew:(joinE m).length≤10000∧(bC m (fR r zone off)).length≤10000) :
 Calls Tryz.prog 38 #[.slice A m.length c,rcV r (.slice Ad r.data.length cd),.int .i64 zone,.int .i64 off] w fun x w'=>
  ∃ Ao co,x=.returned (.tuple #[.slice Ao (bC m (fR r zone off)).length co,.int .i64 0])∧IsL Rp.ex w' (fun b=>w.heap.size≤b) (.slice Ao (bC m (fR r zone off)).length co) (bC m (fR r zone off))∧Below w.heap.size w w':=by
 have hc:dZ m=0:=by unfold dZ;rw [zij hch]
 have hcc:=fun w hv=>cS (.slice A m.length c) m K w hv
 rw [hc] at hcc;have hcs:=fun w=>tV r Ad cd w hr hl47
 rw [hck] at hcs;have hco:=fun w A2 hv hl=>zaE A c m A2 1 [fR r zone off] (fun _=>True) (fun _=>True) w hv hch hl (by intro e he;simp only [ziw] at he;subst he;exact hm) (by
  intro k hk;rcases k with _ | k
  · exact hfew.1
  · have:k=0:=by simpa using hk
    subst this;exact hfew.2)
 rw [←zd4] at hco;obtain ⟨x,hx⟩:∃ x,fR r zone off=x:=⟨_,rfl⟩;rw [hx] at hm hco hfew ⊢;obtain ⟨mo,hmo⟩:∃ mo,bC m x=mo:=⟨_,rfl⟩;rw [hmo] at hco ⊢;have HCC:=zia hcc;have HCS:=zia hcs;have HCO:=zia hco;have HX:=zia hx;have HM:=zia hm;have HK:=zia hk;clear hcc hcs hco hx hm hk hck hc hmo hfew hch;unfold rcV at HCS ⊢;have E:=((Kn.start w).give aB.list hv.exlt).push 117 #[.int .i64 r.kind,.int .i64 r.lba,.int .i64 r.n,.int .i64 r.ver,.int .i64 r.zone,.int .i64 r.off,.slice Ad r.data.length cd];go_enter Tryz.func38,Tryz.ntmps38
 go_wp2_with fail;refine (HCC.out _ (hv.alloc _)).mono ?_;rintro x w1 ⟨rfl,hb1⟩;replace E:=E.step hb1;obtain ⟨q0,f0,t0⟩:=E.rules m0;go_wp2_with fail;refine (HCS.out _).mono ?_;rintro x w2 ⟨rfl,hb2⟩;replace E:=E.step hb2;have hs2:=E.below.size;clear q0 f0 t0 hb1 hb2;obtain ⟨q0,f0,t0⟩:=E.rules m0;go_upto_region 5 with fail;replace E:=(E.push 90 (exC ⟨r.lba,r.n,r.ver,zone,off⟩)).push 175 #[.func (.func 89) #[] #[.pointer (some ⟨w2.heap.size,0,none⟩)]];rw [zid] at E;generalize hw3:(w2.alloc (.cells #[.int .i64 r.lba,.int .i64 r.n,.int .i64 r.ver,.int .i64 zone,.int .i64 off] 90)).alloc (.cells #[.func (.func 89) #[] #[.pointer (some ⟨w2.heap.size,0,none⟩)]] 175)=w3 at E ⊢;clear hw3 q0 f0 t0;have hM:=zey.made (zif w3.heap.size w3) (zic _);have hmm:=@run_makeMap Tryz.prog;have hF:=E.at_ m0;go_cut [12] (fun s7 wx=>∃ mb,s7=.map (some mb)∧zey w3.heap.size w3 wx mb (zdl w.heap.size w2.heap.size (w2.heap.size+1)))
 case first=>
  obtain ⟨qf,ff⟩:=(hF.alloc (.map #[] 0)).rules;have tf:=(hF.alloc (.map #[] 0)).lt;go_wp2_with (refine jZ rfl _ _ _ _ rfl 3 175 Tryz.underlying177 Tryz.underlying3 rfl hM _ _ rfl rfl (by simp) ?_;intro w9 hM;have hF9:=hF.step hM.below;obtain ⟨qf,ff⟩:=hF9.rules;have tf:=hF9.lt)
  go_meet;exact ⟨_,rfl,hM⟩
 case rest=>
  clear hM hF;obtain ⟨mb,rfl,hM⟩:=hcut;replace E:=E.step hM.below;obtain ⟨q0,f0,t0⟩:=E.rules m2;by_cases hk2:r.kind=2
  · have hval:pS .nilFunc (zdl w.heap.size w2.heap.size (w2.heap.size+1)) r.kind=.func (.func 91) #[] #[.pointer (some ⟨w2.heap.size,0,none⟩),.pointer (some ⟨w2.heap.size+1,0,none⟩)]:=by
     rw [hk2];rfl
    have hx:x=⟨r.lba,r.n,r.ver,-1,0⟩:=by rw [←HX.out];unfold fR;rw [zij hk2,zij hk2]
    have HV:=zia hval;clear hk2 hval HK;subst hx;go_wp2_with (refine fO rfl _ _ _ rfl 3 175 Tryz.underlying177 Tryz.underlying3 .nilFunc (by kernel_rfl) rfl hM r.kind rfl ?_;rw [HV.out])
    refine (zcN _ _ _ _ (E.at_ m1) (E.at_ m0) HM.out).mono ?_;rintro y w5 ⟨g5,rfl,hg5,hL5,ht5⟩;have hm5:=IsL.turned (E.get m0) ht5 (fun b hb h=>by omega)
    have hb5:=E.below.trans (ht5.below (B:=w.heap.size) (fun k hk=>by omega) E.below.size)
    have hs5:=hb5.size;clear q0 f0 t0 hM E;go_wp2_with fail;refine (HCO.out _ _ (hm5.more fun _ _=>trivial) (hL5.more fun _ _=>trivial)).mono ?_
    rintro y w6 ⟨A6,c6,rfl,hL6,hb6⟩;go_wp2;go_ret2;exact ⟨A6,c6,rfl,hL6.more fun b hb=>zit hs5 hb,hb5.trans (hb6.mono hs5)⟩
  · have hval:pS .nilFunc (zdl w.heap.size w2.heap.size (w2.heap.size+1)) r.kind=.func (.func 89) #[] #[.pointer (some ⟨w2.heap.size,0,none⟩)]:=by
     rcases HK.out with h | h | h
     · rw [h];rfl
     · exact absurd h hk2
     · rw [h];rfl
    have hx:x=⟨r.lba,r.n,r.ver,zone,off⟩:=by
     rw [←HX.out];unfold fR;have h3:¬r.kind=3:=by rcases HK.out with h | h | h <;> omega
     rw [zig hk2,zig hk2,zig h3,zig h3]
    have HV:=zia hval;clear hk2 hval HK;subst hx;go_wp2_with (refine fO rfl _ _ _ rfl 3 175 Tryz.underlying177 Tryz.underlying3 .nilFunc (by kernel_rfl) rfl hM r.kind rfl ?_;rw [HV.out])
    refine (zay _ _ _ (E.at_ m1) HM.out).mono ?_;rintro y w5 ⟨g5,rfl,hg5,hL5,hb5⟩;replace E:=E.step hb5;have hb6:=E.below;have hs5:=hb6.size;clear q0 f0 t0 hM;go_wp2_with fail;refine (HCO.out _ _ ((E.get m0).more fun _ _=>trivial) (hL5.more fun _ _=>trivial)).mono ?_
    rintro y w6 ⟨A6,c6,rfl,hL6,hb6'⟩;clear E;go_wp2;go_ret2;exact ⟨A6,c6,rfl,hL6.more fun b hb=>zit hs5 hb,hb6.trans (hb6'.mono hs5)⟩
def zbq (f t:Ex) (l:List Ex):List Ex:=(l.filter fun p=>decide (p=withinE f p.lba p.n)).map fun p=>withinE t p.lba p.n
def gL (m:List Ex) (f t:Ex):List Ex:=zbq f t (partE m f.lba f.n)
theorem zde (f t:Ex) (l:List Ex) (p:Ex):zbq f t (l++[p])=zbq f t l++if decide (p=withinE f p.lba p.n)=true then [withinE t p.lba p.n] else []:=by
 unfold zbq;rw [zj8,ziZ];congr 1
 by_cases h:decide (p=withinE f p.lba p.n)=true
 · rw [zij h,zj9,zij h];rfl
 · rw [zig h,zj9,zig h];rfl
theorem rD {f t:Ex} (ht:bO t) (he:t.lba=f.lba∧t.n=f.n):∀ {l:List Ex} {b:Int},f.lba≤b→aC b l→lastE b l≤f.lba+f.n→aC b (zbq f t l)
 | [],_,_,_,_=>trivial
 | p::l,b,hb,h,hl=>by
   obtain ⟨h1,h2,h3⟩:=h;have hpp:=h1.1;have hlast:lastE b (p::l)=lastE (aL p) l:=rfl;rw [hlast] at hl;have hle:aL p≤lastE (aL p) l:=kT h3;have hep:aL p=p.lba+p.n:=rfl;have hp1:=hpp.2.1;have hrec:=rD ht he (l:=l) (b:=aL p) (by omega) h3 hl
   unfold zbq;rw [zj9];split
   · refine ⟨(pC ht hpp.2.1 (by omega) (by unfold aL;omega)).1,h2,hrec⟩
   · exact dS hrec (by omega)
theorem zeh (a b c:Int) (w:World):(Op.equalIn 10000 262 (.agg #[.int .i64 a,.int .i64 b,.int .i64 c]) (.agg #[.int .i64 a,.int .i64 b,.int .i64 c])).run Tryz.prog w=.ok true w:=by
 have u3:=Tryz.underlying3;have a3:=Tryz.isAgg3;have z3:=Tryz.sizeOf3;rw [show (10000:Nat)=9999+1 from rfl,Op.equalIn];simp only [zkg,ziK Tryz.underlying262,Result.andThen_ok];simp only [Std.Legacy.Range.forIn_eq_forIn_range',Std.Legacy.Range.size,Nat.sub_zero,Nat.add_sub_cancel,Nat.div_one,List.range'_succ,List.range'_zero,List.forIn_cons,List.forIn_nil];go_simp
theorem zdK (A:Option Addr) (c:Nat) (m:List Ex) (f t:Ex) (K:Nat→Prop) (w:World) (hv:IsL Rp.ex w K (.slice A m.length c) m) (hch:aC 0 m) (hf:bO f) (ht:bO t) (hfz:f.zone≠-1) (htz:t.zone≠-1)
 (hsame:t.lba=f.lba∧t.n=f.n∧t.ver=f.ver) (hfew:(putE m (gL m f t)).length≤10000) :
 Calls Tryz.prog 124 #[.slice A m.length c,exV f,exV t] w fun x w'=>
  ∃ A1 c1 A2 c2,x=.returned (.tuple #[.slice A1 (putE m (gL m f t)).length c1,.slice A2 (joinE (gL m f t)).length c2,.int .i64 0])∧IsL Rp.ex w' (fun b=>w.heap.size≤b) (.slice A1 (putE m (gL m f t)).length c1) (putE m (gL m f t)) ∧
    IsL Rp.ex w' (fun b=>w.heap.size≤b) (.slice A2 (joinE (gL m f t)).length c2) (joinE (gL m f t))∧Below w.heap.size w w':=by
 obtain ⟨i0,hi,hz0,hz1,hz2⟩:=ziH Tryz.infX;have hc:dZ m=0:=by unfold dZ;rw [zij hch]
 have hpo:=dH hch hf.1;have hmc0:aC f.lba (gL m f t):=rD ht ⟨hsame.1,hsame.2.1⟩ (zj7 _) hpo.1 hpo.2.1;have hmc:aC 0 (gL m f t):=dS hmc0 hf.1.1;have hmm:∀ e∈gL m f t,bO e:=fun e he=>(aM hmc e he).1
 have hpa:=fun W hv=>oC A c m f.lba f.n K W hv hch hf.1
 have hplen:=cI hpo.1;have hpb:∀ p∈partE m f.lba f.n,0≤p.lba∧p.lba≤2199023255552:=fun p hp=>by
  have h1:=aM hpo.1 p hp;have h2:=oO hpo.1 p hp;have h3:=h1.1.1.2.1;have h4:=hf.1;unfold aJ at h4;unfold aL at h2;omega
 unfold gL at hmc0 hmc hmm hfew ⊢;generalize partE m f.lba f.n=pl at *;obtain ⟨n,hn⟩:∃ n,pl.length=n:=⟨_,rfl⟩;rw [hn] at hpa hplen;have hn40:n≤2199023255553:=by have:=hf.1;unfold aJ at this;have:=hpo.2.1;omega
 have hfo:=hf.ok;have hto:=ht.ok;obtain ⟨pn,hpn⟩:∃ pn,(putE m (zbq f t pl)).length=pn:=⟨_,rfl⟩;obtain ⟨jn,hjn⟩:∃ jn,(joinE (zbq f t pl)).length=jn:=⟨_,rfl⟩;rw [hpn] at hfew ⊢;rw [hjn];have HPN:=zia hpn;have HJ2:=zia hjn;clear hpn hjn;have hdf:decide (bO f)=true:=ziu hf;have hdt:decide (bO t)=true:=ziu ht;have HN:=zia hn;have HPA:=zia hpa;have HMC:=zia hmc;have HMM:=zia hmm;have HPB:=zia hpb;have HFEW:=zia hfew;have HFO:=zia hfo;have HTO:=zia hto;have HCH:=zia hch;have E:=(((Kn.start w).give aB.list hv).push 90 (exC f)).push 90 (exC t);rw [zid] at E;have hzf:(f.zone == -1)=false:=ziN.2 hfz;have hzt:(t.zone == -1)=false:=ziN.2 htz;obtain ⟨s1,s2,s3⟩:=hsame;have heq:∀ w:World,(binOp .eql 262 (.agg #[.int .i64 f.lba,.int .i64 f.n,.int .i64 f.ver]) (.agg #[.int .i64 t.lba,.int .i64 t.n,.int .i64 t.ver])).run Tryz.prog w=.ok (.bool true) w:=fun w=>by
  rw [s1,s2,s3];go_simp;rw [zeh];rfl
 clear hn hpa hmc hmm hpb hfew hfo hto hmc0 hpo hplen hf ht hch hv hfz htz s1 s2 s3;obtain ⟨q0,f0,t0⟩:=E.rules m0;obtain ⟨q1,f1,t1⟩:=E.rules m1;go_enter Tryz.func124,Tryz.ntmps124
 go_wp2_with fail;refine (cS _ m K _ (E.get m0)).mono ?_;rintro x w1 ⟨rfl,hb1⟩;rw [hc];replace E:=E.step hb1;obtain ⟨q0,f0,t0⟩:=E.rules m0;obtain ⟨q1,f1,t1⟩:=E.rules m1;go_wp2_with fail;refine (rZ f _).mono ?_;rintro x w2 ⟨rfl,hb2⟩;rw [hdf];replace E:=E.step hb2;obtain ⟨q0,f0,t0⟩:=E.rules m0;obtain ⟨q1,f1,t1⟩:=E.rules m1;go_wp2_with fail;refine (rZ t _).mono ?_;rintro x w3 ⟨rfl,hb3⟩;rw [hdt];replace E:=E.step hb3;obtain ⟨q0,f0,t0⟩:=E.rules m0;obtain ⟨q1,f1,t1⟩:=E.rules m1;clear hb1 hb2 hb3 hc hdf hdt;go_wp2_with fail;refine (HPA.out _ (E.get m0)).mono ?_;rintro x w4 ⟨A4,c4,rfl,own4,hb4⟩;replace E:=(E.step hb4).give aB.list (bI own4 HN.out (by omega))
 have hsz4:=E.below.size;clear q0 f0 t0 q1 f1 t1 own4 hb4 heq hzf hzt;go_wp2_with fail;go_loopw [12,72] (fun o i wr=>∃ (j k:Nat) (Ao:Option Addr) (co:Nat),o=.slice Ao k co∧i=.int .i64 j∧j≤n∧k≤j∧Hid ((zbq f t (pl.take j)).length=k)∧wr.ownsRow w4.heap.size 90 5 (.slice Ao k co) k (bB (zbq f t (pl.take j)))∧Below w4.heap.size w4 wr) (fun _ i _=>n-(intOf i).toNat)
 case atStart=>exact ⟨0,0,none,0,rfl,rfl,zir _,zic _,zia rfl,zin _ _ _ _,zif _ _⟩
 case round=>
  obtain ⟨j,k,Ao,co,rfl,rfl,hj,hkj,HK,hown,hb⟩:=hrel;have hsz:=hb.size;have F:=E.step hb;by_cases hlt:j<n
  case neg=>
   obtain rfl:j=n:=by omega
   have htk:pl.take j=pl:=by rw [←HN.out,ziQ]
   rw [htk] at HK hown;have hLm:=bI hown HK.out (by omega)
   have hcp:=fun w hv hw=>zax A c m Ao co (zbq f t pl) K (fun b=>w4.heap.size≤b) w hv HCH.out hw HMM.out (by rw [HPN.out];exact HFEW.out)
   have hjq:=fun w hv=>pB Ao co (zbq f t pl) (fun b=>w4.heap.size≤b) w hv HMC.out
   rw [HK.out,HPN.out] at hcp;rw [HK.out,HJ2.out] at hjq;have hkk:k≤140737488355328:=by omega
   clear htk;have G:=F.give aB.list (bI hown HK.out (by omega))
   have HCP:=zia hcp;have HJN:=zia hjq;clear hcp hjq;go_wp2_with fail;refine (HCP.out _ (G.get m2) (G.get m0)).mono ?_;rintro x w5 ⟨A5,c5,rfl,own5,hb5⟩;have G5:=G.step hb5;go_wp2_with fail;refine (HJN.out _ (G5.get m0)).mono ?_;rintro x w6 ⟨A6,c6,rfl,own6,hb6⟩;have hbw:=(G5.step hb6).below;have hs5:=hb5.size;have own5':=aD own5 hb6 (zic _);go_wp2_with fail;go_ret3
   have hp10:pn≤10000:=HFEW.out;have hjn0:jn≤140737488355328:=by
    have h:=eP (gO HMC.out).1;rw [HJ2.out] at h;omega
   exact ⟨A5,c5,A6,c6,rfl,(bI own5' HPN.out (by omega)).more fun b hb=>by omega,(bI own6 HJ2.out (by omega)).more fun b hb=>by omega,hbw⟩
  obtain ⟨p,hp⟩:∃ p,pl[j]?=some p:=⟨_,zib (by rw [HN.out];exact hlt)⟩
  obtain ⟨p1,p2⟩:=HPB.out p (zix hp);obtain ⟨ad2,rfl,-,c0,c1',c2,c3,c4⟩:=bY (F.get m0) hp;have i1':(j:Int)<(n:Int):=by omega
  have i0':(0:Int)≤(j:Int):=by omega
  have hns:=zde f t (pl.take j) p;rw [←gG pl hp] at hns;obtain ⟨q,hq⟩:∃ q,decide (p=withinE f p.lba p.n)=q:=⟨_,rfl⟩;rw [hq] at hns;have heq:∀ w:World,(binOp .eql 90 (exV p) (exV (withinE f p.lba p.n))).run Tryz.prog w=.ok (.bool q) w:=fun w=>by rw [zfv,hq]
  have HNS:=zia hns;clear hns hq hp;have F2:=F.push 90 (exC p);go_upto_region 11 with fail;change Code.wp _ _ _ _ (wr.alloc (.cells (exC p) 90))
  obtain ⟨g4,hg4⟩:∃ g4,wr.heap.size=g4:=⟨_,rfl⟩;have own5:=hown.alloc (.cells (exC p) 90);have hb5:=hb.alloc hsz (.cells (exC p) 90);rw [hg4] at F2;simp only [hg4];generalize hw5:wr.alloc (.cells (exC p) 90)=w5 at F2 own5 hb5 ⊢;clear hw5;have hs5:=hb5.size;have HK5:Hid (∀ W,Below w5.heap.size w5 W→(∀ o,W.cell? ⟨g4,o,none⟩=(exC p)[o]?)∧(∀ o,W.cell? ⟨w.heap.size,o,none⟩=(exC f)[o]?)):=zia fun W h=>⟨((F2.step h).rules m0).1,((F2.step h).rules m2).1⟩
  have hb0:Below w5.heap.size w5 w5.drew:=(zif _ _).drew;clear c0 c1' c2 c3 c4 hown;refine wp_region_held_drew (S:=fun W=>(∀ o,W.cell? ⟨g4,o,none⟩=(exC p)[o]?)∧(∀ o,W.cell? ⟨w.heap.size,o,none⟩=(exC f)[o]?)) (by kernel_rfl) (HK5.out _ hb0) (fun hHeld=>?_)
  refine wT 0 76 ?_;refine wT 1 77 ?_;refine wT 2 78 ?_;refine wT 3 79 ?_;refine wT 4 80 ?_;refine wT 5 81 ?_;refine wR 6 82 (fun K hK=>?_)
  go_simp;refine (kN f p.lba p.n _ HFO.out (by omega)).mono ?_
  rintro x w7 ⟨rfl,hb7⟩;replace hb7:=hb0.trans (hb7.mono hb0.size);go_wp2_with fail;refine hK.out _ _ (HK5.out _ hb7) (fun hHeld=>?_)
  clear hK K;refine wT 7 83 ?_;refine wpAnyH_done (by kernel_rfl) ?_ _
  replace F2:=F2.step hb7;replace own5:=aD own5 hb7 (zic _);replace hb5:=hb5.trans (hb7.mono hs5);obtain ⟨q0,f0,t0⟩:=F2.rules m0;obtain ⟨q1,f1,t1⟩:=F2.rules m1;have hs7:=hb5.size;clear hHeld HK5 hb0 hb7 hs5 hg4 heq;cases q with
  | false=>
    have hns:=HNS.out;rw [zig (by simp),ziz] at hns
    have HN2:=zia hns;clear HNS hns;go_wp2;go_roundw
    case rel=>exact ⟨j+1,k,Ao,co,rfl,by go_num,by omega,by omega,zia (by rw [HN2.out];exact HK.out),by rw [HN2.out];exact own5,hb5⟩
    case measure=>simp [intOf];omega
  | true=>
    have hns:=HNS.out;rw [zij rfl] at hns;have HN2:=zia hns;clear HNS hns;go_wp2_with fail;refine (kN t p.lba p.n _ HTO.out (by omega)).mono ?_
    rintro x w8 ⟨rfl,hb8⟩;clear q0 f0 t0 q1 f1 t1;have own8:=aD own5 hb8 (zic _);have hs8:=hb8.size;generalize withinE t p.lba p.n=y at HN2 ⊢;go_wp2_with (at_builtin;refine aF rfl _ _ _ rfl w4.heap.size 90 i0 _ 5 40 Tryz.underlying35 hi hz0 hz1 hz2 rfl (by omega) rfl (own8.alloc _) rfl (aG.new (xs:=dM y) (n:=1) rfl rfl rfl) (by intro u hu;exact aU [y] u (by simpa [bB] using hu)) (by simp only [maxLen];omega) (by omega) (by rw [zid];omega) ?_;intro A8 c8 w9 own9 hg9)
    go_roundw
    case rel=>
     refine ⟨j+1,k+1,A8,c8,rfl,by go_num,by omega,by omega,zia (by rw [HN2.out,zie,HK.out];rfl),by rw [HN2.out,bM];exact own9,?_⟩
     exact ((hb5.trans (hb8.mono hs7)).alloc (by omega) (.cells (exC y) 90)).trans (hg9.below.mono (zic _))
    case measure=>simp [intOf];omega
abbrev mvC (f t:Ex):Array Value:=#[.int .i64 f.lba,.int .i64 f.n,.int .i64 f.ver,.int .i64 f.zone,.int .i64 f.off,.int .i64 t.lba,.int .i64 t.n,.int .i64 t.ver,.int .i64 t.zone,.int .i64 t.off]
def Rp.mv:Rp (Ex × Ex):=⟨10,fun _ _ cs o=>cs=(mvC o.1 o.2).toList,
 by rintro _ _ _ _ rfl;rfl,
 fun h _=>h,
 fun h _=>h,
 by
  rintro _ _ _ _ rfl u hu;simp only [zim,ziJ,zju] at hu;rcases hu with rfl | rfl | rfl | rfl | rfl | rfl | rfl | rfl | rfl | rfl <;> first | rfl | assumption⟩
theorem zhO {w:World} {K:Nat→Prop} {A:Option Addr} {n c:Nat} {f t:Ex} (h:IsL Rp.mv w K (.slice A n c) [(f,t)]) :
 ∃ ad,A=some ad∧K ad.block∧w.cell? ad=some (.int .i64 f.lba)∧∀ i u,0<i→(mvC f t)[i]?=some u→w.cell? ⟨ad.block,ad.off+i,none⟩=some u:=by
 obtain ⟨ad,es,hA,hKad,hes,hcell⟩:=h.at_ (i:=0) (x:=(f,t)) rfl;obtain rfl:es=_:=hes;have hsz:Rp.mv.size=10:=rfl;rw [hsz] at hcell;have h0:ad.add (0*10)=ad:=by simp [Addr.add]
 rw [h0] at hcell;refine ⟨ad,hA,hKad,?_,fun i u hi hu=>?_⟩
 · rw [←cW ad];exact hcell 0 _ rfl
 · rw [←bT _ i (by omega)];exact hcell i _ (by simpa using hu)
theorem zb9 (A:Option Addr) (c:Nat) (m:List Ex) (f t:Ex) (Al:Option Addr) (cl:Nat) (K Kl:Nat→Prop) (w:World) (hv:IsL Rp.ex w K (.slice A m.length c) m) (hl:IsL Rp.mv w Kl (.slice Al 1 cl) [(f,t)]) (hml:m.length≤1000000) (hch:aC 0 m) (hf:bO f) (ht:bO t) (hfz:f.zone≠-1) (htz:t.zone≠-1)
 (hsame:t.lba=f.lba∧t.n=f.n∧t.ver=f.ver) (hfew:(putE m (gL m f t)).length≤10000) (hmc:aC 0 (joinE (gL m f t))) :
 Calls Tryz.prog 59 #[.slice A m.length c,.slice Al 1 cl] w fun x w'=>
  ∃ A1 c1,x=.returned (.tuple #[.slice A1 (putE m (gL m f t)).length c1,.int .i64 (dJ (joinE (gL m f t))),.int .i64 0])∧IsL Rp.ex w' (fun b=>w.heap.size≤b) (.slice A1 (putE m (gL m f t)).length c1) (putE m (gL m f t))∧Below w.heap.size w w':=by
 have hc:dZ m=0:=by unfold dZ;rw [zij hch]
 have hmv:=fun A c W hv=>zdK A c m f t (fun b=>w.heap.size≤b) W hv hch hf ht hfz htz hsame hfew
 obtain ⟨hm1,hm0⟩:=yY _ _ hmc;have hm2:=eP hmc;have hm3:lastE 0 (joinE (gL m f t))≤1099511627776:=oV _ 0 (by omega) hmc
 have hmn:=fun A c W hv=>zcb A c (joinE (gL m f t)) (fun b=>w.heap.size≤b) W hv hmc
 obtain ⟨mk,hmk⟩:∃ mk,dJ (joinE (gL m f t))=mk:=⟨_,rfl⟩;rw [hmk] at hmn hm1 hm0 ⊢;generalize joinE (gL m f t)=jl at hmv hmn hm2 hm1 hm3;obtain ⟨jn,hjn⟩:∃ jn,jl.length=jn:=⟨_,rfl⟩;rw [hjn] at hmv hmn;generalize putE m (gL m f t)=pl at hmv hfew ⊢;obtain ⟨pn,hpn⟩:∃ pn,pl.length=pn:=⟨_,rfl⟩;rw [hpn] at hmv hfew ⊢;obtain ⟨mn,hmn2⟩:∃ mn,m.length=mn:=⟨_,rfl⟩;have HM:=zia hmn2;have E:=((Kn.start w).give aB.list hv).give aB.list hl;have HMV:=zia hmv;have HMN:=zia hmn;clear hmk hjn hpn hmv hmn hch hf ht hfz htz hsame hmc hm2 hmn2;go_enter Tryz.func59,Tryz.ntmps59
 go_wp2_with fail;refine (cS _ m K _ (E.get m1)).mono ?_;rintro x w1 ⟨rfl,hb1⟩;rw [hc];replace E:=E.step hb1;go_wp2_with fail;refine (jP A m.length c K (bB m) _ (iH (E.get m1)) (aU m) (by omega)).mono ?_
 rintro x w2 ⟨A2,c2,rfl,own2,hb2⟩;replace E:=E.step hb2;have hL2:IsL Rp.ex w2 (fun b=>w.heap.size≤b) (.slice A2 m.length c2) m:=(bI own2 rfl (by omega)).more fun b hb=>by have:=hb1.size;omega
 clear own2 hb1 hb2 hc hv hl;go_wp2_with fail;go_loopw [0,8,23] (fun o k i wr=>∃ j:Nat,i=.int .i64 j∧((j=0∧k=.int .i64 0∧o=.slice A2 m.length c2∧wr=w2)∨(j=1∧∃ A4 c4,o=.slice A4 pn c4∧k=.int .i64 mk∧IsL Rp.ex wr (fun b=>w.heap.size≤b) (.slice A4 pn c4) pl∧Below w.heap.size w wr))) (fun _ _ i _=>1-(intOf i).toNat)
 case atStart=>exact ⟨0,rfl,Or.inl ⟨rfl,rfl,rfl,rfl⟩⟩
 case round=>
  obtain ⟨j,rfl,⟨rfl,rfl,rfl,rfl⟩ | ⟨rfl,A4,c4,rfl,rfl,hR,hbR⟩⟩:=hrel
  · obtain ⟨ad,had,-,c0,cs⟩:=zhO (E.get m0)
    subst had;have c1:=cs 1 _ (by decide) rfl
    have c2':=cs 2 _ (by decide) rfl
    have c3:=cs 3 _ (by decide) rfl
    have c4:=cs 4 _ (by decide) rfl
    have c5:=cs 5 _ (by decide) rfl
    have c6:=cs 6 _ (by decide) rfl
    have c7:=cs 7 _ (by decide) rfl
    have c8:=cs 8 _ (by decide) rfl
    have c9:=cs 9 _ (by decide) rfl
    clear cs;have hbw:=E.below;have hba:Below wr.heap.size wr (wr.alloc (.cells (mvC f t) 212)):=zBA;go_wp2_with fail;refine (HMV.out A2 c2 _ (hL2.step hba)).mono ?_;rintro x w3 ⟨A5,d5,A6,d6,rfl,hp5,hj6,hb3⟩;have hb4:Below wr.heap.size wr w3:=hba.trans (hb3.mono hba.size);have hs4:=hbw.trans (hb4.mono hbw.size);have hz4:=hba.size;have hz5:=hbw.size;have hp6:IsL Rp.ex w3 (fun b=>w.heap.size≤b) (.slice A5 pn d5) pl:=hp5.more fun b hb=>by omega
    have hj7:IsL Rp.ex w3 (fun b=>w.heap.size≤b) (.slice A6 jn d6) jl:=hj6.more fun b hb=>by omega
    clear c0 c1 c2' c3 c4 c5 c6 c7 c8 c9 hba hb3 hL2 hp5 hj6;go_wp2_with fail;refine (HMN.out A6 d6 _ hj7).mono ?_;rintro x w4 ⟨rfl,hb5⟩;go_wp2_with fail;go_roundw
    case rel=>exact ⟨1,by go_num,Or.inr ⟨rfl,A5,d5,rfl,by go_num,hp6.step hb5,hs4.trans (hb5.mono hs4.size)⟩⟩
    case measure=>decide
  · go_wp2_with fail
    go_ret3
    exact ⟨A4,c4,rfl,hR,hbR⟩
def exN (e:Ex):List Int:=[e.lba,e.n,e.ver,e.zone+1,e.off]
def mW (m:List Ex):List UInt8:=m.flatMap fun e=>flatN (exN e)
theorem zcP (m:List Ex) (e:Ex):mW (m++[e])=mW m++flatN (exN e):=by simp [mW]
theorem zfy {e:Ex} (h:bO e) (hv:e.ver≤9223372036854775807):I63 (exN e)∧fP (exN e)=(flatN (exN e),0):=by
 obtain ⟨⟨p0,p1,p2,p3⟩,p4,p5,p6,p7,p8,p9⟩:=h;have hof:e.off≤1125899906842624:=by by_cases h:e.zone = -1 <;> omega
 refine ⟨fun n hn=>?_,zij fun n hn=>?_⟩ <;>
 · simp only [exN,zim,ziJ,zju] at hn
   rcases hn with rfl | rfl | rfl | rfl | rfl <;> omega
theorem zbz (A:Option Addr) (c:Nat) (m:List Ex) (K:Nat→Prop) (w:World) (hv:IsL Rp.ex w K (.slice A m.length c) m) (hch:aC 0 m) (hver:∀ e∈m,e.ver≤9223372036854775807) (hml:m.length≤1000000) :
 Calls Tryz.prog 181 #[.slice A m.length c] w fun x w'=>∃ A1 c1 bs,x=.returned (.tuple #[.slice A1 bs.length c1,.int .i64 (if 32768<(mW m).length then 2 else 0)])∧bs=(if 32768<(mW m).length then [] else mW m)∧w'.ownsRow w.heap.size 5 1 (.slice A1 bs.length c1) bs.length (aE bs)∧Below w.heap.size w w':=by
 obtain ⟨i0,hi,hz0,hz1,hz2⟩:=ziH Tryz.info5;have hc:dZ m=0:=by unfold dZ;rw [zij hch]
 have hmay:∀ e∈m,bO e:=fun e he=>(aM hch e he).1
 have HMAY:=zia hmay;have HVER:=zia hver;obtain ⟨n,hn⟩:∃ n,m.length=n:=⟨_,rfl⟩;have HN:=zia hn;have HCK:=zia (fun W hv=>cS (.slice A m.length c) m K W hv)
 obtain ⟨kk,hkk⟩:∃ kk,(mW m).length=kk:=⟨_,rfl⟩;rw [hkk];have HKK:=zia hkk;clear hkk;rw [hn] at hv hml ⊢;have E:=(Kn.start w).give aB.list hv;have hck:=HCK.out;rw [hn] at hck;have HCK:=zia hck;clear hck hn hmay hver hch;go_enter Tryz.func181,Tryz.ntmps181
 go_wp2_with fail;refine (HCK.out _ (E.get m0)).mono ?_;rintro x w1 ⟨rfl,hb1⟩;rw [hc];replace E:=E.step hb1;have hs1:=hb1.size;clear hc;go_wp2_with fail;go_loopw [5,17] (fun o i wr=>∃ (j k:Nat) (Ao:Option Addr) (co:Nat),o=.slice Ao k co∧i=.int .i64 j∧j≤n∧k≤50*j∧Hid ((mW (m.take j)).length=k)∧wr.ownsRow w1.heap.size 5 1 (.slice Ao k co) k (aE (mW (m.take j)))∧Below w1.heap.size w1 wr) (fun _ i _=>n-(intOf i).toNat)
 case atStart=>exact ⟨0,0,none,0,rfl,rfl,zir _,zir _,zia rfl,zin _ _ _ _,zif _ _⟩
 case round=>
  obtain ⟨j,k,Ao,co,rfl,rfl,hj,hkj,HK,hown,hb⟩:=hrel;have hsz:=hb.size;have F:=E.step hb;by_cases hlt:j<n
  · obtain ⟨e,he⟩:∃ e,m[j]?=some e:=⟨_,zib (by rw [HN.out];exact hlt)⟩
    have hme:=HMAY.out e (zix he);obtain ⟨h63,hnl⟩:=zfy hme (HVER.out e (zix he));have hfl:=fZ h63;have hsn:=zcP (m.take j) e;rw [←gG m he] at hsn;obtain ⟨ad,rfl,-,c0,c1',c2,c3,c4⟩:=bY (F.get m0) he;have i1':(j:Int)<(n:Int):=by omega
    have i0':(0:Int)≤(j:Int):=by omega
    have hz3:=hme.2.2;have hN:∀ W:World,Calls Tryz.prog 145 #[.slice (some ⟨W.heap.size,0,none⟩) 5 5] (W.alloc (.cells #[.int .i64 e.lba,.int .i64 e.n,.int .i64 e.ver,.int .i64 (e.zone+1),.int .i64 e.off] 3)) fun x w'=>∃ A' c',x=.returned (.tuple #[.slice A' (flatN (exN e)).length c',.int .i64 0]) ∧
     w'.ownsRow (W.heap.size+1) 5 1 (.slice A' (flatN (exN e)).length c') (flatN (exN e)).length (aE (flatN (exN e)))∧Below (W.heap.size+1) (W.alloc (.cells #[.int .i64 e.lba,.int .i64 e.n,.int .i64 e.ver,.int .i64 (e.zone+1),.int .i64 e.off] 3)) w':=fun W=>by
     have:=oD _ (exN e) _ _ (nM (w:=W) (n:=5) (cs:=#[.int .i64 e.lba,.int .i64 e.n,.int .i64 e.ver,.int .i64 (e.zone+1),.int .i64 e.off]) h63 3 rfl rfl (by omega)) (by show 5≤_;omega)
     rw [hnl] at this;simpa only [zid] using this
    have hfl5:(exN e).length=5:=rfl;rw [hfl5] at hfl;generalize flatN (exN e)=nb at hN hfl hsn;obtain ⟨ln,hln⟩:∃ ln,nb.length=ln:=⟨_,rfl⟩;rw [hln] at hN hfl;have HLN:=zia hln;have HSN:=zia hsn;have HNU:=zia hN;clear hln hsn hN h63 hnl he hme;have F2:=F.push 90 (exC e);go_wp2_with fail;have hba:Below wr.heap.size wr (wr.alloc (.cells (exC e) 90)):=zBA;have hNW:=HNU.out (wr.alloc (.cells (exC e) 90));rw [zid] at hNW;refine hNW.mono ?_;rintro x w3 ⟨A3,c3',rfl,own3,hb3⟩;have hb4:Below wr.heap.size wr w3:=(hba.alloc (by rw [zid];omega) _).trans (hb3.mono (by omega))
    have hs4:=hb4.size;have own4:=aD hown hb4 (zic _);have hap:aE (mW (m.take j)++nb)=aE (mW (m.take j))++aE nb:=by simp [aE]
    have hnv:=aW nb;clear c0 c1' c2 c3 c4 hNW hba;go_wp2_with (at_builtin;refine aF rfl _ _ _ rfl w1.heap.size 5 i0 _ 1 1 Tryz.underlying31 hi hz0 hz1 hz2 rfl (by omega) rfl own4 rfl (aG.of_own own3) hnv (by simp only [maxLen];omega) (by omega) (by omega) ?_;intro A8 c8 w6 own8 hg8)
    go_roundw
    case rel=>exact ⟨j+1,k+ln,A8,c8,rfl,by go_num,by omega,by omega,zia (by rw [HSN.out,zie,HK.out,HLN.out]),by rw [HSN.out,hap];exact own8,(hb.trans (hb4.mono hsz)).trans hg8.below⟩
    case measure=>simp [intOf];omega
  · obtain rfl:j=n:=by omega
    have htk:m.take j=m:=by rw [←HN.out,ziQ]
    rw [htk] at HK hown;have hkl:kk=k:=HKK.out.symm.trans HK.out;subst hkl;clear htk HK;by_cases hbig:32768<kk
    · go_wp2_with fail
      go_ret2;exact ⟨none,0,[],rfl,rfl,zin _ _ _ _,F.below⟩
    · go_wp2_with fail
      go_ret2;exact ⟨Ao,co,mW m,by rw [HKK.out];rfl,rfl,by rw [HKK.out];exact aO hown hs1,F.below⟩
