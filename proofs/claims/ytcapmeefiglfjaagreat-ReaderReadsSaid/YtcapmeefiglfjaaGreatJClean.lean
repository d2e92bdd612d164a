/- A part of the proof. -/
import Derived.Test.YtcapmeefiglfjaaGreatCopy1
set_option maxHeartbeats 2000000
namespace Go.Proofs.YtcapmeefiglfjaaGreat
open Go.RowKit
theorem zfK {α:Type} {p:α→Bool}:∀ {l:List α},(∀ x∈l,p x=false)→l.takeWhile p=[]
 | [],_=>rfl
 | x::l,h=>by rw [zkl,h x (zih ..)];rfl
theorem zcq {m:List Ex} {x:Ex} (h:aC 0 m) (hx:x∈m):partE m x.lba x.n=[x]:=by
 obtain ⟨A,C,rfl⟩:=zkr hx;obtain ⟨hA,hm,hl,hC⟩:=aQ.1 h;have hp:=hm.pos;have h1:∀ e∈A,decide (x.lba<aL e)=false:=fun e he=>ziv (by have:=oO hA e he;omega)
 have h2:decide (x.lba<aL x)=true:=ziu (by unfold aL;omega)
 have hf:firstE (A++x::C) x.lba=A.length:=by
  unfold firstE;rw [List.findIdx_append];have:¬A.findIdx (fun e=>decide (x.lba<aL e))<A.length:=fun hlt=>by
   have h3:=zjc (w:=hlt);rw [h1 _ (ziD hlt)] at h3;cases h3
  rw [zig this,List.findIdx_cons,h2];simp
 have hmid:midE (A++x::C) x.lba x.n=[x]:=by
  unfold midE;rw [hf,List.drop_left,zkl,ziu (show x.lba<x.lba+x.n by omega)]
  simp only [zkh];rw [zfK fun e he=>ziv (by have:=(aM hC e he).2;unfold aL at this;omega)]
 unfold partE;rw [hmid];show [uptoE (fromE x x.lba) (x.lba+x.n)]=[x];have h3:fromE x x.lba=x:=by unfold fromE;rw [zig (by omega)]
 rw [h3];unfold uptoE;rw [show min x.n (x.lba+x.n-x.lba)=x.n by omega]
theorem zgk {m:List Ex} {x t:Ex} (h:aC 0 m) (hx:x∈m) (ht:bO t) (hs:t.lba=x.lba∧t.n=x.n) :
 gL m x t=[t]∧aC 0 (putE m (gL m x t))∧aC 0 (joinE (gL m x t))∧∀ b,see (putE m (gL m x t)) b=if aX x b=true then some (seeE t b) else see m b:=by
 have hw:∀ y:Ex,withinE y y.lba y.n=y:=fun y=>by unfold withinE;rw [Int.sub_self,Int.mul_zero,Int.add_zero,ite_self]
 have hm:gL m x t=[t]:=by
  unfold gL;rw [zcq h hx];unfold zbq;rw [zj9,ziu (hw x).symm];simp only [zkh,List.filter_nil,zj2,zjN];rw [←hs.1,←hs.2,hw]
 have hp:=ht.pos;obtain ⟨p1,p2,p3⟩:=sJ (e:=t) [t] m h (by
  intro w hw9;rw [ziw] at hw9;subst hw9;exact ⟨ht,fun b hb=>⟨hb,rfl⟩⟩)
 have hj:=gO p1;rw [hm];refine ⟨rfl,hj.1,?_,fun b=>?_⟩
 · show aC 0 [t]
   exact ⟨ht,hp.2,trivial⟩
 · unfold putE
   rw [hj.2.1];have hx9:aX x b=aX t b:=by unfold aX aL;rw [hs.1,hs.2]
   by_cases hb:aX t b=true
   · rw [hx9,zij hb]
     exact p2 b ⟨t,ziw.2 rfl,hb⟩
   · rw [hx9,zig hb]
     exact p3 b fun ⟨w,hw9,hb9⟩=>by rw [ziw] at hw9;subst hw9;exact hb hb9
def iO (zs:List Zn) (m:List Ex) (zs':List Zn) (m':List Ex):Prop:=∀ b,((see m' b).map fun t=>(t.1,decide (t.2.1<0)))=((see m b).map fun t=>(t.1,decide (t.2.1<0)))∧blockB zs' m' b=blockB zs m b
theorem iO.refl (zs:List Zn) (m:List Ex):iO zs m zs m:=fun _=>⟨rfl,rfl⟩
theorem iO.trans {zs zs' zs'':List Zn} {m m' m'':List Ex} (h:iO zs m zs' m') (h':iO zs' m' zs'' m''):iO zs m zs'' m'':=fun b=>⟨(h' b).1.trans (h b).1,(h' b).2.trans (h b).2⟩
theorem iO.some {zs zs':List Zn} {m m':List Ex} (h:iO zs m zs' m') {b:Int} {t:Int × Int × Int} (hb:see m b=some t):∃ t',see m' b=some t'∧t'.1=t.1∧(t'.2.1<0↔t.2.1<0):=by
 have h1:=(h b).1;rw [hb] at h1;cases hs:see m' b with
 | none=>rw [hs] at h1;cases h1
 | some t'=>
   rw [hs] at h1;simp only [Option.map_some,ziL,zj4,zkA] at h1;exact ⟨t',rfl,h1.1,h1.2⟩
def zdw (m:List Ex) (z B:Int):Nat:=((List.range B.toNat).filter fun i=>((see m (i:Nat)).map fun t=>t.2.1) == some z).length
theorem pM {p q:Nat→Bool}:∀ {l:List Nat},(∀ i∈l,q i=true→p i=true)→(l.filter q).length≤(l.filter p).length
 | [],_=>by simp
 | x::l,h=>by
   have ih:=pM (l:=l) fun i hi=>h i (zii _ hi)
   have hx:=h x (zih ..);rw [zj9,zj9];cases hq:q x with
   | true=>rw [hx hq];simpa using ih
   | false=>
     cases hp:p x with
     | true=>simp only [zkh,zjX,zjG,List.length_cons];omega
     | false=>simpa using ih
theorem vY {p q:Nat→Bool}:∀ {l:List Nat},(∀ i∈l,q i=true→p i=true)→(∃ i∈l,p i=true∧q i=false)→(l.filter q).length<(l.filter p).length
 | [],_,⟨_,h,_⟩=>by cases h
 | x::l,h,⟨i,hi,hp,hq⟩=>by
   have hle:=pM (l:=l) fun i hi=>h i (zii _ hi)
   have hx:=h x (zih ..);rw [zj9,zj9];rcases zim.1 hi with rfl | hi'
   · rw [hp,hq]
     simp only [zkh,zjX,zjG,List.length_cons];omega
   · have ih:=vY (l:=l) (fun i hi=>h i (zii _ hi)) ⟨i,hi',hp,hq⟩
     cases hq2:q x with
     | true=>rw [hx hq2];simpa using ih
     | false=>
       cases hp2:p x with
       | true=>simp only [zkh,zjX,zjG,List.length_cons];omega
       | false=>simpa using ih
theorem zgA (m:List Ex) (z B:Int):zdw m z B≤B.toNat:=by
 unfold zdw;have:=zj3 (fun i:Nat=>((see m (i:Nat)).map fun t=>t.2.1) == some z) (List.range B.toNat)
 rwa [zkv] at this
theorem zat {zs:List Zn} {m:List Ex} (hf:rB zs m) (b:Int):(blockB zs m b).length=16:=by
 unfold blockB;cases hs:see m b with
 | none=>unfold bZ;rw [ziC]
 | some t=>
   simp only;rcases hf b t hs with h | ⟨h1,h2,h3⟩
   · rw [zij h];unfold bZ;rw [ziC]
   · split
     · unfold bZ;rw [ziC]
     · rw [zio,ziG];omega
theorem xS {f:Nat→List UInt8} (h:∀ i,(f i).length=16):∀ n,((List.range n).flatMap f).length=16*n
 | 0=>rfl
 | n+1=>by rw [zjU,ziS,zie,xS h n];simp [h];omega
theorem vH {f:Nat→List UInt8} (h:∀ i,(f i).length=16):∀ {n i:Nat},i<n→(((List.range n).flatMap f).drop (16*i)).take 16=f i
 | 0,_,hi=>by omega
 | n+1,i,hi=>by
   rw [zjU,ziS,List.drop_append,xS h n];by_cases hin:i<n
   · rw [ziW (by rw [ziG,xS h n];omega)]
     exact vH h hin
   · obtain rfl:i=n:=by omega
     rw [zjz (by rw [xS h];omega),Nat.sub_self]
     simp [zip,h]
section
variable {n:Nat} {M B:Int} {F:Nat→Int} {S:List Sp} {d:Zd} {h:Ho} {z:Int} {L:List Ex} {x:Ex}
theorem eZ.okho (hi:eZ n M F B S d h) (hsq:h.seq≤1000000):zdT h:=by
 have hn:=hi.n64;have hsq0:=hi.seq;refine ⟨?_,fun f hf=>?_,by rw [hi.id];omega,fun f hf=>?_,by omega⟩
 · cases ho:h.opn with
   | false=>rw [hi.shut ho];unfold zbE p0k yA;simp
   | true=>
     obtain ⟨k,hd,hk,k1,k2,k3,k4,k5⟩:=hi.opened ho;have hM:=hi.ok.1;have hkz:k<d.z.length:=by rw [hi.len];exact hk
     have hokz:=hi.ok.2.2 _ (zix (getD_some hkz));obtain ⟨_,_,_,h4⟩:=hokz;rw [k2];refine ⟨k3,by dsimp only;omega,by dsimp only;omega,by dsimp only;omega,by simp,by simp⟩
 · rw [hi.own] at hf
   obtain ⟨k,_,rfl⟩:=zja.1 hf;show 0≤(k:Int);omega
 · rw [hi.own] at hf
   obtain ⟨k,hk,rfl⟩:=zja.1 hf;have:=hi.F0 k (zjO.1 hk);show -9223372036854775808≤F k∧F k≤9223372036854775807;omega
theorem eZ.small (hi:eZ n M F B S d h) (hS:S.length≤1000000):eB h:=by
 have hn:=hi.n64;have hl:=hi.len9;have hB:=hi.bnd;refine ⟨by rw [hi.own,zjr,zkv];omega,by rw [hi.s];exact hS,?_,?_,by omega⟩
 · cases ho:h.opn with
   | false=>rw [hi.shut ho];simp [p0k]
   | true=>obtain ⟨k,hd,hk,k1,k2,k3,k4,k5⟩:=hi.opened ho;rw [k2];simp
 · cases ho:h.opn with
   | false=>rw [hi.shut ho];simp [p0k]
   | true=>obtain ⟨k,hd,hk,k1,k2,k3,k4,k5⟩:=hi.opened ho;rw [k2];simp
theorem eZ.okd (hi:eZ n M F B S d h):okD d:=by rw [hi.dev];exact hi.ok.ok
theorem eZ.piece (hi:eZ n M F B S d h) (hL:InE h.m z L) (hx:L.head?=some x) (hz:0≤z) :
 x∈h.m∧bO x∧x.zone=z∧aL x≤B∧z<n∧cN z x=x∧rX d h x=(List.range x.n.toNat).flatMap (fun i=>blockB d.z h.m (x.lba+(i:Nat)))∧((rX d h x).length:Int)=16*x.n∧x.off≤65536:=by
 have hxL:x∈L:=List.mem_of_mem_head? hx;obtain ⟨h1,h2⟩:=hL.may hi.chain hxL;have h3:x∈h.m:=by have:=hL.perm.mem_iff.1 hxL;exact (zji.1 this).1
 have h4:=hi.inB x h3;have hB:=hi.bnd;have hp:=h1.pos;have hb:aX x x.lba=true:=by unfold aX aL;simp;omega
 have hs:=fL hi.chain h3 hb;have hn256:x.n≤250:=by unfold aL at h4;omega
 have hmin:min x.n 256=x.n:=by omega
 have hdat:rX d h x=(List.range x.n.toNat).flatMap (fun i=>blockB d.z h.m (x.lba+(i:Nat))):=by
  unfold rX;rw [hmin,iM hi.chain h1.1 (by omega) hi.fit]
 have hfit:=hi.fit _ _ hs;have hz9:(seeE x x.lba).2.1=z:=h2;have hoff:(seeE x x.lba).2.2=x.off:=by unfold seeE;rw [zig (by omega)];simp
 rw [hz9,hoff] at hfit;rcases hfit with hfit | ⟨f1,f2,f3⟩
 · omega
 have hkz:z.toNat<d.z.length:=by omega
 have hokz:=hi.ok.2.2 _ (zix (getD_some hkz));have hM:=hi.ok.1;obtain ⟨_,_,_,g4⟩:=hokz;refine ⟨h3,h1,h2,h4,by rw [←hi.len];exact f1,?_,hdat,?_,by omega⟩
 · unfold cN
   rw [hmin,←h2]
 · rw [hdat,xS (fun i=>zat hi.fit _)]
   omega
theorem eZ.rec5 (hi:eZ n M F B S d h) (hL:InE h.m z L) (hx:L.head?=some x) (hz:0≤z) (hv:h.ver≤900000):lZ (lX d h z x)∧eY [lX d h z x]=0:=by
 obtain ⟨h1,h2,h3,h4,h5,h6,h7,h8,h9⟩:=hi.piece hL hx hz;have hold:=hi.oldE x h1;have hB:=hi.bnd;have hp:=h2.pos;have hn:=hi.n64;obtain ⟨⟨b1,b2,b3,b4⟩,m1,m2,m3,m4,_⟩:=h2;unfold aL at h4;have hr:lX d h z x=⟨5,x.lba,x.n,x.ver,x.zone,x.off,rX d h x⟩:=by unfold lX;rw [h6];rfl
 have hok:lZ (lX d h z x):=by
  rw [hr];intro v hv9;simp only [kE,zim,ziJ,zju] at hv9;omega
 refine ⟨hok,kL fun r hr9=>?_⟩
 rw [ziw] at hr9;subst hr9;rw [mD hok ?_];rw [hr];unfold checkL;simp only;rw [zig (by omega),zig (by omega),zig (fun h=>h.1 (.inr trivial)),zig (by omega),zig (by omega),zij (.inr trivial),zig (by omega)]
theorem eZ.moved (hi:eZ n M F B S d h) (hL:InE h.m z L) (hx:L.head?=some x) (hz:0≤z) (hw:bK h z=false) {k:Nat} {hd:Hd} {sq:Int} {zs:List Zn} {o:Int} (hp:vN n M F d h [lX d h z x] k hd sq zs [o]) :
 (k:Int)≠z∧bO ⟨x.lba,x.n,x.ver,k,o⟩∧(gL h.m x ⟨x.lba,x.n,x.ver,k,o⟩=[⟨x.lba,x.n,x.ver,k,o⟩]∧(putE h.m (gL h.m x ⟨x.lba,x.n,x.ver,k,o⟩)).length≤10000∧aC 0 (joinE (gL h.m x ⟨x.lba,x.n,x.ver,k,o⟩))) ∧
  eZ n M F B S (cO M zs) ⟨h.id,h.own,h.s,true,⟨hd,k,M,(zs.getD k z0).d.length,[],[]⟩,putE h.m (gL h.m x ⟨x.lba,x.n,x.ver,k,o⟩),h.ver,sq⟩ ∧
  iO d.z h.m zs (putE h.m (gL h.m x ⟨x.lba,x.n,x.ver,k,o⟩))∧zdw (putE h.m (gL h.m x ⟨x.lba,x.n,x.ver,k,o⟩)) z B<zdw h.m z B:=by
 obtain ⟨h1,h2,h3,h4,h5,h6,h7,h8,h9⟩:=hi.piece hL hx hz;have hB:=hi.bnd;have hpos:=h2.pos;have hn:=hi.n64;have hk:=hp.kl;obtain ⟨o',ho',p1,p2,p3⟩:=hp.one;injection ho' with ho' _;subst ho';have hlong:=hp.long hi.most hi.len;have hdata:(lX d h z x).data=rX d h x:=rfl;rw [hdata] at p2 p3;have hb0:aX x x.lba=true:=by unfold aX aL;simp;omega
 have hs0:=fL hi.chain h1 hb0;have hkz:(k:Int)≠z:=by
  intro e;rcases hp.new with ⟨e1,e2⟩ | e1
  · unfold bK at hw
    rw [e1,e2,ziu e] at hw;cases hw
  · have hfit:=hi.fit _ _ hs0
    have hz9:(seeE x x.lba).2.1=z:=h3;rw [hz9,←e,Int.toNat_natCast,e1] at hfit;simp only [List.length_nil] at hfit;omega
 unfold aL at h4;have hmay:bO ⟨x.lba,x.n,x.ver,k,o⟩:=⟨h2.1,h2.2.1,by show -1≤(k:Int);omega,by show (k:Int)≤1099511627776;omega,p1,fun e=>by have:(k:Int) = -1:=e;omega,fun _=>by show o≤1125899906842624-16*x.n;omega⟩
 obtain ⟨m1,m2,m3,m4⟩:=zgk hi.chain h1 hmay ⟨rfl,rfl⟩;have hfar:∀ b,B≤b→see (putE h.m (gL h.m x ⟨x.lba,x.n,x.ver,k,o⟩)) b=none:=fun b hb=>by
  rw [m4,zig (by unfold aX aL;simp;omega)]
  exact hi.far b hb
 have hlen:=oJ m2 hB.1 hfar;have hzl:zs.length=n:=by rw [hp.grown.1];exact hi.len
 have hse:∀ b,aX x b=true→seeE (⟨x.lba,x.n,x.ver,k,o⟩:Ex) b=(x.ver,(k:Int),o+(b-x.lba)*16):=fun b _=>by
  unfold seeE;rw [zig (by show ¬(k:Int) = -1;omega)]
 have hsx:∀ b,aX x b=true→see h.m b=some (x.ver,z,x.off+(b-x.lba)*16):=fun b hb=>by
  rw [fL hi.chain h1 hb];unfold seeE;rw [zig (by omega),h3]
 have hhas:∀ b,aX x b=true→x.lba≤b∧b<x.lba+x.n:=fun b hb=>by unfold aX aL at hb;simpa using hb
 have hblk:∀ b,aX x b=true→((zs.getD k z0).d.drop (o+(b-x.lba)*16).toNat).take 16=blockB d.z h.m b:=fun b hb=>by
  have hb1:=hhas b hb;have h16:=vH (f:=fun i:Nat=>blockB d.z h.m (x.lba+(i:Nat))) (fun i=>zat hi.fit _) (n:=x.n.toNat) (i:=(b-x.lba).toNat) (by omega)
  rw [←h7,←qR p3 (by omega),show o.toNat+16*(b-x.lba).toNat=(o+(b-x.lba)*16).toNat by omega] at h16
  rw [h16];congr 1
  omega
 refine ⟨hkz,hmay,⟨m1,by omega,m3⟩,hi.grow hp m2 hfar (fun b t ht=>?_) hi.ver (fun b t ht=>?_),fun b=>?_,?_⟩
 · rw [m4] at ht
   split at ht
   · rename_i hb
     have hb1:=hhas b hb;rw [hse b hb] at ht;injection ht with ht;rw [←ht];exact .inr ⟨by dsimp only;omega,by dsimp only;omega,by dsimp only;rw [Int.toNat_natCast];omega⟩
   · exact hp.grown.fit hi.fit b t ht
 · rw [m4] at ht
   split at ht
   · rename_i hb
     rw [hse b hb] at ht;injection ht with ht;rw [←ht];exact hi.oldE x h1
   · exact hi.old b t ht
 · unfold blockB
   rw [m4];split
   · rename_i hb
     rw [hse b hb];refine ⟨?_,?_⟩
     · rw [hsx b hb]
       simp only [Option.map_some,ziL,zj4,zkn,zkA];omega
     · have:=hblk b hb
       simp only;rw [zig (by omega),Int.toNat_natCast,this]
       rfl
   · refine ⟨rfl,?_⟩
     have:=hp.grown.block hi.fit b;unfold blockB at this;exact this
 · unfold zdw
   refine vY (fun i hi9 hq=>?_) ⟨x.lba.toNat,zjO.2 (by omega),?_,?_⟩
   · rw [m4] at hq
     split at hq
     · rename_i hb
       rw [hse _ hb] at hq;simp only [Option.map_some,zkb,ziL] at hq;exact absurd hq hkz
     · exact hq
   · rw [show ((x.lba.toNat:Nat):Int)=x.lba by omega,hsx _ hb0]
     simp
   · rw [show ((x.lba.toNat:Nat):Int)=x.lba by omega,m4,zij hb0,hse _ hb0]
     simpa using hkz
theorem jA (p:Ex→Bool):∀ {l:List Ex} {b:Int},aC b l→aC b (l.filter p)
 | [],_,_=>trivial
 | e::l,b,h=>by
   obtain ⟨h1,h2,h3⟩:=h;have hp:=h1.pos;rw [zj9];split
   · exact ⟨h1,h2,jA p h3⟩
   · exact dS (jA p h3) (by unfold aL;omega)
def goneE (m:List Ex):List Ex:=m.filter fun e=>!decide (0≤e.zone)
def lV (h:Ho):Rc:=⟨4,0,0,max (h.ver-1) 0,0,0,mW (goneE h.m)⟩
def dP (d:Zd) (h:Ho) (z:Int):Zd × Ho × Int:=
 if goneE h.m=[] then (d,h,0) else if 32768<(mW (goneE h.m)).length then (d,h,2)
 else ((bP d h [lV h]).1,(bP d h [lV h]).2.1,if (bP d h [lV h]).2.2.2=0∧bK (bP d h [lV h]).2.1 z=true then 60 else (bP d h [lV h]).2.2.2)
def zO (h:Ho) (z:Int):Nat:=h.own.findIdx fun f=>decide (f.zone=z)
def zgY (d:Zd) (h:Ho) (z:Int):Zd × Dn:=doZ (dP d h z).1 ⟨3,z,(h.own.getD (zO h z) ⟨0,0,0⟩).epoch,0,0,[]⟩
def eD (d:Zd) (h:Ho) (z:Int):Zd × Ho × Int:=
 if ¬zO h z<h.own.length then (cQ,fY,4)
 else if bK h z=true∨iU h.m z=true then (cQ,fY,60)
 else if (dP d h z).2.2≠0 then (cQ,fY,(dP d h z).2.2)
 else if (zgY d h z).2.e≠0 then (cQ,fY,(zgY d h z).2.e) else ((zgY d h z).1,(dP d h z).2.1,0)
theorem zfm {m:List Ex} (hm:∀ e∈m,bO e∧e.ver≤9223372036854775807):(mW m).length≤50*m.length:=by
 induction m with
 | nil=>simp [mW]
 | cons e m ih=>
   obtain ⟨h1,h2⟩:=hm e (zih ..);have h3:=fZ (zfy h1 h2).1;have h4:(exN e).length=5:=rfl;have h5:=ih fun x hx=>hm x (zii _ hx)
   show (flatN (exN e)++mW m).length≤_;rw [zie,List.length_cons];omega
theorem eZ.gone (hi:eZ n M F B S d h) (hv:h.ver≤900000):aC 0 (goneE h.m)∧(goneE h.m).length≤250∧(mW (goneE h.m)).length≤12500∧∀ e∈goneE h.m,e.ver≤9223372036854775807:=by
 have hl:=hi.len9;have hB:=hi.bnd;have h1:aC 0 (goneE h.m):=jA _ hi.chain;have h2:(goneE h.m).length≤h.m.length:=zj3 _ _;have h3:∀ e∈goneE h.m,e.ver≤9223372036854775807:=fun e he=>by have:=hi.oldE e (zji.1 he).1;omega
 have h4:=zfm (m:=goneE h.m) fun e he=>⟨(aM h1 e he).1,h3 e he⟩
 exact ⟨h1,by omega,by omega,h3⟩
theorem eZ.rec4 (hi:eZ n M F B S d h) (hv:h.ver≤900000):lZ (lV h)∧eY [lV h]=0:=by
 have hver:=hi.ver;have hg:=(hi.gone hv).2.2.1;have hok:lZ (lV h):=by
  intro v hv9;simp only [kE,lV,zim,ziJ,zju] at hv9;omega
 refine ⟨hok,kL fun r hr9=>?_⟩
 rw [ziw] at hr9;subst hr9;rw [mD hok ?_];unfold checkL lV;simp only;rw [zig (by omega),zig (by omega),zig (fun h=>by rcases h.2 with h | h <;> exact h rfl),zij trivial,zig (by rintro (h | h) <;> exact h rfl),zig (by omega)]
theorem eZ.kept (hi:eZ n M F B S d h) (hv:h.ver≤900000) (hsq:h.seq≤900000) (hw:bK h z=false) (h0:(dP d h z).2.2=0) :
 eZ n M F B S (dP d h z).1 (dP d h z).2.1∧iO d.z h.m (dP d h z).1.z h.m∧(dP d h z).2.1.m=h.m∧(dP d h z).2.1.ver=h.ver∧(dP d h z).2.1.seq≤h.seq+1∧bK (dP d h z).2.1 z=false:=by
 obtain ⟨h1,h2⟩:=hi.rec4 hv;have hlong:=(hi.gone hv).2.2.1;by_cases hg:goneE h.m=[]
 · have e:dP d h z=(d,h,0):=by unfold dP;rw [zij hg]
   rw [e];exact ⟨hi,iO.refl _ _,rfl,rfl,by show h.seq≤h.seq+1;omega,hw⟩
 · have e:dP d h z=((bP d h [lV h]).1,(bP d h [lV h]).2.1,if (bP d h [lV h]).2.2.2=0∧bK (bP d h [lV h]).2.1 z=true then 60 else (bP d h [lV h]).2.2.2):=by unfold dP;rw [zig hg,zig (by omega)]
   rw [e] at h0 ⊢;rcases put_gen hi (by simp) h2 (by simpa using h1) hsq with hno | ⟨k,hd,sq,zs,at_,hp⟩
   · rw [hno] at h0;simp at h0
   · rw [hp.put] at h0 ⊢
     refine ⟨hi.grow hp hi.chain hi.far (hp.grown.fit hi.fit) hi.ver hi.old,fun b=>⟨rfl,hp.grown.block hi.fit b⟩,rfl,rfl,hp.seqs.2,?_⟩
     cases hww:bK ⟨h.id,h.own,h.s,true,⟨hd,(k:Int),M,(zs.getD k z0).d.length,[],[]⟩,h.m,h.ver,sq⟩ z with
     | false=>rfl
     | true=>
       exfalso
       have h9:(60:Int)=0:=by rw [←h0];exact (zij ⟨rfl,hww⟩).symm
       omega
theorem qI {M:Int} {zs:List Zn} {i:Nat} {z:Zn} (h:OkA M zs) (hz:zs[i]?=some z):doZ (cO M zs) ⟨3,i,z.fe,0,0,[]⟩=(cO M (zs.set i (sZ z)),dn0):=by
 rw [jF h hz (by simp) rfl (.inr rfl)]
 have hk:doK (cO M zs) i ⟨3,i,z.fe,0,0,[]⟩=(0,zs.set i (sZ z),dn0):=by unfold doK;rw [jJ hz];simp [cO]
 rw [hk];simp [cO]
theorem zhB {z:Zn} {M:Int} (h:okZ z M):okZ (sZ z) M:=⟨h.1,h.2.1,h.2.2.1,.inl ⟨rfl,rfl⟩⟩
theorem vW (hi:eZ n M F B S d h) (hz:0≤z∧z<n):zO h z=z.toNat∧zO h z<h.own.length∧h.own.getD (zO h z) ⟨0,0,0⟩=⟨z,1,F z.toNat⟩:=by
 have hl:h.own.length=n:=by rw [hi.own,zjr,zkv]
 have hzn:z.toNat<n:=by omega
 have hget:∀ j,j<n→h.own[j]?=some ⟨(j:Int),1,F j⟩:=fun j hj=>by rw [hi.own,zj1,List.getElem?_range hj];rfl
 have h1:zO h z=z.toNat:=by
  unfold zO;rw [zk4 (by omega)]
  refine ⟨?_,fun j hj=>?_⟩
  · have:=zil.1 (hget z.toNat hzn)
    obtain ⟨_,e⟩:=this;rw [e];exact ziu (by show ((z.toNat:Nat):Int)=z;omega)
  · have:=zil.1 (hget j (by omega))
    obtain ⟨_,e⟩:=this;rw [e];exact ziv (by show ¬(j:Int)=z;omega)
 refine ⟨h1,by omega,?_⟩
 rw [h1,ziF,hget _ hzn];show (⟨((z.toNat:Nat):Int),1,F z.toNat⟩:Fn)=_;rw [show ((z.toNat:Nat):Int)=z by omega]
theorem eZ.resets (hi:eZ n M F B S d h) (hz:0≤z∧z<n) (hv:h.ver≤900000) (hsq:h.seq≤900000) (h0:(eD d h z).2.2=0) :
 eZ n M F B S (eD d h z).1 (eD d h z).2.1∧iO d.z h.m (eD d h z).1.z (eD d h z).2.1.m∧(eD d h z).2.1.ver=h.ver∧(eD d h z).2.1.seq≤h.seq+1:=by
 obtain ⟨a1,a2,a3⟩:=vW hi hz;unfold eD at h0 ⊢;rw [zig (by simpa using a2)] at h0 ⊢
 by_cases hw:bK h z=true∨iU h.m z=true
 · rw [zij hw] at h0;simp at h0
 rw [zig hw] at h0 ⊢;by_cases hk:(dP d h z).2.2≠0
 · rw [zij hk] at h0;exact absurd h0 hk
 rw [zig hk] at h0 ⊢;rw [ziT] at hk;have hw1:bK h z=false:=by cases h9:bK h z with | false=>rfl | true=>exact absurd (.inl h9) hw
 have hw2:iU h.m z=false:=by cases h9:iU h.m z with | false=>rfl | true=>exact absurd (.inr h9) hw
 obtain ⟨k1,k2,k3,k4,k5,k6⟩:=hi.kept hv hsq hw1 hk;have hrd:zgY d h z=doZ (dP d h z).1 ⟨3,z,F z.toNat,0,0,[]⟩:=by unfold zgY;rw [a3]
 rw [hrd] at h0 ⊢;generalize (dP d h z).1=d1 at *;generalize (dP d h z).2.1=h1 at *;have hkz:z.toNat<d1.z.length:=by rw [k1.len];omega
 have hzz:=getD_some hkz;have hrs:=qI k1.ok hzz;rw [k1.fe _ (by omega),←k1.dev,show ((z.toNat:Nat):Int)=z by omega] at hrs
 rw [hrs];simp only [dn0,ne_eq,zk3,zjG];have hno:∀ b t,see h.m b=some t→t.2.1≠z:=fun b t ht e=>by
  unfold iU at hw2;have hb:=qM hi.chain b;rw [ht] at hb;obtain ⟨x,hx,hxb,hxt,_⟩:=hb;have:h.m.any (fun e=>decide (e.zone=z))=true:=zkD.2 ⟨x,hx,ziu (by rw [←e,←hxt];rfl)⟩
  simp [this] at hw2
 have hD:∀ j,j≠z.toNat→(d1.z.set z.toNat (sZ (d1.z.getD z.toNat z0))).getD j z0=d1.z.getD j z0:=fun j hj=>by rw [gW hkz,zig hj]
 have hsm:∀ b t,see h1.m b=some t→0≤t.2.1→t.2.1.toNat≠z.toNat:=fun b t ht h9 e=>by rw [k3] at ht;exact hno b t ht (by omega)
 have hblk:∀ b,blockB (d1.z.set z.toNat (sZ (d1.z.getD z.toNat z0))) h1.m b=blockB d1.z h1.m b:=fun b=>by
  unfold blockB;cases hs:see h1.m b with
  | none=>rfl
  | some t=>
    simp only;split
    · rfl
    · rw [hD _ (hsm b t hs (by omega))]
 refine ⟨{ dev:=rfl,ok:=k1.ok.set (zhB (k1.ok.2.2 _ (zix hzz))),most:=k1.most,bnd:=k1.bnd,len:=by show (d1.z.set _ _).length=n;rw [zjs];exact k1.len,fe:=fun j hj=>?_,F0:=k1.F0,id:=k1.id,own:=k1.own,s:=k1.s,chain:=k1.chain,far:=k1.far,fit:=fun b t ht=>?_,ver:=k1.ver,old:=k1.old,seq:=k1.seq,opened:=fun ho=>?_,shut:=k1.shut },fun b=>⟨by rw [k3],?_⟩,k4,k5⟩
 · show ((d1.z.set z.toNat (sZ (d1.z.getD z.toNat z0))).getD j z0).fe=F j
   by_cases hj9:j=z.toNat
   · rw [gW hkz,zij hj9,hj9];exact k1.fe _ (by omega)
   · rw [hD j hj9];exact k1.fe j hj
 · rcases k1.fit b t ht with h9 | ⟨f1,f2,f3⟩
   · exact .inl h9
   · by_cases h9:t.2.1<0
     · exact .inl h9
     · refine .inr ⟨by show t.2.1<((d1.z.set _ _).length:Int);rw [zjs];exact f1,f2,?_⟩
       show t.2.2+16≤(((d1.z.set z.toNat (sZ (d1.z.getD z.toNat z0))).getD t.2.1.toNat z0).d.length:Int);rw [hD _ (hsm b t ht (by omega))]
       exact f3
 · obtain ⟨k,hd,hk9,g1,g2,g3,g4,g5⟩:=k1.opened ho
   have hkz9:k≠z.toNat:=fun e=>by
    unfold bK at k6;rw [ho,g2,ziu (show ((k:Nat):Int)=z by omega)] at k6
    cases k6
   refine ⟨k,hd,hk9,?_⟩;show ((d1.z.set z.toNat (sZ (d1.z.getD z.toNat z0))).getD k z0).d≠[]∧h1.p=⟨hd,k,M,((d1.z.set z.toNat (sZ (d1.z.getD z.toNat z0))).getD k z0).d.length,[],[]⟩∧yA hd∧hd.epoch=F k∧(d1.z.set z.toNat (sZ (d1.z.getD z.toNat z0))).getD k z0=gS (F k) M ((d1.z.set z.toNat (sZ (d1.z.getD z.toNat z0))).getD k z0).d;rw [hD k hkz9];exact ⟨g1,g2,g3,g4,g5⟩
 · show blockB (d1.z.set z.toNat (sZ (d1.z.getD z.toNat z0))) h1.m b=blockB d.z h.m b
   rw [hblk b,k3];exact (k2 b).2
end
