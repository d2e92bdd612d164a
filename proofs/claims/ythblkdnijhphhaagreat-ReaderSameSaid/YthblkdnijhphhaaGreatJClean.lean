/- A part of the proof. -/
import Derived.Test.YthblkdnijhphhaaGreatJLaw
import Derived.Test.YthblkdnijhphhaaGreatCopy1
set_option maxHeartbeats 2000000
namespace Go.Proofs.YthblkdnijhphhaaGreat
open Go.RowKit
theorem znO {α:Type} {p:α→Bool}:∀ {l:List α},(∀ x∈l,p x=false)→l.takeWhile p=[]
 | [],_=>rfl
 | x::l,h=>by rw [List.takeWhile_cons,h x (List.mem_cons_self ..)];rfl
theorem zlD {m:List Ex} {x:Ex} (h:za2 0 m) (hx:x∈m):partE m x.lba x.n=[x]:=by
 obtain ⟨A,C,rfl⟩:=List.append_of_mem hx;obtain ⟨hA,hm,hl,hC⟩:=zae.1 h;have hp:=hm.pos;have h1:∀ e∈A,decide (x.lba<endE e)=false:=fun e he=>decide_eq_false (by have:=zeA hA e he;omega)
 have h2:decide (x.lba<endE x)=true:=decide_eq_true (by unfold endE;omega)
 have hf:firstE (A++x::C) x.lba=A.length:=by
  unfold firstE;rw [List.findIdx_append];have:¬A.findIdx (fun e=>decide (x.lba<endE e))<A.length:=fun hlt=>by
   have h3:=List.findIdx_getElem (w:=hlt);rw [h1 _ (List.getElem_mem hlt)] at h3;cases h3
  rw [if_neg this,List.findIdx_cons,h2];simp
 have hmid:midE (A++x::C) x.lba x.n=[x]:=by
  unfold midE;rw [hf,List.drop_left,List.takeWhile_cons,decide_eq_true (show x.lba<x.lba+x.n by omega)]
  simp only [if_true];rw [znO fun e he=>decide_eq_false (by have:=(zai hC e he).2;unfold endE at this;omega)]
 unfold partE;rw [hmid];show [uptoE (fromE x x.lba) (x.lba+x.n)]=[x];have h3:fromE x x.lba=x:=by unfold fromE;rw [if_neg (by omega)]
 rw [h3];unfold uptoE;rw [show min x.n (x.lba+x.n-x.lba)=x.n by omega]
theorem zol {m:List Ex} {x t:Ex} (h:za2 0 m) (hx:x∈m) (ht:mayE t) (hs:t.lba=x.lba∧t.n=x.n) :
 movE m x t=[t]∧za2 0 (putE m (movE m x t))∧za2 0 (joinE (movE m x t))∧∀ b,see (putE m (movE m x t)) b=if hasE x b=true then some (seeE t b) else see m b:=by
 have hw:∀ y:Ex,withinE y y.lba y.n=y:=fun y=>by unfold withinE;rw [Int.sub_self,Int.mul_zero,Int.add_zero,ite_self]
 have hm:movE m x t=[t]:=by
  unfold movE;rw [zlD h hx];unfold movP;rw [List.filter_cons,decide_eq_true (hw x).symm];simp only [if_true,List.filter_nil,List.map_cons,List.map_nil];rw [←hs.1,←hs.2,hw]
 have hp:=ht.pos;obtain ⟨p1,p2,p3⟩:=zgm (e:=t) [t] m h (by
  intro w hw9;rw [List.mem_singleton] at hw9;subst hw9;exact ⟨ht,fun b hb=>⟨hb,rfl⟩⟩)
 have hj:=zck p1;rw [hm];refine ⟨rfl,hj.1,?_,fun b=>?_⟩
 · show za2 0 [t]
   exact ⟨ht,hp.2,trivial⟩
 · unfold putE
   rw [hj.2.1];have hx9:hasE x b=hasE t b:=by unfold hasE endE;rw [hs.1,hs.2]
   by_cases hb:hasE t b=true
   · rw [hx9,if_pos hb]
     exact p2 b ⟨t,List.mem_singleton.2 rfl,hb⟩
   · rw [hx9,if_neg hb]
     exact p3 b fun ⟨w,hw9,hb9⟩=>by rw [List.mem_singleton] at hw9;subst hw9;exact hb hb9
def zcN (zs:List Zn) (m:List Ex) (zs':List Zn) (m':List Ex):Prop:=∀ b,((see m' b).map fun t=>(t.1,decide (t.2.1<0)))=((see m b).map fun t=>(t.1,decide (t.2.1<0)))∧zaa zs' m' b=zaa zs m b
theorem zcN.refl (zs:List Zn) (m:List Ex):zcN zs m zs m:=fun _=>⟨rfl,rfl⟩
theorem zcN.trans {zs zs' zs'':List Zn} {m m' m'':List Ex} (h:zcN zs m zs' m') (h':zcN zs' m' zs'' m''):zcN zs m zs'' m'':=fun b=>⟨(h' b).1.trans (h b).1,(h' b).2.trans (h b).2⟩
theorem zcN.some {zs zs':List Zn} {m m':List Ex} (h:zcN zs m zs' m') {b:Int} {t:Int × Int × Int} (hb:see m b=some t):∃ t',see m' b=some t'∧t'.1=t.1∧(t'.2.1<0↔t.2.1<0):=by
 have h1:=(h b).1;rw [hb] at h1;cases hs:see m' b with
 | none=>rw [hs] at h1;cases h1
 | some t'=>
   rw [hs] at h1;simp only [Option.map_some,Option.some.injEq,Prod.mk.injEq,decide_eq_decide] at h1;exact ⟨t',rfl,h1.1,h1.2⟩
def cntJ (m:List Ex) (z B:Int):Nat:=((List.range B.toNat).filter fun i=>((see m (i:Nat)).map fun t=>t.2.1) == some z).length
theorem zeS {p q:Nat→Bool}:∀ {l:List Nat},(∀ i∈l,q i=true→p i=true)→(l.filter q).length≤(l.filter p).length
 | [],_=>by simp
 | x::l,h=>by
   have ih:=zeS (l:=l) fun i hi=>h i (List.mem_cons_of_mem _ hi)
   have hx:=h x (List.mem_cons_self ..);rw [List.filter_cons,List.filter_cons];cases hq:q x with
   | true=>rw [hx hq];simpa using ih
   | false=>
     cases hp:p x with
     | true=>simp only [if_true,Bool.false_eq_true,if_false,List.length_cons];omega
     | false=>simpa using ih
theorem zgT {p q:Nat→Bool}:∀ {l:List Nat},(∀ i∈l,q i=true→p i=true)→(∃ i∈l,p i=true∧q i=false)→(l.filter q).length<(l.filter p).length
 | [],_,⟨_,h,_⟩=>by cases h
 | x::l,h,⟨i,hi,hp,hq⟩=>by
   have hle:=zeS (l:=l) fun i hi=>h i (List.mem_cons_of_mem _ hi)
   have hx:=h x (List.mem_cons_self ..);rw [List.filter_cons,List.filter_cons];rcases List.mem_cons.1 hi with rfl | hi'
   · rw [hp,hq]
     simp only [if_true,Bool.false_eq_true,if_false,List.length_cons];omega
   · have ih:=zgT (l:=l) (fun i hi=>h i (List.mem_cons_of_mem _ hi)) ⟨i,hi',hp,hq⟩
     cases hq2:q x with
     | true=>rw [hx hq2];simpa using ih
     | false=>
       cases hp2:p x with
       | true=>simp only [if_true,Bool.false_eq_true,if_false,List.length_cons];omega
       | false=>simpa using ih
theorem zon (m:List Ex) (z B:Int):cntJ m z B≤B.toNat:=by
 unfold cntJ;have:=List.length_filter_le (fun i:Nat=>((see m (i:Nat)).map fun t=>t.2.1) == some z) (List.range B.toNat)
 rwa [List.length_range] at this
theorem ziY {zs:List Zn} {m:List Ex} (hf:FitE zs m) (b:Int):(zaa zs m b).length=16:=by
 unfold zaa;cases hs:see m b with
 | none=>unfold zaI;rw [List.length_replicate]
 | some t=>
   simp only;rcases hf b t hs with h | ⟨h1,h2,h3⟩
   · rw [if_pos h];unfold zaI;rw [List.length_replicate]
   · split
     · unfold zaI;rw [List.length_replicate]
     · rw [List.length_take,List.length_drop];omega
theorem zhj {f:Nat→List UInt8} (h:∀ i,(f i).length=16):∀ n,((List.range n).flatMap f).length=16*n
 | 0=>rfl
 | n+1=>by rw [List.range_succ,List.flatMap_append,List.length_append,zhj h n];simp [h];omega
theorem zh9 {f:Nat→List UInt8} (h:∀ i,(f i).length=16):∀ {n i:Nat},i<n→(((List.range n).flatMap f).drop (16*i)).take 16=f i
 | 0,_,hi=>by omega
 | n+1,i,hi=>by
   rw [List.range_succ,List.flatMap_append,List.drop_append,zhj h n];by_cases hin:i<n
   · rw [List.take_append_of_le_length (by rw [List.length_drop,zhj h n];omega)]
     exact zh9 h hin
   · obtain rfl:i=n:=by omega
     rw [List.drop_of_length_le (by rw [zhj h];omega),Nat.sub_self]
     simp [List.take_of_length_le,h]
section
variable {n:Nat} {M B:Int} {F:Nat→Int} {S:List Sp} {d:Zd} {h:Ho} {z:Int} {L:List Ex} {x:Ex}
theorem JInv.okho (hi:JInv n M F B S d h) (hsq:h.seq≤1000000):OkHo h:=by
 have hn:=hi.n64;have hsq0:=hi.seq;refine ⟨?_,fun f hf=>?_,by rw [hi.id];omega,fun f hf=>?_,by omega⟩
 · cases ho:h.opn with
   | false=>rw [hi.shut ho];unfold OkPk p0k OkHd;simp
   | true=>
     obtain ⟨k,hd,hk,k1,k2,k3,k4,k5⟩:=hi.opened ho;have hM:=hi.ok.1;have hkz:k<d.z.length:=by rw [hi.len];exact hk
     have hokz:=hi.ok.2.2 _ (List.mem_of_getElem? (getD_some hkz));obtain ⟨_,_,_,h4⟩:=hokz;rw [k2];refine ⟨k3,by dsimp only;omega,by dsimp only;omega,by dsimp only;omega,by simp,by simp⟩
 · rw [hi.own] at hf
   obtain ⟨k,_,rfl⟩:=List.mem_map.1 hf;show 0≤(k:Int);omega
 · rw [hi.own] at hf
   obtain ⟨k,hk,rfl⟩:=List.mem_map.1 hf;have:=hi.F0 k (List.mem_range.1 hk);show -9223372036854775808≤F k∧F k≤9223372036854775807;omega
theorem JInv.small (hi:JInv n M F B S d h) (hS:S.length≤1000000):zbm h:=by
 have hn:=hi.n64;have hl:=hi.len9;have hB:=hi.bnd;refine ⟨by rw [hi.own,List.length_map,List.length_range];omega,by rw [hi.s];exact hS,?_,?_,by omega⟩
 · cases ho:h.opn with
   | false=>rw [hi.shut ho];simp [p0k]
   | true=>obtain ⟨k,hd,hk,k1,k2,k3,k4,k5⟩:=hi.opened ho;rw [k2];simp
 · cases ho:h.opn with
   | false=>rw [hi.shut ho];simp [p0k]
   | true=>obtain ⟨k,hd,hk,k1,k2,k3,k4,k5⟩:=hi.opened ho;rw [k2];simp
theorem JInv.okd (hi:JInv n M F B S d h):okD d:=by rw [hi.dev];exact hi.ok.ok
theorem JInv.piece (hi:JInv n M F B S d h) (hL:InE h.m z L) (hx:L.head?=some x) (hz:0≤z) :
 x∈h.m∧mayE x∧x.zone=z∧endE x≤B∧z<n∧zaP z x=x∧zgx d h x=(List.range x.n.toNat).flatMap (fun i=>zaa d.z h.m (x.lba+(i:Nat)))∧((zgx d h x).length:Int)=16*x.n∧x.off≤65536:=by
 have hxL:x∈L:=List.mem_of_mem_head? hx;obtain ⟨h1,h2⟩:=hL.may hi.chain hxL;have h3:x∈h.m:=by have:=hL.perm.mem_iff.1 hxL;exact (List.mem_filter.1 this).1
 have h4:=hi.inB x h3;have hB:=hi.bnd;have hp:=h1.pos;have hb:hasE x x.lba=true:=by unfold hasE endE;simp;omega
 have hs:=zc1 hi.chain h3 hb;have hn256:x.n≤250:=by unfold endE at h4;omega
 have hmin:min x.n 256=x.n:=by omega
 have hdat:zgx d h x=(List.range x.n.toNat).flatMap (fun i=>zaa d.z h.m (x.lba+(i:Nat))):=by
  unfold zgx;rw [hmin,zbG hi.chain h1.1 (by omega) hi.fit]
 have hfit:=hi.fit _ _ hs;have hz9:(seeE x x.lba).2.1=z:=h2;have hoff:(seeE x x.lba).2.2=x.off:=by unfold seeE;rw [if_neg (by omega)];simp
 rw [hz9,hoff] at hfit;rcases hfit with hfit | ⟨f1,f2,f3⟩
 · omega
 have hkz:z.toNat<d.z.length:=by omega
 have hokz:=hi.ok.2.2 _ (List.mem_of_getElem? (getD_some hkz));have hM:=hi.ok.1;obtain ⟨_,_,_,g4⟩:=hokz;refine ⟨h3,h1,h2,h4,by rw [←hi.len];exact f1,?_,hdat,?_,by omega⟩
 · unfold zaP
   rw [hmin,←h2]
 · rw [hdat,zhj (fun i=>ziY hi.fit _)]
   omega
theorem JInv.rec5 (hi:JInv n M F B S d h) (hL:InE h.m z L) (hx:L.head?=some x) (hz:0≤z) (hv:h.ver≤900000):OkRc (recX d h z x)∧errL [recX d h z x]=0:=by
 obtain ⟨h1,h2,h3,h4,h5,h6,h7,h8,h9⟩:=hi.piece hL hx hz;have hold:=hi.oldE x h1;have hB:=hi.bnd;have hp:=h2.pos;have hn:=hi.n64;obtain ⟨⟨b1,b2,b3,b4⟩,m1,m2,m3,m4,_⟩:=h2;unfold endE at h4;have hr:recX d h z x=⟨5,x.lba,x.n,x.ver,x.zone,x.off,zgx d h x⟩:=by unfold recX;rw [h6];rfl
 have hok:OkRc (recX d h z x):=by
  rw [hr];intro v hv9;simp only [recN,List.mem_cons,List.not_mem_nil,or_false] at hv9;omega
 refine ⟨hok,zdn fun r hr9=>?_⟩
 rw [List.mem_singleton] at hr9;subst hr9;rw [ze7 hok ?_];rw [hr];unfold checkL;simp only;rw [if_neg (by omega),if_neg (by omega),if_neg (fun h=>h.1 (.inr trivial)),if_neg (by omega),if_neg (by omega),if_pos (.inr trivial),if_neg (by omega)]
theorem JInv.moved (hi:JInv n M F B S d h) (hL:InE h.m z L) (hx:L.head?=some x) (hz:0≤z) (hw:zaw h z=false) {k:Nat} {hd:Hd} {sq:Int} {zs:List Zn} {o:Int} (hp:zh6 n M F d h [recX d h z x] k hd sq zs [o]) :
 (k:Int)≠z∧mayE ⟨x.lba,x.n,x.ver,k,o⟩∧(movE h.m x ⟨x.lba,x.n,x.ver,k,o⟩=[⟨x.lba,x.n,x.ver,k,o⟩]∧(putE h.m (movE h.m x ⟨x.lba,x.n,x.ver,k,o⟩)).length≤10000∧za2 0 (joinE (movE h.m x ⟨x.lba,x.n,x.ver,k,o⟩))) ∧
  JInv n M F B S (devA M zs) ⟨h.id,h.own,h.s,true,⟨hd,k,M,(zs.getD k z0).d.length,[],[]⟩,putE h.m (movE h.m x ⟨x.lba,x.n,x.ver,k,o⟩),h.ver,sq⟩ ∧
  zcN d.z h.m zs (putE h.m (movE h.m x ⟨x.lba,x.n,x.ver,k,o⟩))∧cntJ (putE h.m (movE h.m x ⟨x.lba,x.n,x.ver,k,o⟩)) z B<cntJ h.m z B:=by
 obtain ⟨h1,h2,h3,h4,h5,h6,h7,h8,h9⟩:=hi.piece hL hx hz;have hB:=hi.bnd;have hpos:=h2.pos;have hn:=hi.n64;have hk:=hp.kl;obtain ⟨o',ho',p1,p2,p3⟩:=hp.one;injection ho' with ho' _;subst ho';have hlong:=hp.long hi.most hi.len;have hdata:(recX d h z x).data=zgx d h x:=rfl;rw [hdata] at p2 p3;have hb0:hasE x x.lba=true:=by unfold hasE endE;simp;omega
 have hs0:=zc1 hi.chain h1 hb0;have hkz:(k:Int)≠z:=by
  intro e;rcases hp.new with ⟨e1,e2⟩ | e1
  · unfold zaw at hw
    rw [e1,e2,decide_eq_true e] at hw;cases hw
  · have hfit:=hi.fit _ _ hs0
    have hz9:(seeE x x.lba).2.1=z:=h3;rw [hz9,←e,Int.toNat_natCast,e1] at hfit;simp only [List.length_nil] at hfit;omega
 unfold endE at h4;have hmay:mayE ⟨x.lba,x.n,x.ver,k,o⟩:=⟨h2.1,h2.2.1,by show -1≤(k:Int);omega,by show (k:Int)≤1099511627776;omega,p1,fun e=>by have:(k:Int) = -1:=e;omega,fun _=>by show o≤1125899906842624-16*x.n;omega⟩
 obtain ⟨m1,m2,m3,m4⟩:=zol hi.chain h1 hmay ⟨rfl,rfl⟩;have hfar:∀ b,B≤b→see (putE h.m (movE h.m x ⟨x.lba,x.n,x.ver,k,o⟩)) b=none:=fun b hb=>by
  rw [m4,if_neg (by unfold hasE endE;simp;omega)]
  exact hi.far b hb
 have hlen:=zf5 m2 hB.1 hfar;have hzl:zs.length=n:=by rw [hp.grown.1];exact hi.len
 have hse:∀ b,hasE x b=true→seeE (⟨x.lba,x.n,x.ver,k,o⟩:Ex) b=(x.ver,(k:Int),o+(b-x.lba)*16):=fun b _=>by
  unfold seeE;rw [if_neg (by show ¬(k:Int) = -1;omega)]
 have hsx:∀ b,hasE x b=true→see h.m b=some (x.ver,z,x.off+(b-x.lba)*16):=fun b hb=>by
  rw [zc1 hi.chain h1 hb];unfold seeE;rw [if_neg (by omega),h3]
 have hhas:∀ b,hasE x b=true→x.lba≤b∧b<x.lba+x.n:=fun b hb=>by unfold hasE endE at hb;simpa using hb
 have hblk:∀ b,hasE x b=true→((zs.getD k z0).d.drop (o+(b-x.lba)*16).toNat).take 16=zaa d.z h.m b:=fun b hb=>by
  have hb1:=hhas b hb;have h16:=zh9 (f:=fun i:Nat=>zaa d.z h.m (x.lba+(i:Nat))) (fun i=>ziY hi.fit _) (n:=x.n.toNat) (i:=(b-x.lba).toNat) (by omega)
  rw [←h7,←zfH p3 (by omega),show o.toNat+16*(b-x.lba).toNat=(o+(b-x.lba)*16).toNat by omega] at h16
  rw [h16];congr 1
  omega
 refine ⟨hkz,hmay,⟨m1,by omega,m3⟩,hi.grow hp m2 hfar (fun b t ht=>?_) hi.ver (fun b t ht=>?_),fun b=>?_,?_⟩
 · rw [m4] at ht
   split at ht
   · rename_i hb
     have hb1:=hhas b hb;rw [hse b hb] at ht;injection ht with ht;rw [←ht];exact .inr ⟨by dsimp only;omega,by dsimp only;omega,by dsimp only;rw [Int.toNat_natCast];omega⟩
   · exact hp.grown.fit hi.fit b t ht
 · rw [m4] at ht
   split at ht
   · rename_i hb
     rw [hse b hb] at ht;injection ht with ht;rw [←ht];exact hi.oldE x h1
   · exact hi.old b t ht
 · unfold zaa
   rw [m4];split
   · rename_i hb
     rw [hse b hb];refine ⟨?_,?_⟩
     · rw [hsx b hb]
       simp only [Option.map_some,Option.some.injEq,Prod.mk.injEq,true_and,decide_eq_decide];omega
     · have:=hblk b hb
       simp only;rw [if_neg (by omega),Int.toNat_natCast,this]
       rfl
   · refine ⟨rfl,?_⟩
     have:=hp.grown.block hi.fit b;unfold zaa at this;exact this
 · unfold cntJ
   refine zgT (fun i hi9 hq=>?_) ⟨x.lba.toNat,List.mem_range.2 (by omega),?_,?_⟩
   · rw [m4] at hq
     split at hq
     · rename_i hb
       rw [hse _ hb] at hq;simp only [Option.map_some,beq_iff_eq,Option.some.injEq] at hq;exact absurd hq hkz
     · exact hq
   · rw [show ((x.lba.toNat:Nat):Int)=x.lba by omega,hsx _ hb0]
     simp
   · rw [show ((x.lba.toNat:Nat):Int)=x.lba by omega,m4,if_pos hb0,hse _ hb0]
     simpa using hkz
theorem zcO (p:Ex→Bool):∀ {l:List Ex} {b:Int},za2 b l→za2 b (l.filter p)
 | [],_,_=>trivial
 | e::l,b,h=>by
   obtain ⟨h1,h2,h3⟩:=h;have hp:=h1.pos;rw [List.filter_cons];split
   · exact ⟨h1,h2,zcO p h3⟩
   · exact zbd (zcO p h3) (by unfold endE;omega)
def goneE (m:List Ex):List Ex:=m.filter fun e=>!decide (0≤e.zone)
def recK (h:Ho):Rc:=⟨4,0,0,max (h.ver-1) 0,0,0,mapB (goneE h.m)⟩
def zbe (d:Zd) (h:Ho) (z:Int):Zd × Ho × Int:=
 if goneE h.m=[] then (d,h,0) else if 32768<(mapB (goneE h.m)).length then (d,h,2)
 else ((putH d h [recK h]).1,(putH d h [recK h]).2.1,if (putH d h [recK h]).2.2.2=0∧zaw (putH d h [recK h]).2.1 z=true then 60 else (putH d h [recK h]).2.2.2)
def zim (h:Ho) (z:Int):Nat:=h.own.findIdx fun f=>decide (f.zone=z)
def rstD (d:Zd) (h:Ho) (z:Int):Zd × Dn:=doZ (zbe d h z).1 ⟨3,z,(h.own.getD (zim h z) ⟨0,0,0⟩).epoch,0,0,[]⟩
def zbo (d:Zd) (h:Ho) (z:Int):Zd × Ho × Int:=
 if ¬zim h z<h.own.length then (zaS,zc5,4)
 else if zaw h z=true∨zcF h.m z=true then (zaS,zc5,60)
 else if (zbe d h z).2.2≠0 then (zaS,zc5,(zbe d h z).2.2)
 else if (rstD d h z).2.e≠0 then (zaS,zc5,(rstD d h z).2.e) else ((rstD d h z).1,(zbe d h z).2.1,0)
theorem zn3 {m:List Ex} (hm:∀ e∈m,mayE e∧e.ver≤9223372036854775807):(mapB m).length≤50*m.length:=by
 induction m with
 | nil=>simp [mapB]
 | cons e m ih=>
   obtain ⟨h1,h2⟩:=hm e (List.mem_cons_self ..);have h3:=zc9 (znx h1 h2).1;have h4:(exN e).length=5:=rfl;have h5:=ih fun x hx=>hm x (List.mem_cons_of_mem _ hx)
   show (flatN (exN e)++mapB m).length≤_;rw [List.length_append,List.length_cons];omega
theorem JInv.gone (hi:JInv n M F B S d h) (hv:h.ver≤900000):za2 0 (goneE h.m)∧(goneE h.m).length≤250∧(mapB (goneE h.m)).length≤12500∧∀ e∈goneE h.m,e.ver≤9223372036854775807:=by
 have hl:=hi.len9;have hB:=hi.bnd;have h1:za2 0 (goneE h.m):=zcO _ hi.chain;have h2:(goneE h.m).length≤h.m.length:=List.length_filter_le _ _;have h3:∀ e∈goneE h.m,e.ver≤9223372036854775807:=fun e he=>by have:=hi.oldE e (List.mem_filter.1 he).1;omega
 have h4:=zn3 (m:=goneE h.m) fun e he=>⟨(zai h1 e he).1,h3 e he⟩
 exact ⟨h1,by omega,by omega,h3⟩
theorem JInv.rec4 (hi:JInv n M F B S d h) (hv:h.ver≤900000):OkRc (recK h)∧errL [recK h]=0:=by
 have hver:=hi.ver;have hg:=(hi.gone hv).2.2.1;have hok:OkRc (recK h):=by
  intro v hv9;simp only [recN,recK,List.mem_cons,List.not_mem_nil,or_false] at hv9;omega
 refine ⟨hok,zdn fun r hr9=>?_⟩
 rw [List.mem_singleton] at hr9;subst hr9;rw [ze7 hok ?_];unfold checkL recK;simp only;rw [if_neg (by omega),if_neg (by omega),if_neg (fun h=>by rcases h.2 with h | h <;> exact h rfl),if_pos trivial,if_neg (by rintro (h | h) <;> exact h rfl),if_neg (by omega)]
theorem JInv.kept (hi:JInv n M F B S d h) (hv:h.ver≤900000) (hsq:h.seq≤900000) (hw:zaw h z=false) (h0:(zbe d h z).2.2=0) :
 JInv n M F B S (zbe d h z).1 (zbe d h z).2.1∧zcN d.z h.m (zbe d h z).1.z h.m∧(zbe d h z).2.1.m=h.m∧(zbe d h z).2.1.ver=h.ver∧(zbe d h z).2.1.seq≤h.seq+1∧zaw (zbe d h z).2.1 z=false:=by
 obtain ⟨h1,h2⟩:=hi.rec4 hv;have hlong:=(hi.gone hv).2.2.1;by_cases hg:goneE h.m=[]
 · have e:zbe d h z=(d,h,0):=by unfold zbe;rw [if_pos hg]
   rw [e];exact ⟨hi,zcN.refl _ _,rfl,rfl,by show h.seq≤h.seq+1;omega,hw⟩
 · have e:zbe d h z=((putH d h [recK h]).1,(putH d h [recK h]).2.1,if (putH d h [recK h]).2.2.2=0∧zaw (putH d h [recK h]).2.1 z=true then 60 else (putH d h [recK h]).2.2.2):=by unfold zbe;rw [if_neg hg,if_neg (by omega)]
   rw [e] at h0 ⊢;rcases put_gen hi (by simp) h2 (by simpa using h1) hsq with hno | ⟨k,hd,sq,zs,at_,hp⟩
   · rw [hno] at h0;simp at h0
   · rw [hp.put] at h0 ⊢
     refine ⟨hi.grow hp hi.chain hi.far (hp.grown.fit hi.fit) hi.ver hi.old,fun b=>⟨rfl,hp.grown.block hi.fit b⟩,rfl,rfl,hp.seqs.2,?_⟩
     cases hww:zaw ⟨h.id,h.own,h.s,true,⟨hd,(k:Int),M,(zs.getD k z0).d.length,[],[]⟩,h.m,h.ver,sq⟩ z with
     | false=>rfl
     | true=>
       exfalso
       have h9:(60:Int)=0:=by rw [←h0];exact (if_pos ⟨rfl,hww⟩).symm
       omega
theorem zfE {M:Int} {zs:List Zn} {i:Nat} {z:Zn} (h:OkA M zs) (hz:zs[i]?=some z):doZ (devA M zs) ⟨3,i,z.fe,0,0,[]⟩=(devA M (zs.set i (rstZ z)),dn0):=by
 rw [zd2 h hz (by simp) rfl (.inr rfl)]
 have hk:doK (devA M zs) i ⟨3,i,z.fe,0,0,[]⟩=(0,zs.set i (rstZ z),dn0):=by unfold doK;rw [zd1 hz];simp [devA]
 rw [hk];simp [devA]
theorem zoK {z:Zn} {M:Int} (h:okZ z M):okZ (rstZ z) M:=⟨h.1,h.2.1,h.2.2.1,.inl ⟨rfl,rfl⟩⟩
theorem zhH (hi:JInv n M F B S d h) (hz:0≤z∧z<n):zim h z=z.toNat∧zim h z<h.own.length∧h.own.getD (zim h z) ⟨0,0,0⟩=⟨z,1,F z.toNat⟩:=by
 have hl:h.own.length=n:=by rw [hi.own,List.length_map,List.length_range]
 have hzn:z.toNat<n:=by omega
 have hget:∀ j,j<n→h.own[j]?=some ⟨(j:Int),1,F j⟩:=fun j hj=>by rw [hi.own,List.getElem?_map,List.getElem?_range hj];rfl
 have h1:zim h z=z.toNat:=by
  unfold zim;rw [List.findIdx_eq (by omega)]
  refine ⟨?_,fun j hj=>?_⟩
  · have:=List.getElem?_eq_some_iff.1 (hget z.toNat hzn)
    obtain ⟨_,e⟩:=this;rw [e];exact decide_eq_true (by show ((z.toNat:Nat):Int)=z;omega)
  · have:=List.getElem?_eq_some_iff.1 (hget j (by omega))
    obtain ⟨_,e⟩:=this;rw [e];exact decide_eq_false (by show ¬(j:Int)=z;omega)
 refine ⟨h1,by omega,?_⟩
 rw [h1,List.getD_eq_getElem?_getD,hget _ hzn];show (⟨((z.toNat:Nat):Int),1,F z.toNat⟩:Fn)=_;rw [show ((z.toNat:Nat):Int)=z by omega]
theorem JInv.resets (hi:JInv n M F B S d h) (hz:0≤z∧z<n) (hv:h.ver≤900000) (hsq:h.seq≤900000) (h0:(zbo d h z).2.2=0) :
 JInv n M F B S (zbo d h z).1 (zbo d h z).2.1∧zcN d.z h.m (zbo d h z).1.z (zbo d h z).2.1.m∧(zbo d h z).2.1.ver=h.ver∧(zbo d h z).2.1.seq≤h.seq+1:=by
 obtain ⟨a1,a2,a3⟩:=zhH hi hz;unfold zbo at h0 ⊢;rw [if_neg (by simpa using a2)] at h0 ⊢
 by_cases hw:zaw h z=true∨zcF h.m z=true
 · rw [if_pos hw] at h0;simp at h0
 rw [if_neg hw] at h0 ⊢;by_cases hk:(zbe d h z).2.2≠0
 · rw [if_pos hk] at h0;exact absurd h0 hk
 rw [if_neg hk] at h0 ⊢;rw [Decidable.not_not] at hk;have hw1:zaw h z=false:=by cases h9:zaw h z with | false=>rfl | true=>exact absurd (.inl h9) hw
 have hw2:zcF h.m z=false:=by cases h9:zcF h.m z with | false=>rfl | true=>exact absurd (.inr h9) hw
 obtain ⟨k1,k2,k3,k4,k5,k6⟩:=hi.kept hv hsq hw1 hk;have hrd:rstD d h z=doZ (zbe d h z).1 ⟨3,z,F z.toNat,0,0,[]⟩:=by unfold rstD;rw [a3]
 rw [hrd] at h0 ⊢;generalize (zbe d h z).1=d1 at *;generalize (zbe d h z).2.1=h1 at *;have hkz:z.toNat<d1.z.length:=by rw [k1.len];omega
 have hzz:=getD_some hkz;have hrs:=zfE k1.ok hzz;rw [k1.fe _ (by omega),←k1.dev,show ((z.toNat:Nat):Int)=z by omega] at hrs
 rw [hrs];simp only [dn0,ne_eq,not_true_eq_false,if_false];have hno:∀ b t,see h.m b=some t→t.2.1≠z:=fun b t ht e=>by
  unfold zcF at hw2;have hb:=zfG hi.chain b;rw [ht] at hb;obtain ⟨x,hx,hxb,hxt,_⟩:=hb;have:h.m.any (fun e=>decide (e.zone=z))=true:=List.any_eq_true.2 ⟨x,hx,decide_eq_true (by rw [←e,←hxt];rfl)⟩
  simp [this] at hw2
 have hD:∀ j,j≠z.toNat→(d1.z.set z.toNat (rstZ (d1.z.getD z.toNat z0))).getD j z0=d1.z.getD j z0:=fun j hj=>by rw [zci hkz,if_neg hj]
 have hsm:∀ b t,see h1.m b=some t→0≤t.2.1→t.2.1.toNat≠z.toNat:=fun b t ht h9 e=>by rw [k3] at ht;exact hno b t ht (by omega)
 have hblk:∀ b,zaa (d1.z.set z.toNat (rstZ (d1.z.getD z.toNat z0))) h1.m b=zaa d1.z h1.m b:=fun b=>by
  unfold zaa;cases hs:see h1.m b with
  | none=>rfl
  | some t=>
    simp only;split
    · rfl
    · rw [hD _ (hsm b t hs (by omega))]
 refine ⟨{ dev:=rfl,ok:=k1.ok.set (zoK (k1.ok.2.2 _ (List.mem_of_getElem? hzz))),most:=k1.most,bnd:=k1.bnd,len:=by show (d1.z.set _ _).length=n;rw [List.length_set];exact k1.len,fe:=fun j hj=>?_,F0:=k1.F0,id:=k1.id,own:=k1.own,s:=k1.s,chain:=k1.chain,far:=k1.far,fit:=fun b t ht=>?_,ver:=k1.ver,old:=k1.old,seq:=k1.seq,opened:=fun ho=>?_,shut:=k1.shut },fun b=>⟨by rw [k3],?_⟩,k4,k5⟩
 · show ((d1.z.set z.toNat (rstZ (d1.z.getD z.toNat z0))).getD j z0).fe=F j
   by_cases hj9:j=z.toNat
   · rw [zci hkz,if_pos hj9,hj9];exact k1.fe _ (by omega)
   · rw [hD j hj9];exact k1.fe j hj
 · rcases k1.fit b t ht with h9 | ⟨f1,f2,f3⟩
   · exact .inl h9
   · by_cases h9:t.2.1<0
     · exact .inl h9
     · refine .inr ⟨by show t.2.1<((d1.z.set _ _).length:Int);rw [List.length_set];exact f1,f2,?_⟩
       show t.2.2+16≤(((d1.z.set z.toNat (rstZ (d1.z.getD z.toNat z0))).getD t.2.1.toNat z0).d.length:Int);rw [hD _ (hsm b t ht (by omega))]
       exact f3
 · obtain ⟨k,hd,hk9,g1,g2,g3,g4,g5⟩:=k1.opened ho
   have hkz9:k≠z.toNat:=fun e=>by
    unfold zaw at k6;rw [ho,g2,decide_eq_true (show ((k:Nat):Int)=z by omega)] at k6
    cases k6
   refine ⟨k,hd,hk9,?_⟩;show ((d1.z.set z.toNat (rstZ (d1.z.getD z.toNat z0))).getD k z0).d≠[]∧h1.p=⟨hd,k,M,((d1.z.set z.toNat (rstZ (d1.z.getD z.toNat z0))).getD k z0).d.length,[],[]⟩∧OkHd hd∧hd.epoch=F k∧(d1.z.set z.toNat (rstZ (d1.z.getD z.toNat z0))).getD k z0=zcm (F k) M ((d1.z.set z.toNat (rstZ (d1.z.getD z.toNat z0))).getD k z0).d;rw [hD k hkz9];exact ⟨g1,g2,g3,g4,g5⟩
 · show zaa (d1.z.set z.toNat (rstZ (d1.z.getD z.toNat z0))) h1.m b=zaa d.z h.m b
   rw [hblk b,k3];exact (k2 b).2
end
end Go.Proofs.YthblkdnijhphhaaGreat
