/- A part of the proof. -/
import Derived.Test.YthblkdnijhphhaaGreatWriteM
import Derived.Test.YthblkdnijhphhaaGreatReadNew
set_option linter.unusedSimpArgs false
set_option maxHeartbeats 16000000
set_option maxRecDepth 100000
namespace Go.Proofs.YthblkdnijhphhaaGreat
open Go.RowKit
structure JInv (n:Nat) (M:Int) (F:Nat→Int) (B:Int) (S:List Sp) (d:Zd) (h:Ho):Prop where
 dev:d=devA M d.z
 ok:OkA M d.z
 most:M≤4000
 bnd:0≤B∧B≤250
 len:d.z.length=n
 fe:∀ k,k<n→(d.z.getD k z0).fe=F k
 F0:∀ k,k<n→0≤F k∧F k≤1000000
 id:h.id=1
 own:h.own=(List.range n).map fun (k:Nat)=>⟨(k:Int),1,F k⟩
 s:h.s=S
 chain:za2 0 h.m
 far:∀ b,B≤b→see h.m b=none
 fit:FitE d.z h.m
 ver:0≤h.ver
 old:∀ b t,see h.m b=some t→t.1<h.ver
 seq:0≤h.seq
 opened:h.opn=true→∃ k hd,k<n∧(d.z.getD k z0).d≠[]∧h.p=⟨hd,k,M,(d.z.getD k z0).d.length,[],[]⟩∧OkHd hd∧hd.epoch=F k∧d.z.getD k z0=zcr (F k) M (d.z.getD k z0).d
 shut:h.opn=false→h.p=p0k
theorem zfR {m:List Ex} (h:za2 0 m) (b:Int):Best m b (see m b):=by
 cases hs:see m b with
 | none=>
   intro e he;cases hh:hasE e b with
   | false=>rfl
   | true=>rw [zc3 h he hh] at hs;cases hs
 | some t=>
   unfold see at hs;cases hf:m.find? (hasE · b) with
   | none=>rw [hf] at hs;cases hs
   | some e=>
     rw [hf] at hs;injection hs with hs;have he:=List.mem_of_find?_eq_some hf;have hb:hasE e b=true:=by simpa using List.find?_some hf
     refine ⟨e,he,hb,hs,fun x hx hxb=>?_⟩
     have h1:=zc3 h he hb;rw [zc3 h hx hxb] at h1;injection h1 with h1;have:x.ver=e.ver:=congrArg (·.1) h1;omega
def zfa (zs zs':List Zn):Prop:=zs'.length=zs.length∧∀ k,∃ x,(zs'.getD k z0).d=(zs.getD k z0).d++x
theorem zfa.fit {zs zs':List Zn} {m:List Ex} (h:zfa zs zs') (hf:FitE zs m):FitE zs' m:=fun b t ht=>by
 rcases hf b t ht with h1 | ⟨h1,h2,h3⟩
 · exact .inl h1
 · obtain ⟨x,hx⟩:=h.2 t.2.1.toNat
   exact .inr ⟨by rw [h.1];exact h1,h2,by rw [hx,List.length_append];omega⟩
theorem zjL {a x:List UInt8} {o n:Nat} (h:o+n≤a.length):((a++x).drop o).take n=(a.drop o).take n:=by
 rw [List.drop_append_of_le_length (by omega),List.take_append_of_le_length (by rw [List.length_drop];omega)]
theorem zfa.block {zs zs':List Zn} {m:List Ex} (h:zfa zs zs') (hf:FitE zs m) (b:Int):zaa zs' m b=zaa zs m b:=by
 unfold zaa;cases hs:see m b with
 | none=>rfl
 | some t=>
   simp only;rcases hf b t hs with h1 | ⟨h1,h2,h3⟩
   · rw [if_pos h1,if_pos h1]
   · obtain ⟨x,hx⟩:=h.2 t.2.1.toNat
     rw [hx,zjL (by omega)]
section
variable {n:Nat} {M B:Int} {F:Nat→Int} {S:List Sp} {d:Zd} {h:Ho}
theorem JInv.n64 (hi:JInv n M F B S d h):1≤n∧n≤64:=by have:=hi.ok.2.1;rw [hi.len] at this;exact this
theorem JInv.len9 (hi:JInv n M F B S d h):(h.m.length:Int)≤B:=zf5 hi.chain hi.bnd.1 hi.far
theorem zml {zs:List Zn} {k:Nat} {rs:List Rc} {h1:Ho} {hd:Hd} {bf:List UInt8} (hok:OkA M zs) (hk:k<zs.length) (hF:0≤F k) (hep:hd.epoch=F k)
 (hz:zs.getD k z0=zcr (F k) M (zs.getD k z0).d) (herr:errL rs=0) (hpos:0<(frsL rs).length)
 (hp:h1.p=⟨hd,k,M,(zs.getD k z0).d.length,bf,[]⟩) (hroom:((frsL rs).length:Int)≤zcq h1.p) :
 putW (devA M zs) h1 rs=(devA M (zs.set k (zcr (F k) M ((zs.getD k z0).d++(bf++frsL rs)))),zoy h1 ⟨hd,k,M,((zs.getD k z0).d++(bf++frsL rs)).length,[],[]⟩,plsL (((zs.getD k z0).d++bf).length:Nat) rs,0) ∧
  ((((zs.getD k z0).d++(bf++frsL rs)).length:Int))≤M:=by
 have hadd:=ziU h1.p herr (by omega)
 rw [hp] at hadd hroom;unfold zcq at hroom;simp only at hroom;have hle:((zs.getD k z0).d.length:Int)+(bf++frsL rs).length≤M:=by rw [List.length_append];omega
 have hne:bf++frsL rs≠[]:=fun e=>by have:=congrArg List.length e;rw [List.length_append,List.length_nil] at this;omega
 obtain ⟨g1,g2⟩:=zj9 (e:=F k) (b:=(zs.getD k z0).d) (M:=M) hF hne hle hok.1;have hdo:=zij (x:=bf++frsL rs) hok (getD_some hk);rw [hz] at hdo;rw [if_pos g1,g2,show (zcr (F k) M (zs.getD k z0).d).fe=F k from rfl] at hdo;refine ⟨?_,by rw [List.length_append];omega⟩
 unfold putW;rw [hp,hadd];simp only;rw [if_neg (by simp),if_neg hne,hep,hdo]
 simp only;rw [if_neg (by simp)]
 unfold zca;simp only;rw [if_neg hne,List.length_append,List.length_append];simp
structure zhF (n:Nat) (M:Int) (F:Nat→Int) (d:Zd) (h:Ho) (rs:List Rc) (k:Nat) (hd:Hd) (sq:Int) (zs:List Zn) (at_:List Int):Prop where
 kl:k<n
 put:putH d h rs=(devA M zs,⟨h.id,h.own,h.s,true,⟨hd,k,M,(zs.getD k z0).d.length,[],[]⟩,h.m,h.ver,sq⟩,at_,0)
 ok:OkA M zs
 grown:zfa d.z zs
 fe:∀ j,j<n→(zs.getD j z0).fe=F j
 ne:(zs.getD k z0).d≠[]
 land:zs.getD k z0=zcr (F k) M (zs.getD k z0).d
 head:OkHd hd∧hd.epoch=F k
 seqs:h.seq≤sq∧sq≤h.seq+1
 place:at_.length=rs.length∧∀ (i:Nat) (r:Rc) (o:Int),rs[i]?=some r→at_[i]?=some o→0≤o∧o+r.data.length≤((zs.getD k z0).d.length:Int)∧((zs.getD k z0).d.drop o.toNat).take r.data.length=r.data
 new:(h.opn=true∧h.p.zone=k)∨(d.z.getD k z0).d=[]
theorem znG {rs:List Rc} (hne:rs≠[]) (herr:errL rs=0) (hok:∀ r∈rs,OkRc r):0<(frsL rs).length:=by
 obtain ⟨r,l,rfl⟩:=List.exists_cons_of_ne_nil hne;have h5:=((zdJ (hok r (List.mem_cons_self ..))).2 (zg8 herr r (List.mem_cons_self ..))).2;simp only [frsL,List.length_append];omega
theorem put_gen (hi:JInv n M F B S d h) {rs:List Rc} (hne:rs≠[]) (herr:errL rs=0) (hok:∀ r∈rs,OkRc r) (hsq:h.seq≤900000) :
 putH d h rs=(zd0,ho0,[],64)∨∃ k hd sq zs at_,zhF n M F d h rs k hd sq zs at_:=by
 have hn:=hi.n64;have hpos:=znG hne herr hok;have hck:chkD d=0:=by
  unfold chkD;rw [if_pos (by rw [hi.dev];exact hi.ok.ok)]
 have hdo:∀ h2 zs k hd sq bf,zc5 d h (frsL rs).length=(devA M zs,h2,true)→OkA M zs→zfa d.z zs→(∀ j,j<n→(zs.getD j z0).fe=F j)→k<n →
  OkHd hd→hd.epoch=F k→zs.getD k z0=zcr (F k) M (zs.getD k z0).d→h2=⟨h.id,h.own,h.s,true,⟨hd,k,M,(zs.getD k z0).d.length,bf,[]⟩,h.m,h.ver,sq⟩→h.seq≤sq∧sq≤h.seq+1 →
  ((frsL rs).length:Int)≤zcq h2.p→(h.opn=true∧h.p.zone=k)∨(d.z.getD k z0).d=[]→∃ k hd sq zs at_,zhF n M F d h rs k hd sq zs at_:=by
  intro h2 zs k hd sq bf e1 o1 og o3 hk o5 o6 o7 o8 o9 o11 o12;have hkz:k<zs.length:=by rw [og.1,hi.len];exact hk
  obtain ⟨p1,p3⟩:=zml (h1:=h2) (F:=F) (bf:=bf) (rs:=rs) o1 hkz (hi.F0 k hk).1 o6 o7 herr hpos (by rw [o8]) o11
  obtain ⟨x,hx⟩:∃ x,(zs.getD k z0).d++(bf++frsL rs)=x:=⟨_,rfl⟩;rw [hx] at p1 p3;have hxz:((zs.set k (zcr (F k) M x)).getD k z0)=zcr (F k) M x:=by rw [zco hkz,if_pos rfl]
  have hld:(zcr (F k) M x).d=x:=rfl;refine ⟨k,hd,sq,zs.set k (zcr (F k) M x),plsL (((zs.getD k z0).d++bf).length:Nat) rs,hk,?_,o1.set (zj0 (hi.F0 k hk).1 hi.ok.1 p3),⟨by rw [List.length_set];exact og.1,fun j=>?_⟩,fun j hj=>?_,?_,?_,⟨o5,o6⟩,o9,⟨zgv _ _,fun i r o hr ho=>?_⟩,o12⟩
  · unfold putH
    rw [if_neg (by rw [hck];simp),if_neg (by rw [herr];simp),e1]
    simp only [Bool.true_eq_false,if_false];rw [p1,hxz,o8];rfl
  · rw [zco hkz]
    obtain ⟨y,hy⟩:=og.2 j;split
    · rename_i hj
      subst hj;rw [hld,←hx,hy,List.append_assoc];exact ⟨_,rfl⟩
    · exact ⟨y,hy⟩
  · rw [zco hkz]
    split
    · rename_i e;rw [e];rfl
    · exact o3 j hj
  · rw [hxz,hld,←hx]
    intro e;have:=congrArg List.length e;simp only [List.length_append,List.length_nil] at this;omega
  · rw [hxz,hld]
  · rw [hxz,hld,←hx,←List.append_assoc]
    exact zfM herr hok hr ho
 by_cases hfit:h.opn=true∧((frsL rs).length:Int)≤zcq h.p
 · obtain ⟨k,hd,hk,k1,k2,k3,k4,k5⟩:=hi.opened hfit.1
   refine .inr (hdo h d.z k hd h.seq [] (by unfold zc5;rw [if_pos hfit,←hi.dev]) hi.ok ⟨rfl,fun k=>⟨[],by simp⟩⟩ hi.fe hk k3 k4 k5 (by rw [←hfit.1,←k2]) (by omega) hfit.2 (.inl ⟨hfit.1,by rw [k2]⟩))
 · have hfin:∃ zs,finD d h=devA M zs∧OkA M zs∧zfa d.z zs∧(∀ k,k<n→(zs.getD k z0).fe=F k)∧∀ j,(zs.getD j z0).d=(d.z.getD j z0).d:=by
    unfold finD;cases hop:h.opn with
    | false=>exact ⟨d.z,by simpa using hi.dev,hi.ok,⟨rfl,fun k=>⟨[],by simp⟩⟩,hi.fe,fun _=>rfl⟩
    | true=>
      obtain ⟨k,hd,hk,k1,k2,k3,k4,k5⟩:=hi.opened hop;have hkz:k<d.z.length:=by rw [hi.len];exact hk
      have hf:=zhT hi.ok (getD_some hkz);rw [hi.fe k hk] at hf;have hsame:∀ j,((d.z.set k (finZ (d.z.getD k z0))).getD j z0).d=(d.z.getD j z0).d:=fun j=>by
       rw [zco hkz];split
       · rename_i e;subst e;rfl
       · rfl
      refine ⟨d.z.set k (finZ (d.z.getD k z0)),?_,hi.ok.set (zoM (hi.ok.2.2 _ (List.mem_of_getElem? (getD_some hkz)))),⟨by rw [List.length_set],fun j=>⟨[],by rw [hsame,List.append_nil]⟩⟩,fun j hj=>?_,hsame⟩
      · rw [if_pos rfl,k2]
        simp only;rw [k4,hi.dev,show (devA M d.z).z=d.z from rfl,hf]
      · rw [zco hkz]
        split
        · rename_i e;subst e;exact hi.fe _ hj
        · exact hi.fe _ hj
   obtain ⟨zs,z1,z2,z3,z4,z5⟩:=hfin;have hno:(zc5 d h (frsL rs).length).2.2=false→putH d h rs=(zd0,ho0,[],64):=fun e=>by
    unfold putH;rw [if_neg (by rw [hck];simp),if_neg (by rw [herr];simp),if_pos e]
   have hroom:zc5 d h (frsL rs).length=match h.own[h.own.findIdx (zbH (devA M zs))]? with
    | none=>(devA M zs,h,false)
    | some f=>(devA M zs,⟨h.id,h.own,h.s,true,(begP (devA M zs) h f).1,h.m,h.ver,h.seq+1⟩,decide ((begP (devA M zs) h f).2=0) && decide (((frsL rs).length:Int)≤zcq (begP (devA M zs) h f).1)):=by
    unfold zc5;rw [if_neg hfit,z1];rfl
   cases hf:h.own[h.own.findIdx (zbH (devA M zs))]? with
   | none=>rw [hf] at hroom;exact .inl (hno (by rw [hroom]))
   | some f=>
     rw [hf] at hroom;simp only at hroom;cases hb:(decide ((begP (devA M zs) h f).2=0) && decide (((frsL rs).length:Int)≤zcq (begP (devA M zs) h f).1)) with
     | false=>exact .inl (hno (by rw [hroom];exact hb))
     | true=>
       simp only [Bool.and_eq_true,decide_eq_true_eq] at hb;have hfree:zbH (devA M zs) f=true:=by
        obtain ⟨hlt,e⟩:=List.getElem?_eq_some_iff.1 hf;rw [←e];exact List.findIdx_getElem
       have hmem:=List.mem_of_getElem? hf;rw [hi.own] at hmem;obtain ⟨k,hk,rfl⟩:=List.mem_map.1 hmem;have hk:=List.mem_range.1 hk;unfold zbH at hfree;simp only [Bool.and_eq_true,decide_eq_true_eq,Int.toNat_natCast] at hfree;obtain ⟨_,hst,hfe⟩:=hfree;have hkz:k<zs.length:=by rw [z3.1,hi.len];exact hk
       have hokz:=z2.2.2 _ (List.mem_of_getElem? (getD_some hkz));have hst':(zs.getD k z0).st=0:=hst;have hd0:(zs.getD k z0).d=[]:=by
        obtain ⟨_,_,_,h4⟩:=hokz;rcases h4 with h4 | h4 | h4 | h4
        · exact List.length_eq_zero_iff.1 h4.2
        · rcases h4.1 with h5 | h5 <;> omega
        · omega
        · omega
       have hfk:=hi.F0 k hk;have hsq0:=hi.seq;have hOk:znr ⟨h.id,F k,h.seq⟩:=zkb (by show 0≤h.id∧h.id≤1000000;rw [hi.id];omega) hfk (by show 0≤h.seq∧h.seq≤1000000;omega)
       have hM:=z2.1;have hnp:begP (devA M zs) h ⟨k,1,F k⟩=(⟨⟨h.id,F k,h.seq⟩,k,M,0,(zc4 ⟨h.id,F k,h.seq⟩).1,[]⟩,0):=by
        have h2:=hb.1;unfold begP at h2 ⊢;unfold zcG at h2 ⊢;simp only at h2 ⊢;have hcap:(devA M zs).cap=M:=rfl;rw [hcap] at h2 ⊢;rw [if_neg (by rw [hOk.2.1];simp),if_neg (by simp only [Decidable.not_not];omega)] at h2 ⊢
        by_cases hlen:M<(zc4 ⟨h.id,F k,h.seq⟩).1.length
        · rw [if_pos hlen] at h2;simp at h2
        · rw [if_neg hlen]
       rw [hnp] at hroom hb;refine .inr (hdo ⟨h.id,h.own,h.s,true,⟨⟨h.id,F k,h.seq⟩,k,M,0,(zc4 ⟨h.id,F k,h.seq⟩).1,[]⟩,h.m,h.ver,h.seq+1⟩ zs k ⟨h.id,F k,h.seq⟩ (h.seq+1) (zc4 ⟨h.id,F k,h.seq⟩).1 (hroom.trans ?_) z2 z3 z4 hk hOk.1 rfl ?_ ?_ (by omega) hb.2 (.inr (by rw [←z5];exact hd0)))
       · have h2:=hb.2
         simp only [decide_true,Bool.true_and,h2]
       · have hfe':(zs.getD k z0).fe=F k:=hfe
         rw [hd0];show zs.getD k z0=⟨if ([]:List UInt8)=[] then 0 else _,F k,[]⟩;rw [if_pos rfl,←hst',←hfe',←hd0]
       · rw [hd0];rfl
theorem JInv.inB (hi:JInv n M F B S d h):∀ e∈h.m,endE e≤B:=fun e he=>by
 have hm:=(zai hi.chain e he).1;rcases Int.lt_or_le B (endE e) with h1 | h1
 · have h2:=hm.pos
   have hb:hasE e (endE e-1)=true:=by unfold hasE endE;simp;omega
   have h3:=zc3 hi.chain he hb;rw [hi.far _ (by omega)] at h3
   cases h3
 · exact h1
theorem JInv.oldE (hi:JInv n M F B S d h):∀ e∈h.m,e.ver<h.ver:=fun e he=>by
 have hm:=(zai hi.chain e he).1;have h2:=hm.pos;have hb:hasE e e.lba=true:=by unfold hasE endE;simp;omega
 exact hi.old e.lba _ (zc3 hi.chain he hb)
theorem JInv.grow (hi:JInv n M F B S d h) {rs:List Rc} {k:Nat} {hd:Hd} {sq:Int} {zs:List Zn} {at_:List Int} (hp:zhF n M F d h rs k hd sq zs at_) {m':List Ex} {v:Int} (hch:za2 0 m') (hfar:∀ b,B≤b→see m' b=none) (hfit:FitE zs m') (hv:0≤v) (hold:∀ b t,see m' b=some t→t.1<v) :
 JInv n M F B S (devA M zs) ⟨h.id,h.own,h.s,true,⟨hd,k,M,(zs.getD k z0).d.length,[],[]⟩,m',v,sq⟩ where
 dev:=rfl
 ok:=hp.ok
 most:=hi.most
 bnd:=hi.bnd
 len:=by show zs.length=n;rw [hp.grown.1];exact hi.len
 fe:=hp.fe
 F0:=hi.F0
 id:=hi.id
 own:=hi.own
 s:=hi.s
 chain:=hch
 far:=hfar
 fit:=hfit
 ver:=hv
 old:=hold
 seq:=by have:=hi.seq;have:=hp.seqs;show 0≤sq;omega
 opened:=fun _=>⟨k,hd,hp.kl,hp.ne,rfl,hp.head.1,hp.head.2,hp.land⟩
 shut:=fun e=>by cases e
theorem zhF.long {rs:List Rc} {k:Nat} {hd:Hd} {sq:Int} {zs:List Zn} {at_:List Int} (hp:zhF n M F d h rs k hd sq zs at_) (hM:M≤4000) (hn:d.z.length=n):((zs.getD k z0).d.length:Int)≤4000:=by
 have hk:k<zs.length:=by rw [hp.grown.1,hn];exact hp.kl
 have h1:=hp.ok.2.2 _ (List.mem_of_getElem? (getD_some hk));obtain ⟨_,_,_,h4⟩:=h1;omega
theorem zhF.one {r:Rc} {k:Nat} {hd:Hd} {sq:Int} {zs:List Zn} {at_:List Int} (hp:zhF n M F d h [r] k hd sq zs at_):∃ o,at_=[o]∧0≤o∧o+r.data.length≤((zs.getD k z0).d.length:Int)∧((zs.getD k z0).d.drop o.toNat).take r.data.length=r.data:=by
 have h1:=hp.place.1;match at_,h1 with
 | [o],_=>exact ⟨o,rfl,hp.place.2 0 r o rfl rfl⟩
theorem zfX {D x:List UInt8} {o i:Nat} (h:(D.drop o).take x.length=x) (hi:i+16≤x.length):(D.drop (o+i)).take 16=(x.drop i).take 16:=by
 rw [show (x.drop i).take 16=(((D.drop o).take x.length).drop i).take 16 by rw [h],List.drop_take,List.drop_drop,List.take_take,Nat.min_eq_left (by omega)]
theorem zix (hi:JInv n M F B S d h) {o:Io} (he:zbl S o=0) (hr:zdu B (recI h.ver o)) (hv:h.ver≤900000) (hsq:h.seq≤900000) :
 znU d h [recI h.ver o]∧((zav d h [o]).2.2=64∨∃ d' h',zav d h [o]=(d',h',0)∧JInv n M F B S d' h'∧h'.ver=h.ver+1∧h'.seq≤h.seq+1 ∧
  ∀ b,(covR (recI h.ver o) b→∃ t,see h'.m b=some t∧t.1=h.ver∧(t.2.1<0↔(recI h.ver o).kind=2)∧zaa d'.z h'.m b=zi0 (recI h.ver o) b)∧(¬covR (recI h.ver o) b→see h'.m b=see h.m b∧zaa d'.z h'.m b=zaa d.z h.m b)):=by
 have herr:errI h.s [o]=0:=by rw [hi.s];exact zgt (by simpa using he)
 have hB:=hi.bnd;have herl:errL [recI h.ver o]=0:=zdf fun r hr'=>by rw [List.mem_singleton] at hr';subst hr';exact hr.fit (by omega)
 have hokr:∀ r∈[recI h.ver o],OkRc r:=fun r hr'=>by rw [List.mem_singleton] at hr';subst hr';exact hr.ok (by omega)
 have hcm:zav d h [o]=if (putH d h [recI h.ver o]).2.2.2≠0 then ((putH d h [recI h.ver o]).1,(putH d h [recI h.ver o]).2.1,(putH d h [recI h.ver o]).2.2.2)
  else ((putH d h [recI h.ver o]).1,zom (putH d h [recI h.ver o]).2.1 (mapP (putH d h [recI h.ver o]).2.1 [recI h.ver o] (putH d h [recI h.ver o]).2.2.1).1 1,0):=by
  unfold zav;rw [if_neg (by rw [herr];simp),if_neg (by simp)]
  rfl
 have hrv:(recI h.ver o).ver=h.ver:=rfl;rcases put_gen hi (by simp) herl hokr hsq with hno | ⟨k,hd,sq,zs,at_,hp⟩
 · refine ⟨fun h0=>by rw [hno] at h0;simp at h0,.inl ?_⟩
   rw [hcm,hno,if_pos (by simp)]
 · generalize recI h.ver o=r at hr herl hokr hcm hrv hp ⊢
   obtain ⟨p,rfl,p1,p2,p3⟩:=hp.one;have hlong:=hp.long hi.most hi.len;have hn:=hi.n64;have hk:=hp.kl;have hver:=hi.ver;have hX:zdk B (r,(k:Int),p):=⟨hr,by dsimp only;omega,by dsimp only;omega⟩
   have hl9:=hi.len9;have hmo:zju [(r,(k:Int),p)] h.m:=zjW (B:=B) (L:=h.m) (by omega) (by simpa using hX) hi.chain (zfR hi.chain) hi.inB (by omega)
   have hmay:mayE (extX (r,(k:Int),p)):=hX.may (by omega)
   obtain ⟨o1,o2,o3⟩:=zdR hi.chain hmay;have hcov:∀ b,hasE (extX (r,(k:Int),p)) b=true↔covR r b:=fun b=>zok _ b
   have hev:(extX (r,(k:Int),p)).ver=h.ver:=hrv;have hsee:∀ b,covR r b→see (zan h.m (extX (r,(k:Int),p))) b=some (seeE (extX (r,(k:Int),p)) b):=fun b hb=>o2 b ⟨(hcov b).2 hb,fun t ht=>by rw [hev];exact hi.old b t ht⟩
   have hnot:∀ b,¬covR r b→see (zan h.m (extX (r,(k:Int),p))) b=see h.m b:=fun b hb=>o3 b fun h9=>hb ((hcov b).1 h9.1)
   have hlb:=hr.lba;have hgk:(r.kind=2→∀ b,seeE (extX (r,(k:Int),p)) b=(h.ver,-1,0))∧(r.kind=1→∀ b,seeE (extX (r,(k:Int),p)) b=(h.ver,(k:Int),p+(b-r.lba)*16)):=by
    refine ⟨fun hk2 b=>?_,fun hk1 b=>?_⟩
    · unfold seeE extX zc2
      simp [hk2,hrv]
    · have hk2:¬r.kind=2:=by omega
      have hk3:¬r.kind=3:=by omega
      have hk4:¬(k:Int) = -1:=by omega
      unfold seeE extX zc2;simp [hk2,hk3,hk4,hrv]
   have hbl:∀ b,covR r b→(((seeE (extX (r,(k:Int),p)) b).2.1<0↔r.kind=2))∧(seeE (extX (r,(k:Int),p)) b).1=h.ver∧((seeE (extX (r,(k:Int),p)) b).2.1<0∨((seeE (extX (r,(k:Int),p)) b).2.1<zs.length∧0≤(seeE (extX (r,(k:Int),p)) b).2.2∧(seeE (extX (r,(k:Int),p)) b).2.2+16≤((zs.getD (seeE (extX (r,(k:Int),p)) b).2.1.toNat z0).d.length:Int))) ∧
    (if (seeE (extX (r,(k:Int),p)) b).2.1<0 then zaJ 16 else ((zs.getD (seeE (extX (r,(k:Int),p)) b).2.1.toNat z0).d.drop (seeE (extX (r,(k:Int),p)) b).2.2.toNat).take 16)=zi0 r b:=by
    intro b hb;unfold covR at hb;rcases hr.kind with hk1 | hk2
    · rw [hgk.2 hk1]
      have hdl:=hr.data hk1;have hzl:zs.length=n:=by rw [hp.grown.1];exact hi.len
      refine ⟨by dsimp only;omega,rfl,.inr ⟨by dsimp only;omega,by dsimp only;omega,by dsimp only;rw [Int.toNat_natCast];omega⟩,?_⟩
      dsimp only;rw [if_neg (by omega),Int.toNat_natCast]
      unfold zi0;rw [if_neg (by omega),←zfX p3 (i:=(16*(b-r.lba)).toNat) (by omega)]
      congr 2
      omega
    · rw [hgk.1 hk2]
      refine ⟨by simp [hk2],rfl,.inl (by simp),?_⟩
      unfold zi0;rw [if_pos (by simp),if_pos hk2]
   refine ⟨fun _=>?_,.inr ⟨devA M zs,⟨h.id,h.own,h.s,true,⟨hd,k,M,(zs.getD k z0).d.length,[],[]⟩,zan h.m (extX (r,(k:Int),p)),h.ver+1,sq⟩,?_,hi.grow hp o1 (fun b hb=>?_) (fun b t ht=>?_) (by omega) (fun b t ht=>?_),rfl,hp.seqs.2,fun b=>⟨fun hb=>⟨_,hsee b hb,(hbl b hb).2.1,(hbl b hb).1,?_⟩,fun hb=>⟨hnot b hb,?_⟩⟩⟩⟩
   · rw [hp.put]
     show (k:Int)≤1000000∧h.ver≤100000000000∧0≤h.ver∧zju [(r,(k:Int),p)] h.m;exact ⟨by omega,by omega,by omega,hmo⟩
   · rw [hcm,hp.put]
     simp only;rw [if_neg (by simp)]
     have hmp:mapP ⟨h.id,h.own,h.s,true,⟨hd,k,M,(zs.getD k z0).d.length,[],[]⟩,h.m,h.ver,sq⟩ [r] [p]=(zan h.m (extX (r,(k:Int),p)),0):=hmo.go;rw [hmp];rfl
   · rw [hnot b (by unfold covR;omega)]
     exact hi.far b hb
   · by_cases hb:covR r b
     · rw [hsee b hb] at ht
       injection ht with ht;rw [←ht];exact (hbl b hb).2.2.1
     · rw [hnot b hb] at ht
       exact hp.grown.fit hi.fit b t ht
   · by_cases hb:covR r b
     · rw [hsee b hb] at ht
       injection ht with ht;rw [←ht,(hbl b hb).2.1];show h.ver<h.ver+1;omega
     · rw [hnot b hb] at ht
       have:=hi.old b t ht;show t.1<h.ver+1;omega
   · show zaa zs (zan h.m (extX (r,(k:Int),p))) b=zi0 r b
     unfold zaa;rw [hsee b hb];exact (hbl b hb).2.2.2
   · show zaa zs (zan h.m (extX (r,(k:Int),p))) b=zaa d.z h.m b
     rw [←hp.grown.block hi.fit b];unfold zaa;rw [hnot b hb]
end
def zaQ:Zd:=⟨0,0,0,[]⟩
def zcd:Ho:=⟨0,[],[],false,⟨⟨0,0,0⟩,0,0,0,[],[]⟩,[],0,0⟩
def zgd (d:Zd) (h:Ho) (x:Ex):List UInt8:=(zbq d.z h.m x.lba (min x.n 256)).1
def recX (d:Zd) (h:Ho) (z:Int) (x:Ex):Rc:=recP (zaO z x) (zgd d h x)
def zd5 (d:Zd) (h:Ho) (z:Int) (L:List Ex):Zd × Ho × List (Ex × Ex) × Int:=match L.head? with
 | none=>(zaQ,zcd,[],4)
 | some x=>if zaw h z=true then (zaQ,zcd,[],60) else
   ((putH d h [recX d h z x]).1,(putH d h [recX d h z x]).2.1,if (putH d h [recX d h z x]).2.2.2=0 then [(zaO z x,⟨x.lba,min x.n 256,x.ver,(putH d h [recX d h z x]).2.1.p.zone,(putH d h [recX d h z x]).2.2.1.headD 0⟩)] else [],(putH d h [recX d h z x]).2.2.2)
theorem Tryz.infMv:(Tryz.prog.info? 202).map (fun i=>(i.zero,i.size,i.bytes))=some (some (.agg #[.int .i64 0,.int .i64 0,.int .i64 0,.int .i64 0,.int .i64 0,.int .i64 0,.int .i64 0,.int .i64 0,.int .i64 0,.int .i64 0]),10,80):=by kernel_rfl
theorem zkn (d:Zd) (Az:Option Addr) (cz:Nat) (h:Ho) (v:Value) (Am:Option Addr) (cm:Nat) (z:Int) (K Km:Nat→Prop) (w:World) (hz:IsL Rp.zone w K (.slice Az d.z.length cz) d.z) (hv:IsHo w K v h) (hm:IsL Rp.ex w Km (.slice Am h.m.length cm) h.m) (hK:∀ b,K b→b<w.heap.size)
 (hd:okD d) (ho:OkHo h) (hs:zbn h) (hch:za2 0 h.m) (hf:FitE d.z h.m) (hz0:0≤z) (hz9:z≤1000000) (hver:∀ e∈h.m,e.ver≤9223372036854775807)
 (herr:∀ L x,InE h.m z L→L.head?=some x→errL [recX d h z x]=0∧(zgd d h x).length≤1000000∧((putH d h [recX d h z x]).2.2.2=0→(putH d h [recX d h z x]).2.2.1.length=1)) :
 Calls Tryz.prog 54 #[.agg #[.int .i64 d.cap,.int .i64 d.opn,.int .i64 d.act,.slice Az d.z.length cz],v,.slice Am h.m.length cm,.int .i64 z,.int .i64 1] w fun e w'=>∃ L,InE h.m z L∧∃ dv vh Aa ca,e=.returned (.tuple #[dv,vh,.slice Aa (zd5 d h z L).2.2.1.length ca,.int .i64 (zd5 d h z L).2.2.2]) ∧
  IsL Rp.mv w' (fun b=>w.heap.size≤b) (.slice Aa (zd5 d h z L).2.2.1.length ca) (zd5 d h z L).2.2.1∧ze4 w' (fun b=>K b∨w.heap.size≤b) dv vh (zd5 d h z L).1 (zd5 d h z L).2.1∧Below w.heap.size w w':=by
 have hck0:chkE h.m=0:=by unfold chkE;rw [if_pos hch]
 have hpi:=fun W a=>zi9 (.slice Am h.m.length cm) h.m Km z W a (by have:=hs.m;omega)
 have hnb:¬(z<0∨chkE h.m≠0):=by rintro (h | h);omega;exact h hck0
 simp only [if_neg hnb] at hpi;clear hnb hck0;obtain ⟨hc,rfl,hn15,h115,hop⟩:=zbo hv;have E:=((((((Kn.start w).give za1.list hz).give za1.ho hv).give za1.list hm).push 27 #[.int .i64 d.cap,.int .i64 d.opn,.int .i64 d.act,.slice Az d.z.length cz]).push 38 hc).push 27 #[.int .i64 0,.int .i64 0,.int .i64 0,.slice none 0 0] |>.push 38 #[.int .i64 0,.slice none 0 0,.slice none 0 0,.bool false,.int .i64 0,.int .i64 0,.int .i64 0,.int .i64 0,.int .i64 0,.int .i64 0,.slice none 0 0,.slice none 0 0,.slice none 0 0,.int .i64 0,.int .i64 0]
 simp only [World.size_alloc] at E;have HPI:=Lib.hid hpi;clear hpi hz hv hm;go_enter Tryz.func54,Tryz.ntmps54
 go_wp2_with fail;generalize (((w.alloc (.cells #[.int .i64 d.cap,.int .i64 d.opn,.int .i64 d.act,.slice Az d.z.length cz] 27)).alloc (.cells hc 38)).alloc (.cells #[.int .i64 0,.int .i64 0,.int .i64 0,.slice none 0 0] 27)).alloc (.cells #[.int .i64 0,.slice none 0 0,.slice none 0 0,.bool false,.int .i64 0,.int .i64 0,.int .i64 0,.int .i64 0,.int .i64 0,.int .i64 0,.slice none 0 0,.slice none 0 0,.slice none 0 0,.int .i64 0,.int .i64 0] 38)=w1 at E ⊢;refine (HPI.out _ (E.get m0)).mono ?_;rintro x w2 ⟨A2,c2,l,rfl,⟨L,hL,hl⟩,own2,hb2⟩;have HL:=Lib.hid hL;have hE1:=E.below;have hg0:=(E.at_ m0).lt;replace E:=E.step hb2;have hbw:=E.below;have hR1:=E.at_ m1;have hR2:=E.at_ m0;have hg1:=(E.at_ m0).lt;cases hhd:L.head? with
 | none=>
   rw [hhd] at hl;have hl0:l=[]:=hl;subst hl0;have hcopy:zd5 d h z L=(zaQ,zcd,[],4):=by unfold zd5;rw [hhd]
   clear hhd hl hL;obtain ⟨q0,f0,t0⟩:=E.rules m0;obtain ⟨q1,f1,t1⟩:=E.rules m1;go_wp2_with fail;refine zfF (K:=fun W=>bodyPost _ _ _ _ _ W) hR1 hR2 (by omega) _ _ _ _ _ _ _ _ _ _ _ _ _ _ _ _ _ _ _ ?_
   intro w7 hs7 ht7 hB7 hB8;obtain ⟨q2,f2⟩:=hB7.rules;obtain ⟨q3,f3⟩:=hB8.rules;refine bodyPost_ret (v:=.tuple #[.agg #[.int .i64 0,.int .i64 0,.int .i64 0,.slice none 0 0],.agg #[.int .i64 0,.slice none 0 0,.slice none 0 0,.bool false,.int .i64 0,.int .i64 0,.int .i64 0,.int .i64 0,.int .i64 0,.int .i64 0,.slice none 0 0,.slice none 0 0,.slice none 0 0,.int .i64 0,.int .i64 0],.slice none 0 0,.int .i64 4]) (by simp [results,Tryz.results54,go_sem,q2,q3]) rfl
    ⟨L,HL.out,?_⟩
   rw [hcopy];exact ⟨_,_,none,0,rfl,IsL.nil_ _ _,⟨⟨none,0,rfl,IsL.nil_ _ _⟩,⟨_,_,_,_,_,rfl,IsL.nil_ _ _,IsL.nil_ _ _,IsB.nil_ _ _,IsL.nil_ _ _,IsL.nil_ _ _⟩⟩,hbw.trans (ht7.below (fun k hk=>by omega) hbw.size)⟩
 | some x=>
   rw [hhd] at hl;have hl1:l=[zaO z x]:=hl;subst hl1;obtain ⟨he1,he2,he3⟩:=herr L x hL hhd;obtain ⟨⟨hx1,hx2,hx3,hx4,hx5,hx6⟩,hxz⟩:=hL.may hch (List.mem_of_head? hhd);have hxv:=hver x (List.mem_filter.1 (hL.perm.mem_iff.1 (List.mem_of_head? hhd))).1;have hIp:=zaB own2 rfl (by simp)
   clear hl herr;go_wp2_with (refine zbN (E.at_ m2) hn15 rfl rfl rfl ?_);refine (zdW h z _ _ _ (E.get m1)).mono ?_;rintro u w3 ⟨rfl,hb3⟩;replace E:=(E.step hb3).give za1.list (hIp.step hb3);have hbw:=E.below;have hR1:=E.at_ m1;have hR2:=E.at_ m0;have hg1:=(E.at_ m0).lt;obtain ⟨q0,f0,t0⟩:=E.rules m0;obtain ⟨q1,f1,t1⟩:=E.rules m1;cases hwr:zaw h z with
   | true=>
     have hcopy:zd5 d h z L=(zaQ,zcd,[],60):=by unfold zd5;rw [hhd];simp only [hwr,if_true]
     clear hhd hL hIp hR1 hR2;have hR1:=E.at_ m1;have hR2:=E.at_ m0;go_wp2_with fail;refine zfF (K:=fun W=>bodyPost _ _ _ _ _ W) hR1 hR2 (by omega) _ _ _ _ _ _ _ _ _ _ _ _ _ _ _ _ _ _ _ ?_
     intro w7 hs7 ht7 hB7 hB8;obtain ⟨q2,f2⟩:=hB7.rules;obtain ⟨q3,f3⟩:=hB8.rules;refine bodyPost_ret (v:=.tuple #[.agg #[.int .i64 0,.int .i64 0,.int .i64 0,.slice none 0 0],.agg #[.int .i64 0,.slice none 0 0,.slice none 0 0,.bool false,.int .i64 0,.int .i64 0,.int .i64 0,.int .i64 0,.int .i64 0,.int .i64 0,.slice none 0 0,.slice none 0 0,.slice none 0 0,.int .i64 0,.int .i64 0],.slice none 0 0,.int .i64 60]) (by simp [results,Tryz.results54,go_sem,q2,q3]) rfl
      ⟨L,HL.out,?_⟩
     rw [hcopy];exact ⟨_,_,none,0,rfl,IsL.nil_ _ _,⟨⟨none,0,rfl,IsL.nil_ _ _⟩,⟨_,_,_,_,_,rfl,IsL.nil_ _ _,IsL.nil_ _ _,IsB.nil_ _ _,IsL.nil_ _ _,IsL.nil_ _ _⟩⟩,hbw.trans (ht7.below (fun k hk=>by omega) hbw.size)⟩
   | false=>
     obtain ⟨r,hr⟩:∃ r,putH d h [recX d h z x]=r:=⟨_,rfl⟩;have hcopy:zd5 d h z L=(r.1,r.2.1,if r.2.2.2=0 then [(zaO z x,⟨x.lba,min x.n 256,x.ver,r.2.1.p.zone,r.2.2.1.headD 0⟩)] else [],r.2.2.2):=by unfold zd5;rw [hhd];simp only [hwr,hr];rfl
     clear hhd hL;obtain ⟨q2,f2,t2⟩:=E.rules m3;have hpx:(zaO z x).n=min x.n 256:=rfl;have hbl:za9 (zaO z x).lba (zaO z x).n:=by unfold za9 at hx1 ⊢;show 0≤x.lba∧0<min x.n 256∧min x.n 256≤1099511627776∧x.lba≤1099511627776-min x.n 256;omega
     have h64:I64E (zaO z x):=by
      unfold za9 at hx1;have hof:x.off≤1125899906842624:=by by_cases h:x.zone = -1 <;> omega
      exact ⟨⟨by show _≤x.lba;omega,by show x.lba≤_;omega⟩,⟨by show _≤min x.n 256;omega,by show min x.n 256≤_;omega⟩,⟨by show _≤x.ver;omega,by show x.ver≤_;omega⟩,⟨by show _≤z;omega,by show z≤_;omega⟩,⟨by show _≤x.off;omega,by show x.off≤_;omega⟩⟩
     go_wp2_with fail;refine (zh0 d Az cz Am cm h.m (zaO z x) A2 c2 _ _ _ _ (E.get m3) (E.get m1) (E.get m0) hd hch hbl (by show min x.n 256≤4096;omega) hf h64 he2).mono ?_
     rintro u w4 ⟨A4,c4,rfl,hrec,hb4⟩;replace E:=(E.step hb4);have hsz4:=E.below.size;have hBd:=E.at_ m3;have hBh:=E.at_ m2;have hBz:=E.at_ m1;have hBr:=E.at_ m0;have hg1':=hBr.lt;have hbw4:=E.below;have hpu:=zdP d Az cz h (.agg hc) (.slice A4 1 c4) [recX d h z x] _ _ w4 (E.get m3) (E.get m2) hrec (fun b hb=>by have:=hK b hb;omega) hd ho hs (by simp) he1 (by simp)
     rw [hr] at hpu he3;clear q0 f0 t0 q1 f1 t1 q2 f2 t2 hIp hR1 hR2 hg1 hbl h64 hpx hd ho hs hch hf he1 he2 hrec hr hx1 hx2 hx3 hx4 hx5 hx6;obtain ⟨q2,f2⟩:=hBd.rules;have HPU:=Lib.hid hpu;have HC:=Lib.hid hcopy;have HE3:=Lib.hid he3;clear hpu hcopy he3;go_wp2_with (refine zbN hBh hn15 rfl rfl rfl ?_);refine HPU.out.mono ?_;rintro u w5 ⟨dv,vh,Aa,ca,rfl,own5,⟨⟨Az5,cz5,rfl,hz5⟩,hv5⟩,hb5⟩;have hc7:∃ hc5,vh=.agg hc5∧hc5.size=15∧hc5.toList.all (·.oneCell')=true∧hc5[7]?=some (.int .i64 r.2.1.p.zone):=by
      obtain ⟨hc5,hvv,hn5,h15,-⟩:=zbo hv5;refine ⟨hc5,hvv,hn5,h15,?_⟩;obtain ⟨_,_,_,_,_,e,-⟩:=hv5;rw [hvv] at e;injection e with e;rw [e];rfl
     obtain ⟨hc5,rfl,hn5,h15,hc57⟩:=hc7;replace E:=E.step hb5;have hbw5:=E.below;have hBd5:=E.at_ m3;have hBh5:=E.at_ m2;have hBz5:=E.at_ m1;have hBr5:=E.at_ m0;have hIp5:=E.get m0;obtain ⟨e6,he6⟩:∃ e6,r.2.2.2=e6:=⟨_,rfl⟩;obtain ⟨na,hna⟩:∃ na,r.2.2.1.length=na:=⟨_,rfl⟩;rw [hna] at own5 ⊢;rw [he6];have HE6:=Lib.hid he6;have HNA:=Lib.hid hna;clear he6 hna HPU hBd hBh hBz hBr q2 f2;go_upto_region 13 with (first | (refine zbM hBd5 rfl rfl rfl rfl rfl (by rfl) (by rfl) ?_;intro w6 hs6 ht6 hBd6) | (refine zd3 (hBh5.turned ht6 (by omega)) hn15 rfl rfl rfl rfl hn5 h15 ?_;intro w7 hs7 ht7 hBh7))
     have hKK:∀ b,(K b∨w4.heap.size≤b)→b≠w.heap.size∧b≠w.heap.size+1∧b≠w.heap.size+1+1∧b≠w.heap.size+1+1+1:=fun b hb=>by
      have h9:w.heap.size+1+1+1<w4.heap.size:=Nat.lt_of_lt_of_le hg1' (Nat.le_refl _);rcases hb with hb | hb
      · have:=hK b hb;omega
      · omega
     have hz7:=(hz5.turned ht6 (fun b hb e=>(hKK b hb).1 e)).turned ht7 (fun b hb e=>(hKK b hb).2.1 e)
     have hh7:=IsHo.keep (IsHo.keep hv5 (ht6.cells (K:=fun b=>K b∨w4.heap.size≤b) fun b hb e=>(hKK b hb).1 e)) (ht7.cells (K:=fun b=>K b∨w4.heap.size≤b) fun b hb e=>(hKK b hb).2.1 e)
     have hBd7:=hBd6.turned ht7 (by omega)
     have hBz7:=(hBz5.turned ht6 (by omega)).turned ht7 (by omega)
     have hBr7:=(hBr5.turned ht6 (by omega)).turned ht7 (by omega)
     have hb7:Below w.heap.size w w7:=za0.upon (za0.upon hbw5 ht6 (Nat.le_refl _) (Nat.le_refl _)) ht7 (by omega) (Nat.le_refl _)
     clear hBd5 hBh5 hBz5 hBr5 hz5 hv5 hBd6 hbw hbw4 hbw5 hs6 hs7;obtain ⟨KP,hKP⟩:∃ KP:Nat→Prop,KP=fun b=>K b∨w4.heap.size≤b:=⟨_,rfl⟩
     have HKK:Hid (∀ b,KP b→b≠w.heap.size∧b≠w.heap.size+1∧b≠w.heap.size+1+1∧b≠w.heap.size+1+1+1):=Lib.hid fun b hb=>hKK b (by rw [hKP] at hb;exact hb)
     rw [←hKP] at hz7 hh7;have HKP:=Lib.hid hKP;clear hKP hKK;by_cases h60:e6=0
     · subst h60
       have hna1:na=1:=by rw [←HNA.out];exact HE3.out HE6.out
       subst hna1;obtain ⟨a0,ha0⟩:∃ a0,r.2.2.1=[a0]:=List.length_eq_one_iff.1 HNA.out;rw [ha0] at own5;have hcopy:=HC.out;rw [HE6.out,if_pos rfl,ha0] at hcopy;obtain ⟨ga,cur,hAa,hga,hBa5,hcur⟩:=zci own5 (by omega)
       subst hAa;have hca:=hcur 0 (.int .i64 a0) rfl;have hBa7:=(hBa5.turned ht6 (by omega)).turned ht7 (by omega)
       have hIp7:=(hIp5.turned ht6 (fun b hb e=>by omega)).turned ht7 (fun b hb e=>by omega)
       have hla:ga<w7.heap.size:=hBa7.lt;clear own5 hcur hBa5 hIp5 HE3 HC;have F:=((((((Kn.from_ hb7 hb7.size).know hBd7).know hBh7).know hBz7).know hBr7).know hBa7).give za1.list hIp7;obtain ⟨ad,had,-,c0,c1,c2',c3,c4⟩:=zb6 (F.get m0) (show ([zaO z x]:List Ex)[0]?=some (zaO z x) from rfl);subst had;have h0:ad.add (0*5)=ad:=by simp [Addr.add]
       rw [h0] at c0 c1 c2' c3 c4;obtain ⟨p,hp⟩:∃ p,zaO z x=p:=⟨_,rfl⟩;rw [hp] at c0 c1 c2' c3 c4 F;have HP:=Lib.hid hp;clear hp;clear h0 hBd7 hBh7 hBz7 hBr7 hBa7 hIp7 E;go_wp2_with fail;go_loopw [18,70] (fun o i wr=>∃ j:Nat,i=.int .i64 j∧((j=0∧o=.slice none 0 0∧wr=w7)∨(j=1∧∃ Ao co,o=.slice Ao 1 co∧IsL Rp.mv wr (fun b=>w.heap.size≤b∧b≠w.heap.size+1+1∧b≠w.heap.size+1+1+1) (.slice Ao 1 co) [(p,⟨p.lba,p.n,p.ver,r.2.1.p.zone,a0⟩)]∧Below w7.heap.size w7 wr))) (fun _ i _=>1-(intOf i).toNat)
       case atStart=>exact ⟨0,rfl,Or.inl ⟨rfl,rfl,rfl⟩⟩
       case round=>
        obtain ⟨j,rfl,⟨rfl,rfl,rfl⟩ | ⟨rfl,Ao,co,rfl,hR,hbR⟩⟩:=hrel
        · have F2:=(F.push 85 (exC p)).push 85 (exC p)
          rw [World.size_alloc] at F2;go_upto_region 20 with fail;change Code.wp _ _ _ _ ((wr.alloc (.cells (exC p) 85)).alloc (.cells (exC p) 85))
          have hb5':Below wr.heap.size wr ((wr.alloc (.cells (exC p) 85)).alloc (.cells (exC p) 85)):=((Below.refl _ _).alloc (Nat.le_refl _) _).alloc (by rw [World.size_alloc];omega) _
          generalize hw5:(wr.alloc (.cells (exC p) 85)).alloc (.cells (exC p) 85)=w8 at F2 hb5' ⊢;clear hw5;have hbd:Below w8.heap.size w8 w8.drew:=(Below.refl _ _).drew;replace hb5':=hb5'.trans (hbd.mono hb5'.size);replace F2:=F2.step hbd;have hB0:=F2.at_ m0;have hB1:=F2.at_ m1;have hBa:=F2.at_ m2;have hBh:=F2.at_ m5;have hg8:=hB0.lt;have hgw:=hb7.size;refine wp_region_held_drew (S:=fun W=>W.cell? ⟨w.heap.size+1,7,none⟩=some (.int .i64 r.2.1.p.zone)∧W.cell? ⟨ga,0,none⟩=some (.int .i64 a0)) (by kernel_rfl) ⟨(hBh.cell 7).trans hc57,(hBa.cell 0).trans hca⟩ (fun hHeld=>?_)
          generalize w8.drew=wx at hB0 hB1 hBa hBh hg8 hb5' hHeld ⊢;clear F2 hbd;refine wT 0 76 ?_;refine wT 1 77 ?_;refine wT 2 78 ?_;refine wT 3 79 ?_;refine wT 4 80 ?_;refine wT 5 81 ?_;refine wT 6 82 ?_;refine wT 7 83 ?_;refine wRn 8 (fun K hK=>?_)
          obtain ⟨q0,f0⟩:=hB0.rules;have t0:=hB0.lt;go_simp;refine zaS (K:=K _) hB0 3 _ ?_;intro wx hsx htx hB2;replace hB1:=hB1.turned htx (by omega)
          replace hBa:=hBa.turned htx (by omega)
          replace hBh:=hBh.turned htx (by omega)
          clear q0 f0 t0 hsx;refine hK.out _ _ ⟨(hBh.cell 7).trans hc57,(hBa.cell 0).trans hca⟩ (fun hHeld=>?_)
          clear hK K;refine wT 9 84 ?_;refine wRn 10 (fun K hK=>?_)
          obtain ⟨q0,f0⟩:=hB2.rules;have t0:=hB2.lt;go_simp;refine zaS (K:=K _) hB2 4 _ ?_;intro wy hsy hty hB3;replace hB1:=hB1.turned hty (by omega)
          replace hBa:=hBa.turned hty (by omega)
          replace hBh:=hBh.turned hty (by omega)
          clear q0 f0 t0 hsy;refine hK.out _ _ ⟨(hBh.cell 7).trans hc57,(hBa.cell 0).trans hca⟩ (fun hHeld=>?_)
          clear hK K;try simp only [pu,List.set]
          refine wpAnyH_done (by kernel_rfl) ?_ _
          have hB4:Blk wy (wr.heap.size+1) 85 (exC ⟨p.lba,p.n,p.ver,r.2.1.p.zone,a0⟩):=hB3;have htz:za0 wr wy (fun b=>b=wr.heap.size+1):=((za0.of hb5').trans htx).trans hty
          have hby:Below wr.heap.size wr wy:=htz.below (fun k hk=>by omega) (Nat.le_refl _)
          have hz9:=hby.size;obtain ⟨q0,f0⟩:=hB4.rules;obtain ⟨q1,f1⟩:=hB1.rules;clear hB0 hB2 hB3 hHeld;obtain ⟨i8,hi8,hy0,hy1,hy2⟩:=info_parts Tryz.infMv;generalize hto:(⟨p.lba,p.n,p.ver,r.2.1.p.zone,a0⟩:Ex)=tx at q0 ⊢;go_wp2_with (at_builtin;refine za5 rfl _ _ _ rfl wr.heap.size 202 i8 _ 10 80 Tryz.underlying133 hi8 hy0 hy1 hy2 rfl (by omega) rfl (World.ownsRow_nil _ _ _ _) rfl (za6.new (xs:=(mvC p tx).toList) (n:=1) rfl rfl rfl) (by simp [Value.oneCell']) (by simp only [maxLen];omega) (by omega) (by rw [World.size_alloc];omega) ?_;intro A8 c8 wz own8 hg8)
          have hb6:Below wy.heap.size wy wz:=((Below.refl _ _).alloc (Nat.le_refl _) _).trans (hg8.turned.below (fun k hk=>by have hk':some k=none:=hk;cases hk') (by rw [World.size_alloc];omega))
          have own9:wz.ownsRow wr.heap.size 202 10 (.slice A8 1 c8) 1 (mvC p tx).toList:=own8;have hgr:=(F.at_ m1).lt;have hIM:IsL Rp.mv wz (fun b=>w.heap.size≤b∧b≠w.heap.size+1+1∧b≠w.heap.size+1+1+1) (.slice A8 1 c8) [(p,tx)]:=⟨A8,c8,_,rfl,(za6.of_own_ge own9).more fun b hb=>⟨by omega,by omega,by omega⟩,⟨_,[],(List.append_nil _).symm,rfl,rfl⟩,zaI own9,zar own9,by show 1≤_;omega⟩
          rw [←hto] at hIM;go_roundw
          case rel=>exact ⟨1,by go_num,Or.inr ⟨rfl,A8,c8,rfl,hIM,hby.trans (hb6.mono hby.size)⟩⟩
          case measure=>decide
        · go_upto_region 23 with fail
          have G:=F.step hbR;have hBd7:=G.at_ m4;have hBh7:=G.at_ m3;have hBz7:=G.at_ m2;have hBr7:=G.at_ m1;replace hz7:=hz7.step hbR;replace hh7:=hh7.step hbR;replace hb7:=G.below;clear G F;have hb0:Below wr.heap.size wr wr.drew:=(Below.refl _ _).drew;refine wp_region_held_drew (S:=fun W=>(∀ o,W.cell? ⟨w.heap.size,o,none⟩=(#[.int .i64 r.1.cap,.int .i64 r.1.opn,.int .i64 r.1.act,.slice Az5 r.1.z.length cz5]:Array Value)[o]?)∧∀ o,W.cell? ⟨w.heap.size+1,o,none⟩=hc5[o]?) (by kernel_rfl) ⟨(hBd7.step hb0).rules.1,(hBh7.step hb0).rules.1⟩ (fun hHeld=>?_)
          replace hBz7:=hBz7.step hb0;replace hBr7:=hBr7.step hb0;replace hBd7:=hBd7.step hb0;replace hBh7:=hBh7.step hb0;replace hz7:=hz7.step hb0;replace hh7:=hh7.step hb0;replace hb7:=hb7.trans (hb0.mono hb7.size);replace hR:=hR.step hb0;generalize wr.drew=wx at hR hBz7 hBr7 hBd7 hBh7 hz7 hh7 hb7 hHeld ⊢;refine wT 0 92 ?_;refine wT 1 93 ?_ (hy:=by intro w hSw;(try dsimp only at hSw);refine Eq.trans (zbi hSw.2 hn5 rfl rfl) ?_;with_reducible rfl)
          refine wT 2 94 ?_;refine wRn 3 (fun K hK=>?_)
          refine zbZ rfl hBz7 rfl rfl rfl rfl rfl (by rfl) ?_
          intro wy hsy hty hBy;replace hR:=hR.turned hty (fun b hb e=>hb.2.1 e)
          replace hz7:=hz7.turned hty (fun b hb e=>by have:=HKK.out b hb;omega)
          replace hh7:=IsHo.keep hh7 (hty.cells (K:=KP) fun b hb e=>by have:=HKK.out b hb;omega)
          replace hBr7:=hBr7.turned hty (show ¬w.heap.size+1+1+1=w.heap.size+1+1 by omega)
          replace hBd7:=hBd7.turned hty (show ¬w.heap.size=w.heap.size+1+1 by omega)
          replace hBh7:=hBh7.turned hty (show ¬w.heap.size+1=w.heap.size+1+1 by omega)
          refine hK.out _ _ ⟨hBd7.rules.1,hBh7.rules.1⟩ (fun hHeld=>?_)
          clear hK K;try simp only [pu,List.set]
          refine wRn 4 (fun K hK=>?_)
          refine zd9 rfl hBr7 rfl rfl rfl rfl hn5 h15 ?_;intro wz hsz htz hBz;replace hR:=hR.turned htz (fun b hb e=>hb.2.2 e)
          replace hz7:=hz7.turned htz (fun b hb e=>by have:=HKK.out b hb;omega)
          replace hh7:=IsHo.keep hh7 (htz.cells (K:=KP) fun b hb e=>by have:=HKK.out b hb;omega)
          replace hBy:=hBy.turned htz (show ¬w.heap.size+1+1=w.heap.size+1+1+1 by omega)
          replace hBd7:=hBd7.turned htz (show ¬w.heap.size=w.heap.size+1+1+1 by omega)
          replace hBh7:=hBh7.turned htz (show ¬w.heap.size+1=w.heap.size+1+1+1 by omega)
          refine hK.out _ _ ⟨hBd7.rules.1,hBh7.rules.1⟩ (fun hHeld=>?_)
          clear hK K;refine wT 5 12 ?_;refine wT 6 13 ?_;refine wpAnyH_done (by kernel_rfl) ?_ _
          go_wp2_with fail;obtain ⟨q0,f0⟩:=hBy.rules;obtain ⟨q1,f1⟩:=hBz.rules;have hl1:=zbK hBz hn5;have hl0:=zaW hBy rfl;have hbF:Below w.heap.size w wz:=za0.upon (za0.upon hb7 hty (by omega) (Nat.le_refl _)) htz (by omega) (Nat.le_refl _)
          refine bodyPost_ret (v:=.tuple #[.agg #[.int .i64 r.1.cap,.int .i64 r.1.opn,.int .i64 r.1.act,.slice Az5 r.1.z.length cz5],.agg hc5,.slice Ao 1 co,.int .i64 0]) (by simp [results,Tryz.results54,asAddr,hl0,hl1,Result.andThen]) rfl ⟨L,HL.out,?_⟩
          rw [hcopy];have hp:=HP.out;subst hp;exact ⟨_,_,Ao,co,rfl,hR.more fun b hb=>hb.1,⟨⟨Az5,cz5,rfl,hz7.more fun b hb=>by rw [HKP.out] at hb;rcases hb with h | h;exact .inl h;exact .inr (by omega)⟩,hh7.more fun b hb=>by rw [HKP.out] at hb;rcases hb with h | h;exact .inl h;exact .inr (by omega)⟩,hbF⟩
     · have h6b:(e6 != 0)=true:=by simpa using h60
       have hcopy:=HC.out;rw [HE6.out,if_neg h60] at hcopy;clear E;go_upto_region 14 with fail;have hb0:Below w7.heap.size w7 w7.drew:=(Below.refl _ _).drew;refine wp_region_held_drew (S:=fun W=>(∀ o,W.cell? ⟨w.heap.size,o,none⟩=(#[.int .i64 r.1.cap,.int .i64 r.1.opn,.int .i64 r.1.act,.slice Az5 r.1.z.length cz5]:Array Value)[o]?)∧∀ o,W.cell? ⟨w.heap.size+1,o,none⟩=hc5[o]?) (by kernel_rfl) ⟨(hBd7.step hb0).rules.1,(hBh7.step hb0).rules.1⟩ (fun hHeld=>?_)
       replace hBz7:=hBz7.step hb0;replace hBr7:=hBr7.step hb0;replace hBd7:=hBd7.step hb0;replace hBh7:=hBh7.step hb0;replace hz7:=hz7.step hb0;replace hh7:=hh7.step hb0;replace hb7:=hb7.trans (hb0.mono hb7.size);generalize w7.drew=wx at hBz7 hBr7 hBd7 hBh7 hz7 hh7 hb7 hHeld ⊢;refine wT 0 65 ?_;refine wT 1 66 ?_ (hy:=by intro w hSw;(try dsimp only at hSw);refine Eq.trans (zbi hSw.2 hn5 rfl rfl) ?_;with_reducible rfl)
       refine wT 2 67 ?_;refine wRn 3 (fun K hK=>?_)
       refine zbZ rfl hBz7 rfl rfl rfl rfl rfl (by rfl) ?_
       intro wy hsy hty hBy;replace hz7:=hz7.turned hty (fun b hb e=>by have:=HKK.out b hb;omega)
       replace hh7:=IsHo.keep hh7 (hty.cells (K:=KP) fun b hb e=>by have:=HKK.out b hb;omega)
       replace hBr7:=hBr7.turned hty (show ¬w.heap.size+1+1+1=w.heap.size+1+1 by omega)
       replace hBd7:=hBd7.turned hty (show ¬w.heap.size=w.heap.size+1+1 by omega)
       replace hBh7:=hBh7.turned hty (show ¬w.heap.size+1=w.heap.size+1+1 by omega)
       refine hK.out _ _ ⟨hBd7.rules.1,hBh7.rules.1⟩ (fun hHeld=>?_)
       clear hK K;try simp only [pu,List.set]
       refine wRn 4 (fun K hK=>?_)
       refine zd9 rfl hBr7 rfl rfl rfl rfl hn5 h15 ?_;intro wz hsz htz hBz;replace hz7:=hz7.turned htz (fun b hb e=>by have:=HKK.out b hb;omega)
       replace hh7:=IsHo.keep hh7 (htz.cells (K:=KP) fun b hb e=>by have:=HKK.out b hb;omega)
       replace hBy:=hBy.turned htz (show ¬w.heap.size+1+1=w.heap.size+1+1+1 by omega)
       replace hBd7:=hBd7.turned htz (show ¬w.heap.size=w.heap.size+1+1+1 by omega)
       replace hBh7:=hBh7.turned htz (show ¬w.heap.size+1=w.heap.size+1+1+1 by omega)
       refine hK.out _ _ ⟨hBd7.rules.1,hBh7.rules.1⟩ (fun hHeld=>?_)
       clear hK K;refine wT 5 12 ?_;refine wT 6 13 ?_;refine wpAnyH_done (by kernel_rfl) ?_ _
       go_wp2_with fail;obtain ⟨q0,f0⟩:=hBy.rules;obtain ⟨q1,f1⟩:=hBz.rules;have hl1:=zbK hBz hn5;have hl0:=zaW hBy rfl;have hbF:Below w.heap.size w wz:=za0.upon (za0.upon hb7 hty (by omega) (Nat.le_refl _)) htz (by omega) (Nat.le_refl _)
       refine bodyPost_ret (v:=.tuple #[.agg #[.int .i64 r.1.cap,.int .i64 r.1.opn,.int .i64 r.1.act,.slice Az5 r.1.z.length cz5],.agg hc5,.slice none 0 0,.int .i64 e6]) (by simp [results,Tryz.results54,asAddr,hl0,hl1,Result.andThen]) rfl ⟨L,HL.out,?_⟩
       rw [hcopy];exact ⟨_,_,none,0,rfl,IsL.nil_ _ _,⟨⟨Az5,cz5,rfl,hz7.more fun b hb=>by rw [HKP.out] at hb;rcases hb with h | h;exact .inl h;exact .inr (by omega)⟩,hh7.more fun b hb=>by rw [HKP.out] at hb;rcases hb with h | h;exact .inl h;exact .inr (by omega)⟩,hbF⟩
end Go.Proofs.YthblkdnijhphhaaGreat
