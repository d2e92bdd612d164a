/- A part of the proof. -/
import Derived.Test.YthblkdnijhphhaaGreatReadW
set_option maxHeartbeats 2000000
namespace Go.Proofs.YthblkdnijhphhaaGreat
open Go.RowKit
structure JInv (n:Nat) (M:Int) (F:Nat→Int) (B:Int) (S:List Sp) (d:Zd) (h:Ho):Prop where
 dev:d=devA M d.z
 ok:OkA M d.z
 most:M≤4000
 bnd:0≤B∧B≤250
 len:d.z.length=n
 fe:∀ k,k<n→(d.z.getD k z0).fe=F k
 F0:∀ k,k<n→0≤F k∧F k≤1000000
 id:h.id=1
 own:h.own=(List.range n).map fun (k:Nat)=>⟨(k:Int),1,F k⟩
 s:h.s=S
 chain:za2 0 h.m
 far:∀ b,B≤b→see h.m b=none
 fit:FitE d.z h.m
 ver:0≤h.ver
 old:∀ b t,see h.m b=some t→t.1<h.ver
 seq:0≤h.seq
 opened:h.opn=true→∃ k hd,k<n∧(d.z.getD k z0).d≠[]∧h.p=⟨hd,k,M,(d.z.getD k z0).d.length,[],[]⟩∧OkHd hd∧hd.epoch=F k∧d.z.getD k z0=zcm (F k) M (d.z.getD k z0).d
 shut:h.opn=false→h.p=p0k
theorem zfG {m:List Ex} (h:za2 0 m) (b:Int):Best m b (see m b):=by
 cases hs:see m b with
 | none=>
   intro e he;cases hh:hasE e b with
   | false=>rfl
   | true=>rw [zc1 h he hh] at hs;cases hs
 | some t=>
   unfold see at hs;cases hf:m.find? (hasE · b) with
   | none=>rw [hf] at hs;cases hs
   | some e=>
     rw [hf] at hs;injection hs with hs;have he:=List.mem_of_find?_eq_some hf;have hb:hasE e b=true:=by simpa using List.find?_some hf
     refine ⟨e,he,hb,hs,fun x hx hxb=>?_⟩
     have h1:=zc1 h he hb;rw [zc1 h hx hxb] at h1;injection h1 with h1;have:x.ver=e.ver:=congrArg (·.1) h1;omega
def zfk (zs zs':List Zn):Prop:=zs'.length=zs.length∧∀ k,∃ x,(zs'.getD k z0).d=(zs.getD k z0).d++x
theorem zfk.fit {zs zs':List Zn} {m:List Ex} (h:zfk zs zs') (hf:FitE zs m):FitE zs' m:=fun b t ht=>by
 rcases hf b t ht with h1 | ⟨h1,h2,h3⟩
 · exact .inl h1
 · obtain ⟨x,hx⟩:=h.2 t.2.1.toNat
   exact .inr ⟨by rw [h.1];exact h1,h2,by rw [hx,List.length_append];omega⟩
theorem zj5 {a x:List UInt8} {o n:Nat} (h:o+n≤a.length):((a++x).drop o).take n=(a.drop o).take n:=by
 rw [List.drop_append_of_le_length (by omega),List.take_append_of_le_length (by rw [List.length_drop];omega)]
theorem zfk.block {zs zs':List Zn} {m:List Ex} (h:zfk zs zs') (hf:FitE zs m) (b:Int):zaa zs' m b=zaa zs m b:=by
 unfold zaa;cases hs:see m b with
 | none=>rfl
 | some t=>
   simp only;rcases hf b t hs with h1 | ⟨h1,h2,h3⟩
   · rw [if_pos h1,if_pos h1]
   · obtain ⟨x,hx⟩:=h.2 t.2.1.toNat
     rw [hx,zj5 (by omega)]
section
variable {n:Nat} {M B:Int} {F:Nat→Int} {S:List Sp} {d:Zd} {h:Ho}
theorem JInv.n64 (hi:JInv n M F B S d h):1≤n∧n≤64:=by have:=hi.ok.2.1;rw [hi.len] at this;exact this
theorem JInv.len9 (hi:JInv n M F B S d h):(h.m.length:Int)≤B:=zf5 hi.chain hi.bnd.1 hi.far
theorem zmj {zs:List Zn} {k:Nat} {rs:List Rc} {h1:Ho} {hd:Hd} {bf:List UInt8} (hok:OkA M zs) (hk:k<zs.length) (hF:0≤F k) (hep:hd.epoch=F k)
 (hz:zs.getD k z0=zcm (F k) M (zs.getD k z0).d) (herr:errL rs=0) (hpos:0<(frsL rs).length)
 (hp:h1.p=⟨hd,k,M,(zs.getD k z0).d.length,bf,[]⟩) (hroom:((frsL rs).length:Int)≤zco h1.p) :
 putW (devA M zs) h1 rs=(devA M (zs.set k (zcm (F k) M ((zs.getD k z0).d++(bf++frsL rs)))),znz h1 ⟨hd,k,M,((zs.getD k z0).d++(bf++frsL rs)).length,[],[]⟩,plsL (((zs.getD k z0).d++bf).length:Nat) rs,0) ∧
  ((((zs.getD k z0).d++(bf++frsL rs)).length:Int))≤M:=by
 have hadd:=ziz h1.p herr (by omega)
 rw [hp] at hadd hroom;unfold zco at hroom;simp only at hroom;have hle:((zs.getD k z0).d.length:Int)+(bf++frsL rs).length≤M:=by rw [List.length_append];omega
 have hne:bf++frsL rs≠[]:=fun e=>by have:=congrArg List.length e;rw [List.length_append,List.length_nil] at this;omega
 obtain ⟨g1,g2⟩:=zjQ (e:=F k) (b:=(zs.getD k z0).d) (M:=M) hF hne hle hok.1;have hdo:=zhR (x:=bf++frsL rs) hok (getD_some hk);rw [hz] at hdo;rw [if_pos g1,g2,show (zcm (F k) M (zs.getD k z0).d).fe=F k from rfl] at hdo;refine ⟨?_,by rw [List.length_append];omega⟩
 unfold putW;rw [hp,hadd];simp only;rw [if_neg (by simp),if_neg hne,hep,hdo]
 simp only;rw [if_neg (by simp)]
 unfold zc8;simp only;rw [if_neg hne,List.length_append,List.length_append];simp
structure zh6 (n:Nat) (M:Int) (F:Nat→Int) (d:Zd) (h:Ho) (rs:List Rc) (k:Nat) (hd:Hd) (sq:Int) (zs:List Zn) (at_:List Int):Prop where
 kl:k<n
 put:putH d h rs=(devA M zs,⟨h.id,h.own,h.s,true,⟨hd,k,M,(zs.getD k z0).d.length,[],[]⟩,h.m,h.ver,sq⟩,at_,0)
 ok:OkA M zs
 grown:zfk d.z zs
 fe:∀ j,j<n→(zs.getD j z0).fe=F j
 ne:(zs.getD k z0).d≠[]
 land:zs.getD k z0=zcm (F k) M (zs.getD k z0).d
 head:OkHd hd∧hd.epoch=F k
 seqs:h.seq≤sq∧sq≤h.seq+1
 place:at_.length=rs.length∧∀ (i:Nat) (r:Rc) (o:Int),rs[i]?=some r→at_[i]?=some o→0≤o∧o+r.data.length≤((zs.getD k z0).d.length:Int)∧((zs.getD k z0).d.drop o.toNat).take r.data.length=r.data
 new:(h.opn=true∧h.p.zone=k)∨(d.z.getD k z0).d=[]
theorem zok {rs:List Rc} (hne:rs≠[]) (herr:errL rs=0) (hok:∀ r∈rs,OkRc r):0<(frsL rs).length:=by
 obtain ⟨r,l,rfl⟩:=List.exists_cons_of_ne_nil hne;have h5:=((zdy (hok r (List.mem_cons_self ..))).2 (zgz herr r (List.mem_cons_self ..))).2;simp only [frsL,List.length_append];omega
theorem put_gen (hi:JInv n M F B S d h) {rs:List Rc} (hne:rs≠[]) (herr:errL rs=0) (hok:∀ r∈rs,OkRc r) (hsq:h.seq≤900000) :
 putH d h rs=(zd0,ho0,[],64)∨∃ k hd sq zs at_,zh6 n M F d h rs k hd sq zs at_:=by
 have hn:=hi.n64;have hpos:=zok hne herr hok;have hck:chkD d=0:=by
  unfold chkD;rw [if_pos (by rw [hi.dev];exact hi.ok.ok)]
 have hdo:∀ h2 zs k hd sq bf,zbW d h (frsL rs).length=(devA M zs,h2,true)→OkA M zs→zfk d.z zs→(∀ j,j<n→(zs.getD j z0).fe=F j)→k<n →
  OkHd hd→hd.epoch=F k→zs.getD k z0=zcm (F k) M (zs.getD k z0).d→h2=⟨h.id,h.own,h.s,true,⟨hd,k,M,(zs.getD k z0).d.length,bf,[]⟩,h.m,h.ver,sq⟩→h.seq≤sq∧sq≤h.seq+1 →
  ((frsL rs).length:Int)≤zco h2.p→(h.opn=true∧h.p.zone=k)∨(d.z.getD k z0).d=[]→∃ k hd sq zs at_,zh6 n M F d h rs k hd sq zs at_:=by
  intro h2 zs k hd sq bf e1 o1 og o3 hk o5 o6 o7 o8 o9 o11 o12;have hkz:k<zs.length:=by rw [og.1,hi.len];exact hk
  obtain ⟨p1,p3⟩:=zmj (h1:=h2) (F:=F) (bf:=bf) (rs:=rs) o1 hkz (hi.F0 k hk).1 o6 o7 herr hpos (by rw [o8]) o11
  obtain ⟨x,hx⟩:∃ x,(zs.getD k z0).d++(bf++frsL rs)=x:=⟨_,rfl⟩;rw [hx] at p1 p3;have hxz:((zs.set k (zcm (F k) M x)).getD k z0)=zcm (F k) M x:=by rw [zci hkz,if_pos rfl]
  have hld:(zcm (F k) M x).d=x:=rfl;refine ⟨k,hd,sq,zs.set k (zcm (F k) M x),plsL (((zs.getD k z0).d++bf).length:Nat) rs,hk,?_,o1.set (zj2 (hi.F0 k hk).1 hi.ok.1 p3),⟨by rw [List.length_set];exact og.1,fun j=>?_⟩,fun j hj=>?_,?_,?_,⟨o5,o6⟩,o9,⟨zgv _ _,fun i r o hr ho=>?_⟩,o12⟩
  · unfold putH
    rw [if_neg (by rw [hck];simp),if_neg (by rw [herr];simp),e1]
    simp only [Bool.true_eq_false,if_false];rw [p1,hxz,o8];rfl
  · rw [zci hkz]
    obtain ⟨y,hy⟩:=og.2 j;split
    · rename_i hj
      subst hj;rw [hld,←hx,hy,List.append_assoc];exact ⟨_,rfl⟩
    · exact ⟨y,hy⟩
  · rw [zci hkz]
    split
    · rename_i e;rw [e];rfl
    · exact o3 j hj
  · rw [hxz,hld,←hx]
    intro e;have:=congrArg List.length e;simp only [List.length_append,List.length_nil] at this;omega
  · rw [hxz,hld]
  · rw [hxz,hld,←hx,←List.append_assoc]
    exact zfX herr hok hr ho
 by_cases hfit:h.opn=true∧((frsL rs).length:Int)≤zco h.p
 · obtain ⟨k,hd,hk,k1,k2,k3,k4,k5⟩:=hi.opened hfit.1
   refine .inr (hdo h d.z k hd h.seq [] (by unfold zbW;rw [if_pos hfit,←hi.dev]) hi.ok ⟨rfl,fun k=>⟨[],by simp⟩⟩ hi.fe hk k3 k4 k5 (by rw [←hfit.1,←k2]) (by omega) hfit.2 (.inl ⟨hfit.1,by rw [k2]⟩))
 · have hfin:∃ zs,finD d h=devA M zs∧OkA M zs∧zfk d.z zs∧(∀ k,k<n→(zs.getD k z0).fe=F k)∧∀ j,(zs.getD j z0).d=(d.z.getD j z0).d:=by
    unfold finD;cases hop:h.opn with
    | false=>exact ⟨d.z,by simpa using hi.dev,hi.ok,⟨rfl,fun k=>⟨[],by simp⟩⟩,hi.fe,fun _=>rfl⟩
    | true=>
      obtain ⟨k,hd,hk,k1,k2,k3,k4,k5⟩:=hi.opened hop;have hkz:k<d.z.length:=by rw [hi.len];exact hk
      have hf:=zit hi.ok (getD_some hkz);rw [hi.fe k hk] at hf;have hsame:∀ j,((d.z.set k (finZ (d.z.getD k z0))).getD j z0).d=(d.z.getD j z0).d:=fun j=>by
       rw [zci hkz];split
       · rename_i e;subst e;rfl
       · rfl
      refine ⟨d.z.set k (finZ (d.z.getD k z0)),?_,hi.ok.set (zoN (hi.ok.2.2 _ (List.mem_of_getElem? (getD_some hkz)))),⟨by rw [List.length_set],fun j=>⟨[],by rw [hsame,List.append_nil]⟩⟩,fun j hj=>?_,hsame⟩
      · rw [if_pos rfl,k2]
        simp only;rw [k4,hi.dev,show (devA M d.z).z=d.z from rfl,hf]
      · rw [zci hkz]
        split
        · rename_i e;subst e;exact hi.fe _ hj
        · exact hi.fe _ hj
   obtain ⟨zs,z1,z2,z3,z4,z5⟩:=hfin;have hno:(zbW d h (frsL rs).length).2.2=false→putH d h rs=(zd0,ho0,[],64):=fun e=>by
    unfold putH;rw [if_neg (by rw [hck];simp),if_neg (by rw [herr];simp),if_pos e]
   have hroom:zbW d h (frsL rs).length=match h.own[h.own.findIdx (zbB (devA M zs))]? with
    | none=>(devA M zs,h,false)
    | some f=>(devA M zs,⟨h.id,h.own,h.s,true,(begP (devA M zs) h f).1,h.m,h.ver,h.seq+1⟩,decide ((begP (devA M zs) h f).2=0) && decide (((frsL rs).length:Int)≤zco (begP (devA M zs) h f).1)):=by
    unfold zbW;rw [if_neg hfit,z1];rfl
   cases hf:h.own[h.own.findIdx (zbB (devA M zs))]? with
   | none=>rw [hf] at hroom;exact .inl (hno (by rw [hroom]))
   | some f=>
     rw [hf] at hroom;simp only at hroom;cases hb:(decide ((begP (devA M zs) h f).2=0) && decide (((frsL rs).length:Int)≤zco (begP (devA M zs) h f).1)) with
     | false=>exact .inl (hno (by rw [hroom];exact hb))
     | true=>
       simp only [Bool.and_eq_true,decide_eq_true_eq] at hb;have hfree:zbB (devA M zs) f=true:=by
        obtain ⟨hlt,e⟩:=List.getElem?_eq_some_iff.1 hf;rw [←e];exact List.findIdx_getElem
       have hmem:=List.mem_of_getElem? hf;rw [hi.own] at hmem;obtain ⟨k,hk,rfl⟩:=List.mem_map.1 hmem;have hk:=List.mem_range.1 hk;unfold zbB at hfree;simp only [Bool.and_eq_true,decide_eq_true_eq,Int.toNat_natCast] at hfree;obtain ⟨_,hst,hfe⟩:=hfree;have hkz:k<zs.length:=by rw [z3.1,hi.len];exact hk
       have hokz:=z2.2.2 _ (List.mem_of_getElem? (getD_some hkz));have hst':(zs.getD k z0).st=0:=hst;have hd0:(zs.getD k z0).d=[]:=by
        obtain ⟨_,_,_,h4⟩:=hokz;rcases h4 with h4 | h4 | h4 | h4
        · exact List.length_eq_zero_iff.1 h4.2
        · rcases h4.1 with h5 | h5 <;> omega
        · omega
        · omega
       have hfk:=hi.F0 k hk;have hsq0:=hi.seq;have hOk:zns ⟨h.id,F k,h.seq⟩:=zki (by show 0≤h.id∧h.id≤1000000;rw [hi.id];omega) hfk (by show 0≤h.seq∧h.seq≤1000000;omega)
       have hM:=z2.1;have hnp:begP (devA M zs) h ⟨k,1,F k⟩=(⟨⟨h.id,F k,h.seq⟩,k,M,0,(zbX ⟨h.id,F k,h.seq⟩).1,[]⟩,0):=by
        have h2:=hb.1;unfold begP at h2 ⊢;unfold zcH at h2 ⊢;simp only at h2 ⊢;have hcap:(devA M zs).cap=M:=rfl;rw [hcap] at h2 ⊢;rw [if_neg (by rw [hOk.2.1];simp),if_neg (by simp only [Decidable.not_not];omega)] at h2 ⊢
        by_cases hlen:M<(zbX ⟨h.id,F k,h.seq⟩).1.length
        · rw [if_pos hlen] at h2;simp at h2
        · rw [if_neg hlen]
       rw [hnp] at hroom hb;refine .inr (hdo ⟨h.id,h.own,h.s,true,⟨⟨h.id,F k,h.seq⟩,k,M,0,(zbX ⟨h.id,F k,h.seq⟩).1,[]⟩,h.m,h.ver,h.seq+1⟩ zs k ⟨h.id,F k,h.seq⟩ (h.seq+1) (zbX ⟨h.id,F k,h.seq⟩).1 (hroom.trans ?_) z2 z3 z4 hk hOk.1 rfl ?_ ?_ (by omega) hb.2 (.inr (by rw [←z5];exact hd0)))
       · have h2:=hb.2
         simp only [decide_true,Bool.true_and,h2]
       · have hfe':(zs.getD k z0).fe=F k:=hfe
         rw [hd0];show zs.getD k z0=⟨if ([]:List UInt8)=[] then 0 else _,F k,[]⟩;rw [if_pos rfl,←hst',←hfe',←hd0]
       · rw [hd0];rfl
theorem JInv.inB (hi:JInv n M F B S d h):∀ e∈h.m,endE e≤B:=fun e he=>by
 have hm:=(zai hi.chain e he).1;rcases Int.lt_or_le B (endE e) with h1 | h1
 · have h2:=hm.pos
   have hb:hasE e (endE e-1)=true:=by unfold hasE endE;simp;omega
   have h3:=zc1 hi.chain he hb;rw [hi.far _ (by omega)] at h3
   cases h3
 · exact h1
theorem JInv.oldE (hi:JInv n M F B S d h):∀ e∈h.m,e.ver<h.ver:=fun e he=>by
 have hm:=(zai hi.chain e he).1;have h2:=hm.pos;have hb:hasE e e.lba=true:=by unfold hasE endE;simp;omega
 exact hi.old e.lba _ (zc1 hi.chain he hb)
theorem JInv.grow (hi:JInv n M F B S d h) {rs:List Rc} {k:Nat} {hd:Hd} {sq:Int} {zs:List Zn} {at_:List Int} (hp:zh6 n M F d h rs k hd sq zs at_) {m':List Ex} {v:Int} (hch:za2 0 m') (hfar:∀ b,B≤b→see m' b=none) (hfit:FitE zs m') (hv:0≤v) (hold:∀ b t,see m' b=some t→t.1<v) :
 JInv n M F B S (devA M zs) ⟨h.id,h.own,h.s,true,⟨hd,k,M,(zs.getD k z0).d.length,[],[]⟩,m',v,sq⟩ where
 dev:=rfl
 ok:=hp.ok
 most:=hi.most
 bnd:=hi.bnd
 len:=by show zs.length=n;rw [hp.grown.1];exact hi.len
 fe:=hp.fe
 F0:=hi.F0
 id:=hi.id
 own:=hi.own
 s:=hi.s
 chain:=hch
 far:=hfar
 fit:=hfit
 ver:=hv
 old:=hold
 seq:=by have:=hi.seq;have:=hp.seqs;show 0≤sq;omega
 opened:=fun _=>⟨k,hd,hp.kl,hp.ne,rfl,hp.head.1,hp.head.2,hp.land⟩
 shut:=fun e=>by cases e
theorem zh6.long {rs:List Rc} {k:Nat} {hd:Hd} {sq:Int} {zs:List Zn} {at_:List Int} (hp:zh6 n M F d h rs k hd sq zs at_) (hM:M≤4000) (hn:d.z.length=n):((zs.getD k z0).d.length:Int)≤4000:=by
 have hk:k<zs.length:=by rw [hp.grown.1,hn];exact hp.kl
 have h1:=hp.ok.2.2 _ (List.mem_of_getElem? (getD_some hk));obtain ⟨_,_,_,h4⟩:=h1;omega
theorem zh6.one {r:Rc} {k:Nat} {hd:Hd} {sq:Int} {zs:List Zn} {at_:List Int} (hp:zh6 n M F d h [r] k hd sq zs at_):∃ o,at_=[o]∧0≤o∧o+r.data.length≤((zs.getD k z0).d.length:Int)∧((zs.getD k z0).d.drop o.toNat).take r.data.length=r.data:=by
 have h1:=hp.place.1;match at_,h1 with
 | [o],_=>exact ⟨o,rfl,hp.place.2 0 r o rfl rfl⟩
theorem zfH {D x:List UInt8} {o i:Nat} (h:(D.drop o).take x.length=x) (hi:i+16≤x.length):(D.drop (o+i)).take 16=(x.drop i).take 16:=by
 rw [show (x.drop i).take 16=(((D.drop o).take x.length).drop i).take 16 by rw [h],List.drop_take,List.drop_drop,List.take_take,Nat.min_eq_left (by omega)]
theorem ziM (hi:JInv n M F B S d h) {o:Io} (he:zbk S o=0) (hr:zdN B (recI h.ver o)) (hv:h.ver≤900000) (hsq:h.seq≤900000) :
 zo0 d h [recI h.ver o]∧((zau d h [o]).2.2=64∨∃ d' h',zau d h [o]=(d',h',0)∧JInv n M F B S d' h'∧h'.ver=h.ver+1∧h'.seq≤h.seq+1 ∧
  ∀ b,(covR (recI h.ver o) b→∃ t,see h'.m b=some t∧t.1=h.ver∧(t.2.1<0↔(recI h.ver o).kind=2)∧zaa d'.z h'.m b=zie (recI h.ver o) b)∧(¬covR (recI h.ver o) b→see h'.m b=see h.m b∧zaa d'.z h'.m b=zaa d.z h.m b)):=by
 have herr:errI h.s [o]=0:=by rw [hi.s];exact zgl (by simpa using he)
 have hB:=hi.bnd;have herl:errL [recI h.ver o]=0:=zdn fun r hr'=>by rw [List.mem_singleton] at hr';subst hr';exact hr.fit (by omega)
 have hokr:∀ r∈[recI h.ver o],OkRc r:=fun r hr'=>by rw [List.mem_singleton] at hr';subst hr';exact hr.ok (by omega)
 have hcm:zau d h [o]=if (putH d h [recI h.ver o]).2.2.2≠0 then ((putH d h [recI h.ver o]).1,(putH d h [recI h.ver o]).2.1,(putH d h [recI h.ver o]).2.2.2)
  else ((putH d h [recI h.ver o]).1,znX (putH d h [recI h.ver o]).2.1 (mapP (putH d h [recI h.ver o]).2.1 [recI h.ver o] (putH d h [recI h.ver o]).2.2.1).1 1,0):=by
  unfold zau;rw [if_neg (by rw [herr];simp),if_neg (by simp)]
  rfl
 have hrv:(recI h.ver o).ver=h.ver:=rfl;rcases put_gen hi (by simp) herl hokr hsq with hno | ⟨k,hd,sq,zs,at_,hp⟩
 · refine ⟨fun h0=>by rw [hno] at h0;simp at h0,.inl ?_⟩
   rw [hcm,hno,if_pos (by simp)]
 · generalize recI h.ver o=r at hr herl hokr hcm hrv hp ⊢
   obtain ⟨p,rfl,p1,p2,p3⟩:=hp.one;have hlong:=hp.long hi.most hi.len;have hn:=hi.n64;have hk:=hp.kl;have hver:=hi.ver;have hX:zdg B (r,(k:Int),p):=⟨hr,by dsimp only;omega,by dsimp only;omega⟩
   have hl9:=hi.len9;have hmo:zjE [(r,(k:Int),p)] h.m:=zk0 (B:=B) (L:=h.m) (by omega) (by simpa using hX) hi.chain (zfG hi.chain) hi.inB (by omega)
   have hmay:mayE (extX (r,(k:Int),p)):=hX.may (by omega)
   obtain ⟨o1,o2,o3⟩:=zdz hi.chain hmay;have hcov:∀ b,hasE (extX (r,(k:Int),p)) b=true↔covR r b:=fun b=>zog _ b
   have hev:(extX (r,(k:Int),p)).ver=h.ver:=hrv;have hsee:∀ b,covR r b→see (zam h.m (extX (r,(k:Int),p))) b=some (seeE (extX (r,(k:Int),p)) b):=fun b hb=>o2 b ⟨(hcov b).2 hb,fun t ht=>by rw [hev];exact hi.old b t ht⟩
   have hnot:∀ b,¬covR r b→see (zam h.m (extX (r,(k:Int),p))) b=see h.m b:=fun b hb=>o3 b fun h9=>hb ((hcov b).1 h9.1)
   have hlb:=hr.lba;have hgk:(r.kind=2→∀ b,seeE (extX (r,(k:Int),p)) b=(h.ver,-1,0))∧(r.kind=1→∀ b,seeE (extX (r,(k:Int),p)) b=(h.ver,(k:Int),p+(b-r.lba)*16)):=by
    refine ⟨fun hk2 b=>?_,fun hk1 b=>?_⟩
    · unfold seeE extX zbZ
      simp [hk2,hrv]
    · have hk2:¬r.kind=2:=by omega
      have hk3:¬r.kind=3:=by omega
      have hk4:¬(k:Int) = -1:=by omega
      unfold seeE extX zbZ;simp [hk2,hk3,hk4,hrv]
   have hbl:∀ b,covR r b→(((seeE (extX (r,(k:Int),p)) b).2.1<0↔r.kind=2))∧(seeE (extX (r,(k:Int),p)) b).1=h.ver∧((seeE (extX (r,(k:Int),p)) b).2.1<0∨((seeE (extX (r,(k:Int),p)) b).2.1<zs.length∧0≤(seeE (extX (r,(k:Int),p)) b).2.2∧(seeE (extX (r,(k:Int),p)) b).2.2+16≤((zs.getD (seeE (extX (r,(k:Int),p)) b).2.1.toNat z0).d.length:Int))) ∧
    (if (seeE (extX (r,(k:Int),p)) b).2.1<0 then zaI 16 else ((zs.getD (seeE (extX (r,(k:Int),p)) b).2.1.toNat z0).d.drop (seeE (extX (r,(k:Int),p)) b).2.2.toNat).take 16)=zie r b:=by
    intro b hb;unfold covR at hb;rcases hr.kind with hk1 | hk2
    · rw [hgk.2 hk1]
      have hdl:=hr.data hk1;have hzl:zs.length=n:=by rw [hp.grown.1];exact hi.len
      refine ⟨by dsimp only;omega,rfl,.inr ⟨by dsimp only;omega,by dsimp only;omega,by dsimp only;rw [Int.toNat_natCast];omega⟩,?_⟩
      dsimp only;rw [if_neg (by omega),Int.toNat_natCast]
      unfold zie;rw [if_neg (by omega),←zfH p3 (i:=(16*(b-r.lba)).toNat) (by omega)]
      congr 2
      omega
    · rw [hgk.1 hk2]
      refine ⟨by simp [hk2],rfl,.inl (by simp),?_⟩
      unfold zie;rw [if_pos (by simp),if_pos hk2]
   refine ⟨fun _=>?_,.inr ⟨devA M zs,⟨h.id,h.own,h.s,true,⟨hd,k,M,(zs.getD k z0).d.length,[],[]⟩,zam h.m (extX (r,(k:Int),p)),h.ver+1,sq⟩,?_,hi.grow hp o1 (fun b hb=>?_) (fun b t ht=>?_) (by omega) (fun b t ht=>?_),rfl,hp.seqs.2,fun b=>⟨fun hb=>⟨_,hsee b hb,(hbl b hb).2.1,(hbl b hb).1,?_⟩,fun hb=>⟨hnot b hb,?_⟩⟩⟩⟩
   · rw [hp.put]
     show (k:Int)≤1000000∧h.ver≤100000000000∧0≤h.ver∧zjE [(r,(k:Int),p)] h.m;exact ⟨by omega,by omega,by omega,hmo⟩
   · rw [hcm,hp.put]
     simp only;rw [if_neg (by simp)]
     have hmp:mapP ⟨h.id,h.own,h.s,true,⟨hd,k,M,(zs.getD k z0).d.length,[],[]⟩,h.m,h.ver,sq⟩ [r] [p]=(zam h.m (extX (r,(k:Int),p)),0):=hmo.go;rw [hmp];rfl
   · rw [hnot b (by unfold covR;omega)]
     exact hi.far b hb
   · by_cases hb:covR r b
     · rw [hsee b hb] at ht
       injection ht with ht;rw [←ht];exact (hbl b hb).2.2.1
     · rw [hnot b hb] at ht
       exact hp.grown.fit hi.fit b t ht
   · by_cases hb:covR r b
     · rw [hsee b hb] at ht
       injection ht with ht;rw [←ht,(hbl b hb).2.1];show h.ver<h.ver+1;omega
     · rw [hnot b hb] at ht
       have:=hi.old b t ht;show t.1<h.ver+1;omega
   · show zaa zs (zam h.m (extX (r,(k:Int),p))) b=zie r b
     unfold zaa;rw [hsee b hb];exact (hbl b hb).2.2.2
   · show zaa zs (zam h.m (extX (r,(k:Int),p))) b=zaa d.z h.m b
     rw [←hp.grown.block hi.fit b];unfold zaa;rw [hnot b hb]
end
end Go.Proofs.YthblkdnijhphhaaGreat
