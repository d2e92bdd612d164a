/- A part of the proof. -/
import Derived.Test.YtcapmeefiglfjaaGreatMapW
import Derived.Test.YtcapmeefiglfjaaGreatHostCommit
set_option maxHeartbeats 8000000
set_option maxRecDepth 100000
namespace Go.Proofs.YtcapmeefiglfjaaGreat
open Go.RowKit
theorem kF.mono {B C:Int} {x:Rc × Int × Int} (h:kF B x) (hBC:B≤C):kF C x:=
 ⟨⟨h.1.kind,⟨h.1.lba.1,h.1.lba.2.1,Int.le_trans h.1.lba.2.2 hBC⟩,h.1.n,h.1.ver,h.1.rest,h.1.data,h.1.trim⟩,h.2⟩
def zfx (h:Hd):Prop:=yA h∧(fQ h).2=0∧(fQ h).1.length≤45
theorem zcG {h:Hd} (h0:0≤h.host∧h.host≤1000000) (h1:0≤h.epoch∧h.epoch≤1000000) (h2:0≤h.seq∧h.seq≤1000000):zfx h:=by
 have h3:yA h:=by unfold yA;omega
 have h4:fP (jV h)=(flatN (jV h),0):=by
  unfold fP;rw [zij];intro n hn;simp only [jV,zim,ziJ,zju] at hn;omega
 have h5:=fZ h3.i63;have h6:(jV h).length=4:=rfl;have h7:fQ h=(frB (flatN (jV h)),0):=by
  unfold fQ;rw [h4];simp only [ne_eq,zk3,zjG];exact nZ (by omega)
 refine ⟨h3,by rw [h7],?_⟩
 rw [h7];show (frB (flatN (jV h))).length≤45;rw [zcZ,kQ (by omega)]
 simp only [List.length_cons,List.length_nil];omega
theorem zbf {e:Int} {b x:List UInt8} {M:Int} (he:0≤e) (hx:x≠[]) (hf:(b.length:Int)+x.length≤M) (hM:1≤M∧M≤65536):dO (gS e M b) M x=0∧iB (gS e M b) M x=gS e M (b++x):=by
 have hxl:=zjR.2 hx;have hz:=zaA (e:=e) (b:=b) he hM (by omega)
 have h4:(gS e M b).st≠4:=by
  unfold gS;simp only;split
  · omega
  · split
    · omega
    · omega
 constructor
 · unfold dO
   rw [zig (by simp only [not_or,ziT];exact ⟨hz,by omega⟩),zig h4,zij (by show (b.length:Int)+x.length≤M;exact hf)]
 · have hbx:b++x≠[]:=by simp [hx]
   unfold iB gS;simp only [hbx,zjG,zie,Int.natCast_add];by_cases hf:(b.length:Int)+x.length=M
   · simp only [hf,zkh]
   · simp only [hf,zjG]
     have h2:¬x.length=0:=by omega
     simp only [h2,zjG];have h3:¬(if b=[] then (0:Int) else if (b.length:Int)=M then 4 else 1)=2:=by
      split
      · omega
      · split <;> omega
     simp only [h3,zjG]
section
variable {n:Nat} {M B:Int} {F:Nat→Int} {S:List Sp} {d:Zd} {h:Ho} {H:Nat→Hd} {log:List (Nat × Rc)}
theorem getD_some {zs:List Zn} {k:Nat} (hk:k<zs.length):zs[k]?=some (zs.getD k z0):=by
 rw [ziF,zib hk];rfl
theorem gW {zs:List Zn} {k j:Nat} {z:Zn} (hk:k<zs.length):(zs.set k z).getD j z0=if j=k then z else zs.getD j z0:=by
 rw [ziF,List.getElem?_set,ziF];by_cases hj:k=j
 · subst hj;rw [zij rfl,zij hk,zij rfl];rfl
 · rw [zig hj,zig (fun e=>hj e.symm)]
theorem zdI:∀ {xs:List (Rc × Int × Int)} {m m':List Ex},fB xs m=(m',0)→m'=sH xs m
 | [],m,m',h=>by injection h with h;exact h.symm
 | x::l,m,m',h=>by
   rw [jL] at h;split at h
   · rename_i hne;injection h with _ h2;exact absurd h2 hne
   · rename_i he
     rw [ziT] at he;have:=zdI h;rw [this];show _=sH l (bC m (eF x));congr 1
     unfold iC at he ⊢;split at he
     · cases he
     · rename_i g1
       rw [zig g1];split at he
       · cases he
       · rename_i g2
         rw [zig g2];split at he
         · cases he
         · rename_i g3
           rw [zig g3];rfl
theorem zb6 {xs:List (Rc × Int × Int)} {m L:List Ex} {B:Int} (hB:0≤B∧B≤10000) (hx:∀ x∈xs,kF B x) (hc:aC 0 m) (hb:∀ b,zed L b (see m b)) (hL:∀ e∈L,aL e≤B) (hm:m.length≤10000):zaP xs m:=by
 have hp:∀ j,∃ n,fB (xs.take j) m=(n,0)∧n=sH (xs.take j) m∧aC 0 n∧n.length≤10000:=fun j=>by
  obtain ⟨n,h1,h2,_,h4⟩:=mE hB (xs.take j) L m (fun x h=>hx x (zjh h)) hc hb hL
  exact ⟨n,h1,zdI h1,h2,by omega⟩
 refine ⟨fun j x hj=>?_,?_⟩
 · obtain ⟨n,_,rfl,h2,h3⟩:=hp j
   obtain ⟨n',_,rfl,h5,h6⟩:=hp (j+1);rw [tM hj] at h5 h6;have:=(gO h2).2.2;exact ⟨(hx x (zix hj)).mono hB.2,h2,by omega,h6⟩
 · obtain ⟨n,h1,rfl,_⟩:=hp xs.length
   rw [ziQ] at h1;exact h1
def zgQ (d:Zd) (h:Ho) (rs:List Rc):Prop:=(bP d h rs).2.2.2=0→(bP d h rs).2.1.p.zone≤1000000∧(bP d h rs).2.1.ver≤100000000000∧0≤(bP d h rs).2.1.ver∧zaP (pT (bP d h rs).2.1 rs (bP d h rs).2.2.1) (bP d h rs).2.1.m
end
structure eZ (n:Nat) (M:Int) (F:Nat→Int) (B:Int) (S:List Sp) (d:Zd) (h:Ho):Prop where
 dev:d=cO M d.z
 ok:OkA M d.z
 most:M≤4000
 bnd:0≤B∧B≤250
 len:d.z.length=n
 fe:∀ k,k<n→(d.z.getD k z0).fe=F k
 F0:∀ k,k<n→0≤F k∧F k≤1000000
 id:h.id=1
 own:h.own=(List.range n).map fun (k:Nat)=>⟨(k:Int),1,F k⟩
 s:h.s=S
 chain:aC 0 h.m
 far:∀ b,B≤b→see h.m b=none
 fit:rB d.z h.m
 ver:0≤h.ver
 old:∀ b t,see h.m b=some t→t.1<h.ver
 seq:0≤h.seq
 opened:h.opn=true→∃ k hd,k<n∧(d.z.getD k z0).d≠[]∧h.p=⟨hd,k,M,(d.z.getD k z0).d.length,[],[]⟩∧yA hd∧hd.epoch=F k∧d.z.getD k z0=gS (F k) M (d.z.getD k z0).d
 shut:h.opn=false→h.p=p0k
theorem qM {m:List Ex} (h:aC 0 m) (b:Int):zed m b (see m b):=by
 cases hs:see m b with
 | none=>
   intro e he;cases hh:aX e b with
   | false=>rfl
   | true=>rw [fL h he hh] at hs;cases hs
 | some t=>
   unfold see at hs;cases hf:m.find? (aX · b) with
   | none=>rw [hf] at hs;cases hs
   | some e=>
     rw [hf] at hs;injection hs with hs;have he:=zjV hf;have hb:aX e b=true:=by simpa using List.find?_some hf
     refine ⟨e,he,hb,hs,fun x hx hxb=>?_⟩
     have h1:=fL h he hb;rw [fL h hx hxb] at h1;injection h1 with h1;have:x.ver=e.ver:=zjj (·.1) h1;omega
def pH (zs zs':List Zn):Prop:=zs'.length=zs.length∧∀ k,∃ x,(zs'.getD k z0).d=(zs.getD k z0).d++x
theorem pH.fit {zs zs':List Zn} {m:List Ex} (h:pH zs zs') (hf:rB zs m):rB zs' m:=fun b t ht=>by
 rcases hf b t ht with h1 | ⟨h1,h2,h3⟩
 · exact .inl h1
 · obtain ⟨x,hx⟩:=h.2 t.2.1.toNat
   exact .inr ⟨by rw [h.1];exact h1,h2,by rw [hx,zie];omega⟩
theorem zbk {a x:List UInt8} {o n:Nat} (h:o+n≤a.length):((a++x).drop o).take n=(a.drop o).take n:=by
 rw [zjw (by omega),ziW (by rw [ziG];omega)]
theorem pH.block {zs zs':List Zn} {m:List Ex} (h:pH zs zs') (hf:rB zs m) (b:Int):blockB zs' m b=blockB zs m b:=by
 unfold blockB;cases hs:see m b with
 | none=>rfl
 | some t=>
   simp only;rcases hf b t hs with h1 | ⟨h1,h2,h3⟩
   · rw [zij h1,zij h1]
   · obtain ⟨x,hx⟩:=h.2 t.2.1.toNat
     rw [hx,zbk (by omega)]
section
variable {n:Nat} {M B:Int} {F:Nat→Int} {S:List Sp} {d:Zd} {h:Ho}
theorem eZ.n64 (hi:eZ n M F B S d h):1≤n∧n≤64:=by have:=hi.ok.2.1;rw [hi.len] at this;exact this
theorem eZ.len9 (hi:eZ n M F B S d h):(h.m.length:Int)≤B:=oJ hi.chain hi.bnd.1 hi.far
theorem zeG {zs:List Zn} {k:Nat} {rs:List Rc} {h1:Ho} {hd:Hd} {bf:List UInt8} (hok:OkA M zs) (hk:k<zs.length) (hF:0≤F k) (hep:hd.epoch=F k)
 (hz:zs.getD k z0=gS (F k) M (zs.getD k z0).d) (herr:eY rs=0) (hpos:0<(cH rs).length)
 (hp:h1.p=⟨hd,k,M,(zs.getD k z0).d.length,bf,[]⟩) (hroom:((cH rs).length:Int)≤gT h1.p) :
 zV (cO M zs) h1 rs=(cO M (zs.set k (gS (F k) M ((zs.getD k z0).d++(bf++cH rs)))),zfE h1 ⟨hd,k,M,((zs.getD k z0).d++(bf++cH rs)).length,[],[]⟩,pW (((zs.getD k z0).d++bf).length:Nat) rs,0) ∧
  ((((zs.getD k z0).d++(bf++cH rs)).length:Int))≤M:=by
 have hadd:=zae h1.p herr (by omega)
 rw [hp] at hadd hroom;unfold gT at hroom;simp only at hroom;have hle:((zs.getD k z0).d.length:Int)+(bf++cH rs).length≤M:=by rw [zie];omega
 have hne:bf++cH rs≠[]:=fun e=>by have:=zjj List.length e;rw [zie,List.length_nil] at this;omega
 obtain ⟨g1,g2⟩:=zbf (e:=F k) (b:=(zs.getD k z0).d) (M:=M) hF hne hle hok.1;have hdo:=yK (x:=bf++cH rs) hok (getD_some hk);rw [hz] at hdo;rw [zij g1,g2,show (gS (F k) M (zs.getD k z0).d).fe=F k from rfl] at hdo;refine ⟨?_,by rw [zie];omega⟩
 unfold zV;rw [hp,hadd];simp only;rw [zig (by simp),zig hne,hep,hdo]
 simp only;rw [zig (by simp)]
 unfold gA;simp only;rw [zig hne,zie,zie];simp
structure vN (n:Nat) (M:Int) (F:Nat→Int) (d:Zd) (h:Ho) (rs:List Rc) (k:Nat) (hd:Hd) (sq:Int) (zs:List Zn) (at_:List Int):Prop where
 kl:k<n
 put:bP d h rs=(cO M zs,⟨h.id,h.own,h.s,true,⟨hd,k,M,(zs.getD k z0).d.length,[],[]⟩,h.m,h.ver,sq⟩,at_,0)
 ok:OkA M zs
 grown:pH d.z zs
 fe:∀ j,j<n→(zs.getD j z0).fe=F j
 ne:(zs.getD k z0).d≠[]
 land:zs.getD k z0=gS (F k) M (zs.getD k z0).d
 head:yA hd∧hd.epoch=F k
 seqs:h.seq≤sq∧sq≤h.seq+1
 place:at_.length=rs.length∧∀ (i:Nat) (r:Rc) (o:Int),rs[i]?=some r→at_[i]?=some o→0≤o∧o+r.data.length≤((zs.getD k z0).d.length:Int)∧((zs.getD k z0).d.drop o.toNat).take r.data.length=r.data
 new:(h.opn=true∧h.p.zone=k)∨(d.z.getD k z0).d=[]
theorem zgy {rs:List Rc} (hne:rs≠[]) (herr:eY rs=0) (hok:∀ r∈rs,lZ r):0<(cH rs).length:=by
 obtain ⟨r,l,rfl⟩:=List.exists_cons_of_ne_nil hne;have h5:=((kU (hok r (zih ..))).2 (rY herr r (zih ..))).2;simp only [cH,zie];omega
theorem put_gen (hi:eZ n M F B S d h) {rs:List Rc} (hne:rs≠[]) (herr:eY rs=0) (hok:∀ r∈rs,lZ r) (hsq:h.seq≤900000) :
 bP d h rs=(zd0,ho0,[],64)∨∃ k hd sq zs at_,vN n M F d h rs k hd sq zs at_:=by
 have hn:=hi.n64;have hpos:=zgy hne herr hok;have hck:oH d=0:=by
  unfold oH;rw [zij (by rw [hi.dev];exact hi.ok.ok)]
 have hdo:∀ h2 zs k hd sq bf,fS d h (cH rs).length=(cO M zs,h2,true)→OkA M zs→pH d.z zs→(∀ j,j<n→(zs.getD j z0).fe=F j)→k<n →
  yA hd→hd.epoch=F k→zs.getD k z0=gS (F k) M (zs.getD k z0).d→h2=⟨h.id,h.own,h.s,true,⟨hd,k,M,(zs.getD k z0).d.length,bf,[]⟩,h.m,h.ver,sq⟩→h.seq≤sq∧sq≤h.seq+1 →
  ((cH rs).length:Int)≤gT h2.p→(h.opn=true∧h.p.zone=k)∨(d.z.getD k z0).d=[]→∃ k hd sq zs at_,vN n M F d h rs k hd sq zs at_:=by
  intro h2 zs k hd sq bf e1 o1 og o3 hk o5 o6 o7 o8 o9 o11 o12;have hkz:k<zs.length:=by rw [og.1,hi.len];exact hk
  obtain ⟨p1,p3⟩:=zeG (h1:=h2) (F:=F) (bf:=bf) (rs:=rs) o1 hkz (hi.F0 k hk).1 o6 o7 herr hpos (by rw [o8]) o11
  obtain ⟨x,hx⟩:∃ x,(zs.getD k z0).d++(bf++cH rs)=x:=⟨_,rfl⟩;rw [hx] at p1 p3;have hxz:((zs.set k (gS (F k) M x)).getD k z0)=gS (F k) M x:=by rw [gW hkz,zij rfl]
  have hld:(gS (F k) M x).d=x:=rfl;refine ⟨k,hd,sq,zs.set k (gS (F k) M x),pW (((zs.getD k z0).d++bf).length:Nat) rs,hk,?_,o1.set (zaA (hi.F0 k hk).1 hi.ok.1 p3),⟨by rw [zjs];exact og.1,fun j=>?_⟩,fun j hj=>?_,?_,?_,⟨o5,o6⟩,o9,⟨sF _ _,fun i r o hr ho=>?_⟩,o12⟩
  · unfold bP
    rw [zig (by rw [hck];simp),zig (by rw [herr];simp),e1]
    simp only [Bool.true_eq_false,zjG];rw [p1,hxz,o8];rfl
  · rw [gW hkz]
    obtain ⟨y,hy⟩:=og.2 j;split
    · rename_i hj
      subst hj;rw [hld,←hx,hy,ziq];exact ⟨_,rfl⟩
    · exact ⟨y,hy⟩
  · rw [gW hkz]
    split
    · rename_i e;rw [e];rfl
    · exact o3 j hj
  · rw [hxz,hld,←hx]
    intro e;have:=zjj List.length e;simp only [zie,List.length_nil] at this;omega
  · rw [hxz,hld]
  · rw [hxz,hld,←hx,←ziq]
    exact rJ herr hok hr ho
 by_cases hfit:h.opn=true∧((cH rs).length:Int)≤gT h.p
 · obtain ⟨k,hd,hk,k1,k2,k3,k4,k5⟩:=hi.opened hfit.1
   refine .inr (hdo h d.z k hd h.seq [] (by unfold fS;rw [zij hfit,←hi.dev]) hi.ok ⟨rfl,fun k=>⟨[],by simp⟩⟩ hi.fe hk k3 k4 k5 (by rw [←hfit.1,←k2]) (by omega) hfit.2 (.inl ⟨hfit.1,by rw [k2]⟩))
 · have hfin:∃ zs,sW d h=cO M zs∧OkA M zs∧pH d.z zs∧(∀ k,k<n→(zs.getD k z0).fe=F k)∧∀ j,(zs.getD j z0).d=(d.z.getD j z0).d:=by
    unfold sW;cases hop:h.opn with
    | false=>exact ⟨d.z,by simpa using hi.dev,hi.ok,⟨rfl,fun k=>⟨[],by simp⟩⟩,hi.fe,fun _=>rfl⟩
    | true=>
      obtain ⟨k,hd,hk,k1,k2,k3,k4,k5⟩:=hi.opened hop;have hkz:k<d.z.length:=by rw [hi.len];exact hk
      have hf:=yV hi.ok (getD_some hkz);rw [hi.fe k hk] at hf;have hsame:∀ j,((d.z.set k (zdO (d.z.getD k z0))).getD j z0).d=(d.z.getD j z0).d:=fun j=>by
       rw [gW hkz];split
       · rename_i e;subst e;rfl
       · rfl
      refine ⟨d.z.set k (zdO (d.z.getD k z0)),?_,hi.ok.set (zhu (hi.ok.2.2 _ (zix (getD_some hkz)))),⟨by rw [zjs],fun j=>⟨[],by rw [hsame,ziz]⟩⟩,fun j hj=>?_,hsame⟩
      · rw [zij rfl,k2]
        simp only;rw [k4,hi.dev,show (cO M d.z).z=d.z from rfl,hf]
      · rw [gW hkz]
        split
        · rename_i e;subst e;exact hi.fe _ hj
        · exact hi.fe _ hj
   obtain ⟨zs,z1,z2,z3,z4,z5⟩:=hfin;have hno:(fS d h (cH rs).length).2.2=false→bP d h rs=(zd0,ho0,[],64):=fun e=>by
    unfold bP;rw [zig (by rw [hck];simp),zig (by rw [herr];simp),zij e]
   have hroom:fS d h (cH rs).length=match h.own[h.own.findIdx (eT (cO M zs))]? with
    | none=>(cO M zs,h,false)
    | some f=>(cO M zs,⟨h.id,h.own,h.s,true,(yB (cO M zs) h f).1,h.m,h.ver,h.seq+1⟩,decide ((yB (cO M zs) h f).2=0) && decide (((cH rs).length:Int)≤gT (yB (cO M zs) h f).1)):=by
    unfold fS;rw [zig hfit,z1];rfl
   cases hf:h.own[h.own.findIdx (eT (cO M zs))]? with
   | none=>rw [hf] at hroom;exact .inl (hno (by rw [hroom]))
   | some f=>
     rw [hf] at hroom;simp only at hroom;cases hb:(decide ((yB (cO M zs) h f).2=0) && decide (((cH rs).length:Int)≤gT (yB (cO M zs) h f).1)) with
     | false=>exact .inl (hno (by rw [hroom];exact hb))
     | true=>
       simp only [zjC,ziM] at hb;have hfree:eT (cO M zs) f=true:=by
        obtain ⟨hlt,e⟩:=zil.1 hf;rw [←e];exact zjc
       have hmem:=zix hf;rw [hi.own] at hmem;obtain ⟨k,hk,rfl⟩:=zja.1 hmem;have hk:=zjO.1 hk;unfold eT at hfree;simp only [zjC,ziM,Int.toNat_natCast] at hfree;obtain ⟨_,hst,hfe⟩:=hfree;have hkz:k<zs.length:=by rw [z3.1,hi.len];exact hk
       have hokz:=z2.2.2 _ (zix (getD_some hkz));have hst':(zs.getD k z0).st=0:=hst;have hd0:(zs.getD k z0).d=[]:=by
        obtain ⟨_,_,_,h4⟩:=hokz;rcases h4 with h4 | h4 | h4 | h4
        · exact List.length_eq_zero_iff.1 h4.2
        · rcases h4.1 with h5 | h5 <;> omega
        · omega
        · omega
       have hfk:=hi.F0 k hk;have hsq0:=hi.seq;have hOk:zfx ⟨h.id,F k,h.seq⟩:=zcG (by show 0≤h.id∧h.id≤1000000;rw [hi.id];omega) hfk (by show 0≤h.seq∧h.seq≤1000000;omega)
       have hM:=z2.1;have hnp:yB (cO M zs) h ⟨k,1,F k⟩=(⟨⟨h.id,F k,h.seq⟩,k,M,0,(fQ ⟨h.id,F k,h.seq⟩).1,[]⟩,0):=by
        have h2:=hb.1;unfold yB at h2 ⊢;unfold iV at h2 ⊢;simp only at h2 ⊢;have hcap:(cO M zs).cap=M:=rfl;rw [hcap] at h2 ⊢;rw [zig (by rw [hOk.2.1];simp),zig (by simp only [ziT];omega)] at h2 ⊢
        by_cases hlen:M<(fQ ⟨h.id,F k,h.seq⟩).1.length
        · rw [zij hlen] at h2;simp at h2
        · rw [zig hlen]
       rw [hnp] at hroom hb;refine .inr (hdo ⟨h.id,h.own,h.s,true,⟨⟨h.id,F k,h.seq⟩,k,M,0,(fQ ⟨h.id,F k,h.seq⟩).1,[]⟩,h.m,h.ver,h.seq+1⟩ zs k ⟨h.id,F k,h.seq⟩ (h.seq+1) (fQ ⟨h.id,F k,h.seq⟩).1 (hroom.trans ?_) z2 z3 z4 hk hOk.1 rfl ?_ ?_ (by omega) hb.2 (.inr (by rw [←z5];exact hd0)))
       · have h2:=hb.2
         simp only [decide_true,zku,h2]
       · have hfe':(zs.getD k z0).fe=F k:=hfe
         rw [hd0];show zs.getD k z0=⟨if ([]:List UInt8)=[] then 0 else _,F k,[]⟩;rw [zij rfl,←hst',←hfe',←hd0]
       · rw [hd0];rfl
theorem eZ.inB (hi:eZ n M F B S d h):∀ e∈h.m,aL e≤B:=fun e he=>by
 have hm:=(aM hi.chain e he).1;rcases Int.lt_or_le B (aL e) with h1 | h1
 · have h2:=hm.pos
   have hb:aX e (aL e-1)=true:=by unfold aX aL;simp;omega
   have h3:=fL hi.chain he hb;rw [hi.far _ (by omega)] at h3
   cases h3
 · exact h1
theorem eZ.oldE (hi:eZ n M F B S d h):∀ e∈h.m,e.ver<h.ver:=fun e he=>by
 have hm:=(aM hi.chain e he).1;have h2:=hm.pos;have hb:aX e e.lba=true:=by unfold aX aL;simp;omega
 exact hi.old e.lba _ (fL hi.chain he hb)
theorem eZ.grow (hi:eZ n M F B S d h) {rs:List Rc} {k:Nat} {hd:Hd} {sq:Int} {zs:List Zn} {at_:List Int} (hp:vN n M F d h rs k hd sq zs at_) {m':List Ex} {v:Int} (hch:aC 0 m') (hfar:∀ b,B≤b→see m' b=none) (hfit:rB zs m') (hv:0≤v) (hold:∀ b t,see m' b=some t→t.1<v) :
 eZ n M F B S (cO M zs) ⟨h.id,h.own,h.s,true,⟨hd,k,M,(zs.getD k z0).d.length,[],[]⟩,m',v,sq⟩ where
 dev:=rfl
 ok:=hp.ok
 most:=hi.most
 bnd:=hi.bnd
 len:=by show zs.length=n;rw [hp.grown.1];exact hi.len
 fe:=hp.fe
 F0:=hi.F0
 id:=hi.id
 own:=hi.own
 s:=hi.s
 chain:=hch
 far:=hfar
 fit:=hfit
 ver:=hv
 old:=hold
 seq:=by have:=hi.seq;have:=hp.seqs;show 0≤sq;omega
 opened:=fun _=>⟨k,hd,hp.kl,hp.ne,rfl,hp.head.1,hp.head.2,hp.land⟩
 shut:=fun e=>by cases e
theorem vN.long {rs:List Rc} {k:Nat} {hd:Hd} {sq:Int} {zs:List Zn} {at_:List Int} (hp:vN n M F d h rs k hd sq zs at_) (hM:M≤4000) (hn:d.z.length=n):((zs.getD k z0).d.length:Int)≤4000:=by
 have hk:k<zs.length:=by rw [hp.grown.1,hn];exact hp.kl
 have h1:=hp.ok.2.2 _ (zix (getD_some hk));obtain ⟨_,_,_,h4⟩:=h1;omega
theorem vN.one {r:Rc} {k:Nat} {hd:Hd} {sq:Int} {zs:List Zn} {at_:List Int} (hp:vN n M F d h [r] k hd sq zs at_):∃ o,at_=[o]∧0≤o∧o+r.data.length≤((zs.getD k z0).d.length:Int)∧((zs.getD k z0).d.drop o.toNat).take r.data.length=r.data:=by
 have h1:=hp.place.1;match at_,h1 with
 | [o],_=>exact ⟨o,rfl,hp.place.2 0 r o rfl rfl⟩
theorem qR {D x:List UInt8} {o i:Nat} (h:(D.drop o).take x.length=x) (hi:i+16≤x.length):(D.drop (o+i)).take 16=(x.drop i).take 16:=by
 rw [show (x.drop i).take 16=(((D.drop o).take x.length).drop i).take 16 by rw [h],List.drop_take,zka,List.take_take,zke (by omega)]
theorem zaB (hi:eZ n M F B S d h) {o:Io} (he:dW S o=0) (hr:lU B (recI h.ver o)) (hv:h.ver≤900000) (hsq:h.seq≤900000) :
 zgQ d h [recI h.ver o]∧((bJ d h [o]).2.2=64∨∃ d' h',bJ d h [o]=(d',h',0)∧eZ n M F B S d' h'∧h'.ver=h.ver+1∧h'.seq≤h.seq+1 ∧
  ∀ b,(yT (recI h.ver o) b→∃ t,see h'.m b=some t∧t.1=h.ver∧(t.2.1<0↔(recI h.ver o).kind=2)∧blockB d'.z h'.m b=zY (recI h.ver o) b)∧(¬yT (recI h.ver o) b→see h'.m b=see h.m b∧blockB d'.z h'.m b=blockB d.z h.m b)):=by
 have herr:rE h.s [o]=0:=by rw [hi.s];exact sS (by simpa using he)
 have hB:=hi.bnd;have herl:eY [recI h.ver o]=0:=kL fun r hr'=>by rw [ziw] at hr';subst hr';exact hr.fit (by omega)
 have hokr:∀ r∈[recI h.ver o],lZ r:=fun r hr'=>by rw [ziw] at hr';subst hr';exact hr.ok (by omega)
 have hcm:bJ d h [o]=if (bP d h [recI h.ver o]).2.2.2≠0 then ((bP d h [recI h.ver o]).1,(bP d h [recI h.ver o]).2.1,(bP d h [recI h.ver o]).2.2.2)
  else ((bP d h [recI h.ver o]).1,zgr (bP d h [recI h.ver o]).2.1 (zhE (bP d h [recI h.ver o]).2.1 [recI h.ver o] (bP d h [recI h.ver o]).2.2.1).1 1,0):=by
  unfold bJ;rw [zig (by rw [herr];simp),zig (by simp)]
  rfl
 have hrv:(recI h.ver o).ver=h.ver:=rfl;rcases put_gen hi (by simp) herl hokr hsq with hno | ⟨k,hd,sq,zs,at_,hp⟩
 · refine ⟨fun h0=>by rw [hno] at h0;simp at h0,.inl ?_⟩
   rw [hcm,hno,zij (by simp)]
 · generalize recI h.ver o=r at hr herl hokr hcm hrv hp ⊢
   obtain ⟨p,rfl,p1,p2,p3⟩:=hp.one;have hlong:=hp.long hi.most hi.len;have hn:=hi.n64;have hk:=hp.kl;have hver:=hi.ver;have hX:kF B (r,(k:Int),p):=⟨hr,by dsimp only;omega,by dsimp only;omega⟩
   have hl9:=hi.len9;have hmo:zaP [(r,(k:Int),p)] h.m:=zb6 (B:=B) (L:=h.m) (by omega) (by simpa using hX) hi.chain (qM hi.chain) hi.inB (by omega)
   have hmay:bO (eF (r,(k:Int),p)):=hX.may (by omega)
   obtain ⟨o1,o2,o3⟩:=lC hi.chain hmay;have hcov:∀ b,aX (eF (r,(k:Int),p)) b=true↔yT r b:=fun b=>zgo _ b
   have hev:(eF (r,(k:Int),p)).ver=h.ver:=hrv;have hsee:∀ b,yT r b→see (bC h.m (eF (r,(k:Int),p))) b=some (seeE (eF (r,(k:Int),p)) b):=fun b hb=>o2 b ⟨(hcov b).2 hb,fun t ht=>by rw [hev];exact hi.old b t ht⟩
   have hnot:∀ b,¬yT r b→see (bC h.m (eF (r,(k:Int),p))) b=see h.m b:=fun b hb=>o3 b fun h9=>hb ((hcov b).1 h9.1)
   have hlb:=hr.lba;have hgk:(r.kind=2→∀ b,seeE (eF (r,(k:Int),p)) b=(h.ver,-1,0))∧(r.kind=1→∀ b,seeE (eF (r,(k:Int),p)) b=(h.ver,(k:Int),p+(b-r.lba)*16)):=by
    refine ⟨fun hk2 b=>?_,fun hk1 b=>?_⟩
    · unfold seeE eF fR
      simp [hk2,hrv]
    · have hk2:¬r.kind=2:=by omega
      have hk3:¬r.kind=3:=by omega
      have hk4:¬(k:Int) = -1:=by omega
      unfold seeE eF fR;simp [hk2,hk3,hk4,hrv]
   have hbl:∀ b,yT r b→(((seeE (eF (r,(k:Int),p)) b).2.1<0↔r.kind=2))∧(seeE (eF (r,(k:Int),p)) b).1=h.ver∧((seeE (eF (r,(k:Int),p)) b).2.1<0∨((seeE (eF (r,(k:Int),p)) b).2.1<zs.length∧0≤(seeE (eF (r,(k:Int),p)) b).2.2∧(seeE (eF (r,(k:Int),p)) b).2.2+16≤((zs.getD (seeE (eF (r,(k:Int),p)) b).2.1.toNat z0).d.length:Int))) ∧
    (if (seeE (eF (r,(k:Int),p)) b).2.1<0 then bZ 16 else ((zs.getD (seeE (eF (r,(k:Int),p)) b).2.1.toNat z0).d.drop (seeE (eF (r,(k:Int),p)) b).2.2.toNat).take 16)=zY r b:=by
    intro b hb;unfold yT at hb;rcases hr.kind with hk1 | hk2
    · rw [hgk.2 hk1]
      have hdl:=hr.data hk1;have hzl:zs.length=n:=by rw [hp.grown.1];exact hi.len
      refine ⟨by dsimp only;omega,rfl,.inr ⟨by dsimp only;omega,by dsimp only;omega,by dsimp only;rw [Int.toNat_natCast];omega⟩,?_⟩
      dsimp only;rw [zig (by omega),Int.toNat_natCast]
      unfold zY;rw [zig (by omega),←qR p3 (i:=(16*(b-r.lba)).toNat) (by omega)]
      congr 2
      omega
    · rw [hgk.1 hk2]
      refine ⟨by simp [hk2],rfl,.inl (by simp),?_⟩
      unfold zY;rw [zij (by simp),zij hk2]
   refine ⟨fun _=>?_,.inr ⟨cO M zs,⟨h.id,h.own,h.s,true,⟨hd,k,M,(zs.getD k z0).d.length,[],[]⟩,bC h.m (eF (r,(k:Int),p)),h.ver+1,sq⟩,?_,hi.grow hp o1 (fun b hb=>?_) (fun b t ht=>?_) (by omega) (fun b t ht=>?_),rfl,hp.seqs.2,fun b=>⟨fun hb=>⟨_,hsee b hb,(hbl b hb).2.1,(hbl b hb).1,?_⟩,fun hb=>⟨hnot b hb,?_⟩⟩⟩⟩
   · rw [hp.put]
     show (k:Int)≤1000000∧h.ver≤100000000000∧0≤h.ver∧zaP [(r,(k:Int),p)] h.m;exact ⟨by omega,by omega,by omega,hmo⟩
   · rw [hcm,hp.put]
     simp only;rw [zig (by simp)]
     have hmp:zhE ⟨h.id,h.own,h.s,true,⟨hd,k,M,(zs.getD k z0).d.length,[],[]⟩,h.m,h.ver,sq⟩ [r] [p]=(bC h.m (eF (r,(k:Int),p)),0):=hmo.go;rw [hmp];rfl
   · rw [hnot b (by unfold yT;omega)]
     exact hi.far b hb
   · by_cases hb:yT r b
     · rw [hsee b hb] at ht
       injection ht with ht;rw [←ht];exact (hbl b hb).2.2.1
     · rw [hnot b hb] at ht
       exact hp.grown.fit hi.fit b t ht
   · by_cases hb:yT r b
     · rw [hsee b hb] at ht
       injection ht with ht;rw [←ht,(hbl b hb).2.1];show h.ver<h.ver+1;omega
     · rw [hnot b hb] at ht
       have:=hi.old b t ht;show t.1<h.ver+1;omega
   · show blockB zs (bC h.m (eF (r,(k:Int),p))) b=zY r b
     unfold blockB;rw [hsee b hb];exact (hbl b hb).2.2.2
   · show blockB zs (bC h.m (eF (r,(k:Int),p))) b=blockB d.z h.m b
     rw [←hp.grown.block hi.fit b];unfold blockB;rw [hnot b hb]
end
def fz (F:Nat→Int) (n j:Nat):List Zn:=(List.range n).map fun k=>if k<j then ⟨0,F k,[]⟩ else z0
def fo (F:Nat→Int) (j:Nat):List Fn:=(List.range j).map fun (k:Nat)=>⟨(k:Int),1,F k⟩
def zag (S:List Sp) (F:Nat→Int) (j:Nat):Ho:=⟨1,fo F j,S,false,p0k,[],1,0⟩
section
variable {n j:Nat} {M:Int} {F:Nat→Int} {S:List Sp}
theorem mQ:(fz F n j).length=n:=by simp [fz]
theorem zgi {k:Nat} (hk:k<n):(fz F n j)[k]?=some (if k<j then ⟨0,F k,[]⟩ else z0):=by
 unfold fz;rw [zj1,List.getElem?_range hk];rfl
theorem zeB (hM:1≤M∧M≤65536) (hn:1≤n∧n≤64) (hF:∀ k,k<n→0≤F k):OkA M (fz F n j):=by
 refine ⟨hM,by rw [mQ];exact hn,fun z hz=>?_⟩
 obtain ⟨k,hk,rfl⟩:=zja.1 hz;have:=hF k (zjO.1 hk);unfold okZ;split
 · exact ⟨hM.1,hM.2,this,.inl ⟨rfl,rfl⟩⟩
 · exact ⟨hM.1,hM.2,by decide,.inl ⟨rfl,rfl⟩⟩
theorem zhw (hj:j<n):(fz F n j).set j ⟨0,F j,[]⟩=fz F n (j+1):=by
 refine zki fun k=>?_
 rw [List.getElem?_set];by_cases hk:k<n
 · rw [zgi hk,zgi hk,mQ]
   by_cases hjk:j=k
   · subst hjk;rw [zij rfl,zij hj,zij (by omega)]
   · rw [zig hjk]
     by_cases h1:k<j
     · rw [zij h1,zij (by omega)]
     · rw [zig h1,zig (by omega)]
 · rw [zig (by omega),ziX (by rw [mQ];omega),ziX (by rw [mQ];omega)]
theorem zeu (hM:1≤M∧M≤65536) (hn:1≤n∧n≤64) (hF:∀ k,k<n→0<F k) (hj:j<n) :
 doZ (cO M (fz F n j)) ⟨7,j,F j,0,0,[]⟩=(cO M (fz F n (j+1)),dn0):=by
 rw [zbm (z:=z0) (zeB hM hn fun k hk=>by have:=hF k hk;omega) (by rw [zgi hj,zig (zkt j)]) (hF j hj)]
 rw [←zhw hj];rfl
theorem zej {k:Nat} {e:Fn} (h:(fo F j)[k]?=some e):k<j∧e=⟨(k:Int),1,F k⟩:=by
 unfold fo at h;rw [zj1] at h;obtain ⟨x,hx,rfl⟩:=Option.map_eq_some_iff.1 h;obtain ⟨h1,rfl⟩:=zil.1 hx;rw [zkv] at h1;exact ⟨h1,by rw [List.getElem_range]⟩
theorem qS:(fo F j).length=j:=by simp [fo]
theorem zg2:za0 (zag S F j) j (F j)=zag S F (j+1):=by
 have hp:oY (fo F j) (j:Int)=j:=zbN (by rw [qS];exact zic _) (fun k e hk he=>by obtain ⟨_,rfl⟩:=zej he;show (k:Int)<j;omega) (fun e he=>by have:=(zej he).1;omega)
 have hh:zbG (fo F j) (j:Int)=false:=by
  unfold zbG;rw [hp,ziX (by rw [qS];exact zic _)]
 have hput:zgZ (fo F j) (j:Int) 1 (F j)=fo F (j+1):=by
  unfold zgZ;rw [hh,hp,zig (by simp),zip (by rw [qS];exact zic _),zjz (by rw [qS];exact zic _),ziz]
  unfold fo;rw [zjU,ziZ];rfl
 unfold za0 zag;rw [zig (by simp),hput]
theorem zga:(fo F j).Pairwise (fun a b=>a.zone<b.zone):=by
 rw [zjy];intro a b ha hb hab;have h1:=zej (zib ha);have h2:=zej (zib hb);rw [h1.2,h2.2];show (a:Int)<b;omega
end
abbrev zdC (d:Zd) (A:Option Addr) (c:Nat):Array Value:=#[.int .i64 d.cap,.int .i64 d.opn,.int .i64 d.act,.slice A d.z.length c]
theorem zai {w:World} {K:Nat→Prop} {v:Value} {h:Ho} (hh:aY w K v h):∃ Ao co As cs Ab cb Al cl Am cm,v=.agg (hoS h Ao co As cs Ab cb Al cl Am cm):=by
 obtain ⟨vo,vs,vb,vl,vm,rfl,a1,a2,a3,a4,a5⟩:=hh;obtain ⟨Ao,co,rfl,-⟩:=a1.form;obtain ⟨As,cs,rfl,-⟩:=a2.form;obtain ⟨Ab,cb,rfl,-⟩:=aK a3;obtain ⟨Al,cl,rfl,-⟩:=a4.form;obtain ⟨Am,cm,rfl,-⟩:=a5.form;exact ⟨Ao,co,As,cs,Ab,cb,Al,cl,Am,cm,rfl⟩
theorem eJ {w:World} {K:Nat→Prop} {v:Value} {h:Ho} (hh:aY w K v h):∃ cs:Array Value,v=.agg cs∧cs.size=15∧cs.toList.all (·.oneCell')=true∧cs[3]?=some (.bool h.opn):=by
 obtain ⟨Ao,co,As,cs,Ab,cb,Al,cl,Am,cm,rfl⟩:=zai hh;exact ⟨_,rfl,rfl,rfl,rfl⟩
theorem tE {w:World} {g g':Nat} {t t':TypeId} {cs cs':Array Value} (h:Blk w g t cs) (h':Blk w g' t' cs') (ht:t≠t'):g≠g':=fun e=>by
 subst e;unfold Blk at h h';rw [h] at h';injection h' with h';injection h' with _ h2 _;exact ht h2
section
variable {ops:Array Oper} {o:Oper} {a:Act} {w:World} {K:Act→World→Prop} {Q:Exit→Act→World→Prop} {x y:Operand} {g:Nat} {t:TypeId} {cs cs':Array Value}
theorem jX (hw:Region.wanted o (yielded ops a.tmps)=true) (hB:Blk w g t cs) (hn:cs.size=15) (ho:o.op=.store 37 x y) (hx:a.eval x=.pointer (some ⟨g,0,none⟩)) (hy:a.eval y=.agg cs') (hn':cs'.size=15) (h1:cs'.toList.all (·.oneCell')=true)
 (h:∀ w',w'.heap.size=w.heap.size→aA w w' (fun b=>b=g)→Blk w' g t cs'→K (a.put o.dst undef) w'):if Region.wanted o (yielded ops a.tmps)=true then Oper.wp Tryz.prog o a w K Q else K (a.put o.dst undef) w:=by
 rw [zij hw];exact wp_store_row _ x y ho g cs' hx hy t cs hB (by rw [kJ,hn']) (by rw [hn,hn']) (by rw [←zkC];exact h1) (h _ (aT hB).1 (aT hB).2.1 (aT hB).2.2)
theorem fN (hw:Region.wanted o (yielded ops a.tmps)=true) (hB:Blk w g t cs) (hn:cs.size=4) (ho:o.op=.store 26 x y) (hx:a.eval x=.pointer (some ⟨g,0,none⟩)) (hy:a.eval y=.agg cs') (hn':cs'.size=4) (h1:cs'.toList.all (·.oneCell')=true)
 (h:∀ w',w'.heap.size=w.heap.size→aA w w' (fun b=>b=g)→Blk w' g t cs'→K (a.put o.dst undef) w'):if Region.wanted o (yielded ops a.tmps)=true then Oper.wp Tryz.prog o a w K Q else K (a.put o.dst undef) w:=by
 rw [zij hw];exact wp_store_row _ x y ho g cs' hx hy t cs hB (by rw [sD,hn']) (by rw [hn,hn']) (by rw [←zkC];exact h1) (h _ (aT hB).1 (aT hB).2.1 (aT hB).2.2)
end
theorem tG (zs:List Zn) (m:List Ex) (b:Int):(blockB zs m b).length≤16:=by
 unfold blockB;split
 · simp [bZ]
 · split
   · simp [bZ]
   · rw [zio];omega
theorem yM {f:Nat→List UInt8}:∀ (n:Nat),(∀ i,(f i).length≤16)→((List.range n).flatMap f).length≤16*n
 | 0,_=>by simp
 | n+1,h=>by
   have ih:=yM n h;have:=h n;rw [zjU,ziS,zie];simp only [zjn,List.flatMap_nil,ziz];omega
def dQ (zs:List Zn) (h:Ho) (lba n:Int):List UInt8 × Int:=
 if ¬dF lba n 256 then ([],63) else if lT h.s lba n=false then ([],62) else cC zs h.m lba n
theorem zbO (d:Zd) (A:Option Addr) (c:Nat) (h:Ho) (v:Value) (lba n:Int) (K K':Nat→Prop) (w:World) (hd:IsL Rp.zone w K (.slice A d.z.length c) d.z) (hv:aY w K' v h) (hok:okD d) (hch:aC 0 h.m) (hf:rB d.z h.m) :
 Calls Tryz.prog 26 #[.agg #[.int .i64 d.cap,.int .i64 d.opn,.int .i64 d.act,.slice A d.z.length c],v,.int .i64 lba,.int .i64 n] w fun e w'=>
  ∃ Ao co,e=.returned (.tuple #[.slice Ao (dQ d.z h lba n).1.length co,.int .i64 (dQ d.z h lba n).2])∧IsB w' (fun b=>w.heap.size≤b) (.slice Ao (dQ d.z h lba n).1.length co) (dQ d.z h lba n).1∧Below w.heap.size w w':=by
 have hv0:=hv;obtain ⟨vo,vs,vb,vl,vm,rfl,h1,h2,h3,h4,h5⟩:=hv;obtain ⟨Ao,co,rfl,-⟩:=h1.form;obtain ⟨As,cs,rfl,-⟩:=h2.form;obtain ⟨Ab,cb,rfl,-⟩:=aK h3;obtain ⟨Al,cl,rfl,-⟩:=h4.form;obtain ⟨Am,cm,rfl,-⟩:=h5.form;have hso:=fun W=>oE lba n 256 W (by decide)
 have hmi:=fun vv W hW=>xV h vv lba n K' W hW
 have hby:=fun W hz hm hb hn=>mF d A c Am cm h.m lba n K K' W hz hm hok hch hb hn hf
 have E:=((Kn.start w).give aB.list hd).give aB.list h5 |>.give aB.ho hv0 |>.push 26 #[.int .i64 d.cap,.int .i64 d.opn,.int .i64 d.act,.slice A d.z.length c] |>.push 37 (hoS h Ao co As cs Ab cb Al cl Am cm)
 rw [zid] at E;clear h1 h2 h3 h4 h5 hv0;obtain ⟨r,hr⟩:∃ r,dQ d.z h lba n=r:=⟨_,rfl⟩;rw [hr];have HR:=zia hr;clear hr;by_cases hs:dF lba n 256
 case neg=>
  have hre:r=([],63):=by rw [←HR.out];unfold dQ;rw [zij hs]
  subst hre;rw [ziv hs] at hso;go_enter Tryz.func26,Tryz.ntmps26
  go_wp2_with fail;refine (hso _).mono ?_;rintro e w2 ⟨rfl,hb2⟩;replace E:=E.step hb2;go_wp2;refine zik (v:=.tuple #[.slice none 0 0,.int .i64 63]) (by simp [results,Tryz.results26,go_sem]) rfl ⟨none,0,rfl,IsB.nil_ _ _,E.below⟩
 by_cases hm:lT h.s lba n=false
 · have hre:r=([],62):=by rw [←HR.out];unfold dQ;rw [zig (fun h=>h hs),zij hm]
   subst hre;rw [ziu hs] at hso;rw [hm] at hmi;go_enter Tryz.func26,Tryz.ntmps26
   go_wp2_with fail;refine (hso _).mono ?_;rintro e w2 ⟨rfl,hb2⟩;replace E:=E.step hb2;obtain ⟨q0,f0,t0⟩:=E.rules m0;go_wp2_with fail;refine (hmi _ _ (E.get m0)).mono ?_;rintro e w3 ⟨rfl,hb3⟩;replace E:=E.step hb3;clear q0 f0 t0;go_wp2;refine zik (v:=.tuple #[.slice none 0 0,.int .i64 62]) (by simp [results,Tryz.results26,go_sem]) rfl ⟨none,0,rfl,IsB.nil_ _ _,E.below⟩
 have hre:cC d.z h.m lba n=r:=by rw [←HR.out];unfold dQ;rw [zig (fun h=>h hs),zig hm]
 have hsm:=hs;unfold dF at hsm;have hbk:aJ lba n:=by unfold aJ;omega
 have hfit:=iM hch hbk (by omega) hf
 have hlen:r.1.length≤140737488355328∧r.2=0:=by
  rw [←hre,hfit];refine ⟨?_,rfl⟩;have:=yM (f:=fun i=>blockB d.z h.m (lba+(i:Nat))) n.toNat (fun i=>tG _ _ _)
  simp only;omega
 have hb1:=fun W hz hm=>hby W hz hm hbk (by omega)
 rw [hre] at hb1;have hm2:lT h.s lba n=true:=by simpa using hm
 rw [ziu hs] at hso;rw [hm2] at hmi;obtain ⟨rl,hrl⟩:∃ rl,r.1.length=rl:=⟨_,rfl⟩;have h0:=hlen.2;have hl47:=hlen.1;rw [hrl] at hb1 hl47 ⊢;rw [h0];have HRL:=zia hrl;clear hrl hby hre hfit hlen h0 hm hm2 hs hsm;go_enter Tryz.func26,Tryz.ntmps26
 go_wp2_with fail;refine (hso _).mono ?_;rintro e w2 ⟨rfl,hb2⟩;replace E:=E.step hb2;obtain ⟨q0,f0,t0⟩:=E.rules m0;go_wp2_with fail;refine (hmi _ _ (E.get m0)).mono ?_;rintro e w3 ⟨rfl,hb3⟩;replace E:=E.step hb3;clear q0 f0 t0 hso hmi;obtain ⟨q0,f0,t0⟩:=E.rules m0;obtain ⟨q1,f1,t1⟩:=E.rules m1;go_wp2_with fail;refine (hb1 _ (E.get m2) (E.get m1)).mono ?_;rintro e w4 ⟨A4,c4,rfl,own4,hb4⟩;have hB4:IsB w4 (fun b=>w3.heap.size≤b) (.slice A4 rl c4) r.1:=by
  have:=HRL.out;subst this;exact IsB.of_own own4 hl47
 have hbe:=E.below;replace E:=E.step hb4;have hs3:=hbe.size;clear q0 f0 t0 q1 f1 t1;go_wp2;refine zik (v:=.tuple #[.slice A4 rl c4,.int .i64 0]) (by simp [results,Tryz.results26,go_sem]) rfl ⟨A4,c4,rfl,hB4.more (fun b hb=>by omega),E.below⟩
def zha (id:Int) (mm:List Ex) (n:Int):Ho:=⟨id,[],[],false,p0k,mm,n+1,0⟩
theorem ze0 (id:Int) (d:Zd) (A:Option Addr) (c:Nat) (K:Nat→Prop) (w:World) (hid:0≤id∧id<8) (hd:okD d) (hS:∀ z∈d.z,vS z.d) (hv:IsL Rp.zone w K (.slice A d.z.length c) d.z)
 (hgood:∀ x∈dL (bA d.z) [] d.z.length,kF 10000 x) (hat:∀ f∈bA d.z,f.at_.length=f.l.length∧f.l.length≤1000000000) (hnw:newF 0 (bA d.z)≤1000000000) (hn0:0≤newF 0 (bA d.z)) :
 Calls Tryz.prog 18 #[.int .i64 id,.agg #[.int .i64 d.cap,.int .i64 d.opn,.int .i64 d.act,.slice A d.z.length c]] w fun e w'=>∃ vh mm,e=.returned (.tuple #[vh,.int .i64 0]) ∧
  fB (dL (bA d.z) [] d.z.length) []=(mm,0)∧aC 0 mm∧mm.length≤10000∧aY w' (fun b=>w.heap.size≤b) vh (zha id mm (newF 0 (bA d.z)))∧Below w.heap.size w w':=by
 have hck:=fun W hW=>jG d (.slice A d.z.length c) K W hW
 have hc0:oH d=0:=by unfold oH;rw [zij hd]
 rw [hc0] at hck;have hmp:=fun W hW=>zee d A c [] none 0 K (fun _=>True) W hd hS hW (IsL.nil_ _ _) (by simp) hgood hat
 simp only [List.length_nil] at hmp;have hne:=fun W hW=>yP d A c K W hW hd hS
 generalize newF 0 (bA d.z)=nv at hne hnw hn0 ⊢;have E:=((Kn.start w).give aB.list hv).push 26 #[.int .i64 d.cap,.int .i64 d.opn,.int .i64 d.act,.slice A d.z.length c] |>.push 37 #[.int .i64 0,.slice none 0 0,.slice none 0 0,.bool false,.int .i64 0,.int .i64 0,.int .i64 0,.int .i64 0,.int .i64 0,.int .i64 0,.slice none 0 0,.slice none 0 0,.slice none 0 0,.int .i64 0,.int .i64 0]
 rw [zid] at E;have i0:=hid.1;have i1:=hid.2;clear hgood hat hc0 hid;go_enter Tryz.func18,Tryz.ntmps18
 go_wp2_with fail;refine (hck _ (E.get m0)).mono ?_;rintro e w2 ⟨rfl,hb2⟩;replace E:=E.step hb2;have hgm:w.heap.size+1<w2.heap.size:=(E.at_ m0).lt;clear hck hb2;obtain ⟨q0,f0,t0⟩:=E.rules m1;go_wp2_with fail;refine (hmp _ (E.get m0)).mono ?_;rintro e w3 ⟨mm,Am,cm,rfl,g1,g2,g3,hL,hb3⟩;have G1:=zia g1;have G2:=zia g2;have hbe:=E.below.size;replace E:=(E.step hb3).give aB.list hL;clear hmp hb3 hL g1 g2 q0 f0 t0;obtain ⟨q0,f0,t0⟩:=E.rules m1;go_wp2_with fail;refine (hne _ (E.get m1)).mono ?_;rintro e w4 ⟨rfl,hb4⟩;replace E:=E.step hb4;clear hne hb4 q0 f0 t0;obtain ⟨q0,f0,t0⟩:=E.rules m0;go_wp2;refine eV (K:=fun W=>bodyPost _ _ _ _ _ W) (E.at_ m0) _ _ _ _ _ _ _ _ _ _ _ _ _ _ _ ?_
 intro w5 hs5 ht5 hB5;obtain ⟨q1,f1⟩:=hB5.rules;have hm:=(E.get m0).turned ht5 (fun b hb e=>by have h1:=hb;have h2:w.heap.size+1<w2.heap.size:=hgm;omega)
 refine zik (v:=.tuple #[.agg (hoC (zha id mm nv) (.slice none 0 0) (.slice none 0 0) (.slice none 0 0) (.slice none 0 0) (.slice Am mm.length cm)),.int .i64 0]) (by simp [results,Tryz.results18,go_sem,q1,zha,p0k]) rfl
  ⟨_,mm,rfl,G1.out,G2.out,g3,⟨_,_,_,_,_,rfl,IsL.nil_ _ _,IsL.nil_ _ _,IsB.nil_ _ _,IsL.nil_ _ _,hm.more (fun b hb=>by omega)⟩,aA.upon E.below ht5 (by omega) (zic _)⟩
theorem lA (F:Nat→Int) (n:Nat):bA (fz F n 0)=List.replicate n f0d:=by
 have:fz F n 0=List.replicate n z0:=by
  unfold fz;rw [List.eq_replicate_iff];exact ⟨by simp,fun z hz=>by obtain ⟨k,_,rfl⟩:=zja.1 hz;rw [zig (by omega)]⟩
 rw [this];unfold bA;rw [zjY];congr 1
theorem zcM (F:Nat→Int) (n:Nat):fz F n 0=List.replicate n z0:=by
 unfold fz;rw [List.eq_replicate_iff];exact ⟨by simp,fun z hz=>by obtain ⟨k,_,rfl⟩:=zja.1 hz;rw [zig (by omega)]⟩
theorem zf1 (F:Nat→Int) {n:Nat} {M:Int} (hn:1≤n∧n≤64) (hM:1≤M∧M≤65536):zgm n M n n=(cO M (fz F n 0),0):=by
 have hok:OkA M (fz (fun _=>0) n 0):=zeB hM hn fun _ _=>zj7 0
 have hok:=hok.ok;rw [zcM] at hok;unfold zgm;rw [zig (by omega),Int.toNat_natCast]
 have:cO M (List.replicate n z0)=⟨M,n,n,List.replicate n z0⟩:=by unfold cO;rw [ziC]
 rw [←this,zij (by unfold oH;rw [zij hok]),zcM]
theorem zbX (F:Nat→Int) (n:Nat):dL (bA (fz F n 0)) [] n=[]:=by
 unfold dL;rw [List.flatMap_eq_nil_iff];intro k _;rw [lA];have:(List.replicate n f0d).getD k f0d=f0d:=by
  rw [ziF,List.getElem?_replicate];split <;> rfl
 rw [this];split
 · rfl
 · rfl
theorem lP:∀ n,newF 0 (List.replicate n f0d)=0
 | 0=>rfl
 | n+1=>by
   unfold newF;rw [List.replicate_succ,List.foldl_cons];exact lP n
