/- A part of the proof. -/
import Derived.Test.YthblkdnijhphhaaGreatPackLive
import Derived.Test.YthblkdnijhphhaaGreatExtPlain
import Derived.Test.YthblkdnijhphhaaGreatZnsDo
set_option linter.unusedSimpArgs false
set_option maxHeartbeats 4000000
set_option maxRecDepth 100000
namespace Go.Proofs.YthblkdnijhphhaaGreat
open Go.RowKit
def zcm (e M:Int) (b:List UInt8):Zn:=⟨if b=[] then 0 else if (b.length:Int)=M then 4 else 1,e,b⟩
theorem zj2 {e M:Int} {b:List UInt8} (he:0≤e) (hM:1≤M∧M≤65536) (hb:(b.length:Int)≤M):okZ (zcm e M b) M:=by
 unfold okZ zcm;refine ⟨hM.1,hM.2,he,?_⟩;by_cases h:b=[]
 · subst h;exact .inl ⟨by simp,rfl⟩
 · have hl:=List.length_pos_iff.2 h
   by_cases h2:(b.length:Int)=M
   · exact .inr (.inr (.inr ⟨by simp [h,h2],hb⟩))
   · exact .inr (.inl ⟨.inl (by simp [h,h2]),hl,by show (b.length:Int)<M;omega⟩)
theorem zmF {r:Rc} (hr:OkRc r) (he:(recL r).2=0):∃ a:List UInt8,(recL r).1=a++r.data++fixL (crcL (zcD r))∧(fixL (crcL (zcD r))).length=4:=by
 have hc:=zj7 he;rw [ze7 hr hc];refine ⟨putL (zcD r).length++(flatN (recN r)++putL r.data.length),?_,by simp [fixL]⟩
 unfold frB zcD;simp
theorem zfX:∀ {want:List Rc} {pre:List UInt8} {i:Nat} {r:Rc} {o:Int},errL want=0→(∀ r∈want,OkRc r)→want[i]?=some r→(plsL pre.length want)[i]?=some o →
 0≤o∧o+r.data.length≤((pre++frsL want).length:Int)∧((pre++frsL want).drop o.toNat).take r.data.length=r.data
 | [],_,_,_,_,_,_,h,_=>by simp at h
 | x::want,pre,0,r,o,he,hok,hr,ho=>by
   simp only [List.getElem?_cons_zero,Option.some.injEq] at hr;subst hr;have h0:=zgz he x (List.mem_cons_self ..);obtain ⟨a,ha,h4⟩:=zmF (hok x (List.mem_cons_self ..)) h0;unfold plsL at ho;simp only [List.getElem?_cons_zero,Option.some.injEq] at ho;have hl:=congrArg List.length ha;simp only [List.length_append,h4] at hl;have ho':o=((pre.length+a.length:Nat):Int):=by omega
   subst ho';unfold frsL;refine ⟨by omega,by simp only [List.length_append];omega,?_⟩
   rw [Int.toNat_natCast,ha];have e:pre++(a++x.data++fixL (crcL (zcD x))++frsL want)=(pre++a)++(x.data++(fixL (crcL (zcD x))++frsL want)):=by simp
   rw [e,List.drop_append_of_le_length (by simp),List.drop_of_length_le (by simp)]
   simp
 | x::want,pre,i+1,r,o,he,hok,hr,ho=>by
   have h0:=zgz he;have he':errL want=0:=zdn fun y hy=>h0 y (List.mem_cons_of_mem _ hy)
   unfold plsL at ho;simp only [List.getElem?_cons_succ] at hr ho;have e:(pre.length:Int)+((recL x).1.length:Int)=((pre++(recL x).1).length:Int):=by simp
   rw [e] at ho;have:=zfX (pre:=pre++(recL x).1) he' (fun y hy=>hok y (List.mem_cons_of_mem _ hy)) hr ho
   unfold frsL;rwa [List.append_assoc] at this
def zgc (r:Rc):Int:=if (recL r).2≠0 then 0 else (recL r).1.length-4-r.data.length
def zbZ (r:Rc) (zone off:Int):Ex:=⟨r.lba,r.n,r.ver,if r.kind=2 then -1 else if r.kind=3 then r.zone else zone,if r.kind=2 then 0 else if r.kind=3 then r.off else off⟩
def zcu (m:List Ex) (r:Rc) (zone off:Int):List Ex × Int:=
 if chkE m≠0∨checkL r≠0∨zone<0∨off<0∨1099511627776<off then ([],1)
 else if ¬mayE (zbZ r zone off) then ([],1)
 else if 10000<(zam m (zbZ r zone off)).length then ([],2) else (zam m (zbZ r zone off),0)
def zeE (i:Nat) (f:Fd):List (Rc × Int × Int):=List.zipWith (fun r a=>(r,(i:Int),a+zgc r)) f.l f.at_
def zbL:List (Rc × Int × Int)→List Ex→List Ex × Int
 | [],m=>(m,0)
 | x::l,m=>if (zcu m x.1 x.2.1 x.2.2).2≠0 then ([],(zcu m x.1 x.2.1 x.2.2).2) else zbL l (zcu m x.1 x.2.1 x.2.2).1
theorem zcY (x:Rc × Int × Int) (l:List (Rc × Int × Int)) (m:List Ex):zbL (x::l) m=if (zcu m x.1 x.2.1 x.2.2).2≠0 then ([],(zcu m x.1 x.2.1 x.2.2).2) else zbL l (zcu m x.1 x.2.1 x.2.2).1:=rfl
theorem zgJ {l k:List (Rc × Int × Int)} {m n:List Ex} (h:zbL l m=(n,0)):zbL (l++k) m=zbL k n:=by
 induction l generalizing m with
 | nil=>simp only [zbL,Prod.mk.injEq,and_true] at h;subst h;rfl
 | cons x l ih=>
   rw [List.cons_append];rw [zcY] at h ⊢;split at h
   · rename_i h1;injection h with _ h2;exact absurd h2 h1
   · rename_i h1;rw [if_neg h1];exact ih h
structure zdN (B:Int) (r:Rc):Prop where
 kind:r.kind=1∨r.kind=2
 lba:0≤r.lba∧1≤r.n∧r.lba+r.n≤B
 n:r.n≤256
 ver:0≤r.ver∧r.ver≤1000000
 rest:r.zone=0∧r.off=0
 data:r.kind=1→(r.data.length:Int)=16*r.n
 trim:r.kind=2→r.data=[]
theorem zdN.check {B:Int} {r:Rc} (h:zdN B r) (hB:B≤1000000):checkL r=0:=by
 obtain ⟨h1,h2,h3,h4,h5,h6,h7⟩:=h;unfold checkL;rw [if_neg (by omega),if_neg (by omega),if_neg (by omega),if_neg (by omega),if_neg (by omega)]
 rcases h1 with h1 | h1
 · rw [if_pos (.inl h1),if_neg (by have:=h6 h1;omega)]
 · rw [if_neg (by omega),if_neg (by rw [h7 h1];simp)]
theorem zdN.ok {B:Int} {r:Rc} (h:zdN B r) (hB:B≤1000000):OkRc r:=by
 obtain ⟨h1,h2,h3,h4,h5,h6,h7⟩:=h;intro n hn;simp only [recN,List.mem_cons,List.not_mem_nil,or_false] at hn;omega
theorem zdN.fit {B:Int} {r:Rc} (h:zdN B r) (hB:B≤1000000):(recL r).2=0:=by rw [ze7 (h.ok hB) (h.check hB)]
def zdg (B:Int) (x:Rc × Int × Int):Prop:=zdN B x.1∧(0≤x.2.1∧x.2.1≤1000)∧(0≤x.2.2∧x.2.2≤1000000)
def extX (x:Rc × Int × Int):Ex:=zbZ x.1 x.2.1 x.2.2
theorem zdg.may {B:Int} {x:Rc × Int × Int} (h:zdg B x) (hB:B≤1000000):mayE (extX x):=by
 obtain ⟨⟨h1,h2,h3,h4,h5,h6,h7⟩,h8,h9⟩:=h;unfold extX zbZ;rcases h1 with h1 | h1
 · rw [if_neg (by omega),if_neg (by omega),if_neg (by omega),if_neg (by omega)]
   exact ⟨⟨h2.1,by simp only;omega,by simp only;omega,by simp only;omega⟩,h4.1,by simp only;omega,by simp only;omega,h9.1,by simp only;omega,by simp only;omega⟩
 · rw [if_pos h1,if_pos h1]
   exact ⟨⟨h2.1,by simp only;omega,by simp only;omega,by simp only;omega⟩,h4.1,by simp only;omega,by simp only;omega,by simp only;omega,by simp,by simp⟩
theorem ze5 {B:Int} (hB:0≤B∧B≤10000):∀ (l:List (Rc × Int × Int)) (L m:List Ex),(∀ x∈l,zdg B x)→za2 0 m→(∀ b,Best L b (see m b))→(∀ e∈L,endE e≤B) →
 ∃ n,zbL l m=(n,0)∧za2 0 n∧(∀ b,Best (L++l.map extX) b (see n b))∧(n.length:Int)≤max B m.length
 | [],L,m,_,hm,hb,_=>⟨m,rfl,hm,by simpa using hb,by omega⟩
 | x::l,L,m,hl,hm,hb,hL=>by
   have hx:=hl x (List.mem_cons_self ..);have hmay:=hx.may (by omega)
   obtain ⟨o1,o2,o3⟩:=zdz hm hmay;have hb2:∀ b,Best (L++[extX x]) b (see (zam m (extX x)) b):=fun b=>(hb b).offer hm hmay
   have hex:endE (extX x)≤B:=hx.1.lba.2.2;have hL2:∀ e∈L++[extX x],endE e≤B:=by
    intro e he;rcases List.mem_append.1 he with he | he
    · exact hL e he
    · simp only [List.mem_singleton] at he;subst he;exact hex
   have hlen:((zam m (extX x)).length:Int)≤B:=by
    refine zf5 o1 hB.1 fun b hbB=>?_
    have h1:=hb2 b;cases hs:see (zam m (extX x)) b with
    | none=>rfl
    | some t=>
      rw [hs] at h1;obtain ⟨e,e1,e2,_,_⟩:=h1;have:=hL2 e e1;unfold hasE at e2;simp only [decide_eq_true_eq] at e2;omega
   have ha:zcu m x.1 x.2.1 x.2.2=(zam m (extX x),0):=by
    obtain ⟨g1,g2,g3⟩:=hx;have hc:chkE m=0:=by unfold chkE;rw [if_pos hm]
    unfold zcu;rw [if_neg (by rw [hc,g1.check (by omega)];omega),if_neg (fun h=>h hmay),if_neg (by have:((zam m (zbZ x.1 x.2.1 x.2.2)).length:Int)≤B:=hlen;omega)]
    rfl
   obtain ⟨n,n1,n2,n3,n4⟩:=ze5 hB l (L++[extX x]) (zam m (extX x)) (fun y hy=>hl y (List.mem_cons_of_mem _ hy)) o1 hb2 hL2
   refine ⟨n,?_,n2,fun b=>?_,by omega⟩
   · unfold zbL
     rw [ha];exact n1
   · have:=n3 b
     rwa [List.append_assoc] at this
def zb6:List Ex→Int
 | []=>0
 | e::l=>e.n+zb6 l
def zdG:Int→List Ex→Int→Prop
 | a,[],z=>a=z
 | a,p::l,z=>p.lba=a∧0<p.n∧zdG (endE p) l z
theorem ziL {a b z:Int} {l:List Ex} (hab:a≤b) (h:zdG b l z):zdG a (gap1 a b++l) z:=by
 unfold gap1;split
 · refine ⟨rfl,by simp only;omega,?_⟩
   have:endE ⟨a,b-a,0,-1,0⟩=b:=by unfold endE;simp only;omega
   rw [this];exact h
 · have:a=b:=by omega
   subst this;exact h
theorem zcy:∀ (l:List Ex) (a z:Int),za2 a l→lastE a l≤z→zdG a (zbI a l z) z
 | [],a,z,_,hz=>by
   have:=ziL (a:=a) (b:=z) (z:=z) (l:=[]) hz rfl;rwa [List.append_nil] at this
 | x::l,a,z,h,hz=>ziL h.2.1 ⟨rfl,h.1.pos.1,zcy l (endE x) z h.2.2 hz⟩
def zaI (n:Nat):List UInt8:=List.replicate n 0
def zcl (zs:List Zn):List Ex→List UInt8→List UInt8 × Int
 | [],out=>(out,0)
 | x::l,out=>
   if x.zone<0 then zcl zs l (out++zaI (16*x.n).toNat)
   else if (zs.length:Int)≤x.zone∨((zs.getD x.zone.toNat z0).d.length:Int)-16*x.n<x.off then ([],21)
   else zcl zs l (out++((zs.getD x.zone.toNat z0).d.drop x.off.toNat).take (16*x.n).toNat)
def zbp (zs:List Zn) (m:List Ex) (lba n:Int):List UInt8 × Int:=
 if chkE m≠0∨¬za9 lba n then ([],1) else if 4096<n then ([],2) else zcl zs (lookE m lba n) []
def zaa (zs:List Zn) (m:List Ex) (b:Int):List UInt8:=match see m b with
 | none=>zaI 16
 | some t=>if t.2.1<0 then zaI 16 else ((zs.getD t.2.1.toNat z0).d.drop t.2.2.toNat).take 16
def FitE (zs:List Zn) (m:List Ex):Prop:=∀ b t,see m b=some t→t.2.1<0∨(t.2.1<zs.length∧0≤t.2.2∧t.2.2+16≤((zs.getD t.2.1.toNat z0).d.length:Int))
theorem zhD (a b:Nat):zaI (a+b)=zaI a++zaI b:=List.replicate_append_replicate.symm
theorem zeq {α β:Type} {f g:α→List β}:∀ {l:List α},(∀ x∈l,f x=g x)→l.flatMap f=l.flatMap g
 | [],_=>rfl
 | a::l,h=>by
   rw [List.flatMap_cons,List.flatMap_cons,h a (List.mem_cons_self ..),zeq fun x hx=>h x (List.mem_cons_of_mem _ hx)]
theorem zjR (n:Nat):zaI (16*n)=(List.range n).flatMap fun _=>zaI 16:=by
 induction n with
 | zero=>rfl
 | succ n ih=>
   rw [List.range_succ,List.flatMap_append,←ih,Nat.mul_add,Nat.mul_one,zhD];simp only [List.flatMap_cons,List.flatMap_nil,List.append_nil]
theorem zkv (d:List UInt8) (o n:Nat):(d.drop o).take (16*n)=(List.range n).flatMap fun i=>(d.drop (o+16*i)).take 16:=by
 induction n with
 | zero=>simp
 | succ n ih=>
   rw [List.range_succ,List.flatMap_append,←ih,Nat.mul_add,Nat.mul_one,List.take_add,List.drop_drop];simp
theorem zfu {α:Type} (f:Nat→List α) (a b:Nat):(List.range (a+b)).flatMap f=(List.range a).flatMap f++(List.range b).flatMap fun i=>f (a+i):=by
 rw [List.range_add,List.flatMap_append,List.flatMap_map]
theorem zfV {zs:List Zn} {m:List Ex} (hf:FitE zs m):∀ (l:List Ex) (a z:Int) (out:List UInt8),zdG a l z →
 (∀ p∈l,(GapE p∧∀ b,hasE p b=true→see m b=none)∨(mayE p∧∀ b,hasE p b=true→see m b=some (seeE p b))) →
 zcl zs l out=(out++(List.range (z-a).toNat).flatMap fun i=>zaa zs m (a+(i:Nat)),0)
 | [],a,z,out,ht,_=>by
   have:a=z:=ht;subst this;simp [zcl]
 | p::l,a,z,out,ht,hp=>by
   obtain ⟨rfl,hn,ht⟩:=ht;have hz:endE p≤z:=by
    have:∀ (l:List Ex) (a:Int),zdG a l z→a≤z:=by
     intro l;induction l with
     | nil=>intro a h;exact Int.le_of_eq h
     | cons x l ih=>intro a h;have:=ih _ h.2.2;have:=h.1;have:=h.2.1;unfold endE at *;omega
    exact this l _ ht
   obtain ⟨n,hpn⟩:∃ n:Nat,p.n=n:=⟨p.n.toNat,by omega⟩
   have hin:∀ i:Nat,i<n→hasE p (p.lba+i)=true:=by intro i hi;unfold hasE endE;simp;omega
   have ih:=zfV hf l (endE p) z;have hsplit:(z-p.lba).toNat=n+(z-endE p).toNat:=by unfold endE at *;omega
   have hfl:((List.range (z-p.lba).toNat).flatMap fun i=>zaa zs m (p.lba+(i:Nat))) =
    ((List.range n).flatMap fun i=>zaa zs m (p.lba+(i:Nat)))++(List.range (z-endE p).toNat).flatMap fun i=>zaa zs m (endE p+(i:Nat)):=by
    rw [hsplit,zfu];congr 1
    refine zeq fun i _=>?_
    congr 1
    unfold endE;omega
   have hrest:=fun out=>ih out ht fun q hq=>hp q (List.mem_cons_of_mem _ hq)
   rw [hfl];unfold zcl;have e16:(16*p.n).toNat=16*n:=by omega
   have hzero:(∀ i:Nat,i<n→zaa zs m (p.lba+i)=zaI 16)→((List.range n).flatMap fun i=>zaa zs m (p.lba+(i:Nat)))=zaI (16*n):=by
    intro h;rw [zjR];exact zeq fun i hi=>h i (List.mem_range.1 hi)
   rcases hp p (List.mem_cons_self ..) with ⟨⟨_,g,_⟩,hs⟩ | ⟨hmay,hs⟩
   · rw [if_pos (by omega),hrest,e16,hzero (fun i hi=>by unfold zaa;rw [hs _ (hin i hi)]),List.append_assoc]
   · by_cases hneg:p.zone<0
     · rw [if_pos hneg,hrest,e16,hzero (fun i hi=>by unfold zaa;rw [hs _ (hin i hi)];exact if_pos hneg),List.append_assoc]
     · have hlast:=hf (p.lba+(n-1:Nat)) _ (hs _ (hin (n-1) (by omega)))
       have hz1:¬p.zone = -1:=by omega
       simp only [seeE,hz1,if_false] at hlast;obtain ⟨h1,h2,h3⟩:=hlast.resolve_left hneg;have h0:0≤p.off:=hmay.2.2.2.2.1;rw [if_neg hneg,if_neg (by omega),hrest,e16,zkv,List.append_assoc]
       congr 3
       refine zeq fun i hi=>?_
       have hi':=List.mem_range.1 hi;unfold zaa;rw [hs _ (hin i hi')];simp only [seeE,hz1,if_false,hneg];congr 2
       omega
theorem zbG {zs:List Zn} {m:List Ex} {lba n:Int} (hm:za2 0 m) (hb:za9 lba n) (hn:n≤4096) (hf:FitE zs m) :
 zbp zs m lba n=((List.range n.toNat).flatMap fun i=>zaa zs m (lba+(i:Nat)),0):=by
 obtain ⟨h1,h2,h3⟩:=zbJ hm hb;obtain ⟨g1,_,_⟩:=zc3 hm hb;unfold zbp;have hc:chkE m=0:=by unfold chkE;rw [if_pos hm]
 rw [if_neg (by rw [hc];simp [hb]),if_neg (by omega)]
 have:=zfV hf (lookE m lba n) lba (lba+n) [] (zcy _ _ _ h1 h2) fun p hp=>(g1 p hp).2.2.2
 rw [this,List.nil_append];congr 3
 omega
def devA (M:Int) (zs:List Zn):Zd:=⟨M,zs.length,zs.length,zs⟩
def OkA (M:Int) (zs:List Zn):Prop:=(1≤M∧M≤65536)∧(1≤zs.length∧zs.length≤64)∧∀ z∈zs,okZ z M
theorem zlp (S:List Int) (zs:List Zn):cntZ S zs≤zs.length:=by unfold cntZ;exact List.length_filter_le ..
theorem zkS {S:List Int} {zs:List Zn} {i:Nat} {z:Zn} (hz:zs[i]?=some z) (hs:¬z.st∈S):cntZ S zs<zs.length:=by
 unfold cntZ;rw [List.length_filter_lt_length_iff_exists];exact ⟨z,List.mem_of_getElem? hz,by simpa using hs⟩
theorem OkA.ok {M:Int} {zs:List Zn} (h:OkA M zs):okD (devA M zs):=by
 obtain ⟨h1,h2,h3⟩:=h;have a:=zlp zdM zs;have b:=zlp zaQ zs;exact ⟨⟨h2.1,h2.2,h1.1,h1.2,by show (1:Int)≤(zs.length:Int);omega,Int.le_refl _,Int.le_refl _⟩,by show (cntZ zdM zs:Int)≤(zs.length:Int);omega,by show (cntZ zaQ zs:Int)≤(zs.length:Int);omega,h3⟩
theorem OkA.set {M:Int} {zs:List Zn} {i:Nat} {z:Zn} (h:OkA M zs) (hz:okZ z M):OkA M (zs.set i z):=
 ⟨h.1,by rw [List.length_set];exact h.2.1,fun x hx=>(List.mem_or_eq_of_mem_set hx).elim (fun hx=>h.2.2 x hx) (fun e=>e ▸ hz)⟩
theorem zd1 {M:Int} {zs:List Zn} {i:Nat} {z:Zn} (hz:zs[i]?=some z):(devA M zs).z.getD i z0=z:=by
 unfold devA;simp only [List.getD_eq_getElem?_getD,hz,Option.getD_some]
theorem zkJ {M:Int} {zs:List Zn} {i:Nat} {z:Zn} (hz:zs[i]?=some z):roomK (devA M zs) i=(0,zs):=by
 unfold roomK;rw [zd1 hz];by_cases h1:z.st∈zdM
 · rw [if_pos h1];rfl
 · rw [if_neg h1]
   have h2:=zkS hz h1;have h3:¬(¬z.st∈zaQ∧(devA M zs).act≤(cntZ zaQ (devA M zs).z:Int)):=by
    rintro ⟨h3,h4⟩;have h5:=zkS hz h3;have h6:(zs.length:Int)≤(cntZ zaQ zs:Int):=h4;omega
   have h6:(cntZ zdM (devA M zs).z:Int)<(devA M zs).opn:=by show (cntZ zdM zs:Int)<(zs.length:Int);omega
   rw [if_neg h3,if_pos h6];rfl
theorem zgQ {M:Int} {zs:List Zn} {i:Nat} {z:Zn} {c:Cm} (hz:zs[i]?=some z) :
 zaZ (devA M zs) i c=if zbh z M c.data=0 then (0,zs.set i (zcv z M c.data),⟨0,z.d.length,[]⟩) else (zbh z M c.data,zs,dn0):=by
 unfold zaZ;rw [zd1 hz,zkJ hz];show (let r:=appZ z M c.data;if r.2.2≠0 then (r.2.2,zs,dn0) else if (0:Int)≠0 then _ else (0,zs.set i r.1,⟨0,r.2.1,[]⟩))=_;unfold appZ;by_cases h:zbh z M c.data=0
 · rw [if_pos h,if_pos h];simp
 · rw [if_neg h,if_neg h];simp only [ne_eq,h,not_false_eq_true,if_true]
theorem zd2 {M:Int} {zs:List Zn} {i:Nat} {z:Zn} {c:Cm} (h:OkA M zs) (hz:zs[i]?=some z) (ho:1≤c.op∧c.op≤8) (hc:c.zone=i) (he:c.op=7∨c.epoch=z.fe) :
 doZ (devA M zs) c=(let r:=doK (devA M zs) i c;if r.1≠0 then (devA M zs,⟨r.1,0,[]⟩) else if c.op=8∧c.n=0 then (devA M zs,dn0) else (⟨M,zs.length,zs.length,r.2.1⟩,r.2.2)):=by
 have hi:i<zs.length:=(List.getElem?_eq_some_iff.1 hz).1;unfold doZ;rw [if_neg (by
  simp only [not_or,Decidable.not_not];refine ⟨ho,h.ok,by omega,?_⟩
  show c.zone<(zs.length:Int);omega),hc,Int.toNat_natCast,zd1 hz,if_neg (by rintro ⟨h1,h2⟩;rcases he with he | he <;> contradiction)]
 rfl
theorem zhR {M:Int} {zs:List Zn} {i:Nat} {z:Zn} {x:List UInt8} (h:OkA M zs) (hz:zs[i]?=some z) :
 doZ (devA M zs) ⟨1,i,z.fe,0,0,x⟩=if zbh z M x=0 then (devA M (zs.set i (zcv z M x)),⟨0,z.d.length,[]⟩) else (devA M zs,⟨zbh z M x,0,[]⟩):=by
 rw [zd2 h hz (by simp) rfl (.inr rfl)]
 have hk:doK (devA M zs) i ⟨1,i,z.fe,0,0,x⟩=zaZ (devA M zs) i ⟨1,i,z.fe,0,0,x⟩:=by unfold doK;rw [if_pos rfl]
 rw [hk,zgQ hz];by_cases hr:zbh z M x=0
 · simp only [hr,if_true]
   simp [devA]
 · simp only [hr,if_false]
   simp [hr]
theorem zjv {M e:Int} {zs:List Zn} {i:Nat} {z:Zn} (h:OkA M zs) (hz:zs[i]?=some z) (he:z.fe<e) :
 doZ (devA M zs) ⟨7,i,e,0,0,[]⟩=(devA M (zs.set i ⟨z.st,e,z.d⟩),dn0):=by
 rw [zd2 h hz (by simp) rfl (.inl rfl)]
 have hk:doK (devA M zs) i ⟨7,i,e,0,0,[]⟩=zf4 (devA M zs) i ⟨7,i,e,0,0,[]⟩:=by unfold doK;simp
 rw [hk];have hf:zf4 (devA M zs) i ⟨7,i,e,0,0,[]⟩=(0,zs.set i ⟨z.st,e,z.d⟩,dn0):=by
  unfold zf4;rw [zd1 hz];have h1:¬(e≤z.fe):=by omega
  simp only [h1,if_false];rfl
 rw [hf];simp [devA]
theorem zit {M:Int} {zs:List Zn} {i:Nat} {z:Zn} (h:OkA M zs) (hz:zs[i]?=some z) :
 doZ (devA M zs) ⟨4,i,z.fe,0,0,[]⟩=(devA M (zs.set i (finZ z)),dn0):=by
 rw [zd2 h hz (by simp) rfl (.inr rfl)]
 have hk:doK (devA M zs) i ⟨4,i,z.fe,0,0,[]⟩=(0,zs.set i (finZ z),dn0):=by unfold doK;rw [zd1 hz];simp [devA]
 rw [hk];simp [devA]
theorem zoN {z:Zn} {M:Int} (h:okZ z M):okZ (finZ z) M:=by
 obtain ⟨h1,h2,h3,h4⟩:=h;exact ⟨h1,h2,h3,.inr (.inr (.inr ⟨rfl,by show (z.d.length:Int)≤M;omega⟩))⟩
theorem zmD:scanL []=f0d:=by
 have h:zou [] f0d=none:=by
  unfold zou;have:(zdj []).2.2=false:=zi4 (by simp)
  show (if (zdj []).2.2=false then none else _)=none;rw [if_pos this]
 unfold scanL;show zmu [] 1 f0d=f0d;unfold zmu;rw [h]
def covR (r:Rc) (b:Int):Prop:=r.lba≤b∧b<r.lba+r.n
def zie (r:Rc) (b:Int):List UInt8:=if r.kind=2 then zaI 16 else (r.data.drop (16*(b-r.lba)).toNat).take 16
theorem zog (x:Rc × Int × Int) (b:Int):hasE (extX x) b=true↔covR x.1 b:=by
 unfold hasE endE extX zbZ covR;simp
theorem zoj {w:World} {base g n c:Nat} {e:TypeId} {xs:List Value} (h:w.ownsRow base e 1 (.slice (some ⟨g,0,none⟩) n c) n xs) :
 base≤g∧g<w.heap.size∧(∀ o,w.frozen? ⟨g,o,none⟩=false)∧∀ (i:Nat) u,xs[i]?=some u→w.cell? ⟨g,i,none⟩=some u:=by
 obtain ⟨hl,h2⟩:=h;rcases h2 with ⟨h3,_⟩ | ⟨g',cap,cur,hv,hb,hg,hnc,hcm,hcs,ht⟩
 · cases h3
 · cases hv
   have hB:Blk w g e cur:=hg;refine ⟨hb,hB.lt,hB.frozen,fun i u hu=>?_⟩
   rw [hB.cell i];rw [←ht,List.getElem?_take] at hu;split at hu
   · simpa using hu
   · cases hu
theorem zmI (by_:UInt8) (j m:Nat):(za3 (List.replicate j by_++List.replicate (m+1) 0)).set j (.int .u8 (by_.toNat:Int))=za3 (List.replicate (j+1) by_++List.replicate m 0):=by
 unfold za3;rw [List.map_append,List.map_append,List.map_replicate,List.map_replicate,List.map_replicate,List.map_replicate,List.set_append_right (h:=by simp),List.length_replicate,Nat.sub_self,List.replicate_succ,List.set_cons_zero,List.replicate_succ' (n:=j),List.append_assoc]
 rfl
def IsDK (w:World) (K:Nat→Prop) (v:Value) (d:Zd):Prop:=∃ A c,v=.agg #[.int .i64 d.cap,.int .i64 d.opn,.int .i64 d.act,.slice A d.z.length c]∧IsL Rp.zone w K (.slice A d.z.length c) d.z
theorem zku (zones most opn act:Int) (w:World) :
 Calls Tryz.prog 17 #[.int .i64 zones,.int .i64 most,.int .i64 opn,.int .i64 act] w fun e w'=>∃ v,e=.returned (.tuple #[v,.int .i64 (newD zones most opn act).2])∧IsDK w' (fun b=>w.heap.size≤b) v (newD zones most opn act).1∧Below w.heap.size w w':=by
 obtain ⟨res,hres⟩:∃ res,newD zones most opn act=res:=⟨_,rfl⟩;rw [hres];have HRES:=Lib.hid hres;clear hres;obtain ⟨i0,hi,hz0,hz1,hz2⟩:=info_parts Tryz.infZ;have hb0:Below w.heap.size w (w.alloc (.cells #[.int .i64 0,.int .i64 0,.int .i64 0,.slice none 0 0] 27)):=(Below.refl _ _).alloc (Nat.le_refl _) _;by_cases hz:zones<1∨64<zones
 · have hr:res=(⟨0,0,0,[]⟩,1):=by rw [←HRES.out];exact if_pos hz
   subst hr;clear HRES;have hb:(zones<1)∨(¬zones<1∧64<zones):=by omega
   clear hz;rcases hb with h | ⟨h,h'⟩
   all_goals
    go_enter Tryz.func17,Tryz.ntmps17
    go_wp2;refine bodyPost_ret (v:=.tuple #[.agg #[.int .i64 0,.int .i64 0,.int .i64 0,.slice none 0 0],.int .i64 1]) (by simp [results,Tryz.results17,go_sem]) rfl ⟨_,rfl,⟨none,0,rfl,IsL.nil_ _ _⟩,hb0⟩
 · have h1:¬zones<1:=fun h=>hz (.inl h)
   have h2:¬64<zones:=fun h=>hz (.inr h)
   obtain ⟨n,rfl⟩:∃ n:Nat,zones=n:=⟨zones.toNat,by omega⟩
   obtain ⟨d,hd⟩:∃ d:Zd,d=⟨most,opn,act,List.replicate n z0⟩:=⟨_,rfl⟩;have hr:res=if chkD d=0 then (d,0) else (⟨0,0,0,[]⟩,1):=by
    rw [←HRES.out,hd];unfold newD;rw [if_neg hz,Int.toNat_natCast]
   have hlen:n=d.z.length:=by rw [hd,List.length_replicate]
   have HR:=Lib.hid hr;have HD:=Lib.hid hd;clear hr HRES hd;have hm1:most=d.cap:=by rw [HD.out]
   have hm2:opn=d.opn:=by rw [HD.out]
   have hm3:act=d.act:=by rw [HD.out]
   subst hm1 hm2 hm3;have hn64:n≤64:=by omega
   subst hlen;go_enter Tryz.func17,Tryz.ntmps17
   go_wp2_with (at_make;refine wpList_make_full _ rfl _ _ 25 rfl (w.heap.size+1) 126 i0 _ 3 Tryz.underlying25 hi hz0 hz1 _ _ _ _ d.z.length rfl rfl (by omega) (by omega) (by rw [hz2];omega) (by unfold maxLen;omega) (by rw [World.size_alloc];omega) ?_;intro w1 how hg1)
   have hbn:Below (w.heap.size+1) (w.alloc (.cells #[.int .i64 0,.int .i64 0,.int .i64 0,.slice none 0 0] 27)) w1:=⟨hg1.os,hg1.tape,hg1.output,hg1.size,fun k hk=>hg1.block k (by rw [World.size_alloc];omega) (by simp)⟩
   have hb1:Below w.heap.size w w1:=hb0.trans (hbn.mono (by omega))
   have hB1:=(Blk.new w 27 #[.int .i64 0,.int .i64 0,.int .i64 0,.slice none 0 0] rfl).step (by rw [World.size_alloc];exact hbn)
   have hL1:IsL Rp.zone w1 (fun b=>w.heap.size+1≤b) (.slice (some ⟨w.heap.size+1,0,none⟩) d.z.length d.z.length) d.z:=by
    have e1:(madeCells (Value.agg #[.int .i64 0,.int .i64 0,.slice none 0 0]).cells (d.z.length*3)).toList=(List.replicate d.z.length [.int .i64 0,.int .i64 0,.slice none 0 0]).flatten:=zlh #[.int .i64 0,.int .i64 0,.slice none 0 0] d.z.length;rw [World.size_alloc,e1] at how;have hz:d.z=List.replicate d.z.length z0:=congrArg Zd.z HD.out;have hc:=zmK w1 (fun b=>w.heap.size+1≤b) d.z.length
    rw [←hz] at hc;exact ⟨_,_,_,rfl,za6.of_own_ge how,hc,Nat.le_refl _,by omega,by omega⟩
   refine (zcW d _ _ _ (hL1.alloc _)).mono ?_;rintro e w2 ⟨rfl,hb2⟩;have E:=(((Kn.from_ hb1 hb1.size).know hB1).give za1.list hL1).push 27 #[.int .i64 d.cap,.int .i64 d.opn,.int .i64 d.act,.slice (some ⟨w.heap.size+1,0,none⟩) d.z.length d.z.length] |>.step hb2
   clear hL1 hB1 hb1 hbn hg1 how hb2;obtain ⟨q0,f0,t0⟩:=E.rules m0;obtain ⟨q1,f1,t1⟩:=E.rules m1;by_cases hk:chkD d=0
   · rw [hk]
     have hr:=HR.out;rw [if_pos hk] at hr;subst hr;clear hk HR HD;go_wp2;have hA:=((((E.at_ m1).set_ 0 (.int .i64 d.cap)).set_ 1 (.int .i64 d.opn)).set_ 2 (.int .i64 d.act)).set_ 3 (.slice (some ⟨w.heap.size+1,0,none⟩) d.z.length d.z.length);have ht:=((((za0.refl w2 (fun b=>b=w.heap.size)).set (g:=w.heap.size) rfl 0 (.int .i64 d.cap)).set (g:=w.heap.size) rfl 1 (.int .i64 d.opn)).set (g:=w.heap.size) rfl 2 (.int .i64 d.act)).set (g:=w.heap.size) rfl 3 (.slice (some ⟨w.heap.size+1,0,none⟩) d.z.length d.z.length)
     generalize (((w2.setCell ⟨w.heap.size,0,none⟩ (.int .i64 d.cap)).setCell ⟨w.heap.size,1,none⟩ (.int .i64 d.opn)).setCell ⟨w.heap.size,2,none⟩ (.int .i64 d.act)).setCell ⟨w.heap.size,3,none⟩ (.slice (some ⟨w.heap.size+1,0,none⟩) d.z.length d.z.length)=w9 at hA ht ⊢;obtain ⟨q9,f9⟩:=hA.rules;refine bodyPost_ret (v:=.tuple #[.agg #[.int .i64 d.cap,.int .i64 d.opn,.int .i64 d.act,.slice (some ⟨w.heap.size+1,0,none⟩) d.z.length d.z.length],.int .i64 0]) (by simp [results,Tryz.results17,go_sem,q9]) rfl ⟨_,rfl,⟨_,_,rfl,?_⟩,?_⟩
     · exact ((E.get m0).turned ht (fun b hb=>by omega)).more fun b hb=>by omega
     · exact E.below.trans (ht.below (fun b hb=>by omega) E.below.size)
   · have hk1:chkD d=1:=by
      unfold chkD at hk ⊢;split
      · rename_i h;rw [if_pos h] at hk;exact absurd rfl hk
      · rfl
     rw [hk1];have hr:=HR.out;rw [if_neg hk] at hr;subst hr;clear hk hk1 HR HD;go_wp2;have hA:=((((E.at_ m1).set_ 0 (.int .i64 0)).set_ 1 (.int .i64 0)).set_ 2 (.int .i64 0)).set_ 3 (.slice none 0 0);have ht:=((((za0.refl w2 (fun b=>b=w.heap.size)).set (g:=w.heap.size) rfl 0 (.int .i64 0)).set (g:=w.heap.size) rfl 1 (.int .i64 0)).set (g:=w.heap.size) rfl 2 (.int .i64 0)).set (g:=w.heap.size) rfl 3 (.slice none 0 0)
     generalize (((w2.setCell ⟨w.heap.size,0,none⟩ (.int .i64 0)).setCell ⟨w.heap.size,1,none⟩ (.int .i64 0)).setCell ⟨w.heap.size,2,none⟩ (.int .i64 0)).setCell ⟨w.heap.size,3,none⟩ (.slice none 0 0)=w9 at hA ht ⊢;obtain ⟨q9,f9⟩:=hA.rules;refine bodyPost_ret (v:=.tuple #[.agg #[.int .i64 0,.int .i64 0,.int .i64 0,.slice none 0 0],.int .i64 1]) (by simp [results,Tryz.results17,go_sem,q9]) rfl ⟨_,rfl,⟨none,0,rfl,IsL.nil_ _ _⟩,?_⟩
     exact E.below.trans (ht.below (fun b hb=>by omega) E.below.size)
end Go.Proofs.YthblkdnijhphhaaGreat
