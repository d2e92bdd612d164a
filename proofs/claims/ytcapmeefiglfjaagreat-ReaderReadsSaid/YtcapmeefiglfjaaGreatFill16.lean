/- A part of the proof. -/
import Derived.Test.YtcapmeefiglfjaaGreatPackLive
import Derived.Test.YtcapmeefiglfjaaGreatRing
import Derived.Test.YtcapmeefiglfjaaGreatZnsDo
set_option linter.unusedSimpArgs false
set_option maxHeartbeats 4000000
set_option maxRecDepth 100000
namespace Go.Proofs.YtcapmeefiglfjaaGreat
open Go.RowKit
def gS (e M:Int) (b:List UInt8):Zn:=⟨if b=[] then 0 else if (b.length:Int)=M then 4 else 1,e,b⟩
theorem zaA {e M:Int} {b:List UInt8} (he:0≤e) (hM:1≤M∧M≤65536) (hb:(b.length:Int)≤M):okZ (gS e M b) M:=by
 unfold okZ gS;refine ⟨hM.1,hM.2,he,?_⟩;by_cases h:b=[]
 · subst h;exact .inl ⟨by simp,rfl⟩
 · have hl:=zjR.2 h
   by_cases h2:(b.length:Int)=M
   · exact .inr (.inr (.inr ⟨by simp [h,h2],hb⟩))
   · exact .inr (.inl ⟨.inl (by simp [h,h2]),hl,by show (b.length:Int)<M;omega⟩)
theorem zei {r:Rc} (hr:lZ r) (he:(recL r).2=0):∃ a:List UInt8,(recL r).1=a++r.data++fixL (rR (jB r))∧(fixL (rR (jB r))).length=4:=by
 have hc:=zaL he;rw [mD hr hc];refine ⟨putL (jB r).length++(flatN (kE r)++putL r.data.length),?_,by simp [fixL]⟩
 unfold frB jB;simp
theorem rJ:∀ {want:List Rc} {pre:List UInt8} {i:Nat} {r:Rc} {o:Int},eY want=0→(∀ r∈want,lZ r)→want[i]?=some r→(pW pre.length want)[i]?=some o →
 0≤o∧o+r.data.length≤((pre++cH want).length:Int)∧((pre++cH want).drop o.toNat).take r.data.length=r.data
 | [],_,_,_,_,_,_,h,_=>by simp at h
 | x::want,pre,0,r,o,he,hok,hr,ho=>by
   simp only [List.getElem?_cons_zero,ziL] at hr;subst hr;have h0:=rY he x (zih ..);obtain ⟨a,ha,h4⟩:=zei (hok x (zih ..)) h0;unfold pW at ho;simp only [List.getElem?_cons_zero,ziL] at ho;have hl:=zjj List.length ha;simp only [zie,h4] at hl;have ho':o=((pre.length+a.length:Nat):Int):=by omega
   subst ho';unfold cH;refine ⟨by omega,by simp only [zie];omega,?_⟩
   rw [Int.toNat_natCast,ha];have e:pre++(a++x.data++fixL (rR (jB x))++cH want)=(pre++a)++(x.data++(fixL (rR (jB x))++cH want)):=by simp
   rw [e,zjw (by simp),zjz (by simp)]
   simp
 | x::want,pre,i+1,r,o,he,hok,hr,ho=>by
   have h0:=rY he;have he':eY want=0:=kL fun y hy=>h0 y (zii _ hy)
   unfold pW at ho;simp only [List.getElem?_cons_succ] at hr ho;have e:(pre.length:Int)+((recL x).1.length:Int)=((pre++(recL x).1).length:Int):=by simp
   rw [e] at ho;have:=rJ (pre:=pre++(recL x).1) he' (fun y hy=>hok y (zii _ hy)) hr ho
   unfold cH;rwa [ziq] at this
def sO (r:Rc):Int:=if (recL r).2≠0 then 0 else (recL r).1.length-4-r.data.length
def fR (r:Rc) (zone off:Int):Ex:=⟨r.lba,r.n,r.ver,if r.kind=2 then -1 else if r.kind=3 then r.zone else zone,if r.kind=2 then 0 else if r.kind=3 then r.off else off⟩
def iC (m:List Ex) (r:Rc) (zone off:Int):List Ex × Int:=
 if dZ m≠0∨checkL r≠0∨zone<0∨off<0∨1099511627776<off then ([],1)
 else if ¬bO (fR r zone off) then ([],1)
 else if 10000<(bC m (fR r zone off)).length then ([],2) else (bC m (fR r zone off),0)
def pK (i:Nat) (f:Fd):List (Rc × Int × Int):=List.zipWith (fun r a=>(r,(i:Int),a+sO r)) f.l f.at_
def fB:List (Rc × Int × Int)→List Ex→List Ex × Int
 | [],m=>(m,0)
 | x::l,m=>if (iC m x.1 x.2.1 x.2.2).2≠0 then ([],(iC m x.1 x.2.1 x.2.2).2) else fB l (iC m x.1 x.2.1 x.2.2).1
theorem jL (x:Rc × Int × Int) (l:List (Rc × Int × Int)) (m:List Ex):fB (x::l) m=if (iC m x.1 x.2.1 x.2.2).2≠0 then ([],(iC m x.1 x.2.1 x.2.2).2) else fB l (iC m x.1 x.2.1 x.2.2).1:=rfl
theorem vK {l k:List (Rc × Int × Int)} {m n:List Ex} (h:fB l m=(n,0)):fB (l++k) m=fB k n:=by
 induction l generalizing m with
 | nil=>simp only [fB,zj4,zks] at h;subst h;rfl
 | cons x l ih=>
   rw [List.cons_append];rw [jL] at h ⊢;split at h
   · rename_i h1;injection h with _ h2;exact absurd h2 h1
   · rename_i h1;rw [zig h1];exact ih h
structure lU (B:Int) (r:Rc):Prop where
 kind:r.kind=1∨r.kind=2
 lba:0≤r.lba∧1≤r.n∧r.lba+r.n≤B
 n:r.n≤256
 ver:0≤r.ver∧r.ver≤1000000
 rest:r.zone=0∧r.off=0
 data:r.kind=1→(r.data.length:Int)=16*r.n
 trim:r.kind=2→r.data=[]
theorem lU.check {B:Int} {r:Rc} (h:lU B r) (hB:B≤1000000):checkL r=0:=by
 obtain ⟨h1,h2,h3,h4,h5,h6,h7⟩:=h;unfold checkL;rw [zig (by omega),zig (by omega),zig (by omega),zig (by omega),zig (by omega)]
 rcases h1 with h1 | h1
 · rw [zij (.inl h1),zig (by have:=h6 h1;omega)]
 · rw [zig (by omega),zig (by rw [h7 h1];simp)]
theorem lU.ok {B:Int} {r:Rc} (h:lU B r) (hB:B≤1000000):lZ r:=by
 obtain ⟨h1,h2,h3,h4,h5,h6,h7⟩:=h;intro n hn;simp only [kE,zim,ziJ,zju] at hn;omega
theorem lU.fit {B:Int} {r:Rc} (h:lU B r) (hB:B≤1000000):(recL r).2=0:=by rw [mD (h.ok hB) (h.check hB)]
def kF (B:Int) (x:Rc × Int × Int):Prop:=lU B x.1∧(0≤x.2.1∧x.2.1≤1000)∧(0≤x.2.2∧x.2.2≤1000000)
def eF (x:Rc × Int × Int):Ex:=fR x.1 x.2.1 x.2.2
theorem kF.may {B:Int} {x:Rc × Int × Int} (h:kF B x) (hB:B≤1000000):bO (eF x):=by
 obtain ⟨⟨h1,h2,h3,h4,h5,h6,h7⟩,h8,h9⟩:=h;unfold eF fR;rcases h1 with h1 | h1
 · rw [zig (by omega),zig (by omega),zig (by omega),zig (by omega)]
   exact ⟨⟨h2.1,by simp only;omega,by simp only;omega,by simp only;omega⟩,h4.1,by simp only;omega,by simp only;omega,h9.1,by simp only;omega,by simp only;omega⟩
 · rw [zij h1,zij h1]
   exact ⟨⟨h2.1,by simp only;omega,by simp only;omega,by simp only;omega⟩,h4.1,by simp only;omega,by simp only;omega,by simp only;omega,by simp,by simp⟩
theorem mE {B:Int} (hB:0≤B∧B≤10000):∀ (l:List (Rc × Int × Int)) (L m:List Ex),(∀ x∈l,kF B x)→aC 0 m→(∀ b,zed L b (see m b))→(∀ e∈L,aL e≤B) →
 ∃ n,fB l m=(n,0)∧aC 0 n∧(∀ b,zed (L++l.map eF) b (see n b))∧(n.length:Int)≤max B m.length
 | [],L,m,_,hm,hb,_=>⟨m,rfl,hm,by simpa using hb,by omega⟩
 | x::l,L,m,hl,hm,hb,hL=>by
   have hx:=hl x (zih ..);have hmay:=hx.may (by omega)
   obtain ⟨o1,o2,o3⟩:=lC hm hmay;have hb2:∀ b,zed (L++[eF x]) b (see (bC m (eF x)) b):=fun b=>(hb b).offer hm hmay
   have hex:aL (eF x)≤B:=hx.1.lba.2.2;have hL2:∀ e∈L++[eF x],aL e≤B:=by
    intro e he;rcases ziA.1 he with he | he
    · exact hL e he
    · simp only [ziw] at he;subst he;exact hex
   have hlen:((bC m (eF x)).length:Int)≤B:=by
    refine oJ o1 hB.1 fun b hbB=>?_
    have h1:=hb2 b;cases hs:see (bC m (eF x)) b with
    | none=>rfl
    | some t=>
      rw [hs] at h1;obtain ⟨e,e1,e2,_,_⟩:=h1;have:=hL2 e e1;unfold aX at e2;simp only [ziM] at e2;omega
   have ha:iC m x.1 x.2.1 x.2.2=(bC m (eF x),0):=by
    obtain ⟨g1,g2,g3⟩:=hx;have hc:dZ m=0:=by unfold dZ;rw [zij hm]
    unfold iC;rw [zig (by rw [hc,g1.check (by omega)];omega),zig (fun h=>h hmay),zig (by have:((bC m (fR x.1 x.2.1 x.2.2)).length:Int)≤B:=hlen;omega)]
    rfl
   obtain ⟨n,n1,n2,n3,n4⟩:=mE hB l (L++[eF x]) (bC m (eF x)) (fun y hy=>hl y (zii _ hy)) o1 hb2 hL2
   refine ⟨n,?_,n2,fun b=>?_,by omega⟩
   · unfold fB
     rw [ha];exact n1
   · have:=n3 b
     rwa [ziq] at this
def dJ:List Ex→Int
 | []=>0
 | e::l=>e.n+dJ l
def kG:Int→List Ex→Int→Prop
 | a,[],z=>a=z
 | a,p::l,z=>p.lba=a∧0<p.n∧kG (aL p) l z
theorem zav {a b z:Int} {l:List Ex} (hab:a≤b) (h:kG b l z):kG a (gK a b++l) z:=by
 unfold gK;split
 · refine ⟨rfl,by simp only;omega,?_⟩
   have:aL ⟨a,b-a,0,-1,0⟩=b:=by unfold aL;simp only;omega
   rw [this];exact h
 · have:a=b:=by omega
   subst this;exact h
theorem gJ:∀ (l:List Ex) (a z:Int),aC a l→lastE a l≤z→kG a (dG a l z) z
 | [],a,z,_,hz=>by
   have:=zav (a:=a) (b:=z) (z:=z) (l:=[]) hz rfl;rwa [ziz] at this
 | x::l,a,z,h,hz=>zav h.2.1 ⟨rfl,h.1.pos.1,gJ l (aL x) z h.2.2 hz⟩
def bZ (n:Nat):List UInt8:=List.replicate n 0
def gP (zs:List Zn):List Ex→List UInt8→List UInt8 × Int
 | [],out=>(out,0)
 | x::l,out=>
   if x.zone<0 then gP zs l (out++bZ (16*x.n).toNat)
   else if (zs.length:Int)≤x.zone∨((zs.getD x.zone.toNat z0).d.length:Int)-16*x.n<x.off then ([],21)
   else gP zs l (out++((zs.getD x.zone.toNat z0).d.drop x.off.toNat).take (16*x.n).toNat)
def cC (zs:List Zn) (m:List Ex) (lba n:Int):List UInt8 × Int:=
 if dZ m≠0∨¬aJ lba n then ([],1) else if 4096<n then ([],2) else gP zs (lookE m lba n) []
def blockB (zs:List Zn) (m:List Ex) (b:Int):List UInt8:=match see m b with
 | none=>bZ 16
 | some t=>if t.2.1<0 then bZ 16 else ((zs.getD t.2.1.toNat z0).d.drop t.2.2.toNat).take 16
def rB (zs:List Zn) (m:List Ex):Prop:=∀ b t,see m b=some t→t.2.1<0∨(t.2.1<zs.length∧0≤t.2.2∧t.2.2+16≤((zs.getD t.2.1.toNat z0).d.length:Int))
theorem xA (a b:Nat):bZ (a+b)=bZ a++bZ b:=List.replicate_append_replicate.symm
theorem nH {α β:Type} {f g:α→List β}:∀ {l:List α},(∀ x∈l,f x=g x)→l.flatMap f=l.flatMap g
 | [],_=>rfl
 | a::l,h=>by
   rw [zjn,zjn,h a (zih ..),nH fun x hx=>h x (zii _ hx)]
theorem zb0 (n:Nat):bZ (16*n)=(List.range n).flatMap fun _=>bZ 16:=by
 induction n with
 | zero=>rfl
 | succ n ih=>
   rw [zjU,ziS,←ih,Nat.mul_add,zk0,xA];simp only [zjn,List.flatMap_nil,ziz]
theorem zcK (d:List UInt8) (o n:Nat):(d.drop o).take (16*n)=(List.range n).flatMap fun i=>(d.drop (o+16*i)).take 16:=by
 induction n with
 | zero=>simp
 | succ n ih=>
   rw [zjU,ziS,←ih,Nat.mul_add,zk0,List.take_add,zka];simp
theorem pY {α:Type} (f:Nat→List α) (a b:Nat):(List.range (a+b)).flatMap f=(List.range a).flatMap f++(List.range b).flatMap fun i=>f (a+i):=by
 rw [List.range_add,ziS,List.flatMap_map]
theorem qD {zs:List Zn} {m:List Ex} (hf:rB zs m):∀ (l:List Ex) (a z:Int) (out:List UInt8),kG a l z →
 (∀ p∈l,(zhF p∧∀ b,aX p b=true→see m b=none)∨(bO p∧∀ b,aX p b=true→see m b=some (seeE p b))) →
 gP zs l out=(out++(List.range (z-a).toNat).flatMap fun i=>blockB zs m (a+(i:Nat)),0)
 | [],a,z,out,ht,_=>by
   have:a=z:=ht;subst this;simp [gP]
 | p::l,a,z,out,ht,hp=>by
   obtain ⟨rfl,hn,ht⟩:=ht;have hz:aL p≤z:=by
    have:∀ (l:List Ex) (a:Int),kG a l z→a≤z:=by
     intro l;induction l with
     | nil=>intro a h;exact Int.le_of_eq h
     | cons x l ih=>intro a h;have:=ih _ h.2.2;have:=h.1;have:=h.2.1;unfold aL at *;omega
    exact this l _ ht
   obtain ⟨n,hpn⟩:∃ n:Nat,p.n=n:=⟨p.n.toNat,by omega⟩
   have hin:∀ i:Nat,i<n→aX p (p.lba+i)=true:=by intro i hi;unfold aX aL;simp;omega
   have ih:=qD hf l (aL p) z;have hsplit:(z-p.lba).toNat=n+(z-aL p).toNat:=by unfold aL at *;omega
   have hfl:((List.range (z-p.lba).toNat).flatMap fun i=>blockB zs m (p.lba+(i:Nat))) =
    ((List.range n).flatMap fun i=>blockB zs m (p.lba+(i:Nat)))++(List.range (z-aL p).toNat).flatMap fun i=>blockB zs m (aL p+(i:Nat)):=by
    rw [hsplit,pY];congr 1
    refine nH fun i _=>?_
    congr 1
    unfold aL;omega
   have hrest:=fun out=>ih out ht fun q hq=>hp q (zii _ hq)
   rw [hfl];unfold gP;have e16:(16*p.n).toNat=16*n:=by omega
   have hzero:(∀ i:Nat,i<n→blockB zs m (p.lba+i)=bZ 16)→((List.range n).flatMap fun i=>blockB zs m (p.lba+(i:Nat)))=bZ (16*n):=by
    intro h;rw [zb0];exact nH fun i hi=>h i (zjO.1 hi)
   rcases hp p (zih ..) with ⟨⟨_,g,_⟩,hs⟩ | ⟨hmay,hs⟩
   · rw [zij (by omega),hrest,e16,hzero (fun i hi=>by unfold blockB;rw [hs _ (hin i hi)]),ziq]
   · by_cases hneg:p.zone<0
     · rw [zij hneg,hrest,e16,hzero (fun i hi=>by unfold blockB;rw [hs _ (hin i hi)];exact zij hneg),ziq]
     · have hlast:=hf (p.lba+(n-1:Nat)) _ (hs _ (hin (n-1) (by omega)))
       have hz1:¬p.zone = -1:=by omega
       simp only [seeE,hz1,zjG] at hlast;obtain ⟨h1,h2,h3⟩:=hlast.resolve_left hneg;have h0:0≤p.off:=hmay.2.2.2.2.1;rw [zig hneg,zig (by omega),hrest,e16,zcK,ziq]
       congr 3
       refine nH fun i hi=>?_
       have hi':=zjO.1 hi;unfold blockB;rw [hs _ (hin i hi')];simp only [seeE,hz1,zjG,hneg];congr 2
       omega
theorem iM {zs:List Zn} {m:List Ex} {lba n:Int} (hm:aC 0 m) (hb:aJ lba n) (hn:n≤4096) (hf:rB zs m) :
 cC zs m lba n=((List.range n.toNat).flatMap fun i=>blockB zs m (lba+(i:Nat)),0):=by
 obtain ⟨h1,h2,h3⟩:=dH hm hb;obtain ⟨g1,_,_⟩:=fI hm hb;unfold cC;have hc:dZ m=0:=by unfold dZ;rw [zij hm]
 rw [zig (by rw [hc];simp [hb]),zig (by omega)]
 have:=qD hf (lookE m lba n) lba (lba+n) [] (gJ _ _ _ h1 h2) fun p hp=>(g1 p hp).2.2.2
 rw [this,List.nil_append];congr 3
 omega
def cO (M:Int) (zs:List Zn):Zd:=⟨M,zs.length,zs.length,zs⟩
def OkA (M:Int) (zs:List Zn):Prop:=(1≤M∧M≤65536)∧(1≤zs.length∧zs.length≤64)∧∀ z∈zs,okZ z M
theorem zcV (S:List Int) (zs:List Zn):cntZ S zs≤zs.length:=by unfold cntZ;exact zj3 ..
theorem zc0 {S:List Int} {zs:List Zn} {i:Nat} {z:Zn} (hz:zs[i]?=some z) (hs:¬z.st∈S):cntZ S zs<zs.length:=by
 unfold cntZ;rw [List.length_filter_lt_length_iff_exists];exact ⟨z,zix hz,by simpa using hs⟩
theorem OkA.ok {M:Int} {zs:List Zn} (h:OkA M zs):okD (cO M zs):=by
 obtain ⟨h1,h2,h3⟩:=h;have a:=zcV lM zs;have b:=zcV cP zs;exact ⟨⟨h2.1,h2.2,h1.1,h1.2,by show (1:Int)≤(zs.length:Int);omega,zj7 _,zj7 _⟩,by show (cntZ lM zs:Int)≤(zs.length:Int);omega,by show (cntZ cP zs:Int)≤(zs.length:Int);omega,h3⟩
theorem OkA.set {M:Int} {zs:List Zn} {i:Nat} {z:Zn} (h:OkA M zs) (hz:okZ z M):OkA M (zs.set i z):=
 ⟨h.1,by rw [zjs];exact h.2.1,fun x hx=>(List.mem_or_eq_of_mem_set hx).elim (fun hx=>h.2.2 x hx) (fun e=>e ▸ hz)⟩
theorem jJ {M:Int} {zs:List Zn} {i:Nat} {z:Zn} (hz:zs[i]?=some z):(cO M zs).z.getD i z0=z:=by
 unfold cO;simp only [ziF,hz,Option.getD_some]
theorem zc7 {M:Int} {zs:List Zn} {i:Nat} {z:Zn} (hz:zs[i]?=some z):roomK (cO M zs) i=(0,zs):=by
 unfold roomK;rw [jJ hz];by_cases h1:z.st∈lM
 · rw [zij h1];rfl
 · rw [zig h1]
   have h2:=zc0 hz h1;have h3:¬(¬z.st∈cP∧(cO M zs).act≤(cntZ cP (cO M zs).z:Int)):=by
    rintro ⟨h3,h4⟩;have h5:=zc0 hz h3;have h6:(zs.length:Int)≤(cntZ cP zs:Int):=h4;omega
   have h6:(cntZ lM (cO M zs).z:Int)<(cO M zs).opn:=by show (cntZ lM zs:Int)<(zs.length:Int);omega
   rw [zig h3,zij h6];rfl
theorem vC {M:Int} {zs:List Zn} {i:Nat} {z:Zn} {c:Cm} (hz:zs[i]?=some z) :
 cU (cO M zs) i c=if dO z M c.data=0 then (0,zs.set i (iB z M c.data),⟨0,z.d.length,[]⟩) else (dO z M c.data,zs,dn0):=by
 unfold cU;rw [jJ hz,zc7 hz];show (let r:=zdN z M c.data;if r.2.2≠0 then (r.2.2,zs,dn0) else if (0:Int)≠0 then _ else (0,zs.set i r.1,⟨0,r.2.1,[]⟩))=_;unfold zdN;by_cases h:dO z M c.data=0
 · rw [zij h,zij h];simp
 · rw [zig h,zig h];simp only [ne_eq,h,not_false_eq_true,zkh]
theorem jF {M:Int} {zs:List Zn} {i:Nat} {z:Zn} {c:Cm} (h:OkA M zs) (hz:zs[i]?=some z) (ho:1≤c.op∧c.op≤8) (hc:c.zone=i) (he:c.op=7∨c.epoch=z.fe) :
 doZ (cO M zs) c=(let r:=doK (cO M zs) i c;if r.1≠0 then (cO M zs,⟨r.1,0,[]⟩) else if c.op=8∧c.n=0 then (cO M zs,dn0) else (⟨M,zs.length,zs.length,r.2.1⟩,r.2.2)):=by
 have hi:i<zs.length:=(zil.1 hz).1;unfold doZ;rw [zig (by
  simp only [not_or,ziT];refine ⟨ho,h.ok,by omega,?_⟩
  show c.zone<(zs.length:Int);omega),hc,Int.toNat_natCast,jJ hz,zig (by rintro ⟨h1,h2⟩;rcases he with he | he <;> contradiction)]
 rfl
theorem yK {M:Int} {zs:List Zn} {i:Nat} {z:Zn} {x:List UInt8} (h:OkA M zs) (hz:zs[i]?=some z) :
 doZ (cO M zs) ⟨1,i,z.fe,0,0,x⟩=if dO z M x=0 then (cO M (zs.set i (iB z M x)),⟨0,z.d.length,[]⟩) else (cO M zs,⟨dO z M x,0,[]⟩):=by
 rw [jF h hz (by simp) rfl (.inr rfl)]
 have hk:doK (cO M zs) i ⟨1,i,z.fe,0,0,x⟩=cU (cO M zs) i ⟨1,i,z.fe,0,0,x⟩:=by unfold doK;rw [zij rfl]
 rw [hk,vC hz];by_cases hr:dO z M x=0
 · simp only [hr,zkh]
   simp [cO]
 · simp only [hr,zjG]
   simp [hr]
theorem zbm {M e:Int} {zs:List Zn} {i:Nat} {z:Zn} (h:OkA M zs) (hz:zs[i]?=some z) (he:z.fe<e) :
 doZ (cO M zs) ⟨7,i,e,0,0,[]⟩=(cO M (zs.set i ⟨z.st,e,z.d⟩),dn0):=by
 rw [jF h hz (by simp) rfl (.inl rfl)]
 have hk:doK (cO M zs) i ⟨7,i,e,0,0,[]⟩=pI (cO M zs) i ⟨7,i,e,0,0,[]⟩:=by unfold doK;simp
 rw [hk];have hf:pI (cO M zs) i ⟨7,i,e,0,0,[]⟩=(0,zs.set i ⟨z.st,e,z.d⟩,dn0):=by
  unfold pI;rw [jJ hz];have h1:¬(e≤z.fe):=by omega
  simp only [h1,zjG];rfl
 rw [hf];simp [cO]
theorem yV {M:Int} {zs:List Zn} {i:Nat} {z:Zn} (h:OkA M zs) (hz:zs[i]?=some z) :
 doZ (cO M zs) ⟨4,i,z.fe,0,0,[]⟩=(cO M (zs.set i (zdO z)),dn0):=by
 rw [jF h hz (by simp) rfl (.inr rfl)]
 have hk:doK (cO M zs) i ⟨4,i,z.fe,0,0,[]⟩=(0,zs.set i (zdO z),dn0):=by unfold doK;rw [jJ hz];simp [cO]
 rw [hk];simp [cO]
theorem zhu {z:Zn} {M:Int} (h:okZ z M):okZ (zdO z) M:=by
 obtain ⟨h1,h2,h3,h4⟩:=h;exact ⟨h1,h2,h3,.inr (.inr (.inr ⟨rfl,by show (z.d.length:Int)≤M;omega⟩))⟩
theorem zeE:scanL []=f0d:=by
 have h:zgz [] f0d=none:=by
  unfold zgz;have:(yN []).2.2=false:=yX (by simp)
  show (if (yN []).2.2=false then none else _)=none;rw [zij this]
 unfold scanL;show zea [] 1 f0d=f0d;unfold zea;rw [h]
def yT (r:Rc) (b:Int):Prop:=r.lba≤b∧b<r.lba+r.n
def zY (r:Rc) (b:Int):List UInt8:=if r.kind=2 then bZ 16 else (r.data.drop (16*(b-r.lba)).toNat).take 16
theorem zgo (x:Rc × Int × Int) (b:Int):aX (eF x) b=true↔yT x.1 b:=by
 unfold aX aL eF fR yT;simp
theorem zgn {w:World} {base g n c:Nat} {e:TypeId} {xs:List Value} (h:w.ownsRow base e 1 (.slice (some ⟨g,0,none⟩) n c) n xs) :
 base≤g∧g<w.heap.size∧(∀ o,w.frozen? ⟨g,o,none⟩=false)∧∀ (i:Nat) u,xs[i]?=some u→w.cell? ⟨g,i,none⟩=some u:=by
 obtain ⟨hl,h2⟩:=h;rcases h2 with ⟨h3,_⟩ | ⟨g',cap,cur,hv,hb,hg,hnc,hcm,hcs,ht⟩
 · cases h3
 · cases hv
   have hB:Blk w g e cur:=hg;refine ⟨hb,hB.lt,hB.frozen,fun i u hu=>?_⟩
   rw [hB.cell i];rw [←ht,zjd] at hu;split at hu
   · simpa using hu
   · cases hu
theorem zeI (by_:UInt8) (j m:Nat):(aE (List.replicate j by_++List.replicate (m+1) 0)).set j (.int .u8 (by_.toNat:Int))=aE (List.replicate (j+1) by_++List.replicate m 0):=by
 unfold aE;rw [ziZ,ziZ,zjY,zjY,zjY,zjY,zkd (h:=by simp),ziC,Nat.sub_self,List.replicate_succ,List.set_cons_zero,List.replicate_succ' (n:=j),ziq]
 rfl
def zi3 (w:World) (K:Nat→Prop) (v:Value) (d:Zd):Prop:=∃ A c,v=.agg #[.int .i64 d.cap,.int .i64 d.opn,.int .i64 d.act,.slice A d.z.length c]∧IsL Rp.zone w K (.slice A d.z.length c) d.z
theorem zbH (zones most opn act:Int) (w:World) :
 Calls Tryz.prog 17 #[.int .i64 zones,.int .i64 most,.int .i64 opn,.int .i64 act] w fun e w'=>∃ v,e=.returned (.tuple #[v,.int .i64 (zgm zones most opn act).2])∧zi3 w' (fun b=>w.heap.size≤b) v (zgm zones most opn act).1∧Below w.heap.size w w':=by
 obtain ⟨res,hres⟩:∃ res,zgm zones most opn act=res:=⟨_,rfl⟩;rw [hres];have HRES:=zia hres;clear hres;obtain ⟨i0,hi,hz0,hz1,hz2⟩:=ziH Tryz.infZ;have hb0:Below w.heap.size w (w.alloc (.cells #[.int .i64 0,.int .i64 0,.int .i64 0,.slice none 0 0] 26)):=zBA;by_cases hz:zones<1∨64<zones
 · have hr:res=(⟨0,0,0,[]⟩,1):=by rw [←HRES.out];exact zij hz
   subst hr;clear HRES;have hb:(zones<1)∨(¬zones<1∧64<zones):=by omega
   clear hz;rcases hb with h | ⟨h,h'⟩
   all_goals
    go_enter Tryz.func17,Tryz.ntmps17
    go_wp2;refine zik (v:=.tuple #[.agg #[.int .i64 0,.int .i64 0,.int .i64 0,.slice none 0 0],.int .i64 1]) (by simp [results,Tryz.results17,go_sem]) rfl ⟨_,rfl,⟨none,0,rfl,IsL.nil_ _ _⟩,hb0⟩
 · have h1:¬zones<1:=fun h=>hz (.inl h)
   have h2:¬64<zones:=fun h=>hz (.inr h)
   obtain ⟨n,rfl⟩:∃ n:Nat,zones=n:=⟨zones.toNat,by omega⟩
   obtain ⟨d,hd⟩:∃ d:Zd,d=⟨most,opn,act,List.replicate n z0⟩:=⟨_,rfl⟩;have hr:res=if oH d=0 then (d,0) else (⟨0,0,0,[]⟩,1):=by
    rw [←HRES.out,hd];unfold zgm;rw [zig hz,Int.toNat_natCast]
   have hlen:n=d.z.length:=by rw [hd,ziC]
   have HR:=zia hr;have HD:=zia hd;clear hr HRES hd;have hm1:most=d.cap:=by rw [HD.out]
   have hm2:opn=d.opn:=by rw [HD.out]
   have hm3:act=d.act:=by rw [HD.out]
   subst hm1 hm2 hm3;have hn64:n≤64:=by omega
   subst hlen;go_enter Tryz.func17,Tryz.ntmps17
   go_wp2_with (at_make;refine wpList_make_full _ rfl _ _ 24 rfl (w.heap.size+1) 134 i0 _ 3 Tryz.underlying24 hi hz0 hz1 _ _ _ _ d.z.length rfl rfl (by omega) (by omega) (by rw [hz2];omega) (by unfold maxLen;omega) (by rw [zid];omega) ?_;intro w1 how hg1)
   have hbn:Below (w.heap.size+1) (w.alloc (.cells #[.int .i64 0,.int .i64 0,.int .i64 0,.slice none 0 0] 26)) w1:=⟨hg1.os,hg1.tape,hg1.output,hg1.size,fun k hk=>hg1.block k (by rw [zid];omega) (by simp)⟩
   have hb1:Below w.heap.size w w1:=hb0.trans (hbn.mono (by omega))
   have hB1:=(Blk.new w 26 #[.int .i64 0,.int .i64 0,.int .i64 0,.slice none 0 0] rfl).step (by rw [zid];exact hbn)
   have hL1:IsL Rp.zone w1 (fun b=>w.heap.size+1≤b) (.slice (some ⟨w.heap.size+1,0,none⟩) d.z.length d.z.length) d.z:=by
    have e1:(madeCells (Value.agg #[.int .i64 0,.int .i64 0,.slice none 0 0]).cells (d.z.length*3)).toList=(List.replicate d.z.length [.int .i64 0,.int .i64 0,.slice none 0 0]).flatten:=zdM #[.int .i64 0,.int .i64 0,.slice none 0 0] d.z.length;rw [zid,e1] at how;have hz:d.z=List.replicate d.z.length z0:=zjj Zd.z HD.out;have hc:=zeR w1 (fun b=>w.heap.size+1≤b) d.z.length
    rw [←hz] at hc;exact ⟨_,_,_,rfl,aG.of_own_ge how,hc,zic _,by omega,by omega⟩
   refine (jG d _ _ _ (hL1.alloc _)).mono ?_;rintro e w2 ⟨rfl,hb2⟩;have E:=(((Kn.from_ hb1 hb1.size).know hB1).give aB.list hL1).push 26 #[.int .i64 d.cap,.int .i64 d.opn,.int .i64 d.act,.slice (some ⟨w.heap.size+1,0,none⟩) d.z.length d.z.length] |>.step hb2
   clear hL1 hB1 hb1 hbn hg1 how hb2;obtain ⟨q0,f0,t0⟩:=E.rules m0;obtain ⟨q1,f1,t1⟩:=E.rules m1;by_cases hk:oH d=0
   · rw [hk]
     have hr:=HR.out;rw [zij hk] at hr;subst hr;clear hk HR HD;go_wp2;have hA:=((((E.at_ m1).set_ 0 (.int .i64 d.cap)).set_ 1 (.int .i64 d.opn)).set_ 2 (.int .i64 d.act)).set_ 3 (.slice (some ⟨w.heap.size+1,0,none⟩) d.z.length d.z.length);have ht:=((((aA.refl w2 (fun b=>b=w.heap.size)).set (g:=w.heap.size) rfl 0 (.int .i64 d.cap)).set (g:=w.heap.size) rfl 1 (.int .i64 d.opn)).set (g:=w.heap.size) rfl 2 (.int .i64 d.act)).set (g:=w.heap.size) rfl 3 (.slice (some ⟨w.heap.size+1,0,none⟩) d.z.length d.z.length)
     generalize (((w2.setCell ⟨w.heap.size,0,none⟩ (.int .i64 d.cap)).setCell ⟨w.heap.size,1,none⟩ (.int .i64 d.opn)).setCell ⟨w.heap.size,2,none⟩ (.int .i64 d.act)).setCell ⟨w.heap.size,3,none⟩ (.slice (some ⟨w.heap.size+1,0,none⟩) d.z.length d.z.length)=w9 at hA ht ⊢;obtain ⟨q9,f9⟩:=hA.rules;refine zik (v:=.tuple #[.agg #[.int .i64 d.cap,.int .i64 d.opn,.int .i64 d.act,.slice (some ⟨w.heap.size+1,0,none⟩) d.z.length d.z.length],.int .i64 0]) (by simp [results,Tryz.results17,go_sem,q9]) rfl ⟨_,rfl,⟨_,_,rfl,?_⟩,?_⟩
     · exact ((E.get m0).turned ht (fun b hb=>by omega)).more fun b hb=>by omega
     · exact E.below.trans (ht.below (fun b hb=>by omega) E.below.size)
   · have hk1:oH d=1:=by
      unfold oH at hk ⊢;split
      · rename_i h;rw [zij h] at hk;exact absurd rfl hk
      · rfl
     rw [hk1];have hr:=HR.out;rw [zig hk] at hr;subst hr;clear hk hk1 HR HD;go_wp2;have hA:=((((E.at_ m1).set_ 0 (.int .i64 0)).set_ 1 (.int .i64 0)).set_ 2 (.int .i64 0)).set_ 3 (.slice none 0 0);have ht:=((((aA.refl w2 (fun b=>b=w.heap.size)).set (g:=w.heap.size) rfl 0 (.int .i64 0)).set (g:=w.heap.size) rfl 1 (.int .i64 0)).set (g:=w.heap.size) rfl 2 (.int .i64 0)).set (g:=w.heap.size) rfl 3 (.slice none 0 0)
     generalize (((w2.setCell ⟨w.heap.size,0,none⟩ (.int .i64 0)).setCell ⟨w.heap.size,1,none⟩ (.int .i64 0)).setCell ⟨w.heap.size,2,none⟩ (.int .i64 0)).setCell ⟨w.heap.size,3,none⟩ (.slice none 0 0)=w9 at hA ht ⊢;obtain ⟨q9,f9⟩:=hA.rules;refine zik (v:=.tuple #[.agg #[.int .i64 0,.int .i64 0,.int .i64 0,.slice none 0 0],.int .i64 1]) (by simp [results,Tryz.results17,go_sem,q9]) rfl ⟨_,rfl,⟨none,0,rfl,IsL.nil_ _ _⟩,?_⟩
     exact E.below.trans (ht.below (fun b hb=>by omega) E.below.size)
