/- A part of the proof. -/
import Derived.Test.YtcapmeefiglfjaaGreatLib
namespace Go.Proofs.YtcapmeefiglfjaaGreat
structure Ex where
 lba:Int
 n:Int
 ver:Int
 zone:Int
 off:Int
deriving DecidableEq
def aL (e:Ex):Int:=e.lba+e.n
def aJ (lba n:Int):Prop:=0≤lba∧0<n∧n≤1099511627776∧lba≤1099511627776-n
instance (lba n:Int):Decidable (aJ lba n):=inferInstanceAs (Decidable (_∧_))
def bO (e:Ex):Prop:=aJ e.lba e.n∧0≤e.ver∧-1≤e.zone∧e.zone≤1099511627776∧0≤e.off∧(e.zone = -1→e.off=0)∧(e.zone≠-1→e.off≤1125899906842624-16*e.n)
instance (e:Ex):Decidable (bO e):=inferInstanceAs (Decidable (_∧_))
def aC:Int→List Ex→Prop
 | _,[]=>True
 | b,e::l=>bO e∧b≤e.lba∧aC (aL e) l
def zap:(b:Int)→(l:List Ex)→Decidable (aC b l)
 | _,[]=>isTrue trivial
 | c,e::l=>@instDecidableAnd (bO e) (c≤e.lba∧aC (aL e) l) _ (@instDecidableAnd _ _ _ (zap (aL e) l))
instance (b:Int) (l:List Ex):Decidable (aC b l):=zap b l
def dZ (l:List Ex):Int:=if aC 0 l then 0 else 1
def fromE (e:Ex) (k:Int):Ex:=if 0<k-e.lba then ⟨k,e.n-(k-e.lba),e.ver,e.zone,if e.zone≠-1 then e.off+(k-e.lba)*16 else e.off⟩ else e
def uptoE (e:Ex) (k:Int):Ex:=⟨e.lba,min e.n (k-e.lba),e.ver,e.zone,e.off⟩
def firstE (l:List Ex) (lba:Int):Nat:=l.findIdx (fun e=>decide (lba<aL e))
def midE (l:List Ex) (lba n:Int):List Ex:=(l.drop (firstE l lba)).takeWhile (fun e=>decide (e.lba<lba+n))
def partE (l:List Ex) (lba n:Int):List Ex:=(midE l lba n).map fun e=>uptoE (fromE e lba) (lba+n)
def aX (e:Ex) (b:Int):Bool:=decide (e.lba≤b∧b<aL e)
def seeE (e:Ex) (b:Int):Int × Int × Int:=(e.ver,e.zone,if e.zone = -1 then 0 else e.off+(b-e.lba)*16)
def see (l:List Ex) (b:Int):Option (Int × Int × Int):=(l.find? (aX · b)).map (seeE · b)
theorem bO.pos {e:Ex} (h:bO e):0<e.n∧0≤e.lba:=⟨h.1.2.1,h.1.1⟩
theorem gN (b:Int):see [] b=none:=rfl
theorem bN (e:Ex) (l:List Ex) (b:Int):see (e::l) b=if aX e b=true then some (seeE e b) else see l b:=by
 unfold see;rw [List.find?_cons];cases aX e b <;> simp
theorem cM (l m:List Ex) (b:Int):see (l++m) b=(see l b).or (see m b):=by
 unfold see;rw [zk2];cases l.find? (aX · b) <;> simp
theorem rO (e:Ex) (k b:Int):aX (fromE e k) b=(aX e b && decide (e.lba<k→k≤b))∧(aX (fromE e k) b=true→seeE (fromE e k) b=seeE e b):=by
 unfold fromE;split
 · rename_i h
   constructor
   · unfold aX aL
     rw [zjB];simp;omega
   · intro _
     unfold seeE;simp only [zj4,zkn];split
     · rfl
     · omega
 · rename_i h
   exact ⟨by rw [zjB];simp only [zjC,ziM];constructor <;> intro h1 <;> first | exact ⟨h1,fun _=>by omega⟩ | exact h1.1,fun _=>rfl⟩
theorem lK (e:Ex) (k b:Int):aX (uptoE e k) b=(aX e b && decide (b<k))∧(seeE (uptoE e k) b=seeE e b):=by
 constructor
 · unfold aX uptoE aL
   rw [zjB];simp;omega
 · rfl
theorem dS {b c:Int} {l:List Ex} (h:aC b l) (hc:c≤b):aC c l:=by
 cases l with
 | nil=>trivial
 | cons e l=>exact ⟨h.1,by have:=h.2.1;omega,h.2.2⟩
theorem aM {b:Int} {l:List Ex} (h:aC b l):∀ e∈l,bO e∧b≤e.lba:=by
 induction l generalizing b with
 | nil=>simp
 | cons x l ih=>
   intro e he;rcases zim.1 he with rfl | he
   · exact ⟨h.1,h.2.1⟩
   · have:=ih h.2.2 e he
     have h1:=h.1.pos;have h2:=h.2.1;unfold aL at this;exact ⟨this.1,by omega⟩
theorem jN {c b:Int} {l:List Ex} (h:aC c l) (hb:b<c):see l b=none:=by
 unfold see;rw [zje.2]
 · rfl
 · intro e he
   have:=aM h e he;unfold aX;simp;intro h1;omega
def lastE:Int→List Ex→Int
 | c,[]=>c
 | _,e::l=>lastE (aL e) l
theorem aQ {c:Int} {l m:List Ex}:aC c (l++m)↔aC c l∧aC (lastE c l) m:=by
 induction l generalizing c with
 | nil=>simp [aC,lastE]
 | cons e l ih=>simp only [List.cons_append,aC,ih,lastE,and_assoc]
theorem dY (c:Int) (l m:List Ex):lastE c (l++m)=lastE (lastE c l) m:=by
 induction l generalizing c with
 | nil=>rfl
 | cons e l ih=>simp only [List.cons_append,lastE,ih]
theorem kT {c:Int} {l:List Ex} (h:aC c l):c≤lastE c l:=by
 induction l generalizing c with
 | nil=>exact zj7 _
 | cons e l ih=>
   have h1:=ih h.2.2;have h2:=h.1.pos;have h3:=h.2.1;unfold aL at h1;simp only [lastE,aL];omega
theorem oO {c:Int} {l:List Ex} (h:aC c l):∀ e∈l,aL e≤lastE c l:=by
 induction l generalizing c with
 | nil=>simp
 | cons x l ih=>
   intro e he;rcases zim.1 he with rfl | he
   · exact kT h.2.2
   · exact ih h.2.2 e he
theorem zb3 {c b:Int} {l:List Ex} (h:aC c l) (hb:lastE c l≤b):see l b=none:=by
 unfold see;rw [zje.2]
 · rfl
 · intro e he
   have:=oO h e he;unfold aX;simp;intro h1;omega
theorem zH {α:Type} (p:α→Bool):∀ l:List α,l.drop (l.takeWhile p).length=l.dropWhile p
 | []=>rfl
 | a::l=>by
   rw [zkl,List.dropWhile_cons];split
   · simpa using zH p l
   · rfl
theorem zaf {α:Type} {p:α→Bool} {x:α}:∀ {l:List α},x∈l.takeWhile p→p x=true∧x∈l
 | [],h=>by cases h
 | a::l,h=>by
   rw [zkl] at h;split at h
   · rename_i ha
     rcases zim.1 h with rfl | h
     · exact ⟨ha,zih ..⟩
     · exact ⟨(zaf h).1,zii _ (zaf h).2⟩
   · cases h
theorem gU (l:List Ex) (lba n:Int):l=l.take (firstE l lba)++midE l lba n++l.drop (firstE l lba+(midE l lba n).length):=by
 have h1:l.drop (firstE l lba)=midE l lba n++l.drop (firstE l lba+(midE l lba n).length):=by
  rw [←zka];unfold midE;generalize l.drop (firstE l lba)=m;rw [zH];exact (List.takeWhile_append_dropWhile ..).symm
 conv=>lhs;rw [←ziP (firstE l lba) l,h1]
 rw [ziq]
theorem jO (l:List Ex) (lba:Int):∀ e∈l.take (firstE l lba),aL e≤lba:=by
 intro e he;obtain ⟨j,hj,rfl⟩:=zkm he;rw [zio] at hj;have:=zkp (p:=fun e:Ex=>decide (lba<aL e)) (xs:=l) (i:=j) (by unfold firstE at hj;omega)
 rw [List.getElem_take];simpa using this
theorem gF {c:Int} {l:List Ex} (h:aC c l) (lba n:Int):∀ e∈midE l lba n,lba<aL e∧e.lba<lba+n:=by
 intro e he;have h2:=(zaf he).1;refine ⟨?_,by simpa using h2⟩
 have hm:e∈l.drop (firstE l lba):=(zaf he).2;have hch:aC (lastE c (l.take (firstE l lba))) (l.drop (firstE l lba)):=by
  have:=h;rw [←ziP (firstE l lba) l,aQ] at this;exact this.2
 clear he h2;cases hd:l.drop (firstE l lba) with
 | nil=>rw [hd] at hm;cases hm
 | cons x r=>
   rw [hd] at hm hch;have hlt:firstE l lba<l.length:=by
    rcases zjb (firstE l lba) l.length with h | h
    · exact h
    · rw [zjz h] at hd;cases hd
   have hx:x=l[firstE l lba]:=by
    have:=zjk hlt;rw [hd] at this;injection this
   have hxe:lba<aL x:=by
    have:=zjc (p:=fun e:Ex=>decide (lba<aL e)) (xs:=l) (w:=hlt)
    rw [hx];exact zjJ this
   rcases zim.1 hm with rfl | hm
   · exact hxe
   · have h3:=aM hch.2.2 e hm
     have:=h3.1.pos;unfold aL at *;omega
theorem gX {c:Int} {l:List Ex} (h:aC c l) (lba n:Int):aC (lba+n) (l.drop (firstE l lba+(midE l lba n).length)):=by
 have e1:l.drop (firstE l lba+(midE l lba n).length)=(l.drop (firstE l lba)).dropWhile (fun e=>decide (e.lba<lba+n)):=by
  rw [←zka];unfold midE;exact zH ..
 have hch:aC (lastE c (l.take (firstE l lba))) (l.drop (firstE l lba)):=by
  have:=h;rw [←ziP (firstE l lba) l,aQ] at this;exact this.2
 rw [e1];generalize l.drop (firstE l lba)=m at hch;generalize lastE c (l.take (firstE l lba))=d at hch;clear e1 h;induction m generalizing d with
 | nil=>trivial
 | cons x r ih=>
   rw [List.dropWhile_cons];split
   · exact ih _ hch.2.2
   · rename_i hx
     simp only [ziM,Int.not_lt] at hx;exact ⟨hch.1,hx,hch.2.2⟩
def leftE (B:List Ex) (lba:Int):List Ex:=match B with
 | e::_=>if e.lba<lba then [uptoE e lba] else []
 | []=>[]
def rightE (B:List Ex) (k:Int):List Ex:=match B.getLast? with
 | some e=>if k<aL e then [fromE e k] else []
 | none=>[]
def replE (l:List Ex) (lba n:Int) (ws:List Ex):List Ex:=
 l.take (firstE l lba)++(leftE (midE l lba n) lba++ws++rightE (midE l lba n) (lba+n))++l.drop (firstE l lba+(midE l lba n).length)
theorem zeD {c lba b:Int} {B:List Ex} (h:aC c B) (hB:∀ e∈B,lba<aL e) (hb:b<lba):see (leftE B lba) b=see B b:=by
 cases B with
 | nil=>rfl
 | cons e r=>
   have he:=hB e (zih ..);rw [bN e r,jN h.2.2 (by omega)]
   unfold leftE;simp only;split
   · rw [bN,gN,(lK e lba b).1,(lK e lba b).2]
     simp [hb]
   · rename_i h1
     have:aX e b=false:=by unfold aX;simp;intro h2;omega
     rw [this,gN];simp
theorem zdH {c k b:Int} {B:List Ex} (h:aC c B) (hB:∀ e∈B,e.lba<k) (hb:k≤b):see (rightE B k) b=see B b:=by
 rcases List.eq_nil_or_concat B with rfl | ⟨r,e,rfl⟩
 · rfl
 · rw [List.concat_eq_append] at *
   obtain ⟨h1,h2⟩:=aQ.1 h;have he:=hB e (by simp)
   rw [cM,zb3 h1 (by have:=h2.2.1;omega)]
   unfold rightE;rw [List.getLast?_append];simp only [List.getLast?_singleton,Option.some_or,Option.none_or];have hfr:=rO e k b;rw [bN e [],gN];split
   · rw [bN,gN,hfr.1]
     by_cases hh:aX e b=true
     · have hx:aX (fromE e k) b=true:=by rw [hfr.1,hh];simp;omega
       rw [hfr.2 hx,hh];simp;omega
     · simp only [Bool.not_eq_true] at hh
       rw [hh];simp
   · rename_i hk
     have:aX e b=false:=by unfold aX;simp;intro h2;omega
     rw [this,gN];simp
theorem zB {lba b:Int} {B:List Ex} (hb:lba≤b):see (leftE B lba) b=none:=by
 unfold leftE;cases B with
 | nil=>rfl
 | cons e r=>
   simp only;split
   · rw [bN,gN,(lK e lba b).1]
     simp;intro _;omega
   · rfl
theorem mT {k b:Int} {B:List Ex} (hB:∀ e∈B,e.lba<k) (hb:b<k):see (rightE B k) b=none:=by
 unfold rightE;split
 · rename_i e he
   have:=hB e (List.mem_of_getLast? he);split
   · rw [bN,gN,(rO e k b).1]
     simp;omega
   · rfl
 · rfl
theorem zem {l ws:List Ex} {lba n b:Int} (h:aC 0 l) (hn:0<n) (hw:∀ e∈ws,lba≤e.lba∧aL e≤lba+n):see (replE l lba n ws) b=if lba≤b∧b<lba+n then see ws b else see l b:=by
 have hs:=gU l lba n;have hA:=jO l lba;have hB:=gF h lba n;have hC:=gX h lba n;have hch:=h;rw [hs,aQ,aQ] at hch;obtain ⟨⟨c1,c2⟩,_⟩:=hch;have hwn:¬(lba≤b∧b<lba+n)→see ws b=none:=by
  intro hb;unfold see;rw [zje.2]
  · rfl
  · intro e he
    have:=hw e he;unfold aX;simp;intro h1;omega
 have hl:see l b=((see (l.take (firstE l lba)) b).or (see (midE l lba n) b)).or (see (l.drop (firstE l lba+(midE l lba n).length)) b):=by
  conv=>lhs;rw [hs]
  rw [cM,cM]
 unfold replE;rw [cM,cM,cM,cM,hl];generalize l.take (firstE l lba)=A at *;generalize midE l lba n=B at *;generalize l.drop (firstE l lba+B.length)=C at *;by_cases h1:b<lba
 · rw [zeD c2 (fun e he=>(hB e he).1) h1,hwn (by omega),mT (fun e he=>(hB e he).2) (by omega),zig (by omega)]
   simp
 · have hAn:see A b=none:=by
    unfold see;rw [zje.2]
    · rfl
    · intro e he
      have:=hA e he;unfold aX;simp;intro h2;omega
   rw [hAn,zB (by omega)]
   by_cases h2:b<lba+n
   · rw [zij ⟨by omega,h2⟩,mT (fun e he=>(hB e he).2) h2,jN hC h2]
     simp
   · rw [zig (by omega),hwn (by omega),zdH c2 (fun e he=>(hB e he).2) (by omega)]
     simp
theorem zar {e:Ex} {k:Int} (h:bO e) (h1:e.lba<k):bO (uptoE e k):=by
 obtain ⟨⟨a,b,c,d⟩,e1,e2,e3,e4,e5,e6⟩:=h;unfold uptoE;refine ⟨⟨a,by simp only;omega,by simp only;omega,by simp only;omega⟩,e1,e2,e3,e4,e5,fun hz=>?_⟩
 have:=e6 hz;simp only;omega
theorem rW {e:Ex} {k:Int} (h:bO e) (h1:k<aL e):bO (fromE e k):=by
 have h0:=h;obtain ⟨⟨a,b,c,d⟩,e1,e2,e3,e4,e5,e6⟩:=h;unfold fromE aL at *;split
 · refine ⟨⟨by simp only;omega,by simp only;omega,by simp only;omega,by simp only;omega⟩,e1,e2,e3,?_,?_,?_⟩
   · simp only;split <;> omega
   · intro hz;simp only at hz ⊢;rw [zig (by omega)];exact e5 hz
   · intro hz;simp only at hz ⊢;rw [zij hz];have:=e6 hz;omega
 · exact h0
theorem ze2 {e:Ex} {k:Int} (h:k≤aL e):aL (uptoE e k)=k:=by unfold aL uptoE at *;simp only;omega
theorem sU {e:Ex} {k:Int}:aL (fromE e k)=aL e∧(e.lba≤k→(fromE e k).lba=k):=by
 unfold fromE aL;split
 · exact ⟨by simp only;omega,fun _=>rfl⟩
 · exact ⟨rfl,fun h=>by omega⟩
theorem nE {c k:Int} {l:List Ex} (hc:c≤k) (h:∀ e∈l,aL e≤k):lastE c l≤k:=by
 induction l generalizing c with
 | nil=>exact hc
 | cons e l ih=>exact ih (h e (zih ..)) fun x hx=>h x (zii _ hx)
theorem zaD {c lba:Int} {B:List Ex} (h:aC c B) (hc:c≤lba) (hB:∀ e∈B,lba<aL e):aC c (leftE B lba)∧lastE c (leftE B lba)≤lba:=by
 cases B with
 | nil=>exact ⟨trivial,hc⟩
 | cons e r=>
   unfold leftE;simp only;split
   · rename_i h1
     have:=hB e (zih ..);exact ⟨⟨zar h.1 h1,h.2.1,trivial⟩,by show aL (uptoE e lba)≤lba;rw [ze2 (by omega)];exact zj7 _⟩
   · exact ⟨trivial,hc⟩
theorem zG {c d k:Int} {B C:List Ex} (h:aC c B) (hB:∀ e∈B,e.lba<k) (hC:aC k C) (hBC:aC (lastE c B) C) (hd:d≤k):aC d (rightE B k++C):=by
 rcases List.eq_nil_or_concat B with rfl | ⟨r,e,rfl⟩
 · exact dS hC hd
 · rw [List.concat_eq_append] at *
   unfold rightE;rw [List.getLast?_append];simp only [List.getLast?_singleton,Option.some_or];split
   · rename_i hk
     have he:=hB e (by simp)
     have hm:=(aQ.1 h).2.1;refine ⟨rW hm hk,by rw [sU.2 (by omega)];exact hd,?_⟩
     rw [sU.1];rw [dY] at hBC;exact hBC
   · exact dS hC hd
theorem qX {l ws:List Ex} {lba n:Int} (h:aC 0 l) (h0:0≤lba) (hw:aC lba ws) (hwe:lastE lba ws≤lba+n):aC 0 (replE l lba n ws):=by
 have hs:=gU l lba n;have hA:=jO l lba;have hB:=gF h lba n;have hC:=gX h lba n;have hch:=h;rw [hs,aQ,aQ,dY] at hch;obtain ⟨⟨c1,c2⟩,c3⟩:=hch;unfold replE;generalize l.take (firstE l lba)=A at *;generalize midE l lba n=B at *;generalize l.drop (firstE l lba+B.length)=C at *;have hAl:lastE 0 A≤lba:=nE h0 hA;obtain ⟨l1,l2⟩:=zaD c2 hAl (fun e he=>(hB e he).1)
 rw [ziq,ziq (leftE B lba++ws),ziq (leftE B lba),aQ,aQ,aQ];refine ⟨c1,l1,dS hw l2,zG c2 (fun e he=>(hB e he).2) hC c3 ?_⟩
 refine Int.le_trans ?_ hwe;generalize lastE (lastE 0 A) (leftE B lba)=d at l2;cases ws with
 | nil=>exact l2
 | cons e r=>exact zj7 _
def pO (a b:Ex):Bool:=decide (b.lba=aL a∧fromE ⟨a.lba,a.n+b.n,a.ver,a.zone,a.off⟩ b.lba=b)
def eE (x:Ex):List Ex→List Ex
 | []=>[x]
 | e::l=>if pO x e=true then eE ⟨x.lba,x.n+e.n,x.ver,x.zone,x.off⟩ l else x::eE e l
def joinE:List Ex→List Ex
 | []=>[]
 | x::l=>eE x l
theorem sR {a b:Ex} (ha:0<a.n):pO a b=true↔b.lba=aL a∧b.ver=a.ver∧b.zone=a.zone∧b.off=(if a.zone≠-1 then a.off+a.n*16 else a.off):=by
 unfold pO;rw [ziM];constructor
 · rintro ⟨h1,h2⟩
   unfold fromE at h2;rw [zij (by unfold aL at h1;simp only;omega)] at h2
   rw [←h2];refine ⟨by simp only;exact h1,rfl,rfl,?_⟩
   simp only;unfold aL at h1;split <;> omega
 · rintro ⟨h1,h2,h3,h4⟩
   refine ⟨h1,?_⟩;unfold fromE;unfold aL at h1;rw [zij (by simp only;omega)]
   obtain ⟨bl,bn,bv,bz,bo⟩:=b;simp only at *;subst h2 h3;simp only [Ex.mk.injEq,zkn];refine ⟨by omega,?_⟩
   rw [h4];split <;> omega
theorem zeL {a b:Ex} (ha:bO a) (hb:bO b) (hg:pO a b=true):bO ⟨a.lba,a.n+b.n,a.ver,a.zone,a.off⟩:=by
 obtain ⟨h1,h2,h3,h4⟩:=(sR ha.pos.1).1 hg;obtain ⟨⟨p,q,r,s⟩,e1,e2,e3,e4,e5,e6⟩:=ha;obtain ⟨⟨p',q',r',s'⟩,f1,f2,f3,f4,f5,f6⟩:=hb;unfold aL at h1;refine ⟨⟨p,by simp only;omega,by simp only;omega,by simp only;omega⟩,e1,e2,e3,e4,e5,fun hz=>?_⟩
 simp only at hz ⊢;have:=f6 (by rw [h3];exact hz)
 rw [zij hz] at h4;omega
theorem zbU {a b:Ex} {x:Int} (ha:0<a.n) (hb:0<b.n) (hg:pO a b=true) (l:List Ex):see (⟨a.lba,a.n+b.n,a.ver,a.zone,a.off⟩::l) x=see (a::b::l) x:=by
 obtain ⟨h1,h2,h3,h4⟩:=(sR ha).1 hg;unfold aL at h1;rw [bN,bN,bN];have e1:aX ⟨a.lba,a.n+b.n,a.ver,a.zone,a.off⟩ x=(aX a x || aX b x):=by
  unfold aX aL;rw [zjB];simp;omega
 rw [e1];by_cases ha1:aX a x=true
 · simp [ha1,seeE]
 · simp only [Bool.not_eq_true] at ha1
   simp only [ha1,Bool.false_or,zjX,zjG];split
   · unfold seeE
     simp only [ziL,zj4];refine ⟨h2.symm,h3.symm,?_⟩;rw [h3,h4,h1];split
     · rfl
     · omega
   · rfl
theorem pA {c:Int}:∀ (l:List Ex) (x:Ex),aC c (x::l)→aC c (eE x l)∧(∀ b,see (eE x l) b=see (x::l) b)∧(eE x l).length≤l.length+1
 | [],x,h=>⟨h,fun _=>rfl,by simp [eE]⟩
 | e::l,x,h=>by
   unfold eE;split
   · rename_i hg
     have hg0:=(sR h.1.pos.1).1 hg;obtain ⟨h1,h2,h3⟩:=pA (c:=c) l ⟨x.lba,x.n+e.n,x.ver,x.zone,x.off⟩ ⟨zeL h.1 h.2.2.1 hg,h.2.1,by
      have:aL ⟨x.lba,x.n+e.n,x.ver,x.zone,x.off⟩=aL e:=by unfold aL at *;simp only;omega
      rw [this];exact h.2.2.2.2⟩
     exact ⟨h1,fun b=>by rw [h2 b,zbU h.1.pos.1 h.2.2.1.pos.1 hg],by simp only [List.length_cons];omega⟩
   · obtain ⟨h1,h2,h3⟩:=pA (c:=aL x) l e h.2.2
     exact ⟨⟨h.1,h.2.1,h1⟩,fun b=>by rw [bN,bN x,h2 b],by simp only [List.length_cons];omega⟩
theorem gO {c:Int} {l:List Ex} (h:aC c l):aC c (joinE l)∧(∀ b,see (joinE l) b=see l b)∧(joinE l).length≤l.length:=by
 cases l with
 | nil=>exact ⟨trivial,fun _=>rfl,zic _⟩
 | cons x l=>exact pA l x h
def gK (a b:Int):List Ex:=if a<b then [⟨a,b-a,0,-1,0⟩] else []
def gapsE:Int→List Ex→Int→List Ex
 | a,[],z=>gK a z
 | a,x::l,z=>gK a x.lba++gapsE (aL x) l z
def dG:Int→List Ex→Int→List Ex
 | a,[],z=>gK a z
 | a,x::l,z=>gK a x.lba++x::dG (aL x) l z
def lookE (m:List Ex) (lba n:Int):List Ex:=dG lba (partE m lba n) (lba+n)
theorem kY:∀ (l:List Ex) (a z:Int),(gapsE a l z++l).Perm (dG a l z)
 | [],a,z=>by simp [gapsE,dG]
 | x::l,a,z=>by
   unfold gapsE dG;rw [ziq];exact ((zkz).trans ((kY l (aL x) z).cons x)).append_left _
theorem sG {a b:Int} {p:Ex} (h:p∈gK a b):a<b∧p=⟨a,b-a,0,-1,0⟩:=by
 unfold gK at h;split at h
 · rename_i h1;exact ⟨h1,by simpa using h⟩
 · cases h
theorem fL {c b:Int} {l:List Ex} (h:aC c l) {e:Ex} (he:e∈l) (hb:aX e b=true):see l b=some (seeE e b):=by
 induction l generalizing c with
 | nil=>cases he
 | cons x l ih=>
   rw [bN];rcases zim.1 he with rfl | he
   · rw [zij hb]
   · have h1:=aM h.2.2 e he
     have hx:aX x b=false:=by
      unfold aX at hb ⊢;simp only [ziM] at hb;simp;intro _;have:=h1.2;omega
     rw [hx,zig (by simp)]
     exact ih h.2.2 he
theorem cI {c:Int} {l:List Ex} (h:aC c l):c+l.length≤lastE c l:=by
 induction l generalizing c with
 | nil=>simp [lastE]
 | cons e l ih=>
   have h1:=ih h.2.2;have h2:=h.1.pos;have h3:=h.2.1;unfold aL at h1;simp only [lastE,aL,List.length_cons];omega
theorem zbc {c B:Int} {l:List Ex} (h:aC c l) (hc:c≤B) (hB:∀ b,B≤b→see l b=none):lastE c l≤B:=by
 refine nE hc fun e he=>?_
 have h1:=(aM h e he).1.pos;rcases Int.lt_or_le B (aL e) with h2 | h2
 · have hb:aX e (aL e-1)=true:=by unfold aX aL;simp;omega
   have:=fL h he hb;rw [hB _ (by omega)] at this
   cases this
 · exact h2
theorem oJ {B:Int} {l:List Ex} (h:aC 0 l) (h0:0≤B) (hB:∀ b,B≤b→see l b=none):(l.length:Int)≤B:=by
 have h1:=cI h;have h2:=zbc h h0 hB;omega
theorem tR {k z:Int} (hkz:k<z):∀ (B:List Ex) (c d:Int),aC c B→(∀ e∈B,k<aL e∧e.lba<z)→d≤max k c→d≤z →
 aC d (B.map fun e=>uptoE (fromE e k) z)∧lastE d (B.map fun e=>uptoE (fromE e k) z)≤z
 | [],c,d,_,_,_,hz=>⟨trivial,hz⟩
 | e::B,c,d,h,hB,hd,hz=>by
   obtain ⟨h1,h2⟩:=hB e (zih ..);have hf:=rW h.1 h1;have hl:(fromE e k).lba=max k e.lba:=by unfold fromE;split <;> (try simp only) <;> omega
   have hu:=zar (k:=z) hf (by omega)
   have hce:=h.2.1;have he:aL (uptoE (fromE e k) z)=min (aL e) z:=by
    have:=(sU (e:=e) (k:=k)).1;unfold aL uptoE at *;simp only;omega
   have ih:=tR hkz B (aL e) (aL (uptoE (fromE e k) z)) h.2.2 (fun x hx=>hB x (zii _ hx)) (by omega) (by omega)
   simp only [zj2,aC,lastE];refine ⟨⟨hu,?_,ih.1⟩,ih.2⟩;show d≤(fromE e k).lba;omega
theorem zcJ {k z:Int}:∀ (B:List Ex) (c b:Int),aC c B→see (B.map fun e=>uptoE (fromE e k) z) b=if k≤b∧b<z then see B b else none
 | [],c,b,_=>by simp [gN]
 | e::B,c,b,h=>by
   have ih:=zcJ (k:=k) (z:=z) B (aL e) b h.2.2;rw [zj2,bN,bN,ih,(lK _ _ _).1,(lK _ z _).2];obtain ⟨h1,h2⟩:=rO e k b;rw [h1];by_cases hb:aX e b=true
   · by_cases hk:k≤b∧b<z
     · have hx:aX (fromE e k) b=true:=by rw [h1,hb];simp;omega
       rw [h2 hx,hb,zij (show (true && decide (e.lba<k→k≤b) && decide (b<z))=true by simp;omega),zij hk,zij rfl]
     · have hno:¬(aX e b && decide (e.lba<k→k≤b) && decide (b<z))=true:=by
        unfold aX at hb ⊢;simp at hb ⊢;intro h3 h4 h5;omega
       rw [zig hk,zig hno];split
       · rename_i h6
         have h7:k≤b∧b<z:=h6;exact absurd h7 hk
       · rfl
   · simp only [Bool.not_eq_true] at hb
     rw [hb];simp
theorem dH {m:List Ex} {lba n:Int} (h:aC 0 m) (hb:aJ lba n) :
 aC lba (partE m lba n)∧lastE lba (partE m lba n)≤lba+n∧∀ b,see (partE m lba n) b=if lba≤b∧b<lba+n then see m b else none:=by
 have hn:lba<lba+n:=by have:=hb.2.1;omega
 have hs:=gU m lba n;have hA:=jO m lba;have hB:=gF h lba n;have hC:=gX h lba n;have hch:=h;rw [hs,aQ,aQ] at hch;obtain ⟨⟨_,c2⟩,_⟩:=hch;obtain ⟨h1,h2⟩:=tR hn (midE m lba n) _ lba c2 hB (by omega) (by omega)
 refine ⟨h1,h2,fun b=>?_⟩
 unfold partE;rw [zcJ _ _ _ c2];split
 · rename_i hb
   conv=>rhs;rw [hs]
   rw [cM,cM,jN hC hb.2];have hAn:see (m.take (firstE m lba)) b=none:=by
    unfold see;rw [zje.2]
    · rfl
    · intro e he
      have:=hA e he;unfold aX;simp;intro h2;omega
   rw [hAn];simp
 · rfl
theorem zf4 {m:List Ex} {b:Int} (h:aC 0 m) (hb:aJ b 1):partE m b 1=match see m b with | none=>[] | some t=>[⟨b,1,t.1,t.2.1,t.2.2⟩]:=by
 obtain ⟨h1,h2,h3⟩:=dH h hb;have h4:=h3 b;rw [zij (by omega)] at h4
 rw [←h4];cases hp:partE m b 1 with
 | nil=>rfl
 | cons x r=>
   rw [hp] at h1 h2;have hx:=h1.1.pos;have hx2:=h1.2.1;have hr:=cI h1.2.2;simp only [lastE] at h2;have hn:r=[]:=zis (by unfold aL at *;omega)
   subst hn;have hl:x.lba=b∧x.n=1:=by simp only [lastE] at h2;unfold aL at h2;omega
   have hh:aX x b=true:=by unfold aX aL;simp;omega
   rw [bN,zij hh];obtain ⟨xl,xn,xv,xz,xo⟩:=x;simp only at hl;obtain ⟨rfl,rfl⟩:=hl;have h0:=h1.1.2.2.2.2.2.1;unfold seeE;simp only [List.cons.injEq,Ex.mk.injEq,zkn,zks];simp only at h0;split
   · rename_i hz;exact h0 hz
   · omega
def zhF (p:Ex):Prop:=p.ver=0∧p.zone = -1∧p.off=0
theorem tY:∀ (l:List Ex) (a z:Int),aC a l→lastE a l≤z →
 (∀ p∈dG a l z,0<p.n∧a≤p.lba∧aL p≤z∧((zhF p∧∀ b,aX p b=true→see l b=none)∨(p∈l∧bO p∧∀ b,aX p b=true→see l b=some (seeE p b)))) ∧
 (∀ b,a≤b→b<z→∃ p∈dG a l z,aX p b=true)∧(dG a l z).Pairwise (fun p q=>aL p≤q.lba)
 | [],a,z,_,hz=>by
   simp only [lastE] at hz;refine ⟨?_,?_,?_⟩
   · intro p hp
     obtain ⟨h1,rfl⟩:=sG hp;exact ⟨by simp only;omega,zj7 _,by unfold aL;simp only;omega,.inl ⟨⟨rfl,rfl,rfl⟩,fun b _=>rfl⟩⟩
   · intro b h1 h2
     refine ⟨⟨a,z-a,0,-1,0⟩,by unfold dG gK;rw [zij (by omega)];simp,by unfold aX aL;simp;omega⟩
   · unfold dG gK;split <;> simp
 | x::l,a,z,h,hz=>by
   obtain ⟨h1,h2,h3⟩:=tY l (aL x) z h.2.2 hz;have hx:=h.1.pos;have hax:=h.2.1;have hez:aL x≤z:=by have:=kT h.2.2;simp only [lastE] at hz;omega
   refine ⟨?_,?_,?_⟩
   · intro p hp
     unfold dG at hp;rcases ziA.1 hp with hp | hp
     · obtain ⟨h4,rfl⟩:=sG hp
       refine ⟨by simp only;omega,zj7 _,by unfold aL at *;simp only;omega,.inl ⟨⟨rfl,rfl,rfl⟩,fun b hb=>?_⟩⟩
       have hc:aC x.lba (x::l):=⟨h.1,zj7 _,h.2.2⟩;refine jN hc ?_;unfold aX aL at hb;simp at hb;omega
     · rcases zim.1 hp with rfl | hp
       · exact ⟨hx.1,hax,hez,.inr ⟨zih ..,h.1,fun b hb=>fL h (zih ..) hb⟩⟩
       · obtain ⟨q1,q2,q3,q4⟩:=h1 p hp
         have hno:∀ b,aX p b=true→aX x b=false:=by
          intro b hb;unfold aX at hb ⊢;simp only [ziM] at hb;simp;omega
         refine ⟨q1,by unfold aL at q2;omega,q3,?_⟩
         rcases q4 with ⟨g,q4⟩ | ⟨g,g2,q4⟩
         · exact .inl ⟨g,fun b hb=>by rw [bN,hno b hb,zig (by simp)];exact q4 b hb⟩
         · exact .inr ⟨zii _ g,g2,fun b hb=>by rw [bN,hno b hb,zig (by simp)];exact q4 b hb⟩
   · intro b hb1 hb2
     unfold dG;by_cases h4:b<x.lba
     · refine ⟨⟨a,x.lba-a,0,-1,0⟩,zjv _ (by unfold gK;rw [zij (by omega)];simp),by unfold aX aL;simp;omega⟩
     · by_cases h5:b<aL x
       · exact ⟨x,ziR _ (zih ..),by unfold aX;simp;omega⟩
       · obtain ⟨p,hp,hpb⟩:=h2 b (by omega) hb2
         exact ⟨p,ziR _ (zii _ hp),hpb⟩
   · unfold dG
     rw [List.pairwise_append];refine ⟨by unfold gK;split <;> simp,List.pairwise_cons.2 ⟨fun p hp=>(h1 p hp).2.1,h3⟩,?_⟩
     intro p hp q hq;obtain ⟨h4,rfl⟩:=sG hp;have:aL ⟨a,x.lba-a,0,-1,0⟩=x.lba:=by unfold aL;simp only;omega
     rw [this];rcases zim.1 hq with rfl | hq
     · exact zj7 _
     · have:=(h1 q hq).2.1
       unfold aL at this;omega
theorem fI {m:List Ex} {lba n:Int} (h:aC 0 m) (hb:aJ lba n) :
 (∀ p∈lookE m lba n,0<p.n∧lba≤p.lba∧aL p≤lba+n∧((zhF p∧∀ b,aX p b=true→see m b=none)∨(bO p∧∀ b,aX p b=true→see m b=some (seeE p b)))) ∧
 (∀ b,lba≤b→b<lba+n→∃ p∈lookE m lba n,aX p b=true)∧(lookE m lba n).Pairwise (fun p q=>aL p≤q.lba):=by
 obtain ⟨h1,h2,h3⟩:=dH h hb;obtain ⟨g1,g2,g3⟩:=tY (partE m lba n) lba (lba+n) h1 h2;refine ⟨fun p hp=>?_,g2,g3⟩
 obtain ⟨q1,q2,q3,q4⟩:=g1 p hp;have hin:∀ b,aX p b=true→see (partE m lba n) b=see m b:=by
  intro b hb;rw [h3 b,zij];unfold aX at hb;simp only [ziM] at hb;omega
 refine ⟨q1,q2,q3,?_⟩;rcases q4 with ⟨g,q4⟩ | ⟨-,g,q4⟩
 · exact .inl ⟨g,fun b hb=>by rw [←hin b hb];exact q4 b hb⟩
 · exact .inr ⟨g,fun b hb=>by rw [←hin b hb];exact q4 b hb⟩
def withinE (e:Ex) (lba n:Int):Ex:=⟨lba,n,e.ver,e.zone,if e.zone≠-1 then e.off+16*(lba-e.lba) else e.off⟩
def newE (m:List Ex) (e p:Ex):Bool:=(see m p.lba).isNone || decide (p.ver<e.ver)
def vJ (m:List Ex) (e:Ex):List Ex:=((lookE m e.lba e.n).filter (newE m e)).map fun p=>withinE e p.lba p.n
def sV (l:List Ex) (w:Ex):List Ex:=replE l w.lba w.n [w]
def putE (m ws:List Ex):List Ex:=joinE (ws.foldl sV m)
def bC (m:List Ex) (e:Ex):List Ex:=putE (joinE m) (vJ (joinE m) e)
theorem pC {e:Ex} {lba n:Int} (h:bO e) (hn:0<n) (h1:e.lba≤lba) (h2:lba+n≤aL e):bO (withinE e lba n)∧∀ b,aX (withinE e lba n) b=true→aX e b=true∧seeE (withinE e lba n) b=seeE e b:=by
 obtain ⟨⟨a,b,c,d⟩,e1,e2,e3,e4,e5,e6⟩:=h;unfold aL at h2;constructor
 · unfold withinE
   refine ⟨⟨by simp only;omega,by simp only;omega,by simp only;omega,by simp only;omega⟩,e1,e2,e3,?_,?_,?_⟩
   · simp only;split <;> omega
   · intro hz;simp only at hz ⊢;rw [zig (by omega)];exact e5 hz
   · intro hz;simp only at hz ⊢;rw [zij hz];have:=e6 hz;omega
 · intro x hx
   unfold aX aL withinE at *;simp only [ziM] at hx ⊢;refine ⟨by omega,?_⟩
   unfold seeE;simp only [zj4,zkn];by_cases hz:e.zone = -1
   · rw [zij hz,zij hz]
   · rw [zig hz,zig hz,zij hz];omega
theorem sI {m:List Ex} {e:Ex} (h:aC 0 m) (he:bO e) :
 (∀ w∈vJ m e,bO w∧∀ b,aX w b=true→aX e b=true∧seeE w b=seeE e b) ∧
 (∀ b,(∃ w∈vJ m e,aX w b=true)↔aX e b=true∧∀ t,see m b=some t→t.1<e.ver):=by
 obtain ⟨h1,h2,h3⟩:=fI h he.1;have hone:∀ p∈lookE m e.lba e.n,∀ b,aX p b=true→(newE m e p=true↔∀ t,see m b=some t→t.1<e.ver):=by
  intro p hp b hb;obtain ⟨q1,q2,q3,q4⟩:=h1 p hp;have hpl:aX p p.lba=true:=by unfold aX aL;simp;omega
  unfold newE;rcases q4 with ⟨g,q4⟩ | ⟨g,q4⟩
  · rw [q4 _ hpl,q4 _ hb];simp
  · rw [q4 _ hpl,q4 _ hb]
    simp [seeE]
 constructor
 · intro w hw
   obtain ⟨p,hp,rfl⟩:=zja.1 hw;obtain ⟨q1,q2,q3,_⟩:=h1 p ((zji.1 hp).1);exact pC he q1 q2 q3
 · intro b
   constructor
   · rintro ⟨w,hw,hb⟩
     obtain ⟨p,hp,rfl⟩:=zja.1 hw;obtain ⟨hp1,hp2⟩:=zji.1 hp;obtain ⟨q1,q2,q3,_⟩:=h1 p hp1;have hpb:aX p b=true:=hb;exact ⟨((pC he q1 q2 q3).2 b hb).1,(hone p hp1 b hpb).1 hp2⟩
   · rintro ⟨hb,hn⟩
     unfold aX aL at hb;simp only [ziM] at hb;obtain ⟨p,hp,hpb⟩:=h2 b hb.1 hb.2;exact ⟨withinE e p.lba p.n,zja.2 ⟨p,zji.2 ⟨hp,(hone p hp b hpb).2 hn⟩,rfl⟩,hpb⟩
theorem sJ {e:Ex}:∀ (ws m:List Ex),aC 0 m→(∀ w∈ws,bO w∧∀ b,aX w b=true→aX e b=true∧seeE w b=seeE e b) →
 aC 0 (ws.foldl sV m)∧(∀ b,(∃ w∈ws,aX w b=true)→see (ws.foldl sV m) b=some (seeE e b))∧(∀ b,(¬ ∃ w∈ws,aX w b=true)→see (ws.foldl sV m) b=see m b)
 | [],m,h,_=>⟨h,fun b hb=>by simp at hb,fun b _=>rfl⟩
 | w::ws,m,h,hw=>by
   obtain ⟨hw1,hw2⟩:=hw w (zih ..);have hc:aC 0 (sV m w):=qX h hw1.pos.2 ⟨hw1,zj7 _,trivial⟩ (zj7 _);obtain ⟨h1,h2,h3⟩:=sJ (e:=e) ws (sV m w) hc fun x hx=>hw x (zii _ hx)
   have hs:=fun b=>zem (l:=m) (ws:=[w]) (lba:=w.lba) (n:=w.n) (b:=b) h hw1.pos.1 (fun x hx=>by simp only [ziw] at hx;subst hx;exact ⟨zj7 _,zj7 _⟩)
   refine ⟨h1,fun b hb=>?_,fun b hb=>?_⟩
   · by_cases hx:∃ x∈ws,aX x b=true
     · exact h2 b hx
     · rw [List.foldl_cons,h3 b hx]
       have hwb:aX w b=true:=by
        obtain ⟨x,hx1,hx2⟩:=hb;rcases zim.1 hx1 with rfl | hx1
        · exact hx2
        · exact absurd ⟨x,hx1,hx2⟩ hx
       have hin:w.lba≤b∧b<w.lba+w.n:=by unfold aX aL at hwb;simpa using hwb
       unfold sV;rw [hs b,zij hin,bN,zij hwb,(hw2 b hwb).2]
   · have hx:¬ ∃ x∈ws,aX x b=true:=fun ⟨x,hx1,hx2⟩=>hb ⟨x,zii _ hx1,hx2⟩
     rw [List.foldl_cons,h3 b hx];have hwb:¬aX w b=true:=fun hx=>hb ⟨w,zih ..,hx⟩
     unfold sV;rw [hs b,zig];intro hin;apply hwb;unfold aX aL;simpa using hin
theorem lC {m:List Ex} {e:Ex} (h:aC 0 m) (he:bO e) :
 aC 0 (bC m e)∧(∀ b,(aX e b=true∧∀ t,see m b=some t→t.1<e.ver)→see (bC m e) b=some (seeE e b)) ∧
  (∀ b,(¬(aX e b=true∧∀ t,see m b=some t→t.1<e.ver))→see (bC m e) b=see m b):=by
 obtain ⟨j1,j2,j3⟩:=gO h;obtain ⟨n1,n2⟩:=sI j1 he;obtain ⟨p1,p2,p3⟩:=sJ (vJ (joinE m) e) (joinE m) j1 n1;obtain ⟨k1,k2,k3⟩:=gO p1;unfold bC putE;refine ⟨k1,fun b hb=>?_,fun b hb=>?_⟩
 · rw [k2 b]
   exact p2 b ((n2 b).2 (by rw [j2 b];exact hb))
 · rw [k2 b,p3 b (fun hx=>hb (by rw [←j2 b];exact (n2 b).1 hx)),j2 b]
def zed (L:List Ex) (b:Int):Option (Int × Int × Int)→Prop
 | none=>∀ e∈L,aX e b=false
 | some t=>∃ e∈L,aX e b=true∧seeE e b=t∧∀ x∈L,aX x b=true→x.ver≤e.ver
theorem zed.offer {L m:List Ex} {e:Ex} {b:Int} (hm:zed L b (see m b)) (h:aC 0 m) (he:bO e):zed (L++[e]) b (see (bC m e) b):=by
 obtain ⟨_,o1,o2⟩:=lC h he;by_cases hn:aX e b=true∧∀ t,see m b=some t→t.1<e.ver
 · rw [o1 b hn]
   refine ⟨e,by simp,hn.1,rfl,fun x hx hxb=>?_⟩
   rcases ziA.1 hx with hx | hx
   · cases hs:see m b with
     | none=>
       rw [hs] at hm;rw [hm x hx] at hxb;cases hxb
     | some t=>
       rw [hs] at hm;obtain ⟨y,y1,y2,y3,y4⟩:=hm;have h5:=y4 x hx hxb;have h6:=hn.2 t hs;rw [←y3] at h6;have h7:y.ver<e.ver:=h6;omega
   · simp only [ziw] at hx;subst hx;exact zj7 _
 · rw [o2 b hn]
   cases hs:see m b with
   | none=>
     rw [hs] at hm;intro x hx;rcases ziA.1 hx with hx | hx
     · exact hm x hx
     · simp only [ziw] at hx
       subst hx;rcases Bool.eq_false_or_eq_true (aX x b) with h5 | h5
       · exact absurd ⟨h5,fun t ht=>by rw [hs] at ht;cases ht⟩ hn
       · exact h5
   | some t=>
     rw [hs] at hm;obtain ⟨y,y1,y2,y3,y4⟩:=hm;refine ⟨y,zjv _ y1,y2,y3,fun x hx hxb=>?_⟩
     rcases ziA.1 hx with hx | hx
     · exact y4 x hx hxb
     · simp only [ziw] at hx
       subst hx;have h5:¬t.1<x.ver:=fun h6=>hn ⟨hxb,fun t' ht=>by rw [hs] at ht;cases ht;exact h6⟩
       rw [←y3] at h5;have h7:¬y.ver<x.ver:=h5;omega
def upd (f:Nat→Nat) (a b:Nat):Nat→Nat:=fun x=>if x=a then b else f x
theorem cG {f:Nat→Nat} {a b:Nat}:upd f a b a=b:=zij rfl
theorem dD {f:Nat→Nat} {a b x:Nat} (h:x≠a):upd f a b x=f x:=zig h
def Lk (ah af:Nat→Nat):List Nat→Prop
 | a::b::l=>af a=b∧ah b=a∧Lk ah af (b::l)
 | _=>True
structure qB (c:Nat) (es:List Nat) (ah af:Nat→Nat):Prop where
 nodup:(c::es).Nodup
 lk:Lk ah af (c::(es++[c]))
section
variable {ah af ah' af':Nat→Nat} {c e:Nat} {es l r:List Nat}
theorem Lk.split:∀ {l:List Nat} {b:Nat} {r:List Nat},Lk ah af (l++b::r)↔Lk ah af (l++[b])∧Lk ah af (b::r)
 | [],b,r=>⟨fun h=>⟨trivial,h⟩,fun h=>h.2⟩
 | [a],b,r=>⟨fun h=>⟨⟨h.1,h.2.1,trivial⟩,h.2.2⟩,fun h=>⟨h.1.1,h.1.2.1,h.2⟩⟩
 | a::a'::l,b,r=>by
   have ih:=Lk.split (l:=a'::l) (b:=b) (r:=r);constructor
   · intro h
     have h2:=ih.1 h.2.2;exact ⟨⟨h.1,h.2.1,h2.1⟩,h2.2⟩
   · intro h
     exact ⟨h.1.1,h.1.2.1,ih.2 ⟨h.1.2.2,h.2⟩⟩
theorem Lk.congr:∀ {l:List Nat},Lk ah af l→(∀ x∈l.dropLast,af' x=af x)→(∀ y∈l.tail,ah' y=ah y)→Lk ah' af' l
 | [],_,_,_=>trivial
 | [_],_,_,_=>trivial
 | a::b::l,h,h1,h2=>⟨by rw [h1 a (by simp)];exact h.1,by rw [h2 b (by simp)];exact h.2.1,
   Lk.congr h.2.2 (fun x hx=>h1 x (by rw [List.dropLast_cons_of_ne_nil (by simp)];exact zii _ hx)) (fun y hy=>h2 y (by simp at hy ⊢;exact .inr hy))⟩
theorem yG:∀ (l:List Nat) (a:Nat),∃ L x,a::l=L++[x]
 | [],a=>⟨[],a,rfl⟩
 | b::l,a=>by
   obtain ⟨L,x,h⟩:=yG l b;exact ⟨a::L,x,by rw [h];rfl⟩
theorem qB.out (h:qB c (l++e::r) ah af):qB c (l++r) (upd ah (af e) (ah e)) (upd af (ah e) (af e))∧ah e∈c::l∧af e∈r++[c]:=by
 obtain ⟨hn,hl⟩:=h;obtain ⟨L,a,hL⟩:=yG l c;obtain ⟨b,R,hR⟩:∃ b R,r++[c]=b::R:=by cases r with | nil=>exact ⟨c,[],rfl⟩ | cons x r=>exact ⟨x,r++[c],rfl⟩
 have e1:c::((l++e::r)++[c])=L++a::e::b::R:=by
  rw [ziq,List.cons_append,hR,←List.cons_append,hL,ziq];rfl
 rw [e1] at hl;have h1:=Lk.split.1 hl;obtain ⟨h2,h3,h4,h5,h6⟩:=h1.2;have haf:ah e=a:=h3;have hbf:af e=b:=h4;rw [haf,hbf];have ha:a∈c::l:=by rw [hL];simp
 have hb:b∈r++[c]:=by rw [hR];simp
 refine ⟨⟨?_,?_⟩,ha,hb⟩
 · refine zkc ?_ hn
   exact List.Sublist.cons_cons c (List.Sublist.append (List.Sublist.refl l) (List.sublist_cons_self e r))
 · have e2:c::((l++r)++[c])=L++a::b::R:=by
    rw [ziq,hR,←List.cons_append,hL,ziq];rfl
   rw [e2];have hnl:(c::l).Nodup:=zkc (List.Sublist.cons_cons c (List.sublist_append_left l _)) hn;have hnL:(L++[a]).Nodup:=by rw [←hL];exact hnl
   have hdis:∀ x∈c::l,x∉r:=by
    intro x hx hr;have:(c::l++e::r).Nodup:=hn;rw [zjE] at this;exact this.2.2 x hx x (zii _ hr) rfl
   have hcl:c∉l:=(zj0.1 hnl).1;have hcr:c∉r:=hdis c (zih ..);have hnr:r.Nodup:=by
    have:(c::l++e::r).Nodup:=hn;rw [zjE] at this;exact (zj0.1 this.2.1).2
   refine Lk.split.2 ⟨Lk.congr h1.1 (fun x hx=>dD ?_) (fun y hy=>dD ?_),cG,cG,Lk.congr h6 (fun x hx=>dD ?_) (fun y hy=>dD ?_)⟩
   · rw [zkj] at hx
     rintro rfl;rw [zjE] at hnL;exact hnL.2.2 x hx x (ziw.2 rfl) rfl
   · rw [←hL] at hy
     simp only [List.tail_cons] at hy;rintro rfl;rcases ziA.1 hb with h | h
     · exact hdis y (zii _ hy) h
     · rw [ziw.1 h] at hy;exact hcl hy
   · rw [←hR,zkj] at hx
     rintro rfl;exact hdis x ha hx
   · rintro rfl
     cases r with
     | nil=>injection hR with h1 h2;rw [←h2] at hy;simp at hy
     | cons x r=>
       injection hR with h1 h2;rw [←h2] at hy;simp only [List.tail_cons] at hy;rw [←h1] at hy;rcases ziA.1 hy with h | h
       · exact (zj0.1 hnr).1 h
       · rw [ziw.1 h] at hcr;exact hcr (zih ..)
theorem qB.after_mem (h:qB c es ah af):af c∈es++[c]:=by
 cases es with
 | nil=>have:=h.lk.1;rw [this];simp
 | cons x l=>have:=h.lk.1;rw [this];simp
theorem qB.first (h:qB c es ah af) (he:e∉c::es):qB c (e::es) (upd (upd ah e c) (af c) e) (upd (upd af e (af c)) c e):=by
 obtain ⟨hn,hl⟩:=h;have hec:e≠c:=fun x=>he (by rw [x];exact zih ..)
 have hes:e∉es:=fun x=>he (zii _ x)
 have hc:=(zj0.1 hn).1;obtain ⟨b,R,hR⟩:∃ b R,es++[c]=b::R:=by cases es with | nil=>exact ⟨c,[],rfl⟩ | cons x r=>exact ⟨x,r++[c],rfl⟩
 rw [hR] at hl;have hb:af c=b:=hl.1;have hbm:b∈es++[c]:=by rw [hR];exact zih ..
 have heb:e≠b:=by
  rintro rfl;rcases ziA.1 hbm with h | h
  · exact hes h
  · exact hec (ziw.1 h)
 rw [hb];refine ⟨zj0.2 ⟨?_,zj0.2 ⟨hes,(zj0.1 hn).2⟩⟩,?_⟩
 · rintro h
   rcases zim.1 h with h | h
   · exact hec h.symm
   · exact hc h
 · show Lk _ _ (c::e::(es++[c]))
   rw [hR];refine ⟨cG,by rw [dD heb];exact cG,by rw [dD hec];exact cG,cG,Lk.congr hl.2.2 (fun x hx=>?_) (fun y hy=>?_)⟩
   · rw [←hR,zkj] at hx
     rw [dD (fun h=>hc (by rw [←h];exact hx)),dD (fun h=>hes (by rw [←h];exact hx))]
   · have hyb:y≠b:=by
      rintro rfl;cases es with
      | nil=>injection hR with h1 h2;rw [←h2] at hy;simp at hy
      | cons x r=>
        injection hR with h1 h2;rw [←h2] at hy;simp only [List.tail_cons] at hy;rw [←h1] at hy;rcases ziA.1 hy with h | h
        · exact (zj0.1 (zj0.1 hn).2).1 h
        · rw [ziw.1 h] at hc;exact hc (zih ..)
     have hye:y≠e:=by
      rintro rfl;have:y∈es++[c]:=by rw [hR];exact zii _ hy
      rcases ziA.1 this with h | h
      · exact hes h
      · exact hec (ziw.1 h)
     rw [dD hyb,dD hye]
theorem qB.last (h:qB c (l++[e]) ah af):ah c=e:=by
 have h1:=h.lk;have e1:c::((l++[e])++[c])=(c::l)++e::[c]:=by simp
 rw [e1] at h1;exact (Lk.split.1 h1).2.2.1
theorem qB.made {c:Nat}:qB c [] (fun _=>c) (fun _=>c):=⟨by simp,rfl,rfl,trivial⟩
theorem qB.next (h:qB c (l++e::r) ah af):af e=(r++[c]).headD c:=by
 have h1:=h.lk;have e1:c::((l++e::r)++[c])=(c::l)++e::(r++[c]):=by simp
 rw [e1] at h1;cases r with
 | nil=>exact (Lk.split.1 h1).2.1
 | cons x r=>exact (Lk.split.1 h1).2.1
theorem qB.head (h:qB c es ah af):af c=(es++[c]).headD c:=by
 cases es with
 | nil=>exact h.lk.1
 | cons x r=>exact h.lk.1
theorem qB.ahead_mem (h:qB c (l++e::r) ah af):ah e∈c::(l++e::r)∧af e∈c::(l++e::r):=by
 obtain ⟨_,h1,h2⟩:=h.out;refine ⟨?_,?_⟩
 · rcases zim.1 h1 with h | h
   · rw [h];exact zih ..
   · exact zii _ (zjv _ h)
 · rcases ziA.1 h2 with h | h
   · exact zii _ (ziR _ (zii _ h))
   · rw [ziw.1 h];exact zih ..
end
