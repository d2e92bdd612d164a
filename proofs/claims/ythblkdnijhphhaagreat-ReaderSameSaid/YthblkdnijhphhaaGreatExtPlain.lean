/- A part of the proof. -/
import Derived.Test.YthblkdnijhphhaaGreatRing
namespace Go.Proofs.YthblkdnijhphhaaGreat
structure Ex where
 lba:Int
 n:Int
 ver:Int
 zone:Int
 off:Int
deriving DecidableEq
def endE (e:Ex):Int:=e.lba+e.n
def za9 (lba n:Int):Prop:=0≤lba∧0<n∧n≤1099511627776∧lba≤1099511627776-n
instance (lba n:Int):Decidable (za9 lba n):=inferInstanceAs (Decidable (_∧_))
def mayE (e:Ex):Prop:=za9 e.lba e.n∧0≤e.ver∧-1≤e.zone∧e.zone≤1099511627776∧0≤e.off∧(e.zone = -1→e.off=0)∧(e.zone≠-1→e.off≤1125899906842624-16*e.n)
instance (e:Ex):Decidable (mayE e):=inferInstanceAs (Decidable (_∧_))
def za2:Int→List Ex→Prop
 | _,[]=>True
 | b,e::l=>mayE e∧b≤e.lba∧za2 (endE e) l
def ziE:(b:Int)→(l:List Ex)→Decidable (za2 b l)
 | _,[]=>isTrue trivial
 | c,e::l=>@instDecidableAnd (mayE e) (c≤e.lba∧za2 (endE e) l) _ (@instDecidableAnd _ _ _ (ziE (endE e) l))
instance (b:Int) (l:List Ex):Decidable (za2 b l):=ziE b l
def chkE (l:List Ex):Int:=if za2 0 l then 0 else 1
def fromE (e:Ex) (k:Int):Ex:=if 0<k-e.lba then ⟨k,e.n-(k-e.lba),e.ver,e.zone,if e.zone≠-1 then e.off+(k-e.lba)*16 else e.off⟩ else e
def uptoE (e:Ex) (k:Int):Ex:=⟨e.lba,min e.n (k-e.lba),e.ver,e.zone,e.off⟩
def firstE (l:List Ex) (lba:Int):Nat:=l.findIdx (fun e=>decide (lba<endE e))
def midE (l:List Ex) (lba n:Int):List Ex:=(l.drop (firstE l lba)).takeWhile (fun e=>decide (e.lba<lba+n))
def partE (l:List Ex) (lba n:Int):List Ex:=(midE l lba n).map fun e=>uptoE (fromE e lba) (lba+n)
def hasE (e:Ex) (b:Int):Bool:=decide (e.lba≤b∧b<endE e)
def seeE (e:Ex) (b:Int):Int × Int × Int:=(e.ver,e.zone,if e.zone = -1 then 0 else e.off+(b-e.lba)*16)
def see (l:List Ex) (b:Int):Option (Int × Int × Int):=(l.find? (hasE · b)).map (seeE · b)
theorem mayE.pos {e:Ex} (h:mayE e):0<e.n∧0≤e.lba:=⟨h.1.2.1,h.1.1⟩
theorem zcn (b:Int):see [] b=none:=rfl
theorem zax (e:Ex) (l:List Ex) (b:Int):see (e::l) b=if hasE e b=true then some (seeE e b) else see l b:=by
 unfold see;rw [List.find?_cons];cases hasE e b <;> simp
theorem zaO (l m:List Ex) (b:Int):see (l++m) b=(see l b).or (see m b):=by
 unfold see;rw [List.find?_append];cases l.find? (hasE · b) <;> simp
theorem zgn (e:Ex) (k b:Int):hasE (fromE e k) b=(hasE e b && decide (e.lba<k→k≤b))∧(hasE (fromE e k) b=true→seeE (fromE e k) b=seeE e b):=by
 unfold fromE;split
 · rename_i h
   constructor
   · unfold hasE endE
     rw [Bool.eq_iff_iff];simp;omega
   · intro _
     unfold seeE;simp only [Prod.mk.injEq,true_and];split
     · rfl
     · omega
 · rename_i h
   exact ⟨by rw [Bool.eq_iff_iff];simp only [Bool.and_eq_true,decide_eq_true_eq];constructor <;> intro h1 <;> first | exact ⟨h1,fun _=>by omega⟩ | exact h1.1,fun _=>rfl⟩
theorem zdE (e:Ex) (k b:Int):hasE (uptoE e k) b=(hasE e b && decide (b<k))∧(seeE (uptoE e k) b=seeE e b):=by
 constructor
 · unfold hasE uptoE endE
   rw [Bool.eq_iff_iff];simp;omega
 · rfl
theorem zbd {b c:Int} {l:List Ex} (h:za2 b l) (hc:c≤b):za2 c l:=by
 cases l with
 | nil=>trivial
 | cons e l=>exact ⟨h.1,by have:=h.2.1;omega,h.2.2⟩
theorem zai {b:Int} {l:List Ex} (h:za2 b l):∀ e∈l,mayE e∧b≤e.lba:=by
 induction l generalizing b with
 | nil=>simp
 | cons x l ih=>
   intro e he;rcases List.mem_cons.1 he with rfl | he
   · exact ⟨h.1,h.2.1⟩
   · have:=ih h.2.2 e he
     have h1:=h.1.pos;have h2:=h.2.1;unfold endE at this;exact ⟨this.1,by omega⟩
theorem zcT {c b:Int} {l:List Ex} (h:za2 c l) (hb:b<c):see l b=none:=by
 unfold see;rw [List.find?_eq_none.2]
 · rfl
 · intro e he
   have:=zai h e he;unfold hasE;simp;intro h1;omega
def lastE:Int→List Ex→Int
 | c,[]=>c
 | _,e::l=>lastE (endE e) l
theorem zae {c:Int} {l m:List Ex}:za2 c (l++m)↔za2 c l∧za2 (lastE c l) m:=by
 induction l generalizing c with
 | nil=>simp [za2,lastE]
 | cons e l ih=>simp only [List.cons_append,za2,ih,lastE,and_assoc]
theorem zbR (c:Int) (l m:List Ex):lastE c (l++m)=lastE (lastE c l) m:=by
 induction l generalizing c with
 | nil=>rfl
 | cons e l ih=>simp only [List.cons_append,lastE,ih]
theorem zdX {c:Int} {l:List Ex} (h:za2 c l):c≤lastE c l:=by
 induction l generalizing c with
 | nil=>exact Int.le_refl _
 | cons e l ih=>
   have h1:=ih h.2.2;have h2:=h.1.pos;have h3:=h.2.1;unfold endE at h1;simp only [lastE,endE];omega
theorem zeA {c:Int} {l:List Ex} (h:za2 c l):∀ e∈l,endE e≤lastE c l:=by
 induction l generalizing c with
 | nil=>simp
 | cons x l ih=>
   intro e he;rcases List.mem_cons.1 he with rfl | he
   · exact zdX h.2.2
   · exact ih h.2.2 e he
theorem zj4 {c b:Int} {l:List Ex} (h:za2 c l) (hb:lastE c l≤b):see l b=none:=by
 unfold see;rw [List.find?_eq_none.2]
 · rfl
 · intro e he
   have:=zeA h e he;unfold hasE;simp;intro h1;omega
theorem ziw {α:Type} (p:α→Bool):∀ l:List α,l.drop (l.takeWhile p).length=l.dropWhile p
 | []=>rfl
 | a::l=>by
   rw [List.takeWhile_cons,List.dropWhile_cons];split
   · simpa using ziw p l
   · rfl
theorem ziT {α:Type} {p:α→Bool} {x:α}:∀ {l:List α},x∈l.takeWhile p→p x=true∧x∈l
 | [],h=>by cases h
 | a::l,h=>by
   rw [List.takeWhile_cons] at h;split at h
   · rename_i ha
     rcases List.mem_cons.1 h with rfl | h
     · exact ⟨ha,List.mem_cons_self ..⟩
     · exact ⟨(ziT h).1,List.mem_cons_of_mem _ (ziT h).2⟩
   · cases h
theorem zdl (l:List Ex) (lba n:Int):l=l.take (firstE l lba)++midE l lba n++l.drop (firstE l lba+(midE l lba n).length):=by
 have h1:l.drop (firstE l lba)=midE l lba n++l.drop (firstE l lba+(midE l lba n).length):=by
  rw [←List.drop_drop];unfold midE;generalize l.drop (firstE l lba)=m;rw [ziw];exact (List.takeWhile_append_dropWhile ..).symm
 conv=>lhs;rw [←List.take_append_drop (firstE l lba) l,h1]
 rw [List.append_assoc]
theorem ze3 (l:List Ex) (lba:Int):∀ e∈l.take (firstE l lba),endE e≤lba:=by
 intro e he;obtain ⟨j,hj,rfl⟩:=List.getElem_of_mem he;rw [List.length_take] at hj;have:=List.not_of_lt_findIdx (p:=fun e:Ex=>decide (lba<endE e)) (xs:=l) (i:=j) (by unfold firstE at hj;omega)
 rw [List.getElem_take];simpa using this
theorem zcL {c:Int} {l:List Ex} (h:za2 c l) (lba n:Int):∀ e∈midE l lba n,lba<endE e∧e.lba<lba+n:=by
 intro e he;have h2:=(ziT he).1;refine ⟨?_,by simpa using h2⟩
 have hm:e∈l.drop (firstE l lba):=(ziT he).2;have hch:za2 (lastE c (l.take (firstE l lba))) (l.drop (firstE l lba)):=by
  have:=h;rw [←List.take_append_drop (firstE l lba) l,zae] at this;exact this.2
 clear he h2;cases hd:l.drop (firstE l lba) with
 | nil=>rw [hd] at hm;cases hm
 | cons x r=>
   rw [hd] at hm hch;have hlt:firstE l lba<l.length:=by
    rcases Nat.lt_or_ge (firstE l lba) l.length with h | h
    · exact h
    · rw [List.drop_of_length_le h] at hd;cases hd
   have hx:x=l[firstE l lba]:=by
    have:=List.drop_eq_getElem_cons hlt;rw [hd] at this;injection this
   have hxe:lba<endE x:=by
    have:=List.findIdx_getElem (p:=fun e:Ex=>decide (lba<endE e)) (xs:=l) (w:=hlt)
    rw [hx];exact of_decide_eq_true this
   rcases List.mem_cons.1 hm with rfl | hm
   · exact hxe
   · have h3:=zai hch.2.2 e hm
     have:=h3.1.pos;unfold endE at *;omega
theorem zdk {c:Int} {l:List Ex} (h:za2 c l) (lba n:Int):za2 (lba+n) (l.drop (firstE l lba+(midE l lba n).length)):=by
 have e1:l.drop (firstE l lba+(midE l lba n).length)=(l.drop (firstE l lba)).dropWhile (fun e=>decide (e.lba<lba+n)):=by
  rw [←List.drop_drop];unfold midE;exact ziw ..
 have hch:za2 (lastE c (l.take (firstE l lba))) (l.drop (firstE l lba)):=by
  have:=h;rw [←List.take_append_drop (firstE l lba) l,zae] at this;exact this.2
 rw [e1];generalize l.drop (firstE l lba)=m at hch;generalize lastE c (l.take (firstE l lba))=d at hch;clear e1 h;induction m generalizing d with
 | nil=>trivial
 | cons x r ih=>
   rw [List.dropWhile_cons];split
   · exact ih _ hch.2.2
   · rename_i hx
     simp only [decide_eq_true_eq,Int.not_lt] at hx;exact ⟨hch.1,hx,hch.2.2⟩
def leftE (B:List Ex) (lba:Int):List Ex:=match B with
 | e::_=>if e.lba<lba then [uptoE e lba] else []
 | []=>[]
def rightE (B:List Ex) (k:Int):List Ex:=match B.getLast? with
 | some e=>if k<endE e then [fromE e k] else []
 | none=>[]
def replE (l:List Ex) (lba n:Int) (ws:List Ex):List Ex:=
 l.take (firstE l lba)++(leftE (midE l lba n) lba++ws++rightE (midE l lba n) (lba+n))++l.drop (firstE l lba+(midE l lba n).length)
theorem zmC {c lba b:Int} {B:List Ex} (h:za2 c B) (hB:∀ e∈B,lba<endE e) (hb:b<lba):see (leftE B lba) b=see B b:=by
 cases B with
 | nil=>rfl
 | cons e r=>
   have he:=hB e (List.mem_cons_self ..);rw [zax e r,zcT h.2.2 (by omega)]
   unfold leftE;simp only;split
   · rw [zax,zcn,(zdE e lba b).1,(zdE e lba b).2]
     simp [hb]
   · rename_i h1
     have:hasE e b=false:=by unfold hasE;simp;intro h2;omega
     rw [this,zcn];simp
theorem zkD {c k b:Int} {B:List Ex} (h:za2 c B) (hB:∀ e∈B,e.lba<k) (hb:k≤b):see (rightE B k) b=see B b:=by
 rcases List.eq_nil_or_concat B with rfl | ⟨r,e,rfl⟩
 · rfl
 · rw [List.concat_eq_append] at *
   obtain ⟨h1,h2⟩:=zae.1 h;have he:=hB e (by simp)
   rw [zaO,zj4 h1 (by have:=h2.2.1;omega)]
   unfold rightE;rw [List.getLast?_append];simp only [List.getLast?_singleton,Option.some_or,Option.none_or];have hfr:=zgn e k b;rw [zax e [],zcn];split
   · rw [zax,zcn,hfr.1]
     by_cases hh:hasE e b=true
     · have hx:hasE (fromE e k) b=true:=by rw [hfr.1,hh];simp;omega
       rw [hfr.2 hx,hh];simp;omega
     · simp only [Bool.not_eq_true] at hh
       rw [hh];simp
   · rename_i hk
     have:hasE e b=false:=by unfold hasE;simp;intro h2;omega
     rw [this,zcn];simp
theorem zic {lba b:Int} {B:List Ex} (hb:lba≤b):see (leftE B lba) b=none:=by
 unfold leftE;cases B with
 | nil=>rfl
 | cons e r=>
   simp only;split
   · rw [zax,zcn,(zdE e lba b).1]
     simp;intro _;omega
   · rfl
theorem zeh {k b:Int} {B:List Ex} (hB:∀ e∈B,e.lba<k) (hb:b<k):see (rightE B k) b=none:=by
 unfold rightE;split
 · rename_i e he
   have:=hB e (List.mem_of_getLast? he);split
   · rw [zax,zcn,(zgn e k b).1]
     simp;omega
   · rfl
 · rfl
theorem znk {l ws:List Ex} {lba n b:Int} (h:za2 0 l) (hn:0<n) (hw:∀ e∈ws,lba≤e.lba∧endE e≤lba+n):see (replE l lba n ws) b=if lba≤b∧b<lba+n then see ws b else see l b:=by
 have hs:=zdl l lba n;have hA:=ze3 l lba;have hB:=zcL h lba n;have hC:=zdk h lba n;have hch:=h;rw [hs,zae,zae] at hch;obtain ⟨⟨c1,c2⟩,_⟩:=hch;have hwn:¬(lba≤b∧b<lba+n)→see ws b=none:=by
  intro hb;unfold see;rw [List.find?_eq_none.2]
  · rfl
  · intro e he
    have:=hw e he;unfold hasE;simp;intro h1;omega
 have hl:see l b=((see (l.take (firstE l lba)) b).or (see (midE l lba n) b)).or (see (l.drop (firstE l lba+(midE l lba n).length)) b):=by
  conv=>lhs;rw [hs]
  rw [zaO,zaO]
 unfold replE;rw [zaO,zaO,zaO,zaO,hl];generalize l.take (firstE l lba)=A at *;generalize midE l lba n=B at *;generalize l.drop (firstE l lba+B.length)=C at *;by_cases h1:b<lba
 · rw [zmC c2 (fun e he=>(hB e he).1) h1,hwn (by omega),zeh (fun e he=>(hB e he).2) (by omega),if_neg (by omega)]
   simp
 · have hAn:see A b=none:=by
    unfold see;rw [List.find?_eq_none.2]
    · rfl
    · intro e he
      have:=hA e he;unfold hasE;simp;intro h2;omega
   rw [hAn,zic (by omega)]
   by_cases h2:b<lba+n
   · rw [if_pos ⟨by omega,h2⟩,zeh (fun e he=>(hB e he).2) h2,zcT hC h2]
     simp
   · rw [if_neg (by omega),hwn (by omega),zkD c2 (fun e he=>(hB e he).2) (by omega)]
     simp
theorem ziS {e:Ex} {k:Int} (h:mayE e) (h1:e.lba<k):mayE (uptoE e k):=by
 obtain ⟨⟨a,b,c,d⟩,e1,e2,e3,e4,e5,e6⟩:=h;unfold uptoE;refine ⟨⟨a,by simp only;omega,by simp only;omega,by simp only;omega⟩,e1,e2,e3,e4,e5,fun hz=>?_⟩
 have:=e6 hz;simp only;omega
theorem zgh {e:Ex} {k:Int} (h:mayE e) (h1:k<endE e):mayE (fromE e k):=by
 have h0:=h;obtain ⟨⟨a,b,c,d⟩,e1,e2,e3,e4,e5,e6⟩:=h;unfold fromE endE at *;split
 · refine ⟨⟨by simp only;omega,by simp only;omega,by simp only;omega,by simp only;omega⟩,e1,e2,e3,?_,?_,?_⟩
   · simp only;split <;> omega
   · intro hz;simp only at hz ⊢;rw [if_neg (by omega)];exact e5 hz
   · intro hz;simp only at hz ⊢;rw [if_pos hz];have:=e6 hz;omega
 · exact h0
theorem zmc {e:Ex} {k:Int} (h:k≤endE e):endE (uptoE e k)=k:=by unfold endE uptoE at *;simp only;omega
theorem zgg {e:Ex} {k:Int}:endE (fromE e k)=endE e∧(e.lba≤k→(fromE e k).lba=k):=by
 unfold fromE endE;split
 · exact ⟨by simp only;omega,fun _=>rfl⟩
 · exact ⟨rfl,fun h=>by omega⟩
theorem zgj {c k:Int} {l:List Ex} (hc:c≤k) (h:∀ e∈l,endE e≤k):lastE c l≤k:=by
 induction l generalizing c with
 | nil=>exact hc
 | cons e l ih=>exact ih (h e (List.mem_cons_self ..)) fun x hx=>h x (List.mem_cons_of_mem _ hx)
theorem zjw {c lba:Int} {B:List Ex} (h:za2 c B) (hc:c≤lba) (hB:∀ e∈B,lba<endE e):za2 c (leftE B lba)∧lastE c (leftE B lba)≤lba:=by
 cases B with
 | nil=>exact ⟨trivial,hc⟩
 | cons e r=>
   unfold leftE;simp only;split
   · rename_i h1
     have:=hB e (List.mem_cons_self ..);exact ⟨⟨ziS h.1 h1,h.2.1,trivial⟩,by show endE (uptoE e lba)≤lba;rw [zmc (by omega)];exact Int.le_refl _⟩
   · exact ⟨trivial,hc⟩
theorem zi0 {c d k:Int} {B C:List Ex} (h:za2 c B) (hB:∀ e∈B,e.lba<k) (hC:za2 k C) (hBC:za2 (lastE c B) C) (hd:d≤k):za2 d (rightE B k++C):=by
 rcases List.eq_nil_or_concat B with rfl | ⟨r,e,rfl⟩
 · exact zbd hC hd
 · rw [List.concat_eq_append] at *
   unfold rightE;rw [List.getLast?_append];simp only [List.getLast?_singleton,Option.some_or];split
   · rename_i hk
     have he:=hB e (by simp)
     have hm:=(zae.1 h).2.1;refine ⟨zgh hm hk,by rw [zgg.2 (by omega)];exact hd,?_⟩
     rw [zgg.1];rw [zbR] at hBC;exact hBC
   · exact zbd hC hd
theorem zfU {l ws:List Ex} {lba n:Int} (h:za2 0 l) (h0:0≤lba) (hw:za2 lba ws) (hwe:lastE lba ws≤lba+n):za2 0 (replE l lba n ws):=by
 have hs:=zdl l lba n;have hA:=ze3 l lba;have hB:=zcL h lba n;have hC:=zdk h lba n;have hch:=h;rw [hs,zae,zae,zbR] at hch;obtain ⟨⟨c1,c2⟩,c3⟩:=hch;unfold replE;generalize l.take (firstE l lba)=A at *;generalize midE l lba n=B at *;generalize l.drop (firstE l lba+B.length)=C at *;have hAl:lastE 0 A≤lba:=zgj h0 hA;obtain ⟨l1,l2⟩:=zjw c2 hAl (fun e he=>(hB e he).1)
 rw [List.append_assoc,List.append_assoc (leftE B lba++ws),List.append_assoc (leftE B lba),zae,zae,zae];refine ⟨c1,l1,zbd hw l2,zi0 c2 (fun e he=>(hB e he).2) hC c3 ?_⟩
 refine Int.le_trans ?_ hwe;generalize lastE (lastE 0 A) (leftE B lba)=d at l2;cases ws with
 | nil=>exact l2
 | cons e r=>exact Int.le_refl _
def zf6 (a b:Ex):Bool:=decide (b.lba=endE a∧fromE ⟨a.lba,a.n+b.n,a.ver,a.zone,a.off⟩ b.lba=b)
def zbn (x:Ex):List Ex→List Ex
 | []=>[x]
 | e::l=>if zf6 x e=true then zbn ⟨x.lba,x.n+e.n,x.ver,x.zone,x.off⟩ l else x::zbn e l
def joinE:List Ex→List Ex
 | []=>[]
 | x::l=>zbn x l
theorem zgD {a b:Ex} (ha:0<a.n):zf6 a b=true↔b.lba=endE a∧b.ver=a.ver∧b.zone=a.zone∧b.off=(if a.zone≠-1 then a.off+a.n*16 else a.off):=by
 unfold zf6;rw [decide_eq_true_eq];constructor
 · rintro ⟨h1,h2⟩
   unfold fromE at h2;rw [if_pos (by unfold endE at h1;simp only;omega)] at h2
   rw [←h2];refine ⟨by simp only;exact h1,rfl,rfl,?_⟩
   simp only;unfold endE at h1;split <;> omega
 · rintro ⟨h1,h2,h3,h4⟩
   refine ⟨h1,?_⟩;unfold fromE;unfold endE at h1;rw [if_pos (by simp only;omega)]
   obtain ⟨bl,bn,bv,bz,bo⟩:=b;simp only at *;subst h2 h3;simp only [Ex.mk.injEq,true_and];refine ⟨by omega,?_⟩
   rw [h4];split <;> omega
theorem zn0 {a b:Ex} (ha:mayE a) (hb:mayE b) (hg:zf6 a b=true):mayE ⟨a.lba,a.n+b.n,a.ver,a.zone,a.off⟩:=by
 obtain ⟨h1,h2,h3,h4⟩:=(zgD ha.pos.1).1 hg;obtain ⟨⟨p,q,r,s⟩,e1,e2,e3,e4,e5,e6⟩:=ha;obtain ⟨⟨p',q',r',s'⟩,f1,f2,f3,f4,f5,f6⟩:=hb;unfold endE at h1;refine ⟨⟨p,by simp only;omega,by simp only;omega,by simp only;omega⟩,e1,e2,e3,e4,e5,fun hz=>?_⟩
 simp only at hz ⊢;have:=f6 (by rw [h3];exact hz)
 rw [if_pos hz] at h4;omega
theorem zla {a b:Ex} {x:Int} (ha:0<a.n) (hb:0<b.n) (hg:zf6 a b=true) (l:List Ex):see (⟨a.lba,a.n+b.n,a.ver,a.zone,a.off⟩::l) x=see (a::b::l) x:=by
 obtain ⟨h1,h2,h3,h4⟩:=(zgD ha).1 hg;unfold endE at h1;rw [zax,zax,zax];have e1:hasE ⟨a.lba,a.n+b.n,a.ver,a.zone,a.off⟩ x=(hasE a x || hasE b x):=by
  unfold hasE endE;rw [Bool.eq_iff_iff];simp;omega
 rw [e1];by_cases ha1:hasE a x=true
 · simp [ha1,seeE]
 · simp only [Bool.not_eq_true] at ha1
   simp only [ha1,Bool.false_or,Bool.false_eq_true,if_false];split
   · unfold seeE
     simp only [Option.some.injEq,Prod.mk.injEq];refine ⟨h2.symm,h3.symm,?_⟩;rw [h3,h4,h1];split
     · rfl
     · omega
   · rfl
theorem zfg {c:Int}:∀ (l:List Ex) (x:Ex),za2 c (x::l)→za2 c (zbn x l)∧(∀ b,see (zbn x l) b=see (x::l) b)∧(zbn x l).length≤l.length+1
 | [],x,h=>⟨h,fun _=>rfl,by simp [zbn]⟩
 | e::l,x,h=>by
   unfold zbn;split
   · rename_i hg
     have hg0:=(zgD h.1.pos.1).1 hg;obtain ⟨h1,h2,h3⟩:=zfg (c:=c) l ⟨x.lba,x.n+e.n,x.ver,x.zone,x.off⟩ ⟨zn0 h.1 h.2.2.1 hg,h.2.1,by
      have:endE ⟨x.lba,x.n+e.n,x.ver,x.zone,x.off⟩=endE e:=by unfold endE at *;simp only;omega
      rw [this];exact h.2.2.2.2⟩
     exact ⟨h1,fun b=>by rw [h2 b,zla h.1.pos.1 h.2.2.1.pos.1 hg],by simp only [List.length_cons];omega⟩
   · obtain ⟨h1,h2,h3⟩:=zfg (c:=endE x) l e h.2.2
     exact ⟨⟨h.1,h.2.1,h1⟩,fun b=>by rw [zax,zax x,h2 b],by simp only [List.length_cons];omega⟩
theorem zck {c:Int} {l:List Ex} (h:za2 c l):za2 c (joinE l)∧(∀ b,see (joinE l) b=see l b)∧(joinE l).length≤l.length:=by
 cases l with
 | nil=>exact ⟨trivial,fun _=>rfl,Nat.le_refl _⟩
 | cons x l=>exact zfg l x h
def gap1 (a b:Int):List Ex:=if a<b then [⟨a,b-a,0,-1,0⟩] else []
def gapsE:Int→List Ex→Int→List Ex
 | a,[],z=>gap1 a z
 | a,x::l,z=>gap1 a x.lba++gapsE (endE x) l z
def zbI:Int→List Ex→Int→List Ex
 | a,[],z=>gap1 a z
 | a,x::l,z=>gap1 a x.lba++x::zbI (endE x) l z
def lookE (m:List Ex) (lba n:Int):List Ex:=zbI lba (partE m lba n) (lba+n)
theorem zdI:∀ (l:List Ex) (a z:Int),(gapsE a l z++l).Perm (zbI a l z)
 | [],a,z=>by simp [gapsE,zbI]
 | x::l,a,z=>by
   unfold gapsE zbI;rw [List.append_assoc];exact ((List.perm_middle).trans ((zdI l (endE x) z).cons x)).append_left _
theorem zgs {a b:Int} {p:Ex} (h:p∈gap1 a b):a<b∧p=⟨a,b-a,0,-1,0⟩:=by
 unfold gap1 at h;split at h
 · rename_i h1;exact ⟨h1,by simpa using h⟩
 · cases h
theorem zc1 {c b:Int} {l:List Ex} (h:za2 c l) {e:Ex} (he:e∈l) (hb:hasE e b=true):see l b=some (seeE e b):=by
 induction l generalizing c with
 | nil=>cases he
 | cons x l ih=>
   rw [zax];rcases List.mem_cons.1 he with rfl | he
   · rw [if_pos hb]
   · have h1:=zai h.2.2 e he
     have hx:hasE x b=false:=by
      unfold hasE at hb ⊢;simp only [decide_eq_true_eq] at hb;simp;intro _;have:=h1.2;omega
     rw [hx,if_neg (by simp)]
     exact ih h.2.2 he
theorem zbj {c:Int} {l:List Ex} (h:za2 c l):c+l.length≤lastE c l:=by
 induction l generalizing c with
 | nil=>simp [lastE]
 | cons e l ih=>
   have h1:=ih h.2.2;have h2:=h.1.pos;have h3:=h.2.1;unfold endE at h1;simp only [lastE,endE,List.length_cons];omega
theorem zjK {c B:Int} {l:List Ex} (h:za2 c l) (hc:c≤B) (hB:∀ b,B≤b→see l b=none):lastE c l≤B:=by
 refine zgj hc fun e he=>?_
 have h1:=(zai h e he).1.pos;rcases Int.lt_or_le B (endE e) with h2 | h2
 · have hb:hasE e (endE e-1)=true:=by unfold hasE endE;simp;omega
   have:=zc1 h he hb;rw [hB _ (by omega)] at this
   cases this
 · exact h2
theorem zf5 {B:Int} {l:List Ex} (h:za2 0 l) (h0:0≤B) (hB:∀ b,B≤b→see l b=none):(l.length:Int)≤B:=by
 have h1:=zbj h;have h2:=zjK h h0 hB;omega
theorem zhp {k z:Int} (hkz:k<z):∀ (B:List Ex) (c d:Int),za2 c B→(∀ e∈B,k<endE e∧e.lba<z)→d≤max k c→d≤z →
 za2 d (B.map fun e=>uptoE (fromE e k) z)∧lastE d (B.map fun e=>uptoE (fromE e k) z)≤z
 | [],c,d,_,_,_,hz=>⟨trivial,hz⟩
 | e::B,c,d,h,hB,hd,hz=>by
   obtain ⟨h1,h2⟩:=hB e (List.mem_cons_self ..);have hf:=zgh h.1 h1;have hl:(fromE e k).lba=max k e.lba:=by unfold fromE;split <;> (try simp only) <;> omega
   have hu:=ziS (k:=z) hf (by omega)
   have hce:=h.2.1;have he:endE (uptoE (fromE e k) z)=min (endE e) z:=by
    have:=(zgg (e:=e) (k:=k)).1;unfold endE uptoE at *;simp only;omega
   have ih:=zhp hkz B (endE e) (endE (uptoE (fromE e k) z)) h.2.2 (fun x hx=>hB x (List.mem_cons_of_mem _ hx)) (by omega) (by omega)
   simp only [List.map_cons,za2,lastE];refine ⟨⟨hu,?_,ih.1⟩,ih.2⟩;show d≤(fromE e k).lba;omega
theorem zka {k z:Int}:∀ (B:List Ex) (c b:Int),za2 c B→see (B.map fun e=>uptoE (fromE e k) z) b=if k≤b∧b<z then see B b else none
 | [],c,b,_=>by simp [zcn]
 | e::B,c,b,h=>by
   have ih:=zka (k:=k) (z:=z) B (endE e) b h.2.2;rw [List.map_cons,zax,zax,ih,(zdE _ _ _).1,(zdE _ z _).2];obtain ⟨h1,h2⟩:=zgn e k b;rw [h1];by_cases hb:hasE e b=true
   · by_cases hk:k≤b∧b<z
     · have hx:hasE (fromE e k) b=true:=by rw [h1,hb];simp;omega
       rw [h2 hx,hb,if_pos (show (true && decide (e.lba<k→k≤b) && decide (b<z))=true by simp;omega),if_pos hk,if_pos rfl]
     · have hno:¬(hasE e b && decide (e.lba<k→k≤b) && decide (b<z))=true:=by
        unfold hasE at hb ⊢;simp at hb ⊢;intro h3 h4 h5;omega
       rw [if_neg hk,if_neg hno];split
       · rename_i h6
         have h7:k≤b∧b<z:=h6;exact absurd h7 hk
       · rfl
   · simp only [Bool.not_eq_true] at hb
     rw [hb];simp
theorem zbJ {m:List Ex} {lba n:Int} (h:za2 0 m) (hb:za9 lba n) :
 za2 lba (partE m lba n)∧lastE lba (partE m lba n)≤lba+n∧∀ b,see (partE m lba n) b=if lba≤b∧b<lba+n then see m b else none:=by
 have hn:lba<lba+n:=by have:=hb.2.1;omega
 have hs:=zdl m lba n;have hA:=ze3 m lba;have hB:=zcL h lba n;have hC:=zdk h lba n;have hch:=h;rw [hs,zae,zae] at hch;obtain ⟨⟨_,c2⟩,_⟩:=hch;obtain ⟨h1,h2⟩:=zhp hn (midE m lba n) _ lba c2 hB (by omega) (by omega)
 refine ⟨h1,h2,fun b=>?_⟩
 unfold partE;rw [zka _ _ _ c2];split
 · rename_i hb
   conv=>rhs;rw [hs]
   rw [zaO,zaO,zcT hC hb.2];have hAn:see (m.take (firstE m lba)) b=none:=by
    unfold see;rw [List.find?_eq_none.2]
    · rfl
    · intro e he
      have:=hA e he;unfold hasE;simp;intro h2;omega
   rw [hAn];simp
 · rfl
theorem zn5 {m:List Ex} {b:Int} (h:za2 0 m) (hb:za9 b 1):partE m b 1=match see m b with | none=>[] | some t=>[⟨b,1,t.1,t.2.1,t.2.2⟩]:=by
 obtain ⟨h1,h2,h3⟩:=zbJ h hb;have h4:=h3 b;rw [if_pos (by omega)] at h4
 rw [←h4];cases hp:partE m b 1 with
 | nil=>rfl
 | cons x r=>
   rw [hp] at h1 h2;have hx:=h1.1.pos;have hx2:=h1.2.1;have hr:=zbj h1.2.2;simp only [lastE] at h2;have hn:r=[]:=List.eq_nil_of_length_eq_zero (by unfold endE at *;omega)
   subst hn;have hl:x.lba=b∧x.n=1:=by simp only [lastE] at h2;unfold endE at h2;omega
   have hh:hasE x b=true:=by unfold hasE endE;simp;omega
   rw [zax,if_pos hh];obtain ⟨xl,xn,xv,xz,xo⟩:=x;simp only at hl;obtain ⟨rfl,rfl⟩:=hl;have h0:=h1.1.2.2.2.2.2.1;unfold seeE;simp only [List.cons.injEq,Ex.mk.injEq,true_and,and_true];simp only at h0;split
   · rename_i hz;exact h0 hz
   · omega
def GapE (p:Ex):Prop:=p.ver=0∧p.zone = -1∧p.off=0
theorem zhx:∀ (l:List Ex) (a z:Int),za2 a l→lastE a l≤z →
 (∀ p∈zbI a l z,0<p.n∧a≤p.lba∧endE p≤z∧((GapE p∧∀ b,hasE p b=true→see l b=none)∨(p∈l∧mayE p∧∀ b,hasE p b=true→see l b=some (seeE p b)))) ∧
 (∀ b,a≤b→b<z→∃ p∈zbI a l z,hasE p b=true)∧(zbI a l z).Pairwise (fun p q=>endE p≤q.lba)
 | [],a,z,_,hz=>by
   simp only [lastE] at hz;refine ⟨?_,?_,?_⟩
   · intro p hp
     obtain ⟨h1,rfl⟩:=zgs hp;exact ⟨by simp only;omega,Int.le_refl _,by unfold endE;simp only;omega,.inl ⟨⟨rfl,rfl,rfl⟩,fun b _=>rfl⟩⟩
   · intro b h1 h2
     refine ⟨⟨a,z-a,0,-1,0⟩,by unfold zbI gap1;rw [if_pos (by omega)];simp,by unfold hasE endE;simp;omega⟩
   · unfold zbI gap1;split <;> simp
 | x::l,a,z,h,hz=>by
   obtain ⟨h1,h2,h3⟩:=zhx l (endE x) z h.2.2 hz;have hx:=h.1.pos;have hax:=h.2.1;have hez:endE x≤z:=by have:=zdX h.2.2;simp only [lastE] at hz;omega
   refine ⟨?_,?_,?_⟩
   · intro p hp
     unfold zbI at hp;rcases List.mem_append.1 hp with hp | hp
     · obtain ⟨h4,rfl⟩:=zgs hp
       refine ⟨by simp only;omega,Int.le_refl _,by unfold endE at *;simp only;omega,.inl ⟨⟨rfl,rfl,rfl⟩,fun b hb=>?_⟩⟩
       have hc:za2 x.lba (x::l):=⟨h.1,Int.le_refl _,h.2.2⟩;refine zcT hc ?_;unfold hasE endE at hb;simp at hb;omega
     · rcases List.mem_cons.1 hp with rfl | hp
       · exact ⟨hx.1,hax,hez,.inr ⟨List.mem_cons_self ..,h.1,fun b hb=>zc1 h (List.mem_cons_self ..) hb⟩⟩
       · obtain ⟨q1,q2,q3,q4⟩:=h1 p hp
         have hno:∀ b,hasE p b=true→hasE x b=false:=by
          intro b hb;unfold hasE at hb ⊢;simp only [decide_eq_true_eq] at hb;simp;omega
         refine ⟨q1,by unfold endE at q2;omega,q3,?_⟩
         rcases q4 with ⟨g,q4⟩ | ⟨g,g2,q4⟩
         · exact .inl ⟨g,fun b hb=>by rw [zax,hno b hb,if_neg (by simp)];exact q4 b hb⟩
         · exact .inr ⟨List.mem_cons_of_mem _ g,g2,fun b hb=>by rw [zax,hno b hb,if_neg (by simp)];exact q4 b hb⟩
   · intro b hb1 hb2
     unfold zbI;by_cases h4:b<x.lba
     · refine ⟨⟨a,x.lba-a,0,-1,0⟩,List.mem_append_left _ (by unfold gap1;rw [if_pos (by omega)];simp),by unfold hasE endE;simp;omega⟩
     · by_cases h5:b<endE x
       · exact ⟨x,List.mem_append_right _ (List.mem_cons_self ..),by unfold hasE;simp;omega⟩
       · obtain ⟨p,hp,hpb⟩:=h2 b (by omega) hb2
         exact ⟨p,List.mem_append_right _ (List.mem_cons_of_mem _ hp),hpb⟩
   · unfold zbI
     rw [List.pairwise_append];refine ⟨by unfold gap1;split <;> simp,List.pairwise_cons.2 ⟨fun p hp=>(h1 p hp).2.1,h3⟩,?_⟩
     intro p hp q hq;obtain ⟨h4,rfl⟩:=zgs hp;have:endE ⟨a,x.lba-a,0,-1,0⟩=x.lba:=by unfold endE;simp only;omega
     rw [this];rcases List.mem_cons.1 hq with rfl | hq
     · exact Int.le_refl _
     · have:=(h1 q hq).2.1
       unfold endE at this;omega
theorem zc3 {m:List Ex} {lba n:Int} (h:za2 0 m) (hb:za9 lba n) :
 (∀ p∈lookE m lba n,0<p.n∧lba≤p.lba∧endE p≤lba+n∧((GapE p∧∀ b,hasE p b=true→see m b=none)∨(mayE p∧∀ b,hasE p b=true→see m b=some (seeE p b)))) ∧
 (∀ b,lba≤b→b<lba+n→∃ p∈lookE m lba n,hasE p b=true)∧(lookE m lba n).Pairwise (fun p q=>endE p≤q.lba):=by
 obtain ⟨h1,h2,h3⟩:=zbJ h hb;obtain ⟨g1,g2,g3⟩:=zhx (partE m lba n) lba (lba+n) h1 h2;refine ⟨fun p hp=>?_,g2,g3⟩
 obtain ⟨q1,q2,q3,q4⟩:=g1 p hp;have hin:∀ b,hasE p b=true→see (partE m lba n) b=see m b:=by
  intro b hb;rw [h3 b,if_pos];unfold hasE at hb;simp only [decide_eq_true_eq] at hb;omega
 refine ⟨q1,q2,q3,?_⟩;rcases q4 with ⟨g,q4⟩ | ⟨-,g,q4⟩
 · exact .inl ⟨g,fun b hb=>by rw [←hin b hb];exact q4 b hb⟩
 · exact .inr ⟨g,fun b hb=>by rw [←hin b hb];exact q4 b hb⟩
def withinE (e:Ex) (lba n:Int):Ex:=⟨lba,n,e.ver,e.zone,if e.zone≠-1 then e.off+16*(lba-e.lba) else e.off⟩
def newE (m:List Ex) (e p:Ex):Bool:=(see m p.lba).isNone || decide (p.ver<e.ver)
def zgU (m:List Ex) (e:Ex):List Ex:=((lookE m e.lba e.n).filter (newE m e)).map fun p=>withinE e p.lba p.n
def put1 (l:List Ex) (w:Ex):List Ex:=replE l w.lba w.n [w]
def putE (m ws:List Ex):List Ex:=joinE (ws.foldl put1 m)
def zam (m:List Ex) (e:Ex):List Ex:=putE (joinE m) (zgU (joinE m) e)
theorem zf8 {e:Ex} {lba n:Int} (h:mayE e) (hn:0<n) (h1:e.lba≤lba) (h2:lba+n≤endE e):mayE (withinE e lba n)∧∀ b,hasE (withinE e lba n) b=true→hasE e b=true∧seeE (withinE e lba n) b=seeE e b:=by
 obtain ⟨⟨a,b,c,d⟩,e1,e2,e3,e4,e5,e6⟩:=h;unfold endE at h2;constructor
 · unfold withinE
   refine ⟨⟨by simp only;omega,by simp only;omega,by simp only;omega,by simp only;omega⟩,e1,e2,e3,?_,?_,?_⟩
   · simp only;split <;> omega
   · intro hz;simp only at hz ⊢;rw [if_neg (by omega)];exact e5 hz
   · intro hz;simp only at hz ⊢;rw [if_pos hz];have:=e6 hz;omega
 · intro x hx
   unfold hasE endE withinE at *;simp only [decide_eq_true_eq] at hx ⊢;refine ⟨by omega,?_⟩
   unfold seeE;simp only [Prod.mk.injEq,true_and];by_cases hz:e.zone = -1
   · rw [if_pos hz,if_pos hz]
   · rw [if_neg hz,if_neg hz,if_pos hz];omega
theorem zge {m:List Ex} {e:Ex} (h:za2 0 m) (he:mayE e) :
 (∀ w∈zgU m e,mayE w∧∀ b,hasE w b=true→hasE e b=true∧seeE w b=seeE e b) ∧
 (∀ b,(∃ w∈zgU m e,hasE w b=true)↔hasE e b=true∧∀ t,see m b=some t→t.1<e.ver):=by
 obtain ⟨h1,h2,h3⟩:=zc3 h he.1;have hone:∀ p∈lookE m e.lba e.n,∀ b,hasE p b=true→(newE m e p=true↔∀ t,see m b=some t→t.1<e.ver):=by
  intro p hp b hb;obtain ⟨q1,q2,q3,q4⟩:=h1 p hp;have hpl:hasE p p.lba=true:=by unfold hasE endE;simp;omega
  unfold newE;rcases q4 with ⟨g,q4⟩ | ⟨g,q4⟩
  · rw [q4 _ hpl,q4 _ hb];simp
  · rw [q4 _ hpl,q4 _ hb]
    simp [seeE]
 constructor
 · intro w hw
   obtain ⟨p,hp,rfl⟩:=List.mem_map.1 hw;obtain ⟨q1,q2,q3,_⟩:=h1 p ((List.mem_filter.1 hp).1);exact zf8 he q1 q2 q3
 · intro b
   constructor
   · rintro ⟨w,hw,hb⟩
     obtain ⟨p,hp,rfl⟩:=List.mem_map.1 hw;obtain ⟨hp1,hp2⟩:=List.mem_filter.1 hp;obtain ⟨q1,q2,q3,_⟩:=h1 p hp1;have hpb:hasE p b=true:=hb;exact ⟨((zf8 he q1 q2 q3).2 b hb).1,(hone p hp1 b hpb).1 hp2⟩
   · rintro ⟨hb,hn⟩
     unfold hasE endE at hb;simp only [decide_eq_true_eq] at hb;obtain ⟨p,hp,hpb⟩:=h2 b hb.1 hb.2;exact ⟨withinE e p.lba p.n,List.mem_map.2 ⟨p,List.mem_filter.2 ⟨hp,(hone p hp b hpb).2 hn⟩,rfl⟩,hpb⟩
theorem zgm {e:Ex}:∀ (ws m:List Ex),za2 0 m→(∀ w∈ws,mayE w∧∀ b,hasE w b=true→hasE e b=true∧seeE w b=seeE e b) →
 za2 0 (ws.foldl put1 m)∧(∀ b,(∃ w∈ws,hasE w b=true)→see (ws.foldl put1 m) b=some (seeE e b))∧(∀ b,(¬ ∃ w∈ws,hasE w b=true)→see (ws.foldl put1 m) b=see m b)
 | [],m,h,_=>⟨h,fun b hb=>by simp at hb,fun b _=>rfl⟩
 | w::ws,m,h,hw=>by
   obtain ⟨hw1,hw2⟩:=hw w (List.mem_cons_self ..);have hc:za2 0 (put1 m w):=zfU h hw1.pos.2 ⟨hw1,Int.le_refl _,trivial⟩ (Int.le_refl _);obtain ⟨h1,h2,h3⟩:=zgm (e:=e) ws (put1 m w) hc fun x hx=>hw x (List.mem_cons_of_mem _ hx)
   have hs:=fun b=>znk (l:=m) (ws:=[w]) (lba:=w.lba) (n:=w.n) (b:=b) h hw1.pos.1 (fun x hx=>by simp only [List.mem_singleton] at hx;subst hx;exact ⟨Int.le_refl _,Int.le_refl _⟩)
   refine ⟨h1,fun b hb=>?_,fun b hb=>?_⟩
   · by_cases hx:∃ x∈ws,hasE x b=true
     · exact h2 b hx
     · rw [List.foldl_cons,h3 b hx]
       have hwb:hasE w b=true:=by
        obtain ⟨x,hx1,hx2⟩:=hb;rcases List.mem_cons.1 hx1 with rfl | hx1
        · exact hx2
        · exact absurd ⟨x,hx1,hx2⟩ hx
       have hin:w.lba≤b∧b<w.lba+w.n:=by unfold hasE endE at hwb;simpa using hwb
       unfold put1;rw [hs b,if_pos hin,zax,if_pos hwb,(hw2 b hwb).2]
   · have hx:¬ ∃ x∈ws,hasE x b=true:=fun ⟨x,hx1,hx2⟩=>hb ⟨x,List.mem_cons_of_mem _ hx1,hx2⟩
     rw [List.foldl_cons,h3 b hx];have hwb:¬hasE w b=true:=fun hx=>hb ⟨w,List.mem_cons_self ..,hx⟩
     unfold put1;rw [hs b,if_neg];intro hin;apply hwb;unfold hasE endE;simpa using hin
theorem zdz {m:List Ex} {e:Ex} (h:za2 0 m) (he:mayE e) :
 za2 0 (zam m e)∧(∀ b,(hasE e b=true∧∀ t,see m b=some t→t.1<e.ver)→see (zam m e) b=some (seeE e b)) ∧
  (∀ b,(¬(hasE e b=true∧∀ t,see m b=some t→t.1<e.ver))→see (zam m e) b=see m b):=by
 obtain ⟨j1,j2,j3⟩:=zck h;obtain ⟨n1,n2⟩:=zge j1 he;obtain ⟨p1,p2,p3⟩:=zgm (zgU (joinE m) e) (joinE m) j1 n1;obtain ⟨k1,k2,k3⟩:=zck p1;unfold zam putE;refine ⟨k1,fun b hb=>?_,fun b hb=>?_⟩
 · rw [k2 b]
   exact p2 b ((n2 b).2 (by rw [j2 b];exact hb))
 · rw [k2 b,p3 b (fun hx=>hb (by rw [←j2 b];exact (n2 b).1 hx)),j2 b]
def Best (L:List Ex) (b:Int):Option (Int × Int × Int)→Prop
 | none=>∀ e∈L,hasE e b=false
 | some t=>∃ e∈L,hasE e b=true∧seeE e b=t∧∀ x∈L,hasE x b=true→x.ver≤e.ver
theorem Best.offer {L m:List Ex} {e:Ex} {b:Int} (hm:Best L b (see m b)) (h:za2 0 m) (he:mayE e):Best (L++[e]) b (see (zam m e) b):=by
 obtain ⟨_,o1,o2⟩:=zdz h he;by_cases hn:hasE e b=true∧∀ t,see m b=some t→t.1<e.ver
 · rw [o1 b hn]
   refine ⟨e,by simp,hn.1,rfl,fun x hx hxb=>?_⟩
   rcases List.mem_append.1 hx with hx | hx
   · cases hs:see m b with
     | none=>
       rw [hs] at hm;rw [hm x hx] at hxb;cases hxb
     | some t=>
       rw [hs] at hm;obtain ⟨y,y1,y2,y3,y4⟩:=hm;have h5:=y4 x hx hxb;have h6:=hn.2 t hs;rw [←y3] at h6;have h7:y.ver<e.ver:=h6;omega
   · simp only [List.mem_singleton] at hx;subst hx;exact Int.le_refl _
 · rw [o2 b hn]
   cases hs:see m b with
   | none=>
     rw [hs] at hm;intro x hx;rcases List.mem_append.1 hx with hx | hx
     · exact hm x hx
     · simp only [List.mem_singleton] at hx
       subst hx;rcases Bool.eq_false_or_eq_true (hasE x b) with h5 | h5
       · exact absurd ⟨h5,fun t ht=>by rw [hs] at ht;cases ht⟩ hn
       · exact h5
   | some t=>
     rw [hs] at hm;obtain ⟨y,y1,y2,y3,y4⟩:=hm;refine ⟨y,List.mem_append_left _ y1,y2,y3,fun x hx hxb=>?_⟩
     rcases List.mem_append.1 hx with hx | hx
     · exact y4 x hx hxb
     · simp only [List.mem_singleton] at hx
       subst hx;have h5:¬t.1<x.ver:=fun h6=>hn ⟨hxb,fun t' ht=>by rw [hs] at ht;cases ht;exact h6⟩
       rw [←y3] at h5;have h7:¬y.ver<x.ver:=h5;omega
end Go.Proofs.YthblkdnijhphhaaGreat
