/- A part of the proof. -/
import Derived.Test.YtcapmeefiglfjaaGreatLib
import Derived.Test.YtcapmeefiglfjaaGreatRows
import Derived.Lib.SmallJoins
import Derived.Laws.CopyOwn
set_option maxRecDepth 100000
namespace Go.Proofs.YtcapmeefiglfjaaGreat
open Go.RowKit
theorem IsB.one {w:World} {K:Nat→Prop} {v:Value} {l:List UInt8} (h:IsB w K v l):v.oneCell'=true:=by
 obtain ⟨A,c,rfl,_⟩:=h;rfl
structure Rp (α:Type) where
 size:Nat
 is:World→(Nat→Prop)→List Value→α→Prop
 len:∀ {w:World} {K:Nat→Prop} {cs:List Value} {a:α},is w K cs a→cs.length=size
 keep:∀ {w w':World} {K:Nat→Prop} {cs:List Value} {a:α},is w K cs a→(∀ p:Addr,K p.block→p.block<w.heap.size→w'.cell? p=w.cell? p)→is w' K cs a
 more:∀ {w:World} {K K':Nat→Prop} {cs:List Value} {a:α},is w K cs a→(∀ b,K b→K' b)→is w K' cs a
 one:∀ {w:World} {K:Nat→Prop} {cs:List Value} {a:α},is w K cs a→∀ u∈cs,u.oneCell'=true
theorem cW (a:Addr):a.add 0=a:=by simp [Addr.add]
theorem bT (a:Addr) (i:Nat) (h:i≠0):a.add i=⟨a.block,a.off+i,none⟩:=by unfold Addr.add;simp [h]
section
variable {α:Type} {R:Rp α} {w w':World} {K K':Nat→Prop} {cs:List Value} {a:α}
def Rp.int:Rp Int:=⟨1,fun _ _ cs n=>cs=[.int .i64 n]∧-9223372036854775808≤n∧n≤9223372036854775807,by rintro _ _ _ _ ⟨rfl,_⟩;rfl,fun h _=>h,fun h _=>h,by rintro _ _ _ _ ⟨rfl,_⟩ u hu;simp at hu;subst hu;rfl⟩
def Rp.bytes:Rp (List UInt8):=⟨1,fun w K cs l=>∃ v,cs=[v]∧IsB w K v l,by rintro _ _ _ _ ⟨v,rfl,_⟩;rfl,
 by rintro _ _ _ _ _ ⟨v,e,h⟩ hk;exact ⟨v,e,h.keep hk⟩,by rintro _ _ _ _ _ ⟨v,e,h⟩ hk;exact ⟨v,e,h.more hk⟩,
 by rintro _ _ _ _ ⟨v,rfl,A,c,rfl,_⟩ u hu;simp at hu;subst hu;rfl⟩
def aI (R:Rp α) (w:World) (K:Nat→Prop):List Value→List α→Prop
 | cs,[]=>cs=[]
 | cs,a::l=>∃ c1 c2,cs=c1++c2∧R.is w K c1 a∧aI R w K c2 l
variable {l m:List α} {ds:List Value}
theorem aI.len (h:aI R w K cs l):cs.length=l.length*R.size:=by
 induction l generalizing cs with
 | nil=>cases h;simp
 | cons a l ih=>
   obtain ⟨c1,c2,rfl,h1,h2⟩:=h;rw [zie,R.len h1,ih h2,List.length_cons,zk6,zkG,Nat.add_comm]
theorem aI.keep (h:aI R w K cs l) (hk:∀ p:Addr,K p.block→p.block<w.heap.size→w'.cell? p=w.cell? p):aI R w' K cs l:=by
 induction l generalizing cs with
 | nil=>exact h
 | cons a l ih=>obtain ⟨c1,c2,e,h1,h2⟩:=h;exact ⟨c1,c2,e,R.keep h1 hk,ih h2⟩
theorem aI.more (h:aI R w K cs l) (hk:∀ b,K b→K' b):aI R w K' cs l:=by
 induction l generalizing cs with
 | nil=>exact h
 | cons a l ih=>obtain ⟨c1,c2,e,h1,h2⟩:=h;exact ⟨c1,c2,e,R.more h1 hk,ih h2⟩
theorem aI.one (h:aI R w K cs l):∀ u∈cs,u.oneCell'=true:=by
 induction l generalizing cs with
 | nil=>cases h;simp
 | cons a l ih=>
   obtain ⟨c1,c2,rfl,h1,h2⟩:=h;intro u hu;rcases ziA.1 hu with hu | hu
   · exact R.one h1 u hu
   · exact ih h2 u hu
theorem aI.append (h:aI R w K cs l) (h':aI R w K ds m):aI R w K (cs++ds) (l++m):=by
 induction l generalizing cs with
 | nil=>cases h;simpa using h'
 | cons a l ih=>obtain ⟨c1,c2,rfl,h1,h2⟩:=h;exact ⟨c1,c2++ds,by simp,h1,ih h2⟩
theorem aI.single (h:R.is w K cs a):aI R w K cs [a]:=⟨cs,[],by simp,h,rfl⟩
theorem aI.snoc (h:aI R w K cs l) (h':R.is w K ds a):aI R w K (cs++ds) (l++[a]):=h.append (aI.single h')
theorem aI.step (h:aI R w K cs l) (hb:Below w.heap.size w w'):aI R w' K cs l:=h.keep fun _ _ hp=>hb.cell hp
theorem aI.alloc (h:aI R w K cs l) (o:Obj):aI R (w.alloc o) K cs l:=h.keep fun p _ hp=>World.cell?_alloc_lt w o p hp
theorem aI.drop (h:aI R w K cs l) (k:Nat):aI R w K (cs.drop (k*R.size)) (l.drop k):=by
 induction l generalizing cs k with
 | nil=>cases h;simp [aI]
 | cons a l ih=>
   obtain ⟨c1,c2,rfl,h1,h2⟩:=h;rcases k with _ | k
   · simpa using ⟨c1,c2,rfl,h1,h2⟩
   · have e:=R.len h1
     have:(k+1)*R.size=c1.length+k*R.size:=by rw [e,zk6,zkG,Nat.add_comm]
     rw [this,List.drop_length_add_append,List.drop_succ_cons];exact ih h2 k
theorem aI.take (h:aI R w K cs l) (k:Nat):aI R w K (cs.take (k*R.size)) (l.take k):=by
 induction l generalizing cs k with
 | nil=>cases h;simp [aI]
 | cons a l ih=>
   obtain ⟨c1,c2,rfl,h1,h2⟩:=h;rcases k with _ | k
   · simp [aI]
   · have e:=R.len h1
     have:(k+1)*R.size=c1.length+k*R.size:=by rw [e,zk6,zkG,Nat.add_comm]
     rw [this,List.take_length_add_append,List.take_succ_cons];exact ⟨c1,_,rfl,h1,ih h2 k⟩
theorem aI.at_ (h:aI R w K cs l) {i:Nat} {x:α} (hx:l[i]?=some x):∃ es,R.is w K es x∧∀ (j:Nat) u,es[j]?=some u→cs[i*R.size+j]?=some u:=by
 induction l generalizing cs i with
 | nil=>simp at hx
 | cons a l ih=>
   obtain ⟨c1,c2,rfl,h1,h2⟩:=h;have e:=R.len h1;rcases i with _ | i
   · simp only [List.getElem?_cons_zero,ziL] at hx
     subst hx;refine ⟨c1,h1,fun j u hu=>?_⟩
     rw [zjZ,zj5,zjx (zil.1 hu).1];exact hu
   · obtain ⟨es,hes,hj⟩:=ih h2 (i:=i) (by simpa using hx)
     refine ⟨es,hes,fun j u hu=>?_⟩
     have:(i+1)*R.size+j=c1.length+(i*R.size+j):=by rw [e,zk6,zkG];omega
     rw [this,zjt (by omega),Nat.add_sub_cancel_left]
     exact hj j u hu
def IsL (R:Rp α) (w:World) (K:Nat→Prop) (v:Value) (l:List α):Prop:=
 ∃ A c cs,v=.slice A l.length c∧aG w K R.size A l.length cs∧aI R w K cs l∧l.length≤c∧c≤9223372036854775807∧l.length≤140737488355328
variable {v:Value}
theorem IsL.keep (h:IsL R w K v l) (hk:∀ p:Addr,K p.block→p.block<w.heap.size→w'.cell? p=w.cell? p):IsL R w' K v l:=by
 obtain ⟨A,c,cs,e,h1,h2,h3⟩:=h;exact ⟨A,c,cs,e,h1.keep hk,h2.keep hk,h3⟩
theorem IsL.more (h:IsL R w K v l) (hk:∀ b,K b→K' b):IsL R w K' v l:=by
 obtain ⟨A,c,cs,e,h1,h2,h3⟩:=h;exact ⟨A,c,cs,e,h1.more hk,h2.more hk,h3⟩
theorem IsL.step (h:IsL R w K v l) (hb:Below w.heap.size w w'):IsL R w' K v l:=h.keep fun _ _ hp=>hb.cell hp
theorem IsL.alloc (h:IsL R w K v l) (o:Obj):IsL R (w.alloc o) K v l:=h.keep fun p _ hp=>World.cell?_alloc_lt w o p hp
theorem IsL.nil_ (w:World) (K:Nat→Prop):IsL R w K (.slice none 0 0) []:=⟨none,0,[],rfl,aG.none_,rfl,by simp,by omega,by simp⟩
theorem IsL.len (h:IsL R w K v l):l.length≤140737488355328:=by obtain ⟨A,c,cs,e,h1,h2,h3,h4,h5⟩:=h;exact h5
theorem IsL.form (h:IsL R w K v l):∃ A c,v=.slice A l.length c∧l.length≤c∧c≤9223372036854775807:=by obtain ⟨A,c,cs,e,h1,h2,h3,h4,h5⟩:=h;exact ⟨A,c,e,h3,h4⟩
theorem IsL.open_ {A:Option Addr} {n c:Nat} (h:IsL R w K (.slice A n c) l):n=l.length∧(∃ cs,aG w K R.size A l.length cs∧aI R w K cs l)∧l.length≤c∧c≤9223372036854775807∧l.length≤140737488355328:=by
 obtain ⟨A',c',cs,e,h1,h2,h3⟩:=h;injection e with e1 e2 e3;subst e1;subst e3;exact ⟨e2,⟨cs,h1,h2⟩,h3⟩
theorem IsL.at_ {A:Option Addr} {n c:Nat} (h:IsL R w K (.slice A n c) l) {i:Nat} {x:α} (hx:l[i]?=some x) :
 ∃ ad es,A=some ad∧K ad.block∧R.is w K es x∧∀ (j:Nat) u,es[j]?=some u→w.cell? ((ad.add (i*R.size)).add j)=some u:=by
 obtain ⟨A',c',cs,e,h1,h2,h3⟩:=h;injection e with e1 e2 e3;subst e1;have hi:=(zil.1 hx).1;obtain ⟨ad,ea,hK,hc⟩:=h1.2 (by omega)
 obtain ⟨es,hes,hj⟩:=h2.at_ hx;exact ⟨ad,es,ea,hK,hes,fun j u hu=>by rw [mI];exact hc _ u (hj j u hu)⟩
def zf8 (R:Rp α) (w:World) (base:Nat) (e:TypeId) (K:Nat→Prop) (v:Value) (l:List α):Prop:=
 ∃ A c cs,v=.slice A l.length c∧w.ownsRow base e R.size (.slice A l.length c) l.length cs∧aI R w K cs l
variable {base base':Nat} {e:TypeId}
theorem zf8.isL (h:zf8 R w base e K v l) (hl:l.length≤140737488355328):IsL R w (fun b=>base≤b∨K b) v l:=by
 obtain ⟨A,c,cs,rfl,h1,h2⟩:=h;exact ⟨A,c,cs,rfl,(aG.of_own_ge h1).more (fun _ h=>.inl h),h2.more (fun _ h=>.inr h),cD h1,bF h1,hl⟩
end
theorem RpL.one {α:Type} {R:Rp α} {w:World} {K:Nat→Prop} {v:Value} {l:List α} (h:IsL R w K v l):v.oneCell'=true:=by
 obtain ⟨A,c,rfl,_⟩:=h.form;rfl
def I63 (l:List Int):Prop:=∀ n∈l,-9223372036854775808≤n∧n≤9223372036854775807
theorem rI {w:World} {K:Nat→Prop}:∀ {l:List Int},I63 l→aI Rp.int w K (l.map I64) l
 | [],_=>rfl
 | n::l,h=>⟨[.int .i64 n],l.map I64,rfl,⟨rfl,h n (zih ..)⟩,rI fun m hm=>h m (zii _ hm)⟩
theorem qA {w:World} {K:Nat→Prop}:∀ {l:List Int} {cs:List Value},aI Rp.int w K cs l→cs=l.map I64∧I63 l
 | [],_,h=>⟨h,fun _ h=>by cases h⟩
 | n::l,_,⟨c1,c2,e,⟨h1,h2⟩,h3⟩=>by
   obtain ⟨e2,h4⟩:=qA h3;refine ⟨by rw [e,h1,e2];rfl,fun m hm=>?_⟩
   rcases zim.1 hm with rfl | hm
   · exact h2
   · exact h4 m hm
theorem IsB.lt {w:World} {K:Nat→Prop} {v:Value} {l:List UInt8} (h:IsB w K v l):IsB w (fun b=>K b∧b<w.heap.size) v l:=by
 obtain ⟨A,c,rfl,hr,h1⟩:=h;exact ⟨A,c,rfl,hr.lt (by omega),h1⟩
def aB (f:World→Prop):Prop:=∀ w w':World,f w→Below w.heap.size w w'→f w'
theorem aB.bytes {K:Nat→Prop} {v:Value} {l:List UInt8}:aB (fun w=>IsB w K v l):=fun _ _ h hb=>h.step hb
theorem aB.list {α:Type} {R:Rp α} {K:Nat→Prop} {v:Value} {l:List α}:aB (fun w=>IsL R w K v l):=fun _ _ h hb=>h.step hb
structure Kn (B:Nat) (w0 w:World) (bs:List (Nat × TypeId × Array Value)) (fs:List (World→Prop)):Prop where
 below:Below B w0 w
 base:B≤w.heap.size
 blk:∀ p∈bs,Blk w p.1 p.2.1 p.2.2
 fact:∀ f∈fs,aB f∧f w
section
variable {B:Nat} {w0 w w':World} {bs:List (Nat × TypeId × Array Value)} {fs:List (World→Prop)}
theorem Kn.start (w:World):Kn w.heap.size w w [] []:=⟨zif _ _,zic _,by simp,by simp⟩
theorem Kn.step (h:Kn B w0 w bs fs) (hb:Below w.heap.size w w'):Kn B w0 w' bs fs:=
 ⟨h.below.trans (hb.mono h.base),zit h.base hb.size,fun p hp=>(h.blk p hp).step hb,fun f hf=>⟨(h.fact f hf).1,(h.fact f hf).1 _ _ (h.fact f hf).2 hb⟩⟩
theorem Kn.alloc (h:Kn B w0 w bs fs) (o:Obj):Kn B w0 (w.alloc o) bs fs:=h.step ((zif _ _).alloc (zic _) o)
theorem Kn.push (h:Kn B w0 w bs fs) (t:TypeId) (cs:Array Value):Kn B w0 (w.alloc (.cells cs t)) ((w.heap.size,t,cs)::bs) fs:=
 let g:=h.alloc (.cells cs t)
 ⟨g.below,g.base,fun p hp=>by rcases zim.1 hp with rfl | hp;exact Blk.new w t cs rfl;exact g.blk p hp,g.fact⟩
theorem Kn.give (h:Kn B w0 w bs fs) {f:World→Prop} (hs:aB f) (hf:f w):Kn B w0 w bs (f::fs):=
 ⟨h.below,h.base,h.blk,fun p hp=>by rcases zim.1 hp with rfl | hp;exact ⟨hs,hf⟩;exact h.fact p hp⟩
theorem Kn.get (h:Kn B w0 w bs fs) {f:World→Prop} (hf:f∈fs):f w:=(h.fact f hf).2
theorem Kn.at_ (h:Kn B w0 w bs fs) {g:Nat} {t:TypeId} {cs:Array Value} (hm:(g,t,cs)∈bs):Blk w g t cs:=h.blk _ hm
theorem Kn.rules (h:Kn B w0 w bs fs) {g:Nat} {t:TypeId} {cs:Array Value} (hm:(g,t,cs)∈bs):(∀ o,w.cell? ⟨g,o,none⟩=cs[o]?)∧(∀ o,w.frozen? ⟨g,o,none⟩=false)∧g<w.heap.size:=
 ⟨(h.blk _ hm).cell,(h.blk _ hm).frozen,(h.blk _ hm).lt⟩
end
def eA {α:Type} (R:Rp α) (w:World) (base:Nat) (e:TypeId) (X:Nat→Prop) (v:Value) (l:List α):Prop:=
 ∃ A c cs,v=.slice A l.length c∧w.ownsRow base e R.size (.slice A l.length c) l.length cs∧aI R w (fun b=>X b∧b<w.heap.size∧some b≠(Value.slice A l.length c).ownBlock) cs l
section
variable {α:Type} {R:Rp α} {w w':World} {base:Nat} {e t:TypeId} {X X':Nat→Prop} {v:Value} {l:List α} {a:α}
theorem eA.nil_ (w:World) (base:Nat) (e:TypeId) (X:Nat→Prop):eA R w base e X (.slice none 0 0) []:=⟨none,0,[],rfl,zin _ _ _ _,rfl⟩
theorem eA.step (h:eA R w base e X v l) (hb:Below w.heap.size w w'):eA R w' base e X v l:=by
 obtain ⟨A,c,cs,rfl,h1,h2⟩:=h;exact ⟨A,c,cs,rfl,aD h1 hb (zic _),(h2.step hb).more fun b hb'=>⟨hb'.1,by have:=hb.size;omega,hb'.2.2⟩⟩
theorem eA.more (h:eA R w base e X v l) (hX:∀ b,X b→b<w.heap.size→X' b):eA R w base e X' v l:=by
 obtain ⟨A,c,cs,rfl,h1,h2⟩:=h;exact ⟨A,c,cs,rfl,h1,h2.more fun b hb=>⟨hX b hb.1 hb.2.1,hb.2⟩⟩
theorem eA.lower {base':Nat} (h:eA R w base e X v l) (hb:base'≤base):eA R w base' e X v l:=by
 obtain ⟨A,c,cs,rfl,h1,h2⟩:=h;exact ⟨A,c,cs,rfl,aO h1 hb,h2⟩
theorem eA.open_ {A:Option Addr} {n c:Nat} (h:eA R w base e X (.slice A n c) l):n=l.length∧∃ cs,w.ownsRow base e R.size (.slice A l.length c) l.length cs∧aI R w (fun b=>X b∧b<w.heap.size∧some b≠(Value.slice A l.length c).ownBlock) cs l:=by
 obtain ⟨A',c',cs,hv,h1,h2⟩:=h;injection hv with e1 e2 e3;subst e1 e3;exact ⟨e2,cs,h1,h2⟩
theorem eA.isL (h:eA R w base e X v l) (hl:l.length≤140737488355328) (hX:∀ b,base≤b→X' b) (hX2:∀ b,X b→X' b):IsL R w X' v l:=by
 obtain ⟨A,c,cs,rfl,h1,h2⟩:=h;exact ⟨A,c,cs,rfl,(aG.of_own_ge h1).more hX,h2.more fun b hb=>hX2 b hb.1,cD h1,bF h1,hl⟩
theorem eA.push {A A':Option Addr} {c c':Nat} {cs news:List Value} (h2:aI R w (fun b=>X b∧b<w.heap.size∧some b≠(Value.slice A l.length c).ownBlock) cs l)
 (h3:R.is w (fun b=>X b∧b<w.heap.size∧some b≠(Value.slice A l.length c).ownBlock) news a)
 (h4:w'.ownsRow base e R.size (.slice A' (l.length+1) c') (l.length+1) (cs++news)) (hg:xZ base w w' (.slice A l.length c) (.slice A' (l.length+1) c')) :
 eA R w' base e X (.slice A' (l.length+1) c') (l++[a]):=by
 have hlen:(l++[a]).length=l.length+1:=by simp
 refine ⟨A',c',cs++news,by rw [hlen],by rw [hlen];exact h4,?_⟩
 rw [hlen];refine ((h2.snoc h3).keep (w':=w') fun p hp hl=>zjg (hg.grown.block p.block hl hp.2.2)).more fun b hb=>⟨hb.1,by have:=hg.grown.size;omega,?_⟩
 rcases hg.at_ with h5 | ⟨g,h5,h6⟩
 · rw [h5];exact hb.2.2
 · rw [h5]
   intro e;injection e with e;have:=hb.2.1;omega
end
theorem eA.appL {α:Type} {R:Rp α} {w w':World} {base:Nat} {e:TypeId} {X:Nat→Prop} {A A':Option Addr} {n n' c c':Nat} {cs news:List Value} {l l2:List α} (hn:l.length=n) (hn':(l++l2).length=n')
 (h2:aI R w (fun b=>X b∧b<w.heap.size∧some b≠(Value.slice A n c).ownBlock) cs l) (h3:aI R w (fun b=>X b∧b<w.heap.size∧some b≠(Value.slice A n c).ownBlock) news l2)
 (h4:w'.ownsRow base e R.size (.slice A' n' c') n' (cs++news)) (hg:xZ base w w' (.slice A n c) (.slice A' n' c')) :
 eA R w' base e X (.slice A' n' c') (l++l2):=by
 subst hn;subst hn';refine ⟨A',c',cs++news,rfl,h4,?_⟩;refine ((h2.append h3).keep (w':=w') fun p hp hl=>zjg (hg.grown.block p.block hl hp.2.2)).more fun b hb=>⟨hb.1,by have:=hg.grown.size;omega,?_⟩
 rcases hg.at_ with h5 | ⟨g,h5,h6⟩
 · rw [h5];exact hb.2.2
 · rw [h5]
   intro e;injection e with e;have:=hb.2.1;omega
section
variable {B:Nat} {w0 w w':World} {bs:List (Nat × TypeId × Array Value)} {fs:List (World→Prop)} {g:Nat} {t:TypeId} {cs:Array Value} {K:Nat→Prop} {v:Value}
theorem Kn.from_ (hb:Below B w0 w) (hB:B≤w.heap.size):Kn B w0 w [] []:=⟨hb,hB,by simp,by simp⟩
theorem Kn.know (h:Kn B w0 w bs fs) (hk:Blk w g t cs):Kn B w0 w ((g,t,cs)::bs) fs:=
 ⟨h.below,h.base,fun p hp=>by rcases zim.1 hp with rfl | hp;exact hk;exact h.blk p hp,h.fact⟩
theorem IsL.far {α:Type} {R:Rp α} {l:List α} (h:IsL R w K v l) (hX:¬K g) (i:Nat) (u:Value):IsL R (w.setCell ⟨g,i,none⟩ u) K v l:=
 h.keep fun p hp _=>zjH _ _ _ _ (fun e=>hX (by rw [show g=p.block from zjj Addr.block e];exact hp))
theorem IsB.far {l:List UInt8} (h:IsB w K v l) (hX:¬K g) (i:Nat) (u:Value):IsB (w.setCell ⟨g,i,none⟩ u) K v l:=
 h.keep fun p hp _=>zjH _ _ _ _ (fun e=>hX (by rw [show g=p.block from zjj Addr.block e];exact hp))
theorem eA.isLt {α:Type} {R:Rp α} {base:Nat} {e:TypeId} {X X':Nat→Prop} {l:List α} (h:eA R w base e X v l) (hl:l.length≤140737488355328) (hX:∀ b,b<w.heap.size→base≤b→X' b) (hX2:∀ b,b<w.heap.size→X b→X' b):IsL R w X' v l:=by
 obtain ⟨A,c,cs,rfl,h1,h2⟩:=h;exact ⟨A,c,cs,rfl,(aG.of_own h1).more fun b hb=>hX b (h1.lt b hb.symm).2 (h1.lt b hb.symm).1,h2.more fun b hb=>hX2 b hb.2.1 hb.1,cD h1,bF h1,hl⟩
end
structure aA (w w':World) (S:Nat→Prop):Prop where
 os:w'.os=w.os
 tape:w'.tape=w.tape
 output:w'.output=w.output
 size:w.heap.size≤w'.heap.size
 block:∀ k,k<w.heap.size→¬S k→w'.heap[k]?=w.heap[k]?
section
variable {w w' w'':World} {S S':Nat→Prop} {K:Nat→Prop} {g:Nat} {t:TypeId} {cs:Array Value} {v:Value}
theorem aA.refl (w:World) (S:Nat→Prop):aA w w S:=⟨rfl,rfl,rfl,zic _,fun _ _ _=>rfl⟩
theorem aA.trans (h:aA w w' S) (h':aA w' w'' S):aA w w'' S:=
 ⟨h'.os.trans h.os,h'.tape.trans h.tape,h'.output.trans h.output,zit h.size h'.size,fun k hk hs=>(h'.block k (ziE hk h.size) hs).trans (h.block k hk hs)⟩
theorem aA.mono (h:aA w w' S) (hs:∀ k,S k→S' k):aA w w' S':=⟨h.os,h.tape,h.output,h.size,fun k hk hn=>h.block k hk (fun h=>hn (hs k h))⟩
theorem aA.of (h:Below w.heap.size w w'):aA w w' S:=⟨h.os,h.tape,h.output,h.size,fun k hk _=>h.block k hk⟩
theorem aA.step (h:aA w w' S) (hb:Below w'.heap.size w' w''):aA w w'' S:=h.trans (aA.of hb)
theorem aA.alloc (h:aA w w' S) (o:Obj):aA w (w'.alloc o) S:=h.step ((zif _ _).alloc (zic _) o)
theorem aA.drew (h:aA w w' S):aA w w'.drew S:=h.step (zif _ _).drew
theorem aA.set (h:aA w w' S) (hg:S g) (i:Nat) (u:Value):aA w (w'.setCell ⟨g,i,none⟩ u) S:=
 ⟨h.os,h.tape,h.output,by simpa [World.setCell] using h.size,fun k hk hn=>(Below.heap_setCell _ _ _ _ (fun e=>hn (by rw [show k=g from e];exact hg))).trans (h.block k hk hn)⟩
theorem aA.below {B:Nat} (h:aA w w' S) (hS:∀ k,S k→B≤k) (hB:B≤w.heap.size):Below B w w':=
 ⟨h.os,h.tape,h.output,h.size,fun k hk=>h.block k (by omega) (fun hs=>by have:=hS k hs;omega)⟩
theorem aA.cells (h:aA w w' S) (hK:∀ b,K b→¬S b):∀ p:Addr,K p.block→p.block<w.heap.size→w'.cell? p=w.cell? p:=fun p hp hl=>zjg (h.block p.block hl (hK _ hp))
theorem IsB.turned {l:List UInt8} (h:IsB w K v l) (ht:aA w w' S) (hK:∀ b,K b→¬S b):IsB w' K v l:=h.keep (ht.cells hK)
theorem IsL.turned {α:Type} {R:Rp α} {l:List α} (h:IsL R w K v l) (ht:aA w w' S) (hK:∀ b,K b→¬S b):IsL R w' K v l:=h.keep (ht.cells hK)
theorem aI.turned {α:Type} {R:Rp α} {l:List α} {c:List Value} (h:aI R w K c l) (ht:aA w w' S) (hK:∀ b,K b→¬S b):aI R w' K c l:=h.keep (ht.cells hK)
theorem Blk.turned (h:Blk w g t cs) (ht:aA w w' S) (hg:¬S g):Blk w' g t cs:=(ht.block g h.lt hg).trans h
end
end Go.Proofs.YtcapmeefiglfjaaGreat
namespace Go.Proofs.YtcapmeefiglfjaaGreat
open Go.RowKit Go.WideShapes Go.ChangeShapes Go.Deep
section
variable {H:Type} {enc:TypeId × Value→H} {P:Program} {w:World}
theorem zfY {α:Type} (R:Rp α) (K:Nat→Prop) (a:Addr) (len:Nat) (he:∀ i,i<len→∃ cs al,R.is w K cs al∧∀ (j:Nat) u,cs[j]?=some u→w.cell? (a.add (i*R.size+j))=some u) :
 ∃ cs l,l.length=len∧aI R w K cs l∧∀ (j:Nat) u,cs[j]?=some u→w.cell? (a.add j)=some u:=by
 induction len with
 | zero=>exact ⟨[],[],rfl,rfl,fun j u hu=>by simp at hu⟩
 | succ n ih=>
   obtain ⟨cs,l,hl,hc,hr⟩:=ih fun i hi=>he i (by omega)
   obtain ⟨c1,al,h1,h2⟩:=he n (by omega)
   refine ⟨cs++c1,l++[al],by simp [hl],hc.snoc h1,fun j u hu=>?_⟩
   have hlen:=hc.len;rw [hl] at hlen;rcases zjb j cs.length with hj | hj
   · rw [zjx hj] at hu;exact hr j u hu
   · rw [zjt hj] at hu
     have:=h2 _ u hu;rwa [hlen,show n*R.size+(j-n*R.size)=j by omega] at this
theorem zcv {t e:TypeId} {fuel:Nat} {cs:List Value} {x:DataW H × List MemPlace} {α:Type} (R:Rp α) (ht:P.underlying t=some (.slice e)) (ce:P.cellsOf e=R.size) (be:0<P.bytesOf e) (hpos:0<R.size)
 (h:DataW.trod enc P w 0 (fun _=>true) true fuel t cs=some x) (hs:Small P t x.1)
 (hR:∀ (n:Nat) (cs':List Value) (y:DataW H × List MemPlace),DataW.trod enc P w 0 (fun _=>true) true n e cs'=some y→Small P e y.1→∃ a,R.is w (· < w.heap.size) cs' a) :
 ∃ v l,cs=[v]∧IsL R w (· < w.heap.size) v l∧l.length*P.bytesOf e≤140737488351232:=by
 rcases open_slice ht h with ⟨rfl,_⟩ | ⟨a,len,cap,m,n,D,Pl,rfl,_,hl,hm,hmm,rfl,hi⟩
 · exact ⟨_,[],rfl,IsL.nil_ _ _,by simp⟩
 · simp only [zkh] at hmm
   have hmm':=hmm.symm;subst hmm';obtain ⟨hb,hel⟩:=Small.slice ht hs;simp only [zjr,zkv] at hb;have hr:=zgf;rw [ce] at hi;obtain ⟨cs,l,hll,hcl,hcc⟩:=zfY (w:=w) R (· < w.heap.size) a len fun i hil=>by
    obtain ⟨cs',hc,htr⟩:=hi i (by omega)
    obtain ⟨al,hal⟩:=hR n cs' _ htr (hel _ (zja.2 ⟨i,zjO.2 hil,rfl⟩));obtain ⟨_,hlen,hat⟩:=World.cells?_some hc;refine ⟨cs',al,hal,fun j u hu=>?_⟩
    have hj:=(zil.1 hu).1;have h0:=hat j (by have:=R.len hal;omega)
    rw [mI] at h0;rw [h0,hu]
   have hle:len*P.bytesOf e≤(len+(cap-len))*P.bytesOf e:=zjm _ (by omega)
   have hle2:len*1≤len*P.bytesOf e:=Nat.mul_le_mul_left _ be;subst hll;refine ⟨_,l,rfl,⟨some a,cap,cs,rfl,?_,hcl,by omega,by unfold maxLen at hm;omega,by omega⟩,by omega⟩
   have hR2:aG w (fun _=>True) R.size (some a) l.length cs:=⟨hcl.len,fun _=>⟨a,rfl,trivial,hcc⟩⟩
   exact (hR2.lt hpos).more fun b hb=>hb.2
end
end Go.Proofs.YtcapmeefiglfjaaGreat
namespace Go.Proofs.YtcapmeefiglfjaaGreat
open Go.RowKit Go.WideShapes Go.ChangeShapes Go.Deep Go.Joins
theorem Tryz.ci:Tryz.prog.cellsOf 3=1:=by kernel_rfl
end Go.Proofs.YtcapmeefiglfjaaGreat
namespace Go.Proofs.YtcapmeefiglfjaaGreat
open Go.RowKit
theorem zgD {w:World} {base g:Nat} {e:TypeId} {n c:Nat} {xs:List Value} (h:w.ownsRow base e 1 (.slice (some ⟨g,0,none⟩) n c) n xs) (i:Nat) (u:Value) :
 (w.setCell ⟨g,i,none⟩ u).ownsRow base e 1 (.slice (some ⟨g,0,none⟩) n c) n (xs.set i u):=by
 refine ⟨by rw [zjs];exact h.1,?_⟩
 rcases h.2 with ⟨h2,_⟩ | ⟨g',cap,cur,hv,hg,hh,h3,h4,h5,h6⟩
 · cases h2
 · injection hv with e1 e2 e3
   injection e1 with e1;injection e1 with e1 _ _;subst e1 e3;refine .inr ⟨g,c,cur.setIfInBounds i u,rfl,hg,?_,h3,h4,by simpa using h5,?_⟩
   · simp [World.setCell,zjW,hh]
   · rw [←h6,Array.toList_setIfInBounds]
     rw [List.take_set]
end Go.Proofs.YtcapmeefiglfjaaGreat
namespace Go.Proofs.YtcapmeefiglfjaaGreat
open Go.RowKit Go.WideShapes Go.ChangeShapes Go.Deep
structure Oq where
 op:Int
 lba:Int
 n:Int
def Rp.oq:Rp Oq:=⟨3,fun _ _ cs o=>cs=[.int .i64 o.op,.int .i64 o.lba,.int .i64 o.n]∧(-9223372036854775808≤o.op∧o.op≤9223372036854775807)∧(-9223372036854775808≤o.lba∧o.lba≤9223372036854775807)∧(-9223372036854775808≤o.n∧o.n≤9223372036854775807),
 by rintro _ _ _ _ ⟨rfl,r0,r1,r2⟩;rfl,
 fun h _=>h,
 fun h _=>h,
 by
  rintro _ _ _ _ ⟨rfl,r0,r1,r2⟩ u hu;simp only [zim,ziJ,zju] at hu;rcases hu with rfl | rfl | rfl <;> first | rfl | assumption⟩
theorem Tryz.cells_oq:Tryz.prog.cellsOf 45=3:=by kernel_rfl
theorem zge {H:Type} {enc:TypeId × Value→H} {w:World} {n:Nat} {cs:List Value} {x:DataW H × List MemPlace} (h:DataW.trod enc Tryz.prog w 0 (fun _=>true) true n 45 cs=some x) (hs:Small Tryz.prog 45 x.1) :
 ∃ o,Rp.oq.is w (· < w.heap.size) cs o:=by
 obtain ⟨xs,m,_,rfl,hlen,hl,hf⟩:=DataW.trod_struct Tryz.underlying45 h;rw [Tryz.cells_oq] at hlen;match cs,hlen,xs,hl with
 | [c0,c1,c2],_,[y0,y1,y2],_=>
   have g0:=hf 0 _ rfl;replace g0:DataW.trod enc Tryz.prog w 0 (fun _=>true) true m 3 [c0]=some y0:=by simpa [Tryz.ci] using g0
   obtain ⟨a0,e0,_,w0⟩:=DataW.trod_int Tryz.underlying3 g0;have b0:=bounds_i64 w0;have g1:=hf 1 _ rfl;replace g1:DataW.trod enc Tryz.prog w 0 (fun _=>true) true m 3 [c1]=some y1:=by simpa [Tryz.ci] using g1
   obtain ⟨a1,e1,_,w1⟩:=DataW.trod_int Tryz.underlying3 g1;have b1:=bounds_i64 w1;have g2:=hf 2 _ rfl;replace g2:DataW.trod enc Tryz.prog w 0 (fun _=>true) true m 3 [c2]=some y2:=by simpa [Tryz.ci] using g2
   obtain ⟨a2,e2,_,w2⟩:=DataW.trod_int Tryz.underlying3 g2;have b2:=bounds_i64 w2;simp only [List.cons.injEq,zks] at e0 e1 e2;subst e0 e1 e2;exact ⟨⟨a0,a1,a2⟩,⟨rfl,⟨b0.1,b0.2⟩,⟨b1.1,b1.2⟩,⟨b2.1,b2.2⟩⟩⟩
theorem Tryz.bytes_oq:Tryz.prog.bytesOf 45=24:=by kernel_rfl
theorem zdp {H:Type} {enc:TypeId × Value→H} {w:World} {n:Nat} {cs:List Value} {x:DataW H × List MemPlace} (h:DataW.trod enc Tryz.prog w 0 (fun _=>true) true n 22 cs=some x) (hs:Small Tryz.prog 22 x.1) :
 ∃ v l,cs=[v]∧IsL Rp.oq w (· < w.heap.size) v l∧l.length*24≤140737488351232:=by
 obtain ⟨v,l,e,hL,hb⟩:=zcv Rp.oq Tryz.underlying22 Tryz.cells_oq (by rw [Tryz.bytes_oq];decide) (by decide) h hs fun _ _ _ h s=>zge h s
 rw [Tryz.bytes_oq] at hb;exact ⟨v,l,e,hL,hb⟩
theorem zaO {H:Type} {enc:TypeId × Value→H} {w:World} {base:Nat} {v:Value} {d:DataW H} {p:List MemPlace} (hv:Value.okWide Tryz.prog w .any base 22 v) (h:DataW.Trod enc Tryz.prog w 0 (fun _=>true) true 22 v d p) (hs:Small Tryz.prog 22 d) :
 ∃ l,IsL Rp.oq w (· < w.heap.size) v l∧l.length*24≤140737488351232:=by
 obtain ⟨A,n,c,rfl⟩:=okWide_slice Tryz.underlying22 hv;obtain ⟨fuel,hf⟩:=h;obtain ⟨v',l,hcs,hB⟩:=zdp hf hs;have:Value.slice A n c=v':=by simpa [Value.cells] using hcs
 rw [this];exact ⟨l,hB⟩
theorem zhI {w:World} {K:Nat→Prop} {A:Option Addr} {n c:Nat} {l:List Oq} (h:IsL Rp.oq w K (.slice A n c) l) {j:Nat} {e:Oq} (hj:l[j]?=some e) :
 ∃ ad,A=some ad∧K ad.block∧w.cell? (ad.add (j*3))=some (.int .i64 e.op)∧w.cell? ⟨(ad.add (j*3)).block,(ad.add (j*3)).off+1,none⟩=some (.int .i64 e.lba)∧w.cell? ⟨(ad.add (j*3)).block,(ad.add (j*3)).off+2,none⟩=some (.int .i64 e.n) ∧
   (-9223372036854775808≤e.op∧e.op≤9223372036854775807)∧(-9223372036854775808≤e.lba∧e.lba≤9223372036854775807)∧(-9223372036854775808≤e.n∧e.n≤9223372036854775807):=by
 obtain ⟨ad,es,hA,hKad,⟨rfl,r0,r1,r2⟩,hcell⟩:=h.at_ hj;have hsz:Rp.oq.size=3:=rfl;rw [hsz] at hcell;refine ⟨ad,hA,hKad,?_,?_,?_,r0,r1,r2⟩
 · rw [←cW (ad.add (j*3))];exact hcell 0 _ rfl
 · rw [←bT _ 1 (by decide)];exact hcell 1 _ rfl
 · rw [←bT _ 2 (by decide)];exact hcell 2 _ rfl
end Go.Proofs.YtcapmeefiglfjaaGreat
namespace Go.Proofs.YtcapmeefiglfjaaGreat
open Go.RowKit
theorem bQ {P:Program} (w:World) (dT sT ty elem:TypeId) (k g o dLen dCap:Nat) (ad:Addr) (sLen sCap:Nat) (cur:Array Value) (t:TypeId) (cs:List Value)
 (hu:P.underlying dT=some (.slice elem)) (hs:(P.info? elem).map (·.size)=some k) (hg:w.heap[g]?=some (.cells cur t (0,0))) (n:Nat) (hm:Nat.min sLen dLen=n) (hn:cs.length=n*k)
 (hsrc:∀ j v,cs[j]?=some v→w.cell? (ad.add j)=some v) (hfit:o+cs.length≤cur.size) (h1:∀ v∈cs,v.oneCell'=true) :
 (Builtin.copy_ #[dT,sT] ty #[.slice (some ⟨g,o,none⟩) dLen dCap,.slice (some ad) sLen sCap]).run P w=.ok (goInt n) (w.setRow g (splice cur.toList o cs).toArray):=by
 have hl:=run_loadCells_list (P:=P) w ad cs hsrc;have hst:=run_storeCells_at (P:=P) g o t cs 0 cur w hg (by simpa using hfit) h1
 have hsp:(cur.toList.take (o+0)++cs++cur.toList.drop (o+0+cs.length))=splice cur.toList o cs:=by unfold splice;rw [ziq,Nat.add_zero]
 rw [hsp] at hst;rw [hn] at hl;cases hq:P.info? elem with
 | none=>simp [hq] at hs
 | some i=>
   have hi:i.size=k:=by simpa [hq] using hs
   simp [Builtin.copy_,ziK hu,Builtin.lenOf,Builtin.firstCells,sizeOf,typeInfo,hq,hi,hm,hl,hst]
theorem fC {P:Program} {w w':World} {ops:Array Oper} {rest:List Oper} {o:Oper} {a:Act} {Q:Exit→Act→World→Prop} (hgd:o.guard=none) (d s:Operand) (t t':TypeId)
 (ho:o.op=.call { callee:=.builtin .copy,args:=#[d,s],argTypes:=#[t,t'] }) (v u:Value) (hd:a.eval d=v) (hs:a.eval s=u) {v':Value}
 (hr:(Builtin.copy_ #[t,t'] o.type #[v,u]).run P w=.ok v' w') (h:wpList P ops Q rest (a.put o.dst v') w'):wpList P ops Q (o::rest) a w:=
 zkf hgd fun _ hK=>by
  unfold Oper.wp execOp;simp only [ho,resolve,invoke,builtin,zkg,Sem.run_pure,Result.andThen_ok,zk7,zj2,zjN,hd,hs,hr];exact hK _ _ h
theorem jM {P:Program} {ops:Array Oper} {o:Oper} {a:Act} {w:World} {K:Act→World→Prop} {Q:Exit→Act→World→Prop} {E:Prop}
 (hg:o.guard=none) (d x:Operand) (dT sT:TypeId) (hop:o.op=Op.call { callee:=Callee.builtin Builtin.copy,args:=#[d,x],argTypes:=#[dT,sT] })
 (v u:Value) (hd:a.eval d=v) (hx:a.eval x=u) {v':Value} {w':World} (hr:(Builtin.copy_ #[dT,sT] o.type #[v,u]).run P w=.ok v' w') (hK:K (a.put o.dst v') w') :
 if Region.wanted o (yielded ops a.tmps)=true then Oper.wp P o a w K Q else E:=by
 have hw:Region.wanted o (yielded ops a.tmps)=true:=by simp [Region.wanted,hg]
 rw [zij hw];unfold Oper.wp;simp [execOp,hop,resolve,invoke,builtin,hd,hx,hr,Result.andThen];exact hK
theorem dE {α:Type} (L:List α) (off:Nat) (cs:List α) (h:off+cs.length≤L.length):(splice L off cs).length=L.length:=length_splice L off cs h
theorem lF {α:Type} {cur xs vs:List α} {a k m:Nat} (hv:vs.length=k) (hx:cur.take m=xs) (hm:xs.length=m) (ha:a≤m) (hc:m+k≤cur.length) :
 (splice (splice cur (a+k) (xs.drop a)) a vs).take (m+k)=xs.take a++vs++xs.drop a:=by
 have hd:(xs.drop a).length=m-a:=by rw [ziG,hm]
 have h1:splice cur (a+k) (xs.drop a)=cur.take (a+k)++(xs.drop a++cur.drop (a+k+(m-a))):=by unfold splice;rw [hd]
 have h2:(splice cur (a+k) (xs.drop a)).take a=xs.take a:=by
  rw [h1,ziW (by rw [zio];omega),List.take_take,←hx,List.take_take,zke (by omega),zke ha]
 have h3:(splice cur (a+k) (xs.drop a)).drop (a+k)=xs.drop a++cur.drop (a+k+(m-a)):=by
  rw [h1,List.drop_left' (by rw [zio];omega)]
 show (List.take a (splice cur (a+k) (xs.drop a))++(vs++List.drop (a+vs.length) (splice cur (a+k) (xs.drop a)))).take (m+k)=_;rw [h2,hv,h3,←ziq,←ziq,ziW (by simp only [zie,zio,hd,hv,hm];omega),zip (by simp only [zie,zio,hd,hv,hm];omega)]
theorem kA {α:Type} {C xs vs:List α} {a k m:Nat} (hv:vs.length=k) (hx:C.take a=xs.take a) (hm:xs.length=m) (ha:a≤m) :
 (splice (splice C a vs) (a+k) (xs.drop a)).take (m+k)=xs.take a++vs++xs.drop a:=by
 have hd:(xs.drop a).length=m-a:=by rw [ziG,hm]
 have h1:splice C a vs=(xs.take a++vs)++C.drop (a+k):=by unfold splice;rw [hx,hv,ziq]
 have hl:(xs.take a++vs).length=a+k:=by rw [zie,zio,hm,hv];omega
 have h2:(splice C a vs).take (a+k)=xs.take a++vs:=by rw [h1,List.take_left' hl]
 show (List.take (a+k) (splice C a vs)++(xs.drop a++List.drop (a+k+(xs.drop a).length) (splice C a vs))).take (m+k)=_;rw [h2,←ziq,ziW (by rw [zie,hl,hd];omega),zip (by rw [zie,hl,hd];omega)]
end Go.Proofs.YtcapmeefiglfjaaGreat
namespace Go.Proofs.YtcapmeefiglfjaaGreat
open Go.RowKit Go.WideShapes Go.ChangeShapes Go.Deep
structure A3 where
 a:Int
 b:Int
 c:Int
end Go.Proofs.YtcapmeefiglfjaaGreat
namespace Go.Proofs.YtcapmeefiglfjaaGreat
open Go.RowKit Go.Maps Go.WideMaps
def zft:Value→Option (DataW Unit × List MemPlace)
 | .pointer none=>some (.lit (.int .i64 (-1)),[])
 | .pointer (some ⟨g,0,none⟩)=>some (.lit (.int .i64 g),[])
 | _=>none
def ptV (o:Option Nat):Value:=.pointer (o.map fun g=>⟨g,0,none⟩)
def ptI (o:Option Nat):Int:=(o.map Int.ofNat).getD (-1)
theorem zh5 (o:Option Nat):zft (ptV o)=some (.lit (.int .i64 (ptI o)),[]):=by cases o <;> rfl
theorem zgS {v:Value} {o:Option Nat} {ps:List MemPlace} (h:zft v=some (.lit (.int .i64 (ptI o)),ps)):v=ptV o:=by
 unfold zft at h;split at h
 · injection h with h;injection h with h _;injection h with h;injection h with _ h
   cases o with
   | none=>rfl
   | some g=>unfold ptI at h;simp at h
 · injection h with h;injection h with h _;injection h with h;injection h with _ h
   cases o with
   | none=>unfold ptI at h;simp at h
   | some g=>unfold ptI at h;simp at h;cases Int.ofNat.inj h;rfl
 · cases h
def kD (P:Program) (k:TypeId) (w:World) (b n:Nat) (f:Int→Option Nat):Prop:=
 ∃ D:DataW Unit,w.ownsMap P k zft b n D∧Tidy D∧size D=n∧∀ s,has D (.int .i64 s)=(f s).isSome∧D.atKey (.int .i64 s) (.lit (.int .i64 (-1)))=.lit (.int .i64 (ptI (f s)))
section
variable {P:Program} {k e:TypeId} {w w':World} {b n:Nat} {f:Int→Option Nat}
theorem zh6 {D:DataW Unit} (h:w.ownsMap P k zft b n D):w.ownsMap P k zft b (size D) D:=by
 obtain ⟨es,clock,h1,h2,h3,rfl⟩:=h;exact ⟨es,clock,h1,h2,by rw [size_eq,length_sorted,zjr];exact zic _,rfl⟩
theorem kD.made (w:World):kD P k (w.alloc (.map #[] 0)) w.heap.size 0 (fun _=>none):=
 ⟨.map [],World.ownsMap_made w P k _,tidy_empty,rfl,fun _=>⟨rfl,rfl⟩⟩
theorem kD.lt (h:kD P k w b n f):b<w.heap.size:=by obtain ⟨D,h,_⟩:=h;exact h.lt
theorem kD.kept {row:Option Nat} (h:kD P k w b n f) (hg:w.grownBy w' row) (hne:some b≠row):kD P k w' b n f:=by
 obtain ⟨D,h1,h2⟩:=h;exact ⟨D,h1.kept hg hne,h2⟩
theorem kD.step (h:kD P k w b n f) (hb:Below w.heap.size w w'):kD P k w' b n f:=h.kept ⟨hb.os,hb.tape,hb.output,hb.size,fun i hi _=>hb.block i hi⟩ (row:=none) (by simp)
theorem kD.turned {S:Nat→Prop} (h:kD P k w b n f) (ht:aA w w' S) (hS:¬S b):kD P k w' b n f:=by
 obtain ⟨D,⟨es,clock,hb,r⟩,h2⟩:=h;exact ⟨D,⟨es,clock,(ht.block b (zjF.1 hb).1 hS).trans hb,r⟩,h2⟩
theorem kD.look (h:kD P k w b n f) (hk:P.underlying k=some (.int .i64)) {t:TypeId} (ht:P.underlying t=some (.map k e)) (hz:(zeroValue e).run P w=.ok (.pointer none) w) (s:Int)
 (hs:-9223372036854775808≤s∧s≤9223372036854775807):(Instr.lookup t (.map (some b)) (.int .i64 s) false).run P w=.ok (ptV (f s)) w:=by
 obtain ⟨D,hown,_,_,hat⟩:=h;have hwf:(Lit.int .i64 s).wf=true:=by simp [Lit.wf,IntKind.min,IntKind.max,IntKind.signed,IntKind.bits];omega
 obtain ⟨v,ps,hrun,hv⟩:=hown.lookup (int_keyed hk) ht hz (zd:=.lit (.int .i64 (-1))) (zp:=[]) rfl (keyOf_int_mk hk hwf);rw [(hat s).2] at hv;rw [hrun,zgS hv]
theorem kD.put {D:DataW Unit} (hD:Tidy D) (hn:size D=n) (hat:∀ s,has D (.int .i64 s)=(f s).isSome∧D.atKey (.int .i64 s) (.lit (.int .i64 (-1)))=.lit (.int .i64 (ptI (f s)))) {m:Nat} (s:Int) (g:Nat)
 (h:w'.ownsMap P k zft b m (D.put (.int .i64 s) (.lit (.int .i64 (ptI (some g)))))):kD P k w' b (if (f s).isSome then n else n+1) (fun i=>if i=s then some g else f i):=by
 have hz:size (D.put (.int .i64 s) (.lit (.int .i64 (ptI (some g)))))=if (f s).isSome then n else n+1:=by rw [size_put hD,(hat s).1,hn]
 refine ⟨_,by rw [←hz];exact zh6 h,hD.put (show WideAt.IsKeyLit (.int .i64 s) from trivial) _,hz,fun i=>?_⟩
 by_cases e1:i=s
 · subst e1
   rw [has_put_same hD.isMap (show WideAt.IsKeyLit (.int .i64 i) from trivial),atKey_put_same hD.isMap (show WideAt.IsKeyLit (.int .i64 i) from trivial)];simp
 · rw [has_put_other (by simpa using e1),atKey_put_other (by simpa using e1),(hat i).1,(hat i).2];simp [e1]
theorem kD.cut {D:DataW Unit} (hD:Tidy D) (hn:size D=n) (hat:∀ s,has D (.int .i64 s)=(f s).isSome∧D.atKey (.int .i64 s) (.lit (.int .i64 (-1)))=.lit (.int .i64 (ptI (f s)))) {m:Nat} (s:Int)
 (h:w'.ownsMap P k zft b m (D.del (.int .i64 s))):kD P k w' b (if (f s).isSome then n-1 else n) (fun i=>if i=s then none else f i):=by
 have hz:size (D.del (.int .i64 s))=if (f s).isSome then n-1 else n:=by
  have:=size_del (k:=.int .i64 s) hD;rw [(hat s).1,hn] at this;split <;> simp_all <;> omega
 refine ⟨_,by rw [←hz];exact zh6 h,hD.del _,hz,fun i=>?_⟩
 by_cases e1:i=s
 · subst e1
   rw [has_del_same,atKey_del_same];simp [ptI]
 · rw [has_del_other (by simpa using e1),atKey_del_other (by simpa using e1),(hat i).1,(hat i).2];simp [e1]
variable {ops:Array Oper} {rest:List Oper} {o:Oper} {a:Act} {Q:Exit→Act→World→Prop}
theorem jC (hg:o.guard=none) (m x:Operand) (t:TypeId) (hop:o.op=Op.lookup t m x false)
 (k e:TypeId) (hk:P.underlying k=some (.int .i64)) (ht:P.underlying t=some (.map k e)) (hz:(zeroValue e).run P w=.ok (.pointer none) w)
 (b n:Nat) (f:Int→Option Nat) (hm:a.eval m=.map (some b)) (hM:kD P k w b n f) (s:Int) (hx:a.eval x=.int .i64 s) (hs:-9223372036854775808≤s∧s≤9223372036854775807)
 (hK:wpList P ops Q rest (a.put o.dst (ptV (f s))) w):wpList P ops Q (o::rest) a w:=by
 refine zkf hg fun K' hK'=>?_
 have hrun:=hM.look hk ht hz s hs;unfold Oper.wp;simp [execOp,hop,hm,hx,hrun,Result.andThen];exact hK' _ _ hK
theorem zZ (hg:o.guard=none) (m x v:Operand) (t:TypeId) (hop:o.op=Op.mapUpdate t m x v)
 (k e:TypeId) (hk:P.underlying k=some (.int .i64)) (ht:P.underlying t=some (.map k e))
 (b n:Nat) (f:Int→Option Nat) (hm:a.eval m=.map (some b)) (hM:kD P k w b n f) (hn:n<maxLen) (s:Int) (g:Nat) (hx:a.eval x=.int .i64 s) (hv:a.eval v=.pointer (some ⟨g,0,none⟩)) (hs:-9223372036854775808≤s∧s≤9223372036854775807)
 (hK:∀ w',kD P k w' b (if (f s).isSome then n else n+1) (fun i=>if i=s then some g else f i)→w.grownBy w' (some b)→wpList P ops Q rest (a.put o.dst undef) w'):wpList P ops Q (o::rest) a w:=by
 obtain ⟨D,hown,hD,hz,hat⟩:=hM;have hwf:(Lit.int .i64 s).wf=true:=by simp [Lit.wf,IntKind.min,IntKind.max,IntKind.signed,IntKind.bits];omega
 exact wpList_mapUpdate_own w hg m x v t hop k e (int_keyed hk) ht _ b n D hm hown hn _ _ _ hx hv (keyOf_int_mk hk hwf) _ _ (zh5 (some g)) fun w' h1 h2=>hK w' (kD.put hD hz hat s g h1) h2
theorem zcu (hw:Region.wanted o (yielded ops a.tmps)=true) (m x:Operand) (t k:TypeId) (hop:o.op=Op.call { callee:=Callee.builtin Builtin.delete,args:=#[m,x],argTypes:=#[t,k] })
 (e:TypeId) (hk:P.underlying k=some (.int .i64)) (ht:P.underlying t=some (.map k e)) {K:Act→World→Prop}
 (b n:Nat) (f:Int→Option Nat) (hm:a.eval m=.map (some b)) (hM:kD P k w b n f) (s:Int) (hx:a.eval x=.int .i64 s) (hs:-9223372036854775808≤s∧s≤9223372036854775807)
 (h:∀ w',kD P k w' b (if (f s).isSome then n-1 else n) (fun i=>if i=s then none else f i)→w.grownBy w' (some b)→K (a.put o.dst (.tuple #[])) w') :
 if Region.wanted o (yielded ops a.tmps)=true then Oper.wp P o a w K Q else K (a.put o.dst undef) w:=by
 rw [zij hw];obtain ⟨D,hown,hD,hz,hat⟩:=hM;have hwf:(Lit.int .i64 s).wf=true:=by simp [Lit.wf,IntKind.min,IntKind.max,IntKind.signed,IntKind.bits];omega
 obtain ⟨w',hrun,r1,r2⟩:=hown.drop (int_keyed hk) ht (keyOf_int_mk hk hwf) o.type;unfold Oper.wp;simp [execOp,hop,resolve,invoke,builtin,hm,hx,hrun,Result.andThen];exact h w' (kD.cut hD hz hat s r1) r2.grown
theorem kD.len (h:kD P k w b n f) {t:TypeId} (ht:P.underlying t=some (.map k e)) (ty:TypeId):(Builtin.len_ #[t] ty #[.map (some b)]).run P w=.ok (.int .i64 n) w:=by
 obtain ⟨D,hown,hD,hz,hat⟩:=h;rw [←hz];exact hown.len ht ty
end
