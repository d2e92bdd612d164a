/- A part of the proof. -/
import Derived.Test.YthblkdnijhphhaaGreatRing
import Derived.Test.YthblkdnijhphhaaGreatRows
import Derived.Lib.SmallJoins
namespace Go.Proofs.YthblkdnijhphhaaGreat
open Go.RowKit
theorem IsB.one {w:World} {K:Nat→Prop} {v:Value} {l:List UInt8} (h:IsB w K v l):v.oneCell'=true:=by
 obtain ⟨A,c,rfl,_⟩:=h;rfl
structure Rp (α:Type) where
 size:Nat
 is:World→(Nat→Prop)→List Value→α→Prop
 len:∀ {w:World} {K:Nat→Prop} {cs:List Value} {a:α},is w K cs a→cs.length=size
 keep:∀ {w w':World} {K:Nat→Prop} {cs:List Value} {a:α},is w K cs a→(∀ p:Addr,K p.block→p.block<w.heap.size→w'.cell? p=w.cell? p)→is w' K cs a
 more:∀ {w:World} {K K':Nat→Prop} {cs:List Value} {a:α},is w K cs a→(∀ b,K b→K' b)→is w K' cs a
 one:∀ {w:World} {K:Nat→Prop} {cs:List Value} {a:α},is w K cs a→∀ u∈cs,u.oneCell'=true
theorem zbu (a:Addr):a.add 0=a:=by simp [Addr.add]
theorem zaC (a:Addr) (i:Nat) (h:i≠0):a.add i=⟨a.block,a.off+i,none⟩:=by unfold Addr.add;simp [h]
section
variable {α:Type} {R:Rp α} {w w':World} {K K':Nat→Prop} {cs:List Value} {a:α}
def Rp.int:Rp Int:=⟨1,fun _ _ cs n=>cs=[.int .i64 n]∧-9223372036854775808≤n∧n≤9223372036854775807,by rintro _ _ _ _ ⟨rfl,_⟩;rfl,fun h _=>h,fun h _=>h,by rintro _ _ _ _ ⟨rfl,_⟩ u hu;simp at hu;subst hu;rfl⟩
def Rp.bytes:Rp (List UInt8):=⟨1,fun w K cs l=>∃ v,cs=[v]∧IsB w K v l,by rintro _ _ _ _ ⟨v,rfl,_⟩;rfl,
 by rintro _ _ _ _ _ ⟨v,e,h⟩ hk;exact ⟨v,e,h.keep hk⟩,by rintro _ _ _ _ _ ⟨v,e,h⟩ hk;exact ⟨v,e,h.more hk⟩,
 by rintro _ _ _ _ ⟨v,rfl,A,c,rfl,_⟩ u hu;simp at hu;subst hu;rfl⟩
def za8 (R:Rp α) (w:World) (K:Nat→Prop):List Value→List α→Prop
 | cs,[]=>cs=[]
 | cs,a::l=>∃ c1 c2,cs=c1++c2∧R.is w K c1 a∧za8 R w K c2 l
variable {l m:List α} {ds:List Value}
theorem za8.len (h:za8 R w K cs l):cs.length=l.length*R.size:=by
 induction l generalizing cs with
 | nil=>cases h;simp
 | cons a l ih=>
   obtain ⟨c1,c2,rfl,h1,h2⟩:=h;rw [List.length_append,R.len h1,ih h2,List.length_cons,Nat.add_mul,Nat.one_mul,Nat.add_comm]
theorem za8.keep (h:za8 R w K cs l) (hk:∀ p:Addr,K p.block→p.block<w.heap.size→w'.cell? p=w.cell? p):za8 R w' K cs l:=by
 induction l generalizing cs with
 | nil=>exact h
 | cons a l ih=>obtain ⟨c1,c2,e,h1,h2⟩:=h;exact ⟨c1,c2,e,R.keep h1 hk,ih h2⟩
theorem za8.more (h:za8 R w K cs l) (hk:∀ b,K b→K' b):za8 R w K' cs l:=by
 induction l generalizing cs with
 | nil=>exact h
 | cons a l ih=>obtain ⟨c1,c2,e,h1,h2⟩:=h;exact ⟨c1,c2,e,R.more h1 hk,ih h2⟩
theorem za8.one (h:za8 R w K cs l):∀ u∈cs,u.oneCell'=true:=by
 induction l generalizing cs with
 | nil=>cases h;simp
 | cons a l ih=>
   obtain ⟨c1,c2,rfl,h1,h2⟩:=h;intro u hu;rcases List.mem_append.1 hu with hu | hu
   · exact R.one h1 u hu
   · exact ih h2 u hu
theorem za8.append (h:za8 R w K cs l) (h':za8 R w K ds m):za8 R w K (cs++ds) (l++m):=by
 induction l generalizing cs with
 | nil=>cases h;simpa using h'
 | cons a l ih=>obtain ⟨c1,c2,rfl,h1,h2⟩:=h;exact ⟨c1,c2++ds,by simp,h1,ih h2⟩
theorem za8.single (h:R.is w K cs a):za8 R w K cs [a]:=⟨cs,[],by simp,h,rfl⟩
theorem za8.snoc (h:za8 R w K cs l) (h':R.is w K ds a):za8 R w K (cs++ds) (l++[a]):=h.append (za8.single h')
theorem za8.step (h:za8 R w K cs l) (hb:Below w.heap.size w w'):za8 R w' K cs l:=h.keep fun _ _ hp=>hb.cell hp
theorem za8.alloc (h:za8 R w K cs l) (o:Obj):za8 R (w.alloc o) K cs l:=h.keep fun p _ hp=>World.cell?_alloc_lt w o p hp
theorem za8.drop (h:za8 R w K cs l) (k:Nat):za8 R w K (cs.drop (k*R.size)) (l.drop k):=by
 induction l generalizing cs k with
 | nil=>cases h;simp [za8]
 | cons a l ih=>
   obtain ⟨c1,c2,rfl,h1,h2⟩:=h;rcases k with _ | k
   · simpa using ⟨c1,c2,rfl,h1,h2⟩
   · have e:=R.len h1
     have:(k+1)*R.size=c1.length+k*R.size:=by rw [e,Nat.add_mul,Nat.one_mul,Nat.add_comm]
     rw [this,List.drop_length_add_append,List.drop_succ_cons];exact ih h2 k
theorem za8.take (h:za8 R w K cs l) (k:Nat):za8 R w K (cs.take (k*R.size)) (l.take k):=by
 induction l generalizing cs k with
 | nil=>cases h;simp [za8]
 | cons a l ih=>
   obtain ⟨c1,c2,rfl,h1,h2⟩:=h;rcases k with _ | k
   · simp [za8]
   · have e:=R.len h1
     have:(k+1)*R.size=c1.length+k*R.size:=by rw [e,Nat.add_mul,Nat.one_mul,Nat.add_comm]
     rw [this,List.take_length_add_append,List.take_succ_cons];exact ⟨c1,_,rfl,h1,ih h2 k⟩
theorem za8.at_ (h:za8 R w K cs l) {i:Nat} {x:α} (hx:l[i]?=some x):∃ es,R.is w K es x∧∀ (j:Nat) u,es[j]?=some u→cs[i*R.size+j]?=some u:=by
 induction l generalizing cs i with
 | nil=>simp at hx
 | cons a l ih=>
   obtain ⟨c1,c2,rfl,h1,h2⟩:=h;have e:=R.len h1;rcases i with _ | i
   · simp only [List.getElem?_cons_zero,Option.some.injEq] at hx
     subst hx;refine ⟨c1,h1,fun j u hu=>?_⟩
     rw [Nat.zero_mul,Nat.zero_add,List.getElem?_append_left (List.getElem?_eq_some_iff.1 hu).1];exact hu
   · obtain ⟨es,hes,hj⟩:=ih h2 (i:=i) (by simpa using hx)
     refine ⟨es,hes,fun j u hu=>?_⟩
     have:(i+1)*R.size+j=c1.length+(i*R.size+j):=by rw [e,Nat.add_mul,Nat.one_mul];omega
     rw [this,List.getElem?_append_right (by omega),Nat.add_sub_cancel_left]
     exact hj j u hu
def IsL (R:Rp α) (w:World) (K:Nat→Prop) (v:Value) (l:List α):Prop:=
 ∃ A c cs,v=.slice A l.length c∧za6 w K R.size A l.length cs∧za8 R w K cs l∧l.length≤c∧c≤9223372036854775807∧l.length≤140737488355328
variable {v:Value}
theorem IsL.keep (h:IsL R w K v l) (hk:∀ p:Addr,K p.block→p.block<w.heap.size→w'.cell? p=w.cell? p):IsL R w' K v l:=by
 obtain ⟨A,c,cs,e,h1,h2,h3⟩:=h;exact ⟨A,c,cs,e,h1.keep hk,h2.keep hk,h3⟩
theorem IsL.more (h:IsL R w K v l) (hk:∀ b,K b→K' b):IsL R w K' v l:=by
 obtain ⟨A,c,cs,e,h1,h2,h3⟩:=h;exact ⟨A,c,cs,e,h1.more hk,h2.more hk,h3⟩
theorem IsL.step (h:IsL R w K v l) (hb:Below w.heap.size w w'):IsL R w' K v l:=h.keep fun _ _ hp=>hb.cell hp
theorem IsL.alloc (h:IsL R w K v l) (o:Obj):IsL R (w.alloc o) K v l:=h.keep fun p _ hp=>World.cell?_alloc_lt w o p hp
theorem IsL.nil_ (w:World) (K:Nat→Prop):IsL R w K (.slice none 0 0) []:=⟨none,0,[],rfl,za6.none_,rfl,by simp,by omega,by simp⟩
theorem IsL.len (h:IsL R w K v l):l.length≤140737488355328:=by obtain ⟨A,c,cs,e,h1,h2,h3,h4,h5⟩:=h;exact h5
theorem IsL.form (h:IsL R w K v l):∃ A c,v=.slice A l.length c∧l.length≤c∧c≤9223372036854775807:=by obtain ⟨A,c,cs,e,h1,h2,h3,h4,h5⟩:=h;exact ⟨A,c,e,h3,h4⟩
theorem IsL.open_ {A:Option Addr} {n c:Nat} (h:IsL R w K (.slice A n c) l):n=l.length∧(∃ cs,za6 w K R.size A l.length cs∧za8 R w K cs l)∧l.length≤c∧c≤9223372036854775807∧l.length≤140737488355328:=by
 obtain ⟨A',c',cs,e,h1,h2,h3⟩:=h;injection e with e1 e2 e3;subst e1;subst e3;exact ⟨e2,⟨cs,h1,h2⟩,h3⟩
theorem IsL.at_ {A:Option Addr} {n c:Nat} (h:IsL R w K (.slice A n c) l) {i:Nat} {x:α} (hx:l[i]?=some x) :
 ∃ ad es,A=some ad∧K ad.block∧R.is w K es x∧∀ (j:Nat) u,es[j]?=some u→w.cell? ((ad.add (i*R.size)).add j)=some u:=by
 obtain ⟨A',c',cs,e,h1,h2,h3⟩:=h;injection e with e1 e2 e3;subst e1;have hi:=(List.getElem?_eq_some_iff.1 hx).1;obtain ⟨ad,ea,hK,hc⟩:=h1.2 (by omega)
 obtain ⟨es,hes,hj⟩:=h2.at_ hx;exact ⟨ad,es,ea,hK,hes,fun j u hu=>by rw [ze9];exact hc _ u (hj j u hu)⟩
def OwnL (R:Rp α) (w:World) (base:Nat) (e:TypeId) (K:Nat→Prop) (v:Value) (l:List α):Prop:=
 ∃ A c cs,v=.slice A l.length c∧w.ownsRow base e R.size (.slice A l.length c) l.length cs∧za8 R w K cs l
variable {base base':Nat} {e:TypeId}
theorem OwnL.isL (h:OwnL R w base e K v l) (hl:l.length≤140737488355328):IsL R w (fun b=>base≤b∨K b) v l:=by
 obtain ⟨A,c,cs,rfl,h1,h2⟩:=h;exact ⟨A,c,cs,rfl,(za6.of_own_ge h1).more (fun _ h=>.inl h),h2.more (fun _ h=>.inr h),zaI h1,zar h1,hl⟩
end
theorem RpL.one {α:Type} {R:Rp α} {w:World} {K:Nat→Prop} {v:Value} {l:List α} (h:IsL R w K v l):v.oneCell'=true:=by
 obtain ⟨A,c,rfl,_⟩:=h.form;rfl
def I63 (l:List Int):Prop:=∀ n∈l,-9223372036854775808≤n∧n≤9223372036854775807
theorem zg2 {w:World} {K:Nat→Prop}:∀ {l:List Int},I63 l→za8 Rp.int w K (l.map I64) l
 | [],_=>rfl
 | n::l,h=>⟨[.int .i64 n],l.map I64,rfl,⟨rfl,h n (List.mem_cons_self ..)⟩,zg2 fun m hm=>h m (List.mem_cons_of_mem _ hm)⟩
theorem zfw {w:World} {K:Nat→Prop}:∀ {l:List Int} {cs:List Value},za8 Rp.int w K cs l→cs=l.map I64∧I63 l
 | [],_,h=>⟨h,fun _ h=>by cases h⟩
 | n::l,_,⟨c1,c2,e,⟨h1,h2⟩,h3⟩=>by
   obtain ⟨e2,h4⟩:=zfw h3;refine ⟨by rw [e,h1,e2];rfl,fun m hm=>?_⟩
   rcases List.mem_cons.1 hm with rfl | hm
   · exact h2
   · exact h4 m hm
theorem IsB.lt {w:World} {K:Nat→Prop} {v:Value} {l:List UInt8} (h:IsB w K v l):IsB w (fun b=>K b∧b<w.heap.size) v l:=by
 obtain ⟨A,c,rfl,hr,h1⟩:=h;exact ⟨A,c,rfl,hr.lt (by omega),h1⟩
def za1 (f:World→Prop):Prop:=∀ w w':World,f w→Below w.heap.size w w'→f w'
theorem za1.bytes {K:Nat→Prop} {v:Value} {l:List UInt8}:za1 (fun w=>IsB w K v l):=fun _ _ h hb=>h.step hb
theorem za1.list {α:Type} {R:Rp α} {K:Nat→Prop} {v:Value} {l:List α}:za1 (fun w=>IsL R w K v l):=fun _ _ h hb=>h.step hb
structure Kn (B:Nat) (w0 w:World) (bs:List (Nat × TypeId × Array Value)) (fs:List (World→Prop)):Prop where
 below:Below B w0 w
 base:B≤w.heap.size
 blk:∀ p∈bs,Blk w p.1 p.2.1 p.2.2
 fact:∀ f∈fs,za1 f∧f w
section
variable {B:Nat} {w0 w w':World} {bs:List (Nat × TypeId × Array Value)} {fs:List (World→Prop)}
theorem Kn.start (w:World):Kn w.heap.size w w [] []:=⟨Below.refl _ _,Nat.le_refl _,by simp,by simp⟩
theorem Kn.step (h:Kn B w0 w bs fs) (hb:Below w.heap.size w w'):Kn B w0 w' bs fs:=
 ⟨h.below.trans (hb.mono h.base),Nat.le_trans h.base hb.size,fun p hp=>(h.blk p hp).step hb,fun f hf=>⟨(h.fact f hf).1,(h.fact f hf).1 _ _ (h.fact f hf).2 hb⟩⟩
theorem Kn.alloc (h:Kn B w0 w bs fs) (o:Obj):Kn B w0 (w.alloc o) bs fs:=h.step ((Below.refl _ _).alloc (Nat.le_refl _) o)
theorem Kn.push (h:Kn B w0 w bs fs) (t:TypeId) (cs:Array Value):Kn B w0 (w.alloc (.cells cs t)) ((w.heap.size,t,cs)::bs) fs:=
 let g:=h.alloc (.cells cs t)
 ⟨g.below,g.base,fun p hp=>by rcases List.mem_cons.1 hp with rfl | hp;exact Blk.new w t cs rfl;exact g.blk p hp,g.fact⟩
theorem Kn.give (h:Kn B w0 w bs fs) {f:World→Prop} (hs:za1 f) (hf:f w):Kn B w0 w bs (f::fs):=
 ⟨h.below,h.base,h.blk,fun p hp=>by rcases List.mem_cons.1 hp with rfl | hp;exact ⟨hs,hf⟩;exact h.fact p hp⟩
theorem Kn.get (h:Kn B w0 w bs fs) {f:World→Prop} (hf:f∈fs):f w:=(h.fact f hf).2
theorem Kn.at_ (h:Kn B w0 w bs fs) {g:Nat} {t:TypeId} {cs:Array Value} (hm:(g,t,cs)∈bs):Blk w g t cs:=h.blk _ hm
theorem Kn.rules (h:Kn B w0 w bs fs) {g:Nat} {t:TypeId} {cs:Array Value} (hm:(g,t,cs)∈bs):(∀ o,w.cell? ⟨g,o,none⟩=cs[o]?)∧(∀ o,w.frozen? ⟨g,o,none⟩=false)∧g<w.heap.size:=
 ⟨(h.blk _ hm).cell,(h.blk _ hm).frozen,(h.blk _ hm).lt⟩
end
def OwnR {α:Type} (R:Rp α) (w:World) (base:Nat) (e:TypeId) (X:Nat→Prop) (v:Value) (l:List α):Prop:=
 ∃ A c cs,v=.slice A l.length c∧w.ownsRow base e R.size (.slice A l.length c) l.length cs∧za8 R w (fun b=>X b∧b<w.heap.size∧some b≠(Value.slice A l.length c).ownBlock) cs l
section
variable {α:Type} {R:Rp α} {w w':World} {base:Nat} {e t:TypeId} {X X':Nat→Prop} {v:Value} {l:List α} {a:α}
theorem OwnR.nil_ (w:World) (base:Nat) (e:TypeId) (X:Nat→Prop):OwnR R w base e X (.slice none 0 0) []:=⟨none,0,[],rfl,World.ownsRow_nil _ _ _ _,rfl⟩
theorem OwnR.step (h:OwnR R w base e X v l) (hb:Below w.heap.size w w'):OwnR R w' base e X v l:=by
 obtain ⟨A,c,cs,rfl,h1,h2⟩:=h;exact ⟨A,c,cs,rfl,za4 h1 hb (Nat.le_refl _),(h2.step hb).more fun b hb'=>⟨hb'.1,by have:=hb.size;omega,hb'.2.2⟩⟩
theorem OwnR.more (h:OwnR R w base e X v l) (hX:∀ b,X b→b<w.heap.size→X' b):OwnR R w base e X' v l:=by
 obtain ⟨A,c,cs,rfl,h1,h2⟩:=h;exact ⟨A,c,cs,rfl,h1,h2.more fun b hb=>⟨hX b hb.1 hb.2.1,hb.2⟩⟩
theorem OwnR.lower {base':Nat} (h:OwnR R w base e X v l) (hb:base'≤base):OwnR R w base' e X v l:=by
 obtain ⟨A,c,cs,rfl,h1,h2⟩:=h;exact ⟨A,c,cs,rfl,zac h1 hb,h2⟩
theorem OwnR.open_ {A:Option Addr} {n c:Nat} (h:OwnR R w base e X (.slice A n c) l):n=l.length∧∃ cs,w.ownsRow base e R.size (.slice A l.length c) l.length cs∧za8 R w (fun b=>X b∧b<w.heap.size∧some b≠(Value.slice A l.length c).ownBlock) cs l:=by
 obtain ⟨A',c',cs,hv,h1,h2⟩:=h;injection hv with e1 e2 e3;subst e1 e3;exact ⟨e2,cs,h1,h2⟩
theorem OwnR.isL (h:OwnR R w base e X v l) (hl:l.length≤140737488355328) (hX:∀ b,base≤b→X' b) (hX2:∀ b,X b→X' b):IsL R w X' v l:=by
 obtain ⟨A,c,cs,rfl,h1,h2⟩:=h;exact ⟨A,c,cs,rfl,(za6.of_own_ge h1).more hX,h2.more fun b hb=>hX2 b hb.1,zaI h1,zar h1,hl⟩
theorem OwnR.push {A A':Option Addr} {c c':Nat} {cs news:List Value} (h2:za8 R w (fun b=>X b∧b<w.heap.size∧some b≠(Value.slice A l.length c).ownBlock) cs l)
 (h3:R.is w (fun b=>X b∧b<w.heap.size∧some b≠(Value.slice A l.length c).ownBlock) news a)
 (h4:w'.ownsRow base e R.size (.slice A' (l.length+1) c') (l.length+1) (cs++news)) (hg:Grew base w w' (.slice A l.length c) (.slice A' (l.length+1) c')) :
 OwnR R w' base e X (.slice A' (l.length+1) c') (l++[a]):=by
 have hlen:(l++[a]).length=l.length+1:=by simp
 refine ⟨A',c',cs++news,by rw [hlen],by rw [hlen];exact h4,?_⟩
 rw [hlen];refine ((h2.snoc h3).keep (w':=w') fun p hp hl=>World.cell?_of_block (hg.grown.block p.block hl hp.2.2)).more fun b hb=>⟨hb.1,by have:=hg.grown.size;omega,?_⟩
 rcases hg.at_ with h5 | ⟨g,h5,h6⟩
 · rw [h5];exact hb.2.2
 · rw [h5]
   intro e;injection e with e;have:=hb.2.1;omega
end
theorem OwnR.appL {α:Type} {R:Rp α} {w w':World} {base:Nat} {e:TypeId} {X:Nat→Prop} {A A':Option Addr} {n n' c c':Nat} {cs news:List Value} {l l2:List α} (hn:l.length=n) (hn':(l++l2).length=n')
 (h2:za8 R w (fun b=>X b∧b<w.heap.size∧some b≠(Value.slice A n c).ownBlock) cs l) (h3:za8 R w (fun b=>X b∧b<w.heap.size∧some b≠(Value.slice A n c).ownBlock) news l2)
 (h4:w'.ownsRow base e R.size (.slice A' n' c') n' (cs++news)) (hg:Grew base w w' (.slice A n c) (.slice A' n' c')) :
 OwnR R w' base e X (.slice A' n' c') (l++l2):=by
 subst hn;subst hn';refine ⟨A',c',cs++news,rfl,h4,?_⟩;refine ((h2.append h3).keep (w':=w') fun p hp hl=>World.cell?_of_block (hg.grown.block p.block hl hp.2.2)).more fun b hb=>⟨hb.1,by have:=hg.grown.size;omega,?_⟩
 rcases hg.at_ with h5 | ⟨g,h5,h6⟩
 · rw [h5];exact hb.2.2
 · rw [h5]
   intro e;injection e with e;have:=hb.2.1;omega
section
variable {B:Nat} {w0 w w':World} {bs:List (Nat × TypeId × Array Value)} {fs:List (World→Prop)} {g:Nat} {t:TypeId} {cs:Array Value} {K:Nat→Prop} {v:Value}
theorem Kn.from_ (hb:Below B w0 w) (hB:B≤w.heap.size):Kn B w0 w [] []:=⟨hb,hB,by simp,by simp⟩
theorem Kn.know (h:Kn B w0 w bs fs) (hk:Blk w g t cs):Kn B w0 w ((g,t,cs)::bs) fs:=
 ⟨h.below,h.base,fun p hp=>by rcases List.mem_cons.1 hp with rfl | hp;exact hk;exact h.blk p hp,h.fact⟩
theorem IsL.far {α:Type} {R:Rp α} {l:List α} (h:IsL R w K v l) (hX:¬K g) (i:Nat) (u:Value):IsL R (w.setCell ⟨g,i,none⟩ u) K v l:=
 h.keep fun p hp _=>World.cell?_setCell_other _ _ _ _ (fun e=>hX (by rw [show g=p.block from congrArg Addr.block e];exact hp))
theorem IsB.far {l:List UInt8} (h:IsB w K v l) (hX:¬K g) (i:Nat) (u:Value):IsB (w.setCell ⟨g,i,none⟩ u) K v l:=
 h.keep fun p hp _=>World.cell?_setCell_other _ _ _ _ (fun e=>hX (by rw [show g=p.block from congrArg Addr.block e];exact hp))
theorem OwnR.isLt {α:Type} {R:Rp α} {base:Nat} {e:TypeId} {X X':Nat→Prop} {l:List α} (h:OwnR R w base e X v l) (hl:l.length≤140737488355328) (hX:∀ b,b<w.heap.size→base≤b→X' b) (hX2:∀ b,b<w.heap.size→X b→X' b):IsL R w X' v l:=by
 obtain ⟨A,c,cs,rfl,h1,h2⟩:=h;exact ⟨A,c,cs,rfl,(za6.of_own h1).more fun b hb=>hX b (h1.lt b hb.symm).2 (h1.lt b hb.symm).1,h2.more fun b hb=>hX2 b hb.2.1 hb.1,zaI h1,zar h1,hl⟩
end
structure za0 (w w':World) (S:Nat→Prop):Prop where
 os:w'.os=w.os
 tape:w'.tape=w.tape
 output:w'.output=w.output
 size:w.heap.size≤w'.heap.size
 block:∀ k,k<w.heap.size→¬S k→w'.heap[k]?=w.heap[k]?
section
variable {w w' w'':World} {S S':Nat→Prop} {K:Nat→Prop} {g:Nat} {t:TypeId} {cs:Array Value} {v:Value}
theorem za0.refl (w:World) (S:Nat→Prop):za0 w w S:=⟨rfl,rfl,rfl,Nat.le_refl _,fun _ _ _=>rfl⟩
theorem za0.trans (h:za0 w w' S) (h':za0 w' w'' S):za0 w w'' S:=
 ⟨h'.os.trans h.os,h'.tape.trans h.tape,h'.output.trans h.output,Nat.le_trans h.size h'.size,fun k hk hs=>(h'.block k (Nat.lt_of_lt_of_le hk h.size) hs).trans (h.block k hk hs)⟩
theorem za0.mono (h:za0 w w' S) (hs:∀ k,S k→S' k):za0 w w' S':=⟨h.os,h.tape,h.output,h.size,fun k hk hn=>h.block k hk (fun h=>hn (hs k h))⟩
theorem za0.of (h:Below w.heap.size w w'):za0 w w' S:=⟨h.os,h.tape,h.output,h.size,fun k hk _=>h.block k hk⟩
theorem za0.step (h:za0 w w' S) (hb:Below w'.heap.size w' w''):za0 w w'' S:=h.trans (za0.of hb)
theorem za0.alloc (h:za0 w w' S) (o:Obj):za0 w (w'.alloc o) S:=h.step ((Below.refl _ _).alloc (Nat.le_refl _) o)
theorem za0.drew (h:za0 w w' S):za0 w w'.drew S:=h.step (Below.refl _ _).drew
theorem za0.set (h:za0 w w' S) (hg:S g) (i:Nat) (u:Value):za0 w (w'.setCell ⟨g,i,none⟩ u) S:=
 ⟨h.os,h.tape,h.output,by simpa [World.setCell] using h.size,fun k hk hn=>(Below.heap_setCell _ _ _ _ (fun e=>hn (by rw [show k=g from e];exact hg))).trans (h.block k hk hn)⟩
theorem za0.below {B:Nat} (h:za0 w w' S) (hS:∀ k,S k→B≤k) (hB:B≤w.heap.size):Below B w w':=
 ⟨h.os,h.tape,h.output,h.size,fun k hk=>h.block k (by omega) (fun hs=>by have:=hS k hs;omega)⟩
theorem za0.cells (h:za0 w w' S) (hK:∀ b,K b→¬S b):∀ p:Addr,K p.block→p.block<w.heap.size→w'.cell? p=w.cell? p:=fun p hp hl=>World.cell?_of_block (h.block p.block hl (hK _ hp))
theorem IsB.turned {l:List UInt8} (h:IsB w K v l) (ht:za0 w w' S) (hK:∀ b,K b→¬S b):IsB w' K v l:=h.keep (ht.cells hK)
theorem IsL.turned {α:Type} {R:Rp α} {l:List α} (h:IsL R w K v l) (ht:za0 w w' S) (hK:∀ b,K b→¬S b):IsL R w' K v l:=h.keep (ht.cells hK)
theorem za8.turned {α:Type} {R:Rp α} {l:List α} {c:List Value} (h:za8 R w K c l) (ht:za0 w w' S) (hK:∀ b,K b→¬S b):za8 R w' K c l:=h.keep (ht.cells hK)
theorem Blk.turned (h:Blk w g t cs) (ht:za0 w w' S) (hg:¬S g):Blk w' g t cs:=(ht.block g h.lt hg).trans h
end
end Go.Proofs.YthblkdnijhphhaaGreat
namespace Go.Proofs.YthblkdnijhphhaaGreat
open Go.RowKit Go.WideShapes Go.ChangeShapes Go.Deep
section
variable {H:Type} {enc:TypeId × Value→H} {P:Program} {w:World}
theorem zoh {α:Type} (R:Rp α) (K:Nat→Prop) (a:Addr) (len:Nat) (he:∀ i,i<len→∃ cs al,R.is w K cs al∧∀ (j:Nat) u,cs[j]?=some u→w.cell? (a.add (i*R.size+j))=some u) :
 ∃ cs l,l.length=len∧za8 R w K cs l∧∀ (j:Nat) u,cs[j]?=some u→w.cell? (a.add j)=some u:=by
 induction len with
 | zero=>exact ⟨[],[],rfl,rfl,fun j u hu=>by simp at hu⟩
 | succ n ih=>
   obtain ⟨cs,l,hl,hc,hr⟩:=ih fun i hi=>he i (by omega)
   obtain ⟨c1,al,h1,h2⟩:=he n (by omega)
   refine ⟨cs++c1,l++[al],by simp [hl],hc.snoc h1,fun j u hu=>?_⟩
   have hlen:=hc.len;rw [hl] at hlen;rcases Nat.lt_or_ge j cs.length with hj | hj
   · rw [List.getElem?_append_left hj] at hu;exact hr j u hu
   · rw [List.getElem?_append_right hj] at hu
     have:=h2 _ u hu;rwa [hlen,show n*R.size+(j-n*R.size)=j by omega] at this
theorem zgS {t e:TypeId} {fuel:Nat} {cs:List Value} {x:DataW H × List MemPlace} {α:Type} (R:Rp α) (ht:P.underlying t=some (.slice e)) (ce:P.cellsOf e=R.size) (be:0<P.bytesOf e) (hpos:0<R.size)
 (h:DataW.trod enc P w 0 (fun _=>true) true fuel t cs=some x) (hs:Small P t x.1)
 (hR:∀ (n:Nat) (cs':List Value) (y:DataW H × List MemPlace),DataW.trod enc P w 0 (fun _=>true) true n e cs'=some y→Small P e y.1→∃ a,R.is w (· < w.heap.size) cs' a) :
 ∃ v l,cs=[v]∧IsL R w (· < w.heap.size) v l∧l.length*P.bytesOf e≤140737488351232:=by
 rcases open_slice ht h with ⟨rfl,_⟩ | ⟨a,len,cap,m,n,D,Pl,rfl,_,hl,hm,hmm,rfl,hi⟩
 · exact ⟨_,[],rfl,IsL.nil_ _ _,by simp⟩
 · simp only [if_true] at hmm
   have hmm':=hmm.symm;subst hmm';obtain ⟨hb,hel⟩:=Small.slice ht hs;simp only [List.length_map,List.length_range] at hb;have hr:=znF;rw [ce] at hi;obtain ⟨cs,l,hll,hcl,hcc⟩:=zoh (w:=w) R (· < w.heap.size) a len fun i hil=>by
    obtain ⟨cs',hc,htr⟩:=hi i (by omega)
    obtain ⟨al,hal⟩:=hR n cs' _ htr (hel _ (List.mem_map.2 ⟨i,List.mem_range.2 hil,rfl⟩));obtain ⟨_,hlen,hat⟩:=World.cells?_some hc;refine ⟨cs',al,hal,fun j u hu=>?_⟩
    have hj:=(List.getElem?_eq_some_iff.1 hu).1;have h0:=hat j (by have:=R.len hal;omega)
    rw [ze9] at h0;rw [h0,hu]
   have hle:len*P.bytesOf e≤(len+(cap-len))*P.bytesOf e:=Nat.mul_le_mul_right _ (by omega)
   have hle2:len*1≤len*P.bytesOf e:=Nat.mul_le_mul_left _ be;subst hll;refine ⟨_,l,rfl,⟨some a,cap,cs,rfl,?_,hcl,by omega,by unfold maxLen at hm;omega,by omega⟩,by omega⟩
   have hR2:za6 w (fun _=>True) R.size (some a) l.length cs:=⟨hcl.len,fun _=>⟨a,rfl,trivial,hcc⟩⟩
   exact (hR2.lt hpos).more fun b hb=>hb.2
end
end Go.Proofs.YthblkdnijhphhaaGreat
namespace Go.Proofs.YthblkdnijhphhaaGreat
open Go.RowKit Go.WideShapes Go.ChangeShapes Go.Deep Go.Joins
theorem Tryz.ci:Tryz.prog.cellsOf 3=1:=by kernel_rfl
end Go.Proofs.YthblkdnijhphhaaGreat
namespace Go.Proofs.YthblkdnijhphhaaGreat
open Go.RowKit
theorem zny {w:World} {base g:Nat} {e:TypeId} {n c:Nat} {xs:List Value} (h:w.ownsRow base e 1 (.slice (some ⟨g,0,none⟩) n c) n xs) (i:Nat) (u:Value) :
 (w.setCell ⟨g,i,none⟩ u).ownsRow base e 1 (.slice (some ⟨g,0,none⟩) n c) n (xs.set i u):=by
 refine ⟨by rw [List.length_set];exact h.1,?_⟩
 rcases h.2 with ⟨h2,_⟩ | ⟨g',cap,cur,hv,hg,hh,h3,h4,h5,h6⟩
 · cases h2
 · injection hv with e1 e2 e3
   injection e1 with e1;injection e1 with e1 _ _;subst e1 e3;refine .inr ⟨g,c,cur.setIfInBounds i u,rfl,hg,?_,h3,h4,by simpa using h5,?_⟩
   · simp [World.setCell,Array.getElem?_modify,hh]
   · rw [←h6,Array.toList_setIfInBounds]
     rw [List.take_set]
end Go.Proofs.YthblkdnijhphhaaGreat
