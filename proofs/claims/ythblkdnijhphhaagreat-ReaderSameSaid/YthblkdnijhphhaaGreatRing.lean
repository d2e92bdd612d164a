/- A part of the proof. -/
import Derived.WalkSpells
import Derived.WalkLawsBesides
import Derived.Lib.Hide
import Derived.Deep.AppendLies
import Derived.Lib.SlBytesConst
import Derived.ProofKit
import Derived.OpenShut
import Derived.Deep.Slices
import Derived.Deep.RegionLaw
namespace Go.Proofs.YthblkdnijhphhaaGreat
open Go.RowKit
theorem zal (a:Addr) (n:Nat):(a.add n).block=a.block:=by unfold Addr.add;split <;> rfl
theorem ze8 (a:Addr) (i j:Nat):(a.add i).add j=a.add (i+j):=by
 unfold Addr.add;by_cases hi:i=0 <;> by_cases hj:j=0 <;> simp [hi,hj,Nat.add_assoc]
def za6 (w:World) (K:Nat→Prop) (size:Nat) (A:Option Addr) (n:Nat) (xs:List Value):Prop:=
 xs.length=n*size∧(0<n→∃ ad,A=some ad∧K ad.block∧∀ j u,xs[j]?=some u→w.cell? (ad.add j)=some u)
section
variable {w w':World} {K K':Nat→Prop} {B size n:Nat} {A:Option Addr} {xs:List Value}
theorem za6.none_:za6 w K size A 0 []:=⟨by simp,fun h=>absurd h (by omega)⟩
theorem za6.at_ {k:Nat} (h:za6 w K 1 A n xs) (hk:k<n):∃ ad u,A=some ad∧K ad.block∧xs[k]?=some u∧w.cell? (ad.add k)=some u:=by
 obtain ⟨ad,e,hb,hc⟩:=h.2 (by omega)
 have hl:k<xs.length:=by have:=h.1;omega
 exact ⟨ad,xs[k],e,hb,List.getElem?_eq_getElem hl,hc k _ (List.getElem?_eq_getElem hl)⟩
theorem za6.keep (h:za6 w K size A n xs) (hk:∀ p:Addr,K p.block→p.block<w.heap.size→w'.cell? p=w.cell? p):za6 w' K size A n xs:=
 ⟨h.1,fun hn=>by
  obtain ⟨ad,e,hb,hc⟩:=h.2 hn;refine ⟨ad,e,hb,fun j u hu=>(hk _ (by rw [zal];exact hb) ?_).trans (hc j u hu)⟩
  exact World.block_lt_of_cell? w _ (hc j u hu)⟩
theorem za6.more (h:za6 w K size A n xs) (hK:∀ b,K b→K' b):za6 w K' size A n xs:=
 ⟨h.1,fun hn=>by
  obtain ⟨ad,e,hb,hc⟩:=h.2 hn;exact ⟨ad,e,hK _ hb,hc⟩⟩
theorem za6.lt (h:za6 w K size A n xs) (hs:0<size):za6 w (fun b=>K b∧b<w.heap.size) size A n xs:=
 ⟨h.1,fun hn=>by
  obtain ⟨ad,e,hb,hc⟩:=h.2 hn;have hl:0<xs.length:=by rw [h.1];exact Nat.mul_pos hn hs
  have:=World.block_lt_of_cell? w _ (hc 0 _ (List.getElem?_eq_getElem hl));exact ⟨ad,e,⟨hb,by rwa [zal] at this⟩,hc⟩⟩
theorem za6.step (h:za6 w K size A n xs) (hb:Below w.heap.size w w'):za6 w' K size A n xs:=h.keep fun _ _ hp=>hb.cell hp
theorem za6.alloc (h:za6 w K size A n xs) (o:Obj):za6 (w.alloc o) K size A n xs:=h.keep fun p _ hp=>World.cell?_alloc_lt w o p hp
theorem za6.cut (h:za6 w K size A n xs) {k cap:Nat} (hk:k≤n) (hc:n≤cap) :
 za6 w K size (if cap=k then A else A.map (·.add (k*size))) (n-k) (xs.drop (k*size)):=by
 refine ⟨by rw [List.length_drop,h.1,Nat.sub_mul],fun hn=>?_⟩
 obtain ⟨ad,rfl,hb,hcell⟩:=h.2 (by omega)
 rw [if_neg (by omega)]
 refine ⟨ad.add (k*size),rfl,by rw [zal];exact hb,fun j u hu=>?_⟩
 rw [ze8];exact hcell _ u (by rw [←hu,List.getElem?_drop])
theorem za6.from_ (h:za6 w K size A n xs) {k:Nat} (hk:k≤n):za6 w K size (A.map (·.add (k*size))) (n-k) (xs.drop (k*size)):=by
 have:=h.cut (cap:=n+k+1) hk (by omega)
 rwa [if_neg (by omega)] at this
theorem za6.pre (h:za6 w K size A n xs) {k:Nat} (hk:k≤n):za6 w K size A k (xs.take (k*size)):=by
 refine ⟨by rw [List.length_take,h.1];exact Nat.min_eq_left (Nat.mul_le_mul_right _ hk),fun hn=>?_⟩
 obtain ⟨ad,rfl,hb,hcell⟩:=h.2 (by omega)
 refine ⟨ad,rfl,hb,fun j u hu=>hcell j u ?_⟩
 rw [List.getElem?_take] at hu;split at hu
 · exact hu
 · cases hu
theorem za6.of_own {base:Nat} {e:TypeId} {c:Nat} (h:w.ownsRow base e size (.slice A n c) n xs):za6 w (fun b=>some b=(Value.slice A n c).ownBlock) size A n xs:=by
 refine ⟨h.1,fun hn=>?_⟩
 obtain ⟨g,cap,hv,_,hlt⟩:=h.form hn;have hA:A=some ⟨g,0,none⟩:=by injection hv
 subst hA;exact ⟨_,rfl,rfl,h.cells (g:=g) rfl⟩
theorem za6.of_own_ge {base:Nat} {e:TypeId} {c:Nat} (h:w.ownsRow base e size (.slice A n c) n xs):za6 w (fun b=>base≤b) size A n xs:=
 (za6.of_own h).more fun b hb=>(h.lt b hb.symm).1
end
theorem zgY {W w1:World} (hb:Below W.heap.size W w1):(∀ b o,b<W.heap.size→w1.cell? ⟨b,o,none⟩=W.cell? ⟨b,o,none⟩)∧(∀ b o,b<W.heap.size→w1.frozen? ⟨b,o,none⟩=W.frozen? ⟨b,o,none⟩):=
 ⟨fun b o h=>hb.cell (p:=⟨b,o,none⟩) h,fun b o h=>hb.frozen (p:=⟨b,o,none⟩) h⟩
theorem zaF {B:Nat} {a w:World} (h:Below B a w) (n:Nat):Below B a (w.drewN n):=⟨h.os,h.tape,h.output,h.size,h.block⟩
section
variable {P:Program} (w:World)
theorem zea (base:Nat) (t ty e:TypeId) (i:TypeInfo) (size:Nat) (ht:P.underlying t=some (.slice e)) (hi:P.info? e=some i)
 (v:Value) (n:Nat) (xs:List Value) (hown:w.ownsRow base e size v n xs) (c:Nat):(Builtin.append_ #[t,t] ty #[v,.slice none 0 c]).run P w=.ok v w:=by
 rcases hown.2 with ⟨rfl,rfl⟩ | ⟨g,cap,cur,rfl,_,_,hnc,_⟩
 · simp [Builtin.append_,run_underlying ht,sizeOf,typeInfo,hi,Builtin.lenOf,Builtin.firstCells]
 · simp [Builtin.append_,run_underlying ht,sizeOf,typeInfo,hi,Builtin.lenOf,Builtin.firstCells,hnc,storeCells]
theorem zd9 (base:Nat) (t ty e:TypeId) (i:TypeInfo) (z:Value) (size bytes:Nat) (ht:P.underlying t=some (.slice e)) (hi:P.info? e=some i) (hz:i.zero=some z)
 (hsize:i.size=size) (hby:i.bytes=bytes) (hzs:z.cells.size=size) (hsz:0<size)
 (v:Value) (n:Nat) (xs:List Value) (hown:w.ownsRow base e size v n xs)
 (K:Nat→Prop) (A:Option Addr) (m c:Nat) (news:List Value) (hr:za6 w K size A m news) (h1:∀ u∈news,u.oneCell'=true)
 (h63:n+m≤maxLen) (hbytes:(n+m)*bytes≤140737488355328) (hbase:base≤w.heap.size) :
 ∃ v' w',(Builtin.append_ #[t,t] ty #[v,.slice A m c]).run P w=.ok v' w'∧w'.ownsRow base e size v' (n+m) (xs++news)∧w.grownBy w' v.ownBlock ∧
   (v'.ownBlock=v.ownBlock∨v'.ownBlock=some w.heap.size):=by
 rcases A with _ | ad
 · have hm:m=0:=by
    rcases Nat.eq_zero_or_pos m with h0 | h0
    · exact h0
    · obtain ⟨ad,h,_⟩:=hr.2 h0
      cases h
   subst hm;have hn:news=[]:=List.eq_nil_of_length_eq_zero (by simpa using hr.1)
   subst hn;exact ⟨v,w,zea w base t ty e i size ht hi v n xs hown c,by simpa using hown,World.grownBy.refl w _,.inl rfl⟩
 · have hcells:∀ j u,news[j]?=some u→w.cell? (ad.add j)=some u:=by
    intro j u hu;rcases Nat.eq_zero_or_pos m with h0 | h0
    · subst h0
      have hn:news=[]:=List.eq_nil_of_length_eq_zero (by simpa using hr.1)
      subst hn;simp at hu
    · obtain ⟨ad',h,_,hc⟩:=hr.2 h0
      injection h with h;subst h;exact hc j u hu
   obtain ⟨v',w',hrun,h2,h3,_,h5⟩:=run_append_own_at (P:=P) w base t ty e i z size bytes ht hi hz hsize hby hzs hsz v n xs hown ad m c news hr.1 hcells h1 h63 hbytes hbase;exact ⟨v',w',hrun,h2,h3,h5⟩
end
structure Grew (base:Nat) (w w':World) (v v':Value):Prop where
 below:Below base w w'
 grown:w.grownBy w' v.ownBlock
 at_:v'.ownBlock=v.ownBlock∨∃ g,v'.ownBlock=some g∧w.heap.size≤g
theorem zcb {w:World} {base:Nat} {e:TypeId} {size:Nat} {v:Value} {n:Nat} {xs:List Value} (h:w.ownsRow base e size v n xs):∃ A c,v=.slice A n c:=by
 rcases h.2 with ⟨rfl,rfl⟩ | ⟨g,cap,cur,rfl,_⟩
 · exact ⟨_,_,rfl⟩
 · exact ⟨_,_,rfl⟩
theorem zaJ {w:World} {base:Nat} {e:TypeId} {size:Nat} {A:Option Addr} {c n:Nat} {xs:List Value} (h:w.ownsRow base e size (.slice A n c) n xs):n≤c:=by
 rcases h.2 with ⟨h1,h2⟩ | ⟨g,cap,cur,h1,_,_,h2,_⟩
 · omega
 · injection h1 with h3 h4 h5;omega
theorem zdb {w:World} {base:Nat} {e:TypeId} {size:Nat} {v:Value} {n:Nat} {xs:List Value} (h:w.ownsRow base e size v n xs):∀ k,v.ownBlock=some k→base≤k:=fun k hk=>(h.lt k hk).1
theorem zac {w:World} {base base':Nat} {e:TypeId} {size:Nat} {v:Value} {n:Nat} {xs:List Value} (h:w.ownsRow base e size v n xs) (hb:base'≤base):w.ownsRow base' e size v n xs:=by
 refine ⟨h.1,?_⟩;rcases h.2 with h2 | ⟨g,cap,cur,hv,hg,r⟩
 · exact .inl h2
 · exact .inr ⟨g,cap,cur,hv,by omega,r⟩
theorem za4 {w w':World} {base B:Nat} {e:TypeId} {size:Nat} {v:Value} {n:Nat} {xs:List Value} (h:w.ownsRow base e size v n xs) (hb:Below B w w') (hB:w.heap.size≤B):w'.ownsRow base e size v n xs:=by
 refine ⟨h.1,?_⟩;rcases h.2 with h2 | ⟨g,cap,cur,hv,hg,hh,r⟩
 · exact .inl h2
 · have hlt:=(Array.getElem?_eq_some_iff.1 hh).1
   exact .inr ⟨g,cap,cur,hv,hg,by rw [hb.block g (by omega)];exact hh,r⟩
section
variable {P:Program} {w:World} {ops:Array Oper} {rest:List Oper} {o:Oper} {a:Act} {Q:Exit→Act→World→Prop}
theorem za5 (hgd:o.guard=none) (s x:Operand) (t:TypeId)
 (ho:o.op=.call { callee:=.builtin .append,args:=#[s,x],argTypes:=#[t,t] })
 (base:Nat) (e:TypeId) (i:TypeInfo) (z:Value) (size bytes:Nat) (ht:P.underlying t=some (.slice e)) (hi:P.info? e=some i) (hz:i.zero=some z)
 (hsize:i.size=size) (hby:i.bytes=bytes) (hzs:z.cells.size=size) (hsz:0<size)
 {v:Value} {n:Nat} {xs:List Value} (hs:a.eval s=v) (hown:w.ownsRow base e size v n xs)
 {K:Nat→Prop} {A:Option Addr} {m c:Nat} {news:List Value} (hx:a.eval x=.slice A m c) (hr:za6 w K size A m news) (h1:∀ u∈news,u.oneCell'=true)
 (h63:n+m≤maxLen) (hbytes:(n+m)*bytes≤140737488355328) (hbase:base≤w.heap.size)
 (h:∀ A' c' w',w'.ownsRow base e size (.slice A' (n+m) c') (n+m) (xs++news)→Grew base w w' v (.slice A' (n+m) c')→wpList P ops Q rest (a.put o.dst (.slice A' (n+m) c')) w') :
 wpList P ops Q (o::rest) a w:=
 wpList_plain hgd fun _ hK=>by
  obtain ⟨v',w',hrun,h2,h3,h4⟩:=zd9 (P:=P) w base t o.type e i z size bytes ht hi hz hsize hby hzs hsz v n xs hown K A m c news hr h1 h63 hbytes hbase;obtain ⟨A',c',rfl⟩:=zcb h2;unfold Oper.wp execOp;simp only [ho,resolve,invoke,builtin,Sem.run_bind,Sem.run_pure,Result.andThen_ok,List.map_toArray,List.map_cons,List.map_nil,hs,hx,hrun];refine hK _ _ (h A' c' w' h2 ⟨(Below.refl _ _).grown h3 hbase (zdb hown),h3,?_⟩);rcases h4 with h4 | h4
  · exact .inl h4
  · exact .inr ⟨_,h4,Nat.le_refl _⟩
theorem zdp (hgd:o.guard=none) (s x:Operand) (t:TypeId)
 (ho:o.op=.call { callee:=.builtin .append,args:=#[s,x],argTypes:=#[t,t] })
 (base:Nat) (e:TypeId) (i:TypeInfo) (z:Value) (bytes:Nat) (ht:P.underlying t=some (.slice e)) (hi:P.info? e=some i) (hz:i.zero=some z)
 (hsize:i.size=1) (hby:i.bytes=bytes) (hzs:z.cells.size=1)
 {v:Value} {n:Nat} {xs:List Value} (hs:a.eval s=v) (hown:w.ownsRow base e 1 v n xs)
 {u:Value} (hx:a.eval x=.slice (some ⟨w.heap.size,0,none⟩) 1 1) (h1:u.oneCell'=true)
 (h63:n+1≤maxLen) (hbytes:(n+1)*bytes≤140737488355328) (hbase:base≤w.heap.size)
 (h:∀ A' c' w',w'.ownsRow base e 1 (.slice A' (n+1) c') (n+1) (xs++[u])→Grew base w w' v (.slice A' (n+1) c')→wpList P ops Q rest (a.put o.dst (.slice A' (n+1) c')) w') :
 wpList P ops Q (o::rest) a (w.alloc (.cells #[u] e)):=by
 have hc:za6 (w.alloc (.cells #[u] e)) (fun _=>True) 1 (some ⟨w.heap.size,0,none⟩) 1 [u]:=⟨rfl,fun _=>⟨_,rfl,trivial,cell_one_new _ _ _⟩⟩
 refine za5 (w:=w.alloc (.cells #[u] e)) hgd s x t ho base e i z 1 bytes ht hi hz hsize hby hzs (by omega) hs (hown.alloc _) hx hc (by simpa using h1) h63 hbytes (by simp;omega) ?_
 intro A' c' w' h2 h3;refine h A' c' w' h2 ⟨((Below.refl _ _).alloc hbase _).trans h3.below,⟨h3.grown.os,h3.grown.tape,h3.grown.output,?_,fun k hk hne=>?_⟩,?_⟩
 · have:=h3.grown.size;simp at this;omega
 · exact (h3.grown.block k (by simp;omega) hne).trans (Below.heap_alloc _ _ _ hk)
 · rcases h3.at_ with h4 | ⟨g,h4,h5⟩
   · exact .inl h4
   · exact .inr ⟨g,h4,by simp at h5;omega⟩
end
def B8 (c:UInt8):Value:=.int .u8 (c.toNat:Int)
def za3 (l:List UInt8):List Value:=l.map B8
theorem zeQ (l:List UInt8) (c:UInt8):za3 (l++[c])=za3 l++[B8 c]:=by simp [za3]
theorem zaH (l m:List UInt8):za3 (l++m)=za3 l++za3 m:=by simp [za3]
theorem zb7 (l:List UInt8):(za3 l).length=l.length:=by simp [za3]
theorem zan (l:List UInt8):∀ u∈za3 l,u.oneCell'=true:=by
 intro u hu;simp only [za3,List.mem_map] at hu;obtain ⟨c,_,rfl⟩:=hu;rfl
theorem zi9 (l:List UInt8) (k:Nat):(za3 l).drop k=za3 (l.drop k):=by simp [za3,List.map_drop]
theorem zeZ (l:List UInt8) (k:Nat):(za3 l).take k=za3 (l.take k):=by simp [za3,List.map_take]
theorem za6.new {w:World} {e:TypeId} {cs:Array Value} {fr:Nat × Nat} {xs:List Value} {n size g:Nat} (hg:w.heap.size=g) (hx:cs.toList=xs) (hn:cs.size=n*size) :
 za6 (w.alloc (.cells cs e fr)) (fun b=>b=g) size (some ⟨g,0,none⟩) n xs:=by
 subst hx hg;refine ⟨by simpa using hn,fun _=>⟨_,rfl,rfl,fun j u hj=>?_⟩⟩
 have hadd:(⟨w.heap.size,0,none⟩:Addr).add j=⟨w.heap.size,j,none⟩:=by unfold Addr.add;split <;> simp_all
 rw [hadd,cell_of_row _ w.heap.size j cs e fr (heap_alloc_new w _)];simpa using hj
theorem zaG {P:Program} {K:Nat→Prop} {cap:Nat} {A:Option Addr} {l:List UInt8} (w:World) (src dst e:TypeId) (hs:P.underlying src=some (.slice e)) (he:P.underlying e=some (.int .u8)) (hd:P.underlying dst=some .string)
 {n:Nat} (hn:l.length=n) (hr:za6 w K 1 A n (za3 l)):(convert src dst (.slice A n cap)).run P w=.ok (.string ⟨l.toArray⟩) w:=by
 subst hn;rcases Nat.eq_zero_or_pos l.length with h0 | h0
 · have hl:l=[]:=List.eq_nil_of_length_eq_zero h0
   subst hl;rcases A with _ | ad
   · simp [convert,run_underlying hs,run_underlying he,run_underlying hd,Conv.bytesToString];rfl
   · exact run_convert_bytes_back w src dst e ad cap [] hs he hd (fun j hj=>absurd hj (by simp))
 · obtain ⟨ad,rfl,_,hc⟩:=hr.2 h0
   exact run_convert_bytes_back w src dst e ad cap l hs he hd (fun j hj=>hc j _ (by simp [za3,B8,List.getElem?_eq_getElem hj]))
theorem zce (w:World) (B:Nat) (e:TypeId) (size:Nat) (hB:B≤w.heap.size:=by omega):(w.alloc (.cells #[] e)).ownsRow B e size (.slice (some ⟨w.heap.size,0,none⟩) 0 0) 0 []:=
 World.ownsRow_made w #[] 0 hB (Nat.zero_le _) (by simp)
structure Part where
 A:Option Addr
 n:Nat
 c:Nat
 xs:List Value
def Part.v (p:Part):Value:=.slice p.A p.n p.c
def sumN:List Part→Nat
 | []=>0
 | p::l=>p.n+sumN l
theorem zeG (l m:List Part):sumN (l++m)=sumN l+sumN m:=by
 induction l with
 | nil=>simp [sumN]
 | cons p l ih=>simp only [List.cons_append,sumN,ih];omega
theorem zcd (l:List Part) (j:Nat):sumN (l.take j)≤sumN l:=by
 have h:=zeG (l.take j) (l.drop j);rw [List.take_append_drop] at h;omega
theorem zdD (l:List Part) {j:Nat} (h:j<l.length):sumN (l.take (j+1))=sumN (l.take j)+l[j].n:=by
 rw [List.take_succ_eq_append_getElem h,zeG];simp [sumN]
theorem zhz (l:List Part) {j:Nat} (h:j<l.length):(l.take (j+1)).flatMap Part.xs=(l.take j).flatMap Part.xs++l[j].xs:=by
 rw [List.take_succ_eq_append_getElem h,List.flatMap_append];simp only [List.flatMap_cons,List.flatMap_nil,List.append_nil]
def IsB (w:World) (K:Nat→Prop) (v:Value) (l:List UInt8):Prop:=
 ∃ A c,v=.slice A l.length c∧za6 w K 1 A l.length (za3 l)∧l.length≤c∧c≤9223372036854775807∧l.length≤140737488355328
theorem IsB.step {w w':World} {K:Nat→Prop} {v:Value} {l:List UInt8} (h:IsB w K v l) (hb:Below w.heap.size w w'):IsB w' K v l:=by
 obtain ⟨A,c,rfl,hr,h1⟩:=h;exact ⟨A,c,rfl,hr.step hb,h1⟩
theorem IsB.alloc {w:World} {K:Nat→Prop} {v:Value} {l:List UInt8} (h:IsB w K v l) (o:Obj):IsB (w.alloc o) K v l:=by
 obtain ⟨A,c,rfl,hr,h1⟩:=h;exact ⟨A,c,rfl,hr.alloc o,h1⟩
theorem IsB.drew {w:World} {K:Nat→Prop} {v:Value} {l:List UInt8} (h:IsB w K v l):IsB w.drew K v l:=h
theorem IsB.more {w:World} {K K':Nat→Prop} {v:Value} {l:List UInt8} (h:IsB w K v l) (hK:∀ b,K b→K' b):IsB w K' v l:=by
 obtain ⟨A,c,rfl,hr,h1⟩:=h;exact ⟨A,c,rfl,hr.more hK,h1⟩
theorem IsB.keep {w w':World} {K:Nat→Prop} {v:Value} {l:List UInt8} (h:IsB w K v l) (hk:∀ p:Addr,K p.block→p.block<w.heap.size→w'.cell? p=w.cell? p):IsB w' K v l:=by
 obtain ⟨A,c,rfl,hr,h1⟩:=h;exact ⟨A,c,rfl,hr.keep hk,h1⟩
theorem IsB.open_ {w:World} {K:Nat→Prop} {A:Option Addr} {n c:Nat} {l:List UInt8} (h:IsB w K (.slice A n c) l) :
 n=l.length∧za6 w K 1 A l.length (za3 l)∧l.length≤c∧c≤9223372036854775807∧l.length≤140737488355328:=by
 obtain ⟨A',c',hv,hr,h1⟩:=h;injection hv with h2 h3 h4;subst h2;subst h4;exact ⟨h3,hr,h1⟩
theorem IsB.len {w:World} {K:Nat→Prop} {v:Value} {l:List UInt8} (h:IsB w K v l):l.length≤140737488355328:=by
 obtain ⟨A,c,rfl,hr,h1,h2,h3⟩:=h;exact h3
theorem zar {w:World} {base:Nat} {e:TypeId} {size:Nat} {A:Option Addr} {c n:Nat} {xs:List Value} (h:w.ownsRow base e size (.slice A n c) n xs):c≤9223372036854775807:=by
 rcases h.2 with ⟨h1,h2⟩ | ⟨g,cap,cur,h1,_,_,_,h2,_⟩
 · injection h1 with h3 h4 h5;omega
 · injection h1 with h3 h4 h5;unfold maxLen at h2;omega
theorem IsB.of_own {w:World} {base:Nat} {e:TypeId} {A:Option Addr} {c:Nat} {l:List UInt8} (h:w.ownsRow base e 1 (.slice A l.length c) l.length (za3 l)) (hl:l.length≤140737488355328):IsB w (fun b=>base≤b) (.slice A l.length c) l:=
 ⟨A,c,rfl,za6.of_own_ge h,zaJ h,zar h,hl⟩
theorem zbq {w:World} {base base' g:Nat} {e:TypeId} {size:Nat} {v:Value} {n:Nat} {xs:List Value} {x y z:Value} (h:w.ownsRow base e size v n xs) (hg:g<base) (hb:base'≤base) :
 (((w.setCell ⟨g,0,none⟩ x).setCell ⟨g,1,none⟩ y).setCell ⟨g,2,none⟩ z).ownsRow base' e size v n xs:=
 zac (ownsRow_setCell_below (ownsRow_setCell_below (ownsRow_setCell_below h hg _) hg _) hg _) hb
theorem zad {a w:World} {B g:Nat} {x y z:Value} (h:Below B a w) (hg:B≤g):Below B a (((w.setCell ⟨g,0,none⟩ x).setCell ⟨g,1,none⟩ y).setCell ⟨g,2,none⟩ z):=
 ((h.setCell hg _).setCell hg _).setCell hg _
def Blk (w:World) (g:Nat) (t:TypeId) (cs:Array Value):Prop:=w.heap[g]?=some (.cells cs t (0,0))
section
variable {w w':World} {g:Nat} {t:TypeId} {cs:Array Value}
theorem Blk.lt (h:Blk w g t cs):g<w.heap.size:=by
 rcases Nat.lt_or_ge g w.heap.size with hlt | hge
 · exact hlt
 · unfold Blk at h;rw [Array.getElem?_eq_none hge] at h;cases h
theorem Blk.cell (h:Blk w g t cs) (i:Nat):w.cell? ⟨g,i,none⟩=cs[i]?:=cell_of_row w g i cs t (0,0) h
theorem Blk.frozen (h:Blk w g t cs) (i:Nat):w.frozen? ⟨g,i,none⟩=false:=by
 unfold Blk at h;simp [World.frozen?,h]
theorem Blk.rules (h:Blk w g t cs):(∀ o,w.cell? ⟨g,o,none⟩=cs[o]?)∧(∀ o,w.frozen? ⟨g,o,none⟩=false):=⟨h.cell,h.frozen⟩
theorem Blk.new (w:World) (t:TypeId) (cs:Array Value) {g:Nat} (hg:w.heap.size=g):Blk (w.alloc (.cells cs t)) g t cs:=by subst hg;exact heap_alloc_new w _
theorem Blk.drew (h:Blk w g t cs):Blk w.drew g t cs:=h
theorem Blk.drewN (h:Blk w g t cs) (n:Nat):Blk (w.drewN n) g t cs:=h
theorem Blk.alloc (h:Blk w g t cs) (o:Obj):Blk (w.alloc o) g t cs:=(Below.heap_alloc w o g h.lt).trans h
theorem Blk.set_ (h:Blk w g t cs) (i:Nat) (u:Value):Blk (w.setCell ⟨g,i,none⟩ u) g t (cs.setIfInBounds i u):=by
 unfold Blk at h ⊢;simp [World.setCell,Array.getElem?_modify,h]
theorem Blk.far (h:Blk w g t cs) {p:Addr} (hp:g≠p.block) (u:Value):Blk (w.setCell p u) g t cs:=(Below.heap_setCell w p u g hp).trans h
theorem Blk.step (h:Blk w g t cs) (hb:Below w.heap.size w w'):Blk w' g t cs:=(hb.block g h.lt).trans h
theorem Blk.grown {row:Option Nat} (h:Blk w g t cs) (hb:w.grownBy w' row) (hg:some g≠row):Blk w' g t cs:=(hb.block g h.lt hg).trans h
theorem Blk.ne_ {g':Nat} {t':TypeId} {cs':Array Value} (h:Blk w g t cs) (h':Blk w g' t' cs') (hne:t≠t'):g≠g':=by
 rintro rfl;unfold Blk at h h';rw [h] at h';injection h' with h';injection h' with _ ht;exact hne ht
theorem zcR {base:Nat} {e:TypeId} {size n:Nat} {v:Value} {xs:List Value} (h:w.ownsRow base e size v n xs) (hg:Blk w g t cs) (hne:e≠t):v.ownBlock≠some g:=by
 rcases h.2 with ⟨rfl,_⟩ | ⟨g',cap,cur,rfl,_,hh,_⟩
 · simp [Value.ownBlock]
 · intro he
   have:g'=g:=by simpa [Value.ownBlock] using he
   subst this;exact Blk.ne_ (t:=e) hh hg hne rfl
end
theorem IsB.nil_ (w:World) (K:Nat→Prop):IsB w K (.slice none 0 0) []:=⟨none,0,rfl,za6.none_,by simp,by omega,by simp⟩
theorem IsB.pre {w:World} {K:Nat→Prop} {A:Option Addr} {n c:Nat} {l:List UInt8} (h:IsB w K (.slice A n c) l) {k:Nat} (hk:k≤l.length):IsB w K (.slice A k c) (l.take k):=by
 obtain ⟨rfl,hr,h1,h2,h3⟩:=h.open_;have e:(l.take k).length=k:=by rw [List.length_take];omega
 refine ⟨A,c,by rw [e],?_,by omega,h2,by omega⟩
 rw [e,←zeZ];simpa using hr.pre hk
theorem IsB.mid {w:World} {K:Nat→Prop} {A:Option Addr} {n c:Nat} {l:List UInt8} (h:IsB w K (.slice A n c) l) {i k c':Nat} (hk:i+k≤l.length) (hc:k≤c') (hc':c'≤9223372036854775807) :
 IsB w K (.slice (A.map (·.add i)) k c') ((l.drop i).take k):=by
 obtain ⟨rfl,hr,h1,h2,h3⟩:=h.open_;have e:((l.drop i).take k).length=k:=by rw [List.length_take,List.length_drop];omega
 refine ⟨A.map (·.add i),c',by rw [e],?_,by omega,hc',by omega⟩
 have h4:=(hr.from_ (k:=i) (by omega)).pre (k:=k) (by omega)
 rw [e];simpa [za3,List.map_drop,List.map_take] using h4
def I64 (c:Int):Value:=.int .i64 c
theorem zhL {w:World} {base base':Nat} {e e':TypeId} {size size' n n':Nat} {v v':Value} {xs xs':List Value} (h:w.ownsRow base e size v n xs) (h':w.ownsRow base' e' size' v' n' xs') (hne:e≠e') :
 v.ownBlock=none∨v.ownBlock≠v'.ownBlock:=by
 rcases h.2 with ⟨rfl,_⟩ | ⟨g,cap,cur,rfl,_,hh,_⟩
 · exact .inl rfl
 · refine .inr ?_
   rcases h'.2 with ⟨rfl,_⟩ | ⟨g',cap',cur',rfl,_,hh',_⟩
   · simp [Value.ownBlock]
   · simp only [Value.ownBlock,ne_eq,Option.some.injEq]
     intro he;rw [he,hh'] at hh;injection hh with hh;injection hh with _ h3;exact hne h3.symm
theorem zfS {w:World} {base:Nat} {e t:TypeId} {size n g:Nat} {v:Value} {xs:List Value} {cs:Array Value} (h:w.ownsRow base e size v n xs) (hB:Blk w g t cs) (hne:e≠t) (i:Nat) (u:Value) :
 (w.setCell ⟨g,i,none⟩ u).ownsRow base e size v n xs:=by
 refine ⟨h.1,?_⟩;rcases h.2 with h2 | ⟨g',cap,cur,hv,hg,hh,r⟩
 · exact .inl h2
 · have hgg:g'≠g:=Blk.ne_ (t:=e) hh hB hne
   exact .inr ⟨g',cap,cur,hv,hg,by rw [Below.heap_setCell _ _ _ _ (by simpa using hgg)];exact hh,r⟩
theorem zbQ {w w':World} {base base':Nat} {e e':TypeId} {size size' n n':Nat} {v v0 v1:Value} {xs xs':List Value} (h:w.ownsRow base e size v n xs) (h':w.ownsRow base' e' size' v0 n' xs') (hne:e≠e') (hg:Grew base' w w' v0 v1) :
 w'.ownsRow base e size v n xs:=h.kept hg.grown (zhL h h' hne)
theorem Blk.grew {w w':World} {g:Nat} {t e':TypeId} {cs:Array Value} {base' size' n':Nat} {v0 v1:Value} {xs':List Value} (h:Blk w g t cs) (h':w.ownsRow base' e' size' v0 n' xs') (hne:e'≠t) (hg:Grew base' w w' v0 v1):Blk w' g t cs:=
 h.grown hg.grown (fun e=>zcR h' h hne e.symm)
theorem zb4 {P:Program} {w:World} {ops:Array Oper} {rest:List Oper} {o:Oper} {a:Act} {Q:Exit→Act→World→Prop} (hgd:o.guard=none) (s x:Operand) (t:TypeId)
 (ho:o.op=.call { callee:=.builtin .append,args:=#[s,x],argTypes:=#[t,t] })
 (base:Nat) (e:TypeId) (i:TypeInfo) (z:Value) (bytes:Nat) (ht:P.underlying t=some (.slice e)) (hi:P.info? e=some i) (hz:i.zero=some z)
 (hsize:i.size=1) (hby:i.bytes=bytes) (hzs:z.cells.size=1)
 {v:Value} {n:Nat} {xs:List Value} (hs:a.eval s=v) (hown:w.ownsRow base e 1 v n xs)
 {u:Value} {g:Nat} (hx:a.eval x=.slice (some ⟨g,0,none⟩) 1 1) (hg:w.heap.size=g) (h1:u.oneCell'=true)
 (h63:n+1≤maxLen) (hbytes:(n+1)*bytes≤140737488355328) (hbase:base≤w.heap.size)
 (h:∀ A' c' w',w'.ownsRow base e 1 (.slice A' (n+1) c') (n+1) (xs++[u])→Grew base w w' v (.slice A' (n+1) c')→wpList P ops Q rest (a.put o.dst (.slice A' (n+1) c')) w') :
 wpList P ops Q (o::rest) a (w.alloc (.cells #[u] e)):=by
 subst hg;exact zdp hgd s x t ho base e i z bytes ht hi hz hsize hby hzs hs hown hx h1 h63 hbytes hbase h
end Go.Proofs.YthblkdnijhphhaaGreat
namespace Go.Proofs.YthblkdnijhphhaaGreat
section
variable {α:Type} {a b c d e f g h i j:α} {l:List α}
theorem m0:a∈a::l:=List.mem_cons_self ..
theorem m1:b∈a::b::l:=List.mem_cons_of_mem _ m0
theorem m2:c∈a::b::c::l:=List.mem_cons_of_mem _ m1
theorem m3:d∈a::b::c::d::l:=List.mem_cons_of_mem _ m2
theorem m4:e∈a::b::c::d::e::l:=List.mem_cons_of_mem _ m3
theorem m5:f∈a::b::c::d::e::f::l:=List.mem_cons_of_mem _ m4
theorem m6:g∈a::b::c::d::e::f::g::l:=List.mem_cons_of_mem _ m5
theorem m7:h∈a::b::c::d::e::f::g::h::l:=List.mem_cons_of_mem _ m6
theorem m8:i∈a::b::c::d::e::f::g::h::i::l:=List.mem_cons_of_mem _ m7
end
end Go.Proofs.YthblkdnijhphhaaGreat
namespace Go.Proofs.YthblkdnijhphhaaGreat
open Go.RowKit Go.WideShapes Go.ChangeShapes Go.Deep
section
variable {H:Type} {enc:TypeId × Value→H} {P:Program} {w:World}
def Small (P:Program) (t:TypeId) (d:DataW H):Prop:=∀ n∈d.weights P t,n≤reachBytes
theorem Small.of_args {ts:List TypeId} {ds:List (DataW H)} (h:(DataW.weightsEach P ts ds).all (·≤reachBytes)=true) {j:Nat} {t:TypeId} {d:DataW H} (ht:ts[j]?=some t) (hd:ds[j]?=some d):Small P t d:=by
 intro n hn;have:=List.all_eq_true.1 h _ (DataW.weights_mem_each ht hd n hn);simpa using this
theorem zew {e:TypeId} {l:List (DataW H)} {d:DataW H} (hd:d∈l) {n:Nat} (hn:n∈d.weights P e):n∈DataW.weightsAll P e l:=by
 induction l with
 | nil=>cases hd
 | cons a l ih=>
   simp only [DataW.weightsAll,List.mem_append];rcases List.mem_cons.1 hd with rfl | hd
   · exact .inl hn
   · exact .inr (ih hd)
theorem Small.slice {t e:TypeId} {elems spare:List (DataW H)} (ht:P.underlying t=some (.slice e)) (h:Small P t (.slice elems spare)) :
 (elems.length+spare.length)*P.bytesOf e≤reachBytes∧∀ d∈elems,Small P e d:=by
 refine ⟨h _ (by simp [DataW.weights,ht]),fun d hd n hn=>h n ?_⟩
 simp only [DataW.weights,ht,List.mem_cons,List.mem_append];exact .inr (.inl (zew hd hn))
theorem zoA:reachBytes≤140737488351232:=by decide
theorem zlN {t:TypeId} (hl:laidOutB P=true) (hr:P.readableRec t=true) (hrow:t<P.types.size) {W W':World} {v:Value} {d:DataW H} {ps:List MemPlace}
 (h:DataW.Trod enc P W 0 (fun _=>true) true t v d ps) (hb:Below W.heap.size W W') (hlt:∀ x∈ps,x.block<W.heap.size) {sp:Nat→Bool} (hsp:∀ x∈ps,sp x.block=true) :
 DataW.Trod enc P W' 0 sp true t v d ps:=
 WideElems.Trod_stays hl hr hrow h (fun x hx=>hb.same (hlt x hx)) hsp
end
end Go.Proofs.YthblkdnijhphhaaGreat
namespace Go.Proofs.YthblkdnijhphhaaGreat
open Go.RowKit
theorem zk8 {P:Program} {w:World} {ops:Array Oper} {o:Oper} {a:Act} {K0:Act→World→Prop} {Q:Exit→Act→World→Prop} {E:Prop} (hgd:o.guard=none) (s x:Operand) (t:TypeId)
 (ho:o.op=.call { callee:=.builtin .append,args:=#[s,x],argTypes:=#[t,t] })
 (base:Nat) (e:TypeId) (i:TypeInfo) (z:Value) (size bytes:Nat) (ht:P.underlying t=some (.slice e)) (hi:P.info? e=some i) (hz:i.zero=some z)
 (hsize:i.size=size) (hby:i.bytes=bytes) (hzs:z.cells.size=size) (hsz:0<size)
 {v:Value} {n:Nat} {xs:List Value} (hs:a.eval s=v) (hown:w.ownsRow base e size v n xs)
 {K:Nat→Prop} {A:Option Addr} {m c:Nat} {news:List Value} (hx:a.eval x=.slice A m c) (hr:za6 w K size A m news) (h1:∀ u∈news,u.oneCell'=true)
 (h63:n+m≤maxLen) (hbytes:(n+m)*bytes≤140737488355328) (hbase:base≤w.heap.size)
 (h:∀ A' c' w',w'.ownsRow base e size (.slice A' (n+m) c') (n+m) (xs++news)→Grew base w w' v (.slice A' (n+m) c')→K0 (a.put o.dst (.slice A' (n+m) c')) w') :
 if Region.wanted o (yielded ops a.tmps)=true then Oper.wp P o a w K0 Q else E:=by
 have hw:Region.wanted o (yielded ops a.tmps)=true:=by simp [Region.wanted,hgd]
 rw [if_pos hw];obtain ⟨v',w',hrun,h2,h3,h4⟩:=zd9 (P:=P) w base t o.type e i z size bytes ht hi hz hsize hby hzs hsz v n xs hown K A m c news hr h1 h63 hbytes hbase;obtain ⟨A',c',rfl⟩:=zcb h2;unfold Oper.wp execOp;simp only [ho,resolve,invoke,builtin,Sem.run_bind,Sem.run_pure,Result.andThen_ok,List.map_toArray,List.map_cons,List.map_nil,hs,hx,hrun];refine h A' c' w' h2 ⟨(Below.refl _ _).grown h3 hbase (zdb hown),h3,?_⟩;rcases h4 with h4 | h4
 · exact .inl h4
 · exact .inr ⟨_,h4,Nat.le_refl _⟩
end Go.Proofs.YthblkdnijhphhaaGreat
namespace Go.Proofs.YthblkdnijhphhaaGreat
def upd (f:Nat→Nat) (a b:Nat):Nat→Nat:=fun x=>if x=a then b else f x
theorem zaL {f:Nat→Nat} {a b:Nat}:upd f a b a=b:=if_pos rfl
theorem zb0 {f:Nat→Nat} {a b x:Nat} (h:x≠a):upd f a b x=f x:=if_neg h
def Lk (ah af:Nat→Nat):List Nat→Prop
 | a::b::l=>af a=b∧ah b=a∧Lk ah af (b::l)
 | _=>True
structure Ring (c:Nat) (es:List Nat) (ah af:Nat→Nat):Prop where
 nodup:(c::es).Nodup
 lk:Lk ah af (c::(es++[c]))
section
variable {ah af ah' af':Nat→Nat} {c e:Nat} {es l r:List Nat}
theorem Lk.split:∀ {l:List Nat} {b:Nat} {r:List Nat},Lk ah af (l++b::r)↔Lk ah af (l++[b])∧Lk ah af (b::r)
 | [],b,r=>⟨fun h=>⟨trivial,h⟩,fun h=>h.2⟩
 | [a],b,r=>⟨fun h=>⟨⟨h.1,h.2.1,trivial⟩,h.2.2⟩,fun h=>⟨h.1.1,h.1.2.1,h.2⟩⟩
 | a::a'::l,b,r=>by
   have ih:=Lk.split (l:=a'::l) (b:=b) (r:=r);constructor
   · intro h
     have h2:=ih.1 h.2.2;exact ⟨⟨h.1,h.2.1,h2.1⟩,h2.2⟩
   · intro h
     exact ⟨h.1.1,h.1.2.1,ih.2 ⟨h.1.2.2,h.2⟩⟩
theorem Lk.congr:∀ {l:List Nat},Lk ah af l→(∀ x∈l.dropLast,af' x=af x)→(∀ y∈l.tail,ah' y=ah y)→Lk ah' af' l
 | [],_,_,_=>trivial
 | [_],_,_,_=>trivial
 | a::b::l,h,h1,h2=>⟨by rw [h1 a (by simp)];exact h.1,by rw [h2 b (by simp)];exact h.2.1,
   Lk.congr h.2.2 (fun x hx=>h1 x (by rw [List.dropLast_cons_of_ne_nil (by simp)];exact List.mem_cons_of_mem _ hx)) (fun y hy=>h2 y (by simp at hy ⊢;exact .inr hy))⟩
theorem zio:∀ (l:List Nat) (a:Nat),∃ L x,a::l=L++[x]
 | [],a=>⟨[],a,rfl⟩
 | b::l,a=>by
   obtain ⟨L,x,h⟩:=zio l b;exact ⟨a::L,x,by rw [h];rfl⟩
theorem Ring.out (h:Ring c (l++e::r) ah af):Ring c (l++r) (upd ah (af e) (ah e)) (upd af (ah e) (af e))∧ah e∈c::l∧af e∈r++[c]:=by
 obtain ⟨hn,hl⟩:=h;obtain ⟨L,a,hL⟩:=zio l c;obtain ⟨b,R,hR⟩:∃ b R,r++[c]=b::R:=by cases r with | nil=>exact ⟨c,[],rfl⟩ | cons x r=>exact ⟨x,r++[c],rfl⟩
 have e1:c::((l++e::r)++[c])=L++a::e::b::R:=by
  rw [List.append_assoc,List.cons_append,hR,←List.cons_append,hL,List.append_assoc];rfl
 rw [e1] at hl;have h1:=Lk.split.1 hl;obtain ⟨h2,h3,h4,h5,h6⟩:=h1.2;have haf:ah e=a:=h3;have hbf:af e=b:=h4;rw [haf,hbf];have ha:a∈c::l:=by rw [hL];simp
 have hb:b∈r++[c]:=by rw [hR];simp
 refine ⟨⟨?_,?_⟩,ha,hb⟩
 · refine List.Nodup.sublist ?_ hn
   exact List.Sublist.cons_cons c (List.Sublist.append (List.Sublist.refl l) (List.sublist_cons_self e r))
 · have e2:c::((l++r)++[c])=L++a::b::R:=by
    rw [List.append_assoc,hR,←List.cons_append,hL,List.append_assoc];rfl
   rw [e2];have hnl:(c::l).Nodup:=List.Nodup.sublist (List.Sublist.cons_cons c (List.sublist_append_left l _)) hn;have hnL:(L++[a]).Nodup:=by rw [←hL];exact hnl
   have hdis:∀ x∈c::l,x∉r:=by
    intro x hx hr;have:(c::l++e::r).Nodup:=hn;rw [List.nodup_append] at this;exact this.2.2 x hx x (List.mem_cons_of_mem _ hr) rfl
   have hcl:c∉l:=(List.nodup_cons.1 hnl).1;have hcr:c∉r:=hdis c (List.mem_cons_self ..);have hnr:r.Nodup:=by
    have:(c::l++e::r).Nodup:=hn;rw [List.nodup_append] at this;exact (List.nodup_cons.1 this.2.1).2
   refine Lk.split.2 ⟨Lk.congr h1.1 (fun x hx=>zb0 ?_) (fun y hy=>zb0 ?_),zaL,zaL,Lk.congr h6 (fun x hx=>zb0 ?_) (fun y hy=>zb0 ?_)⟩
   · rw [List.dropLast_concat] at hx
     rintro rfl;rw [List.nodup_append] at hnL;exact hnL.2.2 x hx x (List.mem_singleton.2 rfl) rfl
   · rw [←hL] at hy
     simp only [List.tail_cons] at hy;rintro rfl;rcases List.mem_append.1 hb with h | h
     · exact hdis y (List.mem_cons_of_mem _ hy) h
     · rw [List.mem_singleton.1 h] at hy;exact hcl hy
   · rw [←hR,List.dropLast_concat] at hx
     rintro rfl;exact hdis x ha hx
   · rintro rfl
     cases r with
     | nil=>injection hR with h1 h2;rw [←h2] at hy;simp at hy
     | cons x r=>
       injection hR with h1 h2;rw [←h2] at hy;simp only [List.tail_cons] at hy;rw [←h1] at hy;rcases List.mem_append.1 hy with h | h
       · exact (List.nodup_cons.1 hnr).1 h
       · rw [List.mem_singleton.1 h] at hcr;exact hcr (List.mem_cons_self ..)
theorem Ring.after_mem (h:Ring c es ah af):af c∈es++[c]:=by
 cases es with
 | nil=>have:=h.lk.1;rw [this];simp
 | cons x l=>have:=h.lk.1;rw [this];simp
theorem Ring.first (h:Ring c es ah af) (he:e∉c::es):Ring c (e::es) (upd (upd ah e c) (af c) e) (upd (upd af e (af c)) c e):=by
 obtain ⟨hn,hl⟩:=h;have hec:e≠c:=fun x=>he (by rw [x];exact List.mem_cons_self ..)
 have hes:e∉es:=fun x=>he (List.mem_cons_of_mem _ x)
 have hc:=(List.nodup_cons.1 hn).1;obtain ⟨b,R,hR⟩:∃ b R,es++[c]=b::R:=by cases es with | nil=>exact ⟨c,[],rfl⟩ | cons x r=>exact ⟨x,r++[c],rfl⟩
 rw [hR] at hl;have hb:af c=b:=hl.1;have hbm:b∈es++[c]:=by rw [hR];exact List.mem_cons_self ..
 have heb:e≠b:=by
  rintro rfl;rcases List.mem_append.1 hbm with h | h
  · exact hes h
  · exact hec (List.mem_singleton.1 h)
 rw [hb];refine ⟨List.nodup_cons.2 ⟨?_,List.nodup_cons.2 ⟨hes,(List.nodup_cons.1 hn).2⟩⟩,?_⟩
 · rintro h
   rcases List.mem_cons.1 h with h | h
   · exact hec h.symm
   · exact hc h
 · show Lk _ _ (c::e::(es++[c]))
   rw [hR];refine ⟨zaL,by rw [zb0 heb];exact zaL,by rw [zb0 hec];exact zaL,zaL,Lk.congr hl.2.2 (fun x hx=>?_) (fun y hy=>?_)⟩
   · rw [←hR,List.dropLast_concat] at hx
     rw [zb0 (fun h=>hc (by rw [←h];exact hx)),zb0 (fun h=>hes (by rw [←h];exact hx))]
   · have hyb:y≠b:=by
      rintro rfl;cases es with
      | nil=>injection hR with h1 h2;rw [←h2] at hy;simp at hy
      | cons x r=>
        injection hR with h1 h2;rw [←h2] at hy;simp only [List.tail_cons] at hy;rw [←h1] at hy;rcases List.mem_append.1 hy with h | h
        · exact (List.nodup_cons.1 (List.nodup_cons.1 hn).2).1 h
        · rw [List.mem_singleton.1 h] at hc;exact hc (List.mem_cons_self ..)
     have hye:y≠e:=by
      rintro rfl;have:y∈es++[c]:=by rw [hR];exact List.mem_cons_of_mem _ hy
      rcases List.mem_append.1 this with h | h
      · exact hes h
      · exact hec (List.mem_singleton.1 h)
     rw [zb0 hyb,zb0 hye]
theorem Ring.last (h:Ring c (l++[e]) ah af):ah c=e:=by
 have h1:=h.lk;have e1:c::((l++[e])++[c])=(c::l)++e::[c]:=by simp
 rw [e1] at h1;exact (Lk.split.1 h1).2.2.1
theorem Ring.made {c:Nat}:Ring c [] (fun _=>c) (fun _=>c):=⟨by simp,rfl,rfl,trivial⟩
theorem Ring.next (h:Ring c (l++e::r) ah af):af e=(r++[c]).headD c:=by
 have h1:=h.lk;have e1:c::((l++e::r)++[c])=(c::l)++e::(r++[c]):=by simp
 rw [e1] at h1;cases r with
 | nil=>exact (Lk.split.1 h1).2.1
 | cons x r=>exact (Lk.split.1 h1).2.1
theorem Ring.head (h:Ring c es ah af):af c=(es++[c]).headD c:=by
 cases es with
 | nil=>exact h.lk.1
 | cons x r=>exact h.lk.1
theorem Ring.ahead_mem (h:Ring c (l++e::r) ah af):ah e∈c::(l++e::r)∧af e∈c::(l++e::r):=by
 obtain ⟨_,h1,h2⟩:=h.out;refine ⟨?_,?_⟩
 · rcases List.mem_cons.1 h1 with h | h
   · rw [h];exact List.mem_cons_self ..
   · exact List.mem_cons_of_mem _ (List.mem_append_left _ h)
 · rcases List.mem_append.1 h2 with h | h
   · exact List.mem_cons_of_mem _ (List.mem_append_right _ (List.mem_cons_of_mem _ h))
   · rw [List.mem_singleton.1 h];exact List.mem_cons_self ..
end
end Go.Proofs.YthblkdnijhphhaaGreat
