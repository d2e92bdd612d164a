/- A part of the proof. -/
import Derived.Test.YtfhpolidjmbjoaaGreatZnsPlain2
import Derived.Test.YtfhpolidjmbjoaaGreatPackLive
import Derived.Test.YtfhpolidjmbjoaaGreatExtPlain
namespace Go.Proofs.YtfhpolidjmbjoaaGreat
open Go.RowKit
def dataL (r:Rc):Int:=if (recL r).2≠0 then 0 else (recL r).1.length-4-r.data.length
def extOf (r:Rc) (zone off:Int):Ex:=⟨r.lba,r.n,r.ver,if r.kind=2 then -1 else if r.kind=3 then r.zone else zone,if r.kind=2 then 0 else if r.kind=3 then r.off else off⟩
def applyE (m:List Ex) (r:Rc) (zone off:Int):List Ex × Int:=
 if chkE m≠0∨checkL r≠0∨zone<0∨off<0∨1099511627776<off then ([],1)
 else if ¬mayE (extOf r zone off) then ([],1)
 else if 10000<(offer1 m (extOf r zone off)).length then ([],2) else (offer1 m (extOf r zone off),0)
def entsF (i:Nat) (f:Fd):List (Rc × Int × Int):=List.zipWith (fun r a=>(r,(i:Int),a+dataL r)) f.l f.at_
def mapGo:List (Rc × Int × Int)→List Ex→List Ex × Int
 | [],m=>(m,0)
 | x::l,m=>if (applyE m x.1 x.2.1 x.2.2).2≠0 then ([],(applyE m x.1 x.2.1 x.2.2).2) else mapGo l (applyE m x.1 x.2.1 x.2.2).1
theorem mapGo_cons (x:Rc × Int × Int) (l:List (Rc × Int × Int)) (m:List Ex):mapGo (x::l) m=if (applyE m x.1 x.2.1 x.2.2).2≠0 then ([],(applyE m x.1 x.2.1 x.2.2).2) else mapGo l (applyE m x.1 x.2.1 x.2.2).1:=rfl
theorem mapGo_append {l k:List (Rc × Int × Int)} {m n:List Ex} (h:mapGo l m=(n,0)):mapGo (l++k) m=mapGo k n:=by
 induction l generalizing m with
 | nil=>simp only [mapGo,Prod.mk.injEq,and_true] at h;subst h;rfl
 | cons x l ih=>
   rw [List.cons_append];rw [mapGo_cons] at h ⊢;split at h
   · rename_i h1;injection h with _ h2;exact absurd h2 h1
   · rename_i h1;rw [if_neg h1];exact ih h
structure GoodR (B:Int) (r:Rc):Prop where
 kind:r.kind=1∨r.kind=2
 lba:0≤r.lba∧1≤r.n∧r.lba+r.n≤B
 n:r.n≤256
 ver:0≤r.ver∧r.ver≤1000000
 rest:r.zone=0∧r.off=0
 data:r.kind=1→(r.data.length:Int)=16*r.n
 trim:r.kind=2→r.data=[]
theorem GoodR.check {B:Int} {r:Rc} (h:GoodR B r) (hB:B≤1000000):checkL r=0:=by
 obtain ⟨h1,h2,h3,h4,h5,h6,h7⟩:=h;unfold checkL;rw [if_neg (by omega),if_neg (by omega),if_neg (by omega),if_neg (by omega),if_neg (by omega)]
 rcases h1 with h1 | h1
 · rw [if_pos (.inl h1),if_neg (by have:=h6 h1;omega)]
 · rw [if_neg (by omega),if_neg (by rw [h7 h1];simp)]
theorem GoodR.ok {B:Int} {r:Rc} (h:GoodR B r) (hB:B≤1000000):OkRc r:=by
 obtain ⟨h1,h2,h3,h4,h5,h6,h7⟩:=h;intro n hn;simp only [recN,List.mem_cons,List.not_mem_nil,or_false] at hn;omega
def GoodX (B:Int) (x:Rc × Int × Int):Prop:=GoodR B x.1∧(0≤x.2.1∧x.2.1≤1000)∧(0≤x.2.2∧x.2.2≤1000000)
def extX (x:Rc × Int × Int):Ex:=extOf x.1 x.2.1 x.2.2
theorem GoodX.may {B:Int} {x:Rc × Int × Int} (h:GoodX B x) (hB:B≤1000000):mayE (extX x):=by
 obtain ⟨⟨h1,h2,h3,h4,h5,h6,h7⟩,h8,h9⟩:=h;unfold extX extOf;rcases h1 with h1 | h1
 · rw [if_neg (by omega),if_neg (by omega),if_neg (by omega),if_neg (by omega)]
   exact ⟨⟨h2.1,by simp only;omega,by simp only;omega,by simp only;omega⟩,h4.1,by simp only;omega,by simp only;omega,h9.1,by simp only;omega,by simp only;omega⟩
 · rw [if_pos h1,if_pos h1]
   exact ⟨⟨h2.1,by simp only;omega,by simp only;omega,by simp only;omega⟩,h4.1,by simp only;omega,by simp only;omega,by simp only;omega,by simp,by simp⟩
theorem mapGo_good {B:Int} (hB:0≤B∧B≤10000):∀ (l:List (Rc × Int × Int)) (L m:List Ex),(∀ x∈l,GoodX B x)→chainE 0 m→(∀ b,Best L b (see m b))→(∀ e∈L,endE e≤B) →
 ∃ n,mapGo l m=(n,0)∧chainE 0 n∧(∀ b,Best (L++l.map extX) b (see n b))∧(n.length:Int)≤max B m.length
 | [],L,m,_,hm,hb,_=>⟨m,rfl,hm,by simpa using hb,by omega⟩
 | x::l,L,m,hl,hm,hb,hL=>by
   have hx:=hl x (List.mem_cons_self ..);have hmay:=hx.may (by omega)
   obtain ⟨o1,o2,o3⟩:=offer1_ok hm hmay;have hb2:∀ b,Best (L++[extX x]) b (see (offer1 m (extX x)) b):=fun b=>(hb b).offer hm hmay
   have hex:endE (extX x)≤B:=hx.1.lba.2.2;have hL2:∀ e∈L++[extX x],endE e≤B:=by
    intro e he;rcases List.mem_append.1 he with he | he
    · exact hL e he
    · simp only [List.mem_singleton] at he;subst he;exact hex
   have hlen:((offer1 m (extX x)).length:Int)≤B:=by
    refine chain_few o1 hB.1 fun b hbB=>?_
    have h1:=hb2 b;cases hs:see (offer1 m (extX x)) b with
    | none=>rfl
    | some t=>
      rw [hs] at h1;obtain ⟨e,e1,e2,_,_⟩:=h1;have:=hL2 e e1;unfold hasE at e2;simp only [decide_eq_true_eq] at e2;omega
   have ha:applyE m x.1 x.2.1 x.2.2=(offer1 m (extX x),0):=by
    obtain ⟨g1,g2,g3⟩:=hx;have hc:chkE m=0:=by unfold chkE;rw [if_pos hm]
    unfold applyE;rw [if_neg (by rw [hc,g1.check (by omega)];omega),if_neg (fun h=>h hmay),if_neg (by have:((offer1 m (extOf x.1 x.2.1 x.2.2)).length:Int)≤B:=hlen;omega)]
    rfl
   obtain ⟨n,n1,n2,n3,n4⟩:=mapGo_good hB l (L++[extX x]) (offer1 m (extX x)) (fun y hy=>hl y (List.mem_cons_of_mem _ hy)) o1 hb2 hL2
   refine ⟨n,?_,n2,fun b=>?_,by omega⟩
   · unfold mapGo
     rw [ha];exact n1
   · have:=n3 b
     rwa [List.append_assoc] at this
end Go.Proofs.YtfhpolidjmbjoaaGreat
