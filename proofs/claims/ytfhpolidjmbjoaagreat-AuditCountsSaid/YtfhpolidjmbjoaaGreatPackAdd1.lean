/- A part of the proof. -/
import Derived.Test.YtfhpolidjmbjoaaGreatPack
import Derived.Test.YtfhpolidjmbjoaaGreatSegRec
namespace Go.Proofs.YtfhpolidjmbjoaaGreat
open Go.RowKit
theorem rc_ok {w:World} {K:Nat→Prop} {cs:List Value} {r:Rc} (h:Rp.rc.is w K cs r):OkRc r:=by
 obtain ⟨v,_,_,h0,h1,h2,h3,h4,h5⟩:=h;intro n hn;simp only [recN,List.mem_cons,List.not_mem_nil,or_false] at hn;rcases hn with rfl | rfl | rfl | rfl | rfl | rfl <;> assumption
theorem lt_of_heap {w:World} {g:Nat} {o:Obj} (h:w.heap[g]?=some o):g<w.heap.size:=by
 rcases Nat.lt_or_ge g w.heap.size with h1 | h1
 · exact h1
 · rw [Array.getElem?_eq_none h1] at h;cases h
theorem OwnR.turned {α:Type} {R:Rp α} {w w':World} {base:Nat} {e:TypeId} {X S:Nat→Prop} {v:Value} {l:List α} (h:OwnR R w base e X v l) (ht:Turned w w' S) (hX:∀ b,X b→¬S b) (hB:∀ b,base≤b→¬S b):OwnR R w' base e X v l:=by
 obtain ⟨A,c,cs,rfl,h1,h2⟩:=h;refine ⟨A,c,cs,rfl,?_,(h2.turned ht (fun b hb=>hX b hb.1)).more fun b hb=>⟨hb.1,by have:=ht.size;omega,hb.2.2⟩⟩
 refine ⟨h1.1,?_⟩;rcases h1.2 with h3 | ⟨g,cap,cur,hv,hg,hh,r⟩
 · exact .inl h3
 · exact .inr ⟨g,cap,cur,hv,hg,by rw [ht.block g (lt_of_heap hh) (hB g hg)];exact hh,r⟩
theorem OwnR.grew {α:Type} {R:Rp α} {w w':World} {base base' n' size':Nat} {e e':TypeId} {X:Nat→Prop} {v v0 v1:Value} {xs':List Value} {l:List α} (h:OwnR R w base e X v l) (h':w.ownsRow base' e' size' v0 n' xs') (hne:e≠e') (hX:∀ b,X b→some b≠v0.ownBlock) (hg:Grew base' w w' v0 v1):OwnR R w' base e X v l:=by
 obtain ⟨A,c,cs,rfl,h1,h2⟩:=h;exact ⟨A,c,cs,rfl,own_grew h1 h' hne hg,(h2.keep (w':=w') fun p hp hl=>World.cell?_of_block (hg.grown.block p.block hl (hX _ hp.1))).more fun b hb=>⟨hb.1,by have:=hg.grown.size;omega,hb.2.2⟩⟩
theorem OwnR.lt {α:Type} {R:Rp α} {w:World} {base:Nat} {e:TypeId} {X:Nat→Prop} {v:Value} {l:List α} (h:OwnR R w base e X v l):∀ b,v.ownBlock=some b→base≤b∧b<w.heap.size:=by
 obtain ⟨A,c,cs,rfl,h1,h2⟩:=h;exact h1.lt
theorem rc_at {w:World} {K:Nat→Prop} {A:Option Addr} {n c:Nat} {l:List Rc} (h:IsL Rp.rc w K (.slice A n c) l) {j:Nat} {r:Rc} (hj:l[j]?=some r) :
 ∃ ad Ad cd,A=some ad∧K ad.block∧IsB w K (.slice Ad r.data.length cd) r.data∧OkRc r ∧
   w.cell? (ad.add (j*7))=some (.int .i64 r.kind)∧w.cell? ⟨(ad.add (j*7)).block,(ad.add (j*7)).off+1,none⟩=some (.int .i64 r.lba)∧w.cell? ⟨(ad.add (j*7)).block,(ad.add (j*7)).off+2,none⟩=some (.int .i64 r.n) ∧
   w.cell? ⟨(ad.add (j*7)).block,(ad.add (j*7)).off+3,none⟩=some (.int .i64 r.ver)∧w.cell? ⟨(ad.add (j*7)).block,(ad.add (j*7)).off+4,none⟩=some (.int .i64 r.zone)∧w.cell? ⟨(ad.add (j*7)).block,(ad.add (j*7)).off+5,none⟩=some (.int .i64 r.off) ∧
   w.cell? ⟨(ad.add (j*7)).block,(ad.add (j*7)).off+6,none⟩=some (.slice Ad r.data.length cd):=by
 obtain ⟨ad,es,hA,hKad,hes,hcell⟩:=h.at_ hj;have hok:=rc_ok hes;obtain ⟨vd,rfl,hvd,_⟩:=hes;obtain ⟨Ad,cd,rfl,_⟩:=isB_form hvd;have hsz7:Rp.rc.size=7:=rfl;rw [hsz7] at hcell;refine ⟨ad,Ad,cd,hA,hKad,hvd,hok,?_,?_,?_,?_,?_,?_,?_⟩
 · rw [←addr0 (ad.add (j*7))];exact hcell 0 _ rfl
 · rw [←addrS _ 1 (by decide)];exact hcell 1 _ rfl
 · rw [←addrS _ 2 (by decide)];exact hcell 2 _ rfl
 · rw [←addrS _ 3 (by decide)];exact hcell 3 _ rfl
 · rw [←addrS _ 4 (by decide)];exact hcell 4 _ rfl
 · rw [←addrS _ 5 (by decide)];exact hcell 5 _ rfl
 · rw [←addrS _ 6 (by decide)];exact hcell 6 _ rfl
end Go.Proofs.YtfhpolidjmbjoaaGreat
namespace Go.Proofs.YtfhpolidjmbjoaaGreat
open Go.RowKit Go.WideShapes Go.ChangeShapes Go.Deep
end Go.Proofs.YtfhpolidjmbjoaaGreat
