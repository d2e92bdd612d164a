/- A part of the proof. -/
import Derived.Test.YtfhpolidjmbjoaaGreatRgn
import Derived.Test.YtfhpolidjmbjoaaGreatPackAdd1
namespace Go.Proofs.YtfhpolidjmbjoaaGreat
open Go.RowKit
section
variable {P:Program} {ops:Array Oper} {Q:Exit→Act→World→Prop} {md:Region.Mode} {S:Array Bool→World→Prop}
def DnL (md:Region.Mode) (ops:Array Oper) (L:Array Bool):Prop:=L.size=ops.size∧∀ k o,ops[k]?=some o→L.getD k false=true→∀ e∈o.after,Region.binds md e=true→L.getD e.on false=true
theorem DnL.start:DnL md ops (Array.replicate ops.size false):=⟨by simp,fun k o _ h=>by
 exfalso
 rcases Nat.lt_or_ge k ops.size with h' | h'
 · simp [h'] at h
 · rw [Array.getD_eq_getD_getElem?,Array.getElem?_eq_none (by simpa using h')] at h;cases h⟩
theorem DnL.next {L:Array Bool} {j:Nat} (h:DnL md ops L) (hj:j∈Region.ready md ops L):DnL md ops (L.setIfInBounds j true):=by
 refine ⟨by simpa using h.1,fun k o hk hl e he hb=>?_⟩
 obtain ⟨_,oj,hoj,hall⟩:=mem_ready.1 hj;by_cases hkj:k=j
 · subst hkj
   rw [hoj] at hk;injection hk with hk;subst hk;exact getD_set_true (hall e he hb)
 · rw [getD_set_ne false (Ne.symm hkj)] at hl
   exact getD_set_true (h.2 k o hk hl e he hb)
def wpAnyD (P:Program) (md:Region.Mode) (ops:Array Oper) (Q:Exit→Act→World→Prop) (S:Array Bool→World→Prop):Nat→Array Bool→Act→World→Prop
 | 0,L,a,w=>Region.ready md ops L=[]∧Q .normal a w
 | fuel+1,L,a,w=>
   (Region.ready md ops L=[]→Q .normal a w) ∧
   ∀ i∈Region.ready md ops L,wpOp P ops Q i (fun a' w'=>S (L.setIfInBounds i true) w'∧wpAnyD P md ops Q S fuel (L.setIfInBounds i true) a' w') a w
theorem wpAny_of_D:∀ (fuel:Nat) (L:Array Bool) (a:Act) (w:World),wpAnyD P md ops Q S fuel L a w→wpAny P md ops Q fuel L a w
 | 0,_,_,_,h=>h
 | fuel+1,_,_,_,h=>⟨h.1,fun i hi=>wpOp_mono (fun a' w' h'=>wpAny_of_D fuel _ a' w' h'.2) (h.2 i hi)⟩
theorem wpAnyD_first {i:Nat} {oi:Oper} {v:Value} {Si:World→Prop} (hi:ops[i]?=some oi) (hsel:∀ (j:Nat) (o:Oper) cs b,ops[j]?=some o→o.op≠.select cs b)
 (hQ:∀ c a w,Q (.panic c) (a.put oi.dst v) w→Q (.panic c) a w)
 (hSi:∀ L w,DnL md ops L→L.getD i false=false→S L w→Si w) (hset:∀ L w,S (L.setIfInBounds i true) w↔S L w) :
 ∀ (fuel:Nat) (L:Array Bool) (a:Act) (w:World),DnL md ops L →
   (∀ j oj,ops[j]?=some oj→j≠i→L.getD j true=false→(∀ e∈oj.after,Region.binds md e=true→e.on≠i)→oi.apart ops oj=true) →
   i∈Region.ready md ops L→YieldsIf P ops Si oi v a→S L w →
   wpAnyD P md ops Q S fuel (L.setIfInBounds i true) (a.put oi.dst v) w→wpAnyD P md ops Q S (fuel+1) L a w:=by
 have unl:∀ L:Array Bool,L.getD i true=false→L.getD i false=false:=fun L h=>by
  rcases Nat.lt_or_ge i L.size with h' | h'
  · simp [h'] at h ⊢;exact h
  · simp [Array.getElem?_eq_none h'] at h
 intro fuel;induction fuel with
 | zero=>
   intro L a w hD _ hr hy hS H;refine ⟨fun h=>(by rw [h] at hr;cases hr),fun j hj=>?_⟩
   by_cases hji:j=i
   · subst hji;exact hy.wpOp hi (hSi L w hD (unl L (mem_ready.1 hr).1) hS) ⟨(hset L w).2 hS,H⟩
   · have:=ready_mono hj hji
     rw [H.1] at this;cases this
 | succ fuel ih=>
   intro L a w hD hfree hr hy hS H;refine ⟨fun h=>(by rw [h] at hr;cases hr),fun j hj=>?_⟩
   by_cases hji:j=i
   · subst hji;exact hy.wpOp hi (hSi L w hD (unl L (mem_ready.1 hr).1) hS) ⟨(hset L w).2 hS,H⟩
   · have h1:=H.2 j (ready_mono hj hji)
     obtain ⟨hjun,oj,hoj,hall⟩:=mem_ready.1 hj;have hnot:∀ e∈oj.after,Region.binds md e=true→e.on≠i:=fun e he hb heq=>by
      have h1:=hall e he hb;rw [heq,unl L (mem_ready.1 hr).1] at h1;cases h1
     have h2:=wpOp_putIf hoj (hfree j oj hoj hji hjun hnot) (fun cs b=>hsel i oi cs b hi) (fun cs b=>hsel j oj cs b hoj) hQ hy h1
     have hfree':∀ k ok,ops[k]?=some ok→k≠i→(L.setIfInBounds j true).getD k true=false →
      (∀ e∈ok.after,Region.binds md e=true→e.on≠i)→oi.apart ops ok=true:=fun k ok hk hki hun hno=>by
      refine hfree k ok hk hki ?_ hno;by_cases hjk:j=k
      · subst hjk;exact hjun
      · rw [getD_set_ne true hjk] at hun;exact hun
     have hcomm:(L.setIfInBounds j true).setIfInBounds i true=(L.setIfInBounds i true).setIfInBounds j true:=Array.setIfInBounds_comm _ _ hji;refine wpOp_mono (fun a' w' h3=>?_) h2
     have hS':S (L.setIfInBounds j true) w':=(hset _ w').1 (by rw [hcomm];exact h3.2.1)
     refine ⟨hS',ih (L.setIfInBounds j true) a' w' (hD.next hj) hfree' (ready_mono hr (Ne.symm hji)) h3.1 hS' ?_⟩;rw [hcomm];exact h3.2.2
theorem wpAnyD_take {i:Nat} {oi:Oper} {v:Value} {Si:World→Prop} {fuel:Nat} {L:Array Bool} {a:Act} {w:World} (hi:ops[i]?=some oi)
 (hs:Region.noSelect ops=true) (hf:Region.free md ops L i=true) (hr:(Region.ready md ops L).contains i=true)
 (hQ:∀ c a w,Q (.panic c) (a.put oi.dst v) w→Q (.panic c) a w) (hSi:∀ L w,DnL md ops L→L.getD i false=false→S L w→Si w) (hset:∀ L w,S (L.setIfInBounds i true) w↔S L w)
 (hy:YieldsIf P ops Si oi v a) (hD:DnL md ops L) (hS:S L w)
 (h:DnL md ops (L.setIfInBounds i true)→S (L.setIfInBounds i true) w→wpAnyD P md ops Q S fuel (L.setIfInBounds i true) (a.put oi.dst v) w):wpAnyD P md ops Q S (fuel+1) L a w:=
 have hr':i∈Region.ready md ops L:=by simpa using hr
 wpAnyD_first hi (Region.noSelect_spec hs) hQ hSi hset fuel L a w hD (Region.free_spec hi hf) hr' hy hS (h (hD.next hr') ((hset L w).2 hS))
theorem wD (i d:Nat) {op:Op} {ty:TypeId} {pos:String} {af:Array Edge} {gd:Option (Nat × Bool)} {D:Nat} {R:World→Prop} {v:Value} {fuel:Nat} {L:Array Bool} {a a':Act} {w:World}
 (h:DnL md ops (L.setIfInBounds i true)→((L.setIfInBounds i true).getD D false=true∨R w)→wpAnyD P md ops Q (fun L W=>L.getD D false=true∨R W) fuel (L.setIfInBounds i true) a' w)
 (hi:ops[i]?=some ⟨some d,op,ty,pos,af,gd⟩:=by rfl) (hs:Region.noSelect ops=true:=by kernel_rfl) (hf:Region.free md ops L i=true:=by kernel_rfl) (hr:(Region.ready md ops L).contains i=true:=by kernel_rfl)
 (hne:i≠D:=by decide) (hw:Region.wanted ⟨some d,op,ty,pos,af,gd⟩ (yielded ops a.tmps)=true:=by rfl)
 (hy:∀ w,(execOp a.eval ⟨some d,op,ty,pos,af,gd⟩).run P w=.ok (.value v) w:=by intro w;go_simp;with_reducible rfl)
 (hp:Nx (a.put (some d) v) a':=by (simp only [pu,List.set]);exact Nx.same _)
 (hQ:∀ c a w,Q (.panic c) (a.put (some d) v) w→Q (.panic c) a w:=by exact fun _ _ _ h=>h) (hD:DnL md ops L:=by assumption) (hS:L.getD D false=true∨R w:=by assumption) :
 wpAnyD P md ops Q (fun L W=>L.getD D false=true∨R W) (fuel+1) L a w:=by
 have hp':a.put (some d) v=a':=hp;subst hp';exact wpAnyD_take (Si:=fun _=>True) hi hs hf hr hQ (fun _ _ _ _ _=>trivial) (fun L W=>by simp only [getD_set_ne false hne]) (Or.inl ⟨hw,fun w _=>hy w⟩) hD hS h
theorem wpAnyD_one {i:Nat} {o:Oper} {fuel:Nat} {L:Array Bool} {a:Act} {w:World} (hr:Region.ready md ops L=[i]) (ho:ops[i]?=some o) (hD:DnL md ops L)
 (h:∀ K':Act→World→Prop,Shut (∀ a w,S (L.setIfInBounds i true) w→(DnL md ops (L.setIfInBounds i true)→S (L.setIfInBounds i true) w→wpAnyD P md ops Q S fuel (L.setIfInBounds i true) a w)→K' a w)→if Region.wanted o (yielded ops a.tmps)=true then Oper.wp P o a w K' Q else K' (a.put o.dst undef) w) :
 wpAnyD P md ops Q S (fuel+1) L a w:=by
 refine ⟨fun h0=>(by rw [hr] at h0;cases h0),fun j hj=>?_⟩
 have hjm:=hj;rw [hr,List.mem_singleton] at hj;subst hj;exact wpOp_step ho (fun K' hK=>h K' (fun a w hS hW=>hK a w ⟨hS,hW (hD.next hjm) hS⟩))
theorem wpAnyD_two {i j:Nat} {o o':Oper} {fuel:Nat} {L:Array Bool} {a:Act} {w:World} (hr:Region.ready md ops L=[i,j]) (ho:ops[i]?=some o) (ho':ops[j]?=some o') (hD:DnL md ops L)
 (h:∀ K':Act→World→Prop,Shut (∀ a w,S (L.setIfInBounds i true) w→(DnL md ops (L.setIfInBounds i true)→S (L.setIfInBounds i true) w→wpAnyD P md ops Q S fuel (L.setIfInBounds i true) a w)→K' a w)→if Region.wanted o (yielded ops a.tmps)=true then Oper.wp P o a w K' Q else K' (a.put o.dst undef) w)
 (h':∀ K':Act→World→Prop,Shut (∀ a w,S (L.setIfInBounds j true) w→(DnL md ops (L.setIfInBounds j true)→S (L.setIfInBounds j true) w→wpAnyD P md ops Q S fuel (L.setIfInBounds j true) a w)→K' a w)→if Region.wanted o' (yielded ops a.tmps)=true then Oper.wp P o' a w K' Q else K' (a.put o'.dst undef) w) :
 wpAnyD P md ops Q S (fuel+1) L a w:=by
 refine ⟨fun h0=>(by rw [hr] at h0;cases h0),fun k hk=>?_⟩
 have hkm:=hk;rw [hr,List.mem_cons,List.mem_singleton] at hk;rcases hk with rfl | rfl
 · exact wpOp_step ho (fun K' hK=>h K' (fun a w hS hW=>hK a w ⟨hS,hW (hD.next hkm) hS⟩))
 · exact wpOp_step ho' (fun K' hK=>h' K' (fun a w hS hW=>hK a w ⟨hS,hW (hD.next hkm) hS⟩))
theorem wpAnyD_done {L:Array Bool} {a:Act} {w:World} (hr:Region.ready md ops L=[]) (h:Q .normal a w):∀ fuel,wpAnyD P md ops Q S fuel L a w
 | 0=>⟨hr,h⟩
 | _+1=>⟨fun _=>h,by rw [hr];simp⟩
theorem wp_region_D {id:Nat} {a:Act} {w:World} (hm:P.follows .mixedOrders=true) (hS:S (Array.replicate ops.size false) w.drew)
 (h:DnL .any ops (Array.replicate ops.size false)→S (Array.replicate ops.size false) w.drew→wpAnyD P .any ops Q S ops.size (Array.replicate ops.size false) a w.drew):(Code.region id ops true).wp P Q a w:=
 wp_region_any hm (wpAny_of_D _ _ _ _ (h DnL.start hS))
end
theorem rc_is' {w:World} {K:Nat→Prop} {v:Value} {r:Rc} (hv:IsB w K v r.data) (h:OkRc r):Rp.rc.is w K [.int .i64 r.kind,.int .i64 r.lba,.int .i64 r.n,.int .i64 r.ver,.int .i64 r.zone,.int .i64 r.off,v] r:=
 ⟨v,rfl,hv,h _ (by simp [recN]),h _ (by simp [recN]),h _ (by simp [recN]),h _ (by simp [recN]),h _ (by simp [recN]),h _ (by simp [recN])⟩
abbrev rcC (r:Rc) (vd:Value):Array Value:=#[.int .i64 r.kind,.int .i64 r.lba,.int .i64 r.n,.int .i64 r.ver,.int .i64 r.zone,.int .i64 r.off,vd]
structure Mid (w W:World) (b3 g gr:Nat) (cf:Array Value) (r:Rc) (vd vl:Value) (ll:List Rc) (va:Value) (la:List Int):Prop where
 recs:OwnR Rp.rc W (b3+1) 106 (fun k=>b3<k∧some k≠va.ownBlock) vl ll
 ats:W.ownsRow (b3+1) 3 1 va la.length (la.map I64)
 blk:Blk W w.heap.size 148 cf
 frm:Blk W b3 203 #[.pointer (some ⟨g,0,none⟩)]
 tab:TabOk W g
 rb:Blk W gr 106 (rcC r vd)
 rl:∀ k,vl.ownBlock=some k→k≠gr
 dat:IsB W (fun k=>b3<k) vd r.data
 below:Below w.heap.size w W
section
variable {w W:World} {b3 g gr:Nat} {cf:Array Value} {r:Rc} {vd vl va:Value} {ll:List Rc} {la:List Int}
theorem Mid.step {W':World} (h:Mid w W b3 g gr cf r vd vl ll va la) (hb:Below W.heap.size W W'):Mid w W' b3 g gr cf r vd vl ll va la:=
 ⟨h.recs.step hb,own_below h.ats hb (Nat.le_refl _),h.blk.step hb,h.frm.step hb,h.tab.step hb,h.rb.step hb,h.rl,h.dat.step hb,h.below.trans (hb.mono h.below.size)⟩
theorem Mid.pushR {A:Option Addr} {c:Nat} (h:Mid w W b3 g gr cf r vd (.slice A ll.length c) ll va la) (hok:OkRc r) (hg:g≤b3) (hw:w.heap.size≤b3) (hd:IsB W (fun k=>(b3<k∧some k≠va.ownBlock)∧some k≠(Value.slice A ll.length c).ownBlock) vd r.data) :
 ∃ cs,W.ownsRow (b3+1) 106 7 (.slice A ll.length c) ll.length cs∧∀ A' c' W',W'.ownsRow (b3+1) 106 7 (.slice A' (ll.length+1) c') (ll.length+1) (cs++(rcC r vd).toList)→Grew (b3+1) W W' (.slice A ll.length c) (.slice A' (ll.length+1) c') →
   OwnR Rp.rc W' (b3+1) 106 (fun k=>b3<k∧some k≠va.ownBlock) (.slice A' (ll.length+1) c') (ll++[r])∧W'.ownsRow (b3+1) 3 1 va la.length (la.map I64)∧Blk W' w.heap.size 148 cf∧Blk W' b3 203 #[.pointer (some ⟨g,0,none⟩)]∧TabOk W' g∧Blk W' gr 106 (rcC r vd)∧Below w.heap.size w W':=by
 obtain ⟨_,cs,hown,hcl⟩:=h.recs.open_;refine ⟨cs,hown,fun A' c' W' h4 hgr=>?_⟩
 have hrc:Rp.rc.is W (fun b=>(b3<b∧some b≠va.ownBlock)∧b<W.heap.size∧some b≠(Value.slice A ll.length c).ownBlock) (rcC r vd).toList r:=rc_is' (hd.lt.more fun b hb=>⟨hb.1.1,hb.2,hb.1.2⟩) hok
 refine ⟨OwnR.push hcl hrc h4 hgr,own_grew h.ats hown (by decide) hgr,h.blk.grew hown (by decide) hgr,h.frm.grew hown (by decide) hgr,h.tab.turned (S:=fun k=>some k=(Value.slice A ll.length c).ownBlock) ⟨hgr.grown.os,hgr.grown.tape,hgr.grown.output,hgr.grown.size,fun k hk hn=>hgr.grown.block k hk hn⟩ (fun e=>by have:=(hown.lt g e.symm).1;omega),h.rb.grown hgr.grown (fun e=>h.rl gr e.symm rfl),h.below.trans (hgr.below.mono (by omega))⟩
theorem Mid.pushI {A:Option Addr} {c:Nat} (h1:OwnR Rp.rc W (b3+1) 106 (fun k=>b3<k∧some k≠(Value.slice A la.length c).ownBlock) vl ll) (h2:W.ownsRow (b3+1) 3 1 (.slice A la.length c) la.length (la.map I64)) (h3:Blk W w.heap.size 148 cf) (h4:Blk W b3 203 #[.pointer (some ⟨g,0,none⟩)]) (h5:TabOk W g) (h6:Blk W gr 106 (rcC r vd)) (h7:Below w.heap.size w W) (hg:g≤b3) (hw:w.heap.size≤b3)
 {A':Option Addr} {c':Nat} {W':World} (hgr:Grew (b3+1) W W' (.slice A la.length c) (.slice A' (la.length+1) c')) :
 OwnR Rp.rc W' (b3+1) 106 (fun k=>b3<k∧some k≠(Value.slice A' (la.length+1) c').ownBlock) vl ll∧Blk W' w.heap.size 148 cf∧Blk W' b3 203 #[.pointer (some ⟨g,0,none⟩)]∧TabOk W' g∧Blk W' gr 106 (rcC r vd)∧Below w.heap.size w W':=
 ⟨(h1.more (X':=fun k=>(b3<k∧some k≠(Value.slice A' (la.length+1) c').ownBlock)∧some k≠(Value.slice A la.length c).ownBlock) (fun b hb hl=>⟨⟨hb.1,by
   rcases hgr.at_ with e | ⟨g',e,hg'⟩
   · rw [e];exact hb.2
   · rw [e];intro e2;injection e2 with e2;omega⟩,hb.2⟩)).grew h2 (by decide) (fun b hb=>hb.2) hgr |>.more (fun b hb _=>hb.1),h3.grew h2 (by decide) hgr,h4.grew h2 (by decide) hgr,h5.turned (S:=fun k=>some k=(Value.slice A la.length c).ownBlock) ⟨hgr.grown.os,hgr.grown.tape,hgr.grown.output,hgr.grown.size,fun k hk hn=>hgr.grown.block k hk hn⟩ (fun e=>by have:=(h2.lt g e.symm).1;omega),h6.grew h2 (by decide) hgr,h7.trans (hgr.below.mono (by omega))⟩
end
end Go.Proofs.YtfhpolidjmbjoaaGreat
