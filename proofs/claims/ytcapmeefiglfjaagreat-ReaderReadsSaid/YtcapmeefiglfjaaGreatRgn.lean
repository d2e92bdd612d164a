/- A part of the proof. -/
import Derived.Test.YtcapmeefiglfjaaGreatMapP
import Derived.Deep.RegionHeld
namespace Go.Proofs.YtcapmeefiglfjaaGreat
open Go.RowKit
theorem pu (l:List Value) (ds:List Deferred) (i:Nat) (v:Value):(⟨l.toArray,ds⟩:Act).put (some i) v=⟨(l.set i v).toArray,ds⟩:=by simp [Act.put]
def Nx (a b:Act):Prop:=a=b
theorem Nx.same (a:Act):Nx a a:=rfl
section
variable {P:Program} {ops:Array Oper} {Q:Exit→Act→World→Prop} {md:Region.Mode} {S:World→Prop}
theorem wT (i d:Nat) {op:Op} {ty:TypeId} {pos:String} {af:Array Edge} {gd:Option (Nat × Bool)} {v:Value} {fuel:Nat} {listed:Array Bool} {a a':Act} {w:World}
 (h:wpAnyH P md ops Q S fuel (listed.setIfInBounds i true) a' w) (hi:ops[i]?=some ⟨some d,op,ty,pos,af,gd⟩:=by rfl)
 (hs:Region.noSelect ops=true:=by kernel_rfl) (hf:Region.free md ops listed i=true:=by kernel_rfl) (hr:(Region.ready md ops listed).contains i=true:=by kernel_rfl)
 (hw:Region.wanted ⟨some d,op,ty,pos,af,gd⟩ (yielded ops a.tmps)=true:=by rfl)
 (hy:∀ w,S w→(execOp a.eval ⟨some d,op,ty,pos,af,gd⟩).run P w=.ok (.value v) w:=by intro w hSw;(try dsimp only at hSw);go_simp;with_reducible rfl)
 (hp:Nx (a.put (some d) v) a':=by (simp only [Act.put,ziY,List.set_cons_zero,List.set_cons_succ]);exact Nx.same _)
 (hQ:∀ c a w,Q (.panic c) (a.put (some d) v) w→Q (.panic c) a w:=by exact fun _ _ _ h=>h) (hS:S w:=by assumption):wpAnyH P md ops Q S (fuel+1) listed a w:=by
 have hp':a.put (some d) v=a':=hp;subst hp';exact wpAnyH_take hi hs hf hr hQ (Or.inl ⟨hw,hy⟩) hS h
theorem wU (i d:Nat) {op:Op} {ty:TypeId} {pos:String} {af:Array Edge} {gd:Option (Nat × Bool)} {fuel:Nat} {listed:Array Bool} {a a':Act} {w:World}
 (h:wpAnyH P md ops Q S fuel (listed.setIfInBounds i true) a' w) (hi:ops[i]?=some ⟨some d,op,ty,pos,af,gd⟩:=by rfl)
 (hs:Region.noSelect ops=true:=by kernel_rfl) (hf:Region.free md ops listed i=true:=by kernel_rfl) (hr:(Region.ready md ops listed).contains i=true:=by kernel_rfl)
 (hw:Region.wanted ⟨some d,op,ty,pos,af,gd⟩ (yielded ops a.tmps)=false:=by kernel_rfl)
 (hp:Nx (a.put (some d) undef) a':=by (simp only [Act.put,ziY,List.set_cons_zero,List.set_cons_succ]);exact Nx.same _)
 (hQ:∀ c a w,Q (.panic c) (a.put (some d) undef) w→Q (.panic c) a w:=by exact fun _ _ _ h=>h) (hS:S w:=by assumption):wpAnyH P md ops Q S (fuel+1) listed a w:=by
 have hp':a.put (some d) undef=a':=hp;subst hp';exact wpAnyH_take hi hs hf hr hQ (Or.inr ⟨hw,rfl⟩) hS h
theorem wR (i d:Nat) {op:Op} {ty:TypeId} {pos:String} {af:Array Edge} {gd:Option (Nat × Bool)} {fuel:Nat} {listed:Array Bool} {a:Act} {w:World}
 (h:∀ K':Act→World→Prop,Shut (∀ a w,S w→(S w→wpAnyH P md ops Q S fuel (listed.setIfInBounds i true) a w)→K' a w)→if Region.wanted ⟨some d,op,ty,pos,af,gd⟩ (yielded ops a.tmps)=true then Oper.wp P ⟨some d,op,ty,pos,af,gd⟩ a w K' Q else K' (a.put (some d) undef) w)
 (hr:Region.ready md ops listed=[i]:=by kernel_rfl) (hi:ops[i]?=some ⟨some d,op,ty,pos,af,gd⟩:=by rfl):wpAnyH P md ops Q S (fuel+1) listed a w:=
 wpAnyH_ready hr (by simp) (AllReadyH.cons hi h AllReadyH.nil)
theorem wRn (i:Nat) {op:Op} {ty:TypeId} {pos:String} {af:Array Edge} {gd:Option (Nat × Bool)} {fuel:Nat} {listed:Array Bool} {a:Act} {w:World}
 (h:∀ K':Act→World→Prop,Shut (∀ a w,S w→(S w→wpAnyH P md ops Q S fuel (listed.setIfInBounds i true) a w)→K' a w)→if Region.wanted ⟨none,op,ty,pos,af,gd⟩ (yielded ops a.tmps)=true then Oper.wp P ⟨none,op,ty,pos,af,gd⟩ a w K' Q else K' (a.put none undef) w)
 (hr:Region.ready md ops listed=[i]:=by kernel_rfl) (hi:ops[i]?=some ⟨none,op,ty,pos,af,gd⟩:=by rfl):wpAnyH P md ops Q S (fuel+1) listed a w:=
 wpAnyH_ready hr (by simp) (AllReadyH.cons hi h AllReadyH.nil)
end
theorem bD {K:World→Prop} {w:World} {t:TypeId} {cs:Array Value} (h:∀ wy,Below w.heap.size w wy→Blk wy w.heap.size t cs→K wy):K (w.alloc (.cells cs t)):=
 h _ (zBA) (Blk.new _ _ _ rfl)
theorem aA.upon {B g:Nat} {a w w':World} (h:Below B a w) (ht:aA w w' (fun b=>b=g)) (hg:B≤g) (hB:B≤a.heap.size):Below B a w':=
 h.trans (ht.below (fun k hk=>by subst hk;exact hg) (zit hB h.size))
theorem qO {K:World→Prop} {w:World} {g:Nat} {t:TypeId} {u0 u1 u2:Value} (hB:Blk w g t #[u0,u1,u2]) (x0 x1 x2:Value)
 (h:∀ wy,aA w wy (fun b=>b=g)→Blk wy g t #[x0,x1,x2]→K wy):K (((w.setCell ⟨g,0,none⟩ x0).setCell ⟨g,1,none⟩ x1).setCell ⟨g,2,none⟩ x2):=by
 have t0:=aA.refl w (fun b=>b=g)
 have t1:=t0.set (g:=g) rfl 0 x0;replace hB:Blk _ g t #[x0,u1,u2]:=hB.set_ 0 x0;have t2:=t1.set (g:=g) rfl 1 x1;replace hB:Blk _ g t #[x0,x1,u2]:=hB.set_ 1 x1;have t3:=t2.set (g:=g) rfl 2 x2;replace hB:Blk _ g t #[x0,x1,x2]:=hB.set_ 2 x2;exact h _ t3 hB
theorem zhd {K:World→Prop} {w:World} {g:Nat} {t:TypeId} {u0 u1 u2 u3:Value} (hB:Blk w g t #[u0,u1,u2,u3]) (x0 x1 x2 x3:Value)
 (h:∀ wy,aA w wy (fun b=>b=g)→Blk wy g t #[x0,x1,x2,x3]→K wy):K ((((w.setCell ⟨g,0,none⟩ x0).setCell ⟨g,1,none⟩ x1).setCell ⟨g,2,none⟩ x2).setCell ⟨g,3,none⟩ x3):=by
 have t0:=aA.refl w (fun b=>b=g)
 have t1:=t0.set (g:=g) rfl 0 x0;replace hB:Blk _ g t #[x0,u1,u2,u3]:=hB.set_ 0 x0;have t2:=t1.set (g:=g) rfl 1 x1;replace hB:Blk _ g t #[x0,x1,u2,u3]:=hB.set_ 1 x1;have t3:=t2.set (g:=g) rfl 2 x2;replace hB:Blk _ g t #[x0,x1,x2,u3]:=hB.set_ 2 x2;have t4:=t3.set (g:=g) rfl 3 x3;replace hB:Blk _ g t #[x0,x1,x2,x3]:=hB.set_ 3 x3;exact h _ t4 hB
theorem zaw {K:World→Prop} {w:World} {g:Nat} {t:TypeId} {u0 u1 u2 u3 u4 u5 u6:Value} (hB:Blk w g t #[u0,u1,u2,u3,u4,u5,u6]) (x0 x1 x2 x3 x4 x5 x6:Value)
 (h:∀ wy,aA w wy (fun b=>b=g)→Blk wy g t #[x0,x1,x2,x3,x4,x5,x6]→K wy):K (((((((w.setCell ⟨g,0,none⟩ x0).setCell ⟨g,1,none⟩ x1).setCell ⟨g,2,none⟩ x2).setCell ⟨g,3,none⟩ x3).setCell ⟨g,4,none⟩ x4).setCell ⟨g,5,none⟩ x5).setCell ⟨g,6,none⟩ x6):=by
 have t0:=aA.refl w (fun b=>b=g)
 have t1:=t0.set (g:=g) rfl 0 x0;replace hB:Blk _ g t #[x0,u1,u2,u3,u4,u5,u6]:=hB.set_ 0 x0;have t2:=t1.set (g:=g) rfl 1 x1;replace hB:Blk _ g t #[x0,x1,u2,u3,u4,u5,u6]:=hB.set_ 1 x1;have t3:=t2.set (g:=g) rfl 2 x2;replace hB:Blk _ g t #[x0,x1,x2,u3,u4,u5,u6]:=hB.set_ 2 x2;have t4:=t3.set (g:=g) rfl 3 x3;replace hB:Blk _ g t #[x0,x1,x2,x3,u4,u5,u6]:=hB.set_ 3 x3;have t5:=t4.set (g:=g) rfl 4 x4;replace hB:Blk _ g t #[x0,x1,x2,x3,x4,u5,u6]:=hB.set_ 4 x4;have t6:=t5.set (g:=g) rfl 5 x5;replace hB:Blk _ g t #[x0,x1,x2,x3,x4,x5,u6]:=hB.set_ 5 x5;have t7:=t6.set (g:=g) rfl 6 x6;replace hB:Blk _ g t #[x0,x1,x2,x3,x4,x5,x6]:=hB.set_ 6 x6;exact h _ t7 hB
theorem zfr {K:World→Prop} {w:World} {g:Nat} {t:TypeId} {u0 u1 u2 u3 u4 u5 u6 u7:Value} (hB:Blk w g t #[u0,u1,u2,u3,u4,u5,u6,u7]) (x0 x1 x2 x3 x4 x5 x6 x7:Value)
 (h:∀ wy,aA w wy (fun b=>b=g)→Blk wy g t #[x0,x1,x2,x3,x4,x5,x6,x7]→K wy):K ((((((((w.setCell ⟨g,0,none⟩ x0).setCell ⟨g,1,none⟩ x1).setCell ⟨g,2,none⟩ x2).setCell ⟨g,3,none⟩ x3).setCell ⟨g,4,none⟩ x4).setCell ⟨g,5,none⟩ x5).setCell ⟨g,6,none⟩ x6).setCell ⟨g,7,none⟩ x7):=by
 have t0:=aA.refl w (fun b=>b=g)
 have t1:=t0.set (g:=g) rfl 0 x0;replace hB:Blk _ g t #[x0,u1,u2,u3,u4,u5,u6,u7]:=hB.set_ 0 x0;have t2:=t1.set (g:=g) rfl 1 x1;replace hB:Blk _ g t #[x0,x1,u2,u3,u4,u5,u6,u7]:=hB.set_ 1 x1;have t3:=t2.set (g:=g) rfl 2 x2;replace hB:Blk _ g t #[x0,x1,x2,u3,u4,u5,u6,u7]:=hB.set_ 2 x2;have t4:=t3.set (g:=g) rfl 3 x3;replace hB:Blk _ g t #[x0,x1,x2,x3,u4,u5,u6,u7]:=hB.set_ 3 x3;have t5:=t4.set (g:=g) rfl 4 x4;replace hB:Blk _ g t #[x0,x1,x2,x3,x4,u5,u6,u7]:=hB.set_ 4 x4;have t6:=t5.set (g:=g) rfl 5 x5;replace hB:Blk _ g t #[x0,x1,x2,x3,x4,x5,u6,u7]:=hB.set_ 5 x5;have t7:=t6.set (g:=g) rfl 6 x6;replace hB:Blk _ g t #[x0,x1,x2,x3,x4,x5,x6,u7]:=hB.set_ 6 x6;have t8:=t7.set (g:=g) rfl 7 x7;replace hB:Blk _ g t #[x0,x1,x2,x3,x4,x5,x6,x7]:=hB.set_ 7 x7;exact h _ t8 hB
