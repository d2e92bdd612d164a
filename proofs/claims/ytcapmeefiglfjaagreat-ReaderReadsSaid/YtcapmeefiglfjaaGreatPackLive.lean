/- A part of the proof. -/
import Derived.Test.YtcapmeefiglfjaaGreatRgn
import Derived.Test.YtcapmeefiglfjaaGreatPackAdd
import Derived.Lib.Overlaps
import Derived.Deep.OwnRows
set_option linter.unusedSimpArgs false
set_option maxHeartbeats 8000000
set_option maxRecDepth 100000
namespace Go.Proofs.YtcapmeefiglfjaaGreat
open Go.RowKit
theorem zfi (h:Hd):(fQ h).1.length≤65560:=by
 unfold fQ;by_cases h1:(fP (jV h)).2=0
 · rw [zig (by simp [h1])];exact tA _
 · rw [zij h1];simp
section
variable {P:Program} {ops:Array Oper} {Q:Exit→Act→World→Prop} {md:Region.Mode} {S:Array Bool→World→Prop}
def DnL (md:Region.Mode) (ops:Array Oper) (L:Array Bool):Prop:=L.size=ops.size∧∀ k o,ops[k]?=some o→L.getD k false=true→∀ e∈o.after,Region.binds md e=true→L.getD e.on false=true
theorem DnL.start:DnL md ops (Array.replicate ops.size false):=⟨by simp,fun k o _ h=>by
 exfalso
 rcases zjb k ops.size with h' | h'
 · simp [h'] at h
 · rw [Array.getD_eq_getD_getElem?,zjo (by simpa using h')] at h;cases h⟩
theorem DnL.next {L:Array Bool} {j:Nat} (h:DnL md ops L) (hj:j∈Region.ready md ops L):DnL md ops (L.setIfInBounds j true):=by
 refine ⟨by simpa using h.1,fun k o hk hl e he hb=>?_⟩
 obtain ⟨_,oj,hoj,hall⟩:=mem_ready.1 hj;by_cases hkj:k=j
 · subst hkj
   rw [hoj] at hk;injection hk with hk;subst hk;exact getD_set_true (hall e he hb)
 · rw [zjf false (Ne.symm hkj)] at hl
   exact getD_set_true (h.2 k o hk hl e he hb)
def gY (P:Program) (md:Region.Mode) (ops:Array Oper) (Q:Exit→Act→World→Prop) (S:Array Bool→World→Prop):Nat→Array Bool→Act→World→Prop
 | 0,L,a,w=>Region.ready md ops L=[]∧Q .normal a w
 | fuel+1,L,a,w=>
   (Region.ready md ops L=[]→Q .normal a w) ∧
   ∀ i∈Region.ready md ops L,wpOp P ops Q i (fun a' w'=>S (L.setIfInBounds i true) w'∧gY P md ops Q S fuel (L.setIfInBounds i true) a' w') a w
theorem qC:∀ (fuel:Nat) (L:Array Bool) (a:Act) (w:World),gY P md ops Q S fuel L a w→wpAny P md ops Q fuel L a w
 | 0,_,_,_,h=>h
 | fuel+1,_,_,_,h=>⟨h.1,fun i hi=>wpOp_mono (fun a' w' h'=>qC fuel _ a' w' h'.2) (h.2 i hi)⟩
theorem xR {i:Nat} {oi:Oper} {v:Value} {Si:World→Prop} (hi:ops[i]?=some oi) (hsel:∀ (j:Nat) (o:Oper) cs b,ops[j]?=some o→o.op≠.select cs b)
 (hQ:∀ c a w,Q (.panic c) (a.put oi.dst v) w→Q (.panic c) a w)
 (hSi:∀ L w,DnL md ops L→L.getD i false=false→S L w→Si w) (hset:∀ L w,S (L.setIfInBounds i true) w↔S L w) :
 ∀ (fuel:Nat) (L:Array Bool) (a:Act) (w:World),DnL md ops L →
   (∀ j oj,ops[j]?=some oj→j≠i→L.getD j true=false→(∀ e∈oj.after,Region.binds md e=true→e.on≠i)→oi.apart ops oj=true) →
   i∈Region.ready md ops L→YieldsIf P ops Si oi v a→S L w →
   gY P md ops Q S fuel (L.setIfInBounds i true) (a.put oi.dst v) w→gY P md ops Q S (fuel+1) L a w:=by
 have unl:∀ L:Array Bool,L.getD i true=false→L.getD i false=false:=fun L h=>by
  rcases zjb i L.size with h' | h'
  · simp [h'] at h ⊢;exact h
  · simp [zjo h'] at h
 intro fuel;induction fuel with
 | zero=>
   intro L a w hD _ hr hy hS H;refine ⟨fun h=>(by rw [h] at hr;cases hr),fun j hj=>?_⟩
   by_cases hji:j=i
   · subst hji;exact hy.wpOp hi (hSi L w hD (unl L (mem_ready.1 hr).1) hS) ⟨(hset L w).2 hS,H⟩
   · have:=ready_mono hj hji
     rw [H.1] at this;cases this
 | succ fuel ih=>
   intro L a w hD hfree hr hy hS H;refine ⟨fun h=>(by rw [h] at hr;cases hr),fun j hj=>?_⟩
   by_cases hji:j=i
   · subst hji;exact hy.wpOp hi (hSi L w hD (unl L (mem_ready.1 hr).1) hS) ⟨(hset L w).2 hS,H⟩
   · have h1:=H.2 j (ready_mono hj hji)
     obtain ⟨hjun,oj,hoj,hall⟩:=mem_ready.1 hj;have hnot:∀ e∈oj.after,Region.binds md e=true→e.on≠i:=fun e he hb heq=>by
      have h1:=hall e he hb;rw [heq,unl L (mem_ready.1 hr).1] at h1;cases h1
     have h2:=wpOp_putIf hoj (hfree j oj hoj hji hjun hnot) (fun cs b=>hsel i oi cs b hi) (fun cs b=>hsel j oj cs b hoj) hQ hy h1
     have hfree':∀ k ok,ops[k]?=some ok→k≠i→(L.setIfInBounds j true).getD k true=false →
      (∀ e∈ok.after,Region.binds md e=true→e.on≠i)→oi.apart ops ok=true:=fun k ok hk hki hun hno=>by
      refine hfree k ok hk hki ?_ hno;by_cases hjk:j=k
      · subst hjk;exact hjun
      · rw [zjf true hjk] at hun;exact hun
     have hcomm:(L.setIfInBounds j true).setIfInBounds i true=(L.setIfInBounds i true).setIfInBounds j true:=Array.setIfInBounds_comm _ _ hji;refine wpOp_mono (fun a' w' h3=>?_) h2
     have hS':S (L.setIfInBounds j true) w':=(hset _ w').1 (by rw [hcomm];exact h3.2.1)
     refine ⟨hS',ih (L.setIfInBounds j true) a' w' (hD.next hj) hfree' (ready_mono hr (Ne.symm hji)) h3.1 hS' ?_⟩;rw [hcomm];exact h3.2.2
theorem aN {i:Nat} {oi:Oper} {v:Value} {Si:World→Prop} {fuel:Nat} {L:Array Bool} {a:Act} {w:World} (hi:ops[i]?=some oi)
 (hs:Region.noSelect ops=true) (hf:Region.free md ops L i=true) (hr:(Region.ready md ops L).contains i=true)
 (hQ:∀ c a w,Q (.panic c) (a.put oi.dst v) w→Q (.panic c) a w) (hSi:∀ L w,DnL md ops L→L.getD i false=false→S L w→Si w) (hset:∀ L w,S (L.setIfInBounds i true) w↔S L w)
 (hy:YieldsIf P ops Si oi v a) (hD:DnL md ops L) (hS:S L w)
 (h:DnL md ops (L.setIfInBounds i true)→S (L.setIfInBounds i true) w→gY P md ops Q S fuel (L.setIfInBounds i true) (a.put oi.dst v) w):gY P md ops Q S (fuel+1) L a w:=
 have hr':i∈Region.ready md ops L:=by simpa using hr
 xR hi (Region.noSelect_spec hs) hQ hSi hset fuel L a w hD (Region.free_spec hi hf) hr' hy hS (h (hD.next hr') ((hset L w).2 hS))
theorem wD (i d:Nat) {op:Op} {ty:TypeId} {pos:String} {af:Array Edge} {gd:Option (Nat × Bool)} {D:Nat} {R:World→Prop} {v:Value} {fuel:Nat} {L:Array Bool} {a a':Act} {w:World}
 (h:DnL md ops (L.setIfInBounds i true)→((L.setIfInBounds i true).getD D false=true∨R w)→gY P md ops Q (fun L W=>L.getD D false=true∨R W) fuel (L.setIfInBounds i true) a' w)
 (hi:ops[i]?=some ⟨some d,op,ty,pos,af,gd⟩:=by rfl) (hs:Region.noSelect ops=true:=by kernel_rfl) (hf:Region.free md ops L i=true:=by kernel_rfl) (hr:(Region.ready md ops L).contains i=true:=by kernel_rfl)
 (hne:i≠D:=by decide) (hw:Region.wanted ⟨some d,op,ty,pos,af,gd⟩ (yielded ops a.tmps)=true:=by rfl)
 (hy:∀ w,(execOp a.eval ⟨some d,op,ty,pos,af,gd⟩).run P w=.ok (.value v) w:=by intro w;go_simp;with_reducible rfl)
 (hp:Nx (a.put (some d) v) a':=by (simp only [pu,List.set]);exact Nx.same _)
 (hQ:∀ c a w,Q (.panic c) (a.put (some d) v) w→Q (.panic c) a w:=by exact fun _ _ _ h=>h) (hD:DnL md ops L:=by assumption) (hS:L.getD D false=true∨R w:=by assumption) :
 gY P md ops Q (fun L W=>L.getD D false=true∨R W) (fuel+1) L a w:=by
 have hp':a.put (some d) v=a':=hp;subst hp';exact aN (Si:=fun _=>True) hi hs hf hr hQ (fun _ _ _ _ _=>trivial) (fun L W=>by simp only [zjf false hne]) (Or.inl ⟨hw,fun w _=>hy w⟩) hD hS h
theorem aR {i:Nat} {o:Oper} {fuel:Nat} {L:Array Bool} {a:Act} {w:World} (hr:Region.ready md ops L=[i]) (ho:ops[i]?=some o) (hD:DnL md ops L)
 (h:∀ K':Act→World→Prop,Shut (∀ a w,S (L.setIfInBounds i true) w→(DnL md ops (L.setIfInBounds i true)→S (L.setIfInBounds i true) w→gY P md ops Q S fuel (L.setIfInBounds i true) a w)→K' a w)→if Region.wanted o (yielded ops a.tmps)=true then Oper.wp P o a w K' Q else K' (a.put o.dst undef) w) :
 gY P md ops Q S (fuel+1) L a w:=by
 refine ⟨fun h0=>(by rw [hr] at h0;cases h0),fun j hj=>?_⟩
 have hjm:=hj;rw [hr,ziw] at hj;subst hj;exact wpOp_step ho (fun K' hK=>h K' (fun a w hS hW=>hK a w ⟨hS,hW (hD.next hjm) hS⟩))
theorem cX {L:Array Bool} {a:Act} {w:World} (hr:Region.ready md ops L=[]) (h:Q .normal a w):∀ fuel,gY P md ops Q S fuel L a w
 | 0=>⟨hr,h⟩
 | _+1=>⟨fun _=>h,by rw [hr];simp⟩
theorem cZ {id:Nat} {a:Act} {w:World} (hm:P.follows .mixedOrders=true) (hS:S (Array.replicate ops.size false) w.drew)
 (h:DnL .any ops (Array.replicate ops.size false)→S (Array.replicate ops.size false) w.drew→gY P .any ops Q S ops.size (Array.replicate ops.size false) a w.drew):(Code.region id ops true).wp P Q a w:=
 wp_region_any hm (qC _ _ _ _ (h DnL.start hS))
end
theorem zh0 {w:World} {K:Nat→Prop} {v:Value} {r:Rc} (hv:IsB w K v r.data) (h:lZ r):Rp.rc.is w K [.int .i64 r.kind,.int .i64 r.lba,.int .i64 r.n,.int .i64 r.ver,.int .i64 r.zone,.int .i64 r.off,v] r:=
 ⟨v,rfl,hv,h _ (by simp [kE]),h _ (by simp [kE]),h _ (by simp [kE]),h _ (by simp [kE]),h _ (by simp [kE]),h _ (by simp [kE])⟩
end Go.Proofs.YtcapmeefiglfjaaGreat
namespace Go.Proofs.YtcapmeefiglfjaaGreat
theorem yX {b:List UInt8} (h:b.length<5):(yN b).2.2=false:=by
 obtain ⟨t,ht⟩:∃ t,yN b=t:=⟨_,rfl⟩;obtain ⟨x,n,ok⟩:=t;rw [ht];cases ok with
 | false=>rfl
 | true=>obtain ⟨j,_,h1,h2,_⟩:=zdE ht;omega
theorem rY {l:List Rc} (h:eY l=0):∀ r∈l,(recL r).2=0:=by
 induction l with
 | nil=>intro r hr;cases hr
 | cons r l ih=>
   unfold eY at h;by_cases hr:(recL r).2=0
   · rw [zig (by simp [hr])] at h
     intro x hx;rcases zim.1 hx with e | e
     · rw [e];exact hr
     · exact ih h x e
   · rw [zij hr] at h;exact absurd h hr
theorem kL {l:List Rc} (h:∀ r∈l,(recL r).2=0):eY l=0:=by
 induction l with
 | nil=>rfl
 | cons r l ih=>
   unfold eY;rw [zig (by simp [h r (zih ..)])]
   exact ih fun x hx=>h x (zii _ hx)
end Go.Proofs.YtcapmeefiglfjaaGreat
namespace Go.Proofs.YtcapmeefiglfjaaGreat
open Go.RowKit
abbrev fdC (f:Fd) (vl va:Value):Array Value:=#[.bool f.head,.int .i64 f.h.host,.int .i64 f.h.epoch,.int .i64 f.h.seq,vl,va,.int .i64 f.used]
theorem gQ {w w':World} {base:Nat} {e:TypeId} {size:Nat} {v:Value} {n:Nat} {xs:List Value} {S:Nat→Prop} (h:w.ownsRow base e size v n xs) (ht:aA w w' S) (hB:∀ b,base≤b→¬S b):w'.ownsRow base e size v n xs:=by
 refine ⟨h.1,?_⟩;rcases h.2 with h3 | ⟨g,cap,cur,hv,hg,hh,r⟩
 · exact .inl h3
 · exact .inr ⟨g,cap,cur,hv,hg,by rw [ht.block g (mA hh) (hB g hg)];exact hh,r⟩
theorem zaL {r:Rc} (h:(recL r).2=0):checkL r=0:=by
 unfold recL at h;by_cases hc:checkL r=0
 · exact hc
 · rw [zij hc] at h;exact absurd h hc
theorem yW (i:Nat) (A:Option Addr) (n c vb:Nat) (base:Nat) (xs vs:List Value) (w:World) (hown:w.ownsRow base 126 4 (.slice A n c) n xs) (hx1:∀ u∈xs,u.oneCell'=true)
 (hv:Blk w vb 126 vs.toArray) (hvl:vs.length=4) (hv1:∀ u∈vs,u.oneCell'=true) (hne:some vb≠(Value.slice A n c).ownBlock) (hi:i≤n) (hn:n≤1000000) (hbase:base≤w.heap.size) :
 Calls Tryz.prog 43 #[.slice A n c,.int .i64 i,.slice (some ⟨vb,0,none⟩) 1 1] w fun e w'=>∃ A' c',e=.returned (.slice A' (n+1) c') ∧
  w'.ownsRow base 126 4 (.slice A' (n+1) c') (n+1) (xs.take (i*4)++vs++xs.drop (i*4))∧Below base w w':=by
 obtain ⟨i0,hi0,hz0,hz1,hz2⟩:=ziH Tryz.infS;have hvr:aG w (fun b=>b=vb) 4 (some ⟨vb,0,none⟩) 1 vs:=⟨by rw [hvl],fun _=>⟨_,rfl,rfl,fun j u hj=>by
  rw [show (⟨vb,0,none⟩:Addr).add j=⟨vb,j,none⟩ by unfold Addr.add;split <;> simp_all,hv.cell j,zjD];exact hj⟩⟩
 have hcap:=cD hown;have hcap63:=bF hown;have n1:(n:Int)≤1000000:=by omega
 by_cases hin:i=n
 · subst hin
   go_enter Tryz.func43,Tryz.ntmps43
   go_wp2_with (at_builtin;refine aF rfl _ _ _ rfl base 126 i0 _ 4 32 Tryz.underlying28 hi0 hz0 hz1 hz2 rfl (by omega) rfl hown rfl hvr hv1 (by simp only [maxLen];omega) (by omega) hbase ?_;intro A8 c8 w8 own8 hg8)
   all_goals
    go_ret;refine ⟨A8,c8,rfl,?_,hg8.below⟩;have hxl:=hown.1;rw [zip (by omega),zjz (by omega),ziz]
    exact own8
 have hlt:i<n:=by omega
 have hxl:=hown.1;obtain ⟨g,cap,cur,hvv,hg,hh,hnc,hcm,hcs,htk⟩:=hown.2.resolve_left (fun h=>by omega)
 injection hvv with e1 _ e2;subst e1 e2;have hgv:vb≠g:=fun e=>hne (by rw [e];rfl)
 have hgl:g<w.heap.size:=(zjF.1 hh).1;have hBg:Blk w g 126 cur:=hh;have hdl:(xs.drop (i*4)).length=(n-i)*4:=by rw [ziG,hxl];omega
 have hd1:∀ u∈xs.drop (i*4),u.oneCell'=true:=fun u hu=>hx1 u (zky hu)
 have hcell:∀ W,Blk W g 126 cur→∀ (j:Nat) u,(xs.drop (i*4))[j]?=some u→W.cell? ((⟨g,i*4,none⟩:Addr).add j)=some u:=fun W hB j u hj=>by
  rw [show (⟨g,i*4,none⟩:Addr).add j=⟨g,i*4+j,none⟩ by unfold Addr.add;split <;> simp_all,hB.cell,←ziU]
  rw [zk9,←htk,zjd] at hj;split at hj
  · exact hj
  · cases hj
 have hsz:(Tryz.prog.info? 126).map (·.size)=some 4:=by rw [hi0];simp [hz1]
 have hlt':(i:Int)<(n:Int):=by omega
 have w1:IntKind.i64.wrap ((n:Int)+1)=(n:Int)+1:=ziI _ (by omega)
 have w2:IntKind.i64.wrap ((i:Int)+1)=(i:Int)+1:=ziI _ (by omega)
 by_cases hroom:n+1≤c
 · have hroom':(n:Int)+1≤(c:Int):=by omega
   have hne1:¬c=i:=by omega
   have hne2:¬c=i+1:=by omega
   go_enter Tryz.func43,Tryz.ntmps43
   have hov:∀ lb cb,(callFunc 105 #[.slice (some ⟨vb,0,none⟩) 1 1,.slice (some ⟨g,(i+1)*4,none⟩) lb cb]).run Tryz.prog w=.ok (.value (.bool false)) w:=fun lb cb=>by
    rw [run_callFunc_extern Tryz.func105 (by kernel_rfl) (by kernel_rfl) (by kernel_rfl) (e:=Extern.SlicesOverlaps.overlaps #[28,28] #[4]) (by kernel_rfl),
     Lib.run_overlaps_apart w 28 4 126 Tryz.underlying28 4 (fun w=>by simp [sizeOf,typeInfo,hi0,hz1]) ⟨vb,0,none⟩ ⟨g,(i+1)*4,none⟩ 1 1 lb cb hgv 126 126 4 cur.size (by have:=hv;unfold Blk at this;simp [World.shape?,this,hvl]) (by have:=hBg;unfold Blk at this;simp [World.shape?,this]) (by omega) (hv.frozen 0) (hv.frozen 4)]
    rfl
   go_upto_region 14 with fail;go_upto_region 15 with (simp only [hov]);have p1:(0:Int)≤(i:Int)+1:=by omega
   have p2:(i:Int)≤(n:Int)+1:=by omega
   have p3:(i:Int)+1≤(n:Int)+1:=by omega
   have p4:(0:Int)≤(i:Int):=by omega
   have hBd:Blk w.drew g 126 cur:=hBg.drew;have hvd:Blk w.drew vb 126 vs.toArray:=hv.drew;have hb0:Below base w w.drew:=(zif _ _).drew;refine wp_region_held_drew (S:=fun _=>True) (by kernel_rfl) trivial (fun hHeld=>?_)
   generalize w.drew=wd at hBd hvd hb0 hHeld ⊢;have hB2:=zjT wd g cur (splice cur.toList ((i+1)*4) (xs.drop (i*4))).toArray 126 (0,0) hBd;have hv2:Blk (wd.setRow g (splice cur.toList ((i+1)*4) (xs.drop (i*4))).toArray) vb 126 vs.toArray:=(zkq wd g vb _ hgv).trans hvd;have hb2:=below_setRow hb0 hg (splice cur.toList ((i+1)*4) (xs.drop (i*4))).toArray;have hcp:=fun ty a b=>bQ (P:=Tryz.prog) wd 28 28 ty 126 4 g ((i+1)*4) (n-i) a ⟨g,i*4,none⟩ (n+1-i) b cur 126 (xs.drop (i*4)) Tryz.underlying28 hsz hBd (n-i) (by simp only [Nat.min_def];split <;> omega) hdl (hcell wd hBd) (by rw [hdl];omega) hd1
   generalize wd.setRow g (splice cur.toList ((i+1)*4) (xs.drop (i*4))).toArray=w3 at hB2 hv2 hb2 hcp;refine wT 0 69 ?_;refine wT 1 70 ?_;refine wT 2 71 ?_;refine wT 3 72 ?_;refine wT 4 73 ?_;refine wT 5 74 ?_;refine wT 6 75 ?_;refine wT 7 76 ?_;refine wR 8 77 (fun K hK=>?_)
   refine jM rfl _ _ 28 28 rfl _ _ rfl rfl (hcp _ _ _) ?_;go_simp;refine hK.out _ _ trivial (fun hHeld=>?_)
   clear hK K;try simp only [pu,List.set]
   refine wpAnyH_done (by kernel_rfl) ?_ _
   have hs1:(splice cur.toList ((i+1)*4) (xs.drop (i*4))).length=c*4:=by rw [dE _ _ _ (by rw [hdl,Array.length_toList];omega),Array.length_toList,hcs]
   have hB4:=zjT w3 g _ (splice (splice cur.toList ((i+1)*4) (xs.drop (i*4))) (i*4) vs).toArray 126 (0,0) hB2;have hb4:=below_setRow hb2 hg (splice (splice cur.toList ((i+1)*4) (xs.drop (i*4))) (i*4) vs).toArray;have hcq:=fun ty a b=>bQ (P:=Tryz.prog) w3 28 28 ty 126 4 g (i*4) (n+1-i) a ⟨vb,0,none⟩ 1 b _ 126 vs Tryz.underlying28 hsz hB2 1 (by simp only [Nat.min_def];split <;> omega) (by rw [hvl]) (fun j u hj=>by
    rw [show (⟨vb,0,none⟩:Addr).add j=⟨vb,j,none⟩ by unfold Addr.add;split <;> simp_all,hv2.cell j,zjD];exact hj) (by rw [ziO,hs1,hvl];omega) hv1
   rw [List.toList_toArray] at hcq;generalize w3.setRow g (splice (splice cur.toList ((i+1)*4) (xs.drop (i*4))) (i*4) vs).toArray=w4 at hB4 hb4 hcq;go_wp2_with (refine fC rfl _ _ 28 28 rfl _ _ rfl rfl (hcq _ _ _) ?_);go_ret;have hins:=lF (cur:=cur.toList) (xs:=xs) (vs:=vs) (a:=i*4) (k:=4) (m:=n*4) hvl htk hxl (by omega) (by rw [Array.length_toList,hcs];omega)
   have e1:i*4+4=(i+1)*4:=by omega
   have e2:n*4+4=(n+1)*4:=by omega
   rw [e1,e2] at hins;refine ⟨some ⟨g,0,none⟩,c,rfl,⟨?_,.inr ⟨g,c,_,rfl,hg,hB4,hroom,hcm,?_,?_⟩⟩,hb4⟩
   · simp only [zie,zio,hdl,hvl,hxl];omega
   · rw [ziO,dE _ _ _ (by rw [hs1,hvl];omega),hs1]
   · rw [List.toList_toArray,hins,ziq]
 obtain ⟨m,hm⟩:∃ m,n+1-i=m:=⟨_,rfl⟩;have hm1:i+m=n+1:=by omega
 have w3:IntKind.i64.wrap ((n:Int)+1-(i:Int))=(m:Int):=by rw [ziI _ (by omega)];omega
 have hxt:(xs.take (i*4)).length=i*4:=by rw [zio,hxl];omega
 have hold:(Builtin.firstCells i0.size i (.slice (some ⟨g,0,none⟩) i c)).run Tryz.prog w.drew=.ok (xs.take (i*4)).toArray w.drew:=by
  have hl:=run_loadCells_list (P:=Tryz.prog) w.drew ⟨g,0,none⟩ (xs.take (i*4)) (fun j u hj=>by
   rw [show (⟨g,0,none⟩:Addr).add j=⟨g,j,none⟩ by unfold Addr.add;split <;> simp_all,(show Blk w.drew g 126 cur from hBg.drew).cell,←ziU]
   rw [zjd,←htk,zjd] at hj;split at hj
   · split at hj
     · exact hj
     · cases hj
   · cases hj)
  rw [hxt] at hl;simpa [Builtin.firstCells,hz1] using hl
 have hrz:∀ ty,(Builtin.append_ #[28,3] ty #[.slice (some ⟨g,0,none⟩) i c,.int .i64 (m:Int)]).run Tryz.prog w =
  .ok (.slice (some ⟨w.heap.size,0,none⟩) (n+1) (grownCap w (n+1) c 126)) (w.drew.alloc (.cells ((xs.take (i*4)).toArray++Builtin.zeroCells (.agg #[.int .i64 0,.int .i64 0,.int .i64 0,.int .i64 0]:Value).cells m++Builtin.zeroCells (.agg #[.int .i64 0,.int .i64 0,.int .i64 0,.int .i64 0]:Value).cells (grownCap w (n+1) c 126-(n+1))) 126)):=fun ty=>by
  have h:=Lib.run_append_grow_zeros w 28 3 ty 126 i0 (.agg #[.int .i64 0,.int .i64 0,.int .i64 0,.int .i64 0]:Value) .i64 .i64 Tryz.underlying28 Tryz.underlying3 hi0 hz0 (some ⟨g,0,none⟩) i c _ hold m (by omega) (by omega) (by omega) (by omega)
   (by rw [hz2];omega) (by rw [hz2,hm1];exact zkw (by omega) (by omega))
  rw [hm1] at h;exact h
 have hGn:n+1≤grownCap w (n+1) c 126:=zkx w _ _ _;have hGm:grownCap w (n+1) c 126≤maxLen:=zjL w (n+1) c 126 (by unfold maxLen;omega)
 generalize grownCap w (n+1) c 126=G at hrz hGn hGm;have hCs:((xs.take (i*4)).toArray++Builtin.zeroCells (.agg #[.int .i64 0,.int .i64 0,.int .i64 0,.int .i64 0]:Value).cells m++Builtin.zeroCells (.agg #[.int .i64 0,.int .i64 0,.int .i64 0,.int .i64 0]:Value).cells (G-(n+1))).size=G*4:=by
  have e:(.agg #[.int .i64 0,.int .i64 0,.int .i64 0,.int .i64 0]:Value).cells.size=4:=rfl;simp only [zjP,zko,e,ziO,hxt];omega
 have hCt:((xs.take (i*4)).toArray++Builtin.zeroCells (.agg #[.int .i64 0,.int .i64 0,.int .i64 0,.int .i64 0]:Value).cells m++Builtin.zeroCells (.agg #[.int .i64 0,.int .i64 0,.int .i64 0,.int .i64 0]:Value).cells (G-(n+1))).toList.take (i*4)=xs.take (i*4):=by
  rw [zjS,zjS,ziq,List.toList_toArray,List.take_left' hxt]
 generalize (xs.take (i*4)).toArray++Builtin.zeroCells (.agg #[.int .i64 0,.int .i64 0,.int .i64 0,.int .i64 0]:Value).cells m++Builtin.zeroCells (.agg #[.int .i64 0,.int .i64 0,.int .i64 0,.int .i64 0]:Value).cells (G-(n+1))=C at hrz hCs hCt;have hB1:Blk (w.drew.alloc (.cells C 126)) w.heap.size 126 C:=Blk.new _ _ _ rfl;have hv1':Blk (w.drew.alloc (.cells C 126)) vb 126 vs.toArray:=hv.drew.alloc _;have hg1:Blk (w.drew.alloc (.cells C 126)) g 126 cur:=hBg.drew.alloc _;have hb1:Below base w (w.drew.alloc (.cells C 126)):=(zif _ _).drew.alloc hbase _;have hvs:=hv.lt;obtain ⟨gn,hgn⟩:∃ gn,w.heap.size=gn:=⟨_,rfl⟩;rw [hgn] at hB1 hrz hvs hgl hbase;have HGM:=zia hGm;generalize w.drew.alloc (.cells C 126)=w1' at hB1 hv1' hg1 hb1 hrz;have hG1:¬G=i:=by omega
 have hG2:¬G=i+1:=by omega
 have hC1:¬c=i:=by omega
 have hroom':¬(n:Int)+1≤(c:Int):=by omega
 have g1:(i:Int)≤(n:Int)+1:=by omega
 have g2:(i:Int)+1≤(n:Int)+1:=by omega
 have g3:(0:Int)≤(i:Int)+1:=by omega
 have g4:(0:Int)≤(i:Int):=by omega
 have g5:(i:Int)≤(c:Int):=by omega
 have hB2:=zjT w1' gn C (splice C.toList (i*4) vs).toArray 126 (0,0) hB1;have hg2:Blk (w1'.setRow gn (splice C.toList (i*4) vs).toArray) g 126 cur:=(zkq w1' gn g _ (by omega)).trans hg1
 have hb2:=below_setRow hb1 hbase (splice C.toList (i*4) vs).toArray;have hcq:=fun ty a b=>bQ (P:=Tryz.prog) w1' 28 28 ty 126 4 gn (i*4) (n+1-i) a ⟨vb,0,none⟩ 1 b C 126 vs Tryz.underlying28 hsz hB1 1 (by simp only [Nat.min_def];split <;> omega) (by rw [hvl]) (fun j u hj=>by
  rw [show (⟨vb,0,none⟩:Addr).add j=⟨vb,j,none⟩ by unfold Addr.add;split <;> simp_all,hv1'.cell j,zjD];exact hj) (by rw [hCs,hvl];omega) hv1
 generalize w1'.setRow gn (splice C.toList (i*4) vs).toArray=w2' at hB2 hg2 hb2 hcq;clear hm hgn hGm hm1;go_enter Tryz.func43,Tryz.ntmps43
 go_upto_region 10 with (at_builtin;refine Lib.wpList_append_run _ rfl _ _ _ _ rfl _ _ rfl rfl _ _ (hrz _) ?_);go_upto_region 11 with (refine fC rfl _ _ 28 28 rfl _ _ rfl rfl (hcq _ _ _) ?_);simp only [pu,List.set];have hs1:(splice C.toList (i*4) vs).length=G*4:=by rw [dE _ _ _ (by rw [hvl,Array.length_toList,hCs];omega),Array.length_toList,hCs]
 have hB2':Blk w2'.drew gn 126 (splice C.toList (i*4) vs).toArray:=hB2;have hg2':Blk w2'.drew g 126 cur:=hg2.drew;have hb2':Below base w w2'.drew:=hb2.trans (zif _ _).drew;clear hB2 hg2 hb2 hcq hrz;refine wp_region_held_drew (S:=fun _=>True) (by kernel_rfl) trivial (fun hHeld=>?_)
 generalize w2'.drew=wd at hB2' hg2' hb2' hHeld ⊢;have hB4:=zjT wd gn _ (splice (splice C.toList (i*4) vs) ((i+1)*4) (xs.drop (i*4))).toArray 126 (0,0) hB2';have hb4:=below_setRow hb2' hbase (splice (splice C.toList (i*4) vs) ((i+1)*4) (xs.drop (i*4))).toArray;have hcp:=fun ty a b=>bQ (P:=Tryz.prog) wd 28 28 ty 126 4 gn ((i+1)*4) (n-i) a ⟨g,i*4,none⟩ (n-i) b _ 126 (xs.drop (i*4)) Tryz.underlying28 hsz hB2' (n-i) (Nat.min_self _) hdl (hcell wd hg2') (by rw [ziO,hs1,hdl];omega) hd1
 rw [List.toList_toArray] at hcp;generalize wd.setRow gn (splice (splice C.toList (i*4) vs) ((i+1)*4) (xs.drop (i*4))).toArray=w4 at hB4 hb4 hcp;refine wT 0 46 ?_;refine wT 1 47 ?_;refine wT 2 48 ?_;refine wT 3 49 ?_;refine wT 4 50 ?_;refine wT 5 51 ?_;refine wT 6 52 ?_;refine wT 7 53 ?_;refine wR 8 54 (fun K hK=>?_)
 refine jM rfl _ _ 28 28 rfl _ _ rfl rfl (hcp _ _ _) ?_;go_simp;refine hK.out _ _ trivial (fun hHeld=>?_)
 clear hK K;try simp only [pu,List.set]
 refine wpAnyH_done (by kernel_rfl) ?_ _
 go_wp2;go_ret;have hins:=kA (C:=C.toList) (xs:=xs) (vs:=vs) (a:=i*4) (k:=4) (m:=n*4) hvl hCt hxl (by omega)
 have e1:i*4+4=(i+1)*4:=by omega
 have e2:n*4+4=(n+1)*4:=by omega
 rw [e1,e2] at hins;refine ⟨some ⟨gn,0,none⟩,G,rfl,⟨?_,.inr ⟨gn,G,_,rfl,hbase,hB4,hGn,HGM.out,?_,?_⟩⟩,hb4⟩
 · simp only [zie,zio,hdl,hvl,hxl];omega
 · rw [ziO,dE _ _ _ (by rw [hs1,hdl];omega),hs1]
 · rw [List.toList_toArray,hins,ziq]
theorem eM {w w':World} {S:Nat→Prop} {g:Nat} (h:aA w w' S) (hg:S g∨w.heap.size≤g) (r:Array Value):aA w (w'.setRow g r) S:=by
 have b:=below_setRow (zif 0 w') (zir g) r;exact ⟨b.os.trans h.os,b.tape.trans h.tape,b.output.trans h.output,zit h.size b.size,fun k hk hn=>(zkq w' g k r (fun e=>by subst e;rcases hg with hg | hg;exact hn hg;omega)).trans (h.block k hk hn)⟩
theorem zE (i:Nat) (A:Option Addr) (n c vb:Nat) (base:Nat) (xs vs:List Value) (w:World) (hown:w.ownsRow base 138 3 (.slice A n c) n xs) (hx1:∀ u∈xs,u.oneCell'=true)
 (hv:Blk w vb 138 vs.toArray) (hvl:vs.length=3) (hv1:∀ u∈vs,u.oneCell'=true) (hne:some vb≠(Value.slice A n c).ownBlock) (hi:i≤n) (hn:n≤1000000) (hbase:base≤w.heap.size) :
 Calls Tryz.prog 56 #[.slice A n c,.int .i64 i,.slice (some ⟨vb,0,none⟩) 1 1] w fun e w'=>∃ A' c',e=.returned (.slice A' (n+1) c') ∧
  w'.ownsRow base 138 3 (.slice A' (n+1) c') (n+1) (xs.take (i*3)++vs++xs.drop (i*3))∧Below base w w'∧aA w w' (fun b=>(Value.slice A n c).ownBlock=some b)∧∀ b,(Value.slice A' (n+1) c').ownBlock=some b→(Value.slice A n c).ownBlock=some b∨w.heap.size≤b:=by
 obtain ⟨i0,hi0,hz0,hz1,hz2⟩:=ziH Tryz.infF;have hvr:aG w (fun b=>b=vb) 3 (some ⟨vb,0,none⟩) 1 vs:=⟨by rw [hvl],fun _=>⟨_,rfl,rfl,fun j u hj=>by
  rw [show (⟨vb,0,none⟩:Addr).add j=⟨vb,j,none⟩ by unfold Addr.add;split <;> simp_all,hv.cell j,zjD];exact hj⟩⟩
 have hcap:=cD hown;have hcap63:=bF hown;have n1:(n:Int)≤1000000:=by omega
 by_cases hin:i=n
 · subst hin
   go_enter Tryz.func56,Tryz.ntmps56
   go_wp2_with (at_builtin;refine aF rfl _ _ _ rfl base 138 i0 _ 3 24 Tryz.underlying27 hi0 hz0 hz1 hz2 rfl (by omega) rfl hown rfl hvr hv1 (by simp only [maxLen];omega) (by omega) hbase ?_;intro A8 c8 w8 own8 hg8)
   all_goals
    go_ret;refine ⟨A8,c8,rfl,?_,hg8.below,⟨hg8.grown.os,hg8.grown.tape,hg8.grown.output,hg8.grown.size,fun k hk hn=>hg8.grown.block k hk (fun e=>hn (by cases A <;> exact e.symm))⟩,?_⟩
    rotate_left
    · intro b hb
      rcases hg8.at_ with e | ⟨gg,e,h2⟩
      · exact .inl (by have e2:=e.symm.trans hb;cases A <;> exact e2)
      · have e2:=e.symm.trans hb
        injection e2 with e2;exact .inr (by rw [←e2];exact h2)
    have hxl:=hown.1;rw [zip (by omega),zjz (by omega),ziz]
    exact own8
 have hlt:i<n:=by omega
 have hxl:=hown.1;obtain ⟨g,cap,cur,hvv,hg,hh,hnc,hcm,hcs,htk⟩:=hown.2.resolve_left (fun h=>by omega)
 injection hvv with e1 _ e2;subst e1 e2;have hgv:vb≠g:=fun e=>hne (by rw [e];rfl)
 have hgl:g<w.heap.size:=(zjF.1 hh).1;have hBg:Blk w g 138 cur:=hh;have hdl:(xs.drop (i*3)).length=(n-i)*3:=by rw [ziG,hxl];omega
 have hd1:∀ u∈xs.drop (i*3),u.oneCell'=true:=fun u hu=>hx1 u (zky hu)
 have hcell:∀ W,Blk W g 138 cur→∀ (j:Nat) u,(xs.drop (i*3))[j]?=some u→W.cell? ((⟨g,i*3,none⟩:Addr).add j)=some u:=fun W hB j u hj=>by
  rw [show (⟨g,i*3,none⟩:Addr).add j=⟨g,i*3+j,none⟩ by unfold Addr.add;split <;> simp_all,hB.cell,←ziU]
  rw [zk9,←htk,zjd] at hj;split at hj
  · exact hj
  · cases hj
 have hsz:(Tryz.prog.info? 138).map (·.size)=some 3:=by rw [hi0];simp [hz1]
 have hlt':(i:Int)<(n:Int):=by omega
 have w1:IntKind.i64.wrap ((n:Int)+1)=(n:Int)+1:=ziI _ (by omega)
 have w2:IntKind.i64.wrap ((i:Int)+1)=(i:Int)+1:=ziI _ (by omega)
 by_cases hroom:n+1≤c
 · have hroom':(n:Int)+1≤(c:Int):=by omega
   have hne1:¬c=i:=by omega
   have hne2:¬c=i+1:=by omega
   go_enter Tryz.func56,Tryz.ntmps56
   have hov:∀ lb cb,(callFunc 119 #[.slice (some ⟨vb,0,none⟩) 1 1,.slice (some ⟨g,(i+1)*3,none⟩) lb cb]).run Tryz.prog w=.ok (.value (.bool false)) w:=fun lb cb=>by
    rw [run_callFunc_extern Tryz.func119 (by kernel_rfl) (by kernel_rfl) (by kernel_rfl) (e:=Extern.SlicesOverlaps.overlaps #[27,27] #[4]) (by kernel_rfl),
     Lib.run_overlaps_apart w 27 4 138 Tryz.underlying27 3 (fun w=>by simp [sizeOf,typeInfo,hi0,hz1]) ⟨vb,0,none⟩ ⟨g,(i+1)*3,none⟩ 1 1 lb cb hgv 138 138 3 cur.size (by have:=hv;unfold Blk at this;simp [World.shape?,this,hvl]) (by have:=hBg;unfold Blk at this;simp [World.shape?,this]) (by omega) (hv.frozen 0) (hv.frozen 3)]
    rfl
   go_upto_region 14 with fail;go_upto_region 15 with (simp only [hov]);have p1:(0:Int)≤(i:Int)+1:=by omega
   have p2:(i:Int)≤(n:Int)+1:=by omega
   have p3:(i:Int)+1≤(n:Int)+1:=by omega
   have p4:(0:Int)≤(i:Int):=by omega
   have hBd:Blk w.drew g 138 cur:=hBg.drew;have hvd:Blk w.drew vb 138 vs.toArray:=hv.drew;have hb0:Below base w w.drew:=(zif _ _).drew;have ht0:aA w w.drew (fun b=>(Value.slice (some ⟨g,0,none⟩) n c).ownBlock=some b):=(aA.refl _ _).drew
   refine wp_region_held_drew (S:=fun _=>True) (by kernel_rfl) trivial (fun hHeld=>?_)
   generalize w.drew=wd at hBd hvd hb0 ht0 hHeld ⊢;have hB2:=zjT wd g cur (splice cur.toList ((i+1)*3) (xs.drop (i*3))).toArray 138 (0,0) hBd;have hv2:Blk (wd.setRow g (splice cur.toList ((i+1)*3) (xs.drop (i*3))).toArray) vb 138 vs.toArray:=(zkq wd g vb _ hgv).trans hvd;have hb2:=below_setRow hb0 hg (splice cur.toList ((i+1)*3) (xs.drop (i*3))).toArray;have ht2:=eM ht0 (.inl rfl) (splice cur.toList ((i+1)*3) (xs.drop (i*3))).toArray;have hcp:=fun ty a b=>bQ (P:=Tryz.prog) wd 27 27 ty 138 3 g ((i+1)*3) (n-i) a ⟨g,i*3,none⟩ (n+1-i) b cur 138 (xs.drop (i*3)) Tryz.underlying27 hsz hBd (n-i) (by simp only [Nat.min_def];split <;> omega) hdl (hcell wd hBd) (by rw [hdl];omega) hd1
   generalize wd.setRow g (splice cur.toList ((i+1)*3) (xs.drop (i*3))).toArray=w3 at hB2 hv2 hb2 ht2 hcp;refine wT 0 69 ?_;refine wT 1 70 ?_;refine wT 2 71 ?_;refine wT 3 72 ?_;refine wT 4 73 ?_;refine wT 5 74 ?_;refine wT 6 75 ?_;refine wT 7 76 ?_;refine wR 8 77 (fun K hK=>?_)
   refine jM rfl _ _ 27 27 rfl _ _ rfl rfl (hcp _ _ _) ?_;go_simp;refine hK.out _ _ trivial (fun hHeld=>?_)
   clear hK K;try simp only [pu,List.set]
   refine wpAnyH_done (by kernel_rfl) ?_ _
   have hs1:(splice cur.toList ((i+1)*3) (xs.drop (i*3))).length=c*3:=by rw [dE _ _ _ (by rw [hdl,Array.length_toList];omega),Array.length_toList,hcs]
   have hB4:=zjT w3 g _ (splice (splice cur.toList ((i+1)*3) (xs.drop (i*3))) (i*3) vs).toArray 138 (0,0) hB2;have hb4:=below_setRow hb2 hg (splice (splice cur.toList ((i+1)*3) (xs.drop (i*3))) (i*3) vs).toArray;have ht4:=eM ht2 (.inl rfl) (splice (splice cur.toList ((i+1)*3) (xs.drop (i*3))) (i*3) vs).toArray;have hcq:=fun ty a b=>bQ (P:=Tryz.prog) w3 27 27 ty 138 3 g (i*3) (n+1-i) a ⟨vb,0,none⟩ 1 b _ 138 vs Tryz.underlying27 hsz hB2 1 (by simp only [Nat.min_def];split <;> omega) (by rw [hvl]) (fun j u hj=>by
    rw [show (⟨vb,0,none⟩:Addr).add j=⟨vb,j,none⟩ by unfold Addr.add;split <;> simp_all,hv2.cell j,zjD];exact hj) (by rw [ziO,hs1,hvl];omega) hv1
   rw [List.toList_toArray] at hcq;generalize w3.setRow g (splice (splice cur.toList ((i+1)*3) (xs.drop (i*3))) (i*3) vs).toArray=w4 at hB4 hb4 ht4 hcq;go_wp2_with (refine fC rfl _ _ 27 27 rfl _ _ rfl rfl (hcq _ _ _) ?_);go_ret;have hins:=lF (cur:=cur.toList) (xs:=xs) (vs:=vs) (a:=i*3) (k:=3) (m:=n*3) hvl htk hxl (by omega) (by rw [Array.length_toList,hcs];omega)
   have e1:i*3+3=(i+1)*3:=by omega
   have e2:n*3+3=(n+1)*3:=by omega
   rw [e1,e2] at hins;refine ⟨some ⟨g,0,none⟩,c,rfl,⟨?_,.inr ⟨g,c,_,rfl,hg,hB4,hroom,hcm,?_,?_⟩⟩,hb4,ht4,fun b hb=>.inl hb⟩
   · simp only [zie,zio,hdl,hvl,hxl];omega
   · rw [ziO,dE _ _ _ (by rw [hs1,hvl];omega),hs1]
   · rw [List.toList_toArray,hins,ziq]
 obtain ⟨m,hm⟩:∃ m,n+1-i=m:=⟨_,rfl⟩;have hm1:i+m=n+1:=by omega
 have w3:IntKind.i64.wrap ((n:Int)+1-(i:Int))=(m:Int):=by rw [ziI _ (by omega)];omega
 have hxt:(xs.take (i*3)).length=i*3:=by rw [zio,hxl];omega
 have hold:(Builtin.firstCells i0.size i (.slice (some ⟨g,0,none⟩) i c)).run Tryz.prog w.drew=.ok (xs.take (i*3)).toArray w.drew:=by
  have hl:=run_loadCells_list (P:=Tryz.prog) w.drew ⟨g,0,none⟩ (xs.take (i*3)) (fun j u hj=>by
   rw [show (⟨g,0,none⟩:Addr).add j=⟨g,j,none⟩ by unfold Addr.add;split <;> simp_all,(show Blk w.drew g 138 cur from hBg.drew).cell,←ziU]
   rw [zjd,←htk,zjd] at hj;split at hj
   · split at hj
     · exact hj
     · cases hj
   · cases hj)
  rw [hxt] at hl;simpa [Builtin.firstCells,hz1] using hl
 have hrz:∀ ty,(Builtin.append_ #[27,3] ty #[.slice (some ⟨g,0,none⟩) i c,.int .i64 (m:Int)]).run Tryz.prog w =
  .ok (.slice (some ⟨w.heap.size,0,none⟩) (n+1) (grownCap w (n+1) c 138)) (w.drew.alloc (.cells ((xs.take (i*3)).toArray++Builtin.zeroCells (.agg #[.int .i64 0,.int .i64 0,.int .i64 0]:Value).cells m++Builtin.zeroCells (.agg #[.int .i64 0,.int .i64 0,.int .i64 0]:Value).cells (grownCap w (n+1) c 138-(n+1))) 138)):=fun ty=>by
  have h:=Lib.run_append_grow_zeros w 27 3 ty 138 i0 (.agg #[.int .i64 0,.int .i64 0,.int .i64 0]:Value) .i64 .i64 Tryz.underlying27 Tryz.underlying3 hi0 hz0 (some ⟨g,0,none⟩) i c _ hold m (by omega) (by omega) (by omega) (by omega)
   (by rw [hz2];omega) (by rw [hz2,hm1];exact zkw (by omega) (by omega))
  rw [hm1] at h;exact h
 have hGn:n+1≤grownCap w (n+1) c 138:=zkx w _ _ _;have hGm:grownCap w (n+1) c 138≤maxLen:=zjL w (n+1) c 138 (by unfold maxLen;omega)
 generalize grownCap w (n+1) c 138=G at hrz hGn hGm;have hCs:((xs.take (i*3)).toArray++Builtin.zeroCells (.agg #[.int .i64 0,.int .i64 0,.int .i64 0]:Value).cells m++Builtin.zeroCells (.agg #[.int .i64 0,.int .i64 0,.int .i64 0]:Value).cells (G-(n+1))).size=G*3:=by
  have e:(.agg #[.int .i64 0,.int .i64 0,.int .i64 0]:Value).cells.size=3:=rfl;simp only [zjP,zko,e,ziO,hxt];omega
 have hCt:((xs.take (i*3)).toArray++Builtin.zeroCells (.agg #[.int .i64 0,.int .i64 0,.int .i64 0]:Value).cells m++Builtin.zeroCells (.agg #[.int .i64 0,.int .i64 0,.int .i64 0]:Value).cells (G-(n+1))).toList.take (i*3)=xs.take (i*3):=by
  rw [zjS,zjS,ziq,List.toList_toArray,List.take_left' hxt]
 generalize (xs.take (i*3)).toArray++Builtin.zeroCells (.agg #[.int .i64 0,.int .i64 0,.int .i64 0]:Value).cells m++Builtin.zeroCells (.agg #[.int .i64 0,.int .i64 0,.int .i64 0]:Value).cells (G-(n+1))=C at hrz hCs hCt;have hB1:Blk (w.drew.alloc (.cells C 138)) w.heap.size 138 C:=Blk.new _ _ _ rfl;have hv1':Blk (w.drew.alloc (.cells C 138)) vb 138 vs.toArray:=hv.drew.alloc _;have hg1:Blk (w.drew.alloc (.cells C 138)) g 138 cur:=hBg.drew.alloc _;have hb1:Below base w (w.drew.alloc (.cells C 138)):=(zif _ _).drew.alloc hbase _;have ht1:aA w (w.drew.alloc (.cells C 138)) (fun b=>(Value.slice (some ⟨g,0,none⟩) n c).ownBlock=some b):=((aA.refl _ _).drew).alloc _
 have hvs:=hv.lt;obtain ⟨gn,hgn⟩:∃ gn,w.heap.size=gn:=⟨_,rfl⟩;rw [hgn] at hB1 hrz hvs hgl hbase;have hgw:w.heap.size≤gn:=zjA hgn;have HGM:=zia hGm;generalize w.drew.alloc (.cells C 138)=w1' at hB1 hv1' hg1 hb1 ht1 hrz;have hG1:¬G=i:=by omega
 have hG2:¬G=i+1:=by omega
 have hC1:¬c=i:=by omega
 have hroom':¬(n:Int)+1≤(c:Int):=by omega
 have g1:(i:Int)≤(n:Int)+1:=by omega
 have g2:(i:Int)+1≤(n:Int)+1:=by omega
 have g3:(0:Int)≤(i:Int)+1:=by omega
 have g4:(0:Int)≤(i:Int):=by omega
 have g5:(i:Int)≤(c:Int):=by omega
 have hB2:=zjT w1' gn C (splice C.toList (i*3) vs).toArray 138 (0,0) hB1;have hg2:Blk (w1'.setRow gn (splice C.toList (i*3) vs).toArray) g 138 cur:=(zkq w1' gn g _ (by omega)).trans hg1
 have hb2:=below_setRow hb1 hbase (splice C.toList (i*3) vs).toArray;have ht2:=eM ht1 (.inr hgw) (splice C.toList (i*3) vs).toArray;have hcq:=fun ty a b=>bQ (P:=Tryz.prog) w1' 27 27 ty 138 3 gn (i*3) (n+1-i) a ⟨vb,0,none⟩ 1 b C 138 vs Tryz.underlying27 hsz hB1 1 (by simp only [Nat.min_def];split <;> omega) (by rw [hvl]) (fun j u hj=>by
  rw [show (⟨vb,0,none⟩:Addr).add j=⟨vb,j,none⟩ by unfold Addr.add;split <;> simp_all,hv1'.cell j,zjD];exact hj) (by rw [hCs,hvl];omega) hv1
 generalize w1'.setRow gn (splice C.toList (i*3) vs).toArray=w2' at hB2 hg2 hb2 ht2 hcq;clear hm hgn hGm hm1;go_enter Tryz.func56,Tryz.ntmps56
 go_upto_region 10 with (at_builtin;refine Lib.wpList_append_run _ rfl _ _ _ _ rfl _ _ rfl rfl _ _ (hrz _) ?_);go_upto_region 11 with (refine fC rfl _ _ 27 27 rfl _ _ rfl rfl (hcq _ _ _) ?_);simp only [pu,List.set];have hs1:(splice C.toList (i*3) vs).length=G*3:=by rw [dE _ _ _ (by rw [hvl,Array.length_toList,hCs];omega),Array.length_toList,hCs]
 have hB2':Blk w2'.drew gn 138 (splice C.toList (i*3) vs).toArray:=hB2;have hg2':Blk w2'.drew g 138 cur:=hg2.drew;have hb2':Below base w w2'.drew:=hb2.trans (zif _ _).drew;have ht2':=ht2.drew;clear hB2 hg2 hb2 ht2 hcq hrz;refine wp_region_held_drew (S:=fun _=>True) (by kernel_rfl) trivial (fun hHeld=>?_)
 generalize w2'.drew=wd at hB2' hg2' hb2' ht2' hHeld ⊢;have hB4:=zjT wd gn _ (splice (splice C.toList (i*3) vs) ((i+1)*3) (xs.drop (i*3))).toArray 138 (0,0) hB2';have hb4:=below_setRow hb2' hbase (splice (splice C.toList (i*3) vs) ((i+1)*3) (xs.drop (i*3))).toArray;have ht4:=eM ht2' (.inr hgw) (splice (splice C.toList (i*3) vs) ((i+1)*3) (xs.drop (i*3))).toArray;have hcp:=fun ty a b=>bQ (P:=Tryz.prog) wd 27 27 ty 138 3 gn ((i+1)*3) (n-i) a ⟨g,i*3,none⟩ (n-i) b _ 138 (xs.drop (i*3)) Tryz.underlying27 hsz hB2' (n-i) (Nat.min_self _) hdl (hcell wd hg2') (by rw [ziO,hs1,hdl];omega) hd1
 rw [List.toList_toArray] at hcp;generalize wd.setRow gn (splice (splice C.toList (i*3) vs) ((i+1)*3) (xs.drop (i*3))).toArray=w4 at hB4 hb4 ht4 hcp;refine wT 0 46 ?_;refine wT 1 47 ?_;refine wT 2 48 ?_;refine wT 3 49 ?_;refine wT 4 50 ?_;refine wT 5 51 ?_;refine wT 6 52 ?_;refine wT 7 53 ?_;refine wR 8 54 (fun K hK=>?_)
 refine jM rfl _ _ 27 27 rfl _ _ rfl rfl (hcp _ _ _) ?_;go_simp;refine hK.out _ _ trivial (fun hHeld=>?_)
 clear hK K;try simp only [pu,List.set]
 refine wpAnyH_done (by kernel_rfl) ?_ _
 go_wp2;go_ret;have hins:=kA (C:=C.toList) (xs:=xs) (vs:=vs) (a:=i*3) (k:=3) (m:=n*3) hvl hCt hxl (by omega)
 have e1:i*3+3=(i+1)*3:=by omega
 have e2:n*3+3=(n+1)*3:=by omega
 rw [e1,e2] at hins;refine ⟨some ⟨gn,0,none⟩,G,rfl,⟨?_,.inr ⟨gn,G,_,rfl,hbase,hB4,hGn,HGM.out,?_,?_⟩⟩,hb4,ht4,fun b hb=>.inr (by injection hb with hb;rw [←hb];exact hgw)⟩
 · simp only [zie,zio,hdl,hvl,hxl];omega
 · rw [ziO,dE _ _ _ (by rw [hs1,hdl];omega),hs1]
 · rw [List.toList_toArray,hins,ziq]
theorem zcl (n:Nat):(madeCells #[.int .u8 0] n).toList=aE (List.replicate n 0):=by
 have e:aE (List.replicate n 0)=List.replicate n (.int .u8 0):=by simp only [aE,zjY];rfl
 rw [e];apply List.ext_getElem
 · simp [madeCells]
 · intro i h1 h2
   simp [madeCells,Nat.mod_one]
