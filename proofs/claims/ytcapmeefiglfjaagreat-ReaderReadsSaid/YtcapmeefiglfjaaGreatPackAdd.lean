/- A part of the proof. -/
import Derived.Test.YtcapmeefiglfjaaGreatPack
set_option maxHeartbeats 8000000
set_option maxRecDepth 100000
namespace Go.Proofs.YtcapmeefiglfjaaGreat
open Go.RowKit
theorem aK {w:World} {K:Nat→Prop} {v:Value} {l:List UInt8} (h:IsB w K v l):∃ A c,v=.slice A l.length c∧l.length≤140737488355328:=by
 obtain ⟨A,c,rfl,_,_,_,h5⟩:=h;exact ⟨A,c,rfl,h5⟩
theorem yL (r:Rc) (v:Value) (K:Nat→Prop) (w:World) (hr:lZ r) (hv:IsB w K v r.data) :
 Calls Tryz.prog 84 #[rcV r v] w fun e w'=>∃ A c,e=.returned (.tuple #[.slice A (recL r).1.length c,.int .i64 (recL r).2]) ∧
  w'.ownsRow w.heap.size 5 1 (.slice A (recL r).1.length c) (recL r).1.length (aE (recL r).1)∧Below w.heap.size w w':=by
 have hv0:=hv.lt;obtain ⟨A,c,rfl,hl47⟩:=aK hv;have hchk:=fun W=>tV r A c W hr hl47
 by_cases hc:checkL r=0
 · rw [mD hr hc]
   have hok:=oG hc;have hn:fP (kE r)=(flatN (kE r),0):=zij hok.2;have hvv:mZ r.data=(putL r.data.length++r.data,0):=zij (by omega)
   have hbl:=rQ hr hc;have hfr:=nZ (x:=jB r) (by omega)
   have hN:∀ W:World,Calls Tryz.prog 145 #[.slice (some ⟨W.heap.size,0,none⟩) 6 6] (W.alloc (.cells #[.int .i64 r.kind,.int .i64 r.lba,.int .i64 r.n,.int .i64 r.ver,.int .i64 r.zone,.int .i64 r.off] 3)) fun e w'=>∃ A' c',e=.returned (.tuple #[.slice A' (flatN (kE r)).length c',.int .i64 0]) ∧
    w'.ownsRow (W.heap.size+1) 5 1 (.slice A' (flatN (kE r)).length c') (flatN (kE r)).length (aE (flatN (kE r)))∧Below (W.heap.size+1) (W.alloc (.cells #[.int .i64 r.kind,.int .i64 r.lba,.int .i64 r.n,.int .i64 r.ver,.int .i64 r.zone,.int .i64 r.off] 3)) w':=fun W=>by
    have:=oD _ (kE r) _ _ (nM (w:=W) (n:=6) (cs:=#[.int .i64 r.kind,.int .i64 r.lba,.int .i64 r.n,.int .i64 r.ver,.int .i64 r.zone,.int .i64 r.off]) hr 3 rfl rfl (by omega)) (by show 6≤_;omega)
    rw [hn] at this;simpa only [zid] using this
   have hV:∀ W,IsB W (fun b=>K b∧b<w.heap.size) (.slice A r.data.length c) r.data→Calls Tryz.prog 146 #[.slice A r.data.length c] W fun e w'=>∃ A' c',e=.returned (.tuple #[.slice A' (putL r.data.length++r.data).length c',.int .i64 0]) ∧
    w'.ownsRow W.heap.size 5 1 (.slice A' (putL r.data.length++r.data).length c') (putL r.data.length++r.data).length (aE (putL r.data.length++r.data))∧Below W.heap.size W w':=fun W h=>by
    have:=rP _ r.data _ W h;rw [hvv] at this;exact this
   rw [show jB r=flatN (kE r)++(putL r.data.length++r.data) from rfl] at hbl hfr ⊢;generalize flatN (kE r)=nb at hN hbl hfr ⊢;generalize putL r.data.length++r.data=vb at hV hbl hfr ⊢;generalize frB (nb++vb)=fr at hfr ⊢;rw [zie] at hbl;have hap:aE (nb++vb)=aE nb++aE vb:=by simp [aE]
   have HAP:=zia hap;have HF:=zia hfr;have HCK:=zia hc;clear hap hfr hn hvv hok;obtain ⟨i0,hi,hz0,hz1,hz2⟩:=ziH Tryz.info5;unfold rcV at *;have hnv:=aW vb;go_enter Tryz.func84,Tryz.ntmps84
   go_wp2_with fail;refine (hchk _).mono ?_;rintro e w1 ⟨rfl,hb1⟩;rw [HCK.out];have hb2:Below w.heap.size w w1:=(zBA).trans (hb1.mono (by simp))
   have hs2:=hb2.size;have hB:=(Blk.new w 117 #[.int .i64 r.kind,.int .i64 r.lba,.int .i64 r.n,.int .i64 r.ver,.int .i64 r.zone,.int .i64 r.off,.slice A r.data.length c] rfl).step hb1;obtain ⟨r1,r2⟩:=hB.rules;clear hchk hc;go_wp2_with fail;refine (hN w1).mono ?_;rintro e w3 ⟨A3,c3,rfl,own3,hb3⟩;have hb4:Below w1.heap.size w1 w3:=(zBA).trans (hb3.mono (by omega))
   have hs4:=hb3.size;simp only [zid] at hs4;obtain ⟨q1,q2⟩:=(hB.step hb4).rules;have hv4:=(hv0.step hb2).step hb4;clear r1 r2;go_wp2_with fail;refine (hV _ hv4).mono ?_;rintro e w5 ⟨A5,c5,rfl,own5,hb5⟩;have own4:=aD own3 hb5 (zic _);have hs5:=hb5.size;clear q1 q2;go_wp2_with fail;refine (oF _).mono ?_;rintro e w6 ⟨g,rfl,hg,hT6,hb6⟩;have own6:=aD own4 hb6 (zic _);have own7:=aD own5 hb6 (zic _);have hs6:=hb6.size;have hr7:=aG.of_own own7;go_wp2_with (at_builtin;refine aF rfl _ _ _ rfl (w1.heap.size+1) 5 i0 _ 1 1 Tryz.underlying31 hi hz0 hz1 hz2 rfl (by omega) rfl own6 rfl hr7 hnv (by simp only [maxLen];omega) (by omega) (by omega) ?_;intro A7 c7 w7 own8 hg7)
   have hne3:∀ b,some b=(Value.slice A3 nb.length c3).ownBlock→b≠g:=fun b hb=>by have:=(own3.lt b hb.symm).2;omega
   have hT7:fA w7 g:=hT6.turned (S:=fun k=>some k=(Value.slice A3 nb.length c3).ownBlock) ⟨hg7.grown.os,hg7.grown.tape,hg7.grown.output,hg7.grown.size,fun k hk hn=>hg7.grown.block k hk hn⟩ (fun h=>hne3 g h rfl)
   have hne7:∀ b,some b=(Value.slice A7 (nb.length+vb.length) c7).ownBlock→b≠g:=fun b hb=>by
    rcases hg7.at_ with h5 | ⟨g',h5,h6⟩
    · exact hne3 b (hb.trans h5)
    · rw [h5] at hb
      injection hb with hb;have:=hT6.lt;omega
   have hxB:IsB w7 (fun k=>k≠g) (.slice A7 (nb.length+vb.length) c7) (nb++vb):=⟨A7,c7,by rw [zie],by rw [HAP.out,zie];exact (aG.of_own own8).more (fun b hb=>hne7 b hb),by rw [zie];exact cD own8,bF own8,by rw [zie];omega⟩
   have hb7:Below w.heap.size w w7:=((hb2.trans (hb4.mono hs2)).trans (hb5.mono (by omega))).trans (((hb6.mono (by omega)).trans (hg7.below.mono (by omega))))
   refine (vM g _ (nb++vb) _ _ hT7 hxB (fun k hk=>hk)).mono ?_
   rintro e w8 ⟨A9,c9,rfl,own9,hT9,hb9⟩;rw [HF.out] at own9 ⊢;have hs7:=hg7.below.size;have hb10:Below w.heap.size w w8:=hb7.trans (hb9.below (fun k hk=>by omega) (by omega))
   go_wp2;go_ret2;exact ⟨A9,c9,rfl,aO own9 (by omega),hb10⟩
 · rw [zcH hc]
   have hc':(checkL r != 0)=true:=by simpa using hc
   generalize checkL r=ck at hc' hchk;clear hc;unfold rcV at *;go_enter Tryz.func84,Tryz.ntmps84
   go_wp2_with fail;refine (hchk _).mono ?_;rintro e w1 ⟨rfl,hb1⟩;have hb2:Below w.heap.size w w1:=(zBA).trans (hb1.mono (by simp))
   go_wp2;go_ret2;exact ⟨none,0,rfl,zin _ _ _ _,hb2⟩
theorem aB.ownI' {base:Nat} {e:TypeId} {size n:Nat} {v:Value} {xs:List Value}:aB (fun w=>w.ownsRow base e size v n xs):=fun _ _ h hb=>aD h hb (zic _)
theorem zho {w:World} {K:Nat→Prop} {cs:List Value} {r:Rc} (h:Rp.rc.is w K cs r):lZ r:=by
 obtain ⟨v,_,_,h0,h1,h2,h3,h4,h5⟩:=h;intro n hn;simp only [kE,zim,ziJ,zju] at hn;rcases hn with rfl | rfl | rfl | rfl | rfl | rfl <;> assumption
theorem zh4 {w:World} {K:Nat→Prop} {cs:List Value} {l:List Rc} (h:aI Rp.rc w K cs l):∀ r∈l,lZ r:=by
 induction l generalizing cs with
 | nil=>intro r hr;cases hr
 | cons a l ih=>
   obtain ⟨c1,c2,_,h1,h2⟩:=h;intro r hr;rcases zim.1 hr with rfl | hr
   · exact zho h1
   · exact ih h2 r hr
theorem zdc {w:World} {K:Nat→Prop} {v:Value} {l:List Rc} (h:IsL Rp.rc w K v l):∀ r∈l,lZ r:=by
 obtain ⟨A,c,cs,_,_,h2,_⟩:=h;exact zh4 h2
theorem lB {l:List Rc} (h:∀ r∈l,lZ r):(cH l).length≤40030*l.length:=by
 induction l with
 | nil=>simp [cH]
 | cons r l ih=>
   have h1:=(kU (h r (zih ..))).1;have h2:=ih fun x hx=>h x (zii _ hx)
   simp only [cH,zie,List.length_cons];omega
theorem iP {α:Type} (l:List α) {j:Nat} {r:α} (h:l[j]?=some r):l.take (j+1)=l.take j++[r]:=by
 rw [zjQ,h];rfl
theorem zdq (l:List Rc) {j:Nat} {r:Rc} (h:l[j]?=some r) (h0:eY (l.take j)=0) (h1:(recL r).2≠0):eY l=(recL r).2:=by
 have hj:=(zil.1 h).1;have e:l=(l.take j++[r])++l.drop (j+1):=by rw [←iP l h,ziP]
 have:∀ (a b:List Rc),eY a≠0→eY (a++b)=eY a:=by
  intro a b;induction a with
  | nil=>intro h;exact absurd rfl h
  | cons x a ih=>
    rw [List.cons_append];unfold eY;by_cases hx:(recL x).2=0
    · simp only [hx,ne_eq,zk3,zjG];exact ih
    · simp [hx]
 have h2:eY (l.take j++[r])=(recL r).2:=by rw [vO,zig (by simp [h0])]
 rw [e,this _ _ (by rw [h2];exact h1),h2]
theorem zcC (l:List Rc) (r:Rc):cH (l++[r])=cH l++(recL r).1:=by rw [nP];simp [cH]
theorem zcF (l:List Rc) (r:Rc) (b:Int):pW b (l++[r])=pW b l++[b+(cH l).length+(recL r).1.length-4-r.data.length]:=by rw [zR];rfl
theorem zg8 (p:Pk) {l:List Rc} {e:Int} (h:eY l=e) (he:e≠0):fX p l=(p0k,[],e):=by
 unfold fX;rw [zij (by rw [h];exact he),h]
theorem zen (p:Pk) {l:List Rc} (h:eY l=0) (hf:gT p<((cH l).length:Int)):fX p l=(p0k,[],40):=by
 unfold fX;rw [zig (by simp [h]),zij hf]
theorem zae (p:Pk) {l:List Rc} (h:eY l=0) (hf:¬gT p<((cH l).length:Int)):fX p l=(⟨p.h,p.zone,p.cap,p.at_,p.buf++cH l,p.l++l⟩,pW (p.at_+p.buf.length) l,0):=by
 unfold fX;rw [zig (by simp [h]),zig hf]
theorem zgM (w:World) (K:Nat→Prop):IsB w K (.slice none 0 0) []:=⟨none,0,rfl,aG.none_,zic _,by omega,by simp⟩
theorem vU (w:World) (K:Nat→Prop):ze8 w K (.agg #[.int .i64 0,.int .i64 0,.int .i64 0,.int .i64 0,.int .i64 0,.int .i64 0,.slice none 0 0,.slice none 0 0]) p0k:=⟨_,_,rfl,zgM w K,IsL.nil_ w K⟩
abbrev pkC (p:Pk) (vb vl:Value):Array Value:=#[.int .i64 p.h.host,.int .i64 p.h.epoch,.int .i64 p.h.seq,.int .i64 p.zone,.int .i64 p.cap,.int .i64 p.at_,vb,vl]
def zhW (w wr:World) (p:Pk) (vb vl:Value) (l:List Rc) (v7 v8 i:Value):Prop:=
 ∃ (j:Nat) (A7:Option Addr) (c7:Nat) (A8:Option Addr) (c8:Nat),i=.int .i64 j∧j≤l.length∧v7=.slice A7 j c7∧v8=.slice A8 (cH (l.take j)).length c8 ∧
   wr.ownsRow (w.heap.size+2) 3 1 (.slice A7 j c7) j ((pW (p.at_+p.buf.length) (l.take j)).map I64) ∧
   wr.ownsRow (w.heap.size+2) 5 1 (.slice A8 (cH (l.take j)).length c8) (cH (l.take j)).length (aE (cH (l.take j))) ∧
   eY (l.take j)=0∧Blk wr w.heap.size 34 (pkC p vb vl) ∧
   Blk wr (w.heap.size+1) 34 #[.int .i64 0,.int .i64 0,.int .i64 0,.int .i64 0,.int .i64 0,.int .i64 0,.slice none 0 0,.slice none 0 0]∧Below w.heap.size w wr
theorem mA {w:World} {g:Nat} {o:Obj} (h:w.heap[g]?=some o):g<w.heap.size:=by
 rcases zjb g w.heap.size with h1 | h1
 · exact h1
 · rw [zjo h1] at h;cases h
theorem bS {w:World} {base g:Nat} {e:TypeId} {size n:Nat} {v:Value} {xs:List Value} (h:w.ownsRow base e size v n xs) (hne:v.ownBlock≠some g) (i:Nat) (u:Value):(w.setCell ⟨g,i,none⟩ u).ownsRow base e size v n xs:=
 h.kept (row:=some g) (zeb (zb8 (zif _ _)) i u) (.inr hne)
def zi6 (K:Nat→Prop) (w wr:World) (p:Pk) (vb:Value) (l:List Rc) (v7 v8:Value) (i:Value):Prop:=
 ∃ (j:Nat) (A6:Option Addr) (c6:Nat),i=.int .i64 j∧j≤l.length∧Blk wr w.heap.size 34 (pkC p vb (.slice A6 (p.l.length+j) c6)) ∧
   eA Rp.rc wr (w.heap.size+2) 117 (fun b=>(b≠w.heap.size∧b≠w.heap.size+1∧(K b∨w.heap.size+2≤b))∧some b≠vb.ownBlock) (.slice A6 (p.l.length+j) c6) (p.l++l.take j) ∧
   wr.ownsRow (w.heap.size+2) 3 1 v7 l.length ((pW (p.at_+p.buf.length) l).map I64)∧wr.ownsRow (w.heap.size+2) 5 1 v8 (cH l).length (aE (cH l))∧wr.ownsRow (w.heap.size+2) 5 1 vb p.buf.length (aE p.buf) ∧
   Blk wr (w.heap.size+1) 34 #[.int .i64 0,.int .i64 0,.int .i64 0,.int .i64 0,.int .i64 0,.int .i64 0,.slice none 0 0,.slice none 0 0]∧Below w.heap.size w wr
theorem eA.far' {α:Type} {R:Rp α} {w:World} {base g:Nat} {e:TypeId} {X:Nat→Prop} {v:Value} {l:List α} (h:eA R w base e X v l) (hne:v.ownBlock≠some g) (hX:¬X g) (i:Nat) (u:Value):eA R (w.setCell ⟨g,i,none⟩ u) base e X v l:=by
 obtain ⟨A,c,cs,rfl,h1,h2⟩:=h;refine ⟨A,c,cs,rfl,bS h1 hne i u,?_⟩;refine (h2.keep (w':=w.setCell ⟨g,i,none⟩ u) fun p hp _=>zjH _ _ _ _ (fun e=>?_)).more fun b hb=>⟨hb.1,by simpa [World.setCell] using hb.2.1,hb.2.2⟩
 exact hX (by rw [show g=p.block from zjj Addr.block e];exact hp.1)
theorem eA.turned {α:Type} {R:Rp α} {w w':World} {base:Nat} {e:TypeId} {X S:Nat→Prop} {v:Value} {l:List α} (h:eA R w base e X v l) (ht:aA w w' S) (hX:∀ b,X b→¬S b) (hB:∀ b,base≤b→¬S b):eA R w' base e X v l:=by
 obtain ⟨A,c,cs,rfl,h1,h2⟩:=h;refine ⟨A,c,cs,rfl,?_,(h2.turned ht (fun b hb=>hX b hb.1)).more fun b hb=>⟨hb.1,by have:=ht.size;omega,hb.2.2⟩⟩
 refine ⟨h1.1,?_⟩;rcases h1.2 with h3 | ⟨g,cap,cur,hv,hg,hh,r⟩
 · exact .inl h3
 · exact .inr ⟨g,cap,cur,hv,hg,by rw [ht.block g (mA hh) (hB g hg)];exact hh,r⟩
theorem eA.grew {α:Type} {R:Rp α} {w w':World} {base base' n' size':Nat} {e e':TypeId} {X:Nat→Prop} {v v0 v1:Value} {xs':List Value} {l:List α} (h:eA R w base e X v l) (h':w.ownsRow base' e' size' v0 n' xs') (hne:e≠e') (hX:∀ b,X b→some b≠v0.ownBlock) (hg:xZ base' w w' v0 v1):eA R w' base e X v l:=by
 obtain ⟨A,c,cs,rfl,h1,h2⟩:=h;exact ⟨A,c,cs,rfl,fG h1 h' hne hg,(h2.keep (w':=w') fun p hp hl=>zjg (hg.grown.block p.block hl (hX _ hp.1))).more fun b hb=>⟨hb.1,by have:=hg.grown.size;omega,hb.2.2⟩⟩
theorem eA.lt {α:Type} {R:Rp α} {w:World} {base:Nat} {e:TypeId} {X:Nat→Prop} {v:Value} {l:List α} (h:eA R w base e X v l):∀ b,v.ownBlock=some b→base≤b∧b<w.heap.size:=by
 obtain ⟨A,c,cs,rfl,h1,h2⟩:=h;exact h1.lt
theorem zbs {w:World} {K:Nat→Prop} {A:Option Addr} {n c:Nat} {l:List Rc} (h:IsL Rp.rc w K (.slice A n c) l) {j:Nat} {r:Rc} (hj:l[j]?=some r) :
 ∃ ad Ad cd,A=some ad∧K ad.block∧IsB w K (.slice Ad r.data.length cd) r.data∧lZ r ∧
   w.cell? (ad.add (j*7))=some (.int .i64 r.kind)∧w.cell? ⟨(ad.add (j*7)).block,(ad.add (j*7)).off+1,none⟩=some (.int .i64 r.lba)∧w.cell? ⟨(ad.add (j*7)).block,(ad.add (j*7)).off+2,none⟩=some (.int .i64 r.n) ∧
   w.cell? ⟨(ad.add (j*7)).block,(ad.add (j*7)).off+3,none⟩=some (.int .i64 r.ver)∧w.cell? ⟨(ad.add (j*7)).block,(ad.add (j*7)).off+4,none⟩=some (.int .i64 r.zone)∧w.cell? ⟨(ad.add (j*7)).block,(ad.add (j*7)).off+5,none⟩=some (.int .i64 r.off) ∧
   w.cell? ⟨(ad.add (j*7)).block,(ad.add (j*7)).off+6,none⟩=some (.slice Ad r.data.length cd):=by
 obtain ⟨ad,es,hA,hKad,hes,hcell⟩:=h.at_ hj;have hok:=zho hes;obtain ⟨vd,rfl,hvd,_⟩:=hes;obtain ⟨Ad,cd,rfl,_⟩:=aK hvd;have hsz7:Rp.rc.size=7:=rfl;rw [hsz7] at hcell;refine ⟨ad,Ad,cd,hA,hKad,hvd,hok,?_,?_,?_,?_,?_,?_,?_⟩
 · rw [←cW (ad.add (j*7))];exact hcell 0 _ rfl
 · rw [←bT _ 1 (by decide)];exact hcell 1 _ rfl
 · rw [←bT _ 2 (by decide)];exact hcell 2 _ rfl
 · rw [←bT _ 3 (by decide)];exact hcell 3 _ rfl
 · rw [←bT _ 4 (by decide)];exact hcell 4 _ rfl
 · rw [←bT _ 5 (by decide)];exact hcell 5 _ rfl
 · rw [←bT _ 6 (by decide)];exact hcell 6 _ rfl
end Go.Proofs.YtcapmeefiglfjaaGreat
namespace Go.Proofs.YtcapmeefiglfjaaGreat
open Go.RowKit Go.WideShapes Go.ChangeShapes Go.Deep
end Go.Proofs.YtcapmeefiglfjaaGreat
namespace Go.Proofs.YtcapmeefiglfjaaGreat
open Go.RowKit
theorem aB.ownRc {base:Nat} {e:TypeId} {X:Nat→Prop} {v:Value} {l:List Rc}:aB (fun w=>eA Rp.rc w base e X v l):=fun _ _ h hb=>eA.step h hb
theorem aB.ownI {base:Nat} {e:TypeId} {size n:Nat} {v:Value} {xs:List Value}:aB (fun w=>w.ownsRow base e size v n xs):=fun _ _ h hb=>aD h hb (zic _)
theorem zgu (v lv:Value) (p:Pk) (l:List Rc) (K K':Nat→Prop) (w:World) (hv:ze8 w K v p) (hK:∀ b,K b→b<w.heap.size) (hp:zbE p) (hl:IsL Rp.rc w K' lv l) (hll:l.length≤100000000) :
 Calls Tryz.prog 153 #[v,lv] w fun e w'=>∃ pv A c,e=.returned (.tuple #[pv,.slice A (fX p l).2.1.length c,.int .i64 (fX p l).2.2])∧ze8 w' (fun b=>b<w'.heap.size∧(K b∨w.heap.size≤b)) pv (fX p l).1 ∧
  w'.ownsRow w.heap.size 3 1 (.slice A (fX p l).2.1.length c) (fX p l).2.1.length ((fX p l).2.1.map I64)∧Below w.heap.size w w':=by
 have hpk:=hp;obtain ⟨vb,vl,rfl,hb,hpl⟩:=hv;obtain ⟨_,_,hcap,hat,hbl,hpll⟩:=hp;have hok:=zdc hl;have hb0:=hb;have hpl0:=hpl;have hl0:=hl;obtain ⟨A,c,rfl,hbr,hbc,hbc2,_⟩:=hb;obtain ⟨A2,c2,rfl,hlc,hlc2⟩:=hpl.form;obtain ⟨Al,cl,rfl,hlc3,hlc4⟩:=hl.form;obtain ⟨i0,hi,hz0,hz1,hz2⟩:=ziH Tryz.info5;obtain ⟨i1,hi1,hy0,hy1,hy2⟩:=ziH Tryz.infInt;unfold pkV;go_enter Tryz.func153,Tryz.ntmps153
 go_wp2_with fail;go_loopw [7,8,17] (fun v7 v8 i wr=>zhW w wr p (.slice A p.buf.length c) (.slice A2 p.l.length c2) l v7 v8 i) (fun _ _ i _=>l.length-(intOf i).toNat)
 case atStart=>
  refine ⟨0,none,0,none,0,rfl,zir _,rfl,rfl,zin _ _ _ _,zin _ _ _ _,rfl,?_,?_,(zBA).alloc (by simp) _⟩
  · exact (Blk.new w _ _ rfl).alloc _
  · have:=Blk.new (w.alloc (.cells (pkC p (.slice A p.buf.length c) (.slice A2 p.l.length c2)) 34)) 34 #[.int .i64 0,.int .i64 0,.int .i64 0,.int .i64 0,.int .i64 0,.int .i64 0,.slice none 0 0,.slice none 0 0] rfl
    simpa using this
 case round=>
  obtain ⟨j,A7,c7,A8,c8,rfl,hj,rfl,rfl,own7,own8,herr,C0,C1,hbw⟩:=hrel;have hsz:=hbw.size;by_cases hlt:j<l.length
  · obtain ⟨ad,es,hA,hKad,hes,hcell⟩:=(hl0.step hbw).at_ (zib hlt)
    subst hA;have hjr:l[j]?=some l[j]:=zib hlt;have hokr:=hok l[j] (ziD hlt);generalize l[j]=r at hjr hokr hes;obtain ⟨vd,rfl,hvd,_⟩:=hes;have hsz7:Rp.rc.size=7:=rfl;rw [hsz7] at hcell;have hc0:wr.cell? (ad.add (j*7))=some (.int .i64 r.kind):=by rw [←cW (ad.add (j*7))];exact hcell 0 _ rfl
    have hc1:wr.cell? ⟨(ad.add (j*7)).block,(ad.add (j*7)).off+1,none⟩=some (.int .i64 r.lba):=by rw [←bT _ 1 (by decide)];exact hcell 1 _ rfl
    have hc2:wr.cell? ⟨(ad.add (j*7)).block,(ad.add (j*7)).off+2,none⟩=some (.int .i64 r.n):=by rw [←bT _ 2 (by decide)];exact hcell 2 _ rfl
    have hc3:wr.cell? ⟨(ad.add (j*7)).block,(ad.add (j*7)).off+3,none⟩=some (.int .i64 r.ver):=by rw [←bT _ 3 (by decide)];exact hcell 3 _ rfl
    have hc4:wr.cell? ⟨(ad.add (j*7)).block,(ad.add (j*7)).off+4,none⟩=some (.int .i64 r.zone):=by rw [←bT _ 4 (by decide)];exact hcell 4 _ rfl
    have hc5:wr.cell? ⟨(ad.add (j*7)).block,(ad.add (j*7)).off+5,none⟩=some (.int .i64 r.off):=by rw [←bT _ 5 (by decide)];exact hcell 5 _ rfl
    have hc6:wr.cell? ⟨(ad.add (j*7)).block,(ad.add (j*7)).off+6,none⟩=some vd:=by rw [←bT _ 6 (by decide)];exact hcell 6 _ rfl
    clear hcell;obtain ⟨Ad,cd,rfl,hdl⟩:=aK hvd;have E:=(((((Kn.start wr).give aB.bytes hvd).give aB.ownI own7).give aB.ownI own8).know C0).know C1;replace E:=E.push 117 #[.int .i64 r.kind,.int .i64 r.lba,.int .i64 r.n,.int .i64 r.ver,.int .i64 r.zone,.int .i64 r.off,.slice Ad r.data.length cd];have hrec:=fun W h=>yL r (.slice Ad r.data.length cd) K' W hokr h
    unfold rcV at hrec;have hrl:=kU hokr;have HERR:=fun h1=>zdq l hjr herr h1
    have hE2:eY (l.take (j+1))=(recL r).2:=by rw [iP l hjr,vO,zig (by simp [herr])]
    have hF2:cH (l.take (j+1))=cH (l.take j)++(recL r).1:=by rw [iP l hjr,zcC]
    have hP2:pW (p.at_+p.buf.length) (l.take (j+1))=pW (p.at_+p.buf.length) (l.take j)++[p.at_+p.buf.length+(cH (l.take j)).length+(recL r).1.length-4-r.data.length]:=by rw [iP l hjr,zcF]
    have hfl:(cH (l.take j)).length≤40030*j:=by
     have:=lB (l:=l.take j) (fun x hx=>hok x (zjh hx))
     rw [zio] at this;omega
    obtain ⟨y,hy⟩:∃ y,recL r=y:=⟨_,rfl⟩;rw [hy] at hrec hrl HERR hE2 hF2 hP2;obtain ⟨fb,fe⟩:=y;simp only at hrec hrl HERR hE2 hF2 hP2;have HE2:=zia hE2;have HF2:=zia hF2;have HP2:=zia hP2;have HE:=zia HERR;have HJ:=zia hjr;clear hy hE2 hF2 hP2 HERR hjr own7 own8 C0 C1 hvd hKad herr;go_wp2_with fail;refine (hrec _ (E.get m2)).mono ?_;rintro e w4 ⟨A4,c4,rfl,own4,hb4⟩;replace E:=E.step hb4;obtain ⟨q0,f0,t0⟩:=E.rules m0;obtain ⟨q1,f1,t1⟩:=E.rules m1;obtain ⟨q2,f2,t2⟩:=E.rules m2;by_cases hfe:fe=0
    · subst hfe
      obtain ⟨hr1,hr2⟩:=hrl;obtain ⟨hr3,hr4⟩:=hr2 rfl;have own8:=E.get m0;have own7:=E.get m1;have C0:=E.at_ m2;have C1:=E.at_ m1;have hs4:=E.below.size;have hb5:=hbw.trans (E.below.mono hsz);clear E;go_wp2_with (first
       | (at_builtin;refine dB rfl _ _ _ rfl (w.heap.size+2) 3 i1 _ 8 Tryz.underlying113 hi1 hy0 hy1 hy2 rfl rfl own7 rfl rfl rfl (by simp only [maxLen];omega) (by omega) (by omega) ?_
          intro A5 c5 w5 own5 hg5;have own8':=fG own8 own7 (by decide) hg5
          have own4':=fG own4 own7 (by decide) hg5
          have hr4':=aG.of_own own4';have D0:=C0.grew own7 (by decide) hg5
          have D1:=C1.grew own7 (by decide) hg5
          have hs5:=hg5.below.size)
       | (at_builtin;refine aF rfl _ _ _ rfl (w.heap.size+2) 5 i0 _ 1 1 Tryz.underlying31 hi hz0 hz1 hz2 rfl (by omega) rfl own8' rfl hr4' (aW fb) (by simp only [maxLen];omega) (by omega) (by omega) ?_
          intro A6 c6 w6 own6 hg6))
      refine ⟨⟨j+1,A5,c5,A6,c6,by go_num,by omega,rfl,?_,?_,?_,HE2.out,D0.grew own8' (by decide) hg6,D1.grew own8' (by decide) hg6,hb5.trans ((hg5.below.mono (by omega)).trans (hg6.below.mono (by omega)))⟩,by simp [intOf];omega⟩
      · rw [HF2.out,zie]
      · rw [HP2.out,ziZ]
        exact fG own5 own8' (by decide) hg6
      · rw [HF2.out,zie,aZ]
        exact own6
    · have hfe':((fe:Int) != 0)=true:=by simp [hfe]
      have C1:=E.at_ m1;have hb5:=E.below;clear E;go_wp2_with fail;have h8:=fK C1 (.int .i64 0) (.int .i64 0) (.int .i64 0) (.int .i64 0) (.int .i64 0) (.int .i64 0) (.slice none 0 0) (.slice none 0 0);unfold st8 at h8;obtain ⟨B8,T8⟩:=h8;generalize ((((((((w4.setCell ⟨w.heap.size+1,0,none⟩ (.int .i64 0)).setCell ⟨w.heap.size+1,1,none⟩ (.int .i64 0)).setCell ⟨w.heap.size+1,2,none⟩ (.int .i64 0)).setCell ⟨w.heap.size+1,3,none⟩ (.int .i64 0)).setCell ⟨w.heap.size+1,4,none⟩ (.int .i64 0)).setCell ⟨w.heap.size+1,5,none⟩ (.int .i64 0)).setCell ⟨w.heap.size+1,6,none⟩ (.slice none 0 0)).setCell ⟨w.heap.size+1,7,none⟩ (.slice none 0 0))=w9 at B8 T8 ⊢;have hb9:=aV (hbw.trans (hb5.mono hsz)) T8 (by omega) (by have:=hb5.size;omega)
      obtain ⟨q9,f9⟩:=B8.rules;refine zik (v:=.tuple #[.agg #[.int .i64 0,.int .i64 0,.int .i64 0,.int .i64 0,.int .i64 0,.int .i64 0,.slice none 0 0,.slice none 0 0],.slice none 0 0,.int .i64 fe]) (by simp [results,Tryz.results153,go_sem,q9]) rfl ?_
      rw [zg8 p (HE.out hfe) hfe];exact ⟨_,none,0,rfl,vU _ _,zin _ _ _ _,hb9⟩
  · obtain rfl:j=l.length:=by omega
    rw [ziQ] at own7 own8 herr;have hfl:(cH l).length≤40030*l.length:=lB hok;have haddF:=zen p herr;have haddO:=zae p herr;rw [show (List.take l.length l)=l from ziQ];clear herr;generalize hmb:cH l=mb at own8 hfl haddF haddO;have HMB:=zia hmb;clear hmb;obtain ⟨q0,f0⟩:=C0.rules;have hpkw:ze8 wr K (.agg (pkC p (.slice A p.buf.length c) (.slice A2 p.l.length c2))) p:=⟨_,_,rfl,hb0.step hbw,hpl0.step hbw⟩;go_wp2_with fail;refine (sE _ p K wr hpkw hpk).mono ?_;rintro e w2 ⟨rfl,hb2⟩;have E:=(((((Kn.start wr).give aB.bytes (hb0.step hbw)).give aB.list (hpl0.step hbw)).give aB.ownI own7).give aB.ownI own8).know C0 |>.know C1 |>.step hb2
    have hb3:=hbw.trans (hb2.mono hsz);clear own7 own8 C0 C1 hpkw q0 f0;obtain ⟨q0,f0,t0⟩:=E.rules m1;obtain ⟨q1,f1,t1⟩:=E.rules m0;by_cases hf:gT p<(mb.length:Int)
    · have C1:=E.at_ m0
      have hsz2:=hb3.size;clear E;go_wp2_with fail;have h8:=fK C1 (.int .i64 0) (.int .i64 0) (.int .i64 0) (.int .i64 0) (.int .i64 0) (.int .i64 0) (.slice none 0 0) (.slice none 0 0);unfold st8 at h8;obtain ⟨B8,T8⟩:=h8;generalize ((((((((w2.setCell ⟨w.heap.size+1,0,none⟩ (.int .i64 0)).setCell ⟨w.heap.size+1,1,none⟩ (.int .i64 0)).setCell ⟨w.heap.size+1,2,none⟩ (.int .i64 0)).setCell ⟨w.heap.size+1,3,none⟩ (.int .i64 0)).setCell ⟨w.heap.size+1,4,none⟩ (.int .i64 0)).setCell ⟨w.heap.size+1,5,none⟩ (.int .i64 0)).setCell ⟨w.heap.size+1,6,none⟩ (.slice none 0 0)).setCell ⟨w.heap.size+1,7,none⟩ (.slice none 0 0))=w9 at B8 T8 ⊢;have hb9:=aV hb3 T8 (by omega) (by omega)
      obtain ⟨q9,f9⟩:=B8.rules;refine zik (v:=.tuple #[.agg #[.int .i64 0,.int .i64 0,.int .i64 0,.int .i64 0,.int .i64 0,.int .i64 0,.slice none 0 0,.slice none 0 0],.slice none 0 0,.int .i64 40]) (by simp [results,Tryz.results153,go_sem,q9]) rfl ?_
      rw [haddF hf];exact ⟨_,none,0,rfl,vU _ _,zin _ _ _ _,hb9⟩
    · have hpkw:ze8 w2 K (.agg (pkC p (.slice A p.buf.length c) (.slice A2 p.l.length c2))) p:=⟨_,_,rfl,E.get m3,E.get m2⟩
      have hsz2:=hb3.size;have HO:=zia (haddO (by omega))
      clear haddO haddF;go_wp2_with fail;refine (vD _ p K w2 hpkw (fun b hb=>by have:=hK b hb;omega) hbl hpll).mono ?_
      rintro e w4 ⟨A5,c5,A6,c6,rfl,own5,own6,hb4⟩;unfold pkV;replace E:=E.step hb4;have hsz3:w.heap.size+2≤w2.heap.size:=by omega
      clear q0 f0 t0 q1 f1 t1;obtain ⟨q0,f0,t0⟩:=E.rules m1;go_upto_region 15 with fail;have h8:=fK (E.at_ m1) (.int .i64 p.h.host) (.int .i64 p.h.epoch) (.int .i64 p.h.seq) (.int .i64 p.zone) (.int .i64 p.cap) (.int .i64 p.at_) (.slice A5 p.buf.length c5) (.slice A6 p.l.length c6);unfold st8 at h8;obtain ⟨B8,T8⟩:=h8;have C1:=(E.at_ m0).turned T8 (by omega)
      have own7:=aH (E.get m1) T8 (by omega)
      have own8:=aH (E.get m0) T8 (by omega)
      have ownB:=aO (aH own5 T8 (by omega)) hsz3
      have own6':=((own6.turned T8 (fun b hb=>by have:=hK b hb;omega) (fun b hb=>by omega)).lower hsz3).more (X':=fun b=>(b≠w.heap.size∧b≠w.heap.size+1∧(K b∨w.heap.size+2≤b))∧some b≠(Value.slice A5 p.buf.length c5).ownBlock) (fun b hb _=>by have:=hK b hb;exact ⟨⟨by omega,by omega,.inl hb⟩,fun e=>by have:=(ownB.lt b e.symm).1;omega⟩)
      have hb5:=aV (hb3.trans (hb4.mono hsz2)) T8 (zic _) (by have:=hb4.size;omega)
      clear E own5 own6 T8 f0 q0 t0 hpkw;generalize ((((((((w4.setCell ⟨w.heap.size,0,none⟩ (.int .i64 p.h.host)).setCell ⟨w.heap.size,1,none⟩ (.int .i64 p.h.epoch)).setCell ⟨w.heap.size,2,none⟩ (.int .i64 p.h.seq)).setCell ⟨w.heap.size,3,none⟩ (.int .i64 p.zone)).setCell ⟨w.heap.size,4,none⟩ (.int .i64 p.cap)).setCell ⟨w.heap.size,5,none⟩ (.int .i64 p.at_)).setCell ⟨w.heap.size,6,none⟩ (.slice A5 p.buf.length c5)).setCell ⟨w.heap.size,7,none⟩ (.slice A6 p.l.length c6))=w5 at B8 C1 own7 own8 ownB own6' hb5 ⊢;go_wp2_with fail;go_loopw [64] (fun i wr=>zi6 K w wr p (.slice A5 p.buf.length c5) l (.slice A7 l.length c7) (.slice A8 mb.length c8) i) (fun i _=>l.length-(intOf i).toNat)
      case atStart=>
       refine ⟨0,A6,c6,rfl,zir _,B8,?_,own7,?_,ownB,C1,hb5⟩
       · rw [List.take_zero,ziz];exact own6'
       · rw [HMB.out];exact own8
      case round=>
       obtain ⟨j,A6,c6,rfl,hj,C0,ownL,own7,own8,ownB,C1,hbw⟩:=hrel;have hsz:=hbw.size;by_cases hlt:j<l.length
       · obtain ⟨ad,es,hA,hKad,hes,hcell⟩:=(hl0.step hbw).at_ (zib hlt)
         subst hA;have hjr:l[j]?=some l[j]:=zib hlt;have hokr:=hok l[j] (ziD hlt);generalize l[j]=r at hjr hokr hes;obtain ⟨vd,rfl,hvd,hnums⟩:=hes;have hsz7:Rp.rc.size=7:=rfl;rw [hsz7] at hcell;have hc0:wr.cell? (ad.add (j*7))=some (.int .i64 r.kind):=by rw [←cW (ad.add (j*7))];exact hcell 0 _ rfl
         have hc1:wr.cell? ⟨(ad.add (j*7)).block,(ad.add (j*7)).off+1,none⟩=some (.int .i64 r.lba):=by rw [←bT _ 1 (by decide)];exact hcell 1 _ rfl
         have hc2:wr.cell? ⟨(ad.add (j*7)).block,(ad.add (j*7)).off+2,none⟩=some (.int .i64 r.n):=by rw [←bT _ 2 (by decide)];exact hcell 2 _ rfl
         have hc3:wr.cell? ⟨(ad.add (j*7)).block,(ad.add (j*7)).off+3,none⟩=some (.int .i64 r.ver):=by rw [←bT _ 3 (by decide)];exact hcell 3 _ rfl
         have hc4:wr.cell? ⟨(ad.add (j*7)).block,(ad.add (j*7)).off+4,none⟩=some (.int .i64 r.zone):=by rw [←bT _ 4 (by decide)];exact hcell 4 _ rfl
         have hc5:wr.cell? ⟨(ad.add (j*7)).block,(ad.add (j*7)).off+5,none⟩=some (.int .i64 r.off):=by rw [←bT _ 5 (by decide)];exact hcell 5 _ rfl
         have hc6:wr.cell? ⟨(ad.add (j*7)).block,(ad.add (j*7)).off+6,none⟩=some vd:=by rw [←bT _ 6 (by decide)];exact hcell 6 _ rfl
         clear hcell;obtain ⟨Ad,cd,rfl,hdl⟩:=aK hvd;obtain ⟨q,hq⟩:∃ q,p.l++l.take j=q:=⟨_,rfl⟩;have hqn:q.length=p.l.length+j:=by rw [←hq,zie,zio];omega
         have hqs:p.l++l.take (j+1)=q++[r]:=by rw [iP l hjr,←ziq,hq]
         rw [hq,←hqn] at ownL;rw [←hqn] at C0;have hq12:q.length≤1100000000000:=by omega
         have HQN:=zia hqn;have HQS:=zia hqs;have HN:=zia hnums;clear hq hqn hqs hnums hjr;replace ownL:=ownL.more (X':=fun b=>((b≠w.heap.size∧b≠w.heap.size+1∧(K b∨w.heap.size+2≤b))∧some b≠(Value.slice A5 p.buf.length c5).ownBlock)∧b<wr.heap.size) (fun b hb hl=>⟨hb,hl⟩)
         have E:=(((((((Kn.start wr).give aB.bytes hvd).give aB.ownI own7).give aB.ownI own8).give aB.ownI ownB).give aB.ownRc ownL).know C0).know C1;replace E:=E.push 117 #[.int .i64 r.kind,.int .i64 r.lba,.int .i64 r.n,.int .i64 r.ver,.int .i64 r.zone,.int .i64 r.off,.slice Ad r.data.length cd];have hLlt:=ownL.lt;have h7lt:=own7.lt;have h8lt:=own8.lt;have hBlt:=ownB.lt;have hlt0:=C0.lt;have hlt1:=C1.lt;clear own7 own8 ownB ownL C0 C1;go_wp2_with fail;refine (cE _ r.data K' _ (E.get m4)).mono ?_;rintro e w4 ⟨A4,c4,rfl,own4,hb4⟩;replace E:=E.step hb4;obtain ⟨q0,f0,t0⟩:=E.rules m0;go_upto_region 19 with fail;simp only [zid] at own4;have Bg:=(E.at_ m0).set_ 6 (.slice A4 r.data.length c4);have D0:=(E.at_ m2).far (p:=⟨wr.heap.size,6,none⟩) (by simp;omega) (.slice A4 r.data.length c4)
         have D1:=(E.at_ m1).far (p:=⟨wr.heap.size,6,none⟩) (by simp;omega) (.slice A4 r.data.length c4)
         have own7:=bS (g:=wr.heap.size) (E.get m3) (fun e=>by have:=(h7lt _ e).2;omega) 6 (.slice A4 r.data.length c4)
         have own8:=bS (g:=wr.heap.size) (E.get m2) (fun e=>by have:=(h8lt _ e).2;omega) 6 (.slice A4 r.data.length c4)
         have ownB:=bS (g:=wr.heap.size) (E.get m1) (fun e=>by have:=(hBlt _ e).2;omega) 6 (.slice A4 r.data.length c4)
         have ownL:=eA.far' (g:=wr.heap.size) (E.get m0) (fun e=>by have:=(hLlt _ e).2;omega) (fun h=>by have:=h.2;omega) 6 (.slice A4 r.data.length c4)
         have ownD:=bS (g:=wr.heap.size) own4 (fun e=>by have:=(own4.lt _ e).1;omega) 6 (.slice A4 r.data.length c4)
         have hb5:Below w.heap.size w (w4.setCell ⟨wr.heap.size,6,none⟩ (.slice A4 r.data.length c4)):=Below.setCell (hbw.trans (E.below.mono hsz)) hsz _;have hs5:wr.heap.size≤(w4.setCell ⟨wr.heap.size,6,none⟩ (.slice A4 r.data.length c4)).heap.size:=by simpa [World.setCell] using E.below.size
         clear E q0 f0 t0 own4;generalize w4.setCell ⟨wr.heap.size,6,none⟩ (.slice A4 r.data.length c4)=w5 at Bg D0 D1 own7 own8 ownB ownL ownD hb5 hs5 ⊢;obtain ⟨q0,f0⟩:=D0.rules;obtain ⟨q1,f1⟩:=Bg.rules;have t0:=D0.lt;obtain ⟨i7,hi7,hx0,hx1,hx2⟩:=ziH Tryz.infR;obtain ⟨_,cs,hown,hcl⟩:=ownL.open_;have hst:Below w5.heap.size w5 (w5.alloc (.cells #[.int .i64 r.kind,.int .i64 r.lba,.int .i64 r.n,.int .i64 r.ver,.int .i64 r.zone,.int .i64 r.off,.slice A4 r.data.length c4] 117)):=zBA;have hown':=aD hown hst (zic _);have hrn:aG (w5.alloc (.cells #[.int .i64 r.kind,.int .i64 r.lba,.int .i64 r.n,.int .i64 r.ver,.int .i64 r.zone,.int .i64 r.off,.slice A4 r.data.length c4] 117)) (fun b=>b=w5.heap.size) 7 (some ⟨w5.heap.size,0,none⟩) 1 [.int .i64 r.kind,.int .i64 r.lba,.int .i64 r.n,.int .i64 r.ver,.int .i64 r.zone,.int .i64 r.off,.slice A4 r.data.length c4]:=aG.new rfl rfl rfl
         go_wp2_with (first
          | (at_builtin;go_must (refine aF rfl _ _ _ rfl (w.heap.size+2) 117 i7 _ 7 72 Tryz.underlying32 hi7 hx0 hx1 hx2 rfl (by omega) rfl hown' rfl hrn (by simp [Value.oneCell']) (by simp only [maxLen];omega) (by omega) (by simp;omega) ?_);intro A8' c8' w6 own6 hg6
             have D0':=(D0.step hst).grew hown' (by decide) hg6
             have D1':=(D1.step hst).grew hown' (by decide) hg6
             have own7':=fG (aD own7 hst (zic _)) hown' (by decide) hg6
             have own8':=fG (aD own8 hst (zic _)) hown' (by decide) hg6
             have ownB':=fG (aD ownB hst (zic _)) hown' (by decide) hg6
             obtain ⟨q6,f6⟩:=D0'.rules;have t6:=D0'.lt))
         have hs6:=hg6.below.size;have hsa:(w5.alloc (.cells #[.int .i64 r.kind,.int .i64 r.lba,.int .i64 r.n,.int .i64 r.ver,.int .i64 r.zone,.int .i64 r.off,.slice A4 r.data.length c4] 117)).heap.size=w5.heap.size+1:=zid ..;have hcl':=(hcl.step hst).more (K':=fun b=>((b≠w.heap.size∧b≠w.heap.size+1∧(K b∨w.heap.size+2≤b))∧some b≠(Value.slice A5 p.buf.length c5).ownBlock)∧b<(w5.alloc (.cells #[.int .i64 r.kind,.int .i64 r.lba,.int .i64 r.n,.int .i64 r.ver,.int .i64 r.zone,.int .i64 r.off,.slice A4 r.data.length c4] 117)).heap.size∧some b≠(Value.slice A6 q.length c6).ownBlock) (fun b hb=>⟨hb.1.1,by rw [hsa];omega,hb.2.2⟩)
         have ownD':=aD ownD hst (zic _);have hDB:Rp.rc.is (w5.alloc (.cells #[.int .i64 r.kind,.int .i64 r.lba,.int .i64 r.n,.int .i64 r.ver,.int .i64 r.zone,.int .i64 r.off,.slice A4 r.data.length c4] 117)) (fun b=>((b≠w.heap.size∧b≠w.heap.size+1∧(K b∨w.heap.size+2≤b))∧some b≠(Value.slice A5 p.buf.length c5).ownBlock)∧b<(w5.alloc (.cells #[.int .i64 r.kind,.int .i64 r.lba,.int .i64 r.n,.int .i64 r.ver,.int .i64 r.zone,.int .i64 r.off,.slice A4 r.data.length c4] 117)).heap.size∧some b≠(Value.slice A6 q.length c6).ownBlock) [.int .i64 r.kind,.int .i64 r.lba,.int .i64 r.n,.int .i64 r.ver,.int .i64 r.zone,.int .i64 r.off,.slice A4 r.data.length c4] r:=by
          refine ⟨_,rfl,⟨A4,c4,rfl,(aG.of_own ownD').more (fun b hb=>?_),cD ownD',bF ownD',hdl⟩,HN.out⟩
          have h1:=ownD'.lt b hb.symm;exact ⟨⟨⟨by omega,by omega,.inr (by omega)⟩,fun e=>by have:=(hBlt b e.symm).2;omega⟩,h1.2,fun e=>by have:=(hLlt b e.symm).2;omega⟩
         have hpush:=eA.push hcl' hDB own6 hg6;rw [←HQS.out] at hpush;refine ⟨⟨j+1,A8',c8',by go_num,by omega,?_,?_,bS (g:=w.heap.size) own7' (fun e=>by have:=(own7'.lt _ e).1;omega) 7 _,bS (g:=w.heap.size) own8' (fun e=>by have:=(own8'.lt _ e).1;omega) 7 _,bS (g:=w.heap.size) ownB' (fun e=>by have:=(ownB'.lt _ e).1;omega) 7 _,D1'.far (p:=⟨w.heap.size,7,none⟩) (by simp) _,Below.setCell (hb5.trans ((hst.mono (by omega)).trans (hg6.below.mono (by omega)))) (zic _) _⟩,by simp [intOf];omega⟩
         · rw [show p.l.length+(j+1)=q.length+1 by have:=HQN.out;omega]
           exact zhR D0' _
         · rw [show p.l.length+(j+1)=q.length+1 by have:=HQN.out;omega]
           exact eA.far' (g:=w.heap.size) hpush (fun e=>by have:=(hpush.lt _ e).1;omega) (fun h=>h.1.1 rfl) 7 _
       · obtain rfl:j=l.length:=by omega
         rw [ziQ] at ownL;rw [HMB.out] at own8;have hr8:=aG.of_own own8;obtain ⟨q0,f0⟩:=C0.rules;have t0:=C0.lt;have hbs:=hbw.size;have hBne:∀ b,((b≠w.heap.size∧b≠w.heap.size+1∧(K b∨w.heap.size+2≤b))∧some b≠(Value.slice A5 p.buf.length c5).ownBlock)→some b≠(Value.slice A5 p.buf.length c5).ownBlock:=fun b h=>h.2
         go_upto_region 22 with (at_builtin;go_must (refine aF rfl _ _ _ rfl (w.heap.size+2) 5 i0 _ 1 1 Tryz.underlying31 hi hz0 hz1 hz2 rfl (by omega) rfl ownB rfl hr8 (aW mb) (by simp only [maxLen];omega) (by omega) (by have:=C1.lt;omega) ?_);intro A9 c9 w6 own9 hg9;have D0:=C0.grew ownB (by decide) hg9;obtain ⟨q6,f6⟩:=D0.rules;have t6:=D0.lt)
         have D1:=C1.grew ownB (by decide) hg9
         have own7':=fG own7 ownB (by decide) hg9
         have ownL':=ownL.grew ownB (by decide) hBne hg9
         have hs9:=hg9.below.size;have hb9:=hbw.trans (hg9.below.mono (show w.heap.size≤w.heap.size+2 by omega))
         have F0:=zhT D0 (.slice A9 (p.buf.length+mb.length) c9);have F1:=D1.far (p:=⟨w.heap.size,6,none⟩) (by simp) (.slice A9 (p.buf.length+mb.length) c9)
         have own7:=bS (g:=w.heap.size) own7' (fun e=>by have:=(own7'.lt _ e).1;omega) 6 (.slice A9 (p.buf.length+mb.length) c9)
         have own9':=bS (g:=w.heap.size) own9 (fun e=>by have:=(own9.lt _ e).1;omega) 6 (.slice A9 (p.buf.length+mb.length) c9)
         have ownL:=eA.far' (g:=w.heap.size) ownL' (fun e=>by have:=(ownL'.lt _ e).1;omega) (fun h=>h.1.1 rfl) 6 (.slice A9 (p.buf.length+mb.length) c9)
         have hb7:Below w.heap.size w (w6.setCell ⟨w.heap.size,6,none⟩ (.slice A9 (p.buf.length+mb.length) c9)):=hb9.setCell (zic _) _;have hs7:w.heap.size≤(w6.setCell ⟨w.heap.size,6,none⟩ (.slice A9 (p.buf.length+mb.length) c9)).heap.size:=by simpa [World.setCell] using hb9.size
         clear own8 ownB own9 own7' ownL' D0 D1 C0 C1 q0 f0 t0 q6 f6 t6 hr8 hb9 hs9 hg9;generalize w6.setCell ⟨w.heap.size,6,none⟩ (.slice A9 (p.buf.length+mb.length) c9)=w7 at F0 F1 own7 own9' ownL hb7 hs7 ⊢;obtain ⟨q0,f0⟩:=F0.rules;obtain ⟨q1,f1⟩:=F1.rules;have t0:=F0.lt;have t1:=F1.lt;go_wp2_with fail;have h8:=fK F1 (.int .i64 p.h.host) (.int .i64 p.h.epoch) (.int .i64 p.h.seq) (.int .i64 p.zone) (.int .i64 p.cap) (.int .i64 p.at_) (.slice A9 (p.buf.length+mb.length) c9) (.slice A6 (p.l.length+l.length) c6);unfold st8 at h8;obtain ⟨B8,T8⟩:=h8;have own7b:=aH own7 T8 (by omega)
         have own9b:=aH own9' T8 (by omega)
         have ownLb:=eA.turned ownL T8 (fun b hb=>hb.1.2.1) (fun b hb=>by omega)
         have hb10:=aV hb7 T8 (by omega) hs7
         generalize ((((((((w7.setCell ⟨w.heap.size+1,0,none⟩ (.int .i64 p.h.host)).setCell ⟨w.heap.size+1,1,none⟩ (.int .i64 p.h.epoch)).setCell ⟨w.heap.size+1,2,none⟩ (.int .i64 p.h.seq)).setCell ⟨w.heap.size+1,3,none⟩ (.int .i64 p.zone)).setCell ⟨w.heap.size+1,4,none⟩ (.int .i64 p.cap)).setCell ⟨w.heap.size+1,5,none⟩ (.int .i64 p.at_)).setCell ⟨w.heap.size+1,6,none⟩ (.slice A9 (p.buf.length+mb.length) c9)).setCell ⟨w.heap.size+1,7,none⟩ (.slice A6 (p.l.length+l.length) c6))=w9 at B8 own7b own9b ownLb hb10 ⊢;obtain ⟨q9,f9⟩:=B8.rules;refine zik (v:=.tuple #[.agg #[.int .i64 p.h.host,.int .i64 p.h.epoch,.int .i64 p.h.seq,.int .i64 p.zone,.int .i64 p.cap,.int .i64 p.at_,.slice A9 (p.buf.length+mb.length) c9,.slice A6 (p.l.length+l.length) c6],.slice A7 l.length c7,.int .i64 0]) (by simp [results,Tryz.results153,go_sem,q9]) rfl ?_
         rw [HO.out];have hlp:=sF l (p.at_+p.buf.length);rw [←aZ] at own9b;refine ⟨pkV ⟨p.h,p.zone,p.cap,p.at_,p.buf++mb,p.l++l⟩ (.slice A9 (p.buf.length+mb.length) c9) (.slice A6 (p.l.length+l.length) c6),A7,c7,by rw [hlp];rfl,⟨_,_,rfl,?_,?_⟩,by rw [hlp];exact aO own7b (by omega),hb10⟩
         · refine ⟨A9,c9,by rw [zie],?_,?_,bF own9b,?_⟩
           · rw [zie]
             exact (aG.of_own own9b).more (fun b hb=>⟨(own9b.lt b hb.symm).2,.inr (by have:=(own9b.lt b hb.symm).1;omega)⟩)
           · rw [zie]
             exact cD own9b
           · rw [zie]
             omega
         · have hll2:(p.l++l).length=p.l.length+l.length:=zie
           have:=eA.isLt (X':=fun b=>b<w9.heap.size∧(K b∨w.heap.size≤b)) ownLb (by rw [hll2];omega) (fun b h h2=>⟨h,.inr (by omega)⟩) (fun b h h2=>⟨h,h2.1.2.2.imp id (by omega)⟩)
           exact this
