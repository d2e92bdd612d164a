/- A part of the proof. -/
import Derived.Test.YthblkdnijhphhaaGreatRep
import Derived.Laws.CopyOwn
set_option maxRecDepth 100000
namespace Go.Proofs.YthblkdnijhphhaaGreat
open Go.RowKit Go.WideShapes Go.ChangeShapes Go.Deep
structure Oq where
 op:Int
 lba:Int
 n:Int
def Rp.oq:Rp Oq:=⟨3,fun _ _ cs o=>cs=[.int .i64 o.op,.int .i64 o.lba,.int .i64 o.n]∧(-9223372036854775808≤o.op∧o.op≤9223372036854775807)∧(-9223372036854775808≤o.lba∧o.lba≤9223372036854775807)∧(-9223372036854775808≤o.n∧o.n≤9223372036854775807),
 by rintro _ _ _ _ ⟨rfl,r0,r1,r2⟩;rfl,
 fun h _=>h,
 fun h _=>h,
 by
  rintro _ _ _ _ ⟨rfl,r0,r1,r2⟩ u hu;simp only [List.mem_cons,List.not_mem_nil,or_false] at hu;rcases hu with rfl | rfl | rfl <;> first | rfl | assumption⟩
theorem Tryz.cells_oq:Tryz.prog.cellsOf 42=3:=by kernel_rfl
theorem znE {H:Type} {enc:TypeId × Value→H} {w:World} {n:Nat} {cs:List Value} {x:DataW H × List MemPlace} (h:DataW.trod enc Tryz.prog w 0 (fun _=>true) true n 42 cs=some x) (hs:Small Tryz.prog 42 x.1) :
 ∃ o,Rp.oq.is w (· < w.heap.size) cs o:=by
 obtain ⟨xs,m,_,rfl,hlen,hl,hf⟩:=DataW.trod_struct Tryz.underlying42 h;rw [Tryz.cells_oq] at hlen;match cs,hlen,xs,hl with
 | [c0,c1,c2],_,[y0,y1,y2],_=>
   have g0:=hf 0 _ rfl;replace g0:DataW.trod enc Tryz.prog w 0 (fun _=>true) true m 3 [c0]=some y0:=by simpa [Tryz.ci] using g0
   obtain ⟨a0,e0,_,w0⟩:=DataW.trod_int Tryz.underlying3 g0;have b0:=bounds_i64 w0;have g1:=hf 1 _ rfl;replace g1:DataW.trod enc Tryz.prog w 0 (fun _=>true) true m 3 [c1]=some y1:=by simpa [Tryz.ci] using g1
   obtain ⟨a1,e1,_,w1⟩:=DataW.trod_int Tryz.underlying3 g1;have b1:=bounds_i64 w1;have g2:=hf 2 _ rfl;replace g2:DataW.trod enc Tryz.prog w 0 (fun _=>true) true m 3 [c2]=some y2:=by simpa [Tryz.ci] using g2
   obtain ⟨a2,e2,_,w2⟩:=DataW.trod_int Tryz.underlying3 g2;have b2:=bounds_i64 w2;simp only [List.cons.injEq,and_true] at e0 e1 e2;subst e0 e1 e2;exact ⟨⟨a0,a1,a2⟩,⟨rfl,⟨b0.1,b0.2⟩,⟨b1.1,b1.2⟩,⟨b2.1,b2.2⟩⟩⟩
theorem Tryz.bytes_oq:Tryz.prog.bytesOf 42=24:=by kernel_rfl
theorem zk7 {H:Type} {enc:TypeId × Value→H} {w:World} {n:Nat} {cs:List Value} {x:DataW H × List MemPlace} (h:DataW.trod enc Tryz.prog w 0 (fun _=>true) true n 22 cs=some x) (hs:Small Tryz.prog 22 x.1) :
 ∃ v l,cs=[v]∧IsL Rp.oq w (· < w.heap.size) v l∧l.length*24≤140737488351232:=by
 obtain ⟨v,l,e,hL,hb⟩:=zgS Rp.oq Tryz.underlying22 Tryz.cells_oq (by rw [Tryz.bytes_oq];decide) (by decide) h hs fun _ _ _ h s=>znE h s
 rw [Tryz.bytes_oq] at hb;exact ⟨v,l,e,hL,hb⟩
theorem zjp {H:Type} {enc:TypeId × Value→H} {w:World} {base:Nat} {v:Value} {d:DataW H} {p:List MemPlace} (hv:Value.okWide Tryz.prog w .any base 22 v) (h:DataW.Trod enc Tryz.prog w 0 (fun _=>true) true 22 v d p) (hs:Small Tryz.prog 22 d) :
 ∃ l,IsL Rp.oq w (· < w.heap.size) v l∧l.length*24≤140737488351232:=by
 obtain ⟨A,n,c,rfl⟩:=okWide_slice Tryz.underlying22 hv;obtain ⟨fuel,hf⟩:=h;obtain ⟨v',l,hcs,hB⟩:=zk7 hf hs;have:Value.slice A n c=v':=by simpa [Value.cells] using hcs
 rw [this];exact ⟨l,hB⟩
theorem zp2 {w:World} {K:Nat→Prop} {A:Option Addr} {n c:Nat} {l:List Oq} (h:IsL Rp.oq w K (.slice A n c) l) {j:Nat} {e:Oq} (hj:l[j]?=some e) :
 ∃ ad,A=some ad∧K ad.block∧w.cell? (ad.add (j*3))=some (.int .i64 e.op)∧w.cell? ⟨(ad.add (j*3)).block,(ad.add (j*3)).off+1,none⟩=some (.int .i64 e.lba)∧w.cell? ⟨(ad.add (j*3)).block,(ad.add (j*3)).off+2,none⟩=some (.int .i64 e.n) ∧
   (-9223372036854775808≤e.op∧e.op≤9223372036854775807)∧(-9223372036854775808≤e.lba∧e.lba≤9223372036854775807)∧(-9223372036854775808≤e.n∧e.n≤9223372036854775807):=by
 obtain ⟨ad,es,hA,hKad,⟨rfl,r0,r1,r2⟩,hcell⟩:=h.at_ hj;have hsz:Rp.oq.size=3:=rfl;rw [hsz] at hcell;refine ⟨ad,hA,hKad,?_,?_,?_,r0,r1,r2⟩
 · rw [←zbu (ad.add (j*3))];exact hcell 0 _ rfl
 · rw [←zaC _ 1 (by decide)];exact hcell 1 _ rfl
 · rw [←zaC _ 2 (by decide)];exact hcell 2 _ rfl
structure A2 where
 a:Int
 b:Int
def Rp.a2:Rp A2:=⟨2,fun _ _ cs o=>cs=[.int .i64 o.a,.int .i64 o.b]∧(-9223372036854775808≤o.a∧o.a≤9223372036854775807)∧(-9223372036854775808≤o.b∧o.b≤9223372036854775807),
 by rintro _ _ _ _ ⟨rfl,_⟩;rfl,
 fun h _=>h,
 fun h _=>h,
 by
  rintro _ _ _ _ ⟨rfl,_⟩ u hu;simp only [List.mem_cons,List.not_mem_nil,or_false] at hu;rcases hu with rfl | rfl <;> rfl⟩
theorem Tryz.cells_a2:Tryz.prog.cellsOf 51=2:=by kernel_rfl
theorem Tryz.ci2:Tryz.prog.cellsOf 3=1:=by kernel_rfl
theorem znz {H:Type} {enc:TypeId × Value→H} {w:World} {n:Nat} {cs:List Value} {x:DataW H × List MemPlace} (h:DataW.trod enc Tryz.prog w 0 (fun _=>true) true n 51 cs=some x) :
 ∃ o,Rp.a2.is w (· < w.heap.size) cs o:=by
 obtain ⟨xs,m,_,rfl,hlen,hl,hf⟩:=DataW.trod_array Tryz.underlying51 h;rw [Tryz.cells_a2] at hlen;match cs,hlen,xs,hl with
 | [c0,c1],_,[y0,y1],_=>
   have g0:=hf 0 (by omega)
   replace g0:DataW.trod enc Tryz.prog w 0 (fun _=>true) true m 3 [c0]=some y0:=by simpa [Tryz.ci2] using g0
   obtain ⟨a0,e0,_,w0⟩:=DataW.trod_int Tryz.underlying3 g0;have b0:=bounds_i64 w0;have g1:=hf 1 (by omega)
   replace g1:DataW.trod enc Tryz.prog w 0 (fun _=>true) true m 3 [c1]=some y1:=by simpa [Tryz.ci2] using g1
   obtain ⟨a1,e1,_,w1⟩:=DataW.trod_int Tryz.underlying3 g1;have b1:=bounds_i64 w1;simp only [List.cons.injEq,and_true] at e0 e1;subst e0 e1;exact ⟨⟨a0,a1⟩,rfl,⟨b0.1,b0.2⟩,⟨b1.1,b1.2⟩⟩
theorem Tryz.bytes_a2:Tryz.prog.bytesOf 51=16:=by kernel_rfl
theorem zkW {H:Type} {enc:TypeId × Value→H} {w:World} {n:Nat} {cs:List Value} {x:DataW H × List MemPlace} (h:DataW.trod enc Tryz.prog w 0 (fun _=>true) true n 23 cs=some x) (hs:Small Tryz.prog 23 x.1) :
 ∃ v l,cs=[v]∧IsL Rp.a2 w (· < w.heap.size) v l∧l.length*16≤140737488351232:=by
 obtain ⟨v,l,e,hL,hb⟩:=zgS Rp.a2 Tryz.underlying23 Tryz.cells_a2 (by rw [Tryz.bytes_a2];decide) (by decide) h hs fun _ _ _ h _=>znz h
 rw [Tryz.bytes_a2] at hb;exact ⟨v,l,e,hL,hb⟩
theorem zjD {H:Type} {enc:TypeId × Value→H} {w:World} {base:Nat} {v:Value} {d:DataW H} {p:List MemPlace} (hv:Value.okWide Tryz.prog w .any base 23 v) (h:DataW.Trod enc Tryz.prog w 0 (fun _=>true) true 23 v d p) (hs:Small Tryz.prog 23 d) :
 ∃ l,IsL Rp.a2 w (· < w.heap.size) v l∧l.length*16≤140737488351232:=by
 obtain ⟨A,n,c,rfl⟩:=okWide_slice Tryz.underlying23 hv;obtain ⟨fuel,hf⟩:=h;obtain ⟨v',l,hcs,hB⟩:=zkW hf hs;have:Value.slice A n c=v':=by simpa [Value.cells] using hcs
 rw [this];exact ⟨l,hB⟩
theorem zo2 {w:World} {K:Nat→Prop} {A:Option Addr} {n c:Nat} {l:List A2} (h:IsL Rp.a2 w K (.slice A n c) l) {j:Nat} {e:A2} (hj:l[j]?=some e) :
 ∃ ad,A=some ad∧K ad.block∧w.cell? (ad.add (j*2))=some (.int .i64 e.a)∧w.cell? ⟨(ad.add (j*2)).block,(ad.add (j*2)).off+1,none⟩=some (.int .i64 e.b) ∧
   (-9223372036854775808≤e.a∧e.a≤9223372036854775807)∧(-9223372036854775808≤e.b∧e.b≤9223372036854775807):=by
 obtain ⟨ad,es,hA,hKad,⟨rfl,r0,r1⟩,hcell⟩:=h.at_ hj;have hsz:Rp.a2.size=2:=rfl;rw [hsz] at hcell;refine ⟨ad,hA,hKad,?_,?_,r0,r1⟩
 · rw [←zbu (ad.add (j*2))];exact hcell 0 _ rfl
 · rw [←zaC _ 1 (by decide)];exact hcell 1 _ rfl
end Go.Proofs.YthblkdnijhphhaaGreat
namespace Go.Proofs.YthblkdnijhphhaaGreat
open Go.RowKit
theorem zaz {P:Program} (w:World) (dT sT ty elem:TypeId) (k g o dLen dCap:Nat) (ad:Addr) (sLen sCap:Nat) (cur:Array Value) (t:TypeId) (cs:List Value)
 (hu:P.underlying dT=some (.slice elem)) (hs:(P.info? elem).map (·.size)=some k) (hg:w.heap[g]?=some (.cells cur t (0,0))) (n:Nat) (hm:Nat.min sLen dLen=n) (hn:cs.length=n*k)
 (hsrc:∀ j v,cs[j]?=some v→w.cell? (ad.add j)=some v) (hfit:o+cs.length≤cur.size) (h1:∀ v∈cs,v.oneCell'=true) :
 (Builtin.copy_ #[dT,sT] ty #[.slice (some ⟨g,o,none⟩) dLen dCap,.slice (some ad) sLen sCap]).run P w=.ok (goInt n) (w.setRow g (splice cur.toList o cs).toArray):=by
 have hl:=run_loadCells_list (P:=P) w ad cs hsrc;have hst:=run_storeCells_at (P:=P) g o t cs 0 cur w hg (by simpa using hfit) h1
 have hsp:(cur.toList.take (o+0)++cs++cur.toList.drop (o+0+cs.length))=splice cur.toList o cs:=by unfold splice;rw [List.append_assoc,Nat.add_zero]
 rw [hsp] at hst;rw [hn] at hl;cases hq:P.info? elem with
 | none=>simp [hq] at hs
 | some i=>
   have hi:i.size=k:=by simpa [hq] using hs
   simp [Builtin.copy_,run_underlying hu,Builtin.lenOf,Builtin.firstCells,sizeOf,typeInfo,hq,hi,hm,hl,hst]
theorem zbT {P:Program} {w w':World} {ops:Array Oper} {rest:List Oper} {o:Oper} {a:Act} {Q:Exit→Act→World→Prop} (hgd:o.guard=none) (d s:Operand) (t t':TypeId)
 (ho:o.op=.call { callee:=.builtin .copy,args:=#[d,s],argTypes:=#[t,t'] }) (v u:Value) (hd:a.eval d=v) (hs:a.eval s=u) {v':Value}
 (hr:(Builtin.copy_ #[t,t'] o.type #[v,u]).run P w=.ok v' w') (h:wpList P ops Q rest (a.put o.dst v') w'):wpList P ops Q (o::rest) a w:=
 wpList_plain hgd fun _ hK=>by
  unfold Oper.wp execOp;simp only [ho,resolve,invoke,builtin,Sem.run_bind,Sem.run_pure,Result.andThen_ok,List.map_toArray,List.map_cons,List.map_nil,hd,hs,hr];exact hK _ _ h
theorem zcS {P:Program} {ops:Array Oper} {o:Oper} {a:Act} {w:World} {K:Act→World→Prop} {Q:Exit→Act→World→Prop} {E:Prop}
 (hg:o.guard=none) (d x:Operand) (dT sT:TypeId) (hop:o.op=Op.call { callee:=Callee.builtin Builtin.copy,args:=#[d,x],argTypes:=#[dT,sT] })
 (v u:Value) (hd:a.eval d=v) (hx:a.eval x=u) {v':Value} {w':World} (hr:(Builtin.copy_ #[dT,sT] o.type #[v,u]).run P w=.ok v' w') (hK:K (a.put o.dst v') w') :
 if Region.wanted o (yielded ops a.tmps)=true then Oper.wp P o a w K Q else E:=by
 have hw:Region.wanted o (yielded ops a.tmps)=true:=by simp [Region.wanted,hg]
 rw [if_pos hw];unfold Oper.wp;simp [execOp,hop,resolve,invoke,builtin,hd,hx,hr,Result.andThen];exact hK
theorem zb0 {α:Type} (L:List α) (off:Nat) (cs:List α) (h:off+cs.length≤L.length):(splice L off cs).length=L.length:=length_splice L off cs h
theorem zdK {α:Type} {cur xs vs:List α} {a k m:Nat} (hv:vs.length=k) (hx:cur.take m=xs) (hm:xs.length=m) (ha:a≤m) (hc:m+k≤cur.length) :
 (splice (splice cur (a+k) (xs.drop a)) a vs).take (m+k)=xs.take a++vs++xs.drop a:=by
 have hd:(xs.drop a).length=m-a:=by rw [List.length_drop,hm]
 have h1:splice cur (a+k) (xs.drop a)=cur.take (a+k)++(xs.drop a++cur.drop (a+k+(m-a))):=by unfold splice;rw [hd]
 have h2:(splice cur (a+k) (xs.drop a)).take a=xs.take a:=by
  rw [h1,List.take_append_of_le_length (by rw [List.length_take];omega),List.take_take,←hx,List.take_take,Nat.min_eq_left (by omega),Nat.min_eq_left ha]
 have h3:(splice cur (a+k) (xs.drop a)).drop (a+k)=xs.drop a++cur.drop (a+k+(m-a)):=by
  rw [h1,List.drop_left' (by rw [List.length_take];omega)]
 show (List.take a (splice cur (a+k) (xs.drop a))++(vs++List.drop (a+vs.length) (splice cur (a+k) (xs.drop a)))).take (m+k)=_;rw [h2,hv,h3,←List.append_assoc,←List.append_assoc,List.take_append_of_le_length (by simp only [List.length_append,List.length_take,hd,hv,hm];omega),List.take_of_length_le (by simp only [List.length_append,List.length_take,hd,hv,hm];omega)]
theorem zdd {α:Type} {C xs vs:List α} {a k m:Nat} (hv:vs.length=k) (hx:C.take a=xs.take a) (hm:xs.length=m) (ha:a≤m) :
 (splice (splice C a vs) (a+k) (xs.drop a)).take (m+k)=xs.take a++vs++xs.drop a:=by
 have hd:(xs.drop a).length=m-a:=by rw [List.length_drop,hm]
 have h1:splice C a vs=(xs.take a++vs)++C.drop (a+k):=by unfold splice;rw [hx,hv,List.append_assoc]
 have hl:(xs.take a++vs).length=a+k:=by rw [List.length_append,List.length_take,hm,hv];omega
 have h2:(splice C a vs).take (a+k)=xs.take a++vs:=by rw [h1,List.take_left' hl]
 show (List.take (a+k) (splice C a vs)++(xs.drop a++List.drop (a+k+(xs.drop a).length) (splice C a vs))).take (m+k)=_;rw [h2,←List.append_assoc,List.take_append_of_le_length (by rw [List.length_append,hl,hd];omega),List.take_of_length_le (by rw [List.length_append,hl,hd];omega)]
end Go.Proofs.YthblkdnijhphhaaGreat
namespace Go.Proofs.YthblkdnijhphhaaGreat
open Go.RowKit Go.WideShapes Go.ChangeShapes Go.Deep
structure A3 where
 a:Int
 b:Int
 c:Int
end Go.Proofs.YthblkdnijhphhaaGreat
namespace Go.Proofs.YthblkdnijhphhaaGreat
open Go.RowKit Go.Maps Go.WideMaps
def ptrE:Value→Option (DataW Unit × List MemPlace)
 | .pointer none=>some (.lit (.int .i64 (-1)),[])
 | .pointer (some ⟨g,0,none⟩)=>some (.lit (.int .i64 g),[])
 | _=>none
def ptV (o:Option Nat):Value:=.pointer (o.map fun g=>⟨g,0,none⟩)
def ptI (o:Option Nat):Int:=(o.map Int.ofNat).getD (-1)
theorem zoF (o:Option Nat):ptrE (ptV o)=some (.lit (.int .i64 (ptI o)),[]):=by cases o <;> rfl
theorem znB {v:Value} {o:Option Nat} {ps:List MemPlace} (h:ptrE v=some (.lit (.int .i64 (ptI o)),ps)):v=ptV o:=by
 unfold ptrE at h;split at h
 · injection h with h;injection h with h _;injection h with h;injection h with _ h
   cases o with
   | none=>rfl
   | some g=>unfold ptI at h;simp at h
 · injection h with h;injection h with h _;injection h with h;injection h with _ h
   cases o with
   | none=>unfold ptI at h;simp at h
   | some g=>unfold ptI at h;simp at h;cases Int.ofNat.inj h;rfl
 · cases h
def PtrM (P:Program) (k:TypeId) (w:World) (b n:Nat) (f:Int→Option Nat):Prop:=
 ∃ D:DataW Unit,w.ownsMap P k ptrE b n D∧Tidy D∧size D=n∧∀ s,has D (.int .i64 s)=(f s).isSome∧D.atKey (.int .i64 s) (.lit (.int .i64 (-1)))=.lit (.int .i64 (ptI (f s)))
section
variable {P:Program} {k e:TypeId} {w w':World} {b n:Nat} {f:Int→Option Nat}
theorem zoC {D:DataW Unit} (h:w.ownsMap P k ptrE b n D):w.ownsMap P k ptrE b (size D) D:=by
 obtain ⟨es,clock,h1,h2,h3,rfl⟩:=h;exact ⟨es,clock,h1,h2,by rw [size_eq,length_sorted,List.length_map];exact Nat.le_refl _,rfl⟩
theorem PtrM.made (w:World):PtrM P k (w.alloc (.map #[] 0)) w.heap.size 0 (fun _=>none):=
 ⟨.map [],World.ownsMap_made w P k _,tidy_empty,rfl,fun _=>⟨rfl,rfl⟩⟩
theorem PtrM.lt (h:PtrM P k w b n f):b<w.heap.size:=by obtain ⟨D,h,_⟩:=h;exact h.lt
theorem PtrM.kept {row:Option Nat} (h:PtrM P k w b n f) (hg:w.grownBy w' row) (hne:some b≠row):PtrM P k w' b n f:=by
 obtain ⟨D,h1,h2⟩:=h;exact ⟨D,h1.kept hg hne,h2⟩
theorem PtrM.step (h:PtrM P k w b n f) (hb:Below w.heap.size w w'):PtrM P k w' b n f:=h.kept ⟨hb.os,hb.tape,hb.output,hb.size,fun i hi _=>hb.block i hi⟩ (row:=none) (by simp)
theorem PtrM.turned {S:Nat→Prop} (h:PtrM P k w b n f) (ht:za0 w w' S) (hS:¬S b):PtrM P k w' b n f:=by
 obtain ⟨D,⟨es,clock,hb,r⟩,h2⟩:=h;exact ⟨D,⟨es,clock,(ht.block b (Array.getElem?_eq_some_iff.1 hb).1 hS).trans hb,r⟩,h2⟩
theorem PtrM.look (h:PtrM P k w b n f) (hk:P.underlying k=some (.int .i64)) {t:TypeId} (ht:P.underlying t=some (.map k e)) (hz:(zeroValue e).run P w=.ok (.pointer none) w) (s:Int)
 (hs:-9223372036854775808≤s∧s≤9223372036854775807):(Instr.lookup t (.map (some b)) (.int .i64 s) false).run P w=.ok (ptV (f s)) w:=by
 obtain ⟨D,hown,_,_,hat⟩:=h;have hwf:(Lit.int .i64 s).wf=true:=by simp [Lit.wf,IntKind.min,IntKind.max,IntKind.signed,IntKind.bits];omega
 obtain ⟨v,ps,hrun,hv⟩:=hown.lookup (int_keyed hk) ht hz (zd:=.lit (.int .i64 (-1))) (zp:=[]) rfl (keyOf_int_mk hk hwf);rw [(hat s).2] at hv;rw [hrun,znB hv]
theorem PtrM.put {D:DataW Unit} (hD:Tidy D) (hn:size D=n) (hat:∀ s,has D (.int .i64 s)=(f s).isSome∧D.atKey (.int .i64 s) (.lit (.int .i64 (-1)))=.lit (.int .i64 (ptI (f s)))) {m:Nat} (s:Int) (g:Nat)
 (h:w'.ownsMap P k ptrE b m (D.put (.int .i64 s) (.lit (.int .i64 (ptI (some g)))))):PtrM P k w' b (if (f s).isSome then n else n+1) (fun i=>if i=s then some g else f i):=by
 have hz:size (D.put (.int .i64 s) (.lit (.int .i64 (ptI (some g)))))=if (f s).isSome then n else n+1:=by rw [size_put hD,(hat s).1,hn]
 refine ⟨_,by rw [←hz];exact zoC h,hD.put (show WideAt.IsKeyLit (.int .i64 s) from trivial) _,hz,fun i=>?_⟩
 by_cases e1:i=s
 · subst e1
   rw [has_put_same hD.isMap (show WideAt.IsKeyLit (.int .i64 i) from trivial),atKey_put_same hD.isMap (show WideAt.IsKeyLit (.int .i64 i) from trivial)];simp
 · rw [has_put_other (by simpa using e1),atKey_put_other (by simpa using e1),(hat i).1,(hat i).2];simp [e1]
theorem PtrM.cut {D:DataW Unit} (hD:Tidy D) (hn:size D=n) (hat:∀ s,has D (.int .i64 s)=(f s).isSome∧D.atKey (.int .i64 s) (.lit (.int .i64 (-1)))=.lit (.int .i64 (ptI (f s)))) {m:Nat} (s:Int)
 (h:w'.ownsMap P k ptrE b m (D.del (.int .i64 s))):PtrM P k w' b (if (f s).isSome then n-1 else n) (fun i=>if i=s then none else f i):=by
 have hz:size (D.del (.int .i64 s))=if (f s).isSome then n-1 else n:=by
  have:=size_del (k:=.int .i64 s) hD;rw [(hat s).1,hn] at this;split <;> simp_all <;> omega
 refine ⟨_,by rw [←hz];exact zoC h,hD.del _,hz,fun i=>?_⟩
 by_cases e1:i=s
 · subst e1
   rw [has_del_same,atKey_del_same];simp [ptI]
 · rw [has_del_other (by simpa using e1),atKey_del_other (by simpa using e1),(hat i).1,(hat i).2];simp [e1]
variable {ops:Array Oper} {rest:List Oper} {o:Oper} {a:Act} {Q:Exit→Act→World→Prop}
theorem zcH (hg:o.guard=none) (m x:Operand) (t:TypeId) (hop:o.op=Op.lookup t m x false)
 (k e:TypeId) (hk:P.underlying k=some (.int .i64)) (ht:P.underlying t=some (.map k e)) (hz:(zeroValue e).run P w=.ok (.pointer none) w)
 (b n:Nat) (f:Int→Option Nat) (hm:a.eval m=.map (some b)) (hM:PtrM P k w b n f) (s:Int) (hx:a.eval x=.int .i64 s) (hs:-9223372036854775808≤s∧s≤9223372036854775807)
 (hK:wpList P ops Q rest (a.put o.dst (ptV (f s))) w):wpList P ops Q (o::rest) a w:=by
 refine wpList_plain hg fun K' hK'=>?_
 have hrun:=hM.look hk ht hz s hs;unfold Oper.wp;simp [execOp,hop,hm,hx,hrun,Result.andThen];exact hK' _ _ hK
theorem zhP (hg:o.guard=none) (m x v:Operand) (t:TypeId) (hop:o.op=Op.mapUpdate t m x v)
 (k e:TypeId) (hk:P.underlying k=some (.int .i64)) (ht:P.underlying t=some (.map k e))
 (b n:Nat) (f:Int→Option Nat) (hm:a.eval m=.map (some b)) (hM:PtrM P k w b n f) (hn:n<maxLen) (s:Int) (g:Nat) (hx:a.eval x=.int .i64 s) (hv:a.eval v=.pointer (some ⟨g,0,none⟩)) (hs:-9223372036854775808≤s∧s≤9223372036854775807)
 (hK:∀ w',PtrM P k w' b (if (f s).isSome then n else n+1) (fun i=>if i=s then some g else f i)→w.grownBy w' (some b)→wpList P ops Q rest (a.put o.dst undef) w'):wpList P ops Q (o::rest) a w:=by
 obtain ⟨D,hown,hD,hz,hat⟩:=hM;have hwf:(Lit.int .i64 s).wf=true:=by simp [Lit.wf,IntKind.min,IntKind.max,IntKind.signed,IntKind.bits];omega
 exact wpList_mapUpdate_own w hg m x v t hop k e (int_keyed hk) ht _ b n D hm hown hn _ _ _ hx hv (keyOf_int_mk hk hwf) _ _ (zoF (some g)) fun w' h1 h2=>hK w' (PtrM.put hD hz hat s g h1) h2
theorem zkC (hw:Region.wanted o (yielded ops a.tmps)=true) (m x:Operand) (t k:TypeId) (hop:o.op=Op.call { callee:=Callee.builtin Builtin.delete,args:=#[m,x],argTypes:=#[t,k] })
 (e:TypeId) (hk:P.underlying k=some (.int .i64)) (ht:P.underlying t=some (.map k e)) {K:Act→World→Prop}
 (b n:Nat) (f:Int→Option Nat) (hm:a.eval m=.map (some b)) (hM:PtrM P k w b n f) (s:Int) (hx:a.eval x=.int .i64 s) (hs:-9223372036854775808≤s∧s≤9223372036854775807)
 (h:∀ w',PtrM P k w' b (if (f s).isSome then n-1 else n) (fun i=>if i=s then none else f i)→w.grownBy w' (some b)→K (a.put o.dst (.tuple #[])) w') :
 if Region.wanted o (yielded ops a.tmps)=true then Oper.wp P o a w K Q else K (a.put o.dst undef) w:=by
 rw [if_pos hw];obtain ⟨D,hown,hD,hz,hat⟩:=hM;have hwf:(Lit.int .i64 s).wf=true:=by simp [Lit.wf,IntKind.min,IntKind.max,IntKind.signed,IntKind.bits];omega
 obtain ⟨w',hrun,r1,r2⟩:=hown.drop (int_keyed hk) ht (keyOf_int_mk hk hwf) o.type;unfold Oper.wp;simp [execOp,hop,resolve,invoke,builtin,hm,hx,hrun,Result.andThen];exact h w' (PtrM.cut hD hz hat s r1) r2.grown
theorem PtrM.len (h:PtrM P k w b n f) {t:TypeId} (ht:P.underlying t=some (.map k e)) (ty:TypeId):(Builtin.len_ #[t] ty #[.map (some b)]).run P w=.ok (.int .i64 n) w:=by
 obtain ⟨D,hown,hD,hz,hat⟩:=h;rw [←hz];exact hown.len ht ty
end
end Go.Proofs.YthblkdnijhphhaaGreat
