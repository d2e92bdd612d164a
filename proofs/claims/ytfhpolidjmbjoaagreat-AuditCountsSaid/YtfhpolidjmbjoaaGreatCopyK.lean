/- A part of the proof. -/
import Derived.Test.YtfhpolidjmbjoaaGreatRep
import Derived.Laws.CopyOwn
set_option maxRecDepth 100000
namespace Go.Proofs.YtfhpolidjmbjoaaGreat
open Go.RowKit Go.WideShapes Go.ChangeShapes Go.Deep
structure Ft where
 kind:Int
 zone:Int
 host:Int
 lba:Int
deriving DecidableEq
def Rp.ft:Rp Ft:=⟨4,fun _ _ cs o=>cs=[.int .i64 o.kind,.int .i64 o.zone,.int .i64 o.host,.int .i64 o.lba],
 by rintro _ _ _ _ rfl;rfl,
 fun h _=>h,
 fun h _=>h,
 by
  rintro _ _ _ _ rfl u hu;simp only [List.mem_cons,List.not_mem_nil,or_false] at hu;rcases hu with rfl | rfl | rfl | rfl <;> first | rfl | assumption⟩
theorem Tryz.cells_ft:Tryz.prog.cellsOf 28=4:=by kernel_rfl
theorem open_ft {H:Type} {enc:TypeId × Value→H} {w:World} {n:Nat} {cs:List Value} {x:DataW H × List MemPlace} (h:DataW.trod enc Tryz.prog w 0 (fun _=>true) true n 28 cs=some x) (hs:Small Tryz.prog 28 x.1) :
 ∃ o,Rp.ft.is w (· < w.heap.size) cs o:=by
 obtain ⟨xs,m,_,rfl,hlen,hl,hf⟩:=DataW.trod_struct Tryz.underlying28 h;rw [Tryz.cells_ft] at hlen;match cs,hlen,xs,hl with
 | [c0,c1,c2,c3],_,[y0,y1,y2,y3],_=>
   have g0:=hf 0 _ rfl;replace g0:DataW.trod enc Tryz.prog w 0 (fun _=>true) true m 3 [c0]=some y0:=by simpa [Tryz.ci] using g0
   obtain ⟨a0,e0,_,w0⟩:=DataW.trod_int Tryz.underlying3 g0;have g1:=hf 1 _ rfl;replace g1:DataW.trod enc Tryz.prog w 0 (fun _=>true) true m 3 [c1]=some y1:=by simpa [Tryz.ci] using g1
   obtain ⟨a1,e1,_,w1⟩:=DataW.trod_int Tryz.underlying3 g1;have g2:=hf 2 _ rfl;replace g2:DataW.trod enc Tryz.prog w 0 (fun _=>true) true m 3 [c2]=some y2:=by simpa [Tryz.ci] using g2
   obtain ⟨a2,e2,_,w2⟩:=DataW.trod_int Tryz.underlying3 g2;have g3:=hf 3 _ rfl;replace g3:DataW.trod enc Tryz.prog w 0 (fun _=>true) true m 3 [c3]=some y3:=by simpa [Tryz.ci] using g3
   obtain ⟨a3,e3,_,w3⟩:=DataW.trod_int Tryz.underlying3 g3;simp only [List.cons.injEq,and_true] at e0 e1 e2 e3;subst e0 e1 e2 e3;exact ⟨⟨a0,a1,a2,a3⟩,rfl⟩
theorem Tryz.bytes_ft:Tryz.prog.bytesOf 28=32:=by kernel_rfl
theorem open_L_ft {H:Type} {enc:TypeId × Value→H} {w:World} {n:Nat} {cs:List Value} {x:DataW H × List MemPlace} (h:DataW.trod enc Tryz.prog w 0 (fun _=>true) true n 22 cs=some x) (hs:Small Tryz.prog 22 x.1) :
 ∃ v l,cs=[v]∧IsL Rp.ft w (· < w.heap.size) v l∧l.length*32≤140737488351232:=by
 obtain ⟨v,l,e,hL,hb⟩:=open_list Rp.ft Tryz.underlying22 Tryz.cells_ft (by rw [Tryz.bytes_ft];decide) (by decide) h hs fun _ _ _ h s=>open_ft h s
 rw [Tryz.bytes_ft] at hb;exact ⟨v,l,e,hL,hb⟩
theorem open_LA_ft {H:Type} {enc:TypeId × Value→H} {w:World} {base:Nat} {v:Value} {d:DataW H} {p:List MemPlace} (hv:Value.okWide Tryz.prog w .any base 22 v) (h:DataW.Trod enc Tryz.prog w 0 (fun _=>true) true 22 v d p) (hs:Small Tryz.prog 22 d) :
 ∃ l,IsL Rp.ft w (· < w.heap.size) v l∧l.length*32≤140737488351232:=by
 obtain ⟨A,n,c,rfl⟩:=okWide_slice Tryz.underlying22 hv;obtain ⟨fuel,hf⟩:=h;obtain ⟨v',l,hcs,hB⟩:=open_L_ft hf hs;have:Value.slice A n c=v':=by simpa [Value.cells] using hcs
 rw [this];exact ⟨l,hB⟩
theorem ft_at {w:World} {K:Nat→Prop} {A:Option Addr} {n c:Nat} {l:List Ft} (h:IsL Rp.ft w K (.slice A n c) l) {j:Nat} {e:Ft} (hj:l[j]?=some e) :
 ∃ ad,A=some ad∧K ad.block∧w.cell? (ad.add (j*4))=some (.int .i64 e.kind)∧w.cell? ⟨(ad.add (j*4)).block,(ad.add (j*4)).off+1,none⟩=some (.int .i64 e.zone)∧w.cell? ⟨(ad.add (j*4)).block,(ad.add (j*4)).off+2,none⟩=some (.int .i64 e.host) ∧
   w.cell? ⟨(ad.add (j*4)).block,(ad.add (j*4)).off+3,none⟩=some (.int .i64 e.lba):=by
 obtain ⟨ad,es,hA,hKad,hes,hcell⟩:=h.at_ hj;obtain rfl:es=_:=hes;have hsz:Rp.ft.size=4:=rfl;rw [hsz] at hcell;refine ⟨ad,hA,hKad,?_,?_,?_,?_⟩
 · rw [←addr0 (ad.add (j*4))];exact hcell 0 _ rfl
 · rw [←addrS _ 1 (by decide)];exact hcell 1 _ rfl
 · rw [←addrS _ 2 (by decide)];exact hcell 2 _ rfl
 · rw [←addrS _ 3 (by decide)];exact hcell 3 _ rfl
end Go.Proofs.YtfhpolidjmbjoaaGreat
namespace Go.Proofs.YtfhpolidjmbjoaaGreat
open Go.RowKit
end Go.Proofs.YtfhpolidjmbjoaaGreat
