/- A part of the proof. -/
import Derived.Test.YtjahaflkdpmhpaaGreatScan
import Derived.Lib.Overlaps
import Derived.Test.YtjahaflkdpmhpaaGreatPackAdd
import Derived.Deep.OwnRows
set_option linter.unusedSimpArgs false
set_option maxHeartbeats 8000000
set_option maxRecDepth 100000
namespace Go.Proofs.YtjahaflkdpmhpaaGreat
def atsL:Nat→List Rc→List Int
 | _,[]=>[]
 | u,r::l=>(u:Int)::atsL (u+(recL r).1.length) l
theorem errL_mem {l:List Rc} (h:errL l=0):∀ r∈l,(recL r).2=0:=by
 induction l with
 | nil=>intro r hr;cases hr
 | cons r l ih=>
   unfold errL at h;by_cases hr:(recL r).2=0
   · rw [if_neg (by simp [hr])] at h
     intro x hx;rcases List.mem_cons.1 hx with e | e
     · rw [e];exact hr
     · exact ih h x e
   · rw [if_pos hr] at h;exact absurd h hr
theorem errL_of {l:List Rc} (h:∀ r∈l,(recL r).2=0):errL l=0:=by
 induction l with
 | nil=>rfl
 | cons r l ih=>
   unfold errL;rw [if_neg (by simp [h r (List.mem_cons_self ..)])]
   exact ih fun x hx=>h x (List.mem_cons_of_mem _ hx)
end Go.Proofs.YtjahaflkdpmhpaaGreat
namespace Go.Proofs.YtjahaflkdpmhpaaGreat
open Go.RowKit
theorem recL_check {r:Rc} (h:(recL r).2=0):checkL r=0:=by
 unfold recL at h;by_cases hc:checkL r=0
 · exact hc
 · rw [if_pos hc] at h;exact absurd h hc
theorem insertS_any (i:Nat) (A:Option Addr) (n c vb:Nat) (base:Nat) (xs vs:List Value) (w:World) (hown:w.ownsRow base 67 4 (.slice A n c) n xs) (hx1:∀ u∈xs,u.oneCell'=true)
 (hv:Blk w vb 67 vs.toArray) (hvl:vs.length=4) (hv1:∀ u∈vs,u.oneCell'=true) (hne:some vb≠(Value.slice A n c).ownBlock) (hi:i≤n) (hn:n≤1000000) (hbase:base≤w.heap.size) :
 Calls Tryz.prog 43 #[.slice A n c,.int .i64 i,.slice (some ⟨vb,0,none⟩) 1 1] w fun e w'=>∃ A' c',e=.returned (.slice A' (n+1) c') ∧
  w'.ownsRow base 67 4 (.slice A' (n+1) c') (n+1) (xs.take (i*4)++vs++xs.drop (i*4))∧Below base w w':=by
 obtain ⟨i0,hi0,hz0,hz1,hz2⟩:=info_parts Tryz.infS;have hvr:Reads w (fun b=>b=vb) 4 (some ⟨vb,0,none⟩) 1 vs:=⟨by rw [hvl],fun _=>⟨_,rfl,rfl,fun j u hj=>by
  rw [show (⟨vb,0,none⟩:Addr).add j=⟨vb,j,none⟩ by unfold Addr.add;split <;> simp_all,hv.cell j,List.getElem?_toArray];exact hj⟩⟩
 have hcap:=own_cap hown;have hcap63:=own_cap63 hown;have n1:(n:Int)≤1000000:=by omega
 by_cases hin:i=n
 · subst hin
   go_enter Tryz.func43,Tryz.ntmps43
   go_wp2_with (at_builtin;refine wpList_appN rfl _ _ _ rfl base 67 i0 _ 4 32 Tryz.underlying33 hi0 hz0 hz1 hz2 rfl (by omega) rfl hown rfl hvr hv1 (by simp only [maxLen];omega) (by omega) hbase ?_;intro A8 c8 w8 own8 hg8)
   all_goals
    go_ret;refine ⟨A8,c8,rfl,?_,hg8.below⟩;have hxl:=hown.1;rw [List.take_of_length_le (by omega),List.drop_of_length_le (by omega),List.append_nil]
    exact own8
 have hlt:i<n:=by omega
 have hxl:=hown.1;obtain ⟨g,cap,cur,hvv,hg,hh,hnc,hcm,hcs,htk⟩:=hown.2.resolve_left (fun h=>by omega)
 injection hvv with e1 _ e2;subst e1 e2;have hgv:vb≠g:=fun e=>hne (by rw [e];rfl)
 have hgl:g<w.heap.size:=(Array.getElem?_eq_some_iff.1 hh).1;have hBg:Blk w g 67 cur:=hh;have hdl:(xs.drop (i*4)).length=(n-i)*4:=by rw [List.length_drop,hxl];omega
 have hd1:∀ u∈xs.drop (i*4),u.oneCell'=true:=fun u hu=>hx1 u (List.mem_of_mem_drop hu)
 have hcell:∀ W,Blk W g 67 cur→∀ (j:Nat) u,(xs.drop (i*4))[j]?=some u→W.cell? ((⟨g,i*4,none⟩:Addr).add j)=some u:=fun W hB j u hj=>by
  rw [show (⟨g,i*4,none⟩:Addr).add j=⟨g,i*4+j,none⟩ by unfold Addr.add;split <;> simp_all,hB.cell,←Array.getElem?_toList]
  rw [List.getElem?_drop,←htk,List.getElem?_take] at hj;split at hj
  · exact hj
  · cases hj
 have hsz:(Tryz.prog.info? 67).map (·.size)=some 4:=by rw [hi0];simp [hz1]
 have hlt':(i:Int)<(n:Int):=by omega
 have w1:IntKind.i64.wrap ((n:Int)+1)=(n:Int)+1:=IntWalk.i64_in _ (by omega)
 have w2:IntKind.i64.wrap ((i:Int)+1)=(i:Int)+1:=IntWalk.i64_in _ (by omega)
 by_cases hroom:n+1≤c
 · have hroom':(n:Int)+1≤(c:Int):=by omega
   have hne1:¬c=i:=by omega
   have hne2:¬c=i+1:=by omega
   go_enter Tryz.func43,Tryz.ntmps43
   have hov:∀ lb cb,(callFunc 91 #[.slice (some ⟨vb,0,none⟩) 1 1,.slice (some ⟨g,(i+1)*4,none⟩) lb cb]).run Tryz.prog w=.ok (.value (.bool false)) w:=fun lb cb=>by
    rw [run_callFunc_extern Tryz.func91 (by kernel_rfl) (by kernel_rfl) (by kernel_rfl) (e:=Extern.SlicesOverlaps.overlaps #[33,33] #[4]) (by kernel_rfl),
     Lib.run_overlaps_apart w 33 4 67 Tryz.underlying33 4 (fun w=>by simp [sizeOf,typeInfo,hi0,hz1]) ⟨vb,0,none⟩ ⟨g,(i+1)*4,none⟩ 1 1 lb cb hgv 67 67 4 cur.size (by have:=hv;unfold Blk at this;simp [World.shape?,this,hvl]) (by have:=hBg;unfold Blk at this;simp [World.shape?,this]) (by omega) (hv.frozen 0) (hv.frozen 4)]
    rfl
   go_upto_region 14 with fail;go_upto_region 15 with (simp only [hov]);have p1:(0:Int)≤(i:Int)+1:=by omega
   have p2:(i:Int)≤(n:Int)+1:=by omega
   have p3:(i:Int)+1≤(n:Int)+1:=by omega
   have p4:(0:Int)≤(i:Int):=by omega
   have hBd:Blk w.drew g 67 cur:=hBg.drew;have hvd:Blk w.drew vb 67 vs.toArray:=hv.drew;have hb0:Below base w w.drew:=(Below.refl _ _).drew;refine wp_region_held_drew (S:=fun _=>True) (by kernel_rfl) trivial (fun hHeld=>?_)
   generalize w.drew=wd at hBd hvd hb0 hHeld ⊢;have hB2:=setRow_heap wd g cur (splice cur.toList ((i+1)*4) (xs.drop (i*4))).toArray 67 (0,0) hBd;have hv2:Blk (wd.setRow g (splice cur.toList ((i+1)*4) (xs.drop (i*4))).toArray) vb 67 vs.toArray:=(setRow_other wd g vb _ hgv).trans hvd;have hb2:=below_setRow hb0 hg (splice cur.toList ((i+1)*4) (xs.drop (i*4))).toArray;have hcp:=fun ty a b=>run_copy_rowK (P:=Tryz.prog) wd 33 33 ty 67 4 g ((i+1)*4) (n-i) a ⟨g,i*4,none⟩ (n+1-i) b cur 67 (xs.drop (i*4)) Tryz.underlying33 hsz hBd (n-i) (by simp only [Nat.min_def];split <;> omega) hdl (hcell wd hBd) (by rw [hdl];omega) hd1
   generalize wd.setRow g (splice cur.toList ((i+1)*4) (xs.drop (i*4))).toArray=w3 at hB2 hv2 hb2 hcp;refine wT 0 69 ?_;refine wT 1 70 ?_;refine wT 2 71 ?_;refine wT 3 72 ?_;refine wT 4 73 ?_;refine wT 5 74 ?_;refine wT 6 75 ?_;refine wT 7 76 ?_;refine wR 8 77 (fun K hK=>?_)
   refine step_copyK rfl _ _ 33 33 rfl _ _ rfl rfl (hcp _ _ _) ?_;go_simp;refine hK.out _ _ trivial (fun hHeld=>?_)
   clear hK K;try simp only [pu,List.set]
   refine wpAnyH_done (by kernel_rfl) ?_ _
   have hs1:(splice cur.toList ((i+1)*4) (xs.drop (i*4))).length=c*4:=by rw [splice_len _ _ _ (by rw [hdl,Array.length_toList];omega),Array.length_toList,hcs]
   have hB4:=setRow_heap w3 g _ (splice (splice cur.toList ((i+1)*4) (xs.drop (i*4))) (i*4) vs).toArray 67 (0,0) hB2;have hb4:=below_setRow hb2 hg (splice (splice cur.toList ((i+1)*4) (xs.drop (i*4))) (i*4) vs).toArray;have hcq:=fun ty a b=>run_copy_rowK (P:=Tryz.prog) w3 33 33 ty 67 4 g (i*4) (n+1-i) a ⟨vb,0,none⟩ 1 b _ 67 vs Tryz.underlying33 hsz hB2 1 (by simp only [Nat.min_def];split <;> omega) (by rw [hvl]) (fun j u hj=>by
    rw [show (⟨vb,0,none⟩:Addr).add j=⟨vb,j,none⟩ by unfold Addr.add;split <;> simp_all,hv2.cell j,List.getElem?_toArray];exact hj) (by rw [List.size_toArray,hs1,hvl];omega) hv1
   rw [List.toList_toArray] at hcq;generalize w3.setRow g (splice (splice cur.toList ((i+1)*4) (xs.drop (i*4))) (i*4) vs).toArray=w4 at hB4 hb4 hcq;go_wp2_with (refine wpList_copyK rfl _ _ 33 33 rfl _ _ rfl rfl (hcq _ _ _) ?_);go_ret;have hins:=splice_insert (cur:=cur.toList) (xs:=xs) (vs:=vs) (a:=i*4) (k:=4) (m:=n*4) hvl htk hxl (by omega) (by rw [Array.length_toList,hcs];omega)
   have e1:i*4+4=(i+1)*4:=by omega
   have e2:n*4+4=(n+1)*4:=by omega
   rw [e1,e2] at hins;refine ⟨some ⟨g,0,none⟩,c,rfl,⟨?_,.inr ⟨g,c,_,rfl,hg,hB4,hroom,hcm,?_,?_⟩⟩,hb4⟩
   · simp only [List.length_append,List.length_take,hdl,hvl,hxl];omega
   · rw [List.size_toArray,splice_len _ _ _ (by rw [hs1,hvl];omega),hs1]
   · rw [List.toList_toArray,hins,List.append_assoc]
 obtain ⟨m,hm⟩:∃ m,n+1-i=m:=⟨_,rfl⟩;have hm1:i+m=n+1:=by omega
 have w3:IntKind.i64.wrap ((n:Int)+1-(i:Int))=(m:Int):=by rw [IntWalk.i64_in _ (by omega)];omega
 have hxt:(xs.take (i*4)).length=i*4:=by rw [List.length_take,hxl];omega
 have hold:(Builtin.firstCells i0.size i (.slice (some ⟨g,0,none⟩) i c)).run Tryz.prog w.drew=.ok (xs.take (i*4)).toArray w.drew:=by
  have hl:=run_loadCells_list (P:=Tryz.prog) w.drew ⟨g,0,none⟩ (xs.take (i*4)) (fun j u hj=>by
   rw [show (⟨g,0,none⟩:Addr).add j=⟨g,j,none⟩ by unfold Addr.add;split <;> simp_all,(show Blk w.drew g 67 cur from hBg.drew).cell,←Array.getElem?_toList]
   rw [List.getElem?_take,←htk,List.getElem?_take] at hj;split at hj
   · split at hj
     · exact hj
     · cases hj
   · cases hj)
  rw [hxt] at hl;simpa [Builtin.firstCells,hz1] using hl
 have hrz:∀ ty,(Builtin.append_ #[33,3] ty #[.slice (some ⟨g,0,none⟩) i c,.int .i64 (m:Int)]).run Tryz.prog w =
  .ok (.slice (some ⟨w.heap.size,0,none⟩) (n+1) (grownCap w (n+1) c 67)) (w.drew.alloc (.cells ((xs.take (i*4)).toArray++Builtin.zeroCells (.agg #[.int .i64 0,.int .i64 0,.int .i64 0,.int .i64 0]:Value).cells m++Builtin.zeroCells (.agg #[.int .i64 0,.int .i64 0,.int .i64 0,.int .i64 0]:Value).cells (grownCap w (n+1) c 67-(n+1))) 67)):=fun ty=>by
  have h:=Lib.run_append_grow_zeros w 33 3 ty 67 i0 (.agg #[.int .i64 0,.int .i64 0,.int .i64 0,.int .i64 0]:Value) .i64 .i64 Tryz.underlying33 Tryz.underlying3 hi0 hz0 (some ⟨g,0,none⟩) i c _ hold m (by omega) (by omega) (by omega) (by omega)
   (by rw [hz2];omega) (by rw [hz2,hm1];exact growslice_fits (by omega) (by omega))
  rw [hm1] at h;exact h
 have hGn:n+1≤grownCap w (n+1) c 67:=grownCap_ge w _ _ _;have hGm:grownCap w (n+1) c 67≤maxLen:=grownCap_le_maxLen w (n+1) c 67 (by unfold maxLen;omega)
 generalize grownCap w (n+1) c 67=G at hrz hGn hGm;have hCs:((xs.take (i*4)).toArray++Builtin.zeroCells (.agg #[.int .i64 0,.int .i64 0,.int .i64 0,.int .i64 0]:Value).cells m++Builtin.zeroCells (.agg #[.int .i64 0,.int .i64 0,.int .i64 0,.int .i64 0]:Value).cells (G-(n+1))).size=G*4:=by
  have e:(.agg #[.int .i64 0,.int .i64 0,.int .i64 0,.int .i64 0]:Value).cells.size=4:=rfl;simp only [Array.size_append,size_zeroCells,e,List.size_toArray,hxt];omega
 have hCt:((xs.take (i*4)).toArray++Builtin.zeroCells (.agg #[.int .i64 0,.int .i64 0,.int .i64 0,.int .i64 0]:Value).cells m++Builtin.zeroCells (.agg #[.int .i64 0,.int .i64 0,.int .i64 0,.int .i64 0]:Value).cells (G-(n+1))).toList.take (i*4)=xs.take (i*4):=by
  rw [Array.toList_append,Array.toList_append,List.append_assoc,List.toList_toArray,List.take_left' hxt]
 generalize (xs.take (i*4)).toArray++Builtin.zeroCells (.agg #[.int .i64 0,.int .i64 0,.int .i64 0,.int .i64 0]:Value).cells m++Builtin.zeroCells (.agg #[.int .i64 0,.int .i64 0,.int .i64 0,.int .i64 0]:Value).cells (G-(n+1))=C at hrz hCs hCt;have hB1:Blk (w.drew.alloc (.cells C 67)) w.heap.size 67 C:=Blk.new _ _ _ rfl;have hv1':Blk (w.drew.alloc (.cells C 67)) vb 67 vs.toArray:=hv.drew.alloc _;have hg1:Blk (w.drew.alloc (.cells C 67)) g 67 cur:=hBg.drew.alloc _;have hb1:Below base w (w.drew.alloc (.cells C 67)):=(Below.refl _ _).drew.alloc hbase _;have hvs:=hv.lt;obtain ⟨gn,hgn⟩:∃ gn,w.heap.size=gn:=⟨_,rfl⟩;rw [hgn] at hB1 hrz hvs hgl hbase;have HGM:=Lib.hid hGm;generalize w.drew.alloc (.cells C 67)=w1' at hB1 hv1' hg1 hb1 hrz;have hG1:¬G=i:=by omega
 have hG2:¬G=i+1:=by omega
 have hC1:¬c=i:=by omega
 have hroom':¬(n:Int)+1≤(c:Int):=by omega
 have g1:(i:Int)≤(n:Int)+1:=by omega
 have g2:(i:Int)+1≤(n:Int)+1:=by omega
 have g3:(0:Int)≤(i:Int)+1:=by omega
 have g4:(0:Int)≤(i:Int):=by omega
 have g5:(i:Int)≤(c:Int):=by omega
 have hB2:=setRow_heap w1' gn C (splice C.toList (i*4) vs).toArray 67 (0,0) hB1;have hg2:Blk (w1'.setRow gn (splice C.toList (i*4) vs).toArray) g 67 cur:=(setRow_other w1' gn g _ (by omega)).trans hg1
 have hb2:=below_setRow hb1 hbase (splice C.toList (i*4) vs).toArray;have hcq:=fun ty a b=>run_copy_rowK (P:=Tryz.prog) w1' 33 33 ty 67 4 gn (i*4) (n+1-i) a ⟨vb,0,none⟩ 1 b C 67 vs Tryz.underlying33 hsz hB1 1 (by simp only [Nat.min_def];split <;> omega) (by rw [hvl]) (fun j u hj=>by
  rw [show (⟨vb,0,none⟩:Addr).add j=⟨vb,j,none⟩ by unfold Addr.add;split <;> simp_all,hv1'.cell j,List.getElem?_toArray];exact hj) (by rw [hCs,hvl];omega) hv1
 generalize w1'.setRow gn (splice C.toList (i*4) vs).toArray=w2' at hB2 hg2 hb2 hcq;clear hm hgn hGm hm1;go_enter Tryz.func43,Tryz.ntmps43
 go_upto_region 10 with (at_builtin;refine Lib.wpList_append_run _ rfl _ _ _ _ rfl _ _ rfl rfl _ _ (hrz _) ?_);go_upto_region 11 with (refine wpList_copyK rfl _ _ 33 33 rfl _ _ rfl rfl (hcq _ _ _) ?_);simp only [pu,List.set];have hs1:(splice C.toList (i*4) vs).length=G*4:=by rw [splice_len _ _ _ (by rw [hvl,Array.length_toList,hCs];omega),Array.length_toList,hCs]
 have hB2':Blk w2'.drew gn 67 (splice C.toList (i*4) vs).toArray:=hB2;have hg2':Blk w2'.drew g 67 cur:=hg2.drew;have hb2':Below base w w2'.drew:=hb2.trans (Below.refl _ _).drew;clear hB2 hg2 hb2 hcq hrz;refine wp_region_held_drew (S:=fun _=>True) (by kernel_rfl) trivial (fun hHeld=>?_)
 generalize w2'.drew=wd at hB2' hg2' hb2' hHeld ⊢;have hB4:=setRow_heap wd gn _ (splice (splice C.toList (i*4) vs) ((i+1)*4) (xs.drop (i*4))).toArray 67 (0,0) hB2';have hb4:=below_setRow hb2' hbase (splice (splice C.toList (i*4) vs) ((i+1)*4) (xs.drop (i*4))).toArray;have hcp:=fun ty a b=>run_copy_rowK (P:=Tryz.prog) wd 33 33 ty 67 4 gn ((i+1)*4) (n-i) a ⟨g,i*4,none⟩ (n-i) b _ 67 (xs.drop (i*4)) Tryz.underlying33 hsz hB2' (n-i) (Nat.min_self _) hdl (hcell wd hg2') (by rw [List.size_toArray,hs1,hdl];omega) hd1
 rw [List.toList_toArray] at hcp;generalize wd.setRow gn (splice (splice C.toList (i*4) vs) ((i+1)*4) (xs.drop (i*4))).toArray=w4 at hB4 hb4 hcp;refine wT 0 46 ?_;refine wT 1 47 ?_;refine wT 2 48 ?_;refine wT 3 49 ?_;refine wT 4 50 ?_;refine wT 5 51 ?_;refine wT 6 52 ?_;refine wT 7 53 ?_;refine wR 8 54 (fun K hK=>?_)
 refine step_copyK rfl _ _ 33 33 rfl _ _ rfl rfl (hcp _ _ _) ?_;go_simp;refine hK.out _ _ trivial (fun hHeld=>?_)
 clear hK K;try simp only [pu,List.set]
 refine wpAnyH_done (by kernel_rfl) ?_ _
 go_wp2;go_ret;have hins:=splice_insert2 (C:=C.toList) (xs:=xs) (vs:=vs) (a:=i*4) (k:=4) (m:=n*4) hvl hCt hxl (by omega)
 have e1:i*4+4=(i+1)*4:=by omega
 have e2:n*4+4=(n+1)*4:=by omega
 rw [e1,e2] at hins;refine ⟨some ⟨gn,0,none⟩,G,rfl,⟨?_,.inr ⟨gn,G,_,rfl,hbase,hB4,hGn,HGM.out,?_,?_⟩⟩,hb4⟩
 · simp only [List.length_append,List.length_take,hdl,hvl,hxl];omega
 · rw [List.size_toArray,splice_len _ _ _ (by rw [hs1,hdl];omega),hs1]
 · rw [List.toList_toArray,hins,List.append_assoc]
theorem turned_setRow {w w':World} {S:Nat→Prop} {g:Nat} (h:Turned w w' S) (hg:S g∨w.heap.size≤g) (r:Array Value):Turned w (w'.setRow g r) S:=by
 have b:=below_setRow (Below.refl 0 w') (Nat.zero_le g) r;exact ⟨b.os.trans h.os,b.tape.trans h.tape,b.output.trans h.output,Nat.le_trans h.size b.size,fun k hk hn=>(setRow_other w' g k r (fun e=>by subst e;rcases hg with hg | hg;exact hn hg;omega)).trans (h.block k hk hn)⟩
theorem insertF_any (i:Nat) (A:Option Addr) (n c vb:Nat) (base:Nat) (xs vs:List Value) (w:World) (hown:w.ownsRow base 127 3 (.slice A n c) n xs) (hx1:∀ u∈xs,u.oneCell'=true)
 (hv:Blk w vb 127 vs.toArray) (hvl:vs.length=3) (hv1:∀ u∈vs,u.oneCell'=true) (hne:some vb≠(Value.slice A n c).ownBlock) (hi:i≤n) (hn:n≤1000000) (hbase:base≤w.heap.size) :
 Calls Tryz.prog 56 #[.slice A n c,.int .i64 i,.slice (some ⟨vb,0,none⟩) 1 1] w fun e w'=>∃ A' c',e=.returned (.slice A' (n+1) c') ∧
  w'.ownsRow base 127 3 (.slice A' (n+1) c') (n+1) (xs.take (i*3)++vs++xs.drop (i*3))∧Below base w w'∧Turned w w' (fun b=>(Value.slice A n c).ownBlock=some b)∧∀ b,(Value.slice A' (n+1) c').ownBlock=some b→(Value.slice A n c).ownBlock=some b∨w.heap.size≤b:=by
 obtain ⟨i0,hi0,hz0,hz1,hz2⟩:=info_parts Tryz.infF;have hvr:Reads w (fun b=>b=vb) 3 (some ⟨vb,0,none⟩) 1 vs:=⟨by rw [hvl],fun _=>⟨_,rfl,rfl,fun j u hj=>by
  rw [show (⟨vb,0,none⟩:Addr).add j=⟨vb,j,none⟩ by unfold Addr.add;split <;> simp_all,hv.cell j,List.getElem?_toArray];exact hj⟩⟩
 have hcap:=own_cap hown;have hcap63:=own_cap63 hown;have n1:(n:Int)≤1000000:=by omega
 by_cases hin:i=n
 · subst hin
   go_enter Tryz.func56,Tryz.ntmps56
   go_wp2_with (at_builtin;refine wpList_appN rfl _ _ _ rfl base 127 i0 _ 3 24 Tryz.underlying32 hi0 hz0 hz1 hz2 rfl (by omega) rfl hown rfl hvr hv1 (by simp only [maxLen];omega) (by omega) hbase ?_;intro A8 c8 w8 own8 hg8)
   all_goals
    go_ret;refine ⟨A8,c8,rfl,?_,hg8.below,⟨hg8.grown.os,hg8.grown.tape,hg8.grown.output,hg8.grown.size,fun k hk hn=>hg8.grown.block k hk (fun e=>hn (by cases A <;> exact e.symm))⟩,?_⟩
    rotate_left
    · intro b hb
      rcases hg8.at_ with e | ⟨gg,e,h2⟩
      · exact .inl (by have e2:=e.symm.trans hb;cases A <;> exact e2)
      · have e2:=e.symm.trans hb
        injection e2 with e2;exact .inr (by rw [←e2];exact h2)
    have hxl:=hown.1;rw [List.take_of_length_le (by omega),List.drop_of_length_le (by omega),List.append_nil]
    exact own8
 have hlt:i<n:=by omega
 have hxl:=hown.1;obtain ⟨g,cap,cur,hvv,hg,hh,hnc,hcm,hcs,htk⟩:=hown.2.resolve_left (fun h=>by omega)
 injection hvv with e1 _ e2;subst e1 e2;have hgv:vb≠g:=fun e=>hne (by rw [e];rfl)
 have hgl:g<w.heap.size:=(Array.getElem?_eq_some_iff.1 hh).1;have hBg:Blk w g 127 cur:=hh;have hdl:(xs.drop (i*3)).length=(n-i)*3:=by rw [List.length_drop,hxl];omega
 have hd1:∀ u∈xs.drop (i*3),u.oneCell'=true:=fun u hu=>hx1 u (List.mem_of_mem_drop hu)
 have hcell:∀ W,Blk W g 127 cur→∀ (j:Nat) u,(xs.drop (i*3))[j]?=some u→W.cell? ((⟨g,i*3,none⟩:Addr).add j)=some u:=fun W hB j u hj=>by
  rw [show (⟨g,i*3,none⟩:Addr).add j=⟨g,i*3+j,none⟩ by unfold Addr.add;split <;> simp_all,hB.cell,←Array.getElem?_toList]
  rw [List.getElem?_drop,←htk,List.getElem?_take] at hj;split at hj
  · exact hj
  · cases hj
 have hsz:(Tryz.prog.info? 127).map (·.size)=some 3:=by rw [hi0];simp [hz1]
 have hlt':(i:Int)<(n:Int):=by omega
 have w1:IntKind.i64.wrap ((n:Int)+1)=(n:Int)+1:=IntWalk.i64_in _ (by omega)
 have w2:IntKind.i64.wrap ((i:Int)+1)=(i:Int)+1:=IntWalk.i64_in _ (by omega)
 by_cases hroom:n+1≤c
 · have hroom':(n:Int)+1≤(c:Int):=by omega
   have hne1:¬c=i:=by omega
   have hne2:¬c=i+1:=by omega
   go_enter Tryz.func56,Tryz.ntmps56
   have hov:∀ lb cb,(callFunc 105 #[.slice (some ⟨vb,0,none⟩) 1 1,.slice (some ⟨g,(i+1)*3,none⟩) lb cb]).run Tryz.prog w=.ok (.value (.bool false)) w:=fun lb cb=>by
    rw [run_callFunc_extern Tryz.func105 (by kernel_rfl) (by kernel_rfl) (by kernel_rfl) (e:=Extern.SlicesOverlaps.overlaps #[32,32] #[4]) (by kernel_rfl),
     Lib.run_overlaps_apart w 32 4 127 Tryz.underlying32 3 (fun w=>by simp [sizeOf,typeInfo,hi0,hz1]) ⟨vb,0,none⟩ ⟨g,(i+1)*3,none⟩ 1 1 lb cb hgv 127 127 3 cur.size (by have:=hv;unfold Blk at this;simp [World.shape?,this,hvl]) (by have:=hBg;unfold Blk at this;simp [World.shape?,this]) (by omega) (hv.frozen 0) (hv.frozen 3)]
    rfl
   go_upto_region 14 with fail;go_upto_region 15 with (simp only [hov]);have p1:(0:Int)≤(i:Int)+1:=by omega
   have p2:(i:Int)≤(n:Int)+1:=by omega
   have p3:(i:Int)+1≤(n:Int)+1:=by omega
   have p4:(0:Int)≤(i:Int):=by omega
   have hBd:Blk w.drew g 127 cur:=hBg.drew;have hvd:Blk w.drew vb 127 vs.toArray:=hv.drew;have hb0:Below base w w.drew:=(Below.refl _ _).drew;have ht0:Turned w w.drew (fun b=>(Value.slice (some ⟨g,0,none⟩) n c).ownBlock=some b):=(Turned.refl _ _).drew
   refine wp_region_held_drew (S:=fun _=>True) (by kernel_rfl) trivial (fun hHeld=>?_)
   generalize w.drew=wd at hBd hvd hb0 ht0 hHeld ⊢;have hB2:=setRow_heap wd g cur (splice cur.toList ((i+1)*3) (xs.drop (i*3))).toArray 127 (0,0) hBd;have hv2:Blk (wd.setRow g (splice cur.toList ((i+1)*3) (xs.drop (i*3))).toArray) vb 127 vs.toArray:=(setRow_other wd g vb _ hgv).trans hvd;have hb2:=below_setRow hb0 hg (splice cur.toList ((i+1)*3) (xs.drop (i*3))).toArray;have ht2:=turned_setRow ht0 (.inl rfl) (splice cur.toList ((i+1)*3) (xs.drop (i*3))).toArray;have hcp:=fun ty a b=>run_copy_rowK (P:=Tryz.prog) wd 32 32 ty 127 3 g ((i+1)*3) (n-i) a ⟨g,i*3,none⟩ (n+1-i) b cur 127 (xs.drop (i*3)) Tryz.underlying32 hsz hBd (n-i) (by simp only [Nat.min_def];split <;> omega) hdl (hcell wd hBd) (by rw [hdl];omega) hd1
   generalize wd.setRow g (splice cur.toList ((i+1)*3) (xs.drop (i*3))).toArray=w3 at hB2 hv2 hb2 ht2 hcp;refine wT 0 69 ?_;refine wT 1 70 ?_;refine wT 2 71 ?_;refine wT 3 72 ?_;refine wT 4 73 ?_;refine wT 5 74 ?_;refine wT 6 75 ?_;refine wT 7 76 ?_;refine wR 8 77 (fun K hK=>?_)
   refine step_copyK rfl _ _ 32 32 rfl _ _ rfl rfl (hcp _ _ _) ?_;go_simp;refine hK.out _ _ trivial (fun hHeld=>?_)
   clear hK K;try simp only [pu,List.set]
   refine wpAnyH_done (by kernel_rfl) ?_ _
   have hs1:(splice cur.toList ((i+1)*3) (xs.drop (i*3))).length=c*3:=by rw [splice_len _ _ _ (by rw [hdl,Array.length_toList];omega),Array.length_toList,hcs]
   have hB4:=setRow_heap w3 g _ (splice (splice cur.toList ((i+1)*3) (xs.drop (i*3))) (i*3) vs).toArray 127 (0,0) hB2;have hb4:=below_setRow hb2 hg (splice (splice cur.toList ((i+1)*3) (xs.drop (i*3))) (i*3) vs).toArray;have ht4:=turned_setRow ht2 (.inl rfl) (splice (splice cur.toList ((i+1)*3) (xs.drop (i*3))) (i*3) vs).toArray;have hcq:=fun ty a b=>run_copy_rowK (P:=Tryz.prog) w3 32 32 ty 127 3 g (i*3) (n+1-i) a ⟨vb,0,none⟩ 1 b _ 127 vs Tryz.underlying32 hsz hB2 1 (by simp only [Nat.min_def];split <;> omega) (by rw [hvl]) (fun j u hj=>by
    rw [show (⟨vb,0,none⟩:Addr).add j=⟨vb,j,none⟩ by unfold Addr.add;split <;> simp_all,hv2.cell j,List.getElem?_toArray];exact hj) (by rw [List.size_toArray,hs1,hvl];omega) hv1
   rw [List.toList_toArray] at hcq;generalize w3.setRow g (splice (splice cur.toList ((i+1)*3) (xs.drop (i*3))) (i*3) vs).toArray=w4 at hB4 hb4 ht4 hcq;go_wp2_with (refine wpList_copyK rfl _ _ 32 32 rfl _ _ rfl rfl (hcq _ _ _) ?_);go_ret;have hins:=splice_insert (cur:=cur.toList) (xs:=xs) (vs:=vs) (a:=i*3) (k:=3) (m:=n*3) hvl htk hxl (by omega) (by rw [Array.length_toList,hcs];omega)
   have e1:i*3+3=(i+1)*3:=by omega
   have e2:n*3+3=(n+1)*3:=by omega
   rw [e1,e2] at hins;refine ⟨some ⟨g,0,none⟩,c,rfl,⟨?_,.inr ⟨g,c,_,rfl,hg,hB4,hroom,hcm,?_,?_⟩⟩,hb4,ht4,fun b hb=>.inl hb⟩
   · simp only [List.length_append,List.length_take,hdl,hvl,hxl];omega
   · rw [List.size_toArray,splice_len _ _ _ (by rw [hs1,hvl];omega),hs1]
   · rw [List.toList_toArray,hins,List.append_assoc]
 obtain ⟨m,hm⟩:∃ m,n+1-i=m:=⟨_,rfl⟩;have hm1:i+m=n+1:=by omega
 have w3:IntKind.i64.wrap ((n:Int)+1-(i:Int))=(m:Int):=by rw [IntWalk.i64_in _ (by omega)];omega
 have hxt:(xs.take (i*3)).length=i*3:=by rw [List.length_take,hxl];omega
 have hold:(Builtin.firstCells i0.size i (.slice (some ⟨g,0,none⟩) i c)).run Tryz.prog w.drew=.ok (xs.take (i*3)).toArray w.drew:=by
  have hl:=run_loadCells_list (P:=Tryz.prog) w.drew ⟨g,0,none⟩ (xs.take (i*3)) (fun j u hj=>by
   rw [show (⟨g,0,none⟩:Addr).add j=⟨g,j,none⟩ by unfold Addr.add;split <;> simp_all,(show Blk w.drew g 127 cur from hBg.drew).cell,←Array.getElem?_toList]
   rw [List.getElem?_take,←htk,List.getElem?_take] at hj;split at hj
   · split at hj
     · exact hj
     · cases hj
   · cases hj)
  rw [hxt] at hl;simpa [Builtin.firstCells,hz1] using hl
 have hrz:∀ ty,(Builtin.append_ #[32,3] ty #[.slice (some ⟨g,0,none⟩) i c,.int .i64 (m:Int)]).run Tryz.prog w =
  .ok (.slice (some ⟨w.heap.size,0,none⟩) (n+1) (grownCap w (n+1) c 127)) (w.drew.alloc (.cells ((xs.take (i*3)).toArray++Builtin.zeroCells (.agg #[.int .i64 0,.int .i64 0,.int .i64 0]:Value).cells m++Builtin.zeroCells (.agg #[.int .i64 0,.int .i64 0,.int .i64 0]:Value).cells (grownCap w (n+1) c 127-(n+1))) 127)):=fun ty=>by
  have h:=Lib.run_append_grow_zeros w 32 3 ty 127 i0 (.agg #[.int .i64 0,.int .i64 0,.int .i64 0]:Value) .i64 .i64 Tryz.underlying32 Tryz.underlying3 hi0 hz0 (some ⟨g,0,none⟩) i c _ hold m (by omega) (by omega) (by omega) (by omega)
   (by rw [hz2];omega) (by rw [hz2,hm1];exact growslice_fits (by omega) (by omega))
  rw [hm1] at h;exact h
 have hGn:n+1≤grownCap w (n+1) c 127:=grownCap_ge w _ _ _;have hGm:grownCap w (n+1) c 127≤maxLen:=grownCap_le_maxLen w (n+1) c 127 (by unfold maxLen;omega)
 generalize grownCap w (n+1) c 127=G at hrz hGn hGm;have hCs:((xs.take (i*3)).toArray++Builtin.zeroCells (.agg #[.int .i64 0,.int .i64 0,.int .i64 0]:Value).cells m++Builtin.zeroCells (.agg #[.int .i64 0,.int .i64 0,.int .i64 0]:Value).cells (G-(n+1))).size=G*3:=by
  have e:(.agg #[.int .i64 0,.int .i64 0,.int .i64 0]:Value).cells.size=3:=rfl;simp only [Array.size_append,size_zeroCells,e,List.size_toArray,hxt];omega
 have hCt:((xs.take (i*3)).toArray++Builtin.zeroCells (.agg #[.int .i64 0,.int .i64 0,.int .i64 0]:Value).cells m++Builtin.zeroCells (.agg #[.int .i64 0,.int .i64 0,.int .i64 0]:Value).cells (G-(n+1))).toList.take (i*3)=xs.take (i*3):=by
  rw [Array.toList_append,Array.toList_append,List.append_assoc,List.toList_toArray,List.take_left' hxt]
 generalize (xs.take (i*3)).toArray++Builtin.zeroCells (.agg #[.int .i64 0,.int .i64 0,.int .i64 0]:Value).cells m++Builtin.zeroCells (.agg #[.int .i64 0,.int .i64 0,.int .i64 0]:Value).cells (G-(n+1))=C at hrz hCs hCt;have hB1:Blk (w.drew.alloc (.cells C 127)) w.heap.size 127 C:=Blk.new _ _ _ rfl;have hv1':Blk (w.drew.alloc (.cells C 127)) vb 127 vs.toArray:=hv.drew.alloc _;have hg1:Blk (w.drew.alloc (.cells C 127)) g 127 cur:=hBg.drew.alloc _;have hb1:Below base w (w.drew.alloc (.cells C 127)):=(Below.refl _ _).drew.alloc hbase _;have ht1:Turned w (w.drew.alloc (.cells C 127)) (fun b=>(Value.slice (some ⟨g,0,none⟩) n c).ownBlock=some b):=((Turned.refl _ _).drew).alloc _
 have hvs:=hv.lt;obtain ⟨gn,hgn⟩:∃ gn,w.heap.size=gn:=⟨_,rfl⟩;rw [hgn] at hB1 hrz hvs hgl hbase;have hgw:w.heap.size≤gn:=Nat.le_of_eq hgn;have HGM:=Lib.hid hGm;generalize w.drew.alloc (.cells C 127)=w1' at hB1 hv1' hg1 hb1 ht1 hrz;have hG1:¬G=i:=by omega
 have hG2:¬G=i+1:=by omega
 have hC1:¬c=i:=by omega
 have hroom':¬(n:Int)+1≤(c:Int):=by omega
 have g1:(i:Int)≤(n:Int)+1:=by omega
 have g2:(i:Int)+1≤(n:Int)+1:=by omega
 have g3:(0:Int)≤(i:Int)+1:=by omega
 have g4:(0:Int)≤(i:Int):=by omega
 have g5:(i:Int)≤(c:Int):=by omega
 have hB2:=setRow_heap w1' gn C (splice C.toList (i*3) vs).toArray 127 (0,0) hB1;have hg2:Blk (w1'.setRow gn (splice C.toList (i*3) vs).toArray) g 127 cur:=(setRow_other w1' gn g _ (by omega)).trans hg1
 have hb2:=below_setRow hb1 hbase (splice C.toList (i*3) vs).toArray;have ht2:=turned_setRow ht1 (.inr hgw) (splice C.toList (i*3) vs).toArray;have hcq:=fun ty a b=>run_copy_rowK (P:=Tryz.prog) w1' 32 32 ty 127 3 gn (i*3) (n+1-i) a ⟨vb,0,none⟩ 1 b C 127 vs Tryz.underlying32 hsz hB1 1 (by simp only [Nat.min_def];split <;> omega) (by rw [hvl]) (fun j u hj=>by
  rw [show (⟨vb,0,none⟩:Addr).add j=⟨vb,j,none⟩ by unfold Addr.add;split <;> simp_all,hv1'.cell j,List.getElem?_toArray];exact hj) (by rw [hCs,hvl];omega) hv1
 generalize w1'.setRow gn (splice C.toList (i*3) vs).toArray=w2' at hB2 hg2 hb2 ht2 hcq;clear hm hgn hGm hm1;go_enter Tryz.func56,Tryz.ntmps56
 go_upto_region 10 with (at_builtin;refine Lib.wpList_append_run _ rfl _ _ _ _ rfl _ _ rfl rfl _ _ (hrz _) ?_);go_upto_region 11 with (refine wpList_copyK rfl _ _ 32 32 rfl _ _ rfl rfl (hcq _ _ _) ?_);simp only [pu,List.set];have hs1:(splice C.toList (i*3) vs).length=G*3:=by rw [splice_len _ _ _ (by rw [hvl,Array.length_toList,hCs];omega),Array.length_toList,hCs]
 have hB2':Blk w2'.drew gn 127 (splice C.toList (i*3) vs).toArray:=hB2;have hg2':Blk w2'.drew g 127 cur:=hg2.drew;have hb2':Below base w w2'.drew:=hb2.trans (Below.refl _ _).drew;have ht2':=ht2.drew;clear hB2 hg2 hb2 ht2 hcq hrz;refine wp_region_held_drew (S:=fun _=>True) (by kernel_rfl) trivial (fun hHeld=>?_)
 generalize w2'.drew=wd at hB2' hg2' hb2' ht2' hHeld ⊢;have hB4:=setRow_heap wd gn _ (splice (splice C.toList (i*3) vs) ((i+1)*3) (xs.drop (i*3))).toArray 127 (0,0) hB2';have hb4:=below_setRow hb2' hbase (splice (splice C.toList (i*3) vs) ((i+1)*3) (xs.drop (i*3))).toArray;have ht4:=turned_setRow ht2' (.inr hgw) (splice (splice C.toList (i*3) vs) ((i+1)*3) (xs.drop (i*3))).toArray;have hcp:=fun ty a b=>run_copy_rowK (P:=Tryz.prog) wd 32 32 ty 127 3 gn ((i+1)*3) (n-i) a ⟨g,i*3,none⟩ (n-i) b _ 127 (xs.drop (i*3)) Tryz.underlying32 hsz hB2' (n-i) (Nat.min_self _) hdl (hcell wd hg2') (by rw [List.size_toArray,hs1,hdl];omega) hd1
 rw [List.toList_toArray] at hcp;generalize wd.setRow gn (splice (splice C.toList (i*3) vs) ((i+1)*3) (xs.drop (i*3))).toArray=w4 at hB4 hb4 ht4 hcp;refine wT 0 46 ?_;refine wT 1 47 ?_;refine wT 2 48 ?_;refine wT 3 49 ?_;refine wT 4 50 ?_;refine wT 5 51 ?_;refine wT 6 52 ?_;refine wT 7 53 ?_;refine wR 8 54 (fun K hK=>?_)
 refine step_copyK rfl _ _ 32 32 rfl _ _ rfl rfl (hcp _ _ _) ?_;go_simp;refine hK.out _ _ trivial (fun hHeld=>?_)
 clear hK K;try simp only [pu,List.set]
 refine wpAnyH_done (by kernel_rfl) ?_ _
 go_wp2;go_ret;have hins:=splice_insert2 (C:=C.toList) (xs:=xs) (vs:=vs) (a:=i*3) (k:=3) (m:=n*3) hvl hCt hxl (by omega)
 have e1:i*3+3=(i+1)*3:=by omega
 have e2:n*3+3=(n+1)*3:=by omega
 rw [e1,e2] at hins;refine ⟨some ⟨gn,0,none⟩,G,rfl,⟨?_,.inr ⟨gn,G,_,rfl,hbase,hB4,hGn,HGM.out,?_,?_⟩⟩,hb4,ht4,fun b hb=>.inr (by injection hb with hb;rw [←hb];exact hgw)⟩
 · simp only [List.length_append,List.length_take,hdl,hvl,hxl];omega
 · rw [List.size_toArray,splice_len _ _ _ (by rw [hs1,hdl];omega),hs1]
 · rw [List.toList_toArray,hins,List.append_assoc]
theorem made_zero (n:Nat):(madeCells #[.int .u8 0] n).toList=cells8 (List.replicate n 0):=by
 have e:cells8 (List.replicate n 0)=List.replicate n (.int .u8 0):=by simp only [cells8,List.map_replicate];rfl
 rw [e];apply List.ext_getElem
 · simp [madeCells]
 · intro i h1 h2
   simp [madeCells,Nat.mod_one]
end Go.Proofs.YtjahaflkdpmhpaaGreat
