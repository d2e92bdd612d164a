/- A part of the proof. -/
import Derived.Test.YtfhpolidjmbjoaaGreatCopyK
import Derived.Deep.DeepCutAuto
set_option linter.unusedSimpArgs false
set_option maxHeartbeats 4000000
set_option maxRecDepth 100000
namespace Go.Proofs.YtfhpolidjmbjoaaGreat
open Go.RowKit
def kF (f:Ft):Nat:=if f.kind<0∨7≤f.kind then 0 else f.kind.toNat
theorem kF_lt (f:Ft):kF f<7:=by unfold kF;split <;> omega
def cntT (l:List Ft) (k:Nat):Nat:=(l.filter fun f=>kF f == k).length
theorem cntT_le (l:List Ft) (k:Nat):cntT l k≤l.length:=List.length_filter_le _ _
theorem cntT_snoc (l:List Ft) (f:Ft) (k:Nat):cntT (l++[f]) k=cntT l k+if kF f=k then 1 else 0:=by
 unfold cntT;rw [List.filter_append,List.length_append,List.filter_cons];by_cases h:kF f=k <;> simp [h]
def c7 (f:Nat→Nat):Array Value:=#[.int .i64 (f 0),.int .i64 (f 1),.int .i64 (f 2),.int .i64 (f 3),.int .i64 (f 4),.int .i64 (f 5),.int .i64 (f 6)]
theorem c7_at (f:Nat→Nat) {k:Nat} (hk:k<7):(c7 f)[k]?=some (.int .i64 (f k)):=by
 match k,hk with
 | 0,_ | 1,_ | 2,_ | 3,_ | 4,_ | 5,_ | 6,_=>rfl
theorem c7_set (f g:Nat→Nat) {k:Nat} (hk:k<7) (h:∀ j,j≠k→g j=f j):(c7 f).setIfInBounds k (.int .i64 (g k))=c7 g:=by
 match k,hk with
 | 0,_ | 1,_ | 2,_ | 3,_ | 4,_ | 5,_ | 6,_=>simp [c7,h]
theorem run_ix7 (f:Nat→Nat) {i:Nat} (hi:i<7) (w:World):(Instr.index 25 (.agg #[.int .i64 (f 0),.int .i64 (f 1),.int .i64 (f 2),.int .i64 (f 3),.int .i64 (f 4),.int .i64 (f 5),.int .i64 (f 6)]) (.int .i64 (i:Int))).run Tryz.prog w=.ok (.int .i64 (f i)) w:=by
 match i,hi with
 | 0,_ | 1,_ | 2,_ | 3,_ | 4,_ | 5,_ | 6,_=>simp [Instr.index,run_underlying Tryz.underlying25,asIntOf,go_sem]
theorem kinds_any (A:Option Addr) (c:Nat) (l:List Ft) (K:Nat→Prop) (w:World) (hv:IsL Rp.ft w K (.slice A l.length c) l) (hl:l.length≤1000000) :
 Calls Tryz.prog 5 #[.slice A l.length c] w fun e w'=>e=.returned (.agg (c7 (cntT l)))∧Below w.heap.size w w':=by
 obtain ⟨n,hn⟩:∃ n,l.length=n:=⟨_,rfl⟩;rw [hn] at hv hl ⊢;have HN:=Lib.hid hn;have E:=((Kn.start w).give Stable.list hv);clear hn hv;go_enter Tryz.func5,Tryz.ntmps5
 go_upto_region 2 with fail;have hB:=Blk.new w 25 (c7 (cntT [])) rfl;have hb0:Below w.heap.size w (w.alloc (.cells (c7 (cntT [])) 25)):=(Below.refl _ _).alloc (Nat.le_refl _) _;change Code.wp _ _ _ _ (w.alloc (.cells (c7 (cntT [])) 25))
 obtain ⟨g,hg⟩:∃ g,w.heap.size=g:=⟨_,rfl⟩;rw [hg] at hB;have hgw:w.heap.size≤g:=by omega
 generalize w.alloc (.cells (c7 (cntT [])) 25)=w1 at hB hb0 ⊢;rw [hg];clear hg;go_loopw [4,7] (fun x4 x7 wr=>∃ j:Nat,x7=.int .i64 j∧j≤n∧Blk wr g 25 (c7 (cntT (l.take j)))∧Below w.heap.size w wr∧∃ y,x4=y) (fun _ x7 _=>n-(intOf x7).toNat)
 case atStart=>exact ⟨0,rfl,Nat.zero_le _,by rw [List.take_zero];exact hB,hb0,_,rfl⟩
 case round=>
  clear hB hb0;obtain ⟨j,rfl,hj,hB,hb,y,rfl⟩:=hrel;have F:=E.step hb;by_cases hlt:j<n
  case pos=>
   have hlj:j<l.length:=by rw [HN.out];exact hlt
   have hje:l[j]?=some l[j]:=List.getElem?_eq_getElem _;obtain ⟨ad,rfl,-,c0,c1,c2,c3⟩:=ft_at (F.get m0) hje;have hsn:=cntT_snoc (l.take j) l[j];have hcl:=cntT_le (l.take j) (kF l[j]);rw [List.length_take] at hcl;rw [←List.take_succ_eq_append_getElem hlj] at hsn;generalize l[j]=e at c0 c1 c2 c3 hsn hje hcl;have HSN:=Lib.hid hsn;have hkl:=kF_lt e;have j1:(j:Int)<(n:Int):=by omega
   have j0:(0:Int)≤(j:Int):=by omega
   obtain ⟨q,f⟩:=hB.rules;have t0:=hB.lt;obtain ⟨k,hk⟩:∃ k,kF e=k:=⟨_,rfl⟩;rw [hk] at hkl hcl;obtain ⟨m,hm⟩:∃ m,cntT (l.take j) k=m:=⟨_,rfl⟩;have hcell:=(hB.cell k).trans (c7_at (cntT (l.take j)) hkl);rw [hm] at hcell hcl;have HM:=Lib.hid hm;have HK:=Lib.hid hk;replace hcl:m≤j:=by omega
   have wv:IntKind.i64.wrap ((m:Int)+1)=(m:Int)+1:=IntWalk.i64_in _ (by omega)
   clear hje hsn hk hm q hlj;have hfin:∀ X:Obj,Blk ((wr.setCell ⟨g,k,none⟩ (.int .i64 ((m:Int)+1))).alloc X) g 25 (c7 (cntT (l.take (j+1))))∧Below w.heap.size w ((wr.setCell ⟨g,k,none⟩ (.int .i64 ((m:Int)+1))).alloc X):=fun X=>by
    have h1:=hB.set_ k (.int .i64 ((m:Int)+1));have h2:(m:Int)+1=(cntT (l.take (j+1)) k:Int):=by have:=HSN.out k;rw [if_pos HK.out,HM.out] at this;omega
    have h3:=c7_set (cntT (l.take j)) (cntT (l.take (j+1))) hkl (fun i hi=>by have:=HSN.out i;rw [if_neg (fun h=>hi (by rw [←h,HK.out]))] at this;omega)
    rw [h2] at h1 ⊢;rw [h3] at h1;exact ⟨h1.alloc X,(Below.setCell hb hgw _).alloc (by have:=hb.size;simpa using this) X⟩
   have HF:=Lib.hid hfin;clear hfin;by_cases h1:e.kind<0
   case pos=>
    have hk0:k=0:=by rw [←HK.out];unfold kF;rw [if_pos (.inl h1)]
    subst hk0;go_wp2_with fail;go_roundw
    case rel=>exact ⟨j+1,by go_num,by omega,(HF.out _).1,(HF.out _).2,_,rfl⟩
    case measure=>simp [intOf];omega
   case neg=>
    by_cases h7:7≤e.kind
    case pos=>
     have hk0:k=0:=by rw [←HK.out];unfold kF;rw [if_pos (.inr h7)]
     subst hk0;go_wp2_with fail;go_roundw
     case rel=>exact ⟨j+1,by go_num,by omega,(HF.out _).1,(HF.out _).2,_,rfl⟩
     case measure=>simp [intOf];omega
    case neg=>
     have hke:e.kind=(k:Int):=by rw [←HK.out];unfold kF;rw [if_neg (by omega)];omega
     rw [hke] at c0;have k7:¬(k:Int)≥7:=by omega
     have k0:¬(k:Int)<0:=by omega
     clear hke h1 h7;go_wp2_with fail;go_roundw
     case rel=>exact ⟨j+1,by go_num,by omega,(HF.out _).1,(HF.out _).2,_,rfl⟩
     case measure=>simp [intOf];omega
  case neg=>
   obtain rfl:j=n:=by omega
   have hll:l.take j=l:=by rw [←HN.out,List.take_length]
   rw [hll] at hB;have f:=hB.rules.2;have t0:=hB.lt;have q0:=(hB.cell 0).trans (c7_at (cntT l) (by omega))
   have q1:=(hB.cell 1).trans (c7_at (cntT l) (by omega))
   have q2:=(hB.cell 2).trans (c7_at (cntT l) (by omega))
   have q3:=(hB.cell 3).trans (c7_at (cntT l) (by omega))
   have q4:=(hB.cell 4).trans (c7_at (cntT l) (by omega))
   have q5:=(hB.cell 5).trans (c7_at (cntT l) (by omega))
   have q6:=(hB.cell 6).trans (c7_at (cntT l) (by omega))
   have hB2:=((((((hB.set_ 0 (.int .i64 (cntT l 0))).set_ 1 (.int .i64 (cntT l 1))).set_ 2 (.int .i64 (cntT l 2))).set_ 3 (.int .i64 (cntT l 3))).set_ 4 (.int .i64 (cntT l 4))).set_ 5 (.int .i64 (cntT l 5))).set_ 6 (.int .i64 (cntT l 6));have hb2:=((((((hb.setCell (p:=⟨g,0,none⟩) hgw (.int .i64 (cntT l 0))).setCell (p:=⟨g,1,none⟩) hgw (.int .i64 (cntT l 1))).setCell (p:=⟨g,2,none⟩) hgw (.int .i64 (cntT l 2))).setCell (p:=⟨g,3,none⟩) hgw (.int .i64 (cntT l 3))).setCell (p:=⟨g,4,none⟩) hgw (.int .i64 (cntT l 4))).setCell (p:=⟨g,5,none⟩) hgw (.int .i64 (cntT l 5))).setCell (p:=⟨g,6,none⟩) hgw (.int .i64 (cntT l 6));clear hB hll;go_wp2_with fail;generalize ((((((wr.setCell ⟨g,0,none⟩ (.int .i64 (cntT l 0))).setCell ⟨g,1,none⟩ (.int .i64 (cntT l 1))).setCell ⟨g,2,none⟩ (.int .i64 (cntT l 2))).setCell ⟨g,3,none⟩ (.int .i64 (cntT l 3))).setCell ⟨g,4,none⟩ (.int .i64 (cntT l 4))).setCell ⟨g,5,none⟩ (.int .i64 (cntT l 5))).setCell ⟨g,6,none⟩ (.int .i64 (cntT l 6))=w9 at hB2 hb2 ⊢;have r0:=hB2.cell 0;have r1:=hB2.cell 1;have r2:=hB2.cell 2;have r3:=hB2.cell 3;have r4:=hB2.cell 4;have r5:=hB2.cell 5;have r6:=hB2.cell 6;simp [c7] at r0 r1 r2 r3 r4 r5 r6;exact bodyPost_ret (v:=.agg (c7 (cntT l))) (by simp [results,Tryz.results5,go_sem,r0,r1,r2,r3,r4,r5,r6,c7]) rfl ⟨rfl,hb2⟩
end Go.Proofs.YtfhpolidjmbjoaaGreat
