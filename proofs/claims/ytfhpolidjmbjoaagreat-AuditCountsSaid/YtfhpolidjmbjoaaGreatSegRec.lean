/- A part of the proof. -/
import Derived.Test.YtfhpolidjmbjoaaGreatSegCheck
import Derived.Deep.DeepCutAuto
set_option maxHeartbeats 2000000
set_option maxRecDepth 100000
namespace Go.Proofs.YtfhpolidjmbjoaaGreat
open Go.RowKit
theorem isB_form {w:World} {K:Nat→Prop} {v:Value} {l:List UInt8} (h:IsB w K v l):∃ A c,v=.slice A l.length c∧l.length≤140737488355328:=by
 obtain ⟨A,c,rfl,_,_,_,h5⟩:=h;exact ⟨A,c,rfl,h5⟩
theorem rec_any (r:Rc) (v:Value) (K:Nat→Prop) (w:World) (hr:OkRc r) (hv:IsB w K v r.data) :
 Calls Tryz.prog 106 #[rcV r v] w fun e w'=>∃ A c,e=.returned (.tuple #[.slice A (recL r).1.length c,.int .i64 (recL r).2]) ∧
  w'.ownsRow w.heap.size 5 1 (.slice A (recL r).1.length c) (recL r).1.length (cells8 (recL r).1)∧Below w.heap.size w w':=by
 have hv0:=hv.lt;obtain ⟨A,c,rfl,hl47⟩:=isB_form hv;have hchk:=fun W=>check_any r A c W hr hl47
 by_cases hc:checkL r=0
 · rw [recL_ok hr hc]
   have hok:=checkL_ok hc;have hn:numsL (recN r)=(flatN (recN r),0):=if_pos hok.2;have hvv:vecL r.data=(putL r.data.length++r.data,0):=if_pos (by omega)
   have hbl:=bodyR_le hr hc;have hfr:=frameL_ok (x:=bodyR r) (by omega)
   have hN:∀ W:World,Calls Tryz.prog 131 #[.slice (some ⟨W.heap.size,0,none⟩) 6 6] (W.alloc (.cells #[.int .i64 r.kind,.int .i64 r.lba,.int .i64 r.n,.int .i64 r.ver,.int .i64 r.zone,.int .i64 r.off] 3)) fun e w'=>∃ A' c',e=.returned (.tuple #[.slice A' (flatN (recN r)).length c',.int .i64 0]) ∧
    w'.ownsRow (W.heap.size+1) 5 1 (.slice A' (flatN (recN r)).length c') (flatN (recN r)).length (cells8 (flatN (recN r)))∧Below (W.heap.size+1) (W.alloc (.cells #[.int .i64 r.kind,.int .i64 r.lba,.int .i64 r.n,.int .i64 r.ver,.int .i64 r.zone,.int .i64 r.off] 3)) w':=fun W=>by
    have:=wnums_any _ (recN r) _ _ (isL_ints (w:=W) (n:=6) (cs:=#[.int .i64 r.kind,.int .i64 r.lba,.int .i64 r.n,.int .i64 r.ver,.int .i64 r.zone,.int .i64 r.off]) hr 3 rfl rfl (by omega)) (by show 6≤_;omega)
    rw [hn] at this;simpa only [World.size_alloc] using this
   have hV:∀ W,IsB W (fun b=>K b∧b<w.heap.size) (.slice A r.data.length c) r.data→Calls Tryz.prog 132 #[.slice A r.data.length c] W fun e w'=>∃ A' c',e=.returned (.tuple #[.slice A' (putL r.data.length++r.data).length c',.int .i64 0]) ∧
    w'.ownsRow W.heap.size 5 1 (.slice A' (putL r.data.length++r.data).length c') (putL r.data.length++r.data).length (cells8 (putL r.data.length++r.data))∧Below W.heap.size W w':=fun W h=>by
    have:=wvec_any _ r.data _ W h;rw [hvv] at this;exact this
   rw [show bodyR r=flatN (recN r)++(putL r.data.length++r.data) from rfl] at hbl hfr ⊢;generalize flatN (recN r)=nb at hN hbl hfr ⊢;generalize putL r.data.length++r.data=vb at hV hbl hfr ⊢;generalize frB (nb++vb)=fr at hfr ⊢;rw [List.length_append] at hbl;have hap:cells8 (nb++vb)=cells8 nb++cells8 vb:=by simp [cells8]
   have HAP:=Lib.hid hap;have HF:=Lib.hid hfr;have HCK:=Lib.hid hc;clear hap hfr hn hvv hok;obtain ⟨i0,hi,hz0,hz1,hz2⟩:=info_parts Tryz.info5;unfold rcV at *;have hnv:=cells8_one vb;go_enter Tryz.func106,Tryz.ntmps106
   go_wp2_with fail;refine (hchk _).mono ?_;rintro e w1 ⟨rfl,hb1⟩;rw [HCK.out];have hb2:Below w.heap.size w w1:=((Below.refl _ _).alloc (Nat.le_refl _) _).trans (hb1.mono (by simp))
   have hs2:=hb2.size;have hB:=(Blk.new w 106 #[.int .i64 r.kind,.int .i64 r.lba,.int .i64 r.n,.int .i64 r.ver,.int .i64 r.zone,.int .i64 r.off,.slice A r.data.length c] rfl).step hb1;obtain ⟨r1,r2⟩:=hB.rules;clear hchk hc;go_wp2_with fail;refine (hN w1).mono ?_;rintro e w3 ⟨A3,c3,rfl,own3,hb3⟩;have hb4:Below w1.heap.size w1 w3:=((Below.refl _ _).alloc (Nat.le_refl _) _).trans (hb3.mono (by omega))
   have hs4:=hb3.size;simp only [World.size_alloc] at hs4;obtain ⟨q1,q2⟩:=(hB.step hb4).rules;have hv4:=(hv0.step hb2).step hb4;clear r1 r2;go_wp2_with fail;refine (hV _ hv4).mono ?_;rintro e w5 ⟨A5,c5,rfl,own5,hb5⟩;have own4:=own_below own3 hb5 (Nat.le_refl _);have hs5:=hb5.size;clear q1 q2;go_wp2_with fail;refine (begin_any _).mono ?_;rintro e w6 ⟨g,rfl,hg,hT6,hb6⟩;have own6:=own_below own4 hb6 (Nat.le_refl _);have own7:=own_below own5 hb6 (Nat.le_refl _);have hs6:=hb6.size;have hr7:=Reads.of_own own7;go_wp2_with (at_builtin;refine wpList_appN rfl _ _ _ rfl (w1.heap.size+1) 5 i0 _ 1 1 Tryz.underlying49 hi hz0 hz1 hz2 rfl (by omega) rfl own6 rfl hr7 hnv (by simp only [maxLen];omega) (by omega) (by omega) ?_;intro A7 c7 w7 own8 hg7)
   have hne3:∀ b,some b=(Value.slice A3 nb.length c3).ownBlock→b≠g:=fun b hb=>by have:=(own3.lt b hb.symm).2;omega
   have hT7:TabOk w7 g:=hT6.turned (S:=fun k=>some k=(Value.slice A3 nb.length c3).ownBlock) ⟨hg7.grown.os,hg7.grown.tape,hg7.grown.output,hg7.grown.size,fun k hk hn=>hg7.grown.block k hk hn⟩ (fun h=>hne3 g h rfl)
   have hne7:∀ b,some b=(Value.slice A7 (nb.length+vb.length) c7).ownBlock→b≠g:=fun b hb=>by
    rcases hg7.at_ with h5 | ⟨g',h5,h6⟩
    · exact hne3 b (hb.trans h5)
    · rw [h5] at hb
      injection hb with hb;have:=hT6.lt;omega
   have hxB:IsB w7 (fun k=>k≠g) (.slice A7 (nb.length+vb.length) c7) (nb++vb):=⟨A7,c7,by rw [List.length_append],by rw [HAP.out,List.length_append];exact (Reads.of_own own8).more (fun b hb=>hne7 b hb),by rw [List.length_append];exact own_cap own8,own_cap63 own8,by rw [List.length_append];omega⟩
   have hb7:Below w.heap.size w w7:=((hb2.trans (hb4.mono hs2)).trans (hb5.mono (by omega))).trans (((hb6.mono (by omega)).trans (hg7.below.mono (by omega))))
   refine (put_frame g _ (nb++vb) _ _ hT7 hxB (fun k hk=>hk)).mono ?_
   rintro e w8 ⟨A9,c9,rfl,own9,hT9,hb9⟩;rw [HF.out] at own9 ⊢;have hs7:=hg7.below.size;have hb10:Below w.heap.size w w8:=hb7.trans (hb9.below (fun k hk=>by omega) (by omega))
   go_wp2;go_ret2;exact ⟨A9,c9,rfl,own_base own9 (by omega),hb10⟩
 · rw [recL_no hc]
   have hc':(checkL r != 0)=true:=by simpa using hc
   generalize checkL r=ck at hc' hchk;clear hc;unfold rcV at *;go_enter Tryz.func106,Tryz.ntmps106
   go_wp2_with fail;refine (hchk _).mono ?_;rintro e w1 ⟨rfl,hb1⟩;have hb2:Below w.heap.size w w1:=((Below.refl _ _).alloc (Nat.le_refl _) _).trans (hb1.mono (by simp))
   go_wp2;go_ret2;exact ⟨none,0,rfl,World.ownsRow_nil _ _ _ _,hb2⟩
theorem takeNums_inv {x:List UInt8} {many:Nat} {l:List Int} {n:Int} (h:takeNumsL x many=(l,n,0)):l.length=many∧(∀ m∈l,0≤m∧m≤9223372036854775807)∧∃ j:Nat,n=j∧j≤x.length∧x=flatN l++x.drop j:=by
 unfold takeNumsL at h;rw [if_neg (by omega)] at h
 simp only [Int.toNat_natCast] at h;obtain ⟨r,hr⟩:∃ r,rnums x many [] (0,0)=r:=⟨_,rfl⟩;obtain ⟨a,q,e⟩:=r;rw [hr] at h;by_cases he:e=0
 · subst he
   rw [if_neg (by simp)] at h
   simp only [Prod.mk.injEq,and_true] at h;obtain ⟨rfl,rfl⟩:=h;obtain ⟨ns,rfl,h1,h2,h3,h4⟩:=rnums_inv many [] a 0 q 0 rfl hr;simp only [List.drop_zero] at h4 ⊢;refine ⟨h1,h2,q,rfl,?_,h4⟩;have:=congrArg List.length h4;rw [List.length_append,List.length_drop] at this;omega
 · rw [if_pos he] at h
   simp only [Prod.mk.injEq] at h;exact absurd h.2.2 he
theorem reads_at1 {w:World} {K:Nat→Prop} {A:Option Addr} {n:Nat} {cs:List Value} (h:Reads w K 1 A n cs) (hn:0<n):∃ ad,A=some ad∧∀ j v,cs[j]?=some v→w.cell? (ad.add j)=some v:=by
 obtain ⟨ad,e,_,hc⟩:=h.2 hn;exact ⟨ad,e,hc⟩
theorem list4 {l:List Int} (h:l.length=4):∃ a b c d,l=[a,b,c,d]:=by
 match l,h with
 | [a,b,c,d],_=>exact ⟨a,b,c,d,rfl⟩
theorem list6 {l:List Int} (h:l.length=6):∃ a b c d e f,l=[a,b,c,d,e,f]:=by
 match l,h with
 | [a,b,c,d,e,f],_=>exact ⟨a,b,c,d,e,f,rfl⟩
theorem header_any (v:Value) (x:List UInt8) (K:Nat→Prop) (w:World) (hv:IsB w K v x) (hx:x.length≤65536) :
 Calls Tryz.prog 157 #[v] w fun e w'=>e=.returned (.tuple #[hdV (headerL x).1,.bool (headerL x).2])∧Below w.heap.size w w':=by
 have hv0:=hv;obtain ⟨A,c,rfl,_⟩:=isB_form hv;unfold headerL hdV;obtain ⟨y,hy⟩:∃ y,takeNumsL x 4=y:=⟨_,rfl⟩;rw [hy];have hcall:=fun W h=>takeNums_any (.slice A x.length c) x 4 K W h (by omega) (by omega)
 rw [hy] at hcall;obtain ⟨l,n,e⟩:=y;simp only at hcall ⊢;have E:=((Kn.start w).give Stable.bytes hv0).push 91 #[.int .i64 0,.int .i64 0,.int .i64 0];by_cases he:e=0
 · subst he
   obtain ⟨hl4,h63,j,rfl,hj,hxx⟩:=takeNums_inv hy;clear hxx;obtain ⟨a0,a1,a2,a3,rfl⟩:=list4 hl4;rw [if_neg (by simp)]
   clear hy hl4;have hJ:=Lib.hid hj;have H63:=Lib.hid h63;clear hj h63;simp only [List.getD_cons_zero,List.getD_cons_succ,List.length_cons,List.length_nil,List.map_cons,List.map_nil,Nat.zero_add,Nat.reduceAdd] at hcall ⊢;have HC:=Lib.hid hcall;clear hcall;by_cases hok:j=x.length∧a0=0
   · obtain ⟨rfl,rfl⟩:=hok
     rw [if_neg (by simp)]
     dsimp only;clear hv hx;go_enter Tryz.func157,Tryz.ntmps157
     go_wp2_with fail;refine (HC.out _ (E.get m0)).mono ?_;rintro e w1 ⟨A1,c1,rfl,own1,hb1⟩;obtain ⟨ad,rfl,hc⟩:=reads_at1 (Reads.of_own own1) (by simp)
     have hc0:=hc 0 _ rfl;have hc1:=hc 1 _ rfl;have hc2:=hc 2 _ rfl;have hc3:=hc 3 _ rfl;rw [addr0] at hc0;rw [addrS _ _ (by decide)] at hc1 hc2 hc3
     unfold I64 at hc0 hc1 hc2 hc3;clear hc;have F:=E.step hb1;obtain ⟨q0,f0,t0⟩:=F.rules m0;have h3:=(((F.at_ m0).set_ 0 (.int .i64 a1)).set_ 1 (.int .i64 a2)).set_ 2 (.int .i64 a3);have hb9:=F.below.trans (Turned.below ((((Turned.refl w1 (fun k=>k=w.heap.size)).set (g:=w.heap.size) rfl 0 (.int .i64 a1)).set (g:=w.heap.size) rfl 1 (.int .i64 a2)).set (g:=w.heap.size) rfl 2 (.int .i64 a3)) (fun k hk=>by omega) F.below.size)
     clear F E;go_upto_region 4 with fail;go_region_with (fail)
     all_goals go_wp2_with fail
     all_goals generalize ((w1.setCell ⟨w.heap.size,0,none⟩ (.int .i64 a1)).setCell ⟨w.heap.size,1,none⟩ (.int .i64 a2)).setCell ⟨w.heap.size,2,none⟩ (.int .i64 a3)=w9 at h3 hb9 ⊢
     all_goals obtain ⟨q9,f9⟩:=h3.drew.rules
     all_goals refine bodyPost_ret (v:=.tuple #[.agg #[.int .i64 a1,.int .i64 a2,.int .i64 a3],.bool true]) (by simp [results,Tryz.results157,go_sem,q9]) rfl ⟨rfl,hb9.drew⟩
   · rw [if_pos (by by_cases h1:j=x.length;exact .inr fun h2=>hok ⟨h1,h2⟩;exact .inl (by omega))]
     by_cases h1:j=x.length
     · have h2:a0≠0:=fun h2=>hok ⟨h1,h2⟩
       have ha:(a0 != 0)=true:=by simpa using h2
       subst h1;clear hok h2 hv;dsimp only;go_enter Tryz.func157,Tryz.ntmps157
       go_wp2_with fail;refine (HC.out _ (E.get m0)).mono ?_;rintro e w1 ⟨A1,c1,rfl,own1,hb1⟩;obtain ⟨ad,rfl,hc⟩:=reads_at1 (Reads.of_own own1) (by simp)
       have hc0:=hc 0 _ rfl;have hc1:=hc 1 _ rfl;have hc2:=hc 2 _ rfl;have hc3:=hc 3 _ rfl;rw [addr0] at hc0;rw [addrS _ _ (by decide)] at hc1 hc2 hc3
       unfold I64 at hc0 hc1 hc2 hc3;clear hc;have F:=E.step hb1;obtain ⟨q0,f0,t0⟩:=F.rules m0;have h3:=(((F.at_ m0).set_ 0 (.int .i64 0)).set_ 1 (.int .i64 0)).set_ 2 (.int .i64 0);have hb9:=F.below.trans (Turned.below ((((Turned.refl w1 (fun k=>k=w.heap.size)).set (g:=w.heap.size) rfl 0 (.int .i64 0)).set (g:=w.heap.size) rfl 1 (.int .i64 0)).set (g:=w.heap.size) rfl 2 (.int .i64 0)) (fun k hk=>by omega) F.below.size)
       clear F E;go_wp2_with fail;generalize ((w1.setCell ⟨w.heap.size,0,none⟩ (.int .i64 0)).setCell ⟨w.heap.size,1,none⟩ (.int .i64 0)).setCell ⟨w.heap.size,2,none⟩ (.int .i64 0)=w9 at h3 hb9 ⊢;obtain ⟨q9,f9⟩:=h3.rules;refine bodyPost_ret (v:=.tuple #[.agg #[.int .i64 0,.int .i64 0,.int .i64 0],.bool false]) (by simp [results,Tryz.results157,go_sem,q9]) rfl ⟨rfl,hb9⟩
     · have h3':(j:Int)≠(x.length:Int):=by omega
       have ha:((j:Int) != (x.length:Int))=true:=by simpa using h3'
       clear h3';clear hok h1 hv;dsimp only;go_enter Tryz.func157,Tryz.ntmps157
       go_wp2_with fail;refine (HC.out _ (E.get m0)).mono ?_;rintro e w1 ⟨A1,c1,rfl,own1,hb1⟩;obtain ⟨ad,rfl,hc⟩:=reads_at1 (Reads.of_own own1) (by simp)
       have hc0:=hc 0 _ rfl;have hc1:=hc 1 _ rfl;have hc2:=hc 2 _ rfl;have hc3:=hc 3 _ rfl;rw [addr0] at hc0;rw [addrS _ _ (by decide)] at hc1 hc2 hc3
       unfold I64 at hc0 hc1 hc2 hc3;clear hc;have F:=E.step hb1;obtain ⟨q0,f0,t0⟩:=F.rules m0;have h3:=(((F.at_ m0).set_ 0 (.int .i64 0)).set_ 1 (.int .i64 0)).set_ 2 (.int .i64 0);have hb9:=F.below.trans (Turned.below ((((Turned.refl w1 (fun k=>k=w.heap.size)).set (g:=w.heap.size) rfl 0 (.int .i64 0)).set (g:=w.heap.size) rfl 1 (.int .i64 0)).set (g:=w.heap.size) rfl 2 (.int .i64 0)) (fun k hk=>by omega) F.below.size)
       clear F E;go_wp2_with fail;generalize ((w1.setCell ⟨w.heap.size,0,none⟩ (.int .i64 0)).setCell ⟨w.heap.size,1,none⟩ (.int .i64 0)).setCell ⟨w.heap.size,2,none⟩ (.int .i64 0)=w9 at h3 hb9 ⊢;obtain ⟨q9,f9⟩:=h3.rules;refine bodyPost_ret (v:=.tuple #[.agg #[.int .i64 0,.int .i64 0,.int .i64 0],.bool false]) (by simp [results,Tryz.results157,go_sem,q9]) rfl ⟨rfl,hb9⟩
 · rw [if_pos he]
   have he':((e:Int) != 0)=true:=by simpa using he
   clear he hy;go_enter Tryz.func157,Tryz.ntmps157
   go_wp2_with fail;refine (hcall _ (E.get m0)).mono ?_;rintro e w1 ⟨A1,c1,rfl,own1,hb1⟩;have F:=E.step hb1;obtain ⟨q0,f0,t0⟩:=F.rules m0;have h3:=(((F.at_ m0).set_ 0 (.int .i64 0)).set_ 1 (.int .i64 0)).set_ 2 (.int .i64 0);have hb9:=F.below.trans (Turned.below ((((Turned.refl w1 (fun k=>k=w.heap.size)).set (g:=w.heap.size) rfl 0 (.int .i64 0)).set (g:=w.heap.size) rfl 1 (.int .i64 0)).set (g:=w.heap.size) rfl 2 (.int .i64 0)) (fun k hk=>by omega) F.below.size)
   clear E F;go_wp2_with fail;generalize ((w1.setCell ⟨w.heap.size,0,none⟩ (.int .i64 0)).setCell ⟨w.heap.size,1,none⟩ (.int .i64 0)).setCell ⟨w.heap.size,2,none⟩ (.int .i64 0)=w9 at h3 hb9 ⊢;obtain ⟨q9,f9⟩:=h3.rules;refine bodyPost_ret (v:=.tuple #[.agg #[.int .i64 0,.int .i64 0,.int .i64 0],.bool false]) (by simp [results,Tryz.results157,go_sem,q9]) rfl ⟨rfl,hb9⟩
theorem b7_all {w:World} {a:Nat} {ta:TypeId} {u0 u1 u2 u3 u4 u5 u6:Value} (hA:Blk w a ta #[u0,u1,u2,u3,u4,u5,u6]) (x0 x1 x2 x3 x4 x5 x6:Value) :
 Blk (((((((w.setCell ⟨a,0,none⟩ x0).setCell ⟨a,1,none⟩ x1).setCell ⟨a,2,none⟩ x2).setCell ⟨a,3,none⟩ x3).setCell ⟨a,4,none⟩ x4).setCell ⟨a,5,none⟩ x5).setCell ⟨a,6,none⟩ x6) a ta #[x0,x1,x2,x3,x4,x5,x6] ∧
 Turned w (((((((w.setCell ⟨a,0,none⟩ x0).setCell ⟨a,1,none⟩ x1).setCell ⟨a,2,none⟩ x2).setCell ⟨a,3,none⟩ x3).setCell ⟨a,4,none⟩ x4).setCell ⟨a,5,none⟩ x5).setCell ⟨a,6,none⟩ x6) (fun k=>k=a):=by
 have h0:Blk (w.setCell ⟨a,0,none⟩ x0) a ta #[x0,u1,u2,u3,u4,u5,u6]:=hA.set_ 0 x0;have h1:Blk _ a ta #[x0,x1,u2,u3,u4,u5,u6]:=h0.set_ 1 x1;have h2:Blk _ a ta #[x0,x1,x2,u3,u4,u5,u6]:=h1.set_ 2 x2;have h3:Blk _ a ta #[x0,x1,x2,x3,u4,u5,u6]:=h2.set_ 3 x3;have h4:Blk _ a ta #[x0,x1,x2,x3,x4,u5,u6]:=h3.set_ 4 x4;have h5:Blk _ a ta #[x0,x1,x2,x3,x4,x5,u6]:=h4.set_ 5 x5;have h6:Blk _ a ta #[x0,x1,x2,x3,x4,x5,x6]:=h5.set_ 6 x6;exact ⟨h6,(((((((Turned.refl w (fun k=>k=a)).set (g:=a) rfl 0 x0).set (g:=a) rfl 1 x1).set (g:=a) rfl 2 x2).set (g:=a) rfl 3 x3).set (g:=a) rfl 4 x4).set (g:=a) rfl 5 x5).set (g:=a) rfl 6 x6⟩
theorem Stable.ownI' {base:Nat} {e:TypeId} {size n:Nat} {v:Value} {xs:List Value}:Stable (fun w=>w.ownsRow base e size v n xs):=fun _ _ h hb=>own_below h hb (Nat.le_refl _)
theorem record_any (v:Value) (x:List UInt8) (K:Nat→Prop) (w:World) (hv:IsB w K v x) (hx:x.length≤65536) :
 Calls Tryz.prog 158 #[v] w fun e w'=>∃ A c,e=.returned (.tuple #[rcV (recordL x).1 (.slice A (recordL x).1.data.length c),.bool (recordL x).2]) ∧
  w'.ownsRow w.heap.size 5 1 (.slice A (recordL x).1.data.length c) (recordL x).1.data.length (cells8 (recordL x).1.data)∧OkRc (recordL x).1∧Below w.heap.size w w':=by
 have hv0:=hv;obtain ⟨A,c,rfl,_⟩:=isB_form hv;have hlc:x.length≤c:=(IsB.open_ hv0).2.2.1;have hok0:OkRc r0c:=by intro n hn;simp only [recN,r0c,List.mem_cons,List.not_mem_nil,or_false] at hn;rcases hn with rfl | rfl | rfl | rfl | rfl | rfl <;> omega
 unfold recordL rcV;obtain ⟨y,hy⟩:∃ y,takeNumsL x 6=y:=⟨_,rfl⟩;rw [hy];have hcall:=fun W h=>takeNums_any (.slice A x.length c) x 6 K W h (by omega) (by omega)
 rw [hy] at hcall;obtain ⟨l,n,e⟩:=y;simp only at hcall ⊢;have E:=((Kn.start w).give Stable.bytes hv0).push 106 #[.int .i64 0,.int .i64 0,.int .i64 0,.int .i64 0,.int .i64 0,.int .i64 0,.slice none 0 0];by_cases he:e=0
 · subst he
   obtain ⟨hl4,h63,j,rfl,hj,hxx⟩:=takeNums_inv hy;clear hxx;obtain ⟨a0,a1,a2,a3,a4,a5,rfl⟩:=list6 hl4;rw [if_neg (by simp)]
   clear hy hl4;have H63:=Lib.hid h63;clear h63;simp only [List.getD_cons_zero,List.getD_cons_succ,List.length_cons,List.length_nil,List.map_cons,List.map_nil,Nat.zero_add,Nat.reduceAdd,Int.toNat_natCast] at hcall ⊢;have HC:=Lib.hid hcall;clear hcall;obtain ⟨y,hy⟩:∃ y,takeVecL (x.drop j)=y:=⟨_,rfl⟩;rw [hy];obtain ⟨d,k,e2⟩:=y;simp only;have hcut:=cut_bytes hv0 hj;obtain ⟨A3,hA3⟩:∃ A3,(if c=j then A else A.map (fun x=>x.add j))=A3:=⟨_,rfl⟩
   rw [hA3] at hcut;have hcutB:IsB w K (.slice A3 (x.length-j) (c-j)) (x.drop j):=⟨A3,c-j,by rw [List.length_drop],by rw [List.length_drop];exact hcut,by rw [List.length_drop];omega,by have:=(IsB.open_ hv0).2.2.2.1;omega,by rw [List.length_drop];omega⟩
   have hjc:(j:Int)≤(c:Int):=by omega
   have hjx:(j:Int)≤(x.length:Int):=by omega
   clear hcut;have hcall2:=fun W h=>takeVec_any (.slice A3 (x.length-j) (c-j)) (x.drop j) K W h
   rw [hy] at hcall2;simp only at hcall2;have HC2:=Lib.hid hcall2;have HY:=Lib.hid hy;have hvL:=IsB.len hv0;have E:=(((Kn.start w).give Stable.bytes hv0).give Stable.bytes hcutB).push 106 #[.int .i64 0,.int .i64 0,.int .i64 0,.int .i64 0,.int .i64 0,.int .i64 0,.slice none 0 0];clear hcall2 hy hcutB;by_cases he2:e2=0
   · subst he2
     obtain ⟨jj,rfl,hj1,hj2,_,hd64⟩:=takeVec_one HY.out;rw [List.length_drop] at hj2;rw [if_neg (by omega)] at hA3
     by_cases hlt:(j:Int)+(jj:Int)<(x.length:Int)
     · rw [if_pos (.inr hlt)]
       clear hv;go_enter Tryz.func158,Tryz.ntmps158
       go_wp2_with fail;refine (HC.out _ (E.get m1)).mono ?_;rintro e w1 ⟨A1,c1,rfl,own1,hb1⟩;have F:=E.step hb1;go_wp2_with fail;refine (HC2.out _ (F.get m0)).mono ?_;rintro e w2 ⟨A2,c2,rfl,own2,hb2⟩;have G:=(F.give Stable.ownI' own1).step hb2;obtain ⟨q0,f0,t0⟩:=G.rules m0;have h7:=b7_all (G.at_ m0) (.int .i64 0) (.int .i64 0) (.int .i64 0) (.int .i64 0) (.int .i64 0) (.int .i64 0) (.slice none 0 0);have hb9:=G.below.trans (h7.2.below (fun k hk=>by omega) G.below.size)
       obtain ⟨h3,_⟩:=h7;clear E F G;go_wp2_with fail;generalize (((((((w2.setCell ⟨w.heap.size,0,none⟩ (.int .i64 0)).setCell ⟨w.heap.size,1,none⟩ (.int .i64 0)).setCell ⟨w.heap.size,2,none⟩ (.int .i64 0)).setCell ⟨w.heap.size,3,none⟩ (.int .i64 0)).setCell ⟨w.heap.size,4,none⟩ (.int .i64 0)).setCell ⟨w.heap.size,5,none⟩ (.int .i64 0)).setCell ⟨w.heap.size,6,none⟩ (.slice none 0 0))=w9 at h3 hb9 ⊢;obtain ⟨q9,f9⟩:=h3.rules;refine bodyPost_ret (v:=.tuple #[.agg #[.int .i64 0,.int .i64 0,.int .i64 0,.int .i64 0,.int .i64 0,.int .i64 0,.slice none 0 0],.bool false]) (by simp [results,Tryz.results158,go_sem,q9]) rfl ⟨none,0,rfl,World.ownsRow_nil _ _ _ _,hok0,hb9⟩
     · rw [if_neg (by simp;omega)]
       clear hv;dsimp only;have hokr:OkRc ⟨a0,a1,a2,a3,a4,a5,d⟩:=by
        have h63:=H63.out;intro n hn;have:=h63 n hn;omega
       have HCK:=fun W A2 c2=>check_any ⟨a0,a1,a2,a3,a4,a5,d⟩ A2 c2 W hokr (by simp only;omega)
       unfold rcV at HCK;simp only at HCK;have HK:=Lib.hid HCK;clear HCK;obtain ⟨b,hbk⟩:∃ b,decide (checkL ⟨a0,a1,a2,a3,a4,a5,d⟩=0)=b:=⟨_,rfl⟩;rw [hbk];have hbk':(checkL ⟨a0,a1,a2,a3,a4,a5,d⟩ == 0)=b:=by rw [←hbk];rfl
       generalize checkL ⟨a0,a1,a2,a3,a4,a5,d⟩=ck at HK hbk';have HBK:=Lib.hid hbk';clear hbk hbk';go_enter Tryz.func158,Tryz.ntmps158
       go_wp2_with fail;refine (HC.out _ (E.get m1)).mono ?_;rintro e w1 ⟨A1,c1,rfl,own1,hb1⟩;have F:=E.step hb1;go_wp2_with fail;refine (HC2.out _ (F.get m0)).mono ?_;rintro e w2 ⟨A2,c2,rfl,own2,hb2⟩;have G:=(F.give Stable.ownI' own1).step hb2;obtain ⟨q0,f0,t0⟩:=G.rules m0;obtain ⟨ad,rfl,hc⟩:=reads_at1 (Reads.of_own (G.get m0)) (by simp)
       have hadl:=own1.lt ad.block rfl;have hs1:=F.below.size;have ha0:=hc 0 _ rfl;have ha1:=hc 1 _ rfl;have ha2:=hc 2 _ rfl;have ha3:=hc 3 _ rfl;have ha4:=hc 4 _ rfl;have ha5:=hc 5 _ rfl;rw [addr0] at ha0;rw [addrS _ _ (by decide)] at ha1 ha2 ha3 ha4 ha5
       unfold I64 at ha0 ha1 ha2 ha3 ha4 ha5;have hadn:ad.block≠w.heap.size:=by rw [World.size_alloc] at hadl;omega
       have h7:=b7_all (G.at_ m0) (.int .i64 a0) (.int .i64 a1) (.int .i64 a2) (.int .i64 a3) (.int .i64 a4) (.int .i64 a5) (.slice A2 d.length c2);have hadlt:ad.block<w2.heap.size:=by have:=hb2.size;omega
       have HS:Hid (w2.drew.cell? ad=some (.int .i64 a0)∧w2.drew.cell? ⟨ad.block,ad.off+1,none⟩=some (.int .i64 a1)∧w2.drew.cell? ⟨ad.block,ad.off+2,none⟩=some (.int .i64 a2)∧w2.drew.cell? ⟨ad.block,ad.off+3,none⟩=some (.int .i64 a3)∧w2.drew.cell? ⟨ad.block,ad.off+4,none⟩=some (.int .i64 a4)∧w2.drew.cell? ⟨ad.block,ad.off+5,none⟩=some (.int .i64 a5)):=Lib.hid ⟨ha0,ha1,ha2,ha3,ha4,ha5⟩;have HS7:Hid ((((((((w2.setCell ⟨w.heap.size,0,none⟩ (.int .i64 a0)).setCell ⟨w.heap.size,1,none⟩ (.int .i64 a1)).setCell ⟨w.heap.size,2,none⟩ (.int .i64 a2)).setCell ⟨w.heap.size,3,none⟩ (.int .i64 a3)).setCell ⟨w.heap.size,4,none⟩ (.int .i64 a4)).setCell ⟨w.heap.size,5,none⟩ (.int .i64 a5)).setCell ⟨w.heap.size,6,none⟩ (.slice A2 d.length c2)).drew.cell? ad=some (.int .i64 a0)∧(((((((w2.setCell ⟨w.heap.size,0,none⟩ (.int .i64 a0)).setCell ⟨w.heap.size,1,none⟩ (.int .i64 a1)).setCell ⟨w.heap.size,2,none⟩ (.int .i64 a2)).setCell ⟨w.heap.size,3,none⟩ (.int .i64 a3)).setCell ⟨w.heap.size,4,none⟩ (.int .i64 a4)).setCell ⟨w.heap.size,5,none⟩ (.int .i64 a5)).setCell ⟨w.heap.size,6,none⟩ (.slice A2 d.length c2)).drew.cell? ⟨ad.block,ad.off+1,none⟩=some (.int .i64 a1)∧(((((((w2.setCell ⟨w.heap.size,0,none⟩ (.int .i64 a0)).setCell ⟨w.heap.size,1,none⟩ (.int .i64 a1)).setCell ⟨w.heap.size,2,none⟩ (.int .i64 a2)).setCell ⟨w.heap.size,3,none⟩ (.int .i64 a3)).setCell ⟨w.heap.size,4,none⟩ (.int .i64 a4)).setCell ⟨w.heap.size,5,none⟩ (.int .i64 a5)).setCell ⟨w.heap.size,6,none⟩ (.slice A2 d.length c2)).drew.cell? ⟨ad.block,ad.off+2,none⟩=some (.int .i64 a2)∧(((((((w2.setCell ⟨w.heap.size,0,none⟩ (.int .i64 a0)).setCell ⟨w.heap.size,1,none⟩ (.int .i64 a1)).setCell ⟨w.heap.size,2,none⟩ (.int .i64 a2)).setCell ⟨w.heap.size,3,none⟩ (.int .i64 a3)).setCell ⟨w.heap.size,4,none⟩ (.int .i64 a4)).setCell ⟨w.heap.size,5,none⟩ (.int .i64 a5)).setCell ⟨w.heap.size,6,none⟩ (.slice A2 d.length c2)).drew.cell? ⟨ad.block,ad.off+3,none⟩=some (.int .i64 a3)∧(((((((w2.setCell ⟨w.heap.size,0,none⟩ (.int .i64 a0)).setCell ⟨w.heap.size,1,none⟩ (.int .i64 a1)).setCell ⟨w.heap.size,2,none⟩ (.int .i64 a2)).setCell ⟨w.heap.size,3,none⟩ (.int .i64 a3)).setCell ⟨w.heap.size,4,none⟩ (.int .i64 a4)).setCell ⟨w.heap.size,5,none⟩ (.int .i64 a5)).setCell ⟨w.heap.size,6,none⟩ (.slice A2 d.length c2)).drew.cell? ⟨ad.block,ad.off+4,none⟩=some (.int .i64 a4)∧(((((((w2.setCell ⟨w.heap.size,0,none⟩ (.int .i64 a0)).setCell ⟨w.heap.size,1,none⟩ (.int .i64 a1)).setCell ⟨w.heap.size,2,none⟩ (.int .i64 a2)).setCell ⟨w.heap.size,3,none⟩ (.int .i64 a3)).setCell ⟨w.heap.size,4,none⟩ (.int .i64 a4)).setCell ⟨w.heap.size,5,none⟩ (.int .i64 a5)).setCell ⟨w.heap.size,6,none⟩ (.slice A2 d.length c2)).drew.cell? ⟨ad.block,ad.off+5,none⟩=some (.int .i64 a5)):=by
        have e:∀ q:Addr,q.block=ad.block→(((((((w2.setCell ⟨w.heap.size,0,none⟩ (.int .i64 a0)).setCell ⟨w.heap.size,1,none⟩ (.int .i64 a1)).setCell ⟨w.heap.size,2,none⟩ (.int .i64 a2)).setCell ⟨w.heap.size,3,none⟩ (.int .i64 a3)).setCell ⟨w.heap.size,4,none⟩ (.int .i64 a4)).setCell ⟨w.heap.size,5,none⟩ (.int .i64 a5)).setCell ⟨w.heap.size,6,none⟩ (.slice A2 d.length c2)).drew.cell? q=w2.cell? q:=fun q hq=>World.cell?_of_block (h7.2.drew.block q.block (by omega) (by omega))
        refine Lib.hid ⟨?_,?_,?_,?_,?_,?_⟩
        · exact (e ad rfl).trans ha0
        · exact (e ⟨ad.block,ad.off+1,none⟩ rfl).trans ha1
        · exact (e ⟨ad.block,ad.off+2,none⟩ rfl).trans ha2
        · exact (e ⟨ad.block,ad.off+3,none⟩ rfl).trans ha3
        · exact (e ⟨ad.block,ad.off+4,none⟩ rfl).trans ha4
        · exact (e ⟨ad.block,ad.off+5,none⟩ rfl).trans ha5
       clear hc ha0 ha1 ha2 ha3 ha4 ha5;go_upto_region 7 with fail;go_region_held3 (fun W:World=>W.cell? ad=some (.int .i64 a0)∧W.cell? ⟨ad.block,ad.off+1,none⟩=some (.int .i64 a1)∧W.cell? ⟨ad.block,ad.off+2,none⟩=some (.int .i64 a2)∧W.cell? ⟨ad.block,ad.off+3,none⟩=some (.int .i64 a3)∧W.cell? ⟨ad.block,ad.off+4,none⟩=some (.int .i64 a4)∧W.cell? ⟨ad.block,ad.off+5,none⟩=some (.int .i64 a5)) (first | with_reducible exact HS7.out | with_reducible exact HS.out) (fail)
       have hlt1:=(F.at_ m0).lt;have own3:=own_turned own2 h7.2 hlt1;have hb3:=G.below.trans (h7.2.below (fun k hk=>by omega) G.below.size)
       have hB3:=h7.1;clear h7 G F E HS HS7 own1 own2 q0 f0 t0;generalize (((((((w2.setCell ⟨w.heap.size,0,none⟩ (.int .i64 a0)).setCell ⟨w.heap.size,1,none⟩ (.int .i64 a1)).setCell ⟨w.heap.size,2,none⟩ (.int .i64 a2)).setCell ⟨w.heap.size,3,none⟩ (.int .i64 a3)).setCell ⟨w.heap.size,4,none⟩ (.int .i64 a4)).setCell ⟨w.heap.size,5,none⟩ (.int .i64 a5)).setCell ⟨w.heap.size,6,none⟩ (.slice A2 d.length c2))=w3 at own3 hb3 hB3 ⊢;replace own3:=own_below own3 (Below.refl _ _).drew (Nat.le_refl _);replace hb3:=hb3.drew;replace hB3:=hB3.drew;generalize w3.drew=w4 at own3 hb3 hB3 ⊢;have hB5:=hB3.drew;obtain ⟨q0,f0⟩:=hB5.rules;have t0:=hB5.lt;have hbk':=HBK.out;go_upto_region 8 with fail;go_region_with (go_at_call 82;refine (HK.out _ A2 c2).mono ?_;rintro e w5 ⟨rfl,hb5⟩;have hB6:=hB5.step hb5;obtain ⟨q1,f1⟩:=hB6.rules;have t1:=hB6.lt)
       all_goals have hb4:Below w4.heap.size w4 w5:=(Below.refl w4.heap.size w4).drew.trans hb5
       all_goals have h7:=b7_all hB6 (.int .i64 a0) (.int .i64 a1) (.int .i64 a2) (.int .i64 a3) (.int .i64 a4) (.int .i64 a5) (.slice A2 d.length c2)
       all_goals have own6:=own_turned (own_below own3 hb4 (Nat.le_refl _)) h7.2 hlt1
       all_goals have hb6:=(hb3.trans (hb4.mono hb3.size)).trans (h7.2.below (fun k hk=>by omega) (by have:=hb3.size;have:=hb4.size;omega))
       all_goals have hB7:=h7.1
       all_goals clear h7
       all_goals go_wp2_with fail
       all_goals generalize (((((((w5.setCell ⟨w.heap.size,0,none⟩ (.int .i64 a0)).setCell ⟨w.heap.size,1,none⟩ (.int .i64 a1)).setCell ⟨w.heap.size,2,none⟩ (.int .i64 a2)).setCell ⟨w.heap.size,3,none⟩ (.int .i64 a3)).setCell ⟨w.heap.size,4,none⟩ (.int .i64 a4)).setCell ⟨w.heap.size,5,none⟩ (.int .i64 a5)).setCell ⟨w.heap.size,6,none⟩ (.slice A2 d.length c2))=w9 at own6 hb6 hB7 ⊢
       all_goals obtain ⟨q9,f9⟩:=hB7.rules
       all_goals refine bodyPost_ret (v:=.tuple #[.agg #[.int .i64 a0,.int .i64 a1,.int .i64 a2,.int .i64 a3,.int .i64 a4,.int .i64 a5,.slice A2 d.length c2],.bool b]) (by simp [results,Tryz.results158,go_sem,q9]) rfl ⟨A2,c2,rfl,own_base own6 (by omega),hokr,hb6⟩
   · rw [if_pos (.inl he2)]
     have he2':((e2:Int) != 0)=true:=by simpa using he2
     clear hv he2;go_enter Tryz.func158,Tryz.ntmps158
     go_wp2_with fail;refine (HC.out _ (E.get m1)).mono ?_;rintro e w1 ⟨A1,c1,rfl,own1,hb1⟩;have F:=E.step hb1;go_wp2_with fail;refine (HC2.out _ (F.get m0)).mono ?_;rintro e w2 ⟨A2,c2,rfl,own2,hb2⟩;have G:=(F.give Stable.ownI' own1).step hb2;obtain ⟨q0,f0,t0⟩:=G.rules m0;have h7:=b7_all (G.at_ m0) (.int .i64 0) (.int .i64 0) (.int .i64 0) (.int .i64 0) (.int .i64 0) (.int .i64 0) (.slice none 0 0);have hb9:=G.below.trans (h7.2.below (fun k hk=>by omega) G.below.size)
     obtain ⟨h3,_⟩:=h7;clear E F G;go_wp2_with fail;generalize (((((((w2.setCell ⟨w.heap.size,0,none⟩ (.int .i64 0)).setCell ⟨w.heap.size,1,none⟩ (.int .i64 0)).setCell ⟨w.heap.size,2,none⟩ (.int .i64 0)).setCell ⟨w.heap.size,3,none⟩ (.int .i64 0)).setCell ⟨w.heap.size,4,none⟩ (.int .i64 0)).setCell ⟨w.heap.size,5,none⟩ (.int .i64 0)).setCell ⟨w.heap.size,6,none⟩ (.slice none 0 0))=w9 at h3 hb9 ⊢;obtain ⟨q9,f9⟩:=h3.rules;refine bodyPost_ret (v:=.tuple #[.agg #[.int .i64 0,.int .i64 0,.int .i64 0,.int .i64 0,.int .i64 0,.int .i64 0,.slice none 0 0],.bool false]) (by simp [results,Tryz.results158,go_sem,q9]) rfl ⟨none,0,rfl,World.ownsRow_nil _ _ _ _,hok0,hb9⟩
 · rw [if_pos he]
   have he':((e:Int) != 0)=true:=by simpa using he
   clear he hy;go_enter Tryz.func158,Tryz.ntmps158
   go_wp2_with fail;refine (hcall _ (E.get m0)).mono ?_;rintro e w1 ⟨A1,c1,rfl,own1,hb1⟩;have F:=E.step hb1;obtain ⟨q0,f0,t0⟩:=F.rules m0;have h7:=b7_all (F.at_ m0) (.int .i64 0) (.int .i64 0) (.int .i64 0) (.int .i64 0) (.int .i64 0) (.int .i64 0) (.slice none 0 0);have hb9:=F.below.trans (h7.2.below (fun k hk=>by omega) F.below.size)
   obtain ⟨h3,_⟩:=h7;clear E F;go_wp2_with fail;generalize ((((((w1.setCell ⟨w.heap.size,0,none⟩ (.int .i64 0)).setCell ⟨w.heap.size,1,none⟩ (.int .i64 0)).setCell ⟨w.heap.size,2,none⟩ (.int .i64 0)).setCell ⟨w.heap.size,3,none⟩ (.int .i64 0)).setCell ⟨w.heap.size,4,none⟩ (.int .i64 0)).setCell ⟨w.heap.size,5,none⟩ (.int .i64 0)).setCell ⟨w.heap.size,6,none⟩ (.slice none 0 0)=w9 at h3 hb9 ⊢;obtain ⟨q9,f9⟩:=h3.rules;refine bodyPost_ret (v:=.tuple #[.agg #[.int .i64 0,.int .i64 0,.int .i64 0,.int .i64 0,.int .i64 0,.int .i64 0,.slice none 0 0],.bool false]) (by simp [results,Tryz.results158,go_sem,q9]) rfl ⟨none,0,rfl,World.ownsRow_nil _ _ _ _,hok0,hb9⟩
end Go.Proofs.YtfhpolidjmbjoaaGreat
