/- A part of the proof. -/
import Derived.Test.YtjahaflkdpmhpaaGreatScanMid
set_option maxHeartbeats 8000000
set_option maxRecDepth 100000
namespace Go.Proofs.YtjahaflkdpmhpaaGreat
open Go.RowKit
theorem Stable.ownRc {base:Nat} {e:TypeId} {X:Nat→Prop} {v:Value} {l:List Rc}:Stable (fun w=>OwnR Rp.rc w base e X v l):=fun _ _ h hb=>OwnR.step h hb
theorem Stable.ownI {base:Nat} {e:TypeId} {size n:Nat} {v:Value} {xs:List Value}:Stable (fun w=>w.ownsRow base e size v n xs):=fun _ _ h hb=>own_below h hb (Nat.le_refl _)
theorem add_any (v lv:Value) (p:Pk) (l:List Rc) (K K':Nat→Prop) (w:World) (hv:IsPk w K v p) (hK:∀ b,K b→b<w.heap.size) (hp:OkPk p) (hl:IsL Rp.rc w K' lv l) (hll:l.length≤100000000) :
 Calls Tryz.prog 161 #[v,lv] w fun e w'=>∃ pv A c,e=.returned (.tuple #[pv,.slice A (addL p l).2.1.length c,.int .i64 (addL p l).2.2])∧IsPk w' (fun b=>b<w'.heap.size∧(K b∨w.heap.size≤b)) pv (addL p l).1 ∧
  w'.ownsRow w.heap.size 3 1 (.slice A (addL p l).2.1.length c) (addL p l).2.1.length ((addL p l).2.1.map I64)∧Below w.heap.size w w':=by
 have hpk:=hp;obtain ⟨vb,vl,rfl,hb,hpl⟩:=hv;obtain ⟨_,_,hcap,hat,hbl,hpll⟩:=hp;have hok:=isL_ok hl;have hb0:=hb;have hpl0:=hpl;have hl0:=hl;obtain ⟨A,c,rfl,hbr,hbc,hbc2,_⟩:=hb;obtain ⟨A2,c2,rfl,hlc,hlc2⟩:=hpl.form;obtain ⟨Al,cl,rfl,hlc3,hlc4⟩:=hl.form;obtain ⟨i0,hi,hz0,hz1,hz2⟩:=info_parts Tryz.info5;obtain ⟨i1,hi1,hy0,hy1,hy2⟩:=info_parts Tryz.infInt;unfold pkV;go_enter Tryz.func161,Tryz.ntmps161
 go_wp2_with fail;go_loopw [7,8,17] (fun v7 v8 i wr=>Add1 w wr p (.slice A p.buf.length c) (.slice A2 p.l.length c2) l v7 v8 i) (fun _ _ i _=>l.length-(intOf i).toNat)
 case atStart=>
  refine ⟨0,none,0,none,0,rfl,Nat.zero_le _,rfl,rfl,World.ownsRow_nil _ _ _ _,World.ownsRow_nil _ _ _ _,rfl,?_,?_,((Below.refl _ _).alloc (Nat.le_refl _) _).alloc (by simp) _⟩
  · exact (Blk.new w _ _ rfl).alloc _
  · have:=Blk.new (w.alloc (.cells (pkC p (.slice A p.buf.length c) (.slice A2 p.l.length c2)) 39)) 39 #[.int .i64 0,.int .i64 0,.int .i64 0,.int .i64 0,.int .i64 0,.int .i64 0,.slice none 0 0,.slice none 0 0] rfl
    simpa using this
 case round=>
  obtain ⟨j,A7,c7,A8,c8,rfl,hj,rfl,rfl,own7,own8,herr,C0,C1,hbw⟩:=hrel;have hsz:=hbw.size;by_cases hlt:j<l.length
  · obtain ⟨ad,es,hA,hKad,hes,hcell⟩:=(hl0.step hbw).at_ (List.getElem?_eq_getElem hlt)
    subst hA;have hjr:l[j]?=some l[j]:=List.getElem?_eq_getElem hlt;have hokr:=hok l[j] (List.getElem_mem hlt);generalize l[j]=r at hjr hokr hes;obtain ⟨vd,rfl,hvd,_⟩:=hes;have hsz7:Rp.rc.size=7:=rfl;rw [hsz7] at hcell;have hc0:wr.cell? (ad.add (j*7))=some (.int .i64 r.kind):=by rw [←addr0 (ad.add (j*7))];exact hcell 0 _ rfl
    have hc1:wr.cell? ⟨(ad.add (j*7)).block,(ad.add (j*7)).off+1,none⟩=some (.int .i64 r.lba):=by rw [←addrS _ 1 (by decide)];exact hcell 1 _ rfl
    have hc2:wr.cell? ⟨(ad.add (j*7)).block,(ad.add (j*7)).off+2,none⟩=some (.int .i64 r.n):=by rw [←addrS _ 2 (by decide)];exact hcell 2 _ rfl
    have hc3:wr.cell? ⟨(ad.add (j*7)).block,(ad.add (j*7)).off+3,none⟩=some (.int .i64 r.ver):=by rw [←addrS _ 3 (by decide)];exact hcell 3 _ rfl
    have hc4:wr.cell? ⟨(ad.add (j*7)).block,(ad.add (j*7)).off+4,none⟩=some (.int .i64 r.zone):=by rw [←addrS _ 4 (by decide)];exact hcell 4 _ rfl
    have hc5:wr.cell? ⟨(ad.add (j*7)).block,(ad.add (j*7)).off+5,none⟩=some (.int .i64 r.off):=by rw [←addrS _ 5 (by decide)];exact hcell 5 _ rfl
    have hc6:wr.cell? ⟨(ad.add (j*7)).block,(ad.add (j*7)).off+6,none⟩=some vd:=by rw [←addrS _ 6 (by decide)];exact hcell 6 _ rfl
    clear hcell;obtain ⟨Ad,cd,rfl,hdl⟩:=isB_form hvd;have E:=(((((Kn.start wr).give Stable.bytes hvd).give Stable.ownI own7).give Stable.ownI own8).know C0).know C1;replace E:=E.push 135 #[.int .i64 r.kind,.int .i64 r.lba,.int .i64 r.n,.int .i64 r.ver,.int .i64 r.zone,.int .i64 r.off,.slice Ad r.data.length cd];have hrec:=fun W h=>rec_any r (.slice Ad r.data.length cd) K' W hokr h
    unfold rcV at hrec;have hrl:=recL_len hokr;have HERR:=fun h1=>errL_here l hjr herr h1
    have hE2:errL (l.take (j+1))=(recL r).2:=by rw [take_snoc l hjr,errL_snoc,if_neg (by simp [herr])]
    have hF2:frsL (l.take (j+1))=frsL (l.take j)++(recL r).1:=by rw [take_snoc l hjr,frsL_snoc]
    have hP2:plsL (p.at_+p.buf.length) (l.take (j+1))=plsL (p.at_+p.buf.length) (l.take j)++[p.at_+p.buf.length+(frsL (l.take j)).length+(recL r).1.length-4-r.data.length]:=by rw [take_snoc l hjr,plsL_snoc]
    have hfl:(frsL (l.take j)).length≤40030*j:=by
     have:=frsL_len (l:=l.take j) (fun x hx=>hok x (List.mem_of_mem_take hx))
     rw [List.length_take] at this;omega
    obtain ⟨y,hy⟩:∃ y,recL r=y:=⟨_,rfl⟩;rw [hy] at hrec hrl HERR hE2 hF2 hP2;obtain ⟨fb,fe⟩:=y;simp only at hrec hrl HERR hE2 hF2 hP2;have HE2:=Lib.hid hE2;have HF2:=Lib.hid hF2;have HP2:=Lib.hid hP2;have HE:=Lib.hid HERR;have HJ:=Lib.hid hjr;clear hy hE2 hF2 hP2 HERR hjr own7 own8 C0 C1 hvd hKad herr;go_wp2_with fail;refine (hrec _ (E.get m2)).mono ?_;rintro e w4 ⟨A4,c4,rfl,own4,hb4⟩;replace E:=E.step hb4;obtain ⟨q0,f0,t0⟩:=E.rules m0;obtain ⟨q1,f1,t1⟩:=E.rules m1;obtain ⟨q2,f2,t2⟩:=E.rules m2;by_cases hfe:fe=0
    · subst hfe
      obtain ⟨hr1,hr2⟩:=hrl;obtain ⟨hr3,hr4⟩:=hr2 rfl;have own8:=E.get m0;have own7:=E.get m1;have C0:=E.at_ m2;have C1:=E.at_ m1;have hs4:=E.below.size;have hb5:=hbw.trans (E.below.mono hsz);clear E;go_wp2_with (first
       | (at_builtin;refine wpList_app1g rfl _ _ _ rfl (w.heap.size+2) 3 i1 _ 8 Tryz.underlying73 hi1 hy0 hy1 hy2 rfl rfl own7 rfl rfl rfl (by simp only [maxLen];omega) (by omega) (by omega) ?_
          intro A5 c5 w5 own5 hg5;have own8':=own_grew own8 own7 (by decide) hg5
          have own4':=own_grew own4 own7 (by decide) hg5
          have hr4':=Reads.of_own own4';have D0:=C0.grew own7 (by decide) hg5
          have D1:=C1.grew own7 (by decide) hg5
          have hs5:=hg5.below.size)
       | (at_builtin;refine wpList_appN rfl _ _ _ rfl (w.heap.size+2) 5 i0 _ 1 1 Tryz.underlying36 hi hz0 hz1 hz2 rfl (by omega) rfl own8' rfl hr4' (cells8_one fb) (by simp only [maxLen];omega) (by omega) (by omega) ?_
          intro A6 c6 w6 own6 hg6))
      refine ⟨⟨j+1,A5,c5,A6,c6,by go_num,by omega,rfl,?_,?_,?_,HE2.out,D0.grew own8' (by decide) hg6,D1.grew own8' (by decide) hg6,hb5.trans ((hg5.below.mono (by omega)).trans (hg6.below.mono (by omega)))⟩,by simp [intOf];omega⟩
      · rw [HF2.out,List.length_append]
      · rw [HP2.out,List.map_append]
        exact own_grew own5 own8' (by decide) hg6
      · rw [HF2.out,List.length_append,cells8_append]
        exact own6
    · have hfe':((fe:Int) != 0)=true:=by simp [hfe]
      have C1:=E.at_ m1;have hb5:=E.below;clear E;go_wp2_with fail;have h8:=st8_all C1 (.int .i64 0) (.int .i64 0) (.int .i64 0) (.int .i64 0) (.int .i64 0) (.int .i64 0) (.slice none 0 0) (.slice none 0 0);unfold st8 at h8;obtain ⟨B8,T8⟩:=h8;generalize ((((((((w4.setCell ⟨w.heap.size+1,0,none⟩ (.int .i64 0)).setCell ⟨w.heap.size+1,1,none⟩ (.int .i64 0)).setCell ⟨w.heap.size+1,2,none⟩ (.int .i64 0)).setCell ⟨w.heap.size+1,3,none⟩ (.int .i64 0)).setCell ⟨w.heap.size+1,4,none⟩ (.int .i64 0)).setCell ⟨w.heap.size+1,5,none⟩ (.int .i64 0)).setCell ⟨w.heap.size+1,6,none⟩ (.slice none 0 0)).setCell ⟨w.heap.size+1,7,none⟩ (.slice none 0 0))=w9 at B8 T8 ⊢;have hb9:=below_turned (hbw.trans (hb5.mono hsz)) T8 (by omega) (by have:=hb5.size;omega)
      obtain ⟨q9,f9⟩:=B8.rules;refine bodyPost_ret (v:=.tuple #[.agg #[.int .i64 0,.int .i64 0,.int .i64 0,.int .i64 0,.int .i64 0,.int .i64 0,.slice none 0 0,.slice none 0 0],.slice none 0 0,.int .i64 fe]) (by simp [results,Tryz.results161,go_sem,q9]) rfl ?_
      rw [add_err p (HE.out hfe) hfe];exact ⟨_,none,0,rfl,isPk_none _ _,World.ownsRow_nil _ _ _ _,hb9⟩
  · obtain rfl:j=l.length:=by omega
    rw [List.take_length] at own7 own8 herr;have hfl:(frsL l).length≤40030*l.length:=frsL_len hok;have haddF:=add_full p herr;have haddO:=add_fits p herr;rw [show (List.take l.length l)=l from List.take_length];clear herr;generalize hmb:frsL l=mb at own8 hfl haddF haddO;have HMB:=Lib.hid hmb;clear hmb;obtain ⟨q0,f0⟩:=C0.rules;have hpkw:IsPk wr K (.agg (pkC p (.slice A p.buf.length c) (.slice A2 p.l.length c2))) p:=⟨_,_,rfl,hb0.step hbw,hpl0.step hbw⟩;go_wp2_with fail;refine (room_any _ p K wr hpkw hpk).mono ?_;rintro e w2 ⟨rfl,hb2⟩;have E:=(((((Kn.start wr).give Stable.bytes (hb0.step hbw)).give Stable.list (hpl0.step hbw)).give Stable.ownI own7).give Stable.ownI own8).know C0 |>.know C1 |>.step hb2
    have hb3:=hbw.trans (hb2.mono hsz);clear own7 own8 C0 C1 hpkw q0 f0;obtain ⟨q0,f0,t0⟩:=E.rules m1;obtain ⟨q1,f1,t1⟩:=E.rules m0;by_cases hf:roomL p<(mb.length:Int)
    · have C1:=E.at_ m0
      have hsz2:=hb3.size;clear E;go_wp2_with fail;have h8:=st8_all C1 (.int .i64 0) (.int .i64 0) (.int .i64 0) (.int .i64 0) (.int .i64 0) (.int .i64 0) (.slice none 0 0) (.slice none 0 0);unfold st8 at h8;obtain ⟨B8,T8⟩:=h8;generalize ((((((((w2.setCell ⟨w.heap.size+1,0,none⟩ (.int .i64 0)).setCell ⟨w.heap.size+1,1,none⟩ (.int .i64 0)).setCell ⟨w.heap.size+1,2,none⟩ (.int .i64 0)).setCell ⟨w.heap.size+1,3,none⟩ (.int .i64 0)).setCell ⟨w.heap.size+1,4,none⟩ (.int .i64 0)).setCell ⟨w.heap.size+1,5,none⟩ (.int .i64 0)).setCell ⟨w.heap.size+1,6,none⟩ (.slice none 0 0)).setCell ⟨w.heap.size+1,7,none⟩ (.slice none 0 0))=w9 at B8 T8 ⊢;have hb9:=below_turned hb3 T8 (by omega) (by omega)
      obtain ⟨q9,f9⟩:=B8.rules;refine bodyPost_ret (v:=.tuple #[.agg #[.int .i64 0,.int .i64 0,.int .i64 0,.int .i64 0,.int .i64 0,.int .i64 0,.slice none 0 0,.slice none 0 0],.slice none 0 0,.int .i64 40]) (by simp [results,Tryz.results161,go_sem,q9]) rfl ?_
      rw [haddF hf];exact ⟨_,none,0,rfl,isPk_none _ _,World.ownsRow_nil _ _ _ _,hb9⟩
    · have hpkw:IsPk w2 K (.agg (pkC p (.slice A p.buf.length c) (.slice A2 p.l.length c2))) p:=⟨_,_,rfl,E.get m3,E.get m2⟩
      have hsz2:=hb3.size;have HO:=Lib.hid (haddO (by omega))
      clear haddO haddF;go_wp2_with fail;refine (copied15_any _ p K w2 hpkw (fun b hb=>by have:=hK b hb;omega) hbl hpll).mono ?_
      rintro e w4 ⟨A5,c5,A6,c6,rfl,own5,own6,hb4⟩;unfold pkV;replace E:=E.step hb4;have hsz3:w.heap.size+2≤w2.heap.size:=by omega
      clear q0 f0 t0 q1 f1 t1;obtain ⟨q0,f0,t0⟩:=E.rules m1;go_upto_region 15 with fail;have h8:=st8_all (E.at_ m1) (.int .i64 p.h.host) (.int .i64 p.h.epoch) (.int .i64 p.h.seq) (.int .i64 p.zone) (.int .i64 p.cap) (.int .i64 p.at_) (.slice A5 p.buf.length c5) (.slice A6 p.l.length c6);unfold st8 at h8;obtain ⟨B8,T8⟩:=h8;have C1:=(E.at_ m0).turned T8 (by omega)
      have own7:=own_turned (E.get m1) T8 (by omega)
      have own8:=own_turned (E.get m0) T8 (by omega)
      have ownB:=own_base (own_turned own5 T8 (by omega)) hsz3
      have own6':=((own6.turned T8 (fun b hb=>by have:=hK b hb;omega) (fun b hb=>by omega)).lower hsz3).more (X':=fun b=>(b≠w.heap.size∧b≠w.heap.size+1∧(K b∨w.heap.size+2≤b))∧some b≠(Value.slice A5 p.buf.length c5).ownBlock) (fun b hb _=>by have:=hK b hb;exact ⟨⟨by omega,by omega,.inl hb⟩,fun e=>by have:=(ownB.lt b e.symm).1;omega⟩)
      have hb5:=below_turned (hb3.trans (hb4.mono hsz2)) T8 (Nat.le_refl _) (by have:=hb4.size;omega)
      clear E own5 own6 T8 f0 q0 t0 hpkw;generalize ((((((((w4.setCell ⟨w.heap.size,0,none⟩ (.int .i64 p.h.host)).setCell ⟨w.heap.size,1,none⟩ (.int .i64 p.h.epoch)).setCell ⟨w.heap.size,2,none⟩ (.int .i64 p.h.seq)).setCell ⟨w.heap.size,3,none⟩ (.int .i64 p.zone)).setCell ⟨w.heap.size,4,none⟩ (.int .i64 p.cap)).setCell ⟨w.heap.size,5,none⟩ (.int .i64 p.at_)).setCell ⟨w.heap.size,6,none⟩ (.slice A5 p.buf.length c5)).setCell ⟨w.heap.size,7,none⟩ (.slice A6 p.l.length c6))=w5 at B8 C1 own7 own8 ownB own6' hb5 ⊢;go_wp2_with fail;go_loopw [64] (fun i wr=>Add2 K w wr p (.slice A5 p.buf.length c5) l (.slice A7 l.length c7) (.slice A8 mb.length c8) i) (fun i _=>l.length-(intOf i).toNat)
      case atStart=>
       refine ⟨0,A6,c6,rfl,Nat.zero_le _,B8,?_,own7,?_,ownB,C1,hb5⟩
       · rw [List.take_zero,List.append_nil];exact own6'
       · rw [HMB.out];exact own8
      case round=>
       obtain ⟨j,A6,c6,rfl,hj,C0,ownL,own7,own8,ownB,C1,hbw⟩:=hrel;have hsz:=hbw.size;by_cases hlt:j<l.length
       · obtain ⟨ad,es,hA,hKad,hes,hcell⟩:=(hl0.step hbw).at_ (List.getElem?_eq_getElem hlt)
         subst hA;have hjr:l[j]?=some l[j]:=List.getElem?_eq_getElem hlt;have hokr:=hok l[j] (List.getElem_mem hlt);generalize l[j]=r at hjr hokr hes;obtain ⟨vd,rfl,hvd,hnums⟩:=hes;have hsz7:Rp.rc.size=7:=rfl;rw [hsz7] at hcell;have hc0:wr.cell? (ad.add (j*7))=some (.int .i64 r.kind):=by rw [←addr0 (ad.add (j*7))];exact hcell 0 _ rfl
         have hc1:wr.cell? ⟨(ad.add (j*7)).block,(ad.add (j*7)).off+1,none⟩=some (.int .i64 r.lba):=by rw [←addrS _ 1 (by decide)];exact hcell 1 _ rfl
         have hc2:wr.cell? ⟨(ad.add (j*7)).block,(ad.add (j*7)).off+2,none⟩=some (.int .i64 r.n):=by rw [←addrS _ 2 (by decide)];exact hcell 2 _ rfl
         have hc3:wr.cell? ⟨(ad.add (j*7)).block,(ad.add (j*7)).off+3,none⟩=some (.int .i64 r.ver):=by rw [←addrS _ 3 (by decide)];exact hcell 3 _ rfl
         have hc4:wr.cell? ⟨(ad.add (j*7)).block,(ad.add (j*7)).off+4,none⟩=some (.int .i64 r.zone):=by rw [←addrS _ 4 (by decide)];exact hcell 4 _ rfl
         have hc5:wr.cell? ⟨(ad.add (j*7)).block,(ad.add (j*7)).off+5,none⟩=some (.int .i64 r.off):=by rw [←addrS _ 5 (by decide)];exact hcell 5 _ rfl
         have hc6:wr.cell? ⟨(ad.add (j*7)).block,(ad.add (j*7)).off+6,none⟩=some vd:=by rw [←addrS _ 6 (by decide)];exact hcell 6 _ rfl
         clear hcell;obtain ⟨Ad,cd,rfl,hdl⟩:=isB_form hvd;obtain ⟨q,hq⟩:∃ q,p.l++l.take j=q:=⟨_,rfl⟩;have hqn:q.length=p.l.length+j:=by rw [←hq,List.length_append,List.length_take];omega
         have hqs:p.l++l.take (j+1)=q++[r]:=by rw [take_snoc l hjr,←List.append_assoc,hq]
         rw [hq,←hqn] at ownL;rw [←hqn] at C0;have hq12:q.length≤1100000000000:=by omega
         have HQN:=Lib.hid hqn;have HQS:=Lib.hid hqs;have HN:=Lib.hid hnums;clear hq hqn hqs hnums hjr;replace ownL:=ownL.more (X':=fun b=>((b≠w.heap.size∧b≠w.heap.size+1∧(K b∨w.heap.size+2≤b))∧some b≠(Value.slice A5 p.buf.length c5).ownBlock)∧b<wr.heap.size) (fun b hb hl=>⟨hb,hl⟩)
         have E:=(((((((Kn.start wr).give Stable.bytes hvd).give Stable.ownI own7).give Stable.ownI own8).give Stable.ownI ownB).give Stable.ownRc ownL).know C0).know C1;replace E:=E.push 135 #[.int .i64 r.kind,.int .i64 r.lba,.int .i64 r.n,.int .i64 r.ver,.int .i64 r.zone,.int .i64 r.off,.slice Ad r.data.length cd];have hLlt:=ownL.lt;have h7lt:=own7.lt;have h8lt:=own8.lt;have hBlt:=ownB.lt;have hlt0:=C0.lt;have hlt1:=C1.lt;clear own7 own8 ownB ownL C0 C1;go_wp2_with fail;refine (cloneB_any _ r.data K' _ (E.get m4)).mono ?_;rintro e w4 ⟨A4,c4,rfl,own4,hb4⟩;replace E:=E.step hb4;obtain ⟨q0,f0,t0⟩:=E.rules m0;go_upto_region 19 with fail;simp only [World.size_alloc] at own4;have Bg:=(E.at_ m0).set_ 6 (.slice A4 r.data.length c4);have D0:=(E.at_ m2).far (p:=⟨wr.heap.size,6,none⟩) (by simp;omega) (.slice A4 r.data.length c4)
         have D1:=(E.at_ m1).far (p:=⟨wr.heap.size,6,none⟩) (by simp;omega) (.slice A4 r.data.length c4)
         have own7:=own_set_far (g:=wr.heap.size) (E.get m3) (fun e=>by have:=(h7lt _ e).2;omega) 6 (.slice A4 r.data.length c4)
         have own8:=own_set_far (g:=wr.heap.size) (E.get m2) (fun e=>by have:=(h8lt _ e).2;omega) 6 (.slice A4 r.data.length c4)
         have ownB:=own_set_far (g:=wr.heap.size) (E.get m1) (fun e=>by have:=(hBlt _ e).2;omega) 6 (.slice A4 r.data.length c4)
         have ownL:=OwnR.far' (g:=wr.heap.size) (E.get m0) (fun e=>by have:=(hLlt _ e).2;omega) (fun h=>by have:=h.2;omega) 6 (.slice A4 r.data.length c4)
         have ownD:=own_set_far (g:=wr.heap.size) own4 (fun e=>by have:=(own4.lt _ e).1;omega) 6 (.slice A4 r.data.length c4)
         have hb5:Below w.heap.size w (w4.setCell ⟨wr.heap.size,6,none⟩ (.slice A4 r.data.length c4)):=Below.setCell (hbw.trans (E.below.mono hsz)) hsz _;have hs5:wr.heap.size≤(w4.setCell ⟨wr.heap.size,6,none⟩ (.slice A4 r.data.length c4)).heap.size:=by simpa [World.setCell] using E.below.size
         clear E q0 f0 t0 own4;generalize w4.setCell ⟨wr.heap.size,6,none⟩ (.slice A4 r.data.length c4)=w5 at Bg D0 D1 own7 own8 ownB ownL ownD hb5 hs5 ⊢;obtain ⟨q0,f0⟩:=D0.rules;obtain ⟨q1,f1⟩:=Bg.rules;have t0:=D0.lt;obtain ⟨i7,hi7,hx0,hx1,hx2⟩:=info_parts Tryz.infR;obtain ⟨_,cs,hown,hcl⟩:=ownL.open_;have hst:Below w5.heap.size w5 (w5.alloc (.cells #[.int .i64 r.kind,.int .i64 r.lba,.int .i64 r.n,.int .i64 r.ver,.int .i64 r.zone,.int .i64 r.off,.slice A4 r.data.length c4] 135)):=(Below.refl _ _).alloc (Nat.le_refl _) _;have hown':=own_below hown hst (Nat.le_refl _);have hrn:Reads (w5.alloc (.cells #[.int .i64 r.kind,.int .i64 r.lba,.int .i64 r.n,.int .i64 r.ver,.int .i64 r.zone,.int .i64 r.off,.slice A4 r.data.length c4] 135)) (fun b=>b=w5.heap.size) 7 (some ⟨w5.heap.size,0,none⟩) 1 [.int .i64 r.kind,.int .i64 r.lba,.int .i64 r.n,.int .i64 r.ver,.int .i64 r.zone,.int .i64 r.off,.slice A4 r.data.length c4]:=Reads.new rfl rfl rfl
         go_wp2_with (first
          | (at_builtin;go_must (refine wpList_appN rfl _ _ _ rfl (w.heap.size+2) 135 i7 _ 7 72 Tryz.underlying37 hi7 hx0 hx1 hx2 rfl (by omega) rfl hown' rfl hrn (by simp [Value.oneCell']) (by simp only [maxLen];omega) (by omega) (by simp;omega) ?_);intro A8' c8' w6 own6 hg6
             have D0':=(D0.step hst).grew hown' (by decide) hg6
             have D1':=(D1.step hst).grew hown' (by decide) hg6
             have own7':=own_grew (own_below own7 hst (Nat.le_refl _)) hown' (by decide) hg6
             have own8':=own_grew (own_below own8 hst (Nat.le_refl _)) hown' (by decide) hg6
             have ownB':=own_grew (own_below ownB hst (Nat.le_refl _)) hown' (by decide) hg6
             obtain ⟨q6,f6⟩:=D0'.rules;have t6:=D0'.lt))
         have hs6:=hg6.below.size;have hsa:(w5.alloc (.cells #[.int .i64 r.kind,.int .i64 r.lba,.int .i64 r.n,.int .i64 r.ver,.int .i64 r.zone,.int .i64 r.off,.slice A4 r.data.length c4] 135)).heap.size=w5.heap.size+1:=World.size_alloc ..;have hcl':=(hcl.step hst).more (K':=fun b=>((b≠w.heap.size∧b≠w.heap.size+1∧(K b∨w.heap.size+2≤b))∧some b≠(Value.slice A5 p.buf.length c5).ownBlock)∧b<(w5.alloc (.cells #[.int .i64 r.kind,.int .i64 r.lba,.int .i64 r.n,.int .i64 r.ver,.int .i64 r.zone,.int .i64 r.off,.slice A4 r.data.length c4] 135)).heap.size∧some b≠(Value.slice A6 q.length c6).ownBlock) (fun b hb=>⟨hb.1.1,by rw [hsa];omega,hb.2.2⟩)
         have ownD':=own_below ownD hst (Nat.le_refl _);have hDB:Rp.rc.is (w5.alloc (.cells #[.int .i64 r.kind,.int .i64 r.lba,.int .i64 r.n,.int .i64 r.ver,.int .i64 r.zone,.int .i64 r.off,.slice A4 r.data.length c4] 135)) (fun b=>((b≠w.heap.size∧b≠w.heap.size+1∧(K b∨w.heap.size+2≤b))∧some b≠(Value.slice A5 p.buf.length c5).ownBlock)∧b<(w5.alloc (.cells #[.int .i64 r.kind,.int .i64 r.lba,.int .i64 r.n,.int .i64 r.ver,.int .i64 r.zone,.int .i64 r.off,.slice A4 r.data.length c4] 135)).heap.size∧some b≠(Value.slice A6 q.length c6).ownBlock) [.int .i64 r.kind,.int .i64 r.lba,.int .i64 r.n,.int .i64 r.ver,.int .i64 r.zone,.int .i64 r.off,.slice A4 r.data.length c4] r:=by
          refine ⟨_,rfl,⟨A4,c4,rfl,(Reads.of_own ownD').more (fun b hb=>?_),own_cap ownD',own_cap63 ownD',hdl⟩,HN.out⟩
          have h1:=ownD'.lt b hb.symm;exact ⟨⟨⟨by omega,by omega,.inr (by omega)⟩,fun e=>by have:=(hBlt b e.symm).2;omega⟩,h1.2,fun e=>by have:=(hLlt b e.symm).2;omega⟩
         have hpush:=OwnR.push hcl' hDB own6 hg6;rw [←HQS.out] at hpush;refine ⟨⟨j+1,A8',c8',by go_num,by omega,?_,?_,own_set_far (g:=w.heap.size) own7' (fun e=>by have:=(own7'.lt _ e).1;omega) 7 _,own_set_far (g:=w.heap.size) own8' (fun e=>by have:=(own8'.lt _ e).1;omega) 7 _,own_set_far (g:=w.heap.size) ownB' (fun e=>by have:=(ownB'.lt _ e).1;omega) 7 _,D1'.far (p:=⟨w.heap.size,7,none⟩) (by simp) _,Below.setCell (hb5.trans ((hst.mono (by omega)).trans (hg6.below.mono (by omega)))) (Nat.le_refl _) _⟩,by simp [intOf];omega⟩
         · rw [show p.l.length+(j+1)=q.length+1 by have:=HQN.out;omega]
           exact b8_7 D0' _
         · rw [show p.l.length+(j+1)=q.length+1 by have:=HQN.out;omega]
           exact OwnR.far' (g:=w.heap.size) hpush (fun e=>by have:=(hpush.lt _ e).1;omega) (fun h=>h.1.1 rfl) 7 _
       · obtain rfl:j=l.length:=by omega
         rw [List.take_length] at ownL;rw [HMB.out] at own8;have hr8:=Reads.of_own own8;obtain ⟨q0,f0⟩:=C0.rules;have t0:=C0.lt;have hbs:=hbw.size;have hBne:∀ b,((b≠w.heap.size∧b≠w.heap.size+1∧(K b∨w.heap.size+2≤b))∧some b≠(Value.slice A5 p.buf.length c5).ownBlock)→some b≠(Value.slice A5 p.buf.length c5).ownBlock:=fun b h=>h.2
         go_upto_region 22 with (at_builtin;go_must (refine wpList_appN rfl _ _ _ rfl (w.heap.size+2) 5 i0 _ 1 1 Tryz.underlying36 hi hz0 hz1 hz2 rfl (by omega) rfl ownB rfl hr8 (cells8_one mb) (by simp only [maxLen];omega) (by omega) (by have:=C1.lt;omega) ?_);intro A9 c9 w6 own9 hg9;have D0:=C0.grew ownB (by decide) hg9;obtain ⟨q6,f6⟩:=D0.rules;have t6:=D0.lt)
         have D1:=C1.grew ownB (by decide) hg9
         have own7':=own_grew own7 ownB (by decide) hg9
         have ownL':=ownL.grew ownB (by decide) hBne hg9
         have hs9:=hg9.below.size;have hb9:=hbw.trans (hg9.below.mono (show w.heap.size≤w.heap.size+2 by omega))
         have F0:=b8_6 D0 (.slice A9 (p.buf.length+mb.length) c9);have F1:=D1.far (p:=⟨w.heap.size,6,none⟩) (by simp) (.slice A9 (p.buf.length+mb.length) c9)
         have own7:=own_set_far (g:=w.heap.size) own7' (fun e=>by have:=(own7'.lt _ e).1;omega) 6 (.slice A9 (p.buf.length+mb.length) c9)
         have own9':=own_set_far (g:=w.heap.size) own9 (fun e=>by have:=(own9.lt _ e).1;omega) 6 (.slice A9 (p.buf.length+mb.length) c9)
         have ownL:=OwnR.far' (g:=w.heap.size) ownL' (fun e=>by have:=(ownL'.lt _ e).1;omega) (fun h=>h.1.1 rfl) 6 (.slice A9 (p.buf.length+mb.length) c9)
         have hb7:Below w.heap.size w (w6.setCell ⟨w.heap.size,6,none⟩ (.slice A9 (p.buf.length+mb.length) c9)):=hb9.setCell (Nat.le_refl _) _;have hs7:w.heap.size≤(w6.setCell ⟨w.heap.size,6,none⟩ (.slice A9 (p.buf.length+mb.length) c9)).heap.size:=by simpa [World.setCell] using hb9.size
         clear own8 ownB own9 own7' ownL' D0 D1 C0 C1 q0 f0 t0 q6 f6 t6 hr8 hb9 hs9 hg9;generalize w6.setCell ⟨w.heap.size,6,none⟩ (.slice A9 (p.buf.length+mb.length) c9)=w7 at F0 F1 own7 own9' ownL hb7 hs7 ⊢;obtain ⟨q0,f0⟩:=F0.rules;obtain ⟨q1,f1⟩:=F1.rules;have t0:=F0.lt;have t1:=F1.lt;go_wp2_with fail;have h8:=st8_all F1 (.int .i64 p.h.host) (.int .i64 p.h.epoch) (.int .i64 p.h.seq) (.int .i64 p.zone) (.int .i64 p.cap) (.int .i64 p.at_) (.slice A9 (p.buf.length+mb.length) c9) (.slice A6 (p.l.length+l.length) c6);unfold st8 at h8;obtain ⟨B8,T8⟩:=h8;have own7b:=own_turned own7 T8 (by omega)
         have own9b:=own_turned own9' T8 (by omega)
         have ownLb:=OwnR.turned ownL T8 (fun b hb=>hb.1.2.1) (fun b hb=>by omega)
         have hb10:=below_turned hb7 T8 (by omega) hs7
         generalize ((((((((w7.setCell ⟨w.heap.size+1,0,none⟩ (.int .i64 p.h.host)).setCell ⟨w.heap.size+1,1,none⟩ (.int .i64 p.h.epoch)).setCell ⟨w.heap.size+1,2,none⟩ (.int .i64 p.h.seq)).setCell ⟨w.heap.size+1,3,none⟩ (.int .i64 p.zone)).setCell ⟨w.heap.size+1,4,none⟩ (.int .i64 p.cap)).setCell ⟨w.heap.size+1,5,none⟩ (.int .i64 p.at_)).setCell ⟨w.heap.size+1,6,none⟩ (.slice A9 (p.buf.length+mb.length) c9)).setCell ⟨w.heap.size+1,7,none⟩ (.slice A6 (p.l.length+l.length) c6))=w9 at B8 own7b own9b ownLb hb10 ⊢;obtain ⟨q9,f9⟩:=B8.rules;refine bodyPost_ret (v:=.tuple #[.agg #[.int .i64 p.h.host,.int .i64 p.h.epoch,.int .i64 p.h.seq,.int .i64 p.zone,.int .i64 p.cap,.int .i64 p.at_,.slice A9 (p.buf.length+mb.length) c9,.slice A6 (p.l.length+l.length) c6],.slice A7 l.length c7,.int .i64 0]) (by simp [results,Tryz.results161,go_sem,q9]) rfl ?_
         rw [HO.out];have hlp:=plsL_len l (p.at_+p.buf.length);rw [←cells8_append] at own9b;refine ⟨pkV ⟨p.h,p.zone,p.cap,p.at_,p.buf++mb,p.l++l⟩ (.slice A9 (p.buf.length+mb.length) c9) (.slice A6 (p.l.length+l.length) c6),A7,c7,by rw [hlp];rfl,⟨_,_,rfl,?_,?_⟩,by rw [hlp];exact own_base own7b (by omega),hb10⟩
         · refine ⟨A9,c9,by rw [List.length_append],?_,?_,own_cap63 own9b,?_⟩
           · rw [List.length_append]
             exact (Reads.of_own own9b).more (fun b hb=>⟨(own9b.lt b hb.symm).2,.inr (by have:=(own9b.lt b hb.symm).1;omega)⟩)
           · rw [List.length_append]
             exact own_cap own9b
           · rw [List.length_append]
             omega
         · have hll2:(p.l++l).length=p.l.length+l.length:=List.length_append
           have:=OwnR.isLt (X':=fun b=>b<w9.heap.size∧(K b∨w.heap.size≤b)) ownLb (by rw [hll2];omega) (fun b h h2=>⟨h,.inr (by omega)⟩) (fun b h h2=>⟨h,h2.1.2.2.imp id (by omega)⟩)
           exact this
end Go.Proofs.YtjahaflkdpmhpaaGreat
