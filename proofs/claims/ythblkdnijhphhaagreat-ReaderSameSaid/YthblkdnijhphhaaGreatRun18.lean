/- A part of the proof. -/
import Derived.Test.YthblkdnijhphhaaGreatReset
set_option linter.unusedSimpArgs false
set_option maxHeartbeats 16000000
set_option maxRecDepth 100000
namespace Go.Proofs.YthblkdnijhphhaaGreat
open Go.RowKit
theorem zn4 {P:Nat→Prop} (h:∃ k,P k):∃ k,P k∧∀ j,P j→k≤j:=by
 obtain ⟨k,hk⟩:=h;induction k using Nat.strongRecOn with
 | ind k ih=>
   by_cases hj:∃ j,j<k∧P j
   · obtain ⟨j,h1,h2⟩:=hj;exact ih j h1 h2
   · exact ⟨k,hk,fun j h=>Nat.le_of_not_lt fun hlt=>hj ⟨j,hlt,h⟩⟩
theorem znt {P:Nat→Prop} {k:Nat} (h:P k):P (Classical.epsilon fun k=>P k∧∀ j,P j→k≤j)∧(Classical.epsilon fun k=>P k∧∀ j,P j→k≤j)≤k:=by
 have h1:=Classical.epsilon_spec (zn4 ⟨k,h⟩);exact ⟨h1.1,h1.2 k h⟩
theorem znG {w:World} {K:Nat→Prop} {h:Ho} {cs:Array Value} {A:Option Addr} {c:Nat} {m:List Ex} (hh:IsHo w K (.agg cs) h) (hm:IsL Rp.ex w K (.slice A m.length c) m) :
 IsHo w K (.agg (cs.setIfInBounds 12 (.slice A m.length c))) ⟨h.id,h.own,h.s,h.opn,h.p,m,h.ver,h.seq⟩∧(cs.setIfInBounds 12 (.slice A m.length c)).size=15∧(cs.setIfInBounds 12 (.slice A m.length c)).toList.all (·.oneCell')=true:=by
 obtain ⟨Ao,co,As,cs',Ab,cb,Al,cl,Am,cm,e⟩:=ziH hh;obtain ⟨vo,vs,vb,vl,vm,e2,h1,h2,h3,h4,h5⟩:=hh;injection e with e;injection e2 with e2;have e3:=e.symm.trans e2;simp only [hoC,Array.mk.injEq,List.cons.injEq,and_true,true_and] at e3;obtain ⟨rfl,rfl,rfl,rfl,rfl⟩:=e3;subst e;exact ⟨⟨_,_,_,_,_,rfl,h1,h2,h3,h4,hm⟩,rfl,rfl⟩
theorem Q4.made {K:Nat→Prop} {w wr:World} {gd gh rd rh:Nat} {d:Zd} {A:Option Addr} {c:Nat} {h:Ho} {cs:Array Value} (q:Q4 K w gd gh rd rh wr d A c h cs) {wy:World} {g:Nat} (ht:za0 wr wy (fun b=>b=g)) (hg:rh<g) :
 Below w.heap.size w wy∧Blk wy gd 27 (zdC d A c)∧Blk wy gh 38 cs∧(∃ a0 a1 a2 a3,Blk wy rd 27 #[a0,a1,a2,a3])∧∃ cs',Blk wy rh 38 cs'∧cs'.size=15:=by
 have ho:=q.ord;obtain ⟨a0,a1,a2,a3,hr⟩:=q.rd;obtain ⟨cr,hr',hn⟩:=q.rh;exact ⟨za0.upon q.below ht (by omega) (Nat.le_refl _),q.dev.turned ht (by omega),q.host.turned ht (by omega),⟨a0,a1,a2,a3,hr.turned ht (by omega)⟩,cr,hr'.turned ht (by omega),hn⟩
section
variable {n:Nat} {M B:Int} {F:Nat→Int} {S:List Sp} {d0:Zd} {h0:Ho}
structure RunR (n:Nat) (M:Int) (F:Nat→Int) (B:Int) (S:List Sp) (d0:Zd) (h0:Ho) (z:Int) (k:Nat) (d:Zd) (h:Ho):Prop where
 j:JInv n M F B S d h
 same:zcN d0.z h0.m d.z h.m
 ver:h.ver=h0.ver
 cnt:cntJ h.m z B=k
 seq:h.seq+k≤h0.seq+cntJ h0.m z B
end
theorem zo8 {n:Nat} {M B:Int} {F:Nat→Int} {S:List Sp} {d:Zd} {h:Ho} (hi:JInv n M F B S d h) (hS:S.length≤1000000) (hv:h.ver≤900000) (hsq:h.seq≤800000) (z:Int) (hz:0≤z∧z<n) (Az:Option Addr) (cz:Nat) (v:Value) (K:Nat→Prop) (w:World) (hzl:IsL Rp.zone w K (.slice Az d.z.length cz) d.z) (hho:IsHo w K v h) (hK:∀ b,K b→b<w.heap.size) :
 Calls Tryz.prog 22 #[.agg (zdC d Az cz),v,.int .i64 z] w fun e w'=>∃ dv vh er d' h',e=.returned (.tuple #[dv,vh,.int .i64 er])∧ze6 w' (fun b=>K b∨w.heap.size≤b) dv vh d' h'∧(er=0→JInv n M F B S d' h'∧zcN d.z h.m d'.z h'.m∧h'.ver=h.ver∧h'.seq≤h.seq+B+1)∧Below w.heap.size w w':=by
 obtain ⟨hc,rfl,hn15,h115,-⟩:=zbu hho;have Q:=Q4.start (a0:=.int .i64 0) (a1:=.int .i64 0) (a2:=.int .i64 0) (a3:=.slice none 0 0) (cr:=#[.int .i64 0,.slice none 0 0,.slice none 0 0,.bool false,.int .i64 0,.int .i64 0,.int .i64 0,.int .i64 0,.int .i64 0,.int .i64 0,.slice none 0 0,.slice none 0 0,.slice none 0 0,.int .i64 0,.int .i64 0]) hzl hho hn15 h115 hK rfl;have R0:RunR n M F B S d h z (cntJ h.m z B) d h:=⟨hi,zcN.refl _ _,rfl,rfl,by omega⟩
 have hn:=hi.n64;have hcj:=zon h.m z B;have hB:=hi.bnd;clear hzl hho;go_enter Tryz.func22,Tryz.ntmps22
 go_wp2_with fail;generalize (((w.alloc (.cells (zdC d Az cz) 27)).alloc (.cells hc 38)).alloc (.cells #[.int .i64 0,.int .i64 0,.int .i64 0,.slice none 0 0] 27)).alloc (.cells #[.int .i64 0,.slice none 0 0,.slice none 0 0,.bool false,.int .i64 0,.int .i64 0,.int .i64 0,.int .i64 0,.int .i64 0,.int .i64 0,.slice none 0 0,.slice none 0 0,.slice none 0 0,.int .i64 0,.int .i64 0] 38)=w1 at Q ⊢;obtain ⟨P,hP⟩:∃ P:World→Nat→Prop,∀ wr k,P wr k↔∃ d1 A1 c1 h1 cs1,RunR n M F B S d h z k d1 h1∧Q4 K w w.heap.size (w.heap.size+1) (w.heap.size+1+1) (w.heap.size+1+1+1) wr d1 A1 c1 h1 cs1:=⟨_,fun _ _=>Iff.rfl⟩
 go_loopw [9,10,11,12] (fun x9 x10 x11 x12 wr=>(∃ k,P wr k)∧(∃ y,x9=y)∧(∃ y,x10=y)∧(∃ y,x11=y)∧∃ y,x12=y) (fun _ _ _ _ wr=>Classical.epsilon fun k=>P wr k∧∀ j,P wr j→k≤j)
 case atStart=>exact ⟨⟨_,(hP _ _).2 ⟨_,_,_,_,_,R0,Q⟩⟩,⟨_,rfl⟩,⟨_,rfl⟩,⟨_,rfl⟩,_,rfl⟩
 case round=>
  clear Q R0;obtain ⟨⟨k0,hk0⟩,⟨y9,rfl⟩,⟨y10,rfl⟩,⟨y11,rfl⟩,y12,rfl⟩:=hrel;have he1:=(znt hk0).1;generalize hkk:(Classical.epsilon fun k=>P wr k∧∀ j,P wr j→k≤j)=k at he1
  clear hk0;obtain ⟨d1,A1,c1,h1,cs1,R1,Q1⟩:=(hP _ _).1 he1;have hj:=R1.j;have hv1:h1.ver≤900000:=by rw [R1.ver];exact hv
  have hs1:h1.seq≤900000:=by have:=R1.seq;omega
  have hz9:z≤1000000:=by omega
  have hrec:∀ L x,InE h1.m z L→L.head?=some x→errL [recX d1 h1 z x]=0∧(zgx d1 h1 x).length≤1000000∧((putH d1 h1 [recX d1 h1 z x]).2.2.2=0→(putH d1 h1 [recX d1 h1 z x]).2.2.1.length=1):=fun L x hL hx=>by
   obtain ⟨g1,g2⟩:=hj.rec5 hL hx hz.1 hv1;obtain ⟨a1,a2,a3,a4,a5,a6,a7,a8,a9⟩:=hj.piece hL hx hz.1;have hp2:=a2.pos;unfold endE at a4;refine ⟨g2,by omega,fun e=>?_⟩
   rcases put_gen hj (by simp) g2 (by simpa using g1) hs1 with hno | ⟨k,hd,sq,zs,at_,hp⟩
   · rw [hno] at e;simp at e
   · rw [hp.put];exact hp.place.1
  obtain ⟨Am,cm,c12,hm,-⟩:=zhi Q1.hv;have k12:=(Q1.host.cell 12).trans c12;have hco:=zk2 d1 A1 c1 h1 (.agg cs1) Am cm z (fun b=>Kq K w.heap.size (w.heap.size+1+1+1) b∧b<wr.heap.size) _ wr Q1.zl.zlt (IsHo.lt Q1.hv) hm (fun b hb=>hb.2) hj.okd (hj.okho (by omega)) (hj.small hS) hj.chain hj.fit hz.1 hz9 (fun e he=>by have:=hj.oldE e he;omega) hrec
  obtain ⟨qd,fd⟩:=Q1.dev.rules;have f12:=Q1.host.rules.2;have HKK:=Lib.hid hkk;clear hrec hm c12 hkk;go_wp2_with (refine zbM Q1.host Q1.n rfl rfl rfl ?_);refine hco.mono ?_;rintro e w2 ⟨L,hL,dv,vh,Aa,ca,rfl,hmv,⟨⟨A2,c2,rfl,hz2⟩,hh2⟩,hb2⟩;obtain ⟨cs2,rfl,hn2,h12,-⟩:=zbu hh2;have Q2:=Q1.step hb2;replace hz2:=Q1.kz hz2;replace hh2:=Q1.kh hh2;have hL':=Lib.hid hL;obtain ⟨r,hr⟩:∃ r,zd6 d1 h1 z L=r:=⟨_,rfl⟩;rw [hr] at hmv hz2 hh2 ⊢;have HR:=Lib.hid hr;obtain ⟨e0,he0⟩:∃ e0,r.2.2.2=e0:=⟨_,rfl⟩;rw [he0];have HE0:=Lib.hid he0;clear hco qd fd f12 k12 hb2 hL hr he0;go_upto_region 2 with (refine zcJ rfl rfl (by first | rfl | simp [Act.eval,World.size_alloc]) rfl rfl hn2 h12 ?_)
  have hb3:Below w2.heap.size w2 ((w2.alloc (.cells (zdC r.1 A2 c2) 27)).alloc (.cells cs2 38)):=((Below.refl _ _).alloc (Nat.le_refl _) _).alloc (by rw [World.size_alloc];omega) _
  have hBx:=(Blk.new w2 27 (zdC r.1 A2 c2) rfl).alloc (.cells cs2 38);have hBk:=Blk.new (w2.alloc (.cells (zdC r.1 A2 c2) 27)) 38 cs2 rfl;have hlt2:=Q2.lt;rw [World.size_alloc] at hBk;have Q3:=Q2.step hb3;replace hz2:=(hz2.zlt).step hb3;replace hh2:=(IsHo.lt hh2).step hb3;replace hmv:=(IsL.ltG (fun _ _ h=>h) (by decide) hmv).step hb3
  generalize (w2.alloc (.cells (zdC r.1 A2 c2) 27)).alloc (.cells cs2 38)=w3 at hBx hBk Q3 hz2 hh2 hmv ⊢;obtain ⟨gx,hgx⟩:∃ gx,w2.heap.size=gx:=⟨_,rfl⟩;rw [hgx] at hBx hBk hlt2 hz2 hh2 hmv ⊢;clear hb3 Q2 hgx Q1;cases hhd:L.head? with
  | none=>
    have hr4:r=(zaS,zc5,[],4):=by rw [←HR.out];unfold zd6;rw [hhd]
    obtain rfl:(4:Int)=e0:=by rw [←HE0.out,hr4]
    have hre:=zjI hj hS hv1 hs1 z hz A1 c1 (.agg cs1) (fun b=>Kq K w.heap.size (w.heap.size+1+1+1) b∧b<w3.heap.size) w3 Q3.zl.zlt (IsHo.lt Q3.hv) (fun b hb=>hb.2)
    have hrs:=hj.resets (z:=z) hz hv1 hs1;obtain ⟨R,hR⟩:∃ R,zbo d1 h1 z=R:=⟨_,rfl⟩;rw [hR] at hre hrs;have HRS:=Lib.hid hrs;obtain ⟨qd,fd⟩:=Q3.dev.rules;clear hr4 hhd hBx hBk hz2 hh2 hmv HR HE0 hL' HKK he1 hrs hR;go_wp2_with (refine zbM Q3.host Q3.n rfl rfl rfl ?_);refine hre.mono ?_;rintro e w4 ⟨dv,vh,rfl,⟨⟨A4,c4,rfl,hz4⟩,hh4⟩,hb4⟩;obtain ⟨cs4,rfl,hn4,h14,-⟩:=zbu hh4;have Q4':=Q3.step hb4;replace hz4:=Q3.kz hz4;replace hh4:=Q3.kh hh4;obtain ⟨a0,a1,a2,a3,hRd⟩:=Q4'.rd;obtain ⟨cr,hRh,hnr⟩:=Q4'.rh;have hbw:=Q4'.below;clear hre qd fd hb4 Q3;go_wp2_with (first | (refine zbE hRd rfl rfl rfl rfl rfl (by rfl) (by rfl) ?_;intro w8 hs8 ht8 hB8) | (refine zd3 (hRh.turned ht8 (by omega)) hnr rfl rfl rfl rfl hn4 h14 ?_;intro w9 hs9 ht9 hB9))
    have hl1:=zbz hB9 hn4;have hl0:=zaY (hB8.turned ht9 (by omega)) rfl
    have hb9:=za0.upon (za0.upon hbw ht8 (by omega) (Nat.le_refl _)) ht9 (by omega) (Nat.le_refl _)
    have hz9':=(hz4.turned ht8 (fun b hb e=>(Q4'.far hb).2.2.1 e)).turned ht9 (fun b hb e=>(Q4'.far hb).2.2.2 e)
    have hh9':=IsHo.keep (IsHo.keep hh4 (ht8.cells (K:=Kq K w.heap.size (w.heap.size+1+1+1)) fun _ hb e=>(Q4'.far hb).2.2.1 e)) (ht9.cells (K:=Kq K w.heap.size (w.heap.size+1+1+1)) fun _ hb e=>(Q4'.far hb).2.2.2 e)
    refine bodyPost_ret (v:=.tuple #[.agg (zdC R.1 A4 c4),.agg cs4,.int .i64 R.2.2]) (by simp [results,Tryz.results22,asAddr,hl0,hl1,Result.andThen]) rfl ⟨_,_,_,R.1,R.2.1,rfl,⟨⟨A4,c4,rfl,hz9'.more fun b hb=>by rcases hb with hb | hb;exact .inl hb.1;exact .inr (by omega)⟩,IsHo.more hh9' fun b hb=>by rcases hb with hb | hb;exact .inl hb.1;exact .inr (by omega)⟩,fun h=>?_,hb9⟩
    obtain ⟨u1,u2,u3,u4⟩:=HRS.out h;have:=R1.seq;exact ⟨u1,R1.same.trans u2,u3.trans R1.ver,by omega⟩
  | some x=>
    cases hwr:zaw h1 z with
    | true=>
      have hr6:r=(zaS,zc5,[],60):=by rw [←HR.out];unfold zd6;rw [hhd];simp only [hwr,if_true]
      obtain rfl:(60:Int)=e0:=by rw [←HE0.out,hr6]
      clear hr6 hhd hBx hBk hz2 hh2;obtain ⟨a0,a1,a2,a3,hRd⟩:=Q3.rd;obtain ⟨cr,hRh,hnr⟩:=Q3.rh;have hbw:=Q3.below;clear HKK HR HE0 hL' he1 hmv;go_wp2_with (first | (refine zbE hRd rfl rfl rfl rfl rfl (by rfl) (by rfl) ?_;intro w8 hs8 ht8 hB8) | (refine zd3 (hRh.turned ht8 (by omega)) hnr rfl rfl rfl rfl rfl rfl ?_;intro w9 hs9 ht9 hB9))
      have hl1:=zbz hB9 rfl;have hl0:=zaY (hB8.turned ht9 (by omega)) rfl
      have hb9:=za0.upon (za0.upon hbw ht8 (by omega) (Nat.le_refl _)) ht9 (by omega) (Nat.le_refl _)
      exact bodyPost_ret (v:=.tuple #[.agg #[.int .i64 0,.int .i64 0,.int .i64 0,.slice none 0 0],.agg #[.int .i64 0,.slice none 0 0,.slice none 0 0,.bool false,.int .i64 0,.int .i64 0,.int .i64 0,.int .i64 0,.int .i64 0,.int .i64 0,.slice none 0 0,.slice none 0 0,.slice none 0 0,.int .i64 0,.int .i64 0],.int .i64 60]) (by simp [results,Tryz.results22,asAddr,hl0,hl1,Result.andThen]) rfl ⟨_,_,_,zaS,zc5,rfl,⟨⟨none,0,rfl,IsL.nil_ _ _⟩,⟨_,_,_,_,_,rfl,IsL.nil_ _ _,IsL.nil_ _ _,IsB.nil_ _ _,IsL.nil_ _ _,IsL.nil_ _ _⟩⟩,fun h=>absurd h (by decide),hb9⟩
    | false=>
      obtain ⟨g1,g2⟩:=hj.rec5 hL'.out hhd hz.1 hv1;have hr5:r=((putH d1 h1 [recX d1 h1 z x]).1,(putH d1 h1 [recX d1 h1 z x]).2.1,if (putH d1 h1 [recX d1 h1 z x]).2.2.2=0 then [(zaP z x,⟨x.lba,min x.n 256,x.ver,(putH d1 h1 [recX d1 h1 z x]).2.1.p.zone,(putH d1 h1 [recX d1 h1 z x]).2.2.1.headD 0⟩)] else [],(putH d1 h1 [recX d1 h1 z x]).2.2.2):=by rw [←HR.out];unfold zd6;rw [hhd];simp only [hwr];rfl
      rcases put_gen hj (by simp) g2 (by simpa using g1) hs1 with hno | ⟨kz,hd,sq,zs,at_,hp⟩
      · obtain rfl:(64:Int)=e0:=by rw [←HE0.out,hr5,hno]
        clear hr5 hno hhd hBx hBk hz2 hh2 g1 g2;obtain ⟨a0,a1,a2,a3,hRd⟩:=Q3.rd;obtain ⟨cr,hRh,hnr⟩:=Q3.rh;have hbw:=Q3.below;clear HKK HR HE0 hL' he1 hmv;go_wp2_with (first | (refine zbE hRd rfl rfl rfl rfl rfl (by rfl) (by rfl) ?_;intro w8 hs8 ht8 hB8) | (refine zd3 (hRh.turned ht8 (by omega)) hnr rfl rfl rfl rfl rfl rfl ?_;intro w9 hs9 ht9 hB9))
        have hl1:=zbz hB9 rfl;have hl0:=zaY (hB8.turned ht9 (by omega)) rfl
        have hb9:=za0.upon (za0.upon hbw ht8 (by omega) (Nat.le_refl _)) ht9 (by omega) (Nat.le_refl _)
        exact bodyPost_ret (v:=.tuple #[.agg #[.int .i64 0,.int .i64 0,.int .i64 0,.slice none 0 0],.agg #[.int .i64 0,.slice none 0 0,.slice none 0 0,.bool false,.int .i64 0,.int .i64 0,.int .i64 0,.int .i64 0,.int .i64 0,.int .i64 0,.slice none 0 0,.slice none 0 0,.slice none 0 0,.int .i64 0,.int .i64 0],.int .i64 64]) (by simp [results,Tryz.results22,asAddr,hl0,hl1,Result.andThen]) rfl ⟨_,_,_,zaS,zc5,rfl,⟨⟨none,0,rfl,IsL.nil_ _ _⟩,⟨_,_,_,_,_,rfl,IsL.nil_ _ _,IsL.nil_ _ _,IsB.nil_ _ _,IsL.nil_ _ _,IsL.nil_ _ _⟩⟩,fun h=>absurd h (by decide),hb9⟩
      · obtain ⟨a1,a2,a3,a4,a5,a6,a7,a8,a9⟩:=hj.piece hL'.out hhd hz.1
        obtain ⟨o,rfl,-,-,-⟩:=hp.one;obtain ⟨m1,m2,⟨m3,m4,m5⟩,m6,m7,m8⟩:=hj.moved hL'.out hhd hz.1 hwr hp;have hmin:min x.n 256=x.n:=by have:=hj.bnd;have:=a2.pos;unfold endE at a4;omega
        have hr7:r=(devA M zs,⟨h1.id,h1.own,h1.s,true,⟨hd,kz,M,(zs.getD kz z0).d.length,[],[]⟩,h1.m,h1.ver,sq⟩,[(x,⟨x.lba,x.n,x.ver,kz,o⟩)],0):=by
         rw [hr5,hp.put,a6,hmin];rfl
        obtain rfl:(0:Int)=e0:=by rw [←HE0.out,hr7]
        have hR2:RunR n M F B S d h z (cntJ (putE h1.m (movE h1.m x ⟨x.lba,x.n,x.ver,kz,o⟩)) z B) (devA M zs) ⟨h1.id,h1.own,h1.s,true,⟨hd,kz,M,(zs.getD kz z0).d.length,[],[]⟩,putE h1.m (movE h1.m x ⟨x.lba,x.n,x.ver,kz,o⟩),h1.ver,sq⟩:=
         ⟨m6,R1.same.trans m7,R1.ver,rfl,by
          have h5:=R1.seq;have h6:=R1.cnt;have h7:=hp.seqs.2;show sq+(cntJ (putE h1.m (movE h1.m x ⟨x.lba,x.n,x.ver,kz,o⟩)) z B:Nat)≤_;omega⟩
        have hlt:cntJ (putE h1.m (movE h1.m x ⟨x.lba,x.n,x.ver,kz,o⟩)) z B<k:=by rw [←R1.cnt];exact m8
        subst hr7;have hml:h1.m.length≤1000000:=by have:=hj.len9;have:=hj.bnd;omega
        have hch:=hj.chain;have hzn:x.zone≠-1:=by rw [a3];omega
        have hkn:(kz:Int)≠-1:=by omega
        clear hr5 g1 g2 m1 m3 m6 m7 m8 a4 a5 a6 a7 a8 a9 hmin hp hj R1 HR HE0 hL' hwr hhd;dsimp only [List.length_cons,List.length_nil] at hmv hh2 hz2;obtain ⟨t,ht⟩:∃ t:Ex,(⟨x.lba,x.n,x.ver,kz,o⟩:Ex)=t:=⟨_,rfl⟩;have hsame:t.lba=x.lba∧t.n=x.n∧t.ver=x.ver:=by rw [←ht];exact ⟨rfl,rfl,rfl⟩
        have htz:t.zone≠-1:=by rw [←ht];exact hkn
        rw [ht] at hmv m2 m4 m5 hR2 hlt;obtain ⟨Am2,cm2,c12,hm2,-⟩:=zhi hh2;have hm2':IsL Rp.ex w3 _ (.slice Am2 h1.m.length cm2) h1.m:=hm2;have hc12:cs2[12]?=some (.slice Am2 h1.m.length cm2):=c12;have had:=zjY Am2 cm2 h1.m x t Aa ca _ _ w3 hm2' hmv hml hch a2 m2 hzn htz hsame m4 m5;obtain ⟨pm,hpm⟩:∃ pm,putE h1.m (movE h1.m x t)=pm:=⟨_,rfl⟩;rw [hpm] at had hR2 hlt;have HR2:=Lib.hid hR2;have HLT:=Lib.hid hlt;have k12:=(hBk.cell 12).trans hc12;have f12:=hBk.rules.2;clear hm2 hm2' hc12 c12 hml hch a2 m2 hzn htz hsame m4 m5 hpm hR2 hlt ht a3 hkn;go_wp2_with fail;refine had.mono ?_;rintro e w4 ⟨A4,c4,rfl,hm4,hb4⟩;have hgk:=hBk.lt;have Q4':=Q3.step hb4;have hBx4:=hBx.step hb4;have hBk4:=hBk.step hb4;have hz4:=hz2.step hb4;obtain ⟨hh4,hn4,h14⟩:=znG (K:=fun b=>(Kq K w.heap.size (w.heap.size+1+1+1) b∧b<gx)∨w3.heap.size≤b) (IsHo.more (hh2.step hb4) fun b hb=>.inl hb) (hm4.more fun b hb=>.inr hb)
        obtain ⟨q12,f12⟩:=hBk4.rules;have t12:=hBk4.lt;clear had k12 hBk hBx hmv hh2 hz2 hm4 hb4 Q3;go_upto_region 7 with fail;refine zaR (K:=fun W=>Code.wp _ _ _ _ W) hBk4 12 _ ?_
        intro w5 hs5 ht5 hB5;have hord:=Q4'.ord;obtain ⟨hb5,hd5,hh5,hr5,hrh5⟩:=Q4'.made ht5 (by omega)
        have hBx5:=hBx4.turned ht5 (by omega)
        have hz5:=hz4.turned ht5 (fun b hb e=>by omega)
        have hv5:=IsHo.keep hh4 (ht5.cells (K:=fun b=>(Kq K w.heap.size (w.heap.size+1+1+1) b∧b<gx)∨w3.heap.size≤b) fun b hb e=>by omega)
        have hn1:=Q4'.n;clear hs5 ht5 hBx4 hBk4 hz4 hh4 Q4' q12 f12;generalize hcs3:cs2.setIfInBounds 12 (.slice A4 pm.length c4)=cs3 at hB5 hn4 h14 hv5 ⊢;clear hcs3;have hb0:Below w5.heap.size w5 w5.drew:=(Below.refl _ _).drew;refine wp_region_held_drew (S:=fun W=>(∀ o,W.cell? ⟨gx,o,none⟩=(zdC (devA M zs) A2 c2)[o]?)∧∀ o,W.cell? ⟨gx+1,o,none⟩=cs3[o]?) (by kernel_rfl) ⟨(hBx5.step hb0).rules.1,(hB5.step hb0).rules.1⟩ (fun hHeld=>?_)
        replace hd5:=hd5.step hb0;replace hh5:=hh5.step hb0;replace hBx5:=hBx5.step hb0;replace hB5:=hB5.step hb0;replace hz5:=hz5.step hb0;replace hv5:=hv5.step hb0;replace hb5:=hb5.trans (hb0.mono hb5.size);obtain ⟨a0,a1,a2,a3,hr5⟩:=hr5;obtain ⟨cr,hrh5,hnr⟩:=hrh5;replace hr5:=hr5.step hb0;replace hrh5:=hrh5.step hb0;generalize w5.drew=wx at hd5 hh5 hBx5 hB5 hz5 hv5 hb5 hr5 hrh5 hHeld ⊢;clear hb0;refine wT 0 42 ?_;refine wT 1 43 ?_ (hy:=by intro w hSw;(try dsimp only at hSw);refine Eq.trans (zbi hSw.2 hn4 rfl rfl) ?_;with_reducible rfl)
        refine wRn 2 (fun K hK=>?_)
        refine zc2 rfl hd5 rfl rfl rfl rfl rfl (by rfl) ?_
        intro wy hsy hty hBy;have hBx6:=hBx5.turned hty (by omega)
        have hB6:=hB5.turned hty (by omega)
        refine hK.out _ _ ⟨hBx6.rules.1,hB6.rules.1⟩ (fun hHeld=>?_)
        clear hK K;try simp only [Act.put,List.setIfInBounds_toArray,List.set_cons_zero,List.set_cons_succ]
        refine wRn 3 (fun K hK=>?_)
        refine zde rfl (hh5.turned hty (by omega)) hn1 rfl rfl rfl hn4 h14 ?_
        intro wz hsz htz hBz;refine hK.out _ _ ⟨(hBx6.turned htz (by omega)).rules.1,(hB6.turned htz (by omega)).rules.1⟩ (fun hHeld=>?_)
        clear hK K;try simp only [Act.put,List.setIfInBounds_toArray,List.set_cons_zero,List.set_cons_succ]
        refine wpAnyH_done (by kernel_rfl) ?_ _
        have hfar:∀ b,((Kq K w.heap.size (w.heap.size+1+1+1) b∧b<gx)∨w3.heap.size≤b)→b≠w.heap.size∧b≠w.heap.size+1:=fun b hb=>by
         rcases hb with ⟨⟨_,hb⟩ | hb,_⟩ | hb <;> omega
        have hmo:∀ b,((Kq K w.heap.size (w.heap.size+1+1+1) b∧b<gx)∨w3.heap.size≤b)→Kq K w.heap.size (w.heap.size+1+1+1) b:=fun b hb=>by
         rcases hb with hb | hb;exact hb.1;exact .inr (by omega)
        have Q7:Q4 K w w.heap.size (w.heap.size+1) (w.heap.size+1+1) (w.heap.size+1+1+1) wz (devA M zs) A2 c2 ⟨h1.id,h1.own,h1.s,true,⟨hd,kz,M,(zs.getD kz z0).d.length,[],[]⟩,pm,h1.ver,sq⟩ cs3:=
         { below:=za0.upon (za0.upon hb5 hty (by omega) (Nat.le_refl _)) htz (by omega) (Nat.le_refl _),ord:=by omega,dev:=hBy.turned htz (by omega),zl:=((hz5.turned hty (fun b hb e=>(hfar b (.inl hb)).1 e)).turned htz (fun b hb e=>(hfar b (.inl hb)).2 e)).more fun b hb=>hb.1,host:=hBz,n:=hn4,one:=h14,hv:=IsHo.more (IsHo.keep (IsHo.keep hv5 (hty.cells (K:=fun b=>(Kq K w.heap.size (w.heap.size+1+1+1) b∧b<gx)∨w3.heap.size≤b) fun b hb e=>(hfar b hb).1 e)) (htz.cells (K:=fun b=>(Kq K w.heap.size (w.heap.size+1+1+1) b∧b<gx)∨w3.heap.size≤b) fun b hb e=>(hfar b hb).2 e)) hmo,rd:=⟨a0,a1,a2,a3,(hr5.turned hty (by omega)).turned htz (by omega)⟩,rh:=⟨cr,(hrh5.turned hty (by omega)).turned htz (by omega),hnr⟩ }
        have hPz:=(hP wz _).2 ⟨_,_,_,_,_,HR2.out,Q7⟩;have hmz:(Classical.epsilon fun k=>P wz k∧∀ j,P wz j→k≤j)<Classical.epsilon fun k=>P wr k∧∀ j,P wr j→k≤j:=by
         have h1:=(znt hPz).2;have h2:=HLT.out;rw [HKK.out];omega
        have HPZ:=Lib.hid hPz;have HMZ:=Lib.hid hmz;clear hPz hmz;go_wp2_with fail;go_roundw
        case rel=>exact ⟨⟨_,HPZ.out⟩,⟨_,rfl⟩,⟨_,rfl⟩,⟨_,rfl⟩,_,rfl⟩
        case measure=>have h9:=HMZ.out;rw [HKK.out] at h9;exact h9
end Go.Proofs.YthblkdnijhphhaaGreat
