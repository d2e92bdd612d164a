/- A part of the proof. -/
import Derived.Test.YthblkdnijhphhaaGreatReset
import Derived.Test.YthblkdnijhphhaaGreatLive24j
set_option linter.unusedSimpArgs false
set_option maxHeartbeats 16000000
set_option maxRecDepth 100000
namespace Go.Proofs.YthblkdnijhphhaaGreat
open Go.RowKit
theorem zmH {P:Nat→Prop} (h:∃ k,P k):∃ k,P k∧∀ j,P j→k≤j:=by
 obtain ⟨k,hk⟩:=h;induction k using Nat.strongRecOn with
 | ind k ih=>
   by_cases hj:∃ j,j<k∧P j
   · obtain ⟨j,h1,h2⟩:=hj;exact ih j h1 h2
   · exact ⟨k,hk,fun j h=>Nat.le_of_not_lt fun hlt=>hj ⟨j,hlt,h⟩⟩
theorem znk {P:Nat→Prop} {k:Nat} (h:P k):P (Classical.epsilon fun k=>P k∧∀ j,P j→k≤j)∧(Classical.epsilon fun k=>P k∧∀ j,P j→k≤j)≤k:=by
 have h1:=Classical.epsilon_spec (zmH ⟨k,h⟩);exact ⟨h1.1,h1.2 k h⟩
theorem znR {w:World} {K:Nat→Prop} {h:Ho} {cs:Array Value} {A:Option Addr} {c:Nat} {m:List Ex} (hh:IsHo w K (.agg cs) h) (hm:IsL Rp.ex w K (.slice A m.length c) m) :
 IsHo w K (.agg (cs.setIfInBounds 12 (.slice A m.length c))) ⟨h.id,h.own,h.s,h.opn,h.p,m,h.ver,h.seq⟩∧(cs.setIfInBounds 12 (.slice A m.length c)).size=15∧(cs.setIfInBounds 12 (.slice A m.length c)).toList.all (·.oneCell')=true:=by
 obtain ⟨Ao,co,As,cs',Ab,cb,Al,cl,Am,cm,e⟩:=ziW hh;obtain ⟨vo,vs,vb,vl,vm,e2,h1,h2,h3,h4,h5⟩:=hh;injection e with e;injection e2 with e2;have e3:=e.symm.trans e2;simp only [hoC,Array.mk.injEq,List.cons.injEq,and_true,true_and] at e3;obtain ⟨rfl,rfl,rfl,rfl,rfl⟩:=e3;subst e;exact ⟨⟨_,_,_,_,_,rfl,h1,h2,h3,h4,hm⟩,rfl,rfl⟩
theorem Q4.made {K:Nat→Prop} {w wr:World} {gd gh rd rh:Nat} {d:Zd} {A:Option Addr} {c:Nat} {h:Ho} {cs:Array Value} (q:Q4 K w gd gh rd rh wr d A c h cs) {wy:World} {g:Nat} (ht:za0 wr wy (fun b=>b=g)) (hg:rh<g) :
 Below w.heap.size w wy∧Blk wy gd 27 (zdC d A c)∧Blk wy gh 38 cs∧(∃ a0 a1 a2 a3,Blk wy rd 27 #[a0,a1,a2,a3])∧∃ cs',Blk wy rh 38 cs'∧cs'.size=15:=by
 have ho:=q.ord;obtain ⟨a0,a1,a2,a3,hr⟩:=q.rd;obtain ⟨cr,hr',hn⟩:=q.rh;exact ⟨za0.upon q.below ht (by omega) (Nat.le_refl _),q.dev.turned ht (by omega),q.host.turned ht (by omega),⟨a0,a1,a2,a3,hr.turned ht (by omega)⟩,cr,hr'.turned ht (by omega),hn⟩
section
variable {n:Nat} {M B:Int} {F:Nat→Int} {S:List Sp} {d0:Zd} {h0:Ho}
structure RunR (n:Nat) (M:Int) (F:Nat→Int) (B:Int) (S:List Sp) (d0:Zd) (h0:Ho) (z:Int) (k:Nat) (d:Zd) (h:Ho):Prop where
 j:JInv n M F B S d h
 same:zcB d0.z h0.m d.z h.m
 ver:h.ver=h0.ver
 cnt:cntJ h.m z B=k
 seq:h.seq+k≤h0.seq+cntJ h0.m z B
end
theorem znY {n:Nat} {M B:Int} {F:Nat→Int} {S:List Sp} {d:Zd} {h:Ho} (hi:JInv n M F B S d h) (hS:S.length≤1000000) (hv:h.ver≤900000) (hsq:h.seq≤800000) (z:Int) (hz:0≤z∧z<n) (Az:Option Addr) (cz:Nat) (v:Value) (K:Nat→Prop) (w:World) (hzl:IsL Rp.zone w K (.slice Az d.z.length cz) d.z) (hho:IsHo w K v h) (hK:∀ b,K b→b<w.heap.size) :
 Calls Tryz.prog 22 #[.agg (zdC d Az cz),v,.int .i64 z] w fun e w'=>∃ dv vh er d' h',e=.returned (.tuple #[dv,vh,.int .i64 er])∧ze4 w' (fun b=>K b∨w.heap.size≤b) dv vh d' h'∧(er=0→JInv n M F B S d' h'∧zcB d.z h.m d'.z h'.m∧h'.ver=h.ver∧h'.seq≤h.seq+B+1)∧Below w.heap.size w w':=by
 obtain ⟨hc,rfl,hn15,h115,-⟩:=zbo hho;have Q:=Q4.start (a0:=.int .i64 0) (a1:=.int .i64 0) (a2:=.int .i64 0) (a3:=.slice none 0 0) (cr:=#[.int .i64 0,.slice none 0 0,.slice none 0 0,.bool false,.int .i64 0,.int .i64 0,.int .i64 0,.int .i64 0,.int .i64 0,.int .i64 0,.slice none 0 0,.slice none 0 0,.slice none 0 0,.int .i64 0,.int .i64 0]) hzl hho hn15 h115 hK rfl;have R0:RunR n M F B S d h z (cntJ h.m z B) d h:=⟨hi,zcB.refl _ _,rfl,rfl,by omega⟩
 have hn:=hi.n64;have hcj:=znW h.m z B;have hB:=hi.bnd;clear hzl hho;go_enter Tryz.func22,Tryz.ntmps22
 go_wp2_with fail;generalize (((w.alloc (.cells (zdC d Az cz) 27)).alloc (.cells hc 38)).alloc (.cells #[.int .i64 0,.int .i64 0,.int .i64 0,.slice none 0 0] 27)).alloc (.cells #[.int .i64 0,.slice none 0 0,.slice none 0 0,.bool false,.int .i64 0,.int .i64 0,.int .i64 0,.int .i64 0,.int .i64 0,.int .i64 0,.slice none 0 0,.slice none 0 0,.slice none 0 0,.int .i64 0,.int .i64 0] 38)=w1 at Q ⊢;obtain ⟨P,hP⟩:∃ P:World→Nat→Prop,∀ wr k,P wr k↔∃ d1 A1 c1 h1 cs1,RunR n M F B S d h z k d1 h1∧Q4 K w w.heap.size (w.heap.size+1) (w.heap.size+1+1) (w.heap.size+1+1+1) wr d1 A1 c1 h1 cs1:=⟨_,fun _ _=>Iff.rfl⟩
 go_loopw [9,10,11,12] (fun x9 x10 x11 x12 wr=>(∃ k,P wr k)∧(∃ y,x9=y)∧(∃ y,x10=y)∧(∃ y,x11=y)∧∃ y,x12=y) (fun _ _ _ _ wr=>Classical.epsilon fun k=>P wr k∧∀ j,P wr j→k≤j)
 case atStart=>exact ⟨⟨_,(hP _ _).2 ⟨_,_,_,_,_,R0,Q⟩⟩,⟨_,rfl⟩,⟨_,rfl⟩,⟨_,rfl⟩,_,rfl⟩
 case round=>
  clear Q R0;obtain ⟨⟨k0,hk0⟩,⟨y9,rfl⟩,⟨y10,rfl⟩,⟨y11,rfl⟩,y12,rfl⟩:=hrel;have he1:=(znk hk0).1;generalize hkk:(Classical.epsilon fun k=>P wr k∧∀ j,P wr j→k≤j)=k at he1
  clear hk0;obtain ⟨d1,A1,c1,h1,cs1,R1,Q1⟩:=(hP _ _).1 he1;have hj:=R1.j;have hv1:h1.ver≤900000:=by rw [R1.ver];exact hv
  have hs1:h1.seq≤900000:=by have:=R1.seq;omega
  have hz9:z≤1000000:=by omega
  have hrec:∀ L x,InE h1.m z L→L.head?=some x→errL [recX d1 h1 z x]=0∧(zgd d1 h1 x).length≤1000000∧((putH d1 h1 [recX d1 h1 z x]).2.2.2=0→(putH d1 h1 [recX d1 h1 z x]).2.2.1.length=1):=fun L x hL hx=>by
   obtain ⟨g1,g2⟩:=hj.rec5 hL hx hz.1 hv1;obtain ⟨a1,a2,a3,a4,a5,a6,a7,a8,a9⟩:=hj.piece hL hx hz.1;have hp2:=a2.pos;unfold endE at a4;refine ⟨g2,by omega,fun e=>?_⟩
   rcases put_gen hj (by simp) g2 (by simpa using g1) hs1 with hno | ⟨k,hd,sq,zs,at_,hp⟩
   · rw [hno] at e;simp at e
   · rw [hp.put];exact hp.place.1
  obtain ⟨Am,cm,c12,hm,-⟩:=zhm Q1.hv;have k12:=(Q1.host.cell 12).trans c12;have hco:=zkn d1 A1 c1 h1 (.agg cs1) Am cm z (fun b=>Kq K w.heap.size (w.heap.size+1+1+1) b∧b<wr.heap.size) _ wr Q1.zl.zlt (IsHo.lt Q1.hv) hm (fun b hb=>hb.2) hj.okd (hj.okho (by omega)) (hj.small hS) hj.chain hj.fit hz.1 hz9 (fun e he=>by have:=hj.oldE e he;omega) hrec
  obtain ⟨qd,fd⟩:=Q1.dev.rules;have f12:=Q1.host.rules.2;have HKK:=Lib.hid hkk;clear hrec hm c12 hkk;go_wp2_with (refine zbN Q1.host Q1.n rfl rfl rfl ?_);refine hco.mono ?_;rintro e w2 ⟨L,hL,dv,vh,Aa,ca,rfl,hmv,⟨⟨A2,c2,rfl,hz2⟩,hh2⟩,hb2⟩;obtain ⟨cs2,rfl,hn2,h12,-⟩:=zbo hh2;have Q2:=Q1.step hb2;replace hz2:=Q1.kz hz2;replace hh2:=Q1.kh hh2;have hL':=Lib.hid hL;obtain ⟨r,hr⟩:∃ r,zd5 d1 h1 z L=r:=⟨_,rfl⟩;rw [hr] at hmv hz2 hh2 ⊢;have HR:=Lib.hid hr;obtain ⟨e0,he0⟩:∃ e0,r.2.2.2=e0:=⟨_,rfl⟩;rw [he0];have HE0:=Lib.hid he0;clear hco qd fd f12 k12 hb2 hL hr he0;go_upto_region 2 with (refine zcA rfl rfl (by first | rfl | simp [Act.eval,World.size_alloc]) rfl rfl hn2 h12 ?_)
  have hb3:Below w2.heap.size w2 ((w2.alloc (.cells (zdC r.1 A2 c2) 27)).alloc (.cells cs2 38)):=((Below.refl _ _).alloc (Nat.le_refl _) _).alloc (by rw [World.size_alloc];omega) _
  have hBx:=(Blk.new w2 27 (zdC r.1 A2 c2) rfl).alloc (.cells cs2 38);have hBk:=Blk.new (w2.alloc (.cells (zdC r.1 A2 c2) 27)) 38 cs2 rfl;have hlt2:=Q2.lt;rw [World.size_alloc] at hBk;have Q3:=Q2.step hb3;replace hz2:=(hz2.zlt).step hb3;replace hh2:=(IsHo.lt hh2).step hb3;replace hmv:=(IsL.ltG (fun _ _ h=>h) (by decide) hmv).step hb3
  generalize (w2.alloc (.cells (zdC r.1 A2 c2) 27)).alloc (.cells cs2 38)=w3 at hBx hBk Q3 hz2 hh2 hmv ⊢;obtain ⟨gx,hgx⟩:∃ gx,w2.heap.size=gx:=⟨_,rfl⟩;rw [hgx] at hBx hBk hlt2 hz2 hh2 hmv ⊢;clear hb3 Q2 hgx Q1;cases hhd:L.head? with
  | none=>
    have hr4:r=(zaQ,zcd,[],4):=by rw [←HR.out];unfold zd5;rw [hhd]
    obtain rfl:(4:Int)=e0:=by rw [←HE0.out,hr4]
    have hre:=zjR hj hS hv1 hs1 z hz A1 c1 (.agg cs1) (fun b=>Kq K w.heap.size (w.heap.size+1+1+1) b∧b<w3.heap.size) w3 Q3.zl.zlt (IsHo.lt Q3.hv) (fun b hb=>hb.2)
    have hrs:=hj.resets (z:=z) hz hv1 hs1;obtain ⟨R,hR⟩:∃ R,zbp d1 h1 z=R:=⟨_,rfl⟩;rw [hR] at hre hrs;have HRS:=Lib.hid hrs;obtain ⟨qd,fd⟩:=Q3.dev.rules;clear hr4 hhd hBx hBk hz2 hh2 hmv HR HE0 hL' HKK he1 hrs hR;go_wp2_with (refine zbN Q3.host Q3.n rfl rfl rfl ?_);refine hre.mono ?_;rintro e w4 ⟨dv,vh,rfl,⟨⟨A4,c4,rfl,hz4⟩,hh4⟩,hb4⟩;obtain ⟨cs4,rfl,hn4,h14,-⟩:=zbo hh4;have Q4':=Q3.step hb4;replace hz4:=Q3.kz hz4;replace hh4:=Q3.kh hh4;obtain ⟨a0,a1,a2,a3,hRd⟩:=Q4'.rd;obtain ⟨cr,hRh,hnr⟩:=Q4'.rh;have hbw:=Q4'.below;clear hre qd fd hb4 Q3;go_wp2_with (first | (refine zbM hRd rfl rfl rfl rfl rfl (by rfl) (by rfl) ?_;intro w8 hs8 ht8 hB8) | (refine zd3 (hRh.turned ht8 (by omega)) hnr rfl rfl rfl rfl hn4 h14 ?_;intro w9 hs9 ht9 hB9))
    have hl1:=zbK hB9 hn4;have hl0:=zaW (hB8.turned ht9 (by omega)) rfl
    have hb9:=za0.upon (za0.upon hbw ht8 (by omega) (Nat.le_refl _)) ht9 (by omega) (Nat.le_refl _)
    have hz9':=(hz4.turned ht8 (fun b hb e=>(Q4'.far hb).2.2.1 e)).turned ht9 (fun b hb e=>(Q4'.far hb).2.2.2 e)
    have hh9':=IsHo.keep (IsHo.keep hh4 (ht8.cells (K:=Kq K w.heap.size (w.heap.size+1+1+1)) fun _ hb e=>(Q4'.far hb).2.2.1 e)) (ht9.cells (K:=Kq K w.heap.size (w.heap.size+1+1+1)) fun _ hb e=>(Q4'.far hb).2.2.2 e)
    refine bodyPost_ret (v:=.tuple #[.agg (zdC R.1 A4 c4),.agg cs4,.int .i64 R.2.2]) (by simp [results,Tryz.results22,asAddr,hl0,hl1,Result.andThen]) rfl ⟨_,_,_,R.1,R.2.1,rfl,⟨⟨A4,c4,rfl,hz9'.more fun b hb=>by rcases hb with hb | hb;exact .inl hb.1;exact .inr (by omega)⟩,IsHo.more hh9' fun b hb=>by rcases hb with hb | hb;exact .inl hb.1;exact .inr (by omega)⟩,fun h=>?_,hb9⟩
    obtain ⟨u1,u2,u3,u4⟩:=HRS.out h;have:=R1.seq;exact ⟨u1,R1.same.trans u2,u3.trans R1.ver,by omega⟩
  | some x=>
    cases hwr:zaw h1 z with
    | true=>
      have hr6:r=(zaQ,zcd,[],60):=by rw [←HR.out];unfold zd5;rw [hhd];simp only [hwr,if_true]
      obtain rfl:(60:Int)=e0:=by rw [←HE0.out,hr6]
      clear hr6 hhd hBx hBk hz2 hh2;obtain ⟨a0,a1,a2,a3,hRd⟩:=Q3.rd;obtain ⟨cr,hRh,hnr⟩:=Q3.rh;have hbw:=Q3.below;clear HKK HR HE0 hL' he1 hmv;go_wp2_with (first | (refine zbM hRd rfl rfl rfl rfl rfl (by rfl) (by rfl) ?_;intro w8 hs8 ht8 hB8) | (refine zd3 (hRh.turned ht8 (by omega)) hnr rfl rfl rfl rfl rfl rfl ?_;intro w9 hs9 ht9 hB9))
      have hl1:=zbK hB9 rfl;have hl0:=zaW (hB8.turned ht9 (by omega)) rfl
      have hb9:=za0.upon (za0.upon hbw ht8 (by omega) (Nat.le_refl _)) ht9 (by omega) (Nat.le_refl _)
      exact bodyPost_ret (v:=.tuple #[.agg #[.int .i64 0,.int .i64 0,.int .i64 0,.slice none 0 0],.agg #[.int .i64 0,.slice none 0 0,.slice none 0 0,.bool false,.int .i64 0,.int .i64 0,.int .i64 0,.int .i64 0,.int .i64 0,.int .i64 0,.slice none 0 0,.slice none 0 0,.slice none 0 0,.int .i64 0,.int .i64 0],.int .i64 60]) (by simp [results,Tryz.results22,asAddr,hl0,hl1,Result.andThen]) rfl ⟨_,_,_,zaQ,zcd,rfl,⟨⟨none,0,rfl,IsL.nil_ _ _⟩,⟨_,_,_,_,_,rfl,IsL.nil_ _ _,IsL.nil_ _ _,IsB.nil_ _ _,IsL.nil_ _ _,IsL.nil_ _ _⟩⟩,fun h=>absurd h (by decide),hb9⟩
    | false=>
      obtain ⟨g1,g2⟩:=hj.rec5 hL'.out hhd hz.1 hv1;have hr5:r=((putH d1 h1 [recX d1 h1 z x]).1,(putH d1 h1 [recX d1 h1 z x]).2.1,if (putH d1 h1 [recX d1 h1 z x]).2.2.2=0 then [(zaO z x,⟨x.lba,min x.n 256,x.ver,(putH d1 h1 [recX d1 h1 z x]).2.1.p.zone,(putH d1 h1 [recX d1 h1 z x]).2.2.1.headD 0⟩)] else [],(putH d1 h1 [recX d1 h1 z x]).2.2.2):=by rw [←HR.out];unfold zd5;rw [hhd];simp only [hwr];rfl
      rcases put_gen hj (by simp) g2 (by simpa using g1) hs1 with hno | ⟨kz,hd,sq,zs,at_,hp⟩
      · obtain rfl:(64:Int)=e0:=by rw [←HE0.out,hr5,hno]
        clear hr5 hno hhd hBx hBk hz2 hh2 g1 g2;obtain ⟨a0,a1,a2,a3,hRd⟩:=Q3.rd;obtain ⟨cr,hRh,hnr⟩:=Q3.rh;have hbw:=Q3.below;clear HKK HR HE0 hL' he1 hmv;go_wp2_with (first | (refine zbM hRd rfl rfl rfl rfl rfl (by rfl) (by rfl) ?_;intro w8 hs8 ht8 hB8) | (refine zd3 (hRh.turned ht8 (by omega)) hnr rfl rfl rfl rfl rfl rfl ?_;intro w9 hs9 ht9 hB9))
        have hl1:=zbK hB9 rfl;have hl0:=zaW (hB8.turned ht9 (by omega)) rfl
        have hb9:=za0.upon (za0.upon hbw ht8 (by omega) (Nat.le_refl _)) ht9 (by omega) (Nat.le_refl _)
        exact bodyPost_ret (v:=.tuple #[.agg #[.int .i64 0,.int .i64 0,.int .i64 0,.slice none 0 0],.agg #[.int .i64 0,.slice none 0 0,.slice none 0 0,.bool false,.int .i64 0,.int .i64 0,.int .i64 0,.int .i64 0,.int .i64 0,.int .i64 0,.slice none 0 0,.slice none 0 0,.slice none 0 0,.int .i64 0,.int .i64 0],.int .i64 64]) (by simp [results,Tryz.results22,asAddr,hl0,hl1,Result.andThen]) rfl ⟨_,_,_,zaQ,zcd,rfl,⟨⟨none,0,rfl,IsL.nil_ _ _⟩,⟨_,_,_,_,_,rfl,IsL.nil_ _ _,IsL.nil_ _ _,IsB.nil_ _ _,IsL.nil_ _ _,IsL.nil_ _ _⟩⟩,fun h=>absurd h (by decide),hb9⟩
      · obtain ⟨a1,a2,a3,a4,a5,a6,a7,a8,a9⟩:=hj.piece hL'.out hhd hz.1
        obtain ⟨o,rfl,-,-,-⟩:=hp.one;obtain ⟨m1,m2,⟨m3,m4,m5⟩,m6,m7,m8⟩:=hj.moved hL'.out hhd hz.1 hwr hp;have hmin:min x.n 256=x.n:=by have:=hj.bnd;have:=a2.pos;unfold endE at a4;omega
        have hr7:r=(devA M zs,⟨h1.id,h1.own,h1.s,true,⟨hd,kz,M,(zs.getD kz z0).d.length,[],[]⟩,h1.m,h1.ver,sq⟩,[(x,⟨x.lba,x.n,x.ver,kz,o⟩)],0):=by
         rw [hr5,hp.put,a6,hmin];rfl
        obtain rfl:(0:Int)=e0:=by rw [←HE0.out,hr7]
        have hR2:RunR n M F B S d h z (cntJ (putE h1.m (movE h1.m x ⟨x.lba,x.n,x.ver,kz,o⟩)) z B) (devA M zs) ⟨h1.id,h1.own,h1.s,true,⟨hd,kz,M,(zs.getD kz z0).d.length,[],[]⟩,putE h1.m (movE h1.m x ⟨x.lba,x.n,x.ver,kz,o⟩),h1.ver,sq⟩:=
         ⟨m6,R1.same.trans m7,R1.ver,rfl,by
          have h5:=R1.seq;have h6:=R1.cnt;have h7:=hp.seqs.2;show sq+(cntJ (putE h1.m (movE h1.m x ⟨x.lba,x.n,x.ver,kz,o⟩)) z B:Nat)≤_;omega⟩
        have hlt:cntJ (putE h1.m (movE h1.m x ⟨x.lba,x.n,x.ver,kz,o⟩)) z B<k:=by rw [←R1.cnt];exact m8
        subst hr7;have hml:h1.m.length≤1000000:=by have:=hj.len9;have:=hj.bnd;omega
        have hch:=hj.chain;have hzn:x.zone≠-1:=by rw [a3];omega
        have hkn:(kz:Int)≠-1:=by omega
        clear hr5 g1 g2 m1 m3 m6 m7 m8 a4 a5 a6 a7 a8 a9 hmin hp hj R1 HR HE0 hL' hwr hhd;dsimp only [List.length_cons,List.length_nil] at hmv hh2 hz2;obtain ⟨t,ht⟩:∃ t:Ex,(⟨x.lba,x.n,x.ver,kz,o⟩:Ex)=t:=⟨_,rfl⟩;have hsame:t.lba=x.lba∧t.n=x.n∧t.ver=x.ver:=by rw [←ht];exact ⟨rfl,rfl,rfl⟩
        have htz:t.zone≠-1:=by rw [←ht];exact hkn
        rw [ht] at hmv m2 m4 m5 hR2 hlt;obtain ⟨Am2,cm2,c12,hm2,-⟩:=zhm hh2;have hm2':IsL Rp.ex w3 _ (.slice Am2 h1.m.length cm2) h1.m:=hm2;have hc12:cs2[12]?=some (.slice Am2 h1.m.length cm2):=c12;have had:=zjG Am2 cm2 h1.m x t Aa ca _ _ w3 hm2' hmv hml hch a2 m2 hzn htz hsame m4 m5;obtain ⟨pm,hpm⟩:∃ pm,putE h1.m (movE h1.m x t)=pm:=⟨_,rfl⟩;rw [hpm] at had hR2 hlt;have HR2:=Lib.hid hR2;have HLT:=Lib.hid hlt;have k12:=(hBk.cell 12).trans hc12;have f12:=hBk.rules.2;clear hm2 hm2' hc12 c12 hml hch a2 m2 hzn htz hsame m4 m5 hpm hR2 hlt ht a3 hkn;go_wp2_with fail;refine had.mono ?_;rintro e w4 ⟨A4,c4,rfl,hm4,hb4⟩;have hgk:=hBk.lt;have Q4':=Q3.step hb4;have hBx4:=hBx.step hb4;have hBk4:=hBk.step hb4;have hz4:=hz2.step hb4;obtain ⟨hh4,hn4,h14⟩:=znR (K:=fun b=>(Kq K w.heap.size (w.heap.size+1+1+1) b∧b<gx)∨w3.heap.size≤b) (IsHo.more (hh2.step hb4) fun b hb=>.inl hb) (hm4.more fun b hb=>.inr hb)
        obtain ⟨q12,f12⟩:=hBk4.rules;have t12:=hBk4.lt;clear had k12 hBk hBx hmv hh2 hz2 hm4 hb4 Q3;go_upto_region 7 with fail;refine zaS (K:=fun W=>Code.wp _ _ _ _ W) hBk4 12 _ ?_
        intro w5 hs5 ht5 hB5;have hord:=Q4'.ord;obtain ⟨hb5,hd5,hh5,hr5,hrh5⟩:=Q4'.made ht5 (by omega)
        have hBx5:=hBx4.turned ht5 (by omega)
        have hz5:=hz4.turned ht5 (fun b hb e=>by omega)
        have hv5:=IsHo.keep hh4 (ht5.cells (K:=fun b=>(Kq K w.heap.size (w.heap.size+1+1+1) b∧b<gx)∨w3.heap.size≤b) fun b hb e=>by omega)
        have hn1:=Q4'.n;clear hs5 ht5 hBx4 hBk4 hz4 hh4 Q4' q12 f12;generalize hcs3:cs2.setIfInBounds 12 (.slice A4 pm.length c4)=cs3 at hB5 hn4 h14 hv5 ⊢;clear hcs3;have hb0:Below w5.heap.size w5 w5.drew:=(Below.refl _ _).drew;refine wp_region_held_drew (S:=fun W=>(∀ o,W.cell? ⟨gx,o,none⟩=(zdC (devA M zs) A2 c2)[o]?)∧∀ o,W.cell? ⟨gx+1,o,none⟩=cs3[o]?) (by kernel_rfl) ⟨(hBx5.step hb0).rules.1,(hB5.step hb0).rules.1⟩ (fun hHeld=>?_)
        replace hd5:=hd5.step hb0;replace hh5:=hh5.step hb0;replace hBx5:=hBx5.step hb0;replace hB5:=hB5.step hb0;replace hz5:=hz5.step hb0;replace hv5:=hv5.step hb0;replace hb5:=hb5.trans (hb0.mono hb5.size);obtain ⟨a0,a1,a2,a3,hr5⟩:=hr5;obtain ⟨cr,hrh5,hnr⟩:=hrh5;replace hr5:=hr5.step hb0;replace hrh5:=hrh5.step hb0;generalize w5.drew=wx at hd5 hh5 hBx5 hB5 hz5 hv5 hb5 hr5 hrh5 hHeld ⊢;clear hb0;refine wT 0 42 ?_;refine wT 1 43 ?_ (hy:=by intro w hSw;(try dsimp only at hSw);refine Eq.trans (zbi hSw.2 hn4 rfl rfl) ?_;with_reducible rfl)
        refine wRn 2 (fun K hK=>?_)
        refine zbZ rfl hd5 rfl rfl rfl rfl rfl (by rfl) ?_
        intro wy hsy hty hBy;have hBx6:=hBx5.turned hty (by omega)
        have hB6:=hB5.turned hty (by omega)
        refine hK.out _ _ ⟨hBx6.rules.1,hB6.rules.1⟩ (fun hHeld=>?_)
        clear hK K;try simp only [Act.put,List.setIfInBounds_toArray,List.set_cons_zero,List.set_cons_succ]
        refine wRn 3 (fun K hK=>?_)
        refine zd9 rfl (hh5.turned hty (by omega)) hn1 rfl rfl rfl hn4 h14 ?_
        intro wz hsz htz hBz;refine hK.out _ _ ⟨(hBx6.turned htz (by omega)).rules.1,(hB6.turned htz (by omega)).rules.1⟩ (fun hHeld=>?_)
        clear hK K;try simp only [Act.put,List.setIfInBounds_toArray,List.set_cons_zero,List.set_cons_succ]
        refine wpAnyH_done (by kernel_rfl) ?_ _
        have hfar:∀ b,((Kq K w.heap.size (w.heap.size+1+1+1) b∧b<gx)∨w3.heap.size≤b)→b≠w.heap.size∧b≠w.heap.size+1:=fun b hb=>by
         rcases hb with ⟨⟨_,hb⟩ | hb,_⟩ | hb <;> omega
        have hmo:∀ b,((Kq K w.heap.size (w.heap.size+1+1+1) b∧b<gx)∨w3.heap.size≤b)→Kq K w.heap.size (w.heap.size+1+1+1) b:=fun b hb=>by
         rcases hb with hb | hb;exact hb.1;exact .inr (by omega)
        have Q7:Q4 K w w.heap.size (w.heap.size+1) (w.heap.size+1+1) (w.heap.size+1+1+1) wz (devA M zs) A2 c2 ⟨h1.id,h1.own,h1.s,true,⟨hd,kz,M,(zs.getD kz z0).d.length,[],[]⟩,pm,h1.ver,sq⟩ cs3:=
         { below:=za0.upon (za0.upon hb5 hty (by omega) (Nat.le_refl _)) htz (by omega) (Nat.le_refl _),ord:=by omega,dev:=hBy.turned htz (by omega),zl:=((hz5.turned hty (fun b hb e=>(hfar b (.inl hb)).1 e)).turned htz (fun b hb e=>(hfar b (.inl hb)).2 e)).more fun b hb=>hb.1,host:=hBz,n:=hn4,one:=h14,hv:=IsHo.more (IsHo.keep (IsHo.keep hv5 (hty.cells (K:=fun b=>(Kq K w.heap.size (w.heap.size+1+1+1) b∧b<gx)∨w3.heap.size≤b) fun b hb e=>(hfar b hb).1 e)) (htz.cells (K:=fun b=>(Kq K w.heap.size (w.heap.size+1+1+1) b∧b<gx)∨w3.heap.size≤b) fun b hb e=>(hfar b hb).2 e)) hmo,rd:=⟨a0,a1,a2,a3,(hr5.turned hty (by omega)).turned htz (by omega)⟩,rh:=⟨cr,(hrh5.turned hty (by omega)).turned htz (by omega),hnr⟩ }
        have hPz:=(hP wz _).2 ⟨_,_,_,_,_,HR2.out,Q7⟩;have hmz:(Classical.epsilon fun k=>P wz k∧∀ j,P wz j→k≤j)<Classical.epsilon fun k=>P wr k∧∀ j,P wr j→k≤j:=by
         have h1:=(znk hPz).2;have h2:=HLT.out;rw [HKK.out];omega
        have HPZ:=Lib.hid hPz;have HMZ:=Lib.hid hmz;clear hPz hmz;go_wp2_with fail;go_roundw
        case rel=>exact ⟨⟨_,HPZ.out⟩,⟨_,rfl⟩,⟨_,rfl⟩,⟨_,rfl⟩,_,rfl⟩
        case measure=>have h9:=HMZ.out;rw [HKK.out] at h9;exact h9
abbrev J24 (d:Zd) (h:Ho):Prop:=JInv 4 400 f24 60 s60 d h
structure zhI (d:Zd) (h:Ho) (d':Zd) (h':Ho):Prop where
 j:J24 d' h'
 on:zdE d.z h.m h.ver d'.z h'.m h'.ver
 ver:h'.ver≤h.ver+1
 seq:h'.seq≤h.seq+61
def oqN (o:Oq):Int:=1+(o.n.tmod 4+4) % 4
def oqL (o:Oq):Int:=(o.lba.tmod 56+56) % 56
theorem zp3 (o:Oq):1≤oqN o∧oqN o≤4∧0≤oqL o∧oqL o<56:=by
 unfold oqN oqL;omega
theorem zdE.of_commit {d d':Zd} {h h':Ho} {r:Rc} (hv:h'.ver=h.ver+1) (hb:∀ b,(covR r b→∃ t,see h'.m b=some t∧t.1=h.ver∧(t.2.1<0↔r.kind=2)∧zaa d'.z h'.m b=zi0 r b)∧(¬covR r b→see h'.m b=see h.m b∧zaa d'.z h'.m b=zaa d.z h.m b)) :
 zdE d.z h.m h.ver d'.z h'.m h'.ver:=⟨by omega,fun b=>by
 by_cases hc:covR r b
 · obtain ⟨t,h1,h2,_⟩:=(hb b).1 hc
   exact .inr ⟨t,h1,by omega⟩
 · obtain ⟨h1,h2⟩:=(hb b).2 hc
   exact .inl ⟨by rw [h1],h2⟩⟩
theorem zo6 {L N:Nat} {by_:UInt8} (h:1≤N∧N≤4∧L<56):zbl s60 ⟨1,L,N,List.replicate (16*N) by_⟩=0∧∀ v:Int,0≤v∧v≤1000000→zdu 60 (recI v ⟨1,L,N,List.replicate (16*N) by_⟩):=by
 have hm:=ziB (a:=L) (m:=N) (by omega) (by omega) (by omega)
 refine ⟨?_,fun v hv=>⟨.inl rfl,⟨by show (0:Int)≤L;omega,by show (1:Int)≤N;omega,by show (L:Int)+N≤60;omega⟩,by show (N:Int)≤256;omega,hv,⟨rfl,rfl⟩,fun _=>by show ((List.replicate (16*N) by_).length:Int)=16*N;rw [List.length_replicate];omega,fun h=>by have h9:(1:Int)=2:=h;omega⟩⟩
 unfold zbl;rw [if_neg (by rw [Decidable.not_not];exact ⟨⟨by show (0:Int)≤L;omega,by show (1:Int)≤N;omega,by show (N:Int)≤256;omega,by show (L:Int)≤1099511627776-N;omega⟩,by show ((List.replicate (16*N) by_).length:Int)=16*N;rw [List.length_replicate];omega⟩),if_pos hm]
theorem zo1 {L N:Nat} (h:1≤N∧N≤4∧L<56):zbl s60 ⟨2,L,N,[]⟩=0∧∀ v:Int,0≤v∧v≤1000000→zdu 60 (recI v ⟨2,L,N,[]⟩):=by
 have hm:=ziB (a:=L) (m:=N) (by omega) (by omega) (by omega)
 refine ⟨?_,fun v hv=>⟨.inr rfl,⟨by show (0:Int)≤L;omega,by show (1:Int)≤N;omega,by show (L:Int)+N≤60;omega⟩,by show (N:Int)≤256;omega,hv,⟨rfl,rfl⟩,fun h=>by have h9:(2:Int)=1:=h;omega,fun _=>rfl⟩⟩
 unfold zbl;rw [if_neg (by rw [Decidable.not_not];exact ⟨⟨by show (0:Int)≤L;omega,by show (1:Int)≤N;omega,by show (N:Int)≤1048576;omega,by show (L:Int)≤1099511627776-N;omega⟩,rfl⟩),if_pos hm]
abbrev Kz (K:Nat→Prop) (s r g:Nat) (b:Nat):Prop:=(Kq K s r b∧b<g)∨g+1+1<b
structure S6 (K:Nat→Prop) (w:World) (gd gh rd rh g:Nat) (wr:World) (d:Zd) (A:Option Addr) (c:Nat) (h:Ho) (cs:Array Value) (d':Zd) (A':Option Addr) (c':Nat) (h':Ho) (cs':Array Value):Prop where
 below:Below w.heap.size w wr
 ord:w.heap.size≤gd∧gd<gh∧gh<rd∧rd<rh∧rh<g
 dev:Blk wr gd 27 (zdC d A c)
 zl:IsL Rp.zone wr (Kz K w.heap.size rh g) (.slice A d.z.length c) d.z
 host:Blk wr gh 38 cs
 n:cs.size=15
 one:cs.toList.all (·.oneCell')=true
 hv:IsHo wr (Kz K w.heap.size rh g) (.agg cs) h
 brd:∃ a0 a1 a2 a3,Blk wr rd 27 #[a0,a1,a2,a3]
 brh:∃ cs',Blk wr rh 38 cs'∧cs'.size=15
 x:Blk wr (g+1) 27 (zdC d' A' c')
 xz:IsL Rp.zone wr (Kz K w.heap.size rh g) (.slice A' d'.z.length c') d'.z
 k:Blk wr (g+1+1) 38 cs'
 n':cs'.size=15
 one':cs'.toList.all (·.oneCell')=true
 hk:IsHo wr (Kz K w.heap.size rh g) (.agg cs') h'
section
variable {K:Nat→Prop} {w wr wr':World} {gd gh rd rh g:Nat} {d d' d9:Zd} {A A' A9:Option Addr} {c c' c9:Nat} {h h' h9:Ho} {cs cs' cs9:Array Value}
theorem S6.step (q:S6 K w gd gh rd rh g wr d A c h cs d' A' c' h' cs') (hb:Below wr.heap.size wr wr'):S6 K w gd gh rd rh g wr' d A c h cs d' A' c' h' cs':=by
 obtain ⟨a0,a1,a2,a3,hr⟩:=q.brd;obtain ⟨cs',hr',hn⟩:=q.brh;exact ⟨q.below.trans (hb.mono q.below.size),q.ord,q.dev.step hb,q.zl.step hb,q.host.step hb,q.n,q.one,q.hv.step hb,⟨a0,a1,a2,a3,hr.step hb⟩,⟨cs',hr'.step hb,hn⟩,q.x.step hb,q.xz.step hb,q.k.step hb,q.n',q.one',q.hk.step hb⟩
theorem S6.far (q:S6 K w gd gh rd rh g wr d A c h cs d' A' c' h' cs') {b:Nat} (hb:Kz K w.heap.size rh g b):b≠gd∧b≠gh∧b≠rd∧b≠rh∧b≠g+1∧b≠g+1+1:=by
 have:=q.ord;rcases hb with ⟨⟨_,hb⟩ | hb,h9⟩ | hb <;> omega
theorem S6.lt (q:S6 K w gd gh rd rh g wr d A c h cs d' A' c' h' cs'):g+1+1<wr.heap.size:=q.k.lt
theorem S6.turn (q:S6 K w gd gh rd rh g wr d A c h cs d' A' c' h' cs') {y:Nat} (ht:za0 wr wr' (fun b=>b=y)) (hy:y=rd∨y=rh) (hrd:∃ a0 a1 a2 a3,Blk wr' rd 27 #[a0,a1,a2,a3]) (hrh:∃ cs',Blk wr' rh 38 cs'∧cs'.size=15):S6 K w gd gh rd rh g wr' d A c h cs d' A' c' h' cs':=by
 have ho:=q.ord;have hf:∀ b,Kz K w.heap.size rh g b→¬b=y:=fun b hb e=>by have:=q.far hb;omega
 exact ⟨za0.upon q.below ht (by omega) (Nat.le_refl _),q.ord,q.dev.turned ht (by omega),q.zl.turned ht hf,q.host.turned ht (by omega),q.n,q.one,IsHo.keep q.hv (ht.cells (K:=Kz K w.heap.size rh g) hf),hrd,hrh,q.x.turned ht (by omega),q.xz.turned ht hf,q.k.turned ht (by omega),q.n',q.one',IsHo.keep q.hk (ht.cells (K:=Kz K w.heap.size rh g) hf)⟩
theorem S6.tRd (q:S6 K w gd gh rd rh g wr d A c h cs d' A' c' h' cs') (ht:za0 wr wr' (fun b=>b=rd)) {a0 a1 a2 a3:Value} (hB:Blk wr' rd 27 #[a0,a1,a2,a3]):S6 K w gd gh rd rh g wr' d A c h cs d' A' c' h' cs':=by
 obtain ⟨cr,hr',hn⟩:=q.brh;have ho:=q.ord;exact q.turn ht (.inl rfl) ⟨_,_,_,_,hB⟩ ⟨cr,hr'.turned ht (by omega),hn⟩
theorem S6.tRh (q:S6 K w gd gh rd rh g wr d A c h cs d' A' c' h' cs') (ht:za0 wr wr' (fun b=>b=rh)) {cr:Array Value} (hB:Blk wr' rh 38 cr) (hn:cr.size=15):S6 K w gd gh rd rh g wr' d A c h cs d' A' c' h' cs':=by
 obtain ⟨a0,a1,a2,a3,hr⟩:=q.brd;have ho:=q.ord;exact q.turn ht (.inr rfl) ⟨a0,a1,a2,a3,hr.turned ht (by omega)⟩ ⟨cr,hB,hn⟩
theorem S6.tX (q:S6 K w gd gh rd rh g wr d A c h cs d' A' c' h' cs') {wy wz:World} (ht:za0 wr wy (fun b=>b=g+1)) (hB:Blk wy (g+1) 27 (zdC d9 A9 c9)) (hz:IsL Rp.zone wr (Kz K w.heap.size rh g) (.slice A9 d9.z.length c9) d9.z) (ht':za0 wy wz (fun b=>b=g+1+1)) (hB':Blk wz (g+1+1) 38 cs9) (hn:cs9.size=15) (h1:cs9.toList.all (·.oneCell')=true) (hh:IsHo wr (Kz K w.heap.size rh g) (.agg cs9) h9) :
 S6 K w gd gh rd rh g wz d A c h cs d9 A9 c9 h9 cs9:=by
 have ho:=q.ord;obtain ⟨a0,a1,a2,a3,hr⟩:=q.brd;obtain ⟨cr,hr',hnr⟩:=q.brh;have f1:∀ b,Kz K w.heap.size rh g b→¬b=g+1:=fun b hb e=>(q.far hb).2.2.2.2.1 e
 have f2:∀ b,Kz K w.heap.size rh g b→¬b=g+1+1:=fun b hb e=>(q.far hb).2.2.2.2.2 e
 exact ⟨za0.upon (za0.upon q.below ht (by omega) (Nat.le_refl _)) ht' (by omega) (Nat.le_refl _),q.ord,(q.dev.turned ht (by omega)).turned ht' (by omega),(q.zl.turned ht f1).turned ht' f2,(q.host.turned ht (by omega)).turned ht' (by omega),q.n,q.one,IsHo.keep (IsHo.keep q.hv (ht.cells (K:=Kz K w.heap.size rh g) f1)) (ht'.cells (K:=Kz K w.heap.size rh g) f2),
  ⟨a0,a1,a2,a3,(hr.turned ht (by omega)).turned ht' (by omega)⟩,⟨cr,(hr'.turned ht (by omega)).turned ht' (by omega),hnr⟩,hB.turned ht' (by omega),(hz.turned ht f1).turned ht' f2,hB',hn,h1,IsHo.keep (IsHo.keep hh (ht.cells (K:=Kz K w.heap.size rh g) f1)) (ht'.cells (K:=Kz K w.heap.size rh g) f2)⟩
theorem S6.kz (q:S6 K w gd gh rd rh g wr d A c h cs d' A' c' h' cs') {wx:World} {l:List Zn} {v:Value} (hz:IsL Rp.zone wx (fun b=>(Kz K w.heap.size rh g b∧b<wr.heap.size)∨wr.heap.size≤b) v l):IsL Rp.zone wx (Kz K w.heap.size rh g) v l:=
 hz.more fun b hb=>by have:=q.lt;rcases hb with hb | hb;exact hb.1;exact .inr (by omega)
theorem S6.kh (q:S6 K w gd gh rd rh g wr d A c h cs d' A' c' h' cs') {wx:World} {l:Ho} {v:Value} (hz:IsHo wx (fun b=>(Kz K w.heap.size rh g b∧b<wr.heap.size)∨wr.heap.size≤b) v l):IsHo wx (Kz K w.heap.size rh g) v l:=
 hz.more fun b hb=>by have:=q.lt;rcases hb with hb | hb;exact hb.1;exact .inr (by omega)
theorem Kz.out {s r b:Nat} (hr:s≤r) (hg:r<g) (hb:Kz K s r g b):K b∨s≤b:=by
 rcases hb with ⟨⟨hb,_⟩ | hb,_⟩ | hb;exact .inl hb;exact .inr (by omega);exact .inr (by omega)
end
theorem zfk {d:Zd} {h:Ho} (hi:J24 d h) (hv:1≤h.ver∧h.ver≤1000) (hsq:h.seq≤100000) {o:Io} (he:zbl s60 o=0) (hr:∀ v:Int,0≤v∧v≤1000000→zdu 60 (recI v o)):znU d h [recI h.ver o]∧((zav d h [o]).2.2=0→zhI d h (zav d h [o]).1 (zav d h [o]).2.1):=by
 obtain ⟨h1,h2⟩:=zix hi he (hr _ (by omega)) (by omega) (by omega)
 refine ⟨h1,fun h0=>?_⟩
 rcases h2 with h2 | ⟨d',h',e,j,hv',hs',hb⟩
 · rw [h2] at h0;cases h0
 · rw [e]
   exact ⟨j,zdE.of_commit hv' hb,by show h'.ver≤_;omega,by show h'.seq≤_;omega⟩
theorem zjO {d:Zd} {h:Ho} (hi:J24 d h) (hv:1≤h.ver∧h.ver≤1000) (hsq:h.seq≤100000) (o:Oq) (i:Int) (hii:0≤i∧i≤1000) (Az:Option Addr) (cz:Nat) (v:Value) (K:Nat→Prop) (w:World) (hzl:IsL Rp.zone w K (.slice Az d.z.length cz) d.z) (hho:IsHo w K v h) (hK:∀ b,K b→b<w.heap.size) :
 Calls Tryz.prog 7 #[.agg (zdC d Az cz),v,.agg #[.int .i64 o.op,.int .i64 o.lba,.int .i64 o.n],.int .i64 i] w fun e w'=>∃ dv vh d' h',e=.returned (.tuple #[dv,vh])∧ze4 w' (fun b=>K b∨w.heap.size≤b) dv vh d' h'∧zhI d h d' h'∧Below w.heap.size w w':=by
 obtain ⟨hc,rfl,hn15,h115,-⟩:=zbo hho;obtain ⟨Q,hZ⟩:=Q4.start2 (a0:=.int .i64 0) (a1:=.int .i64 0) (a2:=.int .i64 0) (a3:=.slice none 0 0) (cr:=#[.int .i64 0,.slice none 0 0,.slice none 0 0,.bool false,.int .i64 0,.int .i64 0,.int .i64 0,.int .i64 0,.int .i64 0,.int .i64 0,.slice none 0 0,.slice none 0 0,.slice none 0 0,.int .i64 0,.int .i64 0]) hzl hho hn15 h115 hK #[.int .i64 o.op,.int .i64 o.lba,.int .i64 o.n] 42 rfl;have hin:=zp3 o;have b1:=Int.tmod_lt_of_pos o.lba (show (0:Int)<56 by omega)
 have b2:=Int.lt_tmod_of_pos o.lba (show (0:Int)<56 by omega)
 have b3:=Int.tmod_lt_of_pos o.n (show (0:Int)<4 by omega)
 have b4:=Int.lt_tmod_of_pos o.n (show (0:Int)<4 by omega)
 clear hzl hho;go_enter Tryz.func7,Tryz.ntmps7
 go_upto_region 1 with fail;generalize ((((w.alloc (.cells (zdC d Az cz) 27)).alloc (.cells hc 38)).alloc (.cells #[.int .i64 o.op,.int .i64 o.lba,.int .i64 o.n] 42)).alloc (.cells #[.int .i64 0,.int .i64 0,.int .i64 0,.slice none 0 0] 27)).alloc (.cells #[.int .i64 0,.slice none 0 0,.slice none 0 0,.bool false,.int .i64 0,.int .i64 0,.int .i64 0,.int .i64 0,.int .i64 0,.int .i64 0,.slice none 0 0,.slice none 0 0,.slice none 0 0,.int .i64 0,.int .i64 0] 38)=w1 at Q hZ ⊢;obtain ⟨qz,fz⟩:=hZ.rules;have tz:=hZ.lt;go_upto_region 3 with fail;obtain ⟨N,hN⟩:∃ N:Nat,(1+o.n.tmod 4 % 4).toNat=N:=⟨_,rfl⟩;obtain ⟨L,hL⟩:∃ L:Nat,((o.lba.tmod 56+56) % 56).toNat=L:=⟨_,rfl⟩;have hN1:1+o.n.tmod 4 % 4=(N:Int):=by omega
 have hL1:(o.lba.tmod 56+56) % 56=(L:Int):=by omega
 have hNL:1≤N∧N≤4∧L<56:=by omega
 rw [hN1,hL1];generalize (o.n.tmod 4+4) % 4=x1;generalize o.n.tmod 4+4=x5;generalize o.n.tmod 4=x2;generalize o.lba.tmod 56+56=x3;generalize o.lba.tmod 56=x4;have h8:IntKind.u8.wrap (1+i)=((b8 (1+i)).toNat:Int):=(znI _).symm;have wi:IntKind.i64.wrap (1+i)=1+i:=IntWalk.i64_in _ (by omega)
 have wm:IntKind.i64.wrap (16*(N:Int))=((16*N:Nat):Int):=IntWalk.i64_in _ (by omega)
 have hfi:=fun W=>zfG (b8 (1+i)) (16*N) W (by omega)
 generalize b8 (1+i)=by_ at h8 hfi;clear hN hL hN1 hL1 b1 b2 b3 b4 hin;go_wp2_with fail;refine (hfi _).mono ?_;rintro e w2 ⟨A2,c2,rfl,own2,hb2⟩;have Q2:=Q.step hb2;have hZ2:=hZ.step hb2;have hIB:IsB w2 (fun b=>w1.heap.size≤b) (.slice A2 (16*N) c2) (List.replicate (16*N) by_):=by
  have h9:=IsB.of_own (l:=List.replicate (16*N) by_) (by rw [List.length_replicate];exact own2) (by rw [List.length_replicate];omega)
  rwa [List.length_replicate] at h9
 clear qz fz tz Q hZ hfi h8 wi wm own2 hb2;obtain ⟨qz,fz⟩:=hZ2.rules;have tz:=hZ2.lt;go_upto_region 7 with fail;have E:=(((Kn.start w2).push 67 #[.int .i64 1,.int .i64 L,.int .i64 N,.slice A2 (16*N) c2]).push 27 #[.int .i64 0,.int .i64 0,.int .i64 0,.slice none 0 0]).push 38 #[.int .i64 0,.slice none 0 0,.slice none 0 0,.bool false,.int .i64 0,.int .i64 0,.int .i64 0,.int .i64 0,.int .i64 0,.int .i64 0,.slice none 0 0,.slice none 0 0,.slice none 0 0,.int .i64 0,.int .i64 0];simp only [World.size_alloc] at E;have Q3:=Q2.step E.below;have hZ3:=hZ2.step E.below;have hIB3:=hIB.step E.below;have hlt3:=Q2.lt;have hzl3:=Q2.zl.zlt.step E.below;have hhv3:=(IsHo.lt Q2.hv).step E.below;generalize ((w2.alloc (.cells #[.int .i64 1,.int .i64 L,.int .i64 N,.slice A2 (16*N) c2] 67)).alloc (.cells #[.int .i64 0,.int .i64 0,.int .i64 0,.slice none 0 0] 27)).alloc (.cells #[.int .i64 0,.slice none 0 0,.slice none 0 0,.bool false,.int .i64 0,.int .i64 0,.int .i64 0,.int .i64 0,.int .i64 0,.int .i64 0,.slice none 0 0,.slice none 0 0,.slice none 0 0,.int .i64 0,.int .i64 0] 38)=w3 at E Q3 hZ3 hIB3 hzl3 hhv3 ⊢;have hW3:=E.at_ m2;have hX3:=E.at_ m1;have hY3:=E.at_ m0;obtain ⟨g,hg⟩:∃ g,w2.heap.size=g:=⟨_,rfl⟩;rw [hg] at hW3 hX3 hY3 hlt3 hzl3 hhv3 ⊢;clear E Q2 hZ2 hIB qz fz tz hg;go_cut [37] (fun x37 wx=>∃ p:Int,x37=.int .i64 p∧wx=w3)
 case first=>
  obtain ⟨qz,fz⟩:=hZ3.rules;have tz:=hZ3.lt;go_wp2_with fail;go_meet;exact ⟨_,rfl,rfl⟩
 case rest=>
  obtain ⟨p,rfl,rfl⟩:=hcut;rename_i a9;refine a9 _ _ ?_;have hord:=Q3.ord;have T3:S6 K w w.heap.size (w.heap.size+1) (w.heap.size+1+1+1) (w.heap.size+1+1+1+1) g wc d Az cz h hc zaQ none 0 zcd #[.int .i64 0,.slice none 0 0,.slice none 0 0,.bool false,.int .i64 0,.int .i64 0,.int .i64 0,.int .i64 0,.int .i64 0,.int .i64 0,.slice none 0 0,.slice none 0 0,.slice none 0 0,.int .i64 0,.int .i64 0]:=
   { below:=Q3.below,ord:=by omega,dev:=Q3.dev,zl:=hzl3.more fun b hb=>.inl hb,host:=Q3.host,n:=Q3.n,one:=Q3.one,hv:=hhv3.more fun b hb=>.inl hb,brd:=Q3.rd,brh:=Q3.rh,x:=hX3,xz:=IsL.nil_ _ _,k:=hY3,n':=rfl,one':=rfl,hk:=⟨_,_,_,_,_,rfl,IsL.nil_ _ _,IsL.nil_ _ _,IsB.nil_ _ _,IsL.nil_ _ _,IsL.nil_ _ _⟩ }
  clear Q3 hzl3 hhv3 hX3 hY3 hord;go_cut [15] from 37 to 72 (fun x15 wx=>∃ (e:Int) (d':Zd) (h':Ho) (A7:Option Addr) (c7:Nat) (cs7:Array Value),x15=.int .i64 e∧S6 K w w.heap.size (w.heap.size+1) (w.heap.size+1+1+1) (w.heap.size+1+1+1+1) g wx d Az cz h hc d' A7 c7 h' cs7∧(e=0→zhI d h d' h'))
  case first=>
   by_cases h0:p=0
   case pos=>
    subst h0;have hcm:=zfk hi hv hsq ((zo6 (by_:=by_) hNL)).1 ((zo6 (by_:=by_) hNL)).2;have herl:errL (zap h.ver [⟨1,L,N,List.replicate (16*N) by_⟩])=0:=zdf fun r hr=>by rw [List.mem_singleton.1 hr];exact (((zo6 (by_:=by_) hNL)).2 _ (by omega)).fit (by decide)
    have hio:=zhO (w:=wc) (o:=⟨1,L,N,List.replicate (16*N) by_⟩) rfl hIB3 ⟨by dsimp only;omega,by dsimp only;omega,by dsimp only;omega⟩
    have T4:=T3.step ((Below.refl _ _).alloc (Nat.le_refl _) (.cells #[.int .i64 1,.int .i64 L,.int .i64 N,.slice A2 (16*N) c2] 67));have hlw:=World.size_alloc wc (.cells #[.int .i64 1,.int .i64 L,.int .i64 N,.slice A2 (16*N) c2] 67);obtain ⟨w4,hw4⟩:∃ w4,wc.alloc (.cells #[.int .i64 1,.int .i64 L,.int .i64 N,.slice A2 (16*N) c2] 67)=w4:=⟨_,rfl⟩;rw [hw4] at T4 hio;have hco:=zdl d Az cz h (.agg hc) (some ⟨wc.heap.size,0,none⟩) 1 [⟨1,L,N,List.replicate (16*N) by_⟩] (fun b=>Kz K w.heap.size (w.heap.size+1+1+1+1) g b∧b<w4.heap.size) _ w4 T4.zl.zlt (IsHo.lt T4.hv) hio (fun b hb=>hb.2) hi.okd (hi.okho (by omega)) (hi.small (by decide)) (by omega) (by simp) (by simp) (fun _=>herl) (fun _ h0=>hcm.1 h0)
    obtain ⟨r,hr⟩:∃ r,zav d h [⟨1,L,N,List.replicate (16*N) by_⟩]=r:=⟨_,rfl⟩;rw [hr] at hco hcm;have HCM:=Lib.hid hcm.2;obtain ⟨qd,fd⟩:=T3.dev.rules;obtain ⟨qw,fw⟩:=hW3.rules;clear herl hcm hr;go_wp2_with (refine zbN T3.host T3.n rfl rfl rfl ?_);try rw [hw4]
    refine hco.mono ?_;rintro e w5 ⟨dv,vh,rfl,⟨⟨A7,c7,rfl,hz7⟩,hh7⟩,hb5⟩;obtain ⟨cs7,rfl,hn7,h17,-⟩:=zbo hh7;have T5:=T4.step hb5;replace hz7:=T4.kz hz7;replace hh7:=T4.kh hh7;have q0:=T5.x;have q1:=T5.k;clear hco qd fd T3 T4 hb5 hw4 hlw hio;go_wp2_with (first | (refine zbM q0 rfl rfl rfl rfl rfl (by rfl) (by rfl) ?_;intro w8 hs8 ht8 hB8) | (refine zd3 (q1.turned ht8 (by omega)) T5.n' rfl rfl rfl rfl hn7 h17 ?_;intro w9 hs9 ht9 hB9))
    have T9:=T5.tX (d9:=r.1) (h9:=r.2.1) ht8 hB8 hz7 ht9 hB9 hn7 h17 hh7;go_meet;exact ⟨r.2.2,r.1,r.2.1,A7,c7,cs7,rfl,T9,HCM.out⟩
   case neg=>
    by_cases h1:p=1
    case pos=>
     subst h1;have hcm:=zfk hi hv hsq ((zo1 hNL)).1 ((zo1 hNL)).2;have herl:errL (zap h.ver [⟨2,L,N,[]⟩])=0:=zdf fun r hr=>by rw [List.mem_singleton.1 hr];exact (((zo1 hNL)).2 _ (by omega)).fit (by decide)
     have hio:=zhO (w:=wc) (K:=fun _=>False) (A:=none) (c:=0) (n:=0) (o:=⟨2,L,N,[]⟩) rfl (IsB.nil_ _ _) ⟨by dsimp only;omega,by dsimp only;omega,by dsimp only;omega⟩
     have T4:=T3.step ((Below.refl _ _).alloc (Nat.le_refl _) (.cells #[.int .i64 2,.int .i64 L,.int .i64 N,.slice none 0 0] 67));have hlw:=World.size_alloc wc (.cells #[.int .i64 2,.int .i64 L,.int .i64 N,.slice none 0 0] 67);obtain ⟨w4,hw4⟩:∃ w4,wc.alloc (.cells #[.int .i64 2,.int .i64 L,.int .i64 N,.slice none 0 0] 67)=w4:=⟨_,rfl⟩;rw [hw4] at T4 hio;have hco:=zdl d Az cz h (.agg hc) (some ⟨wc.heap.size,0,none⟩) 1 [⟨2,L,N,[]⟩] (fun b=>Kz K w.heap.size (w.heap.size+1+1+1+1) g b∧b<w4.heap.size) _ w4 T4.zl.zlt (IsHo.lt T4.hv) hio (fun b hb=>hb.2) hi.okd (hi.okho (by omega)) (hi.small (by decide)) (by omega) (by simp) (by simp) (fun _=>herl) (fun _ h0=>hcm.1 h0)
     obtain ⟨r,hr⟩:∃ r,zav d h [⟨2,L,N,[]⟩]=r:=⟨_,rfl⟩;rw [hr] at hco hcm;have HCM:=Lib.hid hcm.2;obtain ⟨qd,fd⟩:=T3.dev.rules;clear herl hcm hr;go_wp2_with (refine zbN T3.host T3.n rfl rfl rfl ?_);try rw [hw4]
     refine hco.mono ?_;rintro e w5 ⟨dv,vh,rfl,⟨⟨A7,c7,rfl,hz7⟩,hh7⟩,hb5⟩;obtain ⟨cs7,rfl,hn7,h17,-⟩:=zbo hh7;have T5:=T4.step hb5;replace hz7:=T4.kz hz7;replace hh7:=T4.kh hh7;have q0:=T5.x;have q1:=T5.k;clear hco qd fd T3 T4 hb5 hw4 hlw hio;go_wp2_with (first | (refine zbM q0 rfl rfl rfl rfl rfl (by rfl) (by rfl) ?_;intro w8 hs8 ht8 hB8) | (refine zd3 (q1.turned ht8 (by omega)) T5.n' rfl rfl rfl rfl hn7 h17 ?_;intro w9 hs9 ht9 hB9))
     have T9:=T5.tX (d9:=r.1) (h9:=r.2.1) ht8 hB8 hz7 ht9 hB9 hn7 h17 hh7;go_meet;exact ⟨r.2.2,r.1,r.2.1,A7,c7,cs7,rfl,T9,HCM.out⟩
    case neg=>
     by_cases h2:p=2
     case pos=>
      subst h2;have hru:=fun z hz=>znY hi (by decide) (by omega) (by omega) z hz Az cz (.agg hc) (fun b=>Kz K w.heap.size (w.heap.size+1+1+1+1) g b∧b<wc.heap.size) wc T3.zl.zlt (IsHo.lt T3.hv) (fun b hb=>hb.2)
      have b5:=Int.tmod_lt_of_pos (L:Int) (show (0:Int)<4 by omega)
      have b6:=Int.tmod_nonneg 4 (show (0:Int)≤L by omega)
      obtain ⟨qd,fd⟩:=T3.dev.rules;go_wp2_with (refine zbN T3.host T3.n rfl rfl rfl ?_);refine (hru _ (by constructor <;> first | assumption | omega)).mono ?_
      rintro e w5 ⟨dv,vh,er,d',h',rfl,⟨⟨A7,c7,rfl,hz7⟩,hh7⟩,hst,hb5⟩;obtain ⟨cs7,rfl,hn7,h17,-⟩:=zbo hh7;have T5:=T3.step hb5;replace hz7:=T3.kz hz7;replace hh7:=T3.kh hh7;have q0:=T5.x;have q1:=T5.k;have HST:Hid (er=0→zhI d h d' h'):=Lib.hid fun e=>by
       obtain ⟨u1,u2,u3,u4⟩:=hst e;exact ⟨u1,by rw [u3];exact zdE.of_same u2,by omega,by omega⟩
      clear hru qd fd T3 hb5 hst b5 b6;go_wp2_with (first | (refine zbM q0 rfl rfl rfl rfl rfl (by rfl) (by rfl) ?_;intro w8 hs8 ht8 hB8) | (refine zd3 (q1.turned ht8 (by omega)) T5.n' rfl rfl rfl rfl hn7 h17 ?_;intro w9 hs9 ht9 hB9))
      have T9:=T5.tX (d9:=d') (h9:=h') ht8 hB8 hz7 ht9 hB9 hn7 h17 hh7;go_meet;exact ⟨er,d',h',A7,c7,cs7,rfl,T9,HST.out⟩
     case neg=>
      go_wp2_with fail;go_meet;exact ⟨1,zaQ,zcd,none,0,_,rfl,T3,fun h=>absurd h (by decide)⟩
  case rest=>
   clear T3 hZ3 hW3 hIB3;obtain ⟨e,d',h',A7,c7,cs7,rfl,T3,hst⟩:=hcut;have HST:=Lib.hid hst;clear hst a9;by_cases he:e=0
   case neg=>
    have heb:(e != 0)=true:=by simpa using he
    go_upto_region 15 with fail;have hb0:Below wc.heap.size wc wc.drew:=(Below.refl _ _).drew;have Td:=T3.step hb0;have hord:=Td.ord;refine wp_region_held_drew (S:=fun W=>(∀ o,W.cell? ⟨w.heap.size,o,none⟩=(zdC d Az cz)[o]?)∧∀ o,W.cell? ⟨w.heap.size+1,o,none⟩=hc[o]?) (by kernel_rfl) ⟨Td.dev.rules.1,Td.host.rules.1⟩ (fun hHeld=>?_)
    obtain ⟨a0,a1,a2,a3,hRd⟩:=Td.brd;obtain ⟨cr,hRh,hnr⟩:=Td.brh;generalize wc.drew=wx at Td hRd hRh hHeld ⊢;clear T3 hb0;refine wT 0 75 ?_;refine wT 1 76 ?_ (hy:=by intro w hSw;(try dsimp only at hSw);refine Eq.trans (zbi hSw.2 Td.n rfl rfl) ?_;with_reducible rfl)
    refine wRn 2 (fun K hK=>?_)
    refine zbZ rfl hRd rfl rfl rfl rfl rfl (by rfl) ?_
    intro wy hsy hty hBy;have Ty:=Td.tRd hty hBy;refine hK.out _ _ ⟨Ty.dev.rules.1,Ty.host.rules.1⟩ (fun hHeld=>?_)
    clear hK K;try simp only [Act.put,List.setIfInBounds_toArray,List.set_cons_zero,List.set_cons_succ]
    refine wRn 3 (fun K hK=>?_)
    refine zd9 rfl (hRh.turned hty (by omega)) hnr rfl rfl rfl Td.n Td.one ?_
    intro wz hsz htz hBz;have Tz:=Ty.tRh htz hBz Td.n;have hBy2:=hBy.turned htz (by omega)
    refine hK.out _ _ ⟨Tz.dev.rules.1,Tz.host.rules.1⟩ (fun hHeld=>?_)
    clear hK K;try simp only [Act.put,List.setIfInBounds_toArray,List.set_cons_zero,List.set_cons_succ]
    refine wpAnyH_done (by kernel_rfl) ?_ _
    go_wp2_with fail;have hl1:=zbK hBz Td.n;have hl0:=zaW hBy2 rfl;exact bodyPost_ret (v:=.tuple #[.agg (zdC d Az cz),.agg hc]) (by simp [results,Tryz.results7,asAddr,hl0,hl1,Result.andThen]) rfl ⟨_,_,d,h,rfl,⟨⟨Az,cz,rfl,Tz.zl.more fun b hb=>Kz.out (by omega) (by omega) hb⟩,IsHo.more Tz.hv fun b hb=>Kz.out (by omega) (by omega) hb⟩,⟨hi,zdE.of_same (zcB.refl _ _),by omega,by omega⟩,Tz.below⟩
   case pos=>
    subst he;go_upto_region 16 with fail;have hb0:Below wc.heap.size wc wc.drew:=(Below.refl _ _).drew;have Td:=T3.step hb0;have hord:=Td.ord;refine wp_region_held_drew (S:=fun W=>(∀ o,W.cell? ⟨g+1,o,none⟩=(zdC d' A7 c7)[o]?)∧∀ o,W.cell? ⟨g+1+1,o,none⟩=cs7[o]?) (by kernel_rfl) ⟨Td.x.rules.1,Td.k.rules.1⟩ (fun hHeld=>?_)
    obtain ⟨a0,a1,a2,a3,hRd⟩:=Td.brd;obtain ⟨cr,hRh,hnr⟩:=Td.brh;generalize wc.drew=wx at Td hRd hRh hHeld ⊢;clear T3 hb0;refine wT 0 77 ?_;refine wT 1 78 ?_ (hy:=by intro w hSw;(try dsimp only at hSw);refine Eq.trans (zbi hSw.2 Td.n' rfl rfl) ?_;with_reducible rfl)
    refine wRn 2 (fun K hK=>?_)
    refine zbZ rfl hRd rfl rfl rfl rfl rfl (by rfl) ?_
    intro wy hsy hty hBy;have Ty:=Td.tRd hty hBy;refine hK.out _ _ ⟨Ty.x.rules.1,Ty.k.rules.1⟩ (fun hHeld=>?_)
    clear hK K;try simp only [Act.put,List.setIfInBounds_toArray,List.set_cons_zero,List.set_cons_succ]
    refine wRn 3 (fun K hK=>?_)
    refine zd9 rfl (hRh.turned hty (by omega)) hnr rfl rfl rfl Td.n' Td.one' ?_
    intro wz hsz htz hBz;have Tz:=Ty.tRh htz hBz Td.n';have hBy2:=hBy.turned htz (by omega)
    refine hK.out _ _ ⟨Tz.x.rules.1,Tz.k.rules.1⟩ (fun hHeld=>?_)
    clear hK K;try simp only [Act.put,List.setIfInBounds_toArray,List.set_cons_zero,List.set_cons_succ]
    refine wpAnyH_done (by kernel_rfl) ?_ _
    go_wp2_with fail;have hl1:=zbK hBz Td.n';have hl0:=zaW hBy2 rfl;exact bodyPost_ret (v:=.tuple #[.agg (zdC d' A7 c7),.agg cs7]) (by simp [results,Tryz.results7,asAddr,hl0,hl1,Result.andThen]) rfl ⟨_,_,rfl,d',h',⟨⟨A7,c7,rfl,Tz.xz.more fun b hb=>Kz.out (by omega) (by omega) hb⟩,IsHo.more Tz.hk fun b hb=>Kz.out (by omega) (by omega) hb⟩,HST.out trivial,Tz.below⟩
end Go.Proofs.YthblkdnijhphhaaGreat
