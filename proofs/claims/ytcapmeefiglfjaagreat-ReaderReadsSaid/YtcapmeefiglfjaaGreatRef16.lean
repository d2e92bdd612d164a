/- A part of the proof. -/
import Derived.Test.YtcapmeefiglfjaaGreatReset
import Derived.Test.YtcapmeefiglfjaaGreatRef10
set_option linter.unusedSimpArgs false
set_option maxHeartbeats 16000000
set_option maxRecDepth 100000
namespace Go.Proofs.YtcapmeefiglfjaaGreat
open Go.RowKit
theorem zdU {P:Nat→Prop} (h:∃ k,P k):∃ k,P k∧∀ j,P j→k≤j:=by
 obtain ⟨k,hk⟩:=h;induction k using Nat.strongRecOn with
 | ind k ih=>
   by_cases hj:∃ j,j<k∧P j
   · obtain ⟨j,h1,h2⟩:=hj;exact ih j h1 h2
   · exact ⟨k,hk,fun j h=>Nat.le_of_not_lt fun hlt=>hj ⟨j,hlt,h⟩⟩
theorem zfn {P:Nat→Prop} {k:Nat} (h:P k):P (Classical.epsilon fun k=>P k∧∀ j,P j→k≤j)∧(Classical.epsilon fun k=>P k∧∀ j,P j→k≤j)≤k:=by
 have h1:=Classical.epsilon_spec (zdU ⟨k,h⟩);exact ⟨h1.1,h1.2 k h⟩
theorem zfN {w:World} {K:Nat→Prop} {h:Ho} {cs:Array Value} {A:Option Addr} {c:Nat} {m:List Ex} (hh:aY w K (.agg cs) h) (hm:IsL Rp.ex w K (.slice A m.length c) m) :
 aY w K (.agg (cs.setIfInBounds 12 (.slice A m.length c))) ⟨h.id,h.own,h.s,h.opn,h.p,m,h.ver,h.seq⟩∧(cs.setIfInBounds 12 (.slice A m.length c)).size=15∧(cs.setIfInBounds 12 (.slice A m.length c)).toList.all (·.oneCell')=true:=by
 obtain ⟨Ao,co,As,cs',Ab,cb,Al,cl,Am,cm,e⟩:=zai hh;obtain ⟨vo,vs,vb,vl,vm,e2,h1,h2,h3,h4,h5⟩:=hh;injection e with e;injection e2 with e2;have e3:=e.symm.trans e2;simp only [hoC,Array.mk.injEq,List.cons.injEq,zks,zkn] at e3;obtain ⟨rfl,rfl,rfl,rfl,rfl⟩:=e3;subst e;exact ⟨⟨_,_,_,_,_,rfl,h1,h2,h3,h4,hm⟩,rfl,rfl⟩
theorem Q4.made {K:Nat→Prop} {w wr:World} {gd gh rd rh:Nat} {d:Zd} {A:Option Addr} {c:Nat} {h:Ho} {cs:Array Value} (q:Q4 K w gd gh rd rh wr d A c h cs) {wy:World} {g:Nat} (ht:aA wr wy (fun b=>b=g)) (hg:rh<g) :
 Below w.heap.size w wy∧Blk wy gd 26 (zdC d A c)∧Blk wy gh 37 cs∧(∃ a0 a1 a2 a3,Blk wy rd 26 #[a0,a1,a2,a3])∧∃ cs',Blk wy rh 37 cs'∧cs'.size=15:=by
 have ho:=q.ord;obtain ⟨a0,a1,a2,a3,hr⟩:=q.rd;obtain ⟨cr,hr',hn⟩:=q.rh;exact ⟨aA.upon q.below ht (by omega) (zic _),q.dev.turned ht (by omega),q.host.turned ht (by omega),⟨a0,a1,a2,a3,hr.turned ht (by omega)⟩,cr,hr'.turned ht (by omega),hn⟩
section
variable {n:Nat} {M B:Int} {F:Nat→Int} {S:List Sp} {d0:Zd} {h0:Ho}
structure zhH (n:Nat) (M:Int) (F:Nat→Int) (B:Int) (S:List Sp) (d0:Zd) (h0:Ho) (z:Int) (k:Nat) (d:Zd) (h:Ho):Prop where
 j:eZ n M F B S d h
 same:iO d0.z h0.m d.z h.m
 ver:h.ver=h0.ver
 cnt:zdw h.m z B=k
 seq:h.seq+k≤h0.seq+zdw h0.m z B
end
theorem zgh {n:Nat} {M B:Int} {F:Nat→Int} {S:List Sp} {d:Zd} {h:Ho} (hi:eZ n M F B S d h) (hS:S.length≤1000000) (hv:h.ver≤900000) (hsq:h.seq≤800000) (z:Int) (hz:0≤z∧z<n) (Az:Option Addr) (cz:Nat) (v:Value) (K:Nat→Prop) (w:World) (hzl:IsL Rp.zone w K (.slice Az d.z.length cz) d.z) (hho:aY w K v h) (hK:∀ b,K b→b<w.heap.size) :
 Calls Tryz.prog 24 #[.agg (zdC d Az cz),v,.int .i64 z] w fun e w'=>∃ dv vh er d' h',e=.returned (.tuple #[dv,vh,.int .i64 er])∧mG w' (fun b=>K b∨w.heap.size≤b) dv vh d' h'∧(er=0→eZ n M F B S d' h'∧iO d.z h.m d'.z h'.m∧h'.ver=h.ver∧h'.seq≤h.seq+B+1)∧Below w.heap.size w w':=by
 obtain ⟨hc,rfl,hn15,h115,-⟩:=eJ hho;have Q:=Q4.start (a0:=.int .i64 0) (a1:=.int .i64 0) (a2:=.int .i64 0) (a3:=.slice none 0 0) (cr:=#[.int .i64 0,.slice none 0 0,.slice none 0 0,.bool false,.int .i64 0,.int .i64 0,.int .i64 0,.int .i64 0,.int .i64 0,.int .i64 0,.slice none 0 0,.slice none 0 0,.slice none 0 0,.int .i64 0,.int .i64 0]) hzl hho hn15 h115 hK rfl;have R0:zhH n M F B S d h z (zdw h.m z B) d h:=⟨hi,iO.refl _ _,rfl,rfl,by omega⟩
 have hn:=hi.n64;have hcj:=zgA h.m z B;have hB:=hi.bnd;clear hzl hho;go_enter Tryz.func24,Tryz.ntmps24
 go_wp2_with fail;generalize (((w.alloc (.cells (zdC d Az cz) 26)).alloc (.cells hc 37)).alloc (.cells #[.int .i64 0,.int .i64 0,.int .i64 0,.slice none 0 0] 26)).alloc (.cells #[.int .i64 0,.slice none 0 0,.slice none 0 0,.bool false,.int .i64 0,.int .i64 0,.int .i64 0,.int .i64 0,.int .i64 0,.int .i64 0,.slice none 0 0,.slice none 0 0,.slice none 0 0,.int .i64 0,.int .i64 0] 37)=w1 at Q ⊢;obtain ⟨P,hP⟩:∃ P:World→Nat→Prop,∀ wr k,P wr k↔∃ d1 A1 c1 h1 cs1,zhH n M F B S d h z k d1 h1∧Q4 K w w.heap.size (w.heap.size+1) (w.heap.size+1+1) (w.heap.size+1+1+1) wr d1 A1 c1 h1 cs1:=⟨_,fun _ _=>Iff.rfl⟩
 go_loopw [9,10,11,12] (fun x9 x10 x11 x12 wr=>(∃ k,P wr k)∧(∃ y,x9=y)∧(∃ y,x10=y)∧(∃ y,x11=y)∧∃ y,x12=y) (fun _ _ _ _ wr=>Classical.epsilon fun k=>P wr k∧∀ j,P wr j→k≤j)
 case atStart=>exact ⟨⟨_,(hP _ _).2 ⟨_,_,_,_,_,R0,Q⟩⟩,⟨_,rfl⟩,⟨_,rfl⟩,⟨_,rfl⟩,_,rfl⟩
 case round=>
  clear Q R0;obtain ⟨⟨k0,hk0⟩,⟨y9,rfl⟩,⟨y10,rfl⟩,⟨y11,rfl⟩,y12,rfl⟩:=hrel;have he1:=(zfn hk0).1;generalize hkk:(Classical.epsilon fun k=>P wr k∧∀ j,P wr j→k≤j)=k at he1
  clear hk0;obtain ⟨d1,A1,c1,h1,cs1,R1,Q1⟩:=(hP _ _).1 he1;have hj:=R1.j;have hv1:h1.ver≤900000:=by rw [R1.ver];exact hv
  have hs1:h1.seq≤900000:=by have:=R1.seq;omega
  have hz9:z≤1000000:=by omega
  have hrec:∀ L x,InE h1.m z L→L.head?=some x→eY [lX d1 h1 z x]=0∧(rX d1 h1 x).length≤1000000∧((bP d1 h1 [lX d1 h1 z x]).2.2.2=0→(bP d1 h1 [lX d1 h1 z x]).2.2.1.length=1):=fun L x hL hx=>by
   obtain ⟨g1,g2⟩:=hj.rec5 hL hx hz.1 hv1;obtain ⟨a1,a2,a3,a4,a5,a6,a7,a8,a9⟩:=hj.piece hL hx hz.1;have hp2:=a2.pos;unfold aL at a4;refine ⟨g2,by omega,fun e=>?_⟩
   rcases put_gen hj (by simp) g2 (by simpa using g1) hs1 with hno | ⟨k,hd,sq,zs,at_,hp⟩
   · rw [hno] at e;simp at e
   · rw [hp.put];exact hp.place.1
  obtain ⟨Am,cm,c12,hm,-⟩:=vG Q1.hv;have k12:=(Q1.host.cell 12).trans c12;have hco:=zd3 d1 A1 c1 h1 (.agg cs1) Am cm z (fun b=>Kq K w.heap.size (w.heap.size+1+1+1) b∧b<wr.heap.size) _ wr Q1.zl.zlt (aY.lt Q1.hv) hm (fun b hb=>hb.2) hj.okd (hj.okho (by omega)) (hj.small hS) hj.chain hj.fit hz.1 hz9 (fun e he=>by have:=hj.oldE e he;omega) hrec
  obtain ⟨qd,fd⟩:=Q1.dev.rules;have f12:=Q1.host.rules.2;have HKK:=zia hkk;clear hrec hm c12 hkk;go_wp2_with (refine eG Q1.host Q1.n rfl rfl rfl ?_);refine hco.mono ?_;rintro e w2 ⟨L,hL,dv,vh,Aa,ca,rfl,hmv,⟨⟨A2,c2,rfl,hz2⟩,hh2⟩,hb2⟩;obtain ⟨cs2,rfl,hn2,h12,-⟩:=eJ hh2;have Q2:=Q1.step hb2;replace hz2:=Q1.kz hz2;replace hh2:=Q1.kh hh2;have hL':=zia hL;obtain ⟨r,hr⟩:∃ r,jS d1 h1 z L=r:=⟨_,rfl⟩;rw [hr] at hmv hz2 hh2 ⊢;have HR:=zia hr;obtain ⟨e0,he0⟩:∃ e0,r.2.2.2=e0:=⟨_,rfl⟩;rw [he0];have HE0:=zia he0;clear hco qd fd f12 k12 hb2 hL hr he0;go_upto_region 2 with (refine iI rfl rfl (by first | rfl | simp [Act.eval,zid]) rfl rfl hn2 h12 ?_)
  have hb3:Below w2.heap.size w2 ((w2.alloc (.cells (zdC r.1 A2 c2) 26)).alloc (.cells cs2 37)):=(zBA).alloc (by rw [zid];omega) _
  have hBx:=(Blk.new w2 26 (zdC r.1 A2 c2) rfl).alloc (.cells cs2 37);have hBk:=Blk.new (w2.alloc (.cells (zdC r.1 A2 c2) 26)) 37 cs2 rfl;have hlt2:=Q2.lt;rw [zid] at hBk;have Q3:=Q2.step hb3;replace hz2:=(hz2.zlt).step hb3;replace hh2:=(aY.lt hh2).step hb3;replace hmv:=(IsL.ltG (fun _ _ h=>h) (by decide) hmv).step hb3
  generalize (w2.alloc (.cells (zdC r.1 A2 c2) 26)).alloc (.cells cs2 37)=w3 at hBx hBk Q3 hz2 hh2 hmv ⊢;obtain ⟨gx,hgx⟩:∃ gx,w2.heap.size=gx:=⟨_,rfl⟩;rw [hgx] at hBx hBk hlt2 hz2 hh2 hmv ⊢;clear hb3 Q2 hgx Q1;cases hhd:L.head? with
  | none=>
    have hr4:r=(cQ,fY,[],4):=by rw [←HR.out];unfold jS;rw [hhd]
    obtain rfl:(4:Int)=e0:=by rw [←HE0.out,hr4]
    have hre:=zbv hj hS hv1 hs1 z hz A1 c1 (.agg cs1) (fun b=>Kq K w.heap.size (w.heap.size+1+1+1) b∧b<w3.heap.size) w3 Q3.zl.zlt (aY.lt Q3.hv) (fun b hb=>hb.2)
    have hrs:=hj.resets (z:=z) hz hv1 hs1;obtain ⟨R,hR⟩:∃ R,eD d1 h1 z=R:=⟨_,rfl⟩;rw [hR] at hre hrs;have HRS:=zia hrs;obtain ⟨qd,fd⟩:=Q3.dev.rules;clear hr4 hhd hBx hBk hz2 hh2 hmv HR HE0 hL' HKK he1 hrs hR;go_wp2_with (refine eG Q3.host Q3.n rfl rfl rfl ?_);refine hre.mono ?_;rintro e w4 ⟨dv,vh,rfl,⟨⟨A4,c4,rfl,hz4⟩,hh4⟩,hb4⟩;obtain ⟨cs4,rfl,hn4,h14,-⟩:=eJ hh4;have Q4':=Q3.step hb4;replace hz4:=Q3.kz hz4;replace hh4:=Q3.kh hh4;obtain ⟨a0,a1,a2,a3,hRd⟩:=Q4'.rd;obtain ⟨cr,hRh,hnr⟩:=Q4'.rh;have hbw:=Q4'.below;clear hre qd fd hb4 Q3;go_wp2_with (first | (refine eU hRd rfl rfl rfl rfl rfl (by rfl) (by rfl) ?_;intro w8 hs8 ht8 hB8) | (refine jT (hRh.turned ht8 (by omega)) hnr rfl rfl rfl rfl hn4 h14 ?_;intro w9 hs9 ht9 hB9))
    have hl1:=eR hB9 hn4;have hl0:=cY (hB8.turned ht9 (by omega)) rfl
    have hb9:=aA.upon (aA.upon hbw ht8 (by omega) (zic _)) ht9 (by omega) (zic _)
    have hz9':=(hz4.turned ht8 (fun b hb e=>(Q4'.far hb).2.2.1 e)).turned ht9 (fun b hb e=>(Q4'.far hb).2.2.2 e)
    have hh9':=aY.keep (aY.keep hh4 (ht8.cells (K:=Kq K w.heap.size (w.heap.size+1+1+1)) fun _ hb e=>(Q4'.far hb).2.2.1 e)) (ht9.cells (K:=Kq K w.heap.size (w.heap.size+1+1+1)) fun _ hb e=>(Q4'.far hb).2.2.2 e)
    refine zik (v:=.tuple #[.agg (zdC R.1 A4 c4),.agg cs4,.int .i64 R.2.2]) (by simp [results,Tryz.results24,asAddr,hl0,hl1,Result.andThen]) rfl ⟨_,_,_,R.1,R.2.1,rfl,⟨⟨A4,c4,rfl,hz9'.more fun b hb=>by rcases hb with hb | hb;exact .inl hb.1;exact .inr (by omega)⟩,aY.more hh9' fun b hb=>by rcases hb with hb | hb;exact .inl hb.1;exact .inr (by omega)⟩,fun h=>?_,hb9⟩
    obtain ⟨u1,u2,u3,u4⟩:=HRS.out h;have:=R1.seq;exact ⟨u1,R1.same.trans u2,u3.trans R1.ver,by omega⟩
  | some x=>
    cases hwr:bK h1 z with
    | true=>
      have hr6:r=(cQ,fY,[],60):=by rw [←HR.out];unfold jS;rw [hhd];simp only [hwr,zkh]
      obtain rfl:(60:Int)=e0:=by rw [←HE0.out,hr6]
      clear hr6 hhd hBx hBk hz2 hh2;obtain ⟨a0,a1,a2,a3,hRd⟩:=Q3.rd;obtain ⟨cr,hRh,hnr⟩:=Q3.rh;have hbw:=Q3.below;clear HKK HR HE0 hL' he1 hmv;go_wp2_with (first | (refine eU hRd rfl rfl rfl rfl rfl (by rfl) (by rfl) ?_;intro w8 hs8 ht8 hB8) | (refine jT (hRh.turned ht8 (by omega)) hnr rfl rfl rfl rfl rfl rfl ?_;intro w9 hs9 ht9 hB9))
      have hl1:=eR hB9 rfl;have hl0:=cY (hB8.turned ht9 (by omega)) rfl
      have hb9:=aA.upon (aA.upon hbw ht8 (by omega) (zic _)) ht9 (by omega) (zic _)
      exact zik (v:=.tuple #[.agg #[.int .i64 0,.int .i64 0,.int .i64 0,.slice none 0 0],.agg #[.int .i64 0,.slice none 0 0,.slice none 0 0,.bool false,.int .i64 0,.int .i64 0,.int .i64 0,.int .i64 0,.int .i64 0,.int .i64 0,.slice none 0 0,.slice none 0 0,.slice none 0 0,.int .i64 0,.int .i64 0],.int .i64 60]) (by simp [results,Tryz.results24,asAddr,hl0,hl1,Result.andThen]) rfl ⟨_,_,_,cQ,fY,rfl,⟨⟨none,0,rfl,IsL.nil_ _ _⟩,⟨_,_,_,_,_,rfl,IsL.nil_ _ _,IsL.nil_ _ _,IsB.nil_ _ _,IsL.nil_ _ _,IsL.nil_ _ _⟩⟩,fun h=>absurd h (by decide),hb9⟩
    | false=>
      obtain ⟨g1,g2⟩:=hj.rec5 hL'.out hhd hz.1 hv1;have hr5:r=((bP d1 h1 [lX d1 h1 z x]).1,(bP d1 h1 [lX d1 h1 z x]).2.1,if (bP d1 h1 [lX d1 h1 z x]).2.2.2=0 then [(cN z x,⟨x.lba,min x.n 256,x.ver,(bP d1 h1 [lX d1 h1 z x]).2.1.p.zone,(bP d1 h1 [lX d1 h1 z x]).2.2.1.headD 0⟩)] else [],(bP d1 h1 [lX d1 h1 z x]).2.2.2):=by rw [←HR.out];unfold jS;rw [hhd];simp only [hwr];rfl
      rcases put_gen hj (by simp) g2 (by simpa using g1) hs1 with hno | ⟨kz,hd,sq,zs,at_,hp⟩
      · obtain rfl:(64:Int)=e0:=by rw [←HE0.out,hr5,hno]
        clear hr5 hno hhd hBx hBk hz2 hh2 g1 g2;obtain ⟨a0,a1,a2,a3,hRd⟩:=Q3.rd;obtain ⟨cr,hRh,hnr⟩:=Q3.rh;have hbw:=Q3.below;clear HKK HR HE0 hL' he1 hmv;go_wp2_with (first | (refine eU hRd rfl rfl rfl rfl rfl (by rfl) (by rfl) ?_;intro w8 hs8 ht8 hB8) | (refine jT (hRh.turned ht8 (by omega)) hnr rfl rfl rfl rfl rfl rfl ?_;intro w9 hs9 ht9 hB9))
        have hl1:=eR hB9 rfl;have hl0:=cY (hB8.turned ht9 (by omega)) rfl
        have hb9:=aA.upon (aA.upon hbw ht8 (by omega) (zic _)) ht9 (by omega) (zic _)
        exact zik (v:=.tuple #[.agg #[.int .i64 0,.int .i64 0,.int .i64 0,.slice none 0 0],.agg #[.int .i64 0,.slice none 0 0,.slice none 0 0,.bool false,.int .i64 0,.int .i64 0,.int .i64 0,.int .i64 0,.int .i64 0,.int .i64 0,.slice none 0 0,.slice none 0 0,.slice none 0 0,.int .i64 0,.int .i64 0],.int .i64 64]) (by simp [results,Tryz.results24,asAddr,hl0,hl1,Result.andThen]) rfl ⟨_,_,_,cQ,fY,rfl,⟨⟨none,0,rfl,IsL.nil_ _ _⟩,⟨_,_,_,_,_,rfl,IsL.nil_ _ _,IsL.nil_ _ _,IsB.nil_ _ _,IsL.nil_ _ _,IsL.nil_ _ _⟩⟩,fun h=>absurd h (by decide),hb9⟩
      · obtain ⟨a1,a2,a3,a4,a5,a6,a7,a8,a9⟩:=hj.piece hL'.out hhd hz.1
        obtain ⟨o,rfl,-,-,-⟩:=hp.one;obtain ⟨m1,m2,⟨m3,m4,m5⟩,m6,m7,m8⟩:=hj.moved hL'.out hhd hz.1 hwr hp;have hmin:min x.n 256=x.n:=by have:=hj.bnd;have:=a2.pos;unfold aL at a4;omega
        have hr7:r=(cO M zs,⟨h1.id,h1.own,h1.s,true,⟨hd,kz,M,(zs.getD kz z0).d.length,[],[]⟩,h1.m,h1.ver,sq⟩,[(x,⟨x.lba,x.n,x.ver,kz,o⟩)],0):=by
         rw [hr5,hp.put,a6,hmin];rfl
        obtain rfl:(0:Int)=e0:=by rw [←HE0.out,hr7]
        have hR2:zhH n M F B S d h z (zdw (putE h1.m (gL h1.m x ⟨x.lba,x.n,x.ver,kz,o⟩)) z B) (cO M zs) ⟨h1.id,h1.own,h1.s,true,⟨hd,kz,M,(zs.getD kz z0).d.length,[],[]⟩,putE h1.m (gL h1.m x ⟨x.lba,x.n,x.ver,kz,o⟩),h1.ver,sq⟩:=
         ⟨m6,R1.same.trans m7,R1.ver,rfl,by
          have h5:=R1.seq;have h6:=R1.cnt;have h7:=hp.seqs.2;show sq+(zdw (putE h1.m (gL h1.m x ⟨x.lba,x.n,x.ver,kz,o⟩)) z B:Nat)≤_;omega⟩
        have hlt:zdw (putE h1.m (gL h1.m x ⟨x.lba,x.n,x.ver,kz,o⟩)) z B<k:=by rw [←R1.cnt];exact m8
        subst hr7;have hml:h1.m.length≤1000000:=by have:=hj.len9;have:=hj.bnd;omega
        have hch:=hj.chain;have hzn:x.zone≠-1:=by rw [a3];omega
        have hkn:(kz:Int)≠-1:=by omega
        clear hr5 g1 g2 m1 m3 m6 m7 m8 a4 a5 a6 a7 a8 a9 hmin hp hj R1 HR HE0 hL' hwr hhd;dsimp only [List.length_cons,List.length_nil] at hmv hh2 hz2;obtain ⟨t,ht⟩:∃ t:Ex,(⟨x.lba,x.n,x.ver,kz,o⟩:Ex)=t:=⟨_,rfl⟩;have hsame:t.lba=x.lba∧t.n=x.n∧t.ver=x.ver:=by rw [←ht];exact ⟨rfl,rfl,rfl⟩
        have htz:t.zone≠-1:=by rw [←ht];exact hkn
        rw [ht] at hmv m2 m4 m5 hR2 hlt;obtain ⟨Am2,cm2,c12,hm2,-⟩:=vG hh2;have hm2':IsL Rp.ex w3 _ (.slice Am2 h1.m.length cm2) h1.m:=hm2;have hc12:cs2[12]?=some (.slice Am2 h1.m.length cm2):=c12;have had:=zb9 Am2 cm2 h1.m x t Aa ca _ _ w3 hm2' hmv hml hch a2 m2 hzn htz hsame m4 m5;obtain ⟨pm,hpm⟩:∃ pm,putE h1.m (gL h1.m x t)=pm:=⟨_,rfl⟩;rw [hpm] at had hR2 hlt;have HR2:=zia hR2;have HLT:=zia hlt;have k12:=(hBk.cell 12).trans hc12;have f12:=hBk.rules.2;clear hm2 hm2' hc12 c12 hml hch a2 m2 hzn htz hsame m4 m5 hpm hR2 hlt ht a3 hkn;go_wp2_with fail;refine had.mono ?_;rintro e w4 ⟨A4,c4,rfl,hm4,hb4⟩;have hgk:=hBk.lt;have Q4':=Q3.step hb4;have hBx4:=hBx.step hb4;have hBk4:=hBk.step hb4;have hz4:=hz2.step hb4;obtain ⟨hh4,hn4,h14⟩:=zfN (K:=fun b=>(Kq K w.heap.size (w.heap.size+1+1+1) b∧b<gx)∨w3.heap.size≤b) (aY.more (hh2.step hb4) fun b hb=>.inl hb) (hm4.more fun b hb=>.inr hb)
        obtain ⟨q12,f12⟩:=hBk4.rules;have t12:=hBk4.lt;clear had k12 hBk hBx hmv hh2 hz2 hm4 hb4 Q3;go_upto_region 7 with fail;refine cF (K:=fun W=>Code.wp _ _ _ _ W) hBk4 12 _ ?_
        intro w5 hs5 ht5 hB5;have hord:=Q4'.ord;obtain ⟨hb5,hd5,hh5,hr5,hrh5⟩:=Q4'.made ht5 (by omega)
        have hBx5:=hBx4.turned ht5 (by omega)
        have hz5:=hz4.turned ht5 (fun b hb e=>by omega)
        have hv5:=aY.keep hh4 (ht5.cells (K:=fun b=>(Kq K w.heap.size (w.heap.size+1+1+1) b∧b<gx)∨w3.heap.size≤b) fun b hb e=>by omega)
        have hn1:=Q4'.n;clear hs5 ht5 hBx4 hBk4 hz4 hh4 Q4' q12 f12;generalize hcs3:cs2.setIfInBounds 12 (.slice A4 pm.length c4)=cs3 at hB5 hn4 h14 hv5 ⊢;clear hcs3;have hb0:Below w5.heap.size w5 w5.drew:=(zif _ _).drew;refine wp_region_held_drew (S:=fun W=>(∀ o,W.cell? ⟨gx,o,none⟩=(zdC (cO M zs) A2 c2)[o]?)∧∀ o,W.cell? ⟨gx+1,o,none⟩=cs3[o]?) (by kernel_rfl) ⟨(hBx5.step hb0).rules.1,(hB5.step hb0).rules.1⟩ (fun hHeld=>?_)
        replace hd5:=hd5.step hb0;replace hh5:=hh5.step hb0;replace hBx5:=hBx5.step hb0;replace hB5:=hB5.step hb0;replace hz5:=hz5.step hb0;replace hv5:=hv5.step hb0;replace hb5:=hb5.trans (hb0.mono hb5.size);obtain ⟨a0,a1,a2,a3,hr5⟩:=hr5;obtain ⟨cr,hrh5,hnr⟩:=hrh5;replace hr5:=hr5.step hb0;replace hrh5:=hrh5.step hb0;generalize w5.drew=wx at hd5 hh5 hBx5 hB5 hz5 hv5 hb5 hr5 hrh5 hHeld ⊢;clear hb0;refine wT 0 42 ?_;refine wT 1 43 ?_ (hy:=by intro w hSw;(try dsimp only at hSw);refine zkF (dU hSw.2 hn4 rfl rfl) ?_;with_reducible rfl)
        refine wRn 2 (fun K hK=>?_)
        refine fN rfl hd5 rfl rfl rfl rfl rfl (by rfl) ?_
        intro wy hsy hty hBy;have hBx6:=hBx5.turned hty (by omega)
        have hB6:=hB5.turned hty (by omega)
        refine hK.out _ _ ⟨hBx6.rules.1,hB6.rules.1⟩ (fun hHeld=>?_)
        clear hK K;try simp only [Act.put,ziY,List.set_cons_zero,List.set_cons_succ]
        refine wRn 3 (fun K hK=>?_)
        refine jX rfl (hh5.turned hty (by omega)) hn1 rfl rfl rfl hn4 h14 ?_
        intro wz hsz htz hBz;refine hK.out _ _ ⟨(hBx6.turned htz (by omega)).rules.1,(hB6.turned htz (by omega)).rules.1⟩ (fun hHeld=>?_)
        clear hK K;try simp only [Act.put,ziY,List.set_cons_zero,List.set_cons_succ]
        refine wpAnyH_done (by kernel_rfl) ?_ _
        have hfar:∀ b,((Kq K w.heap.size (w.heap.size+1+1+1) b∧b<gx)∨w3.heap.size≤b)→b≠w.heap.size∧b≠w.heap.size+1:=fun b hb=>by
         rcases hb with ⟨⟨_,hb⟩ | hb,_⟩ | hb <;> omega
        have hmo:∀ b,((Kq K w.heap.size (w.heap.size+1+1+1) b∧b<gx)∨w3.heap.size≤b)→Kq K w.heap.size (w.heap.size+1+1+1) b:=fun b hb=>by
         rcases hb with hb | hb;exact hb.1;exact .inr (by omega)
        have Q7:Q4 K w w.heap.size (w.heap.size+1) (w.heap.size+1+1) (w.heap.size+1+1+1) wz (cO M zs) A2 c2 ⟨h1.id,h1.own,h1.s,true,⟨hd,kz,M,(zs.getD kz z0).d.length,[],[]⟩,pm,h1.ver,sq⟩ cs3:=
         { below:=aA.upon (aA.upon hb5 hty (by omega) (zic _)) htz (by omega) (zic _),ord:=by omega,dev:=hBy.turned htz (by omega),zl:=((hz5.turned hty (fun b hb e=>(hfar b (.inl hb)).1 e)).turned htz (fun b hb e=>(hfar b (.inl hb)).2 e)).more fun b hb=>hb.1,host:=hBz,n:=hn4,one:=h14,hv:=aY.more (aY.keep (aY.keep hv5 (hty.cells (K:=fun b=>(Kq K w.heap.size (w.heap.size+1+1+1) b∧b<gx)∨w3.heap.size≤b) fun b hb e=>(hfar b hb).1 e)) (htz.cells (K:=fun b=>(Kq K w.heap.size (w.heap.size+1+1+1) b∧b<gx)∨w3.heap.size≤b) fun b hb e=>(hfar b hb).2 e)) hmo,rd:=⟨a0,a1,a2,a3,(hr5.turned hty (by omega)).turned htz (by omega)⟩,rh:=⟨cr,(hrh5.turned hty (by omega)).turned htz (by omega),hnr⟩ }
        have hPz:=(hP wz _).2 ⟨_,_,_,_,_,HR2.out,Q7⟩;have hmz:(Classical.epsilon fun k=>P wz k∧∀ j,P wz j→k≤j)<Classical.epsilon fun k=>P wr k∧∀ j,P wr j→k≤j:=by
         have h1:=(zfn hPz).2;have h2:=HLT.out;rw [HKK.out];omega
        have HPZ:=zia hPz;have HMZ:=zia hmz;clear hPz hmz;go_wp2_with fail;go_roundw
        case rel=>exact ⟨⟨_,HPZ.out⟩,⟨_,rfl⟩,⟨_,rfl⟩,⟨_,rfl⟩,_,rfl⟩
        case measure=>have h9:=HMZ.out;rw [HKK.out] at h9;exact h9
theorem vE (d:Zd) (A:Option Addr) (c:Nat) (Am:Option Addr) (cm:Nat) (m:List Ex) (lba n:Int) (K K':Nat→Prop) (w:World) (hv:IsL Rp.zone w K (.slice A d.z.length c) d.z) (hm:IsL Rp.ex w K' (.slice Am m.length cm) m) (hd:okD d)
 (hch:aC 0 m) (hb:aJ lba n) (hn:n≤4096) (hf:rB d.z m) :
 Calls Tryz.prog 32 #[.agg #[.int .i64 d.cap,.int .i64 d.opn,.int .i64 d.act,.slice A d.z.length c],.slice Am m.length cm,.int .i64 lba,.int .i64 n] w fun e w'=>
  ∃ A4 c4,e=.returned (.tuple #[.slice A4 (cC d.z m lba n).1.length c4,.int .i64 0])∧w'.ownsRow w.heap.size 5 1 (.slice A4 (cC d.z m lba n).1.length c4) (cC d.z m lba n).1.length (aE (cC d.z m lba n).1)∧Below w.heap.size w w':=by
 obtain ⟨i0,hi,hz0,hz1,hz2⟩:=ziH Tryz.info5;have hlk:=fun W h=>zel Am cm m lba n K' W h hch hb
 have hft:=sL hch hb hf;obtain ⟨h1,h2,_⟩:=dH hch hb;have htl:kG lba (lookE m lba n) (lba+n):=gJ _ _ _ h1 h2;have hby:(cC d.z m lba n).1=(lookE m lba n).flatMap (bU d.z):=by
  unfold cC;have hc:dZ m=0:=by unfold dZ;rw [zij hch]
  rw [zig (by rw [hc];simp [hb]),zig (by omega),fT _ _ fun p hp=>(hft p hp).1]
  rfl
 have htot:=sB _ _ _ htl fun p hp=>(hft p hp).1
 have hcnt:=iJ _ fun p hp=>(hft p hp).1
 rw [hby];clear h1 h2 htl hf hby hch;have hzl:∀ z∈d.z,z.d.length≤1000000000:=fun z hz=>by
  obtain ⟨h1,h2,h3,h4⟩:=hd.2.2.2 z hz;have:=hd.1;omega
 have hn64:=hd.1.2.1;clear hd;obtain ⟨zs,hzs⟩:∃ zs,d.z=zs:=⟨_,rfl⟩;rw [hzs] at hv hft htot hcnt hzl hn64 ⊢;obtain ⟨zn,hzn⟩:∃ zn,zs.length=zn:=⟨_,rfl⟩;rw [hzn] at hv hn64 ⊢;have hb2:=hb.2.1;have HV:=hv;have E:=((Kn.start w).give aB.list hv).push 26 #[.int .i64 d.cap,.int .i64 d.opn,.int .i64 d.act,.slice A zn c];generalize lookE m lba n=lk at hlk hft htot hcnt ⊢;obtain ⟨tot,htt⟩:∃ tot,(lk.flatMap (bU zs)).length=tot:=⟨_,rfl⟩;have hple:=fun j=>tK (zs:=zs) lk j
 have hptk:=fun j (hj:j<lk.length)=>oT (zs:=zs) lk hj
 rw [htt] at htot hcnt ⊢;have htot5:tot≤65536:=by omega
 obtain ⟨ln,hln⟩:∃ ln,lk.length=ln:=⟨_,rfl⟩;rw [hln] at hlk hcnt;obtain ⟨m',hm'⟩:∃ m',m.length=m':=⟨_,rfl⟩;rw [hm'] at hm hlk ⊢;have HLN:=zia hln;have HTT:=zia htt;have HFT:=zia hft;have HPL:=zia hple;have HPT:=zia hptk;have HZL:=zia hzl;have HZN:=zia hzn;clear hln htt hft hple hptk hzl hzn htot hb hv hzs hm';have n1:n*16≤65536:=by omega
 obtain ⟨N,hN⟩:∃ N:Nat,n*16=(N:Int):=⟨(n*16).toNat,by omega⟩
 have hN2:N≤65536:=by omega
 obtain ⟨q0,f0,t0⟩:=E.rules m0;go_enter Tryz.func32,Tryz.ntmps32
 go_wp2_with fail;refine (hlk _ (hm.alloc _)).mono ?_;rintro x w2 ⟨Ao,co,rfl,own2,hb2'⟩;replace E:=E.step hb2';clear hlk hm hb2' q0 f0 t0;have hs2:=E.below.size;have hb3:=zif w2.heap.size w2;have hsw:w.heap.size<w2.heap.size:=(E.rules m0).2.2;replace E:=E.give aB.ownI' own2;clear own2;go_wp2_with fail;go_loopw [12,14,29] (fun x12 x14 x29 wr=>∃ (j t:Nat) (Ab:Option Addr) (cb:Nat),x29=.int .i64 j∧j≤ln∧x12=.slice Ab t cb∧Hid (((lk.take j).flatMap (bU zs)).length=t)∧t≤65536∧wr.ownsRow w2.heap.size 5 1 (.slice Ab t cb) t (aE ((lk.take j).flatMap (bU zs)))∧Below w2.heap.size w2 wr∧∃ y,x14=y) (fun _ _ x29 _=>ln-(intOf x29).toNat)
 case atStart=>exact ⟨0,0,_,_,rfl,zir _,rfl,zia rfl,zir _,zin _ _ _ _,hb3,_,rfl⟩
 case round=>
  obtain ⟨j,t,Ab,cb,rfl,hj,rfl,htj,ht5,hown,hb,y,rfl⟩:=hrel;clear hb3;have F:=E.step hb;have hsr:=hb.size;by_cases hlt:j<ln
  case neg=>
   obtain rfl:j=ln:=by omega
   rw [zip (by rw [HLN.out];exact zic _)] at hown htj
   obtain rfl:t=tot:=by rw [←htj.out,HTT.out]
   clear E;go_wp2;refine zik (v:=.tuple #[.slice Ab t cb,.int .i64 0]) (by simp [results,Tryz.results32,go_sem]) rfl ⟨Ab,cb,rfl,aO hown (by omega),F.below⟩
  have hlt':j<lk.length:=by rw [HLN.out];exact hlt
  have HT:=zia (HPT.out j hlt');have hle:=HPL.out (j+1);rw [HPT.out j hlt',zie,htj.out,HTT.out] at hle;obtain ⟨hfit,hpn⟩:=HFT.out _ (ziD hlt');rw [fW hfit] at hle;have hpl:=zia (fW hfit);obtain ⟨adx,rfl,-,c0,c1,c2,c3,c4⟩:=bY (bI (F.get m0) HLN.out (by omega)) (zib hlt')
  generalize lk[j]=p at HT hfit hpn hle hpl c0 c1 c2 c3 c4;obtain ⟨p1,p2,p3⟩:=hfit;obtain ⟨plba,pn,pver,pzone,poff⟩:=p;simp only at hpn hle p1 p2 p3 c0 c1 c2 c3 c4;have HP3:=zia p3;clear p3;obtain ⟨q,rfl⟩:∃ q:Nat,pn=(q:Int):=⟨pn.toNat,by omega⟩
  have e16:(16*(q:Int)).toNat=16*q:=by omega
  rw [e16] at hle;have j1:(j:Int)<(ln:Int):=by omega
  have j0:(0:Int)≤(j:Int):=by omega
  by_cases hz:pzone<0
  · have hpc:bU zs ⟨plba,q,pver,pzone,poff⟩=bZ (16*q):=by unfold bU;rw [zij hz,e16]
    rw [hpc] at HT;clear hpl hpc;go_wp2_with (at_builtin;refine nV rfl (.tmp 36) (.tmp 39) _ _ rfl w2.heap.size 5 i0 .i64 .i64 Tryz.underlying31 Tryz.underlying3 hi hz0 hz1 hz2 rfl (hown.alloc _) (16*q) rfl (by omega) (by rw [zid];omega) ?_;intro A5 c5 w5 own5 hb5)
    go_roundw
    case rel=>
     refine ⟨j+1,t+16*q,A5,c5,by go_num,by omega,rfl,zia ?_,by omega,?_,(hb.alloc hsr _).trans (hb5.mono (zic _)),_,rfl⟩
     · rw [HT.out,zie,htj.out];unfold bZ;rw [ziC]
     · rw [HT.out,aZ];exact own5
    case measure=>simp [intOf];omega
  obtain ⟨k,o,rfl,rfl,hk,hko⟩:=HP3.out.resolve_left hz;have hgd:zs.getD k z0=zs[k]:=by rw [ziF,zib hk];rfl
  have hpc:bU zs ⟨plba,q,pver,k,o⟩=(zs[k].d.drop o).take (16*q):=by unfold bU;simp only;rw [zig hz,e16,Int.toNat_natCast,Int.toNat_natCast,hgd]
  rw [hgd] at hko;rw [hpc] at HT;have hln:=HZL.out _ (ziD hk);obtain ⟨adz,B,cB,rfl,-,-,hB,d0,d1,d2⟩:=IsL.zone_at HV (zib hk);generalize zs[k]=z at HT hko hln hB d0 d1 d2;clear hgd hpc hpl;have HZA:Hid (∀ W,Below w.heap.size w W→W.cell? ⟨(adz.add (k*3)).block,(adz.add (k*3)).off+2,none⟩=some (.slice B z.d.length cB)):=zia fun W h=>(rC.step ⟨d0,d1,d2⟩ h).2.2
  have HZB:Hid (∀ W,Below w.heap.size w W→IsB W K (.slice B z.d.length cB) z.d):=zia fun W h=>hB.step h
  obtain ⟨_,_,hzc,hzc2,_⟩:=hB.open_;clear hB d0 d1 d2;have hko':(o:Nat)+16*q≤z.d.length:=by rw [e16] at hko;exact hko
  obtain ⟨zl,hzl⟩:∃ zl,z.d.length=zl:=⟨_,rfl⟩;rw [hzl] at hko' hln HZA HZB hzc;have HZL2:=zia hzl;have hkn:k<zn:=by rw [←HZN.out];exact hk
  clear hko hk hzl;have k1:(k:Int)<(zn:Int):=by omega
  have k0:(0:Int)≤(k:Int):=by omega
  have k4:IntKind.i64.wrap (16*(q:Int))=16*(q:Int):=ziI _ (by omega)
  have k4':IntKind.i64.wrap ((o:Int)+16*(q:Int))=(o:Int)+16*(q:Int):=ziI _ (by omega)
  have k2:(o:Int)+16*(q:Int)≤(zl:Int):=by omega
  have k3:¬zn≤k:=by omega
  go_upto_region 12 with fail;replace F:=F.push 90 #[.int .i64 plba,.int .i64 q,.int .i64 pver,.int .i64 k,.int .i64 o];have hbx:=hb.alloc hsr (.cells #[.int .i64 plba,.int .i64 q,.int .i64 pver,.int .i64 k,.int .i64 o] 90);replace hown:=hown.alloc (.cells #[.int .i64 plba,.int .i64 q,.int .i64 pver,.int .i64 k,.int .i64 o] 90);clear c0 c1 c2 c3 c4 hb E;generalize wr.alloc (.cells #[.int .i64 plba,.int .i64 q,.int .i64 pver,.int .i64 k,.int .i64 o] 90)=w1 at F hbx hown ⊢;obtain ⟨q0,f0,t0⟩:=F.rules m0;obtain ⟨q1,f1,t1⟩:=F.rules m1;have d2:=HZA.out _ F.below;go_quiet (fail);go_upto_region 14 with fail;generalize hw5:w1.drewN nq=w5;have hb5:Below w1.heap.size w1 w5:=by rw [←hw5];exact aS (zif _ _) _
  clear hw5 q0 f0 t0 q1 f1 t1 d2;replace F:=F.step hb5;replace hown:=aD hown hb5 (zic _);replace hbx:=hbx.trans (hb5.mono hbx.size);clear hb5 w1;have hb6:Below w5.heap.size w5 w5.drew:=(zif _ _).drew;replace F:=F.step hb6;replace hown:=aD hown hb6 (zic _);replace hbx:=hbx.trans (hb6.mono hbx.size);generalize hw6:w5.drew=w6 at F hown hbx hb6;have B0:=F.at_ m0;have B1:=F.at_ m1;have hS:(∀ i,w6.cell? ⟨wr.heap.size,i,none⟩=(#[.int .i64 plba,.int .i64 q,.int .i64 pver,.int .i64 k,.int .i64 o]:Array Value)[i]?)∧(∀ i,w6.cell? ⟨w.heap.size,i,none⟩=(#[.int .i64 d.cap,.int .i64 d.opn,.int .i64 d.act,.slice (some adz) zn c]:Array Value)[i]?)∧w6.cell? ⟨(adz.add (k*3)).block,(adz.add (k*3)).off+2,none⟩=some (.slice B zl cB):=⟨B0.rules.1,B1.rules.1,HZA.out _ F.below⟩;have hcut:=((HZB.out _ F.below).mid (i:=o) (k:=16*q) (c':=cB-o) (by rw [HZL2.out];exact hko') (by omega) (by omega)).open_.2.1
  have hne:¬cB=o:=by omega
  obtain ⟨M,hM⟩:∃ M,o+16*q=M:=⟨_,rfl⟩;have k5:IntKind.i64.wrap ((o:Int)+16*(q:Int))=(M:Int):=by rw [ziI _ (by omega)];omega
  have k6:(M:Int)≤(cB:Int):=by omega
  have k7:o≤M:=by omega
  have k8:M-o=16*q:=by omega
  have k9:(0:Int)≤(M:Int):=by omega
  have hcl:(List.take (16*q) (List.drop o z.d)).length=16*q:=by rw [zio,ziG,HZL2.out];omega
  rw [hcl] at hcut;have HCL:=zia hcl;clear hM hcl k1 k2 k3 k4';refine wp_region_held_drew (S:=fun W=>(∀ i,W.cell? ⟨wr.heap.size,i,none⟩=(#[.int .i64 plba,.int .i64 q,.int .i64 pver,.int .i64 k,.int .i64 o]:Array Value)[i]?)∧(∀ i,W.cell? ⟨w.heap.size,i,none⟩=(#[.int .i64 d.cap,.int .i64 d.opn,.int .i64 d.act,.slice (some adz) zn c]:Array Value)[i]?)∧W.cell? ⟨(adz.add (k*3)).block,(adz.add (k*3)).off+2,none⟩=some (.slice B zl cB)) (by kernel_rfl) (by rw [hw6];exact hS) (fun hHeld=>?_)
  rw [hw6] at hHeld ⊢;clear hw6;refine wT 0 64 ?_;refine wT 1 65 ?_;refine wT 2 66 ?_;refine wT 3 67 ?_;refine wT 4 68 ?_;refine wT 5 69 ?_;refine wT 6 70 ?_;refine wT 7 71 ?_;refine wT 8 72 ?_;refine wT 9 73 ?_;refine wT 10 74 ?_;refine wT 11 75 ?_;refine wT 12 76 ?_;refine wT 13 77 ?_;refine wT 14 78 ?_;refine wT 15 79 ?_;refine wT 16 80 ?_;refine wR 17 81 (fun K hK=>?_)
  refine dX (by rfl) (.tmp 64) (.tmp 80) _ (by rfl) w2.heap.size 5 i0 _ 1 1 Tryz.underlying31 hi hz0 hz1 hz2 rfl (by omega) (by rfl) hown (by rfl) hcut (aW _) (by simp only [maxLen];omega) (by omega) hbx.size ?_
  intro A8 c8 w7 own8 hg8;go_simp;have hb7:=F.below.trans (hg8.below.mono hs2);refine hK.out _ _ ⟨(B0.grew hown (by decide) hg8).rules.1,(B1.grew hown (by decide) hg8).rules.1,HZA.out _ hb7⟩ (fun hHeld=>?_)
  clear hK K;refine wT 18 12 ?_;refine wpAnyH_done (by kernel_rfl) ?_ _
  go_wp2;go_roundw
  case rel=>
   refine ⟨j+1,t+16*q,A8,c8,by go_num,by omega,rfl,zia ?_,by omega,?_,hbx.trans hg8.below,_,rfl⟩
   · rw [HT.out,zie,htj.out,HCL.out]
   · rw [HT.out,aZ];exact own8
  case measure=>simp [intOf];omega
theorem zeQ (h:Ho) (v:Value) (lba n:Int) (K:Nat→Prop) (w:World) (hv:aY w K v h) (hsm:dF lba n 1099511627776) :
 Calls Tryz.prog 72 #[v,.int .i64 lba,.int .i64 n] w fun e w'=>e=.returned (.bool (lT h.s lba n))∧Below w.heap.size w w':=by
 obtain ⟨vo,vs,vb,vl,vm,rfl,-,hs,-,-,-⟩:=hv;obtain ⟨As,cs,rfl,-⟩:=hs.form;have E:=((Kn.start w).give aB.list hs).push 37 (hoC h vo (.slice As h.s.length cs) vb vl vm);obtain ⟨k,hk⟩:∃ k,h.s.length=k:=⟨_,rfl⟩;have hlen:=hs.len;rw [hk] at E hlen ⊢;have HKK:=zia hk;clear hk hs;unfold lT;rw [ziu hsm,zku];unfold dF at hsm;obtain ⟨res,hres⟩:∃ res,decide (lba+n≤reachS lba h.s)=res:=⟨_,rfl⟩;rw [hres];have HRES:=zia hres;clear hres;have d1:decide (lba<0)=false:=ziv (by omega)
 have d2:decide (n<1)=false:=ziv (by omega)
 have d3:decide (1099511627776<n)=false:=ziv (by omega)
 have d4:decide (1099511627776-n<lba)=false:=ziv (by omega)
 go_enter Tryz.func72,Tryz.ntmps72
 obtain ⟨q0,f0,t0⟩:=E.rules m0;go_upto_region 5 with fail;go_loopw [7,9,30] (fun x7 x9 x30 wr=>∃ j:Nat,x30=.int .i64 j∧j≤k∧x7=.int .i64 (reachS lba (h.s.take j))∧Below (w.heap.size+1) (w.alloc (.cells (hoC h vo (.slice As k cs) vb vl vm) 37)) wr∧∃ y,x9=y) (fun _ _ x30 _=>k-(intOf x30).toNat)
 case atStart=>exact ⟨0,rfl,zir _,rfl,zif _ _,_,rfl⟩
 case round=>
  obtain ⟨j,rfl,hj,rfl,hb,y,rfl⟩:=hrel;have F:=E.step (hb.mono (by rw [zid];exact zic _))
  have hsz:=hb.size;rw [zid] at hsz;by_cases hlt:j<k
  case neg=>
   obtain rfl:j=k:=by omega
   rw [zip (by rw [HKK.out];exact zic _)]
   have hr:=HRES.out;generalize reachS lba h.s=R at hr ⊢;clear E;subst hr;go_wp2;go_ret;exact ⟨rfl,F.below⟩
  have hlt':j<h.s.length:=by rw [HKK.out];exact hlt
  have HR:=zia (oB lba hlt');obtain ⟨ad,rfl,hKa,c0,c1,c2,c3⟩:=zfM (F.get m0) (zib hlt');generalize h.s[j]=s at HR c0 c1 c2 c3;generalize reachS lba (h.s.take j)=R at HR ⊢;have j1:(j:Int)<(k:Int):=by omega
  have j0:(0:Int)≤(j:Int):=by omega
  by_cases hin:s.from_≤R∧R<s.till
  · have h1:=hin.1;have h2:=hin.2
    have HIN:=zia hin;clear hin;go_wp2_with fail;go_roundw
    case rel=>exact ⟨j+1,by go_num,by omega,by rw [HR.out,zij HIN.out],hb.alloc hsz _,_,rfl⟩
    case measure=>simp [intOf];omega
  · have HIN:=zia hin
    by_cases h1:s.from_≤R
    · have h2:¬R<s.till:=fun h=>hin ⟨h1,h⟩
      clear hin;go_wp2_with fail;go_roundw
      case rel=>exact ⟨j+1,by go_num,by omega,by rw [HR.out,zig HIN.out],hb.alloc hsz _,_,rfl⟩
      case measure=>simp [intOf];omega
    · clear hin
      go_wp2_with fail;go_roundw
      case rel=>exact ⟨j+1,by go_num,by omega,by rw [HR.out,zig HIN.out],hb.alloc hsz _,_,rfl⟩
      case measure=>simp [intOf];omega
theorem zcL (d:Zd) (A:Option Addr) (c:Nat) (h:Ho) (v:Value) (lba n:Int) (K K':Nat→Prop) (w:World) (hd:IsL Rp.zone w K (.slice A d.z.length c) d.z) (hv:aY w K' v h) (hok:okD d) (hch:aC 0 h.m) (hf:rB d.z h.m) :
 Calls Tryz.prog 29 #[.agg #[.int .i64 d.cap,.int .i64 d.opn,.int .i64 d.act,.slice A d.z.length c],v,.int .i64 lba,.int .i64 n] w fun e w'=>
  ∃ Ao co,e=.returned (.tuple #[.slice Ao (dQ d.z h lba n).1.length co,.int .i64 (dQ d.z h lba n).2])∧IsB w' (fun b=>w.heap.size≤b) (.slice Ao (dQ d.z h lba n).1.length co) (dQ d.z h lba n).1∧Below w.heap.size w w':=by
 have hv0:=hv;obtain ⟨vo,vs,vb,vl,vm,rfl,h1,h2,h3,h4,h5⟩:=hv;obtain ⟨Ao,co,rfl,-⟩:=h1.form;obtain ⟨As,cs,rfl,-⟩:=h2.form;obtain ⟨Ab,cb,rfl,-⟩:=aK h3;obtain ⟨Al,cl,rfl,-⟩:=h4.form;obtain ⟨Am,cm,rfl,-⟩:=h5.form;have hmi:=fun vv W hW hs=>zeQ h vv lba n K' W hW hs
 have hby:=fun W hz hm hb hn=>vE d A c Am cm h.m lba n K K' W hz hm hok hch hb hn hf
 have E:=((Kn.start w).give aB.list hd).give aB.list h5 |>.give aB.ho hv0 |>.push 26 #[.int .i64 d.cap,.int .i64 d.opn,.int .i64 d.act,.slice A d.z.length c] |>.push 37 (hoS h Ao co As cs Ab cb Al cl Am cm)
 rw [zid] at E;clear h1 h2 h3 h4 h5 hv0;obtain ⟨r,hr⟩:∃ r,dQ d.z h lba n=r:=⟨_,rfl⟩;rw [hr];have HR:=zia hr;clear hr;by_cases hs:dF lba n 256
 case neg=>
  have hre:r=([],63):=by rw [←HR.out];unfold dQ;rw [zij hs]
  subst hre;have hc:lba<0∨(¬lba<0∧n<1)∨(¬lba<0∧¬n<1∧n > 256)∨(¬lba<0∧¬n<1∧¬n > 256∧lba > 1099511627776-n):=by unfold dF at hs;omega
  have hbe:=E.below;clear hs hmi hby E HR;rcases hc with g1 | ⟨g1,g2⟩ | ⟨g1,g2,g3⟩ | ⟨g1,g2,g3,g4⟩ <;> (go_enter Tryz.func29,Tryz.ntmps29;go_wp2;go_ret2;exact ⟨none,0,rfl,IsB.nil_ _ _,hbe⟩)
 have hs':dF lba n 1099511627776:=by unfold dF at hs ⊢;omega
 have hb:aJ lba n:=by unfold dF at hs;unfold aJ;omega
 have hn:n≤4096:=by unfold dF at hs;omega
 have HS:=zia hs;unfold dF at hs;obtain ⟨g1',g2',g3',g4'⟩:=hs;have d1:¬lba<0:=by omega
 have d2:¬n<1:=by omega
 have d3:¬n > 256:=by omega
 have d4:¬lba > 1099511627776-n:=by omega
 by_cases hm:lT h.s lba n=false
 · have hre:r=([],62):=by rw [←HR.out];unfold dQ;rw [zig (fun h=>h HS.out),zij hm]
   subst hre;rw [hm] at hmi;clear hby HR hm;go_enter Tryz.func29,Tryz.ntmps29
   go_wp2_with (refine eG (E.at_ m0) rfl rfl rfl rfl ?_);refine (hmi _ _ (E.get m0) hs').mono ?_;rintro e w3 ⟨rfl,hb3⟩;replace E:=E.step hb3;go_wp2;go_ret2;exact ⟨none,0,rfl,IsB.nil_ _ _,E.below⟩
 · have hmt:lT h.s lba n=true:=by simpa using hm
   have hre:r=cC d.z h.m lba n:=by rw [←HR.out];unfold dQ;rw [zig (fun h=>h HS.out),zig hm]
   subst hre;have hfit:=iM hch hb (by omega) hf
   have hlen:(cC d.z h.m lba n).1.length≤140737488355328∧(cC d.z h.m lba n).2=0:=by
    rw [hfit];refine ⟨?_,rfl⟩;have:=yM (f:=fun i=>blockB d.z h.m (lba+(i:Nat))) n.toNat (fun i=>tG _ _ _)
    simp only;omega
   have hb1:=fun W hz hm=>hby W hz hm hb hn
   obtain ⟨r1,h0⟩:=hlen;rw [h0];generalize (cC d.z h.m lba n).1=rb at r1 hb1 ⊢;obtain ⟨rl,hrl⟩:∃ rl,rb.length=rl:=⟨_,rfl⟩;rw [hrl] at hb1 r1 ⊢;have HRL:=zia hrl;rw [hmt] at hmi;clear HR hm hmt hby hfit h0 hrl;go_enter Tryz.func29,Tryz.ntmps29
   go_wp2_with (refine eG (E.at_ m0) rfl rfl rfl rfl ?_);refine (hmi _ _ (E.get m0) hs').mono ?_;rintro e w3 ⟨rfl,hb3⟩;replace E:=E.step hb3;obtain ⟨q0,f0,t0⟩:=E.rules m0;obtain ⟨q1,f1,t1⟩:=E.rules m1;go_wp2_with fail;refine (hb1 _ (E.get m2) (E.get m1)).mono ?_;rintro e w4 ⟨A4,c4,rfl,hown,hb4⟩;have hB4:IsB w4 (fun b=>w3.heap.size≤b) (.slice A4 rl c4) rb:=by
    have:=HRL.out;subst this;exact IsB.of_own hown r1
   have hs3:=E.below.size;replace E:=E.step hb4;clear q0 f0 t0 q1 f1 t1;go_wp2;go_ret2;exact ⟨A4,c4,rfl,hB4.more (fun b hb=>by omega),E.below⟩
theorem zeF {l:List Ex} {b:Int} {j:Nat} {e:Ex} (he:l[j]?=some e) (hz:∀ z∈l.take j,aX z b=false) (hb:aX e b=true):see l b=some (seeE e b):=by
 unfold see;have:l.find? (aX · b)=some e:=by
  obtain ⟨hj,rfl⟩:=zil.1 he;have h1:(l.take j++l.drop j).find? (aX · b)=some l[j]:=by
   rw [zk2,zje.2 fun x hx=>by simp [hz x hx],zjk hj,List.find?_cons,hb]
   rfl
  rwa [ziP] at h1
 rw [this];rfl
theorem ze4 {e:Ex} (h:bO e) (b:Int):clipE e b (b+1)=if aX e b=true then some ⟨b,1,(seeE e b).1,(seeE e b).2.1,(seeE e b).2.2⟩ else none:=by
 rw [nL h (by omega)]
 obtain ⟨⟨a1,a2,a3,a4⟩,a5,a6,a7,a8,a9,a10⟩:=h;obtain ⟨l,n,v,z,o⟩:=e;simp only at *;by_cases hh:l≤b∧b<l+n
 · rw [zij (by unfold aL;simp only;omega),zij (by unfold aX aL;simpa using hh)]
   unfold uptoE fromE seeE;simp only;by_cases h2:0<b-l
   · rw [zij h2]
     simp only [ziL,Ex.mk.injEq,zkn];refine ⟨by omega,?_⟩
     by_cases hz:z = -1
     · have:=a9 hz;subst hz;simp;omega
     · rw [zig hz,zij hz]
   · rw [zig h2]
     simp only [ziL,Ex.mk.injEq,zkn];refine ⟨by omega,by omega,?_⟩
     by_cases hz:z = -1
     · have:=a9 hz;subst hz;simp;omega
     · rw [zig hz];omega
 · rw [zig (by unfold aL;simp only;omega),zig (by unfold aX aL;simpa using hh)]
theorem zhq (v:Value) (l:List Ex) (b:Int) (K:Nat→Prop) (w:World) (hv:IsL Rp.ex w K v l) (hch:aC 0 l) (hb:0≤b∧b<1099511627776) :
 Calls Tryz.prog 30 #[v,.int .i64 b] w fun x w'=>x=.returned (.tuple #[exV (atE l b).1,.bool (atE l b).2])∧Below w.heap.size w w':=by
 obtain ⟨A,c,rfl,-⟩:=hv.form;have hck:=fun w' h=>zci (.slice A l.length c) l K w' h hch
 have hm:=aM hch;have hlen:=hv.len;obtain ⟨ln,hln⟩:∃ ln,l.length=ln:=⟨_,rfl⟩;rw [hln] at hlen hv hck ⊢;have HLN:=zia hln;have HM:=zia hm;obtain ⟨r,hr⟩:∃ r,atE l b=r:=⟨_,rfl⟩;rw [hr];have HR:=zia hr;have g1:¬b<0:=by omega
 have g2:¬b≥1099511627776:=by omega
 clear hln hm hr hch;have E:=((Kn.start w).give aB.list hv).push 90 (exC e00);go_enter Tryz.func30,Tryz.ntmps30
 go_wp2_with fail;refine (hck _ (E.get m0)).mono ?_;rintro x w2 ⟨rfl,hb2⟩;replace E:=E.step hb2;clear hck hv hb2;go_upto_region 4 with fail;go_loopw [7,8,9,24] (fun x7 x8 x9 x24 wr=>∃ j:Nat,x24=.int .i64 j∧j≤ln∧Hid (∀ z∈l.take j,aX z b=false)∧Below w2.heap.size w2 wr∧(∃ y,x7=y)∧(∃ y,x8=y)∧∃ y,x9=y) (fun _ _ _ x24 _=>ln-(intOf x24).toNat)
 case atStart=>exact ⟨0,rfl,zir _,zia (by simp),zif _ _,⟨_,rfl⟩,⟨_,rfl⟩,_,rfl⟩
 case round=>
  obtain ⟨j,rfl,hj,hz,hb3,⟨y,rfl⟩,⟨y',rfl⟩,y'',rfl⟩:=hrel;have F:=E.step hb3;obtain ⟨q0,f0,t0⟩:=F.rules m0;by_cases hlt:j<ln
  case neg=>
   obtain rfl:j=ln:=by omega
   have:r=(e00,false):=by
    rw [←HR.out];unfold atE see;rw [zje.2 fun x hx=>by rw [hz.out x (by rw [zip (by rw [HLN.out];exact zic _)];exact hx)];simp]
    rfl
   subst this;clear E;go_wp2;refine zik (v:=.tuple #[exV e00,.bool false]) (by simp [results,Tryz.results30,go_sem,q0]) rfl ⟨rfl,jH F.below (zic _)⟩
  obtain ⟨e,he⟩:∃ e,l[j]?=some e:=⟨_,zib (by rw [HLN.out];exact hlt)⟩
  have hem:=(HM.out e (zix he)).1;obtain ⟨ad,rfl,-,c0,c1,c2,c3,c4⟩:=bY (F.get m0) he;have j0:(0:Int)≤(j:Int):=by omega
  have j1:(j:Int)<(ln:Int):=by omega
  have hcl:=fun w'=>zao e b (b+1) w' hem (by omega) (by omega)
  rw [ze4 hem] at hcl;clear q0 f0 t0 E;by_cases hh:aX e b=true
  · have:r=(⟨b,1,(seeE e b).1,(seeE e b).2.1,(seeE e b).2.2⟩,true):=by
     rw [←HR.out];unfold atE;rw [zeF he hz.out hh]
    rw [zij hh] at hcl;generalize seeE e b=s at hcl this;subst this;clear hh he;go_wp2_with fail;refine (hcl _).mono ?_;rintro x w3 ⟨rfl,hb4⟩;replace F:=(F.push 90 (exC e)).step hb4;obtain ⟨q0,f0,t0⟩:=F.rules m1;clear hcl c0 c1 c2 c3 c4;have hBb:=((((((F.at_ m1).set_ 0 (.int .i64 b)).set_ 1 (.int .i64 1)).set_ 2 (.int .i64 s.1)).set_ 3 (.int .i64 s.2.1)).set_ 4 (.int .i64 s.2.2)).alloc (.cells (exC ⟨b,1,s.1,s.2.1,s.2.2⟩) 90);obtain ⟨q9,f9⟩:=hBb.rules;go_wp2;refine zik (v:=.tuple #[exV ⟨b,1,s.1,s.2.1,s.2.2⟩,.bool true]) (by simp [results,Tryz.results30,go_sem,q9]) rfl ⟨rfl,(jH F.below (zic _)).alloc (by have:=F.below.size;simpa using this) _⟩
  · have HZ:Hid (∀ z∈l.take (j+1),aX z b=false):=zia fun z hz9=>by
     rw [gG l he] at hz9;rcases ziA.1 hz9 with h | h
     · exact hz.out z h
     · rw [ziw.1 h];simpa using hh
    rw [zig hh] at hcl;clear hh he;go_wp2_with fail;refine (hcl _).mono ?_;rintro x w3 ⟨rfl,hb4⟩;replace F:=(F.push 90 (exC e)).step hb4;clear hcl c0 c1 c2 c3 c4;go_wp2;go_roundw
    case rel=>exact ⟨j+1,by go_num,by omega,HZ,((hb3.alloc hb3.size _).trans (hb4.mono (by rw [zid];have:=hb3.size;omega))).alloc (by have:=hb3.size;have:=hb4.size;rw [zid] at this;omega) _,⟨_,rfl⟩,⟨_,rfl⟩,_,rfl⟩
    case measure=>simp [intOf];omega
