/- A part of the proof. -/
import Derived.Test.YthblkdnijhphhaaGreatJClean
set_option linter.unusedSimpArgs false
set_option maxHeartbeats 16000000
set_option maxRecDepth 100000
namespace Go.Proofs.YthblkdnijhphhaaGreat
open Go.RowKit
def io24 (lba:Int) (n:Nat) (by_:UInt8):Io:=⟨1,lba,n,List.replicate (n*16) by_⟩
abbrev c24 (x:Io):Zd × Ho × Int:=zau (d24 4) (h24 4) [x]
theorem zh8 {a m:Int} (h1:0≤a) (h2:1≤m) (h3:a+m≤60):zeW s60 a m=true:=by
 unfold zeW;rw [decide_eq_true (show zbO a m 1099511627776 from ⟨h1,h2,by omega,by omega⟩),Bool.true_and,decide_eq_true_eq]
 unfold s60 reachS;simp only [List.foldl_cons,List.foldl_nil];rw [if_pos ⟨h1,by omega⟩]
 exact h3
theorem zdU:JInv 4 400 f24 60 s60 (d24 4) (h24 4) where
 dev:=rfl
 ok:=zne (by decide) (by decide) fun k _=>by unfold f24;omega
 most:=by decide
 bnd:=by decide
 len:=zei
 fe:=by decide
 F0:=fun k _=>by unfold f24;omega
 id:=rfl
 own:=by rfl
 s:=rfl
 chain:=trivial
 far:=fun _ _=>rfl
 fit:=fun b t ht=>by cases ht
 ver:=by decide
 old:=fun b t ht=>by cases ht
 seq:=by decide
 opened:=fun e=>by cases e
 shut:=fun _=>rfl
section
variable {lba:Int} {n:Nat} {by_:UInt8}
theorem znw (h1:0≤lba) (h2:1≤n) (h3:lba+n≤60):zbk s60 (io24 lba n by_)=0∧zdN 60 (recI 1 (io24 lba n by_)):=by
 constructor
 · unfold zbk
   rw [if_neg,show zeW s60 (io24 lba n by_).lba (io24 lba n by_).n=true from zh8 h1 (by show (1:Int)≤(n:Int);omega) h3,if_pos rfl]
   rw [Decidable.not_not];unfold zbO zbP zcr io24;simp;omega
 · exact ⟨.inl rfl,⟨h1,by show (1:Int)≤(n:Int);omega,h3⟩,by show (n:Int)≤256;omega,by show (0:Int)≤1∧(1:Int)≤1000000;decide,⟨rfl,rfl⟩,fun _=>by show ((List.replicate (n*16) by_).length:Int)=16*(n:Int);rw [List.length_replicate];omega,fun h=>absurd (show (1:Int)=2 from h) (by decide)⟩
theorem znq (h1:0≤lba) (h2:1≤n) (h3:lba+n≤60) (h0:(c24 (io24 lba n by_)).2.2=0) :
 (JInv 4 400 f24 60 s60 (c24 (io24 lba n by_)).1 (c24 (io24 lba n by_)).2.1∧Ones (c24 (io24 lba n by_)).2.1.m (fun b=>decide (lba≤b∧b<lba+n))∧(∀ b,lba≤b∧b<lba+n→zaa (c24 (io24 lba n by_)).1.z (c24 (io24 lba n by_)).2.1.m b=zie (recI 1 (io24 lba n by_)) b)∧(c24 (io24 lba n by_)).2.1.ver=2)∧zo0 (d24 4) (h24 4) [recI 1 (io24 lba n by_)]:=by
 obtain ⟨f1,f2⟩:=znw (by_:=by_) h1 h2 h3;obtain ⟨hp,g⟩:=ziM zdU (o:=io24 lba n by_) f1 f2 (by decide) (by decide)
 refine ⟨?_,hp⟩;rcases g with g | ⟨d',h',e,j,hv,-,hb⟩
 · rw [g] at h0;cases h0
 · unfold c24
   rw [e];refine ⟨j,fun b=>⟨fun hc=>?_,fun hc=>?_⟩,fun b hc=>?_,hv⟩
   · obtain ⟨t,e1,e2,e3,_⟩:=(hb b).1 (show lba≤b∧b<lba+n from of_decide_eq_true hc)
     exact ⟨t,e1,e2,fun h9=>absurd (show (1:Int)=2 from e3.1 h9) (by decide)⟩
   · exact ((hb b).2 (show ¬(lba≤b∧b<lba+n) from of_decide_eq_false hc)).1
   · obtain ⟨t,_,_,_,e4⟩:=(hb b).1 hc
     exact e4
theorem zoJ {d:Zd} {h:Ho} (hi:JInv 4 400 f24 60 s60 d h) {a m:Int} (h1:0≤a) (h2:1≤m∧m≤256) (h3:a+m≤60):(zaK d.z h a m).2=0:=by
 unfold zaK;rw [if_neg (fun e=>e ⟨h1,h2.1,h2.2,by omega⟩),hi.s,zh8 h1 h2.1 h3,if_neg (by simp),zbG hi.chain ⟨h1,by omega,by omega,by omega⟩ (by omega) hi.fit]
theorem zk4 (h1:0≤lba) (h2:1≤n) (h3:lba+n≤60) (h0:(c24 (io24 lba n by_)).2.2=0) (Az:Option Addr) (cz:Nat) (v:Value) (A:Option Addr) (c:Nat) (K Kl:Nat→Prop) (w:World) (hz:IsL Rp.zone w K (.slice Az (d24 4).z.length cz) (d24 4).z) (hv:IsHo w K v (h24 4)) (hl:IsL Rp.io w Kl (.slice A 1 c) [io24 lba n by_]) (hK:∀ b,K b→b<w.heap.size) :
 Calls Tryz.prog 15 #[.agg (zdC (d24 4) Az cz),v,.slice A 1 c] w fun e w'=>∃ dv vh,e=.returned (.tuple #[dv,vh,.int .i64 0])∧ze6 w' (fun b=>K b∨w.heap.size≤b) dv vh (c24 (io24 lba n by_)).1 (c24 (io24 lba n by_)).2.1∧Below w.heap.size w w':=by
 obtain ⟨_,hp⟩:=znq (by_:=by_) h1 h2 h3 h0;have:=zdh (d24 4) Az cz (h24 4) v A c [io24 lba n by_] K Kl w hz hv hl hK zdU.okd (zdU.okho (by decide)) (zdU.small (by decide)) (by decide) (by simp) (by simp) (fun _=>zdn fun r hr=>by
  rw [show zap (h24 4).ver [io24 lba n by_]=[recI 1 (io24 lba n by_)] from rfl] at hr;rw [List.mem_singleton.1 hr];exact (znw (by_:=by_) h1 h2 h3).2.fit (by decide)) (fun _ h=>hp h)
 rw [show (zau (d24 4) (h24 4) [io24 lba n by_]).2.2=0 from h0] at this;exact this
end
structure zaT (zs:List Zn) (m:List Ex) (V:Int) (k:Ca):Prop where
 same:∀ b t,see m b=some t→¬t.2.1<0→∀ y∈k.l,y.lba=b→y.ver=t.1→y.b=zaa zs m b
 old:∀ y∈k.l,y.ver<V
section
variable {zs zs':List Zn} {m m':List Ex} {V V':Int} {k:Ca}
theorem zaT.nil (zs:List Zn) (m:List Ex) (V most hit miss:Int):zaT zs m V ⟨most,[],hit,miss⟩:=⟨fun _ _ _ _ _ hy=>(by cases hy),fun _ hy=>(by cases hy)⟩
theorem mem_put {most:Int} {L:List En} {x y:En} (hy:y∈zel most L x):y=x∨y∈L:=by
 unfold zel at hy;split at hy
 · exact .inr hy
 · have h1:y∈x::zcs L x.lba:=by
    unfold zjJ at hy;split at hy
    · exact List.mem_of_mem_take (by rwa [List.dropLast_eq_take] at hy)
    · exact hy
   rcases List.mem_cons.1 h1 with h2 | h2
   · exact .inl h2
   · exact .inr (List.mem_filter.1 h2).1
theorem zaT.step (h:zaT zs m V k) (hold:∀ b t,see m b=some t→t.1<V) (b:Int) (t:Int) (out:List UInt8) :
 zaT zs m V (zeL zs m (k,t,out) b).1∧(zeL zs m (k,t,out) b).2.2=out++zaa zs m b:=by
 unfold zeL;cases hs:see m b with
 | none=>
   have hb:zaa zs m b=zaI 16:=by unfold zaa;rw [hs]
   exact ⟨h,by rw [hb]⟩
 | some u=>
   simp only;by_cases hz:u.2.1<0
   · have hb:zaa zs m b=zaI 16:=by unfold zaa;rw [hs];simp only;rw [if_pos hz]
     simp only [if_pos hz];exact ⟨h,by rw [hb]⟩
   · simp only [if_neg hz]
     unfold blkC;cases hg:zhy k.l b u.1 with
     | some y=>
       obtain ⟨g1,g2,g3⟩:=zfo hg;have hyb:=h.same b u hs hz y g1 g2 g3;simp only;refine ⟨⟨fun b' t' h1 h2 x hx h3 h4=>?_,fun x hx=>?_⟩,by rw [hyb]⟩
       · rcases List.mem_cons.1 hx with rfl | hx
         · exact h.same b' t' h1 h2 _ g1 h3 h4
         · exact h.same b' t' h1 h2 x (List.mem_filter.1 hx).1 h3 h4
       · rcases List.mem_cons.1 hx with rfl | hx
         · exact h.old _ g1
         · exact h.old x (List.mem_filter.1 hx).1
     | none=>
       simp only;refine ⟨⟨fun b' t' h1 h2 x hx h3 h4=>?_,fun x hx=>?_⟩,trivial⟩
       · rcases mem_put hx with rfl | hx
         · have h5:b=b':=h3
           rw [←h5]
         · exact h.same b' t' h1 h2 x hx h3 h4
       · rcases mem_put hx with rfl | hx
         · exact hold b u hs
         · exact h.old x hx
theorem zaT.blocks (hold:∀ b t,see m b=some t→t.1<V) (a:Int):∀ (n:Nat) (k:Ca) (t:Int) (out:List UInt8),zaT zs m V k →
 zaT zs m V (blocksB zs m a n (k,t,out)).1∧(blocksB zs m a n (k,t,out)).2.2=out++(List.range n).flatMap (fun i=>zaa zs m (a+(i:Nat)))
 | 0,k,t,out,h=>⟨h,by simp [blocksB]⟩
 | n+1,k,t,out,h=>by
   obtain ⟨h1,h2⟩:=zaT.blocks hold a n k t out h;rw [zaM];generalize blocksB zs m a n (k,t,out)=s at h1 h2 ⊢;obtain ⟨k1,t1,o1⟩:=s;obtain ⟨g1,g2⟩:=h1.step hold (a+(n:Nat)) t1 o1;refine ⟨g1,?_⟩;rw [g2];simp only at h2;rw [h2,List.range_succ,List.flatMap_append,List.append_assoc];simp
theorem zaT.drop (h:zaT zs m V k) (lba n:Int):zaT zs m V ⟨k.most,zgp lba n k.l,k.hit,k.miss⟩:=
 ⟨fun b t h1 h2 y hy=>h.same b t h1 h2 y (List.mem_filter.1 hy).1,fun y hy=>h.old y (List.mem_filter.1 hy).1⟩
def zdt (zs:List Zn) (m:List Ex) (V:Int) (zs':List Zn) (m':List Ex) (V':Int):Prop:=V≤V'∧∀ b,(((see m' b).map fun t=>(t.1,decide (t.2.1<0)))=((see m b).map fun t=>(t.1,decide (t.2.1<0)))∧zaa zs' m' b=zaa zs m b)∨∃ t,see m' b=some t∧V≤t.1
theorem zdt.of_same (h:zcN zs m zs' m'):zdt zs m V zs' m' V:=⟨Int.le_refl _,fun b=>.inl (h b)⟩
theorem zaT.on (h:zaT zs m V k) (hg:zdt zs m V zs' m' V'):zaT zs' m' V' k:=⟨fun b t h1 h2 y hy h3 h4=>by
 rcases hg.2 b with ⟨g1,g2⟩ | ⟨t',g1,g2⟩
 · rw [h1] at g1
   cases hs:see m b with
   | none=>rw [hs] at g1;cases g1
   | some u=>
     rw [hs] at g1;simp only [Option.map_some,Option.some.injEq,Prod.mk.injEq,decide_eq_decide] at g1;rw [g2];exact h.same b u hs (by rw [←g1.2];exact h2) y hy h3 (by rw [h4,g1.1])
 · rw [h1] at g1
   injection g1 with g1;have:=h.old y hy;rw [h4,g1] at this;omega,fun y hy=>by have:=h.old y hy;have:=hg.1;omega⟩
theorem zaT.read {n:Nat} {M B:Int} {F:Nat→Int} {S:List Sp} {d:Zd} {h:Ho} (hi:JInv n M F B S d h) (hk:zaT d.z h.m h.ver k) (t lba num:Int) :
 zaT d.z h.m h.ver (zbK d.z h k t lba num).1∧(zbK d.z h k t lba num).2.2=(zaK d.z h lba num).1:=by
 unfold zbK;by_cases h0:(zaK d.z h lba num).2=0
 · rw [if_pos h0]
   unfold zaK at h0 ⊢;by_cases h1:zbO lba num 256
   · rw [if_neg (fun h=>h h1)] at h0 ⊢
     by_cases h2:zeW h.s lba num=false
     · rw [if_pos h2] at h0;cases h0
     · rw [if_neg h2]
       have hb:za9 lba num:=⟨h1.1,by have:=h1.2.1;omega,by have:=h1.2.2.1;omega,h1.2.2.2⟩
       obtain ⟨q,rfl⟩:∃ q:Nat,num=q:=⟨num.toNat,by have:=h1.2.1;omega⟩
       rw [zcg hi.chain hb,zbG hi.chain hb (by have:=h1.2.2.1;omega) hi.fit,Int.toNat_natCast]
       have:=zaT.blocks hi.old lba q k t [] hk;simpa using this
   · rw [if_pos h1] at h0;cases h0
 · rw [if_neg h0]
   refine ⟨hk,?_⟩;unfold zaK at h0 ⊢;split
   · rfl
   · split
     · rfl
     · rename_i h1 h2
       rw [if_neg h1,if_neg h2] at h0;simp only [Decidable.not_not] at h1;have hb:za9 lba num:=⟨h1.1,by have:=h1.2.1;omega,by have:=h1.2.2.1;omega,h1.2.2.2⟩
       rw [zbG hi.chain hb (by have:=h1.2.2.1;omega) hi.fit] at h0
       exact absurd rfl h0
theorem zfR (a:Int):∀ (n:Nat) (k:Ca) (t:Int) (out:List UInt8),0≤k.hit→0≤k.miss →
 BndR k (blocksB zs m a n (k,t,out)).1 n∧t≤(blocksB zs m a n (k,t,out)).2.1∧(blocksB zs m a n (k,t,out)).2.1≤t+n
 | 0,k,t,out,h1,h2=>⟨BndR.same h1 h2,by simp [blocksB],by simp [blocksB]⟩
 | n+1,k,t,out,h1,h2=>by
   obtain ⟨g1,g2,g3⟩:=zfR a n k t out h1 h2;rw [zaM];generalize blocksB zs m a n (k,t,out)=s at g1 g2 g3 ⊢;obtain ⟨k1,t1,o1⟩:=s;simp only at g1 g2 g3;unfold zeL;cases hs:see m (a+(n:Nat)) with
   | none=>exact ⟨g1.more (by omega),by dsimp only;omega,by dsimp only;omega⟩
   | some u=>
     simp only;split
     · exact ⟨g1.more (by omega),by dsimp only;omega,by dsimp only;omega⟩
     · exact ⟨(g1.blk _ _ _).more (by omega),by dsimp only;omega,by dsimp only;omega⟩
theorem zmx {d:Zd} {h:Ho} (hch:za2 0 h.m) (t lba num:Int) (h1:0≤k.hit) (h2:0≤k.miss):BndR k (zbK d.z h k t lba num).1 256∧t≤(zbK d.z h k t lba num).2.1∧(zbK d.z h k t lba num).2.1≤t+256:=by
 unfold zbK;by_cases h0:(zaK d.z h lba num).2=0
 · rw [if_pos h0]
   have hs:zbO lba num 256:=by
    unfold zaK at h0;by_cases h9:zbO lba num 256
    · exact h9
    · rw [if_pos h9] at h0;cases h0
   have hb:za9 lba num:=⟨hs.1,by have:=hs.2.1;omega,by have:=hs.2.2.1;omega,hs.2.2.2⟩
   obtain ⟨q,rfl⟩:∃ q:Nat,num=q:=⟨num.toNat,by have:=hs.2.1;omega⟩
   rw [zcg hch hb];obtain ⟨g1,g2,g3⟩:=zfR (zs:=d.z) (m:=h.m) lba q k t [] h1 h2;have:=hs.2.2.1;exact ⟨g1.more (by omega),g2,by omega⟩
 · rw [if_neg h0]
   exact ⟨(BndR.same h1 h2).more (by omega),by dsimp only;omega,by dsimp only;omega⟩
end
end Go.Proofs.YthblkdnijhphhaaGreat
namespace Go.Proofs.YthblkdnijhphhaaGreat
open Go.RowKit Go.WideMaps
theorem zi7 {w:World} {K:Nat→Prop} {A:Option Addr} {c g n:Nat} {o:Io} (hg:w.heap.size=g) (hv:IsB w K (.slice A n c) o.data) (h:(-9223372036854775808≤o.op∧o.op≤9223372036854775807)∧(-9223372036854775808≤o.lba∧o.lba≤9223372036854775807)∧(-9223372036854775808≤o.n∧o.n≤9223372036854775807)) :
 IsL Rp.io (w.alloc (.cells #[.int .i64 o.op,.int .i64 o.lba,.int .i64 o.n,.slice A n c] 67)) (fun b=>b=g∨K b) (.slice (some ⟨g,0,none⟩) 1 1) [o]:=
 ⟨_,1,_,rfl,(za6.new (n:=1) (size:=4) hg rfl rfl).more (fun _ h=>.inl h),za8.single ⟨_,rfl,(hv.alloc _).more fun _ h=>.inr h,h.1,h.2.1,h.2.2⟩,by simp,by omega,by simp⟩
theorem IsRd.bytes {Kd K:Nat→Prop} {w w':World} {gr c m:Nat} {ns:List Nat} {k:Ca} {t:Int} {v:Value} {b:List UInt8} (h:IsRd Kd w gr c m ns k t) (hv:IsB w K v b) (ht:za0 w w' (OfRd gr c m ns)):IsB w' K v b:=by
 refine ((hv.offS (S:=OfRd gr c m ns) fun p hp n=>?_).turned ht (fun b hb=>hb.2)).more fun _ hb=>hb.1
 obtain ⟨hB,dt,ah,af,h1,h2⟩:=h;rcases hp with hp | hp | hp
 · refine zeI hB (fun o n=>?_) p hp n
   rcases Nat.lt_or_ge o 2 with h | h
   · match o,h with
     | 0,_ | 1,_=>simp
   · rw [Array.getElem?_eq_none (by simpa using h)];simp
 · obtain ⟨D,⟨es,k,hm,_⟩,_⟩:=h1.map
   obtain ⟨pb,po,pz⟩:=p;have hp:pb=m:=hp;subst hp;simp [World.cell?,hm]
 · rcases List.mem_cons.1 hp with h8 | h8
   · exact zeI h1.nd.ca (zg0 _ _ _ _ _ _ _) p h8 n
   · obtain ⟨v,h3,_⟩:=h1.nd.en _ h8
     exact zeI h3 (h1.nd.noB h8 h3) p rfl n
abbrev ioL:Io:=io24 7 1 3
theorem comL:(c24 ioL).2.2=0:=by kernel_rfl
def B3:List UInt8:=List.replicate 16 3
theorem zlc {zs:List Zn} {m:List Ex} (hm:Ones m (fun b=>decide ((7:Int)≤b∧b<7+((1:Nat):Int)))) (hB:zaa zs m 7=B3) (k:Ca) (t:Int):blocksB zs m 7 1 (k,t,[])=((blkC k 7 1 B3).1,t,(blkC k 7 1 B3).2):=by
 rw [zaM];show zeL zs m (k,t,[]) (7+((0:Nat):Int))=_;rw [show (7:Int)+((0:Nat):Int)=7 by decide,zjT hm (by decide),hB]
 rfl
theorem zoX:blkC ⟨4,[],0,0⟩ 7 1 B3=(⟨4,[⟨7,1,B3⟩],0,1⟩,B3):=by kernel_rfl
theorem zoP:blkC ⟨4,[⟨7,1,B3⟩],0,1⟩ 7 1 B3=(⟨4,[⟨7,1,B3⟩],1,1⟩,B3):=by kernel_rfl
theorem zjF (w:World):Calls Tryz.prog 5 #[] w fun e w'=>e=.returned (.bool true)∧Below w.heap.size w w':=by
 have hbe:=fun W=>zeO W
 have hnw:=fun (Kd:Nat→Prop) W=>zix (Kd:=Kd) 4 W
 rw [show max (4:Int) 0=4 by decide] at hnw
 have hfi:=fun W=>zfD 3 16 W (by decide)
 obtain ⟨⟨hI,hOn,hCt,hVr⟩,-⟩:=znq (lba:=7) (n:=1) (by_:=3) (by decide) (by decide) (by decide) comL
 have hco:=fun Az cz v A c K Kl W a b e f=>zk4 (lba:=7) (n:=1) (by_:=3) (by decide) (by decide) (by decide) comL Az cz v A c K Kl W a b e f
 go_enter Tryz.func5,Tryz.ntmps5
 have hb1:Below w.heap.size w w:=Below.refl _ _;go_wp2_with fail;refine (hbe _).mono ?_;rintro e w2 ⟨dv,vh,rfl,⟨⟨A,cA,rfl,hz⟩,hho⟩,hb2⟩;obtain ⟨c5,rfl,hn5,h15,-⟩:=zbu hho;clear hbe;go_upto_region 2 with (refine zcJ rfl rfl (by first | rfl | simp [Act.eval,World.size_alloc]) rfl rfl hn5 h15 ?_)
 have E:=(((Kn.start w).step (hb1.trans (hb2.mono hb1.size))).give za1.list hz.zlt).give za1.ho hho.lt |>.push 27 (zdC (d24 4) A cA) |>.push 38 c5
 rw [World.size_alloc] at E;obtain ⟨gd,hgd⟩:∃ g,w2.heap.size=g:=⟨_,rfl⟩;have hgw:w.heap.size≤gd:=by rw [←hgd];exact Nat.le_trans hb1.size hb2.size
 generalize (w2.alloc (.cells (zdC (d24 4) A cA) 27)).alloc (.cells c5 38)=w3 at E ⊢;rw [hgd] at E ⊢;clear hz hho hb1 hb2 hgd;go_wp2_with fail;refine (hnw (fun b=>gd+1<b) _).mono ?_
 rintro e w4 ⟨gr,c,m,rfl,hR,hof,hb4⟩;have hs3:=(E.at_ m0).lt;replace E:=E.step hb4;have hs34':=hb4.size;clear hnw hb4;go_upto_region 5 with fail;have hs34:w3.heap.size≤w4.heap.size:=hs34';have hb0:Below w4.heap.size w4 w4.drew:=(Below.refl _ _).drew;have HK:Hid (∀ W,Below w4.heap.size w4 W→(∀ o,W.cell? ⟨gd,o,none⟩=(zdC (d24 4) A cA)[o]?)∧∀ o,W.cell? ⟨gd+1,o,none⟩=c5[o]?):=Lib.hid fun W hb=>⟨((E.step hb).rules m1).1,((E.step hb).rules m0).1⟩
 refine zbb (S:=fun (L:Array Bool) (W:World)=>L.getD 10 false=true∨((∀ o,W.cell? ⟨gd,o,none⟩=(zdC (d24 4) A cA)[o]?)∧∀ o,W.cell? ⟨gd+1,o,none⟩=c5[o]?)) (by kernel_rfl) (.inr (HK.out _ hb0)) (fun hDn hSn=>?_)
 have hbx:=hb0;generalize w4.drew=wx at hbx hDn hSn ⊢;refine zaf (i:=0) (oi:=⟨some 25,_,_,_,_,_⟩) (v:=?_) (Si:=fun W=>(∀ o,W.cell? ⟨gd,o,none⟩=(zdC (d24 4) A cA)[o]?)∧∀ o,W.cell? ⟨gd+1,o,none⟩=c5[o]?) rfl (by kernel_rfl) (by kernel_rfl) (by kernel_rfl) (fun _ _ _ h=>h) (fun L W hD hu hS=>hS.resolve_left (fun h=>by have h:=hD.2 10 _ rfl h ⟨0,.phase⟩ (by simp) rfl;rw [hu] at h;cases h)) (fun L W=>by simp only [getD_set_ne false (show (0:Nat)≠10 by omega)]) (Or.inl ⟨by rfl,?hy⟩) (by assumption) (by assumption) (fun hDn hSn=>?_)
 case hy=>intro w hSw;(try dsimp only at hSw);go_simp;with_reducible rfl
 try simp only [pu,List.set]
 refine zaf (i:=1) (oi:=⟨some 26,_,_,_,_,_⟩) (v:=?_) (Si:=fun W=>(∀ o,W.cell? ⟨gd,o,none⟩=(zdC (d24 4) A cA)[o]?)∧∀ o,W.cell? ⟨gd+1,o,none⟩=c5[o]?) rfl (by kernel_rfl) (by kernel_rfl) (by kernel_rfl) (fun _ _ _ h=>h) (fun L W hD hu hS=>hS.resolve_left (fun h=>by have h:=hD.2 10 _ rfl h ⟨1,.phase⟩ (by simp) rfl;rw [hu] at h;cases h)) (fun L W=>by simp only [getD_set_ne false (show (1:Nat)≠10 by omega)]) (Or.inl ⟨by rfl,?hy⟩) (by assumption) (by assumption) (fun hDn hSn=>?_)
 case hy=>intro w hSw;(try dsimp only at hSw);refine Eq.trans (zbi hSw.2 hn5 rfl rfl) ?_;with_reducible rfl
 try simp only [pu,List.set]
 refine zag (i:=2) (o:=⟨some 27,_,_,_,_,_⟩) (by kernel_rfl) rfl (by assumption) (fun K hK=>?_)
 go_simp;refine (hfi _).mono ?_;rintro e w5 ⟨A5,k5,rfl,own5,hb5⟩;replace hbx:=hbx.trans (hb5.mono hbx.size);have hv5:IsB w5 (fun b=>wx.heap.size≤b) (.slice A5 16 k5) (List.replicate 16 3):=IsB.of_own (l:=List.replicate 16 3) own5 (by decide)
 go_wp2_with fail;refine hK.out _ _ (.inr (HK.out _ hbx)) (fun hDn hSn=>?_)
 clear hK K;refine wD 3 28 (fun hDn hSn=>?_)
 refine zag (i:=4) (o:=⟨some 29,_,_,_,_,_⟩) (by kernel_rfl) rfl (by assumption) (fun K hK=>?_)
 go_simp;have hbx6:=hbx.alloc hbx.size (.cells #[.int .i64 1,.int .i64 7,.int .i64 1,.slice A5 16 k5] 67);have hio:IsL Rp.io (w5.alloc (.cells #[.int .i64 1,.int .i64 7,.int .i64 1,.slice A5 16 k5] 67)) (fun b=>b=w5.heap.size∨wx.heap.size≤b) (.slice (some ⟨w5.heap.size,0,none⟩) 1 1) [ioL]:=zi7 (w:=w5) (o:=ioL) rfl hv5 (by decide)
 refine hK.out _ _ (.inr (HK.out _ hbx6)) (fun hDn hSn=>?_)
 clear hK K;try simp only [pu,List.set]
 refine zag (i:=5) (o:=⟨some 30,_,_,_,_,_⟩) (by kernel_rfl) rfl (by assumption) (fun K hK=>?_)
 go_simp;have F:=E.step hbx6;refine (hco A cA (.agg c5) (some ⟨w5.heap.size,0,none⟩) 1 (fun b=>w.heap.size≤b∧b<gd) _ _ (F.get m1) (F.get m0) hio (fun b hb=>by have:=hbx6.size;have:=hb.2;omega)).mono ?_
 rintro e w7 ⟨dv,vh,rfl,⟨⟨A7,c7,rfl,hz7⟩,hh7⟩,hb7⟩;replace hbx:=hbx6.trans (hb7.mono hbx6.size);clear F hio hv5 own5;go_wp2_with fail;refine hK.out _ _ (.inr (HK.out _ hbx)) (fun hDn hSn=>?_)
 clear hK K;refine wD 6 24 (fun hDn hSn=>?_)
 refine wD 7 31 (fun hDn hSn=>?_)
 refine wD 8 32 (fun hDn hSn=>?_)
 refine wD 9 33 (fun hDn hSn=>?_)
 refine zag (i:=10) (o:=⟨none,_,_,_,_,_⟩) (by kernel_rfl) rfl (by assumption) (fun K hK=>?_)
 have F:=E.step hbx;obtain ⟨c7h,rfl,hn7,h17,-⟩:=zbu hh7;refine zc2 rfl (F.at_ m1) rfl rfl rfl rfl rfl (by rfl) ?_
 intro w8 hs8 ht8 hB8;refine hK.out _ _ (.inl (by kernel_rfl)) (fun hDn hSn=>?_)
 clear hK K;try simp only [pu,List.set]
 refine zag (i:=11) (o:=⟨none,_,_,_,_,_⟩) (by kernel_rfl) rfl (by assumption) (fun K hK=>?_)
 refine zde rfl ((F.at_ m0).turned ht8 (show ¬gd+1=gd by omega)) hn5 rfl rfl rfl hn7 h17 ?_
 intro w9 hs9 ht9 hB9;refine hK.out _ _ (.inl (by kernel_rfl)) (fun hDn hSn=>?_)
 clear hK K;refine wD 12 5 (fun hDn hSn=>?_)
 refine zbc (by kernel_rfl) ?_ _
 have t89:za0 w7 w9 (fun b=>b=gd∨b=gd+1):=(ht8.mono fun b hb=>.inl hb).trans (ht9.mono fun b hb=>.inr hb)
 have hs6:=hbx6.size;have hRlt:=fun {b}=>hR.lt (b:=b)
 have hz9:=(hz7.more (K':=fun b=>b<gd∨w4.heap.size≤b) fun b hb=>by rcases hb with hb | hb;exact .inl hb.2;exact .inr (by omega)).turned t89 (fun b hb e=>by omega)
 have hh9:=IsHo.keep (hh7.more (K':=fun b=>b<gd∨w4.heap.size≤b) fun b hb=>by rcases hb with hb | hb;exact .inl hb.2;exact .inr (by omega)) (t89.cells (K:=fun b=>b<gd∨w4.heap.size≤b) fun b hb e=>by omega)
 have hBd9:=hB8.turned ht9 (show ¬gd=gd+1 by omega)
 have hR9:IsRd (fun b=>gd+1<b) w9 gr c m [] ⟨4,[],0,0⟩ 0:=(hR.step hbx).turnedK t89 (fun b hb e=>by have:=hof b hb;omega) (fun b hb _=>⟨by omega,hb⟩)
 have hbw9:Below w.heap.size w w9:=za0.upon (za0.upon F.below ht8 hgw (Nat.le_refl _)) ht9 (by omega) (Nat.le_refl _)
 have hs49:w4.heap.size≤w9.heap.size:=Nat.le_trans hbx.size t89.size;clear hco HK E F hb0 hb5 hbx6 hb7 hbx hz7 hh7 ht8 ht9 hB8 t89 hDn hSn hs8 hs9 hn5 h15 hs6;try clear hDn hSn
 try clear hDn hSn
 generalize c24 (io24 7 1 3)=cr at hI hOn hCt hVr hz9 hh9 hBd9 ⊢;obtain ⟨d1,h1,e1⟩:=cr;dsimp only at hI hOn hCt hVr hz9 hh9 hBd9 ⊢;have hok:okD d1:=hI.okd;have hone:=hOn;have hrd:=zoJ hI (a:=7) (m:=1) (by omega) (by omega) (by omega)
 have hvs:∀ e∈h1.m,e.ver≤9223372036854775807:=fun e he=>by have:=hI.oldE e he;omega
 have hft:=hI.fit;have hch:=hI.chain;have hB3:zaa d1.z h1.m 7=B3:=by rw [hCt 7 (by decide)];rfl
 clear hI hOn hCt hVr;have hq1:∀ k t,zbK d1.z h1 k t 7 1=((blkC k 7 1 B3).1,t,(blkC k 7 1 B3).2):=fun k t=>by
  unfold zbK;rw [hrd,if_pos rfl];exact (zcg (lba:=7) (n:=1) hch ⟨by omega,by omega,by omega,by omega⟩ k t).trans (zlc hone hB3 k t)
 go_upto_region 6 with fail;have hof1:∀ b,OfRd gr c m [] b→gd+1<b∧b<w4.heap.size:=fun b hb=>⟨by have:=hof b hb;omega,hRlt hb⟩
 have hrr:=zf3 hR9 (fun b hb=>by have:=hof1 gr (.inl rfl);omega) d1 A7 c7 h1 (.agg c7h) 7 1 _ _ hz9 hh9 (fun b hb h9=>by have:=hof1 b h9;omega) (fun b hb h9=>by have:=hof1 b h9;omega) hok hch hft hvs ⟨by decide,by decide⟩ ⟨by decide,by decide⟩ ⟨by decide,by decide⟩ (by decide)
 rw [hrd,hq1,zoX] at hrr;dsimp only at hrr;obtain ⟨q0,f0⟩:=hBd9.rules;have t0:=hBd9.lt;have hBh9:=hB9;go_wp2_with (refine zbM hBh9 hn7 rfl rfl rfl ?_);refine hrr.mono ?_;rintro e wa ⟨va,rfl,hva,⟨ns1,hR1,tR1,sR1⟩⟩;have hsa:=tR1.size;have hz1:=hz9.zlt.turned tR1 (fun b hb h9=>by have:=hof1 b h9;have:=hb.1;omega)
 have hh1:=IsHo.keep (IsHo.lt hh9) (tR1.cells (K:=fun b=>(b<gd∨w4.heap.size≤b)∧b<w9.heap.size) fun b hb h9=>by have:=hof1 b h9;have:=hb.1;omega)
 have hKn:∀ b,(b<gd∨w4.heap.size≤b)∧b<w9.heap.size→¬OfRd gr c m ns1 b:=fun b hb=>zgA sR1 (fun h9=>by have:=hof1 b h9;have:=hb.1;omega) hb.2
 have hBd1:=hBd9.turned tR1 (fun h9=>by have:=hof1 _ h9;omega)
 have hBh1:=hBh9.turned tR1 (fun h9=>by have:=hof1 _ h9;omega)
 clear hrr q0 f0 t0 hz9 hh9 hBd9 hBh9 hB9;have hrr:=zf3 hR1 (fun b hb=>by have:=hof1 gr (.inl rfl);omega) d1 A7 c7 h1 (.agg c7h) 7 1 _ _ hz1 hh1 hKn hKn hok hch hft hvs ⟨by decide,by decide⟩ ⟨by decide,by decide⟩ ⟨by decide,by decide⟩ (by decide)
 rw [hrd,hq1,zoP] at hrr;dsimp only at hrr;obtain ⟨q0,f0⟩:=hBd1.rules;have t0:=hBd1.lt;go_wp2_with (refine zbM hBh1 hn7 rfl rfl rfl ?_);refine hrr.mono ?_;rintro e wb ⟨vb,rfl,hvb,⟨ns2,hR2,tR2,sR2⟩⟩;have hva2:=hR1.bytes hva tR2;obtain ⟨ns3,_,tR3,_⟩:=zat.on tR1 sR1 ⟨ns2,hR2,tR2,sR2⟩;clear hrr q0 f0 t0 hz1 hh1 hBd1 hBh1 hKn hva;obtain ⟨q0,f0⟩:=hR2.1.rules;have t0:=hR2.1.lt;have hht:∀ W,IsRd (fun b=>gd+1<b) W gr c m ns2 ⟨4,[⟨7,1,B3⟩],1,1⟩ 0→Calls Tryz.prog 11 #[.pointer (some ⟨c,0,none⟩)] W fun r' w'=>r'=.returned (.tuple #[.int .i64 1,.int .i64 1])∧Below W.heap.size W w':=fun W hW=>by
  obtain ⟨_,dt,ah,af,hca,_⟩:=hW;exact zm0 hca
 go_wp2_with fail;refine (hht _ hR2).mono ?_;rintro e wc ⟨rfl,hbc⟩;have hbw:Below w.heap.size w wb:=hbw9.trans (tR3.below (fun k hk=>by have:=hof k hk;omega) hbw9.size)
 have hva3:=hva2.step hbc;have hvb3:=hvb.step hbc;replace hbw:=hbw.trans (hbc.mono hbw.size);obtain ⟨Aa,ka,rfl,-⟩:=zab hva3;obtain ⟨Ab,kb,rfl,-⟩:=zab hvb3;rw [show B3.length=16 from rfl] at hva3 hvb3 ⊢;clear q0 f0 t0 hht hva2 hvb hbc hR1 hR2 tR1 tR2 sR1 sR2 hR hR9;go_upto_region 9 with fail;have HK:Hid (∀ W,Below wc.heap.size wc W→(convert 32 9 (.slice Aa 16 ka)).run Tryz.prog W=.ok (.string ⟨B3.toArray⟩) W∧(convert 32 9 (.slice Ab 16 kb)).run Tryz.prog W=.ok (.string ⟨B3.toArray⟩) W):=Lib.hid fun W hb=>
  ⟨zaG (P:=Tryz.prog) (cap:=ka) (n:=16) (l:=B3) W 32 9 5 Tryz.underlying32 Tryz.underlying5 Tryz.underlying9 rfl (IsB.open_ (hva3.step hb)).2.1,
  zaG (P:=Tryz.prog) (cap:=kb) (n:=16) (l:=B3) W 32 9 5 Tryz.underlying32 Tryz.underlying5 Tryz.underlying9 rfl (IsB.open_ (hvb3.step hb)).2.1⟩
 have hb0:Below wc.heap.size wc wc.drew:=(Below.refl _ _).drew;refine wp_region_held_drew (S:=fun W=>(convert 32 9 (.slice Aa 16 ka)).run Tryz.prog W=.ok (.string ⟨B3.toArray⟩) W∧(convert 32 9 (.slice Ab 16 kb)).run Tryz.prog W=.ok (.string ⟨B3.toArray⟩) W) (by kernel_rfl) (HK.out _ hb0) (fun hHeld=>?_)
 have hbx:=hb0;generalize wc.drew=wx at hbx hHeld ⊢;refine wT 0 56 ?_;refine wT 1 57 ?_;refine wT 2 58 ?_;refine wT 3 59 ?_;refine wT 4 60 ?_;refine wT 5 61 ?_;refine wT 6 62 ?_;refine wT 7 63 ?_;refine wT 8 64 ?_;refine wT 9 65 ?_;refine wT 10 66 ?_;refine wT 11 67 ?_;refine wT 12 68 ?_;refine wR 13 69 (fun K hK=>?_)
 go_simp;refine (hfi _).mono ?_;rintro e wx ⟨A24,c24,rfl,own24,hb24⟩;have hB24:IsB wx (fun _=>True) (.slice A24 16 c24) B3:=(IsB.of_own (l:=B3) own24 (by decide)).more fun _ _=>trivial
 replace hbx:=hbx.trans (hb24.mono hbx.size);clear own24 hb24;go_wp2_with fail;refine hK.out _ _ (HK.out _ hbx) (fun hHeld=>?_)
 clear hK K;try simp only [pu,List.set]
 refine wR 14 70 (fun K hK=>?_)
 have hs3:=zaG (P:=Tryz.prog) (cap:=c24) (n:=16) (l:=B3) wx 32 9 5 Tryz.underlying32 Tryz.underlying5 Tryz.underlying9 rfl (IsB.open_ hB24).2.1;go_simp;refine hK.out _ _ (HK.out _ hbx) (fun hHeld=>?_)
 clear hK K;refine wT 15 71 ?_;refine wT 16 72 ?_;refine wT 17 73 ?_;refine wT 18 74 ?_;refine wT 19 75 ?_;refine wT 20 76 ?_;refine wT 21 77 ?_;refine wT 22 78 ?_;refine wT 23 79 ?_;refine wT 24 80 ?_;refine wT 25 81 ?_;refine wT 26 82 ?_;refine wT 27 83 ?_;refine wT 28 84 ?_;refine wT 29 85 ?_;refine wT 30 86 ?_;refine wT 31 87 ?_;refine wT 32 0 ?_;refine wpAnyH_done (by kernel_rfl) ?_ _
 go_wp2;go_ret;refine ⟨?_,hbw.trans (hbx.mono hbw.size)⟩;simp [go_sem]
end Go.Proofs.YthblkdnijhphhaaGreat
