/- A part of the proof. -/
import Derived.Test.YtcapmeefiglfjaaGreatReadRead
import Derived.Test.YtcapmeefiglfjaaGreatJClean
set_option linter.unusedSimpArgs false
set_option maxHeartbeats 16000000
set_option maxRecDepth 100000
namespace Go.Proofs.YtcapmeefiglfjaaGreat
open Go.RowKit
def oW (zs:List Zn) (m:List Ex) (s:Ca × Int × List UInt8) (b:Int):Ca × Int × List UInt8:=
 match see m b with
 | none=>(s.1,s.2.1+1,s.2.2++bZ 16)
 | some t=>if t.2.1<0 then (s.1,s.2.1+1,s.2.2++bZ 16) else ((blkC s.1 b t.1 (blockB zs m b)).1,s.2.1,s.2.2++(blkC s.1 b t.1 (blockB zs m b)).2)
def dN (zs:List Zn) (m:List Ex) (a:Int) (n:Nat) (s:Ca × Int × List UInt8):Ca × Int × List UInt8:=(List.range n).foldl (fun s i=>oW zs m s (a+(i:Nat))) s
section
variable {zs:List Zn} {m:List Ex}
theorem dC (a:Int) (n:Nat) (s:Ca × Int × List UInt8):dN zs m a (n+1) s=oW zs m (dN zs m a n s) (a+(n:Nat)):=by
 unfold dN;rw [zjU,zjp];rfl
theorem pL (a:Int) (n:Nat) (s:Ca × Int × List UInt8):∀ q:Nat,dN zs m a (n+q) s=dN zs m (a+(n:Nat)) q (dN zs m a n s)
 | 0=>rfl
 | q+1=>by
   rw [←Nat.add_assoc,dC,pL a n s q,dC];congr 1
   omega
theorem qP (a:Int) (k:Ca):∀ (q:Nat) (t:Int) (out:List UInt8),(∀ i:Nat,i<q→see m (a+i)=none∨∃ t,see m (a+i)=some t∧t.2.1<0)→dN zs m a q (k,t,out)=(k,t+q,out++bZ (q*16))
 | 0,t,out,_=>by show (k,t,out)=_;simp [bZ]
 | q+1,t,out,h=>by
   rw [dC,qP a k q t out fun i hi=>h i (by omega)]
   have hz:bZ ((q+1)*16)=bZ (q*16)++bZ 16:=by rw [←xA];congr 1;omega
   unfold oW;rcases h q (by omega) with h1 | ⟨t',h1,h2⟩
   · rw [h1,hz,←ziq]
     simp only [zj4,zks,zkn];omega
   · rw [h1,hz,←ziq]
     simp only [zij h2,zj4,zks,zkn];omega
theorem qU (p:Ex) (hz:¬p.zone<0) (hs:∀ b,aX p b=true→see m b=some (seeE p b)) (k:Ca) (t:Int) (out:List UInt8):∀ q:Nat,(q:Int)≤p.n →
 dN zs m p.lba q (k,t,out)=((lR zs m p.lba p.ver q (k,out)).1,t,(lR zs m p.lba p.ver q (k,out)).2)
 | 0,_=>rfl
 | q+1,h=>by
   rw [dC,qU p hz hs k t out q (by omega)]
   have h1:=hs (p.lba+(q:Nat)) (by unfold aX aL;simp;omega)
   unfold oW;rw [h1];show (if p.zone<0 then _ else _)=_;rw [zig hz];rfl
theorem nY:∀ (l:List Ex) (a z:Int),kG a l z→(∀ p∈l,0<p.n∧((zhF p∧∀ b,aX p b=true→see m b=none)∨(bO p∧∀ b,aX p b=true→see m b=some (seeE p b))))→∀ s,l.foldl (zfA zs m) s=dN zs m a (z-a).toNat s
 | [],a,z,h,_,s=>by
   have:a=z:=h;subst this;simp [dN]
 | p::l,a,z,⟨h1,h2,h3⟩,hp,s=>by
   rw [List.foldl_cons,nY l (aL p) z h3 (fun q hq=>hp q (zii _ hq))]
   have hzz:aL p≤z:=by
    have:=(lS l (aL p) z h3);omega
   unfold aL at hzz;have e1:(z-a).toNat=p.n.toNat+(z-aL p).toNat:=by unfold aL;omega
   rw [e1,pL];have e2:a+(p.n.toNat:Nat)=aL p:=by unfold aL;omega
   rw [e2];congr 1
   obtain ⟨k,t,out⟩:=s;obtain ⟨_,hc⟩:=hp p (zih ..);unfold zfA;rw [←h1];by_cases hz:p.zone<0
   · rw [zij hz,qP p.lba k p.n.toNat t out fun i hi=>by
      have hh:aX p (p.lba+i)=true:=by unfold aX aL;simp;omega
      rcases hc with ⟨_,hc⟩ | ⟨_,hc⟩
      · exact .inl (hc _ hh)
      · exact .inr ⟨_,hc _ hh,hz⟩]
     simp only [zj4,zkn,zks];omega
   · rw [zig hz]
     rcases hc with ⟨⟨_,hg,_⟩,_⟩ | ⟨_,hc⟩
     · omega
     · exact (qU p hz hc k t out p.n.toNat (by omega)).symm
theorem lJ {lba:Int} {n:Nat} (hm:aC 0 m) (hb:aJ lba n) (k:Ca) (t:Int):iQ zs m (lookE m lba n) k t=dN zs m lba n (k,t,[]):=by
 obtain ⟨h1,h2,_⟩:=dH hm hb;have htl:kG lba (lookE m lba n) (lba+n):=gJ _ _ _ h1 h2;have:=nY (zs:=zs) _ _ _ htl (fun p hp=>⟨((fI hm hb).1 p hp).1,((fI hm hb).1 p hp).2.2.2⟩) (k,t,[])
 unfold iQ;rw [this];congr 1
 omega
end
theorem zdn {L:List En} {y:En} (hn:(L.map (·.lba)).Nodup) (hy:y∈L):L.Perm (y::bH L y.lba):=by
 obtain ⟨l,r,rfl⟩:=zkr hy;rw [ziZ,zj2,zjE] at hn;have h1:bH (l++y::r) y.lba=l++r:=by
  unfold bH;rw [zj8,zj9,zig (by simp),←zj8,zjI]
  intro x hx;rcases ziA.1 hx with h | h
  · have:=hn.2.2 _ (zjq h) y.lba (zih ..)
    simpa using this
  · have:=(zj0.1 hn.2.1).1
    simp only [Bool.not_eq_true',ziN,ne_eq];exact fun e=>this (by rw [←e];exact zjq h)
 rw [h1];exact zkz
theorem zbL {L:List En} {b:Int} (h:∀ y∈L,y.lba≠b):bH L b=L:=by
 unfold bH;rw [zjI];intro y hy;simpa using h y hy
def zhM (m:List Ex) (P:Int→Bool):Prop:=∀ b,(P b=true→∃ t,see m b=some t∧t.1=1∧¬t.2.1<0)∧(P b=false→see m b=none)
section
variable {zs:List Zn} {m:List Ex} {P:Int→Bool}
theorem zaK (hm:zhM m P) {b:Int} (hb:P b=true) (s:Ca × Int × List UInt8):oW zs m s b=((blkC s.1 b 1 (blockB zs m b)).1,s.2.1,s.2.2++(blkC s.1 b 1 (blockB zs m b)).2):=by
 obtain ⟨t,h1,h2,h3⟩:=(hm b).1 hb;unfold oW;rw [h1];simp only [zig h3,h2]
end
def nA (lba:Int) (n:Nat) (by_:UInt8):Io:=⟨1,lba,n,List.replicate (n*16) by_⟩
abbrev c24 (x:Io):Zd × Ho × Int:=bJ (d24 4) (h24 4) [x]
theorem zas {a m:Int} (h1:0≤a) (h2:1≤m) (h3:a+m≤60):lT s60 a m=true:=by
 unfold lT;rw [ziu (show dF a m 1099511627776 from ⟨h1,h2,by omega,by omega⟩),zku,ziM]
 unfold s60 reachS;simp only [List.foldl_cons,List.foldl_nil];rw [zij ⟨h1,by omega⟩]
 exact h3
theorem kW:eZ 4 400 f24 60 s60 (d24 4) (h24 4) where
 dev:=rfl
 ok:=zeB (by decide) (by decide) fun k _=>by unfold f24;omega
 most:=by decide
 bnd:=by decide
 len:=mQ
 fe:=by decide
 F0:=fun k _=>by unfold f24;omega
 id:=rfl
 own:=by rfl
 s:=rfl
 chain:=trivial
 far:=fun _ _=>rfl
 fit:=fun b t ht=>by cases ht
 ver:=by decide
 old:=fun b t ht=>by cases ht
 seq:=by decide
 opened:=fun e=>by cases e
 shut:=fun _=>rfl
section
variable {lba:Int} {n:Nat} {by_:UInt8}
theorem zfC (h1:0≤lba) (h2:1≤n) (h3:lba+n≤60):dW s60 (nA lba n by_)=0∧lU 60 (recI 1 (nA lba n by_)):=by
 constructor
 · unfold dW
   rw [zig,show lT s60 (nA lba n by_).lba (nA lba n by_).n=true from zas h1 (by show (1:Int)≤(n:Int);omega) h3,zij rfl]
   rw [ziT];unfold dF fD iA nA;simp;omega
 · exact ⟨.inl rfl,⟨h1,by show (1:Int)≤(n:Int);omega,h3⟩,by show (n:Int)≤256;omega,by show (0:Int)≤1∧(1:Int)≤1000000;decide,⟨rfl,rfl⟩,fun _=>by show ((List.replicate (n*16) by_).length:Int)=16*(n:Int);rw [ziC];omega,fun h=>absurd (show (1:Int)=2 from h) (by decide)⟩
theorem zfB (h1:0≤lba) (h2:1≤n) (h3:lba+n≤60) (h0:(c24 (nA lba n by_)).2.2=0) :
 (eZ 4 400 f24 60 s60 (c24 (nA lba n by_)).1 (c24 (nA lba n by_)).2.1∧zhM (c24 (nA lba n by_)).2.1.m (fun b=>decide (lba≤b∧b<lba+n))∧(∀ b,lba≤b∧b<lba+n→blockB (c24 (nA lba n by_)).1.z (c24 (nA lba n by_)).2.1.m b=zY (recI 1 (nA lba n by_)) b)∧(c24 (nA lba n by_)).2.1.ver=2)∧zgQ (d24 4) (h24 4) [recI 1 (nA lba n by_)]:=by
 obtain ⟨f1,f2⟩:=zfC (by_:=by_) h1 h2 h3;obtain ⟨hp,g⟩:=zaB kW (o:=nA lba n by_) f1 f2 (by decide) (by decide)
 refine ⟨?_,hp⟩;rcases g with g | ⟨d',h',e,j,hv,-,hb⟩
 · rw [g] at h0;cases h0
 · unfold c24
   rw [e];refine ⟨j,fun b=>⟨fun hc=>?_,fun hc=>?_⟩,fun b hc=>?_,hv⟩
   · obtain ⟨t,e1,e2,e3,_⟩:=(hb b).1 (show lba≤b∧b<lba+n from zjJ hc)
     exact ⟨t,e1,e2,fun h9=>absurd (show (1:Int)=2 from e3.1 h9) (by decide)⟩
   · exact ((hb b).2 (show ¬(lba≤b∧b<lba+n) from of_decide_eq_false hc)).1
   · obtain ⟨t,_,_,_,e4⟩:=(hb b).1 hc
     exact e4
theorem zh9 {d:Zd} {h:Ho} (hi:eZ 4 400 f24 60 s60 d h) {a m:Int} (h1:0≤a) (h2:1≤m∧m≤256) (h3:a+m≤60):(dQ d.z h a m).2=0:=by
 unfold dQ;rw [zig (fun e=>e ⟨h1,h2.1,h2.2,by omega⟩),hi.s,zas h1 h2.1 h3,zig (by simp),iM hi.chain ⟨h1,by omega,by omega,by omega⟩ (by omega) hi.fit]
theorem zdb (h1:0≤lba) (h2:1≤n) (h3:lba+n≤60) (h0:(c24 (nA lba n by_)).2.2=0) (Az:Option Addr) (cz:Nat) (v:Value) (A:Option Addr) (c:Nat) (K Kl:Nat→Prop) (w:World) (hz:IsL Rp.zone w K (.slice Az (d24 4).z.length cz) (d24 4).z) (hv:aY w K v (h24 4)) (hl:IsL Rp.io w Kl (.slice A 1 c) [nA lba n by_]) (hK:∀ b,K b→b<w.heap.size) :
 Calls Tryz.prog 15 #[.agg (zdC (d24 4) Az cz),v,.slice A 1 c] w fun e w'=>∃ dv vh,e=.returned (.tuple #[dv,vh,.int .i64 0])∧mG w' (fun b=>K b∨w.heap.size≤b) dv vh (c24 (nA lba n by_)).1 (c24 (nA lba n by_)).2.1∧Below w.heap.size w w':=by
 obtain ⟨_,hp⟩:=zfB (by_:=by_) h1 h2 h3 h0;have:=kM (d24 4) Az cz (h24 4) v A c [nA lba n by_] K Kl w hz hv hl hK kW.okd (kW.okho (by decide)) (kW.small (by decide)) (by decide) (by simp) (by simp) (fun _=>kL fun r hr=>by
  rw [show bE (h24 4).ver [nA lba n by_]=[recI 1 (nA lba n by_)] from rfl] at hr;rw [ziw.1 hr];exact (zfC (by_:=by_) h1 h2 h3).2.fit (by decide)) (fun _ h=>hp h)
 rw [show (bJ (d24 4) (h24 4) [nA lba n by_]).2.2=0 from h0] at this;exact this
end
structure zhA (zs:List Zn) (m:List Ex) (V:Int) (k:Ca):Prop where
 same:∀ b t,see m b=some t→¬t.2.1<0→∀ y∈k.l,y.lba=b→y.ver=t.1→y.b=blockB zs m b
 old:∀ y∈k.l,y.ver<V
section
variable {zs zs':List Zn} {m m':List Ex} {V V':Int} {k:Ca}
def mP (zs:List Zn) (m:List Ex) (V:Int) (zs':List Zn) (m':List Ex) (V':Int):Prop:=V≤V'∧∀ b,(((see m' b).map fun t=>(t.1,decide (t.2.1<0)))=((see m b).map fun t=>(t.1,decide (t.2.1<0)))∧blockB zs' m' b=blockB zs m b)∨∃ t,see m' b=some t∧V≤t.1
theorem mP.of_same (h:iO zs m zs' m'):mP zs m V zs' m' V:=⟨zj7 _,fun b=>.inl (h b)⟩
end
end Go.Proofs.YtcapmeefiglfjaaGreat
namespace Go.Proofs.YtcapmeefiglfjaaGreat
open Go.RowKit Go.WideMaps
section
variable {Kd:Nat→Prop} {w:World} {gr c m:Nat} {ns:List Nat} {k:Ca} {t:Int}
theorem zaC (room:Int) (w:World) :
 Calls Tryz.prog 6 #[.int .i64 room] w fun r w'=>∃ gr c m,r=.returned (.pointer (some ⟨gr,0,none⟩))∧fM Kd w' gr c m [] ⟨max room 0,[],0,0⟩ 0∧(∀ b,lW gr c m [] b→w.heap.size≤b)∧Below w.heap.size w w':=by
 have hc:=fun W=>ze6 (Kd:=Kd) room W
 go_enter Tryz.func6,Tryz.ntmps6
 go_wp2_with fail;refine (hc _).mono ?_;rintro r w1 ⟨c,m,rfl,hca,h1,h2,hb1⟩;clear hc;go_wp2_with fail;go_ret;have hb2:Below w1.heap.size w1 (w1.alloc (.cells #[.pointer (some ⟨c,0,none⟩),.int .i64 0] 59)):=zBA;refine ⟨w1.heap.size,c,m,rfl,⟨Blk.new w1 _ _ rfl,hca.step hb2⟩,fun b hb=>?_,hb1.trans (hb2.mono hb1.size)⟩
 rcases hb with h | h | h
 · rw [h];exact hb1.size
 · rw [h];exact h2
 · rcases zim.1 h with h | h
   · rw [h];exact h1
   · simp at h
theorem zb1 (h:fM Kd w gr c m ns k t) :
 Calls Tryz.prog 14 #[.pointer (some ⟨gr,0,none⟩)] w fun r w'=>r=.returned (.int .i64 t)∧w'=w:=by
 obtain ⟨q0,f0⟩:=h.1.rules;have u0:=h.1.lt;go_enter Tryz.func14,Tryz.ntmps14
 go_wp2_with fail;go_ret;exact ⟨rfl,rfl⟩
theorem yO (h:fM Kd w gr c m ns k t) (hns:k.l.length≤1000000) (lba n:Int) (hl:0≤lba∧lba≤9223372036854775807) :
 Calls Tryz.prog 9 #[.pointer (some ⟨gr,0,none⟩),.int .i64 lba,.int .i64 n] w fun r w'=>r=.returned (.int .i64 (k.l.length-(eQ lba n k.l).length:Int))∧bL Kd w w' gr c m ns ⟨k.most,eQ lba n k.l,k.hit,k.miss⟩ t:=by
 have hlen:=h.len;have h0:=h;obtain ⟨hB,dt,ah,af,h1,h2⟩:=h;have hd:=zcg h1 (by omega) lba n hl
 rw [h2,hlen] at hd;obtain ⟨q0,f0⟩:=hB.rules;have u0:=hB.lt;go_enter Tryz.func9,Tryz.ntmps9
 go_wp2_with fail;refine hd.mono ?_;rintro r w1 ⟨rfl,hm⟩;clear q0 f0 u0 hd;go_wp2_with fail;go_ret;exact ⟨rfl,kC.rd h0 hm⟩
end
theorem zQ {w:World} {K:Nat→Prop} {A:Option Addr} {c g n:Nat} {o:Io} (hg:w.heap.size=g) (hv:IsB w K (.slice A n c) o.data) (h:(-9223372036854775808≤o.op∧o.op≤9223372036854775807)∧(-9223372036854775808≤o.lba∧o.lba≤9223372036854775807)∧(-9223372036854775808≤o.n∧o.n≤9223372036854775807)) :
 IsL Rp.io (w.alloc (.cells #[.int .i64 o.op,.int .i64 o.lba,.int .i64 o.n,.slice A n c] 69)) (fun b=>b=g∨K b) (.slice (some ⟨g,0,none⟩) 1 1) [o]:=
 ⟨_,1,_,rfl,(aG.new (n:=1) (size:=4) hg rfl rfl).more (fun _ h=>.inl h),aI.single ⟨_,rfl,(hv.alloc _).more fun _ h=>.inr h,h.1,h.2.1,h.2.2⟩,by simp,by omega,by simp⟩
theorem fM.bytes {Kd K:Nat→Prop} {w w':World} {gr c m:Nat} {ns:List Nat} {k:Ca} {t:Int} {v:Value} {b:List UInt8} (h:fM Kd w gr c m ns k t) (hv:IsB w K v b) (ht:aA w w' (lW gr c m ns)):IsB w' K v b:=by
 refine ((hv.offS (S:=lW gr c m ns) fun p hp n=>?_).turned ht (fun b hb=>hb.2)).more fun _ hb=>hb.1
 obtain ⟨hB,dt,ah,af,h1,h2⟩:=h;rcases hp with hp | hp | hp
 · refine nQ hB (fun o n=>?_) p hp n
   rcases zjb o 2 with h | h
   · match o,h with
     | 0,_ | 1,_=>simp
   · rw [zjo (by simpa using h)];simp
 · obtain ⟨D,⟨es,k,hm,_⟩,_⟩:=h1.map
   obtain ⟨pb,po,pz⟩:=p;have hp:pb=m:=hp;subst hp;simp [World.cell?,hm]
 · rcases zim.1 hp with h8 | h8
   · exact nQ h1.nd.ca (qN _ _ _ _ _ _ _) p h8 n
   · obtain ⟨v,h3,_⟩:=h1.nd.en _ h8
     exact nQ h3 (h1.nd.noB h8 h3) p rfl n
abbrev ioL:Io:=nA 7 1 3
theorem zhQ:(c24 ioL).2.2=0:=by kernel_rfl
def B3:List UInt8:=List.replicate 16 3
theorem zcD {zs:List Zn} {m:List Ex} (hm:zhM m (fun b=>decide ((7:Int)≤b∧b<7+((1:Nat):Int)))) (hB:blockB zs m 7=B3) (k:Ca) (t:Int):dN zs m 7 1 (k,t,[])=((blkC k 7 1 B3).1,t,(blkC k 7 1 B3).2):=by
 rw [dC];show oW zs m (k,t,[]) (7+((0:Nat):Int))=_;rw [show (7:Int)+((0:Nat):Int)=7 by decide,zaK hm (by decide),hB]
 rfl
theorem zhC:blkC ⟨4,[],0,0⟩ 7 1 B3=(⟨4,[⟨7,1,B3⟩],0,1⟩,B3):=by kernel_rfl
theorem zhl:blkC ⟨4,[⟨7,1,B3⟩],0,1⟩ 7 1 B3=(⟨4,[⟨7,1,B3⟩],1,1⟩,B3):=by kernel_rfl
theorem zaM (w:World):Calls Tryz.prog 4 #[] w fun e w'=>e=.returned (.bool true)∧Below w.heap.size w w':=by
 have hbe:=fun W=>oS W
 have hnw:=fun (Kd:Nat→Prop) W=>zaC (Kd:=Kd) 4 W
 rw [show max (4:Int) 0=4 by decide] at hnw
 have hfi:=fun W=>qY 3 16 W (by decide)
 obtain ⟨⟨hI,hOn,hCt,hVr⟩,-⟩:=zfB (lba:=7) (n:=1) (by_:=3) (by decide) (by decide) (by decide) zhQ
 have hco:=fun Az cz v A c K Kl W a b e f=>zdb (lba:=7) (n:=1) (by_:=3) (by decide) (by decide) (by decide) zhQ Az cz v A c K Kl W a b e f
 go_enter Tryz.func4,Tryz.ntmps4
 have hb1:Below w.heap.size w w:=zif _ _;go_wp2_with fail;refine (hbe _).mono ?_;rintro e w2 ⟨dv,vh,rfl,⟨⟨A,cA,rfl,hz⟩,hho⟩,hb2⟩;obtain ⟨c5,rfl,hn5,h15,-⟩:=eJ hho;clear hbe;go_upto_region 2 with (refine iI rfl rfl (by first | rfl | simp [Act.eval,zid]) rfl rfl hn5 h15 ?_)
 have E:=(((Kn.start w).step (hb1.trans (hb2.mono hb1.size))).give aB.list hz.zlt).give aB.ho hho.lt |>.push 26 (zdC (d24 4) A cA) |>.push 37 c5
 rw [zid] at E;obtain ⟨gd,hgd⟩:∃ g,w2.heap.size=g:=⟨_,rfl⟩;have hgw:w.heap.size≤gd:=by rw [←hgd];exact zit hb1.size hb2.size
 generalize (w2.alloc (.cells (zdC (d24 4) A cA) 26)).alloc (.cells c5 37)=w3 at E ⊢;rw [hgd] at E ⊢;clear hz hho hb1 hb2 hgd;go_wp2_with fail;refine (hnw (fun b=>gd+1<b) _).mono ?_
 rintro e w4 ⟨gr,c,m,rfl,hR,hof,hb4⟩;have hs3:=(E.at_ m0).lt;replace E:=E.step hb4;have hs34':=hb4.size;clear hnw hb4;go_upto_region 5 with fail;have hs34:w3.heap.size≤w4.heap.size:=hs34';have hb0:Below w4.heap.size w4 w4.drew:=(zif _ _).drew;have HK:Hid (∀ W,Below w4.heap.size w4 W→(∀ o,W.cell? ⟨gd,o,none⟩=(zdC (d24 4) A cA)[o]?)∧∀ o,W.cell? ⟨gd+1,o,none⟩=c5[o]?):=zia fun W hb=>⟨((E.step hb).rules m1).1,((E.step hb).rules m0).1⟩
 refine cZ (S:=fun (L:Array Bool) (W:World)=>L.getD 10 false=true∨((∀ o,W.cell? ⟨gd,o,none⟩=(zdC (d24 4) A cA)[o]?)∧∀ o,W.cell? ⟨gd+1,o,none⟩=c5[o]?)) (by kernel_rfl) (.inr (HK.out _ hb0)) (fun hDn hSn=>?_)
 have hbx:=hb0;generalize w4.drew=wx at hbx hDn hSn ⊢;refine aN (i:=0) (oi:=⟨some 25,_,_,_,_,_⟩) (v:=?_) (Si:=fun W=>(∀ o,W.cell? ⟨gd,o,none⟩=(zdC (d24 4) A cA)[o]?)∧∀ o,W.cell? ⟨gd+1,o,none⟩=c5[o]?) rfl (by kernel_rfl) (by kernel_rfl) (by kernel_rfl) (fun _ _ _ h=>h) (fun L W hD hu hS=>hS.resolve_left (fun h=>by have h:=hD.2 10 _ rfl h ⟨0,.phase⟩ (by simp) rfl;rw [hu] at h;cases h)) (fun L W=>by simp only [zjf false (show (0:Nat)≠10 by omega)]) (Or.inl ⟨by rfl,?hy⟩) (by assumption) (by assumption) (fun hDn hSn=>?_)
 case hy=>intro w hSw;(try dsimp only at hSw);go_simp;with_reducible rfl
 try simp only [pu,List.set]
 refine aN (i:=1) (oi:=⟨some 26,_,_,_,_,_⟩) (v:=?_) (Si:=fun W=>(∀ o,W.cell? ⟨gd,o,none⟩=(zdC (d24 4) A cA)[o]?)∧∀ o,W.cell? ⟨gd+1,o,none⟩=c5[o]?) rfl (by kernel_rfl) (by kernel_rfl) (by kernel_rfl) (fun _ _ _ h=>h) (fun L W hD hu hS=>hS.resolve_left (fun h=>by have h:=hD.2 10 _ rfl h ⟨1,.phase⟩ (by simp) rfl;rw [hu] at h;cases h)) (fun L W=>by simp only [zjf false (show (1:Nat)≠10 by omega)]) (Or.inl ⟨by rfl,?hy⟩) (by assumption) (by assumption) (fun hDn hSn=>?_)
 case hy=>intro w hSw;(try dsimp only at hSw);refine zkF (dU hSw.2 hn5 rfl rfl) ?_;with_reducible rfl
 try simp only [pu,List.set]
 refine aR (i:=2) (o:=⟨some 27,_,_,_,_,_⟩) (by kernel_rfl) rfl (by assumption) (fun K hK=>?_)
 go_simp;refine (hfi _).mono ?_;rintro e w5 ⟨A5,k5,rfl,own5,hb5⟩;replace hbx:=hbx.trans (hb5.mono hbx.size);have hv5:IsB w5 (fun b=>wx.heap.size≤b) (.slice A5 16 k5) (List.replicate 16 3):=IsB.of_own (l:=List.replicate 16 3) own5 (by decide)
 go_wp2_with fail;refine hK.out _ _ (.inr (HK.out _ hbx)) (fun hDn hSn=>?_)
 clear hK K;refine wD 3 28 (fun hDn hSn=>?_)
 refine aR (i:=4) (o:=⟨some 29,_,_,_,_,_⟩) (by kernel_rfl) rfl (by assumption) (fun K hK=>?_)
 go_simp;have hbx6:=hbx.alloc hbx.size (.cells #[.int .i64 1,.int .i64 7,.int .i64 1,.slice A5 16 k5] 69);have hio:IsL Rp.io (w5.alloc (.cells #[.int .i64 1,.int .i64 7,.int .i64 1,.slice A5 16 k5] 69)) (fun b=>b=w5.heap.size∨wx.heap.size≤b) (.slice (some ⟨w5.heap.size,0,none⟩) 1 1) [ioL]:=zQ (w:=w5) (o:=ioL) rfl hv5 (by decide)
 refine hK.out _ _ (.inr (HK.out _ hbx6)) (fun hDn hSn=>?_)
 clear hK K;try simp only [pu,List.set]
 refine aR (i:=5) (o:=⟨some 30,_,_,_,_,_⟩) (by kernel_rfl) rfl (by assumption) (fun K hK=>?_)
 go_simp;have F:=E.step hbx6;refine (hco A cA (.agg c5) (some ⟨w5.heap.size,0,none⟩) 1 (fun b=>w.heap.size≤b∧b<gd) _ _ (F.get m1) (F.get m0) hio (fun b hb=>by have:=hbx6.size;have:=hb.2;omega)).mono ?_
 rintro e w7 ⟨dv,vh,rfl,⟨⟨A7,c7,rfl,hz7⟩,hh7⟩,hb7⟩;replace hbx:=hbx6.trans (hb7.mono hbx6.size);clear F hio hv5 own5;go_wp2_with fail;refine hK.out _ _ (.inr (HK.out _ hbx)) (fun hDn hSn=>?_)
 clear hK K;refine wD 6 24 (fun hDn hSn=>?_)
 refine wD 7 31 (fun hDn hSn=>?_)
 refine wD 8 32 (fun hDn hSn=>?_)
 refine wD 9 33 (fun hDn hSn=>?_)
 refine aR (i:=10) (o:=⟨none,_,_,_,_,_⟩) (by kernel_rfl) rfl (by assumption) (fun K hK=>?_)
 have F:=E.step hbx;obtain ⟨c7h,rfl,hn7,h17,-⟩:=eJ hh7;refine fN rfl (F.at_ m1) rfl rfl rfl rfl rfl (by rfl) ?_
 intro w8 hs8 ht8 hB8;refine hK.out _ _ (.inl (by kernel_rfl)) (fun hDn hSn=>?_)
 clear hK K;try simp only [pu,List.set]
 refine aR (i:=11) (o:=⟨none,_,_,_,_,_⟩) (by kernel_rfl) rfl (by assumption) (fun K hK=>?_)
 refine jX rfl ((F.at_ m0).turned ht8 (show ¬gd+1=gd by omega)) hn5 rfl rfl rfl hn7 h17 ?_
 intro w9 hs9 ht9 hB9;refine hK.out _ _ (.inl (by kernel_rfl)) (fun hDn hSn=>?_)
 clear hK K;refine wD 12 5 (fun hDn hSn=>?_)
 refine cX (by kernel_rfl) ?_ _
 have t89:aA w7 w9 (fun b=>b=gd∨b=gd+1):=(ht8.mono fun b hb=>.inl hb).trans (ht9.mono fun b hb=>.inr hb)
 have hs6:=hbx6.size;have hRlt:=fun {b}=>hR.lt (b:=b)
 have hz9:=(hz7.more (K':=fun b=>b<gd∨w4.heap.size≤b) fun b hb=>by rcases hb with hb | hb;exact .inl hb.2;exact .inr (by omega)).turned t89 (fun b hb e=>by omega)
 have hh9:=aY.keep (hh7.more (K':=fun b=>b<gd∨w4.heap.size≤b) fun b hb=>by rcases hb with hb | hb;exact .inl hb.2;exact .inr (by omega)) (t89.cells (K:=fun b=>b<gd∨w4.heap.size≤b) fun b hb e=>by omega)
 have hBd9:=hB8.turned ht9 (show ¬gd=gd+1 by omega)
 have hR9:fM (fun b=>gd+1<b) w9 gr c m [] ⟨4,[],0,0⟩ 0:=(hR.step hbx).turnedK t89 (fun b hb e=>by have:=hof b hb;omega) (fun b hb _=>⟨by omega,hb⟩)
 have hbw9:Below w.heap.size w w9:=aA.upon (aA.upon F.below ht8 hgw (zic _)) ht9 (by omega) (zic _)
 have hs49:w4.heap.size≤w9.heap.size:=zit hbx.size t89.size;clear hco HK E F hb0 hb5 hbx6 hb7 hbx hz7 hh7 ht8 ht9 hB8 t89 hDn hSn hs8 hs9 hn5 h15 hs6;try clear hDn hSn
 try clear hDn hSn
 generalize c24 (nA 7 1 3)=cr at hI hOn hCt hVr hz9 hh9 hBd9 ⊢;obtain ⟨d1,h1,e1⟩:=cr;dsimp only at hI hOn hCt hVr hz9 hh9 hBd9 ⊢;have hok:okD d1:=hI.okd;have hone:=hOn;have hrd:=zh9 hI (a:=7) (m:=1) (by omega) (by omega) (by omega)
 have hvs:∀ e∈h1.m,e.ver≤9223372036854775807:=fun e he=>by have:=hI.oldE e he;omega
 have hft:=hI.fit;have hch:=hI.chain;have hB3:blockB d1.z h1.m 7=B3:=by rw [hCt 7 (by decide)];rfl
 clear hI hOn hCt hVr;have hq1:∀ k t,jU d1.z h1 k t 7 1=((blkC k 7 1 B3).1,t,(blkC k 7 1 B3).2):=fun k t=>by
  unfold jU;rw [hrd,zij rfl];exact (lJ (lba:=7) (n:=1) hch ⟨by omega,by omega,by omega,by omega⟩ k t).trans (zcD hone hB3 k t)
 go_upto_region 6 with fail;have hof1:∀ b,lW gr c m [] b→gd+1<b∧b<w4.heap.size:=fun b hb=>⟨by have:=hof b hb;omega,hRlt hb⟩
 have hrr:=oX hR9 (fun b hb=>by have:=hof1 gr (.inl rfl);omega) d1 A7 c7 h1 (.agg c7h) 7 1 _ _ hz9 hh9 (fun b hb h9=>by have:=hof1 b h9;omega) (fun b hb h9=>by have:=hof1 b h9;omega) hok hch hft hvs ⟨by decide,by decide⟩ ⟨by decide,by decide⟩ ⟨by decide,by decide⟩ (by decide)
 rw [hrd,hq1,zhC] at hrr;dsimp only at hrr;obtain ⟨q0,f0⟩:=hBd9.rules;have t0:=hBd9.lt;have hBh9:=hB9;go_wp2_with (refine eG hBh9 hn7 rfl rfl rfl ?_);refine hrr.mono ?_;rintro e wa ⟨va,rfl,hva,⟨ns1,hR1,tR1,sR1⟩⟩;have hsa:=tR1.size;have hz1:=hz9.zlt.turned tR1 (fun b hb h9=>by have:=hof1 b h9;have:=hb.1;omega)
 have hh1:=aY.keep (aY.lt hh9) (tR1.cells (K:=fun b=>(b<gd∨w4.heap.size≤b)∧b<w9.heap.size) fun b hb h9=>by have:=hof1 b h9;have:=hb.1;omega)
 have hKn:∀ b,(b<gd∨w4.heap.size≤b)∧b<w9.heap.size→¬lW gr c m ns1 b:=fun b hb=>sQ sR1 (fun h9=>by have:=hof1 b h9;have:=hb.1;omega) hb.2
 have hBd1:=hBd9.turned tR1 (fun h9=>by have:=hof1 _ h9;omega)
 have hBh1:=hBh9.turned tR1 (fun h9=>by have:=hof1 _ h9;omega)
 clear hrr q0 f0 t0 hz9 hh9 hBd9 hBh9 hB9;have hrr:=oX hR1 (fun b hb=>by have:=hof1 gr (.inl rfl);omega) d1 A7 c7 h1 (.agg c7h) 7 1 _ _ hz1 hh1 hKn hKn hok hch hft hvs ⟨by decide,by decide⟩ ⟨by decide,by decide⟩ ⟨by decide,by decide⟩ (by decide)
 rw [hrd,hq1,zhl] at hrr;dsimp only at hrr;obtain ⟨q0,f0⟩:=hBd1.rules;have t0:=hBd1.lt;go_wp2_with (refine eG hBh1 hn7 rfl rfl rfl ?_);refine hrr.mono ?_;rintro e wb ⟨vb,rfl,hvb,⟨ns2,hR2,tR2,sR2⟩⟩;have hva2:=hR1.bytes hva tR2;obtain ⟨ns3,_,tR3,_⟩:=bL.on tR1 sR1 ⟨ns2,hR2,tR2,sR2⟩;clear hrr q0 f0 t0 hz1 hh1 hBd1 hBh1 hKn hva;obtain ⟨q0,f0⟩:=hR2.1.rules;have t0:=hR2.1.lt;have hht:∀ W,fM (fun b=>gd+1<b) W gr c m ns2 ⟨4,[⟨7,1,B3⟩],1,1⟩ 0→Calls Tryz.prog 13 #[.pointer (some ⟨c,0,none⟩)] W fun r' w'=>r'=.returned (.tuple #[.int .i64 1,.int .i64 1])∧Below W.heap.size W w':=fun W hW=>by
  obtain ⟨_,dt,ah,af,hca,_⟩:=hW;exact tN hca
 go_wp2_with fail;refine (hht _ hR2).mono ?_;rintro e wc ⟨rfl,hbc⟩;have hbw:Below w.heap.size w wb:=hbw9.trans (tR3.below (fun k hk=>by have:=hof k hk;omega) hbw9.size)
 have hva3:=hva2.step hbc;have hvb3:=hvb.step hbc;replace hbw:=hbw.trans (hbc.mono hbw.size);obtain ⟨Aa,ka,rfl,-⟩:=aK hva3;obtain ⟨Ab,kb,rfl,-⟩:=aK hvb3;rw [show B3.length=16 from rfl] at hva3 hvb3 ⊢;clear q0 f0 t0 hht hva2 hvb hbc hR1 hR2 tR1 tR2 sR1 sR2 hR hR9;go_upto_region 9 with fail;have HK:Hid (∀ W,Below wc.heap.size wc W→(convert 31 9 (.slice Aa 16 ka)).run Tryz.prog W=.ok (.string ⟨B3.toArray⟩) W∧(convert 31 9 (.slice Ab 16 kb)).run Tryz.prog W=.ok (.string ⟨B3.toArray⟩) W):=zia fun W hb=>
  ⟨cL (P:=Tryz.prog) (cap:=ka) (n:=16) (l:=B3) W 31 9 5 Tryz.underlying31 Tryz.underlying5 Tryz.underlying9 rfl (IsB.open_ (hva3.step hb)).2.1,
  cL (P:=Tryz.prog) (cap:=kb) (n:=16) (l:=B3) W 31 9 5 Tryz.underlying31 Tryz.underlying5 Tryz.underlying9 rfl (IsB.open_ (hvb3.step hb)).2.1⟩
 have hb0:Below wc.heap.size wc wc.drew:=(zif _ _).drew;refine wp_region_held_drew (S:=fun W=>(convert 31 9 (.slice Aa 16 ka)).run Tryz.prog W=.ok (.string ⟨B3.toArray⟩) W∧(convert 31 9 (.slice Ab 16 kb)).run Tryz.prog W=.ok (.string ⟨B3.toArray⟩) W) (by kernel_rfl) (HK.out _ hb0) (fun hHeld=>?_)
 have hbx:=hb0;generalize wc.drew=wx at hbx hHeld ⊢;refine wT 0 56 ?_;refine wT 1 57 ?_;refine wT 2 58 ?_;refine wT 3 59 ?_;refine wT 4 60 ?_;refine wT 5 61 ?_;refine wT 6 62 ?_;refine wT 7 63 ?_;refine wT 8 64 ?_;refine wT 9 65 ?_;refine wT 10 66 ?_;refine wT 11 67 ?_;refine wT 12 68 ?_;refine wR 13 69 (fun K hK=>?_)
 go_simp;refine (hfi _).mono ?_;rintro e wx ⟨A24,c24,rfl,own24,hb24⟩;have hB24:IsB wx (fun _=>True) (.slice A24 16 c24) B3:=(IsB.of_own (l:=B3) own24 (by decide)).more fun _ _=>trivial
 replace hbx:=hbx.trans (hb24.mono hbx.size);clear own24 hb24;go_wp2_with fail;refine hK.out _ _ (HK.out _ hbx) (fun hHeld=>?_)
 clear hK K;try simp only [pu,List.set]
 refine wR 14 70 (fun K hK=>?_)
 have hs3:=cL (P:=Tryz.prog) (cap:=c24) (n:=16) (l:=B3) wx 31 9 5 Tryz.underlying31 Tryz.underlying5 Tryz.underlying9 rfl (IsB.open_ hB24).2.1;go_simp;refine hK.out _ _ (HK.out _ hbx) (fun hHeld=>?_)
 clear hK K;refine wT 15 71 ?_;refine wT 16 72 ?_;refine wT 17 73 ?_;refine wT 18 74 ?_;refine wT 19 75 ?_;refine wT 20 76 ?_;refine wT 21 77 ?_;refine wT 22 78 ?_;refine wT 23 79 ?_;refine wT 24 80 ?_;refine wT 25 81 ?_;refine wT 26 82 ?_;refine wT 27 83 ?_;refine wT 28 84 ?_;refine wT 29 85 ?_;refine wT 30 86 ?_;refine wT 31 87 ?_;refine wT 32 0 ?_;refine wpAnyH_done (by kernel_rfl) ?_ _
 go_wp2;go_ret;refine ⟨?_,hbw.trans (hbx.mono hbw.size)⟩;simp [go_sem]
