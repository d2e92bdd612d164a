/- A part of the proof. -/
import Derived.Test.YtcapmeefiglfjaaGreatStep24
import Derived.Test.YtcapmeefiglfjaaGreatRef24
set_option linter.unusedSimpArgs false
set_option maxHeartbeats 16000000
set_option maxRecDepth 100000
namespace Go.Proofs.YtcapmeefiglfjaaGreat
open Go.RowKit
theorem iK {gr c m N b:Nat} {ns ns':List Nat} (s:∀ g∈ns',g∈ns∨N≤g) (h:lW gr c m ns' b):lW gr c m ns b∨N≤b:=by
 rcases h with h | h | h
 · exact .inl (.inl h)
 · exact .inl (.inr (.inl h))
 · rcases zim.1 h with h | h
   · exact .inl (.inr (.inr (by rw [h];exact zih ..)))
   · rcases s b h with h | h
     · exact .inl (.inr (.inr (zii _ h)))
     · exact .inr h
structure SD (w:World) (gd:Nat) (wr:World) (d:Zd) (A:Option Addr) (c:Nat) (h:Ho) (cs:Array Value) (X:Nat→Prop):Prop where
 below:Below w.heap.size w wr
 g0:w.heap.size≤gd
 dev:Blk wr gd 26 (zdC d A c)
 host:Blk wr (gd+1) 37 cs
 n:cs.size=15
 one:cs.toList.all (·.oneCell')=true
 xl:∀ b,X b→gd+1<b∧b<wr.heap.size
 at_:∃ K:Nat→Prop,IsL Rp.zone wr K (.slice A d.z.length c) d.z∧aY wr K (.agg cs) h∧∀ b,K b→b<wr.heap.size∧b≠gd∧b≠gd+1∧¬X b
section
variable {w wr wr' wy wz:World} {gd:Nat} {d d':Zd} {A A':Option Addr} {c c':Nat} {h h':Ho} {cs cs':Array Value} {X X':Nat→Prop}
theorem SD.step (q:SD w gd wr d A c h cs X) (hb:Below wr.heap.size wr wr'):SD w gd wr' d A c h cs X:=by
 obtain ⟨K,h1,h2,h3⟩:=q.at_;exact ⟨q.below.trans (hb.mono q.below.size),q.g0,q.dev.step hb,q.host.step hb,q.n,q.one,fun b hb'=>⟨(q.xl b hb').1,ziE (q.xl b hb').2 hb.size⟩,K,h1.step hb,h2.step hb,fun b hb'=>⟨ziE (h3 b hb').1 hb.size,(h3 b hb').2⟩⟩
theorem SD.read (q:SD w gd wr d A c h cs X) {Y:Nat→Prop} (ht:aA wr wr' Y) (hY:∀ b,Y b→X b) (hX:∀ b,X' b→(X b∨wr.heap.size≤b)∧b<wr'.heap.size):SD w gd wr' d A c h cs X':=by
 obtain ⟨K,h1,h2,h3⟩:=q.at_;have hl:=q.host.lt;have hK:∀ b,K b→¬Y b:=fun b hb hy=>(h3 b hb).2.2.2 (hY b hy)
 refine ⟨q.below.trans (ht.below (fun k hk=>by have:=(q.xl k (hY k hk)).1;have:=q.g0;omega) q.below.size),q.g0,q.dev.turned ht (fun hy=>by have:=(q.xl _ (hY _ hy)).1;omega),q.host.turned ht (fun hy=>by have:=(q.xl _ (hY _ hy)).1;omega),q.n,q.one,fun b hb=>⟨?_,(hX b hb).2⟩,K,h1.turned ht hK,aY.keep h2 (ht.cells hK),fun b hb=>⟨ziE (h3 b hb).1 ht.size,(h3 b hb).2.1,(h3 b hb).2.2.1,fun hx=>?_⟩⟩
 · rcases (hX b hb).1 with h9 | h9
   · exact (q.xl b h9).1
   · omega
 · rcases (hX b hx).1 with h9 | h9
   · exact (h3 b hb).2.2.2 h9
   · have:=(h3 b hb).1;omega
theorem SD.move (q:SD w gd wr d A c h cs X) {K:Nat→Prop} (hz:IsL Rp.zone wr K (.slice A' d'.z.length c') d'.z) (hh:aY wr K (.agg cs') h') (hK:∀ b,K b→b≠gd∧b≠gd+1∧¬X b) (hn:cs'.size=15) (h1:cs'.toList.all (·.oneCell')=true)
 (ht:aA wr wy (fun b=>b=gd)) (hB:Blk wy gd 26 (zdC d' A' c')) (ht':aA wy wz (fun b=>b=gd+1)) (hB':Blk wz (gd+1) 37 cs'):SD w gd wz d' A' c' h' cs' X:=by
 have t2:aA wr wz (fun b=>b=gd∨b=gd+1):=(ht.mono fun b hb=>.inl hb).trans (ht'.mono fun b hb=>.inr hb)
 have hf:∀ b,K b∧b<wr.heap.size→¬(b=gd∨b=gd+1):=fun b hb e=>by have:=hK b hb.1;omega
 exact ⟨aA.upon (aA.upon q.below ht q.g0 (zic _)) ht' (by have:=q.g0;omega) (zic _),q.g0,hB.turned ht' (by omega),hB',hn,h1,fun b hb=>⟨(q.xl b hb).1,ziE (q.xl b hb).2 t2.size⟩,_,hz.zlt.turned t2 hf,aY.keep (aY.lt hh) (t2.cells hf),fun b hb=>⟨ziE hb.2 t2.size,hK b hb.1⟩⟩
end
structure Pl (a b:Nat) (d:Zd) (h:Ho) (k:Ca) (t:Int):Prop where
 j:J24 d h
 ver:1≤h.ver∧h.ver≤1+a
 seq:h.seq≤61*a
 fr:zhA d.z h.m h.ver k
 hit:0≤k.hit∧k.hit≤256*b
 miss:0≤k.miss∧k.miss≤256*b
 trims:0≤t∧t≤256*b
 len:k.l.length≤256*b
theorem zgH {Kd:Nat→Prop} {w:World} {gr c m:Nat} {ns:List Nat} {k:Ca} {t:Int} (h:fM Kd w gr c m ns k t) :
 Calls Tryz.prog 13 #[.pointer (some ⟨c,0,none⟩)] w fun r' w'=>r'=.returned (.tuple #[.int .i64 k.hit,.int .i64 k.miss])∧Below w.heap.size w w':=by
 obtain ⟨_,dt,ah,af,hca,-⟩:=h;exact tN hca
structure Pj (a:Nat) (d:Zd) (h:Ho):Prop where
 j:J24 d h
 ver:1≤h.ver∧h.ver≤1+a
 seq:h.seq≤61*a
theorem Pj.step {a:Nat} {d d':Zd} {h h':Ho} (p:Pj a d h) (s:tU d h d' h'):Pj (a+1) d' h':=⟨s.j,by have:=s.on.1;have:=s.ver;have:=p.ver;omega,by have:=s.seq;have:=p.seq;omega⟩
theorem Pj.vers {a:Nat} {d:Zd} {h:Ho} (p:Pj a d h) (ha:a≤1000):∀ e∈h.m,e.ver≤9223372036854775807:=fun e he=>by have:=p.j.oldE e he;have:=p.ver;omega
abbrev zhV (gq gk b:Nat):Prop:=b=gq∨b=gk
abbrev zhi (gr c m:Nat) (ns:List Nat) (gq gk b:Nat):Prop:=lW gr c m ns b∨zhV gq gk b
abbrev Xr (gd gr c m:Nat) (ns:List Nat) (gq b:Nat):Prop:=(b=gd∨b=gd+1)∨lW gr c m ns b∨b=gq
abbrev Kr (gd gq gk b:Nat):Prop:=gd+1<b∧b≠gq∧b≠gk
structure S24 (w:World) (gd:Nat) (wr:World) (d:Zd) (A:Option Addr) (c':Nat) (h:Ho) (cs:Array Value) (gr c m gq gk:Nat) (ns:List Nat) (k:Ca) (t:Int) (kq:Ca) (tq:Int):Prop where
 sd:SD w gd wr d A c' h cs (zhi gr c m ns gq gk)
 rd:fM (Kr gd gq gk) wr gr c m ns k t
 rq:Blk wr gq 51 #[.pointer (some ⟨gk,0,none⟩),.int .i64 tq]
 rc:oK (Xr gd gr c m ns gq) wr gk kq
 ne:gq≠gk∧¬lW gr c m ns gq∧¬lW gr c m ns gk
section
variable {w wr wr' wy wz:World} {gd:Nat} {d d':Zd} {A A':Option Addr} {cA cA':Nat} {h h':Ho} {cs cs':Array Value} {gr c m gq gk:Nat} {ns ns':List Nat} {k k' kq kq':Ca} {t t' tq tq':Int}
theorem S24.bnd (q:S24 w gd wr d A cA h cs gr c m gq gk ns k t kq tq):gd+1<gq∧gd+1<gk∧gq<wr.heap.size∧gk<wr.heap.size:=⟨(q.sd.xl gq (.inr (.inl rfl))).1,(q.sd.xl gk (.inr (.inr rfl))).1,(q.sd.xl gq (.inr (.inl rfl))).2,(q.sd.xl gk (.inr (.inr rfl))).2⟩
theorem S24.step (q:S24 w gd wr d A cA h cs gr c m gq gk ns k t kq tq) (hb:Below wr.heap.size wr wr'):S24 w gd wr' d A cA h cs gr c m gq gk ns k t kq tq:=⟨q.sd.step hb,q.rd.step hb,q.rq.step hb,q.rc.step hb,q.ne⟩
theorem S24.move (q:S24 w gd wr d A cA h cs gr c m gq gk ns k t kq tq) {K:Nat→Prop} (hz:IsL Rp.zone wr K (.slice A' d'.z.length cA') d'.z) (hh:aY wr K (.agg cs') h') (hK:∀ b,K b→b≠gd∧b≠gd+1∧¬zhi gr c m ns gq gk b) (hn:cs'.size=15) (h1:cs'.toList.all (·.oneCell')=true)
 (ht:aA wr wy (fun b=>b=gd)) (hB:Blk wy gd 26 (zdC d' A' cA')) (ht':aA wy wz (fun b=>b=gd+1)) (hB':Blk wz (gd+1) 37 cs'):S24 w gd wz d' A' cA' h' cs' gr c m gq gk ns k t kq tq:=by
 have t2:aA wr wz (fun b=>b=gd∨b=gd+1):=(ht.mono fun b hb=>.inl hb).trans (ht'.mono fun b hb=>.inr hb)
 have hg:=q.bnd;exact ⟨q.sd.move hz hh hK hn h1 ht hB ht' hB',q.rd.turnedK t2 (fun b hb e=>by have:=(q.sd.xl b (.inl hb)).1;omega) (fun b hb _=>⟨by have:=hb.1;omega,hb⟩),q.rq.turned t2 (by omega),q.rc.turned t2 (fun b hb=>.inl hb) (by omega) (fun b hb=>.inl hb),q.ne⟩
theorem S24.reads (q:S24 w gd wr d A cA h cs gr c m gq gk ns k t kq tq) (ht:aA wr wr' (lW gr c m ns)) (hr:fM (Kr gd gq gk) wr' gr c m ns' k' t') (hs:∀ g∈ns',g∈ns∨wr.heap.size≤g):S24 w gd wr' d A cA h cs gr c m gq gk ns' k' t' kq tq:=by
 have hg:=q.bnd;have hz:=ht.size;refine ⟨q.sd.read ht (fun b hb=>.inl hb) fun b hb=>?_,hr,q.rq.turned ht q.ne.2.1,q.rc.turned ht (fun b hb=>.inr (.inl hb)) q.ne.2.2 fun b hb=>?_,q.ne.1,fun h=>(iK hs h).elim q.ne.2.1 (by omega),fun h=>(iK hs h).elim q.ne.2.2 (by omega)⟩
 · rcases hb with h9 | h9
   · exact ⟨(iK hs h9).imp .inl id,hr.lt h9⟩
   · refine ⟨.inl (.inr h9),?_⟩
     rcases h9 with h9 | h9 <;> omega
 · rcases hb with h9 | h9 | h9
   · exact .inl (.inl h9)
   · exact (iK hs h9).imp (fun h=>.inr (.inl h)) id
   · exact .inl (.inr (.inr h9))
theorem S24.refs (q:S24 w gd wr d A cA h cs gr c m gq gk ns k t kq tq) (ht:aA wr wr' (fun b=>b=gq∨b=gk)) (hq:Blk wr' gq 51 #[.pointer (some ⟨gk,0,none⟩),.int .i64 tq']) (hc:oK (Xr gd gr c m ns gq) wr' gk kq'):S24 w gd wr' d A cA h cs gr c m gq gk ns k t kq' tq':=by
 have hz:=ht.size;refine ⟨q.sd.read ht (fun b hb=>.inr hb) fun b hb=>⟨.inl hb,ziE (q.sd.xl b hb).2 hz⟩,q.rd.turnedK ht (fun b hb e=>?_) fun b hb _=>⟨fun e=>?_,hb⟩,hq,hc,q.ne⟩
 · rcases e with rfl | rfl
   · exact q.ne.2.1 hb
   · exact q.ne.2.2 hb
 · rcases e with e | e
   · exact hb.2.1 e
   · exact hb.2.2 e
theorem S24.xlt (q:S24 w gd wr d A cA h cs gr c m gq gk ns k t kq tq):∀ b,Xr gd gr c m ns gq b→b<wr.heap.size:=fun b hb=>by
 have:=q.sd.host.lt;have:=q.bnd;rcases hb with h9 | h9 | h9
 · omega
 · exact q.rd.lt h9
 · omega
end
theorem pF (room:Int) (l:List Oq) (v:Value) (K:Nat→Prop) (w:World) (hv:IsL Rp.oq w K v l) :
 Calls Tryz.prog 3 #[.int .i64 room,v] w fun e w'=>e=.returned (.bool true)∧Below w.heap.size w w':=by
 obtain ⟨Al,cl,rfl,-⟩:=hv.form;obtain ⟨n,hn⟩:∃ n,l.length=n:=⟨_,rfl⟩;have hnl:=hv.len;rw [hn] at hv hnl ⊢;have HN:=zia hn;clear hn;have hbe:=fun W=>oS W
 have hnw:=fun (Kd:Nat→Prop) W=>zaC (Kd:=Kd) room W
 have hnq:=fun W=>zds room W
 obtain ⟨most,hmo⟩:∃ x,max room 0=x:=⟨_,rfl⟩;have hmost:0≤most:=by rw [←hmo];omega
 simp only [hmo] at hnw hnq;clear hmo;go_enter Tryz.func3,Tryz.ntmps3
 go_wp2_with fail;refine (zaM _).mono ?_;rintro e w1 ⟨rfl,hb1⟩;by_cases h50:(n:Int) > 50
 case pos=>
  go_wp2_with fail;go_ret;exact ⟨rfl,hb1⟩
 go_wp2_with fail;refine (hbe _).mono ?_;rintro e w2 ⟨dv,vh,rfl,⟨⟨A,cA,rfl,hz⟩,hho⟩,hb2⟩;obtain ⟨c5,rfl,hn5,h15,-⟩:=eJ hho;clear hbe;go_upto_region 5 with (refine iI rfl rfl (by first | rfl | simp [Act.eval,zid]) rfl rfl hn5 h15 ?_)
 have E:=(((Kn.start w).step (hb1.trans (hb2.mono hb1.size))).give aB.list hz.zlt).give aB.ho hho.lt |>.push 26 (zdC (d24 4) A cA) |>.push 37 c5
 rw [zid] at E;obtain ⟨gd,hgd⟩:∃ g,w2.heap.size=g:=⟨_,rfl⟩;have hgw:w.heap.size≤gd:=by rw [←hgd];exact zit hb1.size hb2.size
 generalize (w2.alloc (.cells (zdC (d24 4) A cA) 26)).alloc (.cells c5 37)=w3 at E ⊢;rw [hgd] at E ⊢;have S3:SD w gd w3 (d24 4) A cA (h24 4) c5 (fun _=>False):=⟨E.below,hgw,E.at_ m1,E.at_ m0,hn5,h15,fun _ h=>h.elim,_,E.get m1,E.get m0,fun b hb=>by have:=hb.2;have:=(E.at_ m0).lt;exact ⟨by omega,by omega,by omega,fun h=>h⟩⟩
 clear E hz hho hb1 hb2 hgd hgw hn5 h15;have hs3:=S3.host.lt;go_wp2_with fail;refine (hnw (fun b=>gd+1<b) _).mono ?_
 rintro e w4 ⟨gr,c,m,rfl,R4,hof,hb4⟩;have S4:SD w gd w4 (d24 4) A cA (h24 4) c5 (lW gr c m []):=S3.read (Y:=fun _=>False) (aA.of hb4) (fun _ h=>h) fun b hb=>⟨.inr (hof b hb),R4.lt hb⟩
 clear hnw hb4 S3;go_wp2_with fail;refine (hnq _).mono ?_;rintro e w6 ⟨gk,rfl,hgk4,hq6,hc6,hb6⟩;have hgd4:=S4.host.lt;have hlt4:=fun {b}=>R4.lt (b:=b)
 have hgk6:=hq6.lt;have T4:S24 w gd w6 (d24 4) A cA (h24 4) c5 gr c m (gk+1) gk [] ⟨most,[],0,0⟩ 0 ⟨most,[],0,0⟩ 0:=by
  refine ⟨S4.read (Y:=fun _=>False) (aA.of hb6) (fun _ h=>h.elim) fun b hb=>?_,(R4.moreK fun b hb hl=>⟨hb,by omega,by omega⟩).step hb6,hq6,hc6 _,by omega,fun h=>by have:=hlt4 h;omega,fun h=>by have:=hlt4 h;omega⟩
  · rcases hb with h9 | h9 | h9
    · exact ⟨.inl h9,ziE (hlt4 h9) hb6.size⟩
    · exact ⟨.inr (by omega),by omega⟩
    · exact ⟨.inr (by omega),by omega⟩
 clear S4 R4 hof hs3 hgk4 hq6 hc6 hb6 hgd4 hlt4 hgk6 hnq;obtain ⟨gq,hgq⟩:∃ gq,gk+1=gq:=⟨_,rfl⟩;rw [hgq] at T4 ⊢;clear hgq;go_upto_region 10 with fail;go_loopw [11,12,13,14,15,16,17,18,37] (fun x11 x12 x13 x14 x15 x16 x17 x18 x37 wr=>∃ (i:Nat) (d:Zd) (A:Option Addr) (cA:Nat) (h:Ho) (cs:Array Value) (k:Ca) (t:Int) (ns:List Nat),x37=.int .i64 i∧i≤n∧S24 w gd wr d A cA h cs gr c m gq gk ns k t k t∧Hid (Pj i d h)∧Hid (fJ (256*i) k t)∧(∃ y,x11=y)∧(∃ y,x12=y)∧(∃ y,x13=y)∧(∃ y,x14=y)∧(∃ y,x15=y)∧(∃ y,x16=y)∧(∃ y,x17=y)∧∃ y,x18=y) (fun _ _ _ _ _ _ _ _ x37 _=>n-(intOf x37).toNat)
 case atStart=>exact ⟨0,_,_,_,_,_,_,_,_,rfl,by omega,T4,zia ⟨kW,by decide,by decide⟩,zia (fJ.start hmost),⟨_,rfl⟩,⟨_,rfl⟩,⟨_,rfl⟩,⟨_,rfl⟩,⟨_,rfl⟩,⟨_,rfl⟩,⟨_,rfl⟩,_,rfl⟩
 case round=>
  clear T4;obtain ⟨i,d,A,cA,h,cs,k,t,ns,rfl,hi,S,HP,HG,⟨y1,rfl⟩,⟨y2,rfl⟩,⟨y3,rfl⟩,⟨y4,rfl⟩,⟨y5,rfl⟩,⟨y6,rfl⟩,⟨y7,rfl⟩,y8,rfl⟩:=hrel;by_cases hin:i<n
  case neg=>
   obtain rfl:i=n:=by omega
   go_wp2_with fail;go_ret;exact ⟨rfl,S.sd.below⟩
  have i1:(i:Int)<(n:Int):=by omega
  have i0:(0:Int)≤(i:Int):=by omega
  have hlt:i<l.length:=by rw [HN.out];exact hin
  obtain ⟨ad,rfl,-,c0,c1,c2,r0,r1,r2⟩:=zhI (hv.step S.sd.below) (zib hlt);generalize l[i]=o at c0 c1 c2 r0 r1 r2;clear hlt;go_upto_region 12 with fail;have hba:Below wr.heap.size wr (wr.alloc (.cells #[.int .i64 o.op,.int .i64 o.lba,.int .i64 o.n] 45)):=zBA;have B0:=Blk.new wr 45 #[.int .i64 o.op,.int .i64 o.lba,.int .i64 o.n] rfl;have hg0:=S.sd.host.lt;have hng:¬zhi gr c m ns gq gk wr.heap.size:=fun h=>zkt _ (S.sd.xl _ h).2
  replace S:=S.step hba;generalize wr.alloc (.cells #[.int .i64 o.op,.int .i64 o.lba,.int .i64 o.n] 45)=w5 at B0 S ⊢;generalize wr.heap.size=g0 at B0 hg0 hng ⊢;clear hba c0 c1 c2;obtain ⟨K5,hz5,hh5,hK5⟩:=S.sd.at_;have hst:=zbr HP.out.j (by have:=HP.out.ver;omega) (by have:=HP.out.seq;omega) o i (by omega) A cA (.agg cs) K5 w5 hz5 hh5 (fun b hb=>(hK5 b hb).1)
  have hxl:=S.sd.xl;obtain ⟨q0,f0⟩:=S.sd.dev.rules;have t0:=S.sd.dev.lt;obtain ⟨q1,f1⟩:=B0.rules;have t1:=B0.lt;go_wp2_with (refine eG S.sd.host S.sd.n rfl rfl rfl ?_);refine hst.mono ?_;rintro e w6 ⟨dv,vh,d',h',rfl,⟨⟨A7,c7,rfl,hz7⟩,hh7⟩,hs,hb6⟩;obtain ⟨cs7,rfl,hn7,h17,-⟩:=eJ hh7;have hS6:=S.step hb6;have B6:=B0.step hb6;have p0:=hS6.sd.dev;have p1:=hS6.sd.host;have HP6:=zia (HP.out.step hs);clear hst q0 f0 q1 f1 B0 HP hb6 hs hz5 hh5;go_upto_region 13 with (first | (refine eU p0 rfl rfl rfl rfl rfl (by rfl) (by rfl) ?_;intro w8 hs8 ht8 hB8) | (refine jT (p1.turned ht8 (by omega)) hS6.sd.n rfl rfl rfl rfl hn7 h17 ?_;intro w9 hs9 ht9 hB9))
  have t89:aA w6 w9 (fun b=>b=gd∨b=gd+1):=(ht8.mono fun b hb=>.inl hb).trans (ht9.mono fun b hb=>.inr hb)
  have S9:=hS6.move hz7 hh7 (fun b hb=>by rcases hb with hb | hb;exact (hK5 b hb).2;exact ⟨by omega,by omega,fun e=>by have:=(hxl b e).2;omega⟩) hn7 h17 ht8 hB8 ht9 hB9
  have B9:=B6.turned t89 (by omega)
  clear S hS6 B6 p0 p1 hz7 hh7 hn7 h17 ht8 hB8 ht9 hB9 t89 hs8 hs9 hK5 t0 t1 hxl;simp only [Act.put];go_cut [75] (fun x75 wx=>x75=.bool false∧∃ (k':Ca) (ns':List Nat),S24 w gd wx d' A7 c7 h' cs7 gr c m gq gk ns' k' t k' t∧Hid (Pj (i+1) d' h')∧Hid (fJ (256*i) k' t)∧Blk wx g0 45 #[.int .i64 o.op,.int .i64 o.lba,.int .i64 o.n]∧¬zhi gr c m ns' gq gk g0)
  case first=>
   obtain ⟨q1,f1⟩:=B9.rules;have t1:=B9.lt;have hb0:Below w9.heap.size w9 w9.drew:=(zif _ _).drew;replace S9:=S9.step hb0;replace B9:=B9.step hb0;refine wp_region_held_drew (S:=fun W=>(∀ q,W.cell? ⟨g0,q,none⟩=(#[.int .i64 o.op,.int .i64 o.lba,.int .i64 o.n]:Array Value)[q]?)∧∀ q,W.cell? ⟨gq,q,none⟩=(#[.pointer (some ⟨gk,0,none⟩),.int .i64 t]:Array Value)[q]?) (by kernel_rfl) ⟨B9.rules.1,S9.rq.rules.1⟩ (fun hHeld=>?_)
   clear q1 f1 t1 hb0;generalize w9.drew=wx at S9 B9 hHeld ⊢;have hgl:=B9.lt;by_cases h3:o.op=3
   case neg=>
    have h3':(o.op == 3)=false:=by simpa using h3
    refine wT 0 50 ?_;refine wT 1 51 ?_;refine wT 2 52 ?_;refine wT 3 53 ?_;refine wU 4 54 ?_;refine wU 5 55 ?_;refine wU 6 56 ?_;refine wT 7 57 ?_;refine wT 8 58 ?_;refine wU 9 59 ?_;refine wU 10 60 ?_;refine wU 11 61 ?_;refine wU 12 62 ?_;refine wU 13 63 ?_;refine wU 14 64 ?_;refine wU 15 65 ?_;refine wU 16 66 ?_;refine wU 17 67 ?_;refine wU 18 68 ?_;refine wU 19 69 ?_;refine wU 20 70 ?_;refine wU 21 71 ?_;refine wU 22 72 ?_;refine wU 23 73 ?_;refine wU 24 74 ?_;refine wT 25 75 ?_;refine wpAnyH_done (by kernel_rfl) ?_ _
    go_wp2_with fail;go_meet;exact ⟨rfl,_,_,S9,HP6,HG,B9,hng⟩
   case pos=>
    have h3':(o.op == 3)=true:=by simpa using h3
    by_cases h4:0≤o.lba
    case neg=>
     have h4':decide (0≤o.lba)=false:=ziv h4;refine wT 0 50 ?_;refine wT 1 51 ?_;refine wT 2 52 ?_;refine wT 3 53 ?_;refine wT 4 54 ?_;refine wT 5 55 ?_;refine wT 6 56 ?_;refine wT 7 57 ?_;refine wT 8 58 ?_;refine wU 9 59 ?_;refine wU 10 60 ?_;refine wU 11 61 ?_;refine wU 12 62 ?_;refine wU 13 63 ?_;refine wU 14 64 ?_;refine wU 15 65 ?_;refine wU 16 66 ?_;refine wU 17 67 ?_;refine wU 18 68 ?_;refine wU 19 69 ?_;refine wU 20 70 ?_;refine wU 21 71 ?_;refine wU 22 72 ?_;refine wU 23 73 ?_;refine wU 24 74 ?_;refine wT 25 75 ?_;refine wpAnyH_done (by kernel_rfl) ?_ _
     go_wp2_with fail;go_meet;exact ⟨rfl,_,_,S9,HP6,HG,B9,hng⟩
    case pos=>
     have h4':decide (0≤o.lba)=true:=ziu h4;refine wT 0 50 ?_;refine wT 1 51 ?_;refine wT 2 52 ?_;refine wT 3 53 ?_;refine wT 4 54 ?_;refine wT 5 55 ?_;refine wT 6 56 ?_;refine wT 7 57 ?_;refine wT 8 58 ?_;refine wT 9 59 ?_;refine wT 10 60 ?_;refine wT 11 61 ?_;refine wT 12 62 ?_;refine wT 13 63 ?_;refine wT 15 65 ?_;refine wT 16 66 ?_;refine wT 17 67 ?_;refine wT 18 68 ?_;refine wT 19 69 ?_;refine wT 20 70 ?_;refine wT 21 71 ?_;refine wT 22 72 ?_;refine wR 14 64 (fun K hK=>?_)
     go_simp;refine (yO S9.rd (by have:=HG.out.len;omega) o.lba o.n ⟨h4,r1.2⟩).mono ?_
     rintro e wf ⟨rfl,ns',R',tf,sf⟩;have Sf:=S9.reads tf R' sf;have Bf:=B9.turned tf (fun h=>hng (.inl h))
     go_wp2_with fail;refine hK.out _ _ ⟨Bf.rules.1,Sf.rq.rules.1⟩ (fun hHeld=>?_)
     clear hK K;try simp only [pu,List.set]
     refine wR 23 73 (fun K hK=>?_)
     go_simp;refine (zcz Sf.rc Sf.xlt o.lba o.n h4 (fun y hy=>⟨(HG.out.ent y hy).1,(HG.out.ent y hy).2.1⟩) (by have:=HG.out.len;omega)).mono ?_
     rintro e wz ⟨rfl,hmd⟩;have tz:=hmd.2.mono (S':=fun b=>b=gq∨b=gk) fun b hb=>.inr hb
     have Sz:=Sf.refs tz (Sf.rq.turned hmd.2 Sf.ne.1) hmd.1;have hngf:¬zhi gr c m ns' gq gk g0:=fun h=>h.elim (fun h=>(iK sf h).elim (fun h=>hng (.inl h)) (by omega)) (fun h=>hng (.inr h))
     have Bz:=Bf.turned hmd.2 (fun e=>hngf (.inr (.inr e)))
     go_wp2_with fail;refine hK.out _ _ ⟨Bz.rules.1,Sz.rq.rules.1⟩ (fun hHeld=>?_)
     clear hK K;refine wT 24 74 ?_;refine wT 25 75 ?_;refine wpAnyH_done (by kernel_rfl) ?_ _
     go_wp2_with fail;go_meet;exact ⟨by simp,_,_,Sz,HP6,zia (HG.out.drop _ _),Bz,hngf⟩
  case rest=>
  clear S9 B9 HP6 HG hng;obtain ⟨rfl,k1,ns1,S,HP,HG,B,hng⟩:=hcut;obtain ⟨q1,f1⟩:=B.rules;have t1:=B.lt;obtain ⟨q0,f0⟩:=S.sd.dev.rules;have t0:=S.sd.dev.lt;have hgb:=S.bnd;obtain ⟨K0,hz0,hh0,hK0⟩:=S.sd.at_;have hgh:=HG.out.hit;have hgm:=HG.out.miss;have hgg:=HG.out.gone;have hgl:=HG.out.len;have hc1:=oX S.rd (fun b hb=>⟨by omega,by omega,by omega⟩) d' A7 c7 h' (.agg cs7) o.lba o.n K0 K0 hz0 hh0 (fun b hb e=>(hK0 b hb).2.2.2 (.inl e)) (fun b hb e=>(hK0 b hb).2.2.2 (.inl e)) HP.out.j.okd HP.out.j.chain HP.out.j.fit (HP.out.vers (by omega)) (by omega) (by omega) (by omega) (by omega)
  obtain ⟨rt,hrt⟩:∃ rt,jU d'.z h' k1 t o.lba o.n=rt:=⟨_,rfl⟩;have hrq:=fun nsx W hq hc hX K hd hv hK=>zF (X:=Xr gd gr c m nsx gq) (w:=W) (gq:=gq) (gk:=gk) (k:=k1) (t:=t) (i0:=256*i) hq hc (.inr (.inr rfl)) S.ne.1 hX HG.out (by omega) d' A7 c7 h' (.agg cs7) o.lba o.n K hd hv hK HP.out.j.okd HP.out.j.chain HP.out.j.fit (HP.out.vers (by omega))
  rw [hrt] at hc1;simp only [hrt] at hrq;obtain ⟨ra,hra⟩:∃ ra,dQ d'.z h' o.lba o.n=ra:=⟨_,rfl⟩;rw [hra] at hc1;simp only [hra] at hrq;obtain ⟨la,ea⟩:=ra;obtain ⟨k2,t2,lb⟩:=rt;simp only at hc1 hrq;obtain ⟨na,hna⟩:∃ na,lb.length=na:=⟨_,rfl⟩;have HNA:=zia hna;clear hra hrt hna;go_wp2_with (refine eG S.sd.host S.sd.n rfl rfl rfl ?_);refine hc1.mono ?_;rintro e wa ⟨v1,rfl,hva,ns2,R1,tf1,sf1⟩;obtain ⟨A1,c1,rfl,-⟩:=aK hva;have S1:=S.reads tf1 R1 sf1;have B1:=B.turned tf1 (fun h=>hng (.inl h))
  have hsa:=tf1.size;obtain ⟨K1,hz1,hh1,hK1⟩:=S1.sd.at_;have hc2:=hrq ns2 wa S1.rq S1.rc S1.xlt K1 hz1 hh1 (fun b hb=>⟨fun e=>(hK1 b hb).2.2.2 (.inr (.inl e)),fun e=>(hK1 b hb).2.2.2 (.inr (.inr e))⟩)
  clear hgh hgm hgg hgl hz0 hh0 hK0;clear q1 f1 t1 q0 f0 t0 hc1 S B hrq tf1 sf1 R1 hz1 hh1 HG;obtain ⟨q1,f1⟩:=B1.rules;have t1:=B1.lt;obtain ⟨q0,f0⟩:=S1.sd.dev.rules;have t0:=S1.sd.dev.lt;go_wp2_with (refine eG S1.sd.host S1.sd.n rfl rfl rfl ?_);refine hc2.mono ?_;rintro e wb ⟨vb2,rfl,hvb,hq2,hcq2,G2,t12⟩;have S2:=S1.refs t12 hq2 hcq2;have HG2:=zia G2;replace hva:=hva.turned t12 (fun b hb e=>by have h9:wc.heap.size≤b:=hb;omega)
  obtain ⟨A2,c2,rfl,-⟩:=aK hvb;clear q1 f1 t1 q0 f0 t0 hc2 S1 B1 t12 hq2 hcq2 G2 hK1;have hR2:=S2.rd.1;obtain ⟨q0,f0⟩:=hR2.rules;have t0:=hR2.lt;have hhi:=zgH S2.rd;go_wp2_with fail;refine hhi.mono ?_;rintro e wd ⟨rfl,hbd⟩;have S3:=S2.step hbd;replace hva:=hva.step hbd;replace hvb:=hvb.step hbd;clear q0 f0 t0 hR2 hhi S2 hbd;go_upto_region 18 with fail;have hb0:Below wd.heap.size wd wd.drew:=(zif _ _).drew;replace S3:=S3.step hb0;replace hva:=hva.step hb0;replace hvb:=hvb.step hb0;obtain ⟨vL,hcB,-⟩:=S3.rc;have z1:=cL (P:=Tryz.prog) (cap:=c1) (n:=na) (l:=lb) wd.drew 31 9 5 Tryz.underlying31 Tryz.underlying5 Tryz.underlying9 HNA.out (by have:=(IsB.open_ hva).2.1;rwa [HNA.out] at this)
  have z2:=cL (P:=Tryz.prog) (cap:=c2) (n:=na) (l:=lb) wd.drew 31 9 5 Tryz.underlying31 Tryz.underlying5 Tryz.underlying9 HNA.out (by have:=(IsB.open_ hvb).2.1;rwa [HNA.out] at this)
  rw [HNA.out];clear hva hvb;have hS:((convert 31 9 (.slice A1 na c1)).run Tryz.prog wd.drew=.ok (.string ⟨lb.toArray⟩) wd.drew∧(convert 31 9 (.slice A2 na c2)).run Tryz.prog wd.drew=.ok (.string ⟨lb.toArray⟩) wd.drew)∧(∀ q,wd.drew.cell? ⟨gq,q,none⟩=(#[.pointer (some ⟨gk,0,none⟩),.int .i64 t2]:Array Value)[q]?)∧∀ q,wd.drew.cell? ⟨gk,q,none⟩=(rkC k2.most vL k2.hit k2.miss)[q]?:=⟨⟨z1,z2⟩,S3.rq.rules.1,hcB.rules.1⟩;refine wp_region_held_drew (S:=fun W=>((convert 31 9 (.slice A1 na c1)).run Tryz.prog W=.ok (.string ⟨lb.toArray⟩) W∧(convert 31 9 (.slice A2 na c2)).run Tryz.prog W=.ok (.string ⟨lb.toArray⟩) W)∧(∀ q,W.cell? ⟨gq,q,none⟩=(#[.pointer (some ⟨gk,0,none⟩),.int .i64 t2]:Array Value)[q]?)∧∀ q,W.cell? ⟨gk,q,none⟩=(rkC k2.most vL k2.hit k2.miss)[q]?) (by kernel_rfl) hS (fun hHeld=>?_)
  have htr:=zb1 S3.rd;have HS:=zia hS;clear z1 z2 hS hb0 hcB;generalize wd.drew=we at S3 hHeld htr HS ⊢;refine wT 0 106 ?_;refine wT 1 107 ?_ (hy:=by intro w hSw;(try dsimp only at hSw);obtain ⟨⟨u1,u2⟩,u3,u4⟩:=hSw;go_simp;with_reducible rfl)
  refine wT 2 108 ?_;refine wT 3 109 ?_ (hy:=by intro w hSw;(try dsimp only at hSw);obtain ⟨⟨u1,u2⟩,u3,u4⟩:=hSw;go_simp;with_reducible rfl)
  refine wT 4 110 ?_;refine wT 5 111 ?_;refine wT 6 112 ?_;refine wT 7 113 ?_;refine wT 8 114 ?_;refine wT 9 115 ?_;refine wT 10 116 ?_;refine wT 11 117 ?_;refine wT 12 118 ?_;refine wT 13 119 ?_;refine wT 14 120 ?_;refine wT 15 121 ?_;refine wT 16 122 ?_;refine wT 17 123 ?_;refine wT 18 124 ?_;refine wT 19 125 ?_;refine wT 20 126 ?_;refine wT 21 127 ?_;refine wT 22 128 ?_;refine wT 23 129 ?_;refine wT 24 130 ?_;refine wT 25 131 ?_;refine wT 26 132 ?_;refine wT 27 133 ?_;refine wT 28 134 ?_;refine wT 29 135 ?_;refine wT 30 136 ?_;refine wT 31 137 ?_;refine wT 32 138 ?_;refine wT 33 139 ?_;refine wT 35 141 ?_;refine wT 36 142 ?_;refine wT 37 143 ?_;refine wT 38 144 ?_;refine wR 34 140 (fun K hK=>?_)
  go_simp;refine htr.mono ?_;rintro e wu ⟨rfl,rfl⟩;go_wp2_with fail;refine hK.out _ _ HS.out (fun hHeld=>?_)
  clear hK K;refine wT 39 145 ?_;refine wT 40 146 ?_;refine wpAnyH_done (by kernel_rfl) ?_ _
  go_wp2_with fail;go_roundw
  case rel=>exact ⟨i+1,_,_,_,_,_,_,_,_,by go_num,by omega,S3,HP,zia (by have:=HG2.out;rwa [show 256*i+256=256*(i+1) by omega] at this),⟨_,rfl⟩,⟨_,rfl⟩,⟨_,rfl⟩,⟨_,rfl⟩,⟨_,rfl⟩,⟨_,rfl⟩,⟨_,rfl⟩,_,rfl⟩
  case measure=>simp [intOf];omega
