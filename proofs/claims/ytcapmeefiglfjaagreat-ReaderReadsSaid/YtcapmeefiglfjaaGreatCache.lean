/- A part of the proof. -/
import Derived.Test.YtcapmeefiglfjaaGreatCacheW
set_option linter.unusedSimpArgs false
set_option maxHeartbeats 4000000
set_option maxRecDepth 100000
namespace Go.Proofs.YtcapmeefiglfjaaGreat
open Go.RowKit Go.WideMaps
def fnd (dt:Nat→En) (ns:List Nat) (s:Int):Option Nat:=ns.find? fun g=>(dt g).lba == s
structure gZ (Kd:Nat→Prop) (w:World) (c m:Nat) (ns:List Nat) (dt:Nat→En) (ah af:Nat→Nat) (most hit miss:Int):Prop where
 nd:Nd Kd w c m most ns dt ah af hit miss
 ring:qB c ns ah af
 map:kD Tryz.prog 3 w m ns.length (fnd dt ns)
 lbas:(ns.map fun g=>(dt g).lba).Nodup
 good:∀ g,g∈ns→0≤(dt g).lba∧(dt g).lba≤9223372036854775807∧0≤(dt g).ver∧(dt g).ver≤9223372036854775807∧(dt g).b.length=16
section
variable {Kd:Nat→Prop} {w w':World} {c m g e:Nat} {most hit miss:Int} {ns l r:List Nat} {dt:Nat→En} {ah af:Nat→Nat}
theorem gZ.ne (h:gZ Kd w c m ns dt ah af most hit miss):c∉ns:=(zj0.1 h.ring.nodup).1
theorem gZ.step (h:gZ Kd w c m ns dt ah af most hit miss) (hb:Below w.heap.size w w'):gZ Kd w' c m ns dt ah af most hit miss:=⟨h.nd.step hb,h.ring,h.map.step hb,h.lbas,h.good⟩
theorem fF {s:Int} (h:fnd dt ns s=some g):g∈ns∧(dt g).lba=s:=by
 have h1:=List.find?_some h;exact ⟨zjV h,by simpa using h1⟩
theorem sN {s:Int} (h:fnd dt ns s=none):∀ g∈ns,(dt g).lba≠s:=fun g hg=>by
 have:=zje.1 h g hg;simpa using this
theorem zc9 (hn:((l++e::r).map fun g=>(dt g).lba).Nodup):fnd dt (l++e::r) (dt e).lba=some e:=by
 rw [ziZ,zj2,zjE] at hn;unfold fnd;rw [zk2];have:l.find? (fun g=>(dt g).lba == (dt e).lba)=none:=zje.2 fun g hg=>by
  have:=hn.2.2 _ (zjq hg) (dt e).lba (zih ..);simpa using this
 rw [this];simp
theorem zU (hn:((l++e::r).map fun g=>(dt g).lba).Nodup):(fun i=>if i=(dt e).lba then none else fnd dt (l++e::r) i)=fnd dt (l++r):=by
 rw [ziZ,zj2,zjE] at hn;funext i
 by_cases hi:i=(dt e).lba
 · rw [zij hi,hi]
   symm
   refine zje.2 fun g hg=>?_
   rcases ziA.1 hg with h | h
   · have:=hn.2.2 _ (zjq h) (dt e).lba (zih ..)
     simpa using this
   · have:=(zj0.1 hn.2.1).1
     intro h9;have h9:(dt g).lba=(dt e).lba:=by simpa using h9
     exact this (by rw [←h9];exact zjq h)
 · rw [zig hi]
   unfold fnd;rw [zk2,zk2,List.find?_cons];have:((dt e).lba == i)=false:=by simpa using fun h=>hi h.symm
   rw [this]
theorem zdk {f:Nat→Int} (hn:((l++e::r).map f).Nodup):((l++r).map f).Nodup:=by
 refine zkc ?_ hn;exact List.Sublist.map _ (List.Sublist.append (List.Sublist.refl l) (List.sublist_cons_self e r))
theorem pG (h:gZ Kd w c m (l++e::r) dt ah af most hit miss) :
 Calls Tryz.prog 62 #[.pointer (some ⟨c,0,none⟩),.pointer (some ⟨e,0,none⟩)] w fun r' w'=>r'=.returned (.tuple #[])∧(∃ ah' af',gZ Kd w' c m (l++r) dt ah' af' most hit miss)∧aA w w' (fun b=>b=m∨b∈c::(l++e::r)):=by
 have hem:e∈l++e::r:=ziR _ (zih ..);have hc:=h.ne;have hnd:=(zj0.1 h.ring.nodup).2;obtain ⟨hr1,hp0,hq0⟩:=h.ring.out;obtain ⟨hp,hq⟩:=h.ring.ahead_mem;have hec:e≠c:=fun x=>hc (by rw [←x];exact hem)
 have hel:e∉l∧e∉r:=by
  rw [zjE] at hnd;exact ⟨fun h9=>hnd.2.2 e h9 e (zih ..) rfl,(zj0.1 hnd.2.1).1⟩
 have ho:=zbV h.nd hc hem hp hq (by
  rintro h9;rw [h9] at hp0;rcases zim.1 hp0 with h8 | h8
  · exact hec h8
  · exact hel.1 h8) (by
  rintro h9;rw [h9] at hq0;rcases ziA.1 hq0 with h8 | h8
  · exact hel.2 h8
  · exact hec (ziw.1 h8))
 have hmap:=h.map;have hlb:=h.lbas;have hg:=h.good;have hge:=hg e hem;go_enter Tryz.func62,Tryz.ntmps62
 go_wp2_with fail;refine ho.mono ?_;rintro r' w1 ⟨rfl,h1,t1,s1⟩;have hmc:m∉c::(l++e::r):=fun h9=>by
  obtain ⟨D,⟨es,k,hm,_⟩,_⟩:=hmap;rcases zim.1 h9 with h8 | h8
  · subst h8
    have:=h.nd.ca;unfold Blk at this;rw [hm] at this;injection this with this;cases this
  · obtain ⟨v,this,_⟩:=h.nd.en m h8
    unfold Blk at this;rw [hm] at this;injection this with this;cases this
 have hmap1:=hmap.turned t1 hmc;clear ho hmap;go_upto_region 1 with fail;have hmw:∃ es k,w1.heap[m]?=some (.map es k):=by obtain ⟨D,⟨es,k,hm,_⟩,_⟩:=hmap1;exact ⟨es,k,hm⟩
 have hB:=h1.ca;obtain ⟨v,hE,-⟩:=h1.en e hem;refine wp_region_held_drew (S:=fun W=>(∀ o,W.cell? ⟨c,o,none⟩=(caC most m c (upd ah (af e) (ah e) c) (upd af (ah e) (af e) c) hit miss)[o]?)∧∀ o,W.cell? ⟨e,o,none⟩=(enC c (dt e) v (upd ah (af e) (ah e) e) (upd af (ah e) (af e) e))[o]?) (by kernel_rfl) ⟨hB.rules.1,hE.rules.1⟩ (fun hHeld=>?_)
 replace h1:Nd Kd w1.drew c m most (l++e::r) dt (upd ah (af e) (ah e)) (upd af (ah e) (af e)) hit miss:=h1.step (zif _ _).drew;replace t1:aA w w1.drew (fun b=>b∈c::(l++e::r)):=t1.trans (aA.of (zif _ _).drew)
 replace s1:w1.drew.heap.size=w.heap.size:=s1;replace hmap1:=hmap1.step (zif _ _).drew;replace hmw:∃ es k,w1.drew.heap[m]?=some (.map es k):=hmw;replace hB:=hB.drew;replace hE:=hE.drew;generalize w1.drew=w2 at h1 t1 s1 hmap1 hmw hHeld hB hE ⊢;refine wT 0 6 ?_;refine wT 1 7 ?_;refine wT 2 8 ?_;refine wT 3 9 ?_;refine wT 4 10 ?_;refine wT 5 11 ?_;refine wT 6 12 ?_;refine wT 7 13 ?_;refine wRn 8 (fun K hK=>?_)
 refine zcu rfl _ _ _ _ rfl 98 Tryz.underlying3 Tryz.underlying97 m _ _ rfl hmap1 (dt e).lba rfl (by omega) ?_
 intro w3 hmap3 hg3;have t3:aA w2 w3 (fun b=>b=m):=⟨hg3.os,hg3.tape,hg3.output,hg3.size,fun k hk hn=>hg3.block k hk (fun e=>hn (by injection e))⟩
 have h3:=h1.map hmw t3;refine hK.out _ _ ⟨(hB.turned t3 (fun e=>hmc (by rw [←e];exact zih ..))).rules.1,(hE.turned t3 (fun e'=>hmc (by rw [←e'];exact zii _ hem))).rules.1⟩ (fun hHeld=>?_)
 clear hK K;try simp only [pu,List.set]
 refine wpAnyH_done (by kernel_rfl) ?_ _
 go_wp2_with fail;go_end0;have hlen:(if (fnd dt (l++e::r) (dt e).lba).isSome then (l++e::r).length-1 else (l++e::r).length)=(l++r).length:=by
  rw [zc9 hlb];simp
 rw [hlen,zU hlb] at hmap3;refine ⟨rfl,⟨_,_,h3.more (fun g hg=>?_),hr1,hmap3,zdk hlb,fun g hg9=>hg g ?_⟩,(t1.mono fun b hb=>.inr hb).trans (t3.mono fun b hb=>.inl hb)⟩
 · rcases ziA.1 hg with h9 | h9
   · exact zjv _ h9
   · exact ziR _ (zii _ h9)
 · rcases ziA.1 hg9 with h9 | h9
   · exact zjv _ h9
   · exact ziR _ (zii _ h9)
theorem zac (a:Addr) (u:Int) (w:World) (hc:w.cell? a=some (.int .i64 u)) (hz:w.frozen? a=false) (hu:0≤u∧u<9223372036854775807) :
 Calls Tryz.prog 140 #[.pointer (some a),.int .i64 1] w fun e w'=>e=.returned (.int .i64 (u+1))∧w'=w.setCell a (.int .i64 (u+1)):=by
 have hs:IntKind.i64.wrap (u+1)=u+1:=ziI _ (by omega)
 have hadd:=run_call_add (P:=Tryz.prog) Tryz.func195 (by kernel_rfl) (by kernel_rfl) (by kernel_rfl) .i64 (by kernel_rfl) (y:=1) (s:=IntKind.i64.wrap (u+1)) hc hz (by simp [go_sem];try rfl)
 rw [hs] at hadd;go_enter Tryz.func140,Tryz.ntmps140
 go_wp2;go_ret;exact ⟨rfl,rfl⟩
theorem gZ.map_ne (h:gZ Kd w c m ns dt ah af most hit miss):m∉c::ns:=fun h9=>by
 obtain ⟨D,⟨es,k,hm,_⟩,_⟩:=h.map;rcases zim.1 h9 with h8 | h8
 · subst h8
   have:=h.nd.ca;unfold Blk at this;rw [hm] at this;injection this with this;cases this
 · obtain ⟨v,this,_⟩:=h.nd.en m h8
   unfold Blk at this;rw [hm] at this;injection this with this;cases this
theorem gZ.nd_ (h:gZ Kd w c m ns dt ah af most hit miss) {hit' miss':Int} (hn:Nd Kd w' c m most ns dt ah af hit' miss') (ht:aA w w' (fun b=>b∈c::ns)):gZ Kd w' c m ns dt ah af most hit' miss':=
 ⟨hn,h.ring,h.map.turned ht h.map_ne,h.lbas,h.good⟩
theorem IsB.offS {K S:Nat→Prop} {v:Value} {b:List UInt8} (h:IsB w K v b) (hc:∀ p:Addr,S p.block→∀ n:Int,w.cell? p≠some (.int .u8 n)):IsB w (fun x=>K x∧¬S x) v b:=by
 obtain ⟨A,c,rfl,⟨h1,h2⟩,h3⟩:=h;refine ⟨A,c,rfl,⟨h1,fun hn=>?_⟩,h3⟩
 obtain ⟨ad,e,hK,hc'⟩:=h2 hn;refine ⟨ad,e,⟨hK,fun hb=>?_⟩,hc'⟩
 obtain ⟨x,l',rfl⟩:∃ x l',b=x::l':=by
  cases b with
  | nil=>exact absurd hn (zkt _)
  | cons x l'=>exact ⟨x,l',rfl⟩
 have h0:=hc' 0 (B8 x) rfl;rw [cW] at h0;exact hc ad hb _ h0
theorem nQ {g:Nat} {t:TypeId} {cs:Array Value} (hB:Blk w g t cs) (hn:NoB cs) (p:Addr) (hp:p.block=g) (n:Int):w.cell? p≠some (.int .u8 n):=by
 obtain ⟨pb,po,pz⟩:=p;have hp:pb=g:=hp;subst hp;unfold Blk at hB;cases pz with
 | some z=>simp [World.cell?,hB]
 | none=>
   rw [show w.cell? ⟨pb,po,none⟩=cs[po]? by simp [World.cell?,hB]]
   exact hn po n
theorem zg3 (a b:Int) (A:Option Addr) (n k:Nat):NoB #[.int .i64 a,.int .i64 b,.slice A n k,.pointer none,.pointer none]:=by
 intro o n;rcases zjb o 5 with h | h
 · match o,h with
   | 0,_ | 1,_ | 2,_ | 3,_ | 4,_=>simp
 · rw [zjo (by simpa using h)];simp
theorem gZ.lt (h:gZ Kd w c m ns dt ah af most hit miss):∀ y∈c::ns,y<w.heap.size:=fun _ hg=>(h.nd.at_ hg).2.2.2
theorem gZ.bytes (h:gZ Kd w c m ns dt ah af most hit miss) {K:Nat→Prop} {v:Value} {b:List UInt8} (hv:IsB w K v b) (ht:aA w w' (fun b=>b=m∨b∈c::ns)):IsB w' K v b:=by
 refine ((hv.offS (S:=fun b=>b=m∨b∈c::ns) fun p hp n=>?_).turned ht (fun b hb=>hb.2)).more fun _ hb=>hb.1
 rcases hp with hp | hp
 · obtain ⟨D,⟨es,k,hm,_⟩,_⟩:=h.map
   obtain ⟨pb,po,pz⟩:=p;have hp:pb=m:=hp;subst hp;simp [World.cell?,hm]
 · rcases zim.1 hp with h8 | h8
   · exact nQ h.nd.ca (qN _ _ _ _ _ _ _) p h8 n
   · obtain ⟨v,h1,_⟩:=h.nd.en _ h8
     exact nQ h1 (h.nd.noB h8 h1) p rfl n
theorem zdR (h:gZ Kd w c m ns dt ah af most hit miss) (lba ver:Int) (hl:0≤lba∧lba≤9223372036854775807) (hm:0≤miss∧miss<9223372036854775807) (hf:∀ g,fnd dt ns lba=some g→(dt g).ver≠ver) :
 Calls Tryz.prog 70 #[.pointer (some ⟨c,0,none⟩),.int .i64 lba,.int .i64 ver] w fun r w'=>r=.returned (.tuple #[.slice none 0 0,.bool false])∧gZ Kd w' c m ns dt ah af most hit (miss+1)∧aA w w' (fun b=>b=c):=by
 obtain ⟨h1,t1⟩:=h.nd.miss_ (miss+1);have hc1:=h.nd_ h1 (t1.mono fun b hb=>by rw [hb];exact zih ..)
 obtain ⟨q0,f0⟩:=h.nd.ca.rules;have u0:=h.nd.ca.lt;have hz:∀ W,(zeroValue 98).run Tryz.prog W=.ok (.pointer none) W:=fun W=>by simp [go_sem];try rfl
 go_enter Tryz.func70,Tryz.ntmps70
 go_upto_region 2 with (refine jC rfl _ _ _ rfl 3 98 Tryz.underlying3 Tryz.underlying97 (hz _) m _ _ rfl h.map lba rfl (by omega) ?_)
 have hadd:=zac ⟨c,8,none⟩ miss w (q0 8) (f0 8) hm;cases hq:fnd dt ns lba with
 | none=>
   unfold ptV;clear h hf hz;go_wp2_with fail;refine hadd.mono ?_;rintro r' w2 ⟨rfl,rfl⟩;go_wp2_with fail;go_ret2;exact ⟨rfl,hc1,t1⟩
 | some g=>
   have hv:=hf g hq;obtain ⟨v,hE,-⟩:=h.nd.en g (fF hq).1;obtain ⟨q1,f1⟩:=hE.rules;have u1:=hE.lt;unfold ptV;clear h hf hz;go_wp2_with fail;refine hadd.mono ?_;rintro r' w2 ⟨rfl,rfl⟩;go_wp2_with fail;go_ret2;exact ⟨rfl,hc1,t1⟩
theorem zd2 (hn:((l++e::r).map fun g=>(dt g).lba).Nodup):fnd dt (e::(l++r))=fnd dt (l++e::r):=by
 rw [ziZ,zj2,zjE] at hn;funext i
 unfold fnd;rw [List.find?_cons,zk2,zk2,List.find?_cons];by_cases hi:(dt e).lba=i
 · have:((dt e).lba == i)=true:=by simpa using hi
   rw [this];have:l.find? (fun g=>(dt g).lba == i)=none:=zje.2 fun g hg=>by
    have:=hn.2.2 _ (zjq hg) (dt e).lba (zih ..);rw [←hi];simpa using this
   rw [this];rfl
 · have:((dt e).lba == i)=false:=by simpa using hi
   rw [this]
theorem zaH {f:Nat→Int} (hn:((l++e::r).map f).Nodup):((e::(l++r)).map f).Nodup:=by
 have hp:(l++e::r).Perm (e::(l++r)):=zkz;exact (hp.map f).nodup_iff.1 hn
theorem zgx (h:gZ Kd w c m (l++e::r) dt ah af most hit miss) (hm:0≤hit∧hit<9223372036854775807) :
 Calls Tryz.prog 70 #[.pointer (some ⟨c,0,none⟩),.int .i64 (dt e).lba,.int .i64 (dt e).ver] w fun r' w'=>∃ v ah' af',r'=.returned (.tuple #[v,.bool true])∧IsB w' (fun b=>w.heap.size≤b) v (dt e).b∧gZ Kd w' c m (e::(l++r)) dt ah' af' most (hit+1) miss∧aA w w' (fun b=>b∈c::(l++e::r)):=by
 have hem:e∈l++e::r:=ziR _ (zih ..);have hc:=h.ne;have hnd:=(zj0.1 h.ring.nodup).2;obtain ⟨hr1,hp0,hq0⟩:=h.ring.out;obtain ⟨hp,hq⟩:=h.ring.ahead_mem;have hec:e≠c:=fun x=>hc (by rw [←x];exact hem)
 have hel:e∉l∧e∉r:=by
  rw [zjE] at hnd;exact ⟨fun h9=>hnd.2.2 e h9 e (zih ..) rfl,(zj0.1 hnd.2.1).1⟩
 have hge:0≤(dt e).lba∧(dt e).lba≤9223372036854775807:=⟨(h.good e hem).1,(h.good e hem).2.1⟩;have hfn:=zc9 h.lbas;obtain ⟨h1,t1⟩:=h.nd.hit_ (hit+1);obtain ⟨q0,f0⟩:=h.nd.ca.rules;have u0:=h.nd.ca.lt;obtain ⟨v,hE,-⟩:=h.nd.en e hem;obtain ⟨q1,f1⟩:=hE.rules;have u1:=hE.lt;have hz:∀ W,(zeroValue 98).run Tryz.prog W=.ok (.pointer none) W:=fun W=>by simp [go_sem];try rfl
 have hadd:=zac ⟨c,7,none⟩ hit w (q0 7) (f0 7) hm;go_enter Tryz.func70,Tryz.ntmps70
 go_upto_region 2 with (refine jC rfl _ _ _ rfl 3 98 Tryz.underlying3 Tryz.underlying97 (hz _) m _ _ rfl h.map (dt e).lba rfl (by omega) ?_)
 unfold ptV;go_wp2_with fail;refine hadd.mono ?_;rintro r' w2 ⟨rfl,rfl⟩;generalize w.setCell ⟨c,7,none⟩ (.int .i64 (hit+1))=w2 at h1 t1 ⊢;have hpe:ah e≠e:=by
  rintro h9;rw [h9] at hp0;rcases zim.1 hp0 with h8 | h8
  · exact hec h8
  · exact hel.1 h8
 have hqe:af e≠e:=by
  rintro h9;rw [h9] at hq0;rcases ziA.1 hq0 with h8 | h8
  · exact hel.2 h8
  · exact hec (ziw.1 h8)
 have ho:=zbV h1 hc hem hp hq hpe hqe;go_wp2_with fail;refine ho.mono ?_;rintro r' w3 ⟨rfl,h3,t3,s3⟩;have hca:=hr1.after_mem;have hcm:upd af (ah e) (af e) c∈c::(l++r):=by
  rcases ziA.1 hca with h8 | h8
  · exact zii _ h8
  · rw [ziw.1 h8];exact zih ..
 obtain ⟨v3,hE3,hb3⟩:=h3.en e hem;have hN3:=h3.noB hem hE3;have heo:e∉c::(l++r):=by
  rintro h9;rcases zim.1 h9 with h8 | h8
  · exact hec h8
  · rcases ziA.1 h8 with h7 | h7
    · exact hel.1 h7
    · exact hel.2 h7
 have hsub:∀ g∈l++r,g∈l++e::r:=fun g hg=>by
  rcases ziA.1 hg with h7 | h7
  · exact zjv _ h7
  · exact ziR _ (zii _ h7)
 have hfi:=xL (h3.more hsub) (fun h9=>hc (hsub _ h9)) heo hE3 hN3 hb3 hcm
 clear q0 q1 f0 f1 u0 u1 hadd ho;go_wp2_with fail;refine hfi.mono ?_;rintro r' w4 ⟨rfl,h4,t4,s4⟩;obtain ⟨v4,hE4,hb4⟩:=h4.en e (zih ..);obtain ⟨q1,f1⟩:=hE4.rules;have u1:=hE4.lt;have hcl:=cE v4 (dt e).b _ _ hb4;clear hfi;go_wp2_with fail;refine hcl.mono ?_;rintro r' w5 ⟨A,k,rfl,hown,hb5⟩;go_wp2_with fail;go_ret2;have hperm:(l++e::r).Perm (e::(l++r)):=zkz;have hs4:w.heap.size≤w4.heap.size:=by rw [s4,s3];exact t1.size
 have ht4:aA w w4 (fun b=>b∈c::(l++e::r)):=((t1.mono fun b hb=>by rw [hb];exact zih ..).trans t3).trans (t4.mono fun b hb=>(hperm.cons c).mem_iff.2 hb)
 have hca4:gZ Kd w4 c m (e::(l++r)) dt _ _ most (hit+1) miss:=
  ⟨h4,hr1.first heo,by
   have:=h.map.turned ht4 h.map_ne;rw [zd2 h.lbas,show (e::(l++r)).length=(l++e::r).length from hperm.length_eq.symm];exact this,zaH h.lbas,fun g hg=>h.good g (hperm.mem_iff.2 hg)⟩
 exact ⟨_,_,_,rfl,(IsB.of_own hown (by rw [(h.good e hem).2.2.2.2];omega)).more fun b hb=>by omega,hca4.step hb5,ht4.trans (aA.of hb5)⟩
structure Ca where
 most:Int
 l:List En
 hit:Int
 miss:Int
def zbt (Kd:Nat→Prop) (w:World) (c m:Nat) (ns:List Nat) (k:Ca):Prop:=∃ dt ah af,gZ Kd w c m ns dt ah af k.most k.hit k.miss∧ns.map dt=k.l
def kC (Kd:Nat→Prop) (w w':World) (c m:Nat) (ns:List Nat) (k:Ca):Prop:=∃ ns',zbt Kd w' c m ns' k∧aA w w' (fun b=>b=m∨b∈c::ns)∧∀ g∈ns',g∈ns∨w.heap.size≤g
def nT (L:List En) (x:En):Bool:=L.any fun y=>y.lba == x.lba && decide (x.ver<y.ver)
def bH (L:List En) (i:Int):List En:=L.filter fun y=>!(y.lba == i)
def mV (most:Int) (L:List En):List En:=if most<L.length then L.dropLast else L
def iR (most:Int) (L:List En) (x:En):List En:=if nT L x then L else mV most (x::bH L x.lba)
theorem aA.fresh {S S':Nat→Prop} (h:aA w w' S') (hs:∀ k,S' k→S k∨w.heap.size≤k):aA w w' S:=⟨h.os,h.tape,h.output,h.size,fun k hk hn=>h.block k hk fun h9=>by
 rcases hs k h9 with h8 | h8
 · exact hn h8
 · omega⟩
theorem xG {dt':Nat→En} (hd:∀ g∈ns,dt' g=dt g):fnd dt' ns=fnd dt ns:=by
 funext i
 unfold fnd;induction ns with
 | nil=>rfl
 | cons x l ih=>
   rw [List.find?_cons,List.find?_cons,hd x (zih ..),ih fun g hg=>hd g (zii _ hg)]
theorem gZ.congr (h:gZ Kd w c m ns dt ah af most hit miss) {dt':Nat→En} (hd:∀ g∈ns,dt' g=dt g):gZ Kd w c m ns dt' ah af most hit miss:=
 ⟨⟨h.nd.ca,fun g hg=>by rw [hd g hg];exact h.nd.en g hg⟩,h.ring,by rw [xG hd];exact h.map,by
   rw [show (ns.map fun g=>(dt' g).lba)=ns.map fun g=>(dt g).lba from List.map_congr_left fun g hg=>by rw [hd g hg]]
   exact h.lbas,fun g hg=>by rw [hd g hg];exact h.good g hg⟩
theorem za8 {x:En} (h:fnd dt ns x.lba=none):nT (ns.map dt) x=false∧bH (ns.map dt) x.lba=ns.map dt:=by
 have hn:=sN h;constructor
 · unfold nT
   rw [List.any_eq_false];intro y hy;obtain ⟨g,hg,rfl⟩:=zja.1 hy;have:=hn g hg;simp [this]
 · unfold bH
   rw [zjI];intro y hy;obtain ⟨g,hg,rfl⟩:=zja.1 hy;have:=hn g hg;simpa using this
theorem vI {i:Int} (h:fnd dt ns i=some g):∃ l r,ns=l++g::r:=by
 obtain ⟨l,r,h1⟩:=zkr (fF h).1;exact ⟨l,r,h1⟩
theorem nI {x:En} (hn:((l++e::r).map fun g=>(dt g).lba).Nodup) (he:(dt e).lba=x.lba):nT ((l++e::r).map dt) x=decide (x.ver<(dt e).ver)∧bH ((l++e::r).map dt) x.lba=(l++r).map dt:=by
 have hno:∀ g∈l++r,(dt g).lba≠x.lba:=fun g hg h9=>by
  have h1:=congrFun (zU hn) x.lba;rw [zij he.symm] at h1;exact sN h1.symm g hg h9
 constructor
 · unfold nT
   rw [zjB,zkD];constructor
   · rintro ⟨y,hy,h1⟩
     obtain ⟨g,hg,rfl⟩:=zja.1 hy;simp only [zjC,zkb] at h1;rcases ziA.1 hg with h9 | h9
     · exact absurd h1.1 (hno g (zjv _ h9))
     · rcases zim.1 h9 with h8 | h8
       · rw [←h8];exact h1.2
       · exact absurd h1.1 (hno g (ziR _ h8))
   · intro h1
     exact ⟨dt e,zjq (ziR _ (zih ..)),by simp only [zjC,zkb];exact ⟨he,h1⟩⟩
 · unfold bH
   rw [ziZ,zj2,zj8,zj9,zig (by simp [he]),←zj8,←ziZ,zjI]
   intro y hy;obtain ⟨g,hg,rfl⟩:=zja.1 hy;simpa using hno g hg
theorem ze3 {dt':Nat→En} {x:En} (hde:dt' e=x) (hdn:∀ g∈ns,dt' g=dt g):fnd dt' (e::ns)=fun i=>if i=x.lba then some e else fnd dt ns i:=by
 funext i
 rw [←xG hdn];unfold fnd;rw [List.find?_cons,hde];by_cases hi:x.lba=i
 · rw [zij hi.symm]
   have:(x.lba == i)=true:=by simpa using hi
   rw [this]
 · rw [zig fun h=>hi h.symm]
   have:(x.lba == i)=false:=by simpa using hi
   rw [this]
theorem zeA (h:gZ Kd w c m ns dt ah af most hit miss) (x:En) (hx:0≤x.lba∧x.lba≤9223372036854775807∧0≤x.ver∧x.ver≤9223372036854775807∧x.b.length=16) {K:Nat→Prop} {v:Value} (hv:IsB w K v x.b) (hns:(ns.length:Int)≤1000000) (hKd:∀ b,w.heap.size≤b→Kd b) :
 Calls Tryz.prog 71 #[.pointer (some ⟨c,0,none⟩),.int .i64 x.lba,.int .i64 x.ver,v] w fun r' w'=>r'=.returned (.int .i64 0)∧kC Kd w w' c m ns ⟨most,iR most (ns.map dt) x,hit,miss⟩:=by
 obtain ⟨Av,kv,rfl,-⟩:=aK hv;have hz:∀ W,(zeroValue 98).run Tryz.prog W=.ok (.pointer none) W:=fun W=>by simp [go_sem];try rfl
 obtain ⟨q0,f0⟩:=h.nd.ca.rules;have u0:=h.nd.ca.lt;obtain ⟨n16,h16⟩:∃ n,x.b.length=n:=⟨_,rfl⟩;have hn16:n16=16:=by rw [←h16];exact hx.2.2.2.2
 subst hn16;have H16:=zia h16;rw [h16] at hv ⊢;have hx1:=hx.1;have hx2:=hx.2.1;have hx3:=hx.2.2.1;have hx4:=hx.2.2.2.1;have HX:=zia hx;clear h16 hx;go_enter Tryz.func71,Tryz.ntmps71
 obtain ⟨o,ho⟩:∃ o,fnd dt ns x.lba=o:=⟨_,rfl⟩;have hlook:=fun (ops:Array Oper) (rest:List Oper) (op:Oper) (a:Act) (Q:Exit→Act→World→Prop) g1 m1 x1 g2 g3 g4=>jC (P:=Tryz.prog) (ops:=ops) (rest:=rest) (o:=op) (a:=a) (Q:=Q) g1 m1 x1 97 g2 3 98 Tryz.underlying3 Tryz.underlying97 (hz w) m _ _ g3 h.map x.lba g4 (by omega)
 rw [ho] at hlook;have hg1:∀ W,(eqGuard .neq 98 (.tmp 28) (.const (.pointer none)) (ptV o) (.pointer none)).run Tryz.prog W=.ok () W:=fun W=>by cases o <;> (unfold ptV;simp [go_sem];try rfl)
 have hg2:∀ W,(binOp .neq 98 (ptV o) (.pointer none)).run Tryz.prog W=.ok (.bool o.isSome) W:=fun W=>by cases o <;> (unfold ptV;simp [go_sem];try rfl)
 go_upto_if 29 with (refine hlook _ _ _ _ _ rfl _ _ rfl rfl rfl ?_)
 clear hg1 hg2 hlook hz q0 f0 u0;by_cases hold:nT (ns.map dt) x=true
 case pos=>
  cases o with
  | none=>rw [(za8 ho).1] at hold;cases hold
  | some g=>
    obtain ⟨l,r,rfl⟩:=vI ho;have hgl:=(fF ho).2;rw [(nI h.lbas hgl).1] at hold;have hlt:(dt g).ver > x.ver:=zjJ hold;obtain ⟨v,hE,-⟩:=h.nd.en g (fF ho).1;obtain ⟨q1,f1⟩:=hE.rules;have u1:=hE.lt;unfold ptV;go_wp2_with fail;go_ret;refine ⟨rfl,_,⟨_,_,_,h,?_⟩,aA.refl _ _,fun g hg=>.inl hg⟩
    show _=iR _ _ _;unfold iR;rw [(nI h.lbas hgl).1,zij hold]
 case neg=>
  go_cut [] (fun wx=>∃ ns1 ah1 af1,gZ Kd wx c m ns1 dt ah1 af1 most hit miss∧ns1.map dt=bH (ns.map dt) x.lba∧fnd dt ns1 x.lba=none∧ns1.length≤ns.length∧(∀ g∈ns1,g∈ns)∧aA w wx (fun b=>b=m∨b∈c::ns)∧IsB wx K (.slice Av 16 kv) x.b)
  case first=>
   cases o with
   | none=>
     unfold ptV;go_wp2_with fail;go_meet;exact ⟨_,_,_,h,(za8 ho).2.symm,ho,zic _,fun g hg=>hg,aA.refl _ _,hv⟩
   | some g=>
     obtain ⟨l,r,rfl⟩:=vI ho;have hgl:=(fF ho).2;obtain ⟨hos1,hos2⟩:=nI h.lbas hgl;rw [hos1] at hold;have hge:¬(dt g).ver > x.ver:=fun h9=>hold (ziu h9)
     obtain ⟨v,hE,-⟩:=h.nd.en g (fF ho).1;obtain ⟨q1,f1⟩:=hE.rules;have u1:=hE.lt;have hdr:=pG h;have hno:fnd dt (l++r) x.lba=none:=by
      have h1:=congrFun (zU h.lbas) x.lba;rw [zij hgl.symm] at h1;exact h1.symm
     have hle:(l++r).length≤(l++g::r).length:=by simp
     have hsub:∀ y∈l++r,y∈l++g::r:=fun y hy=>by
      rcases ziA.1 hy with h7 | h7
      · exact zjv _ h7
      · exact ziR _ (zii _ h7)
     unfold ptV;have hby:=fun w'=>h.bytes (w':=w') hv
     clear h hv hns hos1;go_wp2_with fail;refine hdr.mono ?_;rintro r' w1 ⟨rfl,⟨ah1,af1,h1⟩,t1⟩;go_wp2_with fail;go_meet;exact ⟨_,_,_,h1,hos2.symm,hno,hle,hsub,t1,hby _ t1⟩
  case rest=>
   obtain ⟨ns1,ah1,af1,h1,hL,hno,hle,hsub,t1,hv1⟩:=hcut;clear hv h ho;rw [←H16.out] at hv1;have hcl:=cE _ x.b K wc hv1;rw [H16.out] at hcl;go_wp2_with fail;refine hcl.mono ?_;rintro r' w2 ⟨A,k,rfl,hown,hb2⟩;have h2:=h1.step hb2;clear h1 hcl hv1;go_upto_region 9 with fail;have hb3:Below w2.heap.size w2 (w2.alloc (.cells #[.int .i64 x.lba,.int .i64 x.ver,.slice A 16 k,.pointer none,.pointer none] 100)):=zBA;have hE:=Blk.new w2 100 #[.int .i64 x.lba,.int .i64 x.ver,.slice A 16 k,.pointer none,.pointer none] rfl;have h3:=h2.step hb3;have hv2:IsB w2 Kd (.slice A 16 k) x.b:=by
    have:=IsB.of_own (by rw [H16.out];exact hown) (by rw [H16.out];omega)
    rw [H16.out] at this;exact this.more fun b hb=>hKd b (zit t1.size hb)
   have hv3:=hv2.step hb3;have hlt2:=h2.lt;obtain ⟨e,he⟩:∃ e,w2.heap.size=e:=⟨_,rfl⟩;rw [he] at hE hb3 hlt2;rw [he];have hwe:w.heap.size≤e:=by rw [←he];exact zit t1.size hb2.size
   have t3:aA w (w2.alloc (.cells #[.int .i64 x.lba,.int .i64 x.ver,.slice A 16 k,.pointer none,.pointer none] 100)) (fun b=>b=m∨b∈c::ns):=(t1.trans (aA.of hb2)).trans (aA.of (he ▸ hb3))
   generalize w2.alloc (.cells #[.int .i64 x.lba,.int .i64 x.ver,.slice A 16 k,.pointer none,.pointer none] 100)=w3 at hE hb3 h3 hv3 t3 ⊢;have hen:e∉c::ns1:=fun h9=>absurd (hlt2 e h9) (by omega)
   have hml:ns1.length<maxLen:=by unfold maxLen;omega
   obtain ⟨q0,f0⟩:=h3.nd.ca.rules;have u0:=h3.nd.ca.lt;clear h2 hb2 hb3 hown hv2 hlt2 he t1;go_upto_region 10 with (refine zZ rfl _ _ _ _ rfl 3 98 Tryz.underlying3 Tryz.underlying97 m _ _ rfl h3.map hml x.lba e rfl rfl (by omega) ?_;intro w4 hM4 hg4)
   have t4:aA w3 w4 (fun b=>b=m):=⟨hg4.os,hg4.tape,hg4.output,hg4.size,fun k hk hn=>hg4.block k hk (fun e=>hn (by injection e))⟩
   obtain ⟨dt',hdt⟩:∃ dt':Nat→En,dt'=fun g=>if g=e then x else dt g:=⟨_,rfl⟩
   have hde:dt' e=x:=by rw [hdt];exact zij rfl
   have hdn:∀ g∈ns1,dt' g=dt g:=fun g hg=>by rw [hdt];exact zig (fun h9=>hen (by rw [←h9];exact zii _ hg))
   have h3':=h3.congr hdn;have hmw:∃ es k,w3.heap[m]?=some (.map es k):=by obtain ⟨D,⟨es,k,hm,_⟩,_⟩:=h3.map;exact ⟨es,k,hm⟩
   have hme:e≠m:=by
    rintro rfl;obtain ⟨es,k,hm⟩:=hmw;unfold Blk at hE;rw [hE] at hm;injection hm with hm;cases hm
   have h4:=h3'.nd.map hmw t4;have hE4:=hE.turned t4 hme;have hv4:=h3.bytes hv3 (t4.mono fun b hb=>.inl hb)
   have hN4:NoB #[.int .i64 x.lba,.int .i64 x.ver,.slice A 16 k,.pointer none,.pointer none]:=zg3 _ _ _ _ _;rw [←hde] at hE4 hv4 hN4;have hr1:=h3'.ring;have hq4:af1 c∈c::ns1:=by
    rcases ziA.1 hr1.after_mem with h8 | h8
    · exact zii _ h8
    · rw [ziw.1 h8];exact zih ..
   have hfi:=xL h4 h3'.ne hen hE4 hN4 hv4 hq4;clear q0 f0 u0 hE hv3;go_wp2_with fail;refine hfi.mono ?_;rintro r' w5 ⟨rfl,h5,t5,-⟩;have hm5:m∉c::e::ns1:=fun h9=>by
    rcases zim.1 h9 with h8 | h8
    · exact h3.map_ne (by rw [h8];exact zih ..)
    · rcases zim.1 h8 with h7 | h7
      · exact hme h7.symm
      · exact h3.map_ne (zii _ h7)
   have hM5:=hM4.turned t5 hm5;rw [hno,←ze3 hde hdn] at hM5;have h6:gZ Kd w5 c m (e::ns1) dt' _ _ most hit miss:=⟨h5,hr1.first hen,hM5,by
    rw [zj2,zj0];refine ⟨fun h9=>?_,h3'.lbas⟩
    obtain ⟨g,hg,h8⟩:=zja.1 h9;have h8:(dt' g).lba=(dt' e).lba:=h8;rw [hde,hdn g hg] at h8;exact sN hno g hg h8,fun g hg=>by
    rcases zim.1 hg with h8 | h8
    · rw [h8,hde];exact HX.out
    · exact h3'.good g h8⟩
   have t6:aA w w5 (fun b=>b=m∨b∈c::ns):=(((t3.trans (t4.mono fun b hb=>.inl hb)).mono (S':=fun b=>(b=m∨b∈c::ns)∨b∈c::e::ns1) fun b hb=>.inl hb).trans (t5.mono fun b hb=>.inr hb)).fresh fun k hk=>by
    rcases hk with hk | hk
    · exact .inl hk
    · rcases zim.1 hk with h8 | h8
      · exact .inl (.inr (by rw [h8];exact zih ..))
      · rcases zim.1 h8 with h7 | h7
        · exact .inr (by omega)
        · exact .inl (.inr (zii _ (hsub k h7)))
   have hL6:(e::ns1).map dt'=x::bH (ns.map dt) x.lba:=by
    rw [zj2,hde,←hL];congr 1
    exact List.map_congr_left hdn
   generalize upd (upd ah1 e c) (af1 c) e=ah5 at h6;generalize upd (upd af1 e (af1 c)) c e=af5 at h6;clear h5 hfi h3 h3' h4 hE4 hv4 hN4 hM4 hM5 hg4 t3 t4 t5 hmw hr1 hq4 hL hno hdn hde hdt hml;obtain ⟨q0,f0⟩:=h6.nd.ca.rules;have u0:=h6.nd.ca.lt;have hwl:((ns1.length+1:Nat):Int)≤1000001:=by omega
   have hlen:∀ N ty,(Builtin.len_ #[97] ty #[.map (some m)]).run Tryz.prog (w5.drewN N)=.ok (.int .i64 ((ns1.length+1:Nat):Int)) (w5.drewN N):=fun N ty=>kD.len (w:=w5.drewN N) h6.map Tryz.underlying97 ty
   obtain ⟨n1,hn1⟩:∃ n1,ns1.length+1=n1:=⟨_,rfl⟩;rw [hn1] at hlen hwl;have HN1:=zia hn1;clear hn1 hle;go_upto_region 11 with fail;go_quiet (fail);replace h6:gZ Kd (w5.drewN nq) c m (e::ns1) dt' ah5 af5 most hit miss:=⟨⟨h6.nd.ca,h6.nd.en⟩,h6.ring,h6.map,h6.lbas,h6.good⟩;replace t6:aA w (w5.drewN nq) (fun b=>b=m∨b∈c::ns):=⟨t6.os,t6.tape,t6.output,t6.size,t6.block⟩
   replace q0:∀ o,(w5.drewN nq).cell? ⟨c,o,none⟩=(caC most m c (ah5 c) (af5 c) hit miss)[o]?:=q0;replace f0:∀ o,(w5.drewN nq).frozen? ⟨c,o,none⟩=false:=f0;replace u0:c<(w5.drewN nq).heap.size:=u0;have hmem:∀ g∈e::ns1,g∈ns∨w.heap.size≤g:=fun g hg=>by
    rcases zim.1 hg with h8 | h8
    · exact .inr (by omega)
    · exact .inl (hsub g h8)
   have hputs:Hid (iR most (ns.map dt) x=mV most ((e::ns1).map dt')):=zia (by
    unfold iR;rw [zig hold,hL6])
   have hll:((e::ns1).map dt').length=n1:=by rw [zjr,←HN1.out];rfl
   generalize w5.drewN nq=w6 at h6 t6 q0 f0 u0 ⊢;clear hlen hm5 hen hme hL6 HX H16 hsub hold;by_cases hgt:most<(n1:Int)
   case neg=>
    have hgt':¬most<(n1:Int):=hgt;clear hgt;have hgt:¬(n1:Int) > most:=hgt';have HGT:=zia hgt';clear hgt';go_wp2_with fail;go_ret;refine ⟨rfl,_,⟨_,_,_,h6,?_⟩,t6,hmem⟩;show _=iR _ _ _;rw [hputs.out];unfold mV;rw [hll,zig (Int.not_lt.2 HGT.out)]
   case pos=>
    have hgt':(n1:Int) > most:=hgt;obtain ⟨l,z,hlz⟩:=yG ns1 e;rw [hlz] at h6 hmem hputs hll;have haz:=h6.ring.last;have hoz:=nR (c:=c) (g:=z) (fun h9=>h6.ne (by rw [←h9];simp))
    have hdr:=pG (l:=l) (e:=z) (r:=[]) h6;rw [haz] at q0;rw [ziz,show (Value.pointer (some ⟨z,0,none⟩))=adV c z by unfold adV;rw [hoz]] at hdr
    clear hlz;go_wp2_with fail;refine hdr.mono ?_;rintro r' w7 ⟨rfl,⟨ah7,af7,h7⟩,t7⟩;go_wp2_with fail;go_ret;refine ⟨rfl,_,⟨_,_,_,h7,?_⟩,(t6.mono (S':=fun b=>(b=m∨b∈c::ns)∨w.heap.size≤b) fun b hb=>.inl hb).trans (t7.mono fun b hb=>?_) |>.fresh fun k hk=>hk,fun g hg=>hmem g (zjv _ hg)⟩
    · show _=iR _ _ _
      rw [hputs.out];unfold mV;rw [hll,zij hgt,ziZ,zj2,zjN,zkj]
    · rcases hb with hb | hb
      · exact .inl (.inl hb)
      · rcases zim.1 hb with h8 | h8
        · exact .inl (.inr (by rw [h8];exact zih ..))
        · rcases hmem b h8 with h9 | h9
          · exact .inl (.inr (zii _ h9))
          · exact .inr h9
end
