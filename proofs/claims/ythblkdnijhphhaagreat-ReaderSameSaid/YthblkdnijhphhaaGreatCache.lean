/- A part of the proof. -/
import Derived.Test.YthblkdnijhphhaaGreatCacheW
set_option linter.unusedSimpArgs false
set_option maxHeartbeats 4000000
set_option maxRecDepth 100000
namespace Go.Proofs.YthblkdnijhphhaaGreat
open Go.RowKit Go.WideMaps
def fnd (dt:Nat→En) (ns:List Nat) (s:Int):Option Nat:=ns.find? fun g=>(dt g).lba == s
structure CaAt (Kd:Nat→Prop) (w:World) (c m:Nat) (ns:List Nat) (dt:Nat→En) (ah af:Nat→Nat) (most hit miss:Int):Prop where
 nd:Nd Kd w c m most ns dt ah af hit miss
 ring:Ring c ns ah af
 map:PtrM Tryz.prog 3 w m ns.length (fnd dt ns)
 lbas:(ns.map fun g=>(dt g).lba).Nodup
 good:∀ g,g∈ns→0≤(dt g).lba∧(dt g).lba≤9223372036854775807∧0≤(dt g).ver∧(dt g).ver≤9223372036854775807∧(dt g).b.length=16
section
variable {Kd:Nat→Prop} {w w':World} {c m g e:Nat} {most hit miss:Int} {ns l r:List Nat} {dt:Nat→En} {ah af:Nat→Nat}
theorem CaAt.ne (h:CaAt Kd w c m ns dt ah af most hit miss):c∉ns:=(List.nodup_cons.1 h.ring.nodup).1
theorem CaAt.step (h:CaAt Kd w c m ns dt ah af most hit miss) (hb:Below w.heap.size w w'):CaAt Kd w' c m ns dt ah af most hit miss:=⟨h.nd.step hb,h.ring,h.map.step hb,h.lbas,h.good⟩
theorem zbS {s:Int} (h:fnd dt ns s=some g):g∈ns∧(dt g).lba=s:=by
 have h1:=List.find?_some h;exact ⟨List.mem_of_find?_eq_some h,by simpa using h1⟩
theorem zgi {s:Int} (h:fnd dt ns s=none):∀ g∈ns,(dt g).lba≠s:=fun g hg=>by
 have:=List.find?_eq_none.1 h g hg;simpa using this
theorem zlg (hn:((l++e::r).map fun g=>(dt g).lba).Nodup):fnd dt (l++e::r) (dt e).lba=some e:=by
 rw [List.map_append,List.map_cons,List.nodup_append] at hn;unfold fnd;rw [List.find?_append];have:l.find? (fun g=>(dt g).lba == (dt e).lba)=none:=List.find?_eq_none.2 fun g hg=>by
  have:=hn.2.2 _ (List.mem_map_of_mem hg) (dt e).lba (List.mem_cons_self ..);simpa using this
 rw [this];simp
theorem zir (hn:((l++e::r).map fun g=>(dt g).lba).Nodup):(fun i=>if i=(dt e).lba then none else fnd dt (l++e::r) i)=fnd dt (l++r):=by
 rw [List.map_append,List.map_cons,List.nodup_append] at hn;funext i
 by_cases hi:i=(dt e).lba
 · rw [if_pos hi,hi]
   symm
   refine List.find?_eq_none.2 fun g hg=>?_
   rcases List.mem_append.1 hg with h | h
   · have:=hn.2.2 _ (List.mem_map_of_mem h) (dt e).lba (List.mem_cons_self ..)
     simpa using this
   · have:=(List.nodup_cons.1 hn.2.1).1
     intro h9;have h9:(dt g).lba=(dt e).lba:=by simpa using h9
     exact this (by rw [←h9];exact List.mem_map_of_mem h)
 · rw [if_neg hi]
   unfold fnd;rw [List.find?_append,List.find?_append,List.find?_cons];have:((dt e).lba == i)=false:=by simpa using fun h=>hi h.symm
   rw [this]
theorem zkq {f:Nat→Int} (hn:((l++e::r).map f).Nodup):((l++r).map f).Nodup:=by
 refine List.Nodup.sublist ?_ hn;exact List.Sublist.map _ (List.Sublist.append (List.Sublist.refl l) (List.sublist_cons_self e r))
theorem zfd (h:CaAt Kd w c m (l++e::r) dt ah af most hit miss) :
 Calls Tryz.prog 65 #[.pointer (some ⟨c,0,none⟩),.pointer (some ⟨e,0,none⟩)] w fun r' w'=>r'=.returned (.tuple #[])∧(∃ ah' af',CaAt Kd w' c m (l++r) dt ah' af' most hit miss)∧za0 w w' (fun b=>b=m∨b∈c::(l++e::r)):=by
 have hem:e∈l++e::r:=List.mem_append_right _ (List.mem_cons_self ..);have hc:=h.ne;have hnd:=(List.nodup_cons.1 h.ring.nodup).2;obtain ⟨hr1,hp0,hq0⟩:=h.ring.out;obtain ⟨hp,hq⟩:=h.ring.ahead_mem;have hec:e≠c:=fun x=>hc (by rw [←x];exact hem)
 have hel:e∉l∧e∉r:=by
  rw [List.nodup_append] at hnd;exact ⟨fun h9=>hnd.2.2 e h9 e (List.mem_cons_self ..) rfl,(List.nodup_cons.1 hnd.2.1).1⟩
 have ho:=zl7 h.nd hc hem hp hq (by
  rintro h9;rw [h9] at hp0;rcases List.mem_cons.1 hp0 with h8 | h8
  · exact hec h8
  · exact hel.1 h8) (by
  rintro h9;rw [h9] at hq0;rcases List.mem_append.1 hq0 with h8 | h8
  · exact hel.2 h8
  · exact hec (List.mem_singleton.1 h8))
 have hmap:=h.map;have hlb:=h.lbas;have hg:=h.good;have hge:=hg e hem;go_enter Tryz.func65,Tryz.ntmps65
 go_wp2_with fail;refine ho.mono ?_;rintro r' w1 ⟨rfl,h1,t1,s1⟩;have hmc:m∉c::(l++e::r):=fun h9=>by
  obtain ⟨D,⟨es,k,hm,_⟩,_⟩:=hmap;rcases List.mem_cons.1 h9 with h8 | h8
  · subst h8
    have:=h.nd.ca;unfold Blk at this;rw [hm] at this;injection this with this;cases this
  · obtain ⟨v,this,_⟩:=h.nd.en m h8
    unfold Blk at this;rw [hm] at this;injection this with this;cases this
 have hmap1:=hmap.turned t1 hmc;clear ho hmap;go_upto_region 1 with fail;have hmw:∃ es k,w1.heap[m]?=some (.map es k):=by obtain ⟨D,⟨es,k,hm,_⟩,_⟩:=hmap1;exact ⟨es,k,hm⟩
 have hB:=h1.ca;obtain ⟨v,hE,-⟩:=h1.en e hem;refine wp_region_held_drew (S:=fun W=>(∀ o,W.cell? ⟨c,o,none⟩=(caC most m c (upd ah (af e) (ah e) c) (upd af (ah e) (af e) c) hit miss)[o]?)∧∀ o,W.cell? ⟨e,o,none⟩=(enC c (dt e) v (upd ah (af e) (ah e) e) (upd af (ah e) (af e) e))[o]?) (by kernel_rfl) ⟨hB.rules.1,hE.rules.1⟩ (fun hHeld=>?_)
 replace h1:Nd Kd w1.drew c m most (l++e::r) dt (upd ah (af e) (ah e)) (upd af (ah e) (af e)) hit miss:=h1.step (Below.refl _ _).drew;replace t1:za0 w w1.drew (fun b=>b∈c::(l++e::r)):=t1.trans (za0.of (Below.refl _ _).drew)
 replace s1:w1.drew.heap.size=w.heap.size:=s1;replace hmap1:=hmap1.step (Below.refl _ _).drew;replace hmw:∃ es k,w1.drew.heap[m]?=some (.map es k):=hmw;replace hB:=hB.drew;replace hE:=hE.drew;generalize w1.drew=w2 at h1 t1 s1 hmap1 hmw hHeld hB hE ⊢;refine wT 0 6 ?_;refine wT 1 7 ?_;refine wT 2 8 ?_;refine wT 3 9 ?_;refine wT 4 10 ?_;refine wT 5 11 ?_;refine wT 6 12 ?_;refine wT 7 13 ?_;refine wRn 8 (fun K hK=>?_)
 refine zlm rfl _ _ _ _ rfl 87 Tryz.underlying3 Tryz.underlying86 m _ _ rfl hmap1 (dt e).lba rfl (by omega) ?_
 intro w3 hmap3 hg3;have t3:za0 w2 w3 (fun b=>b=m):=⟨hg3.os,hg3.tape,hg3.output,hg3.size,fun k hk hn=>hg3.block k hk (fun e=>hn (by injection e))⟩
 have h3:=h1.map hmw t3;refine hK.out _ _ ⟨(hB.turned t3 (fun e=>hmc (by rw [←e];exact List.mem_cons_self ..))).rules.1,(hE.turned t3 (fun e'=>hmc (by rw [←e'];exact List.mem_cons_of_mem _ hem))).rules.1⟩ (fun hHeld=>?_)
 clear hK K;try simp only [pu,List.set]
 refine wpAnyH_done (by kernel_rfl) ?_ _
 go_wp2_with fail;go_end0;have hlen:(if (fnd dt (l++e::r) (dt e).lba).isSome then (l++e::r).length-1 else (l++e::r).length)=(l++r).length:=by
  rw [zlg hlb];simp
 rw [hlen,zir hlb] at hmap3;refine ⟨rfl,⟨_,_,h3.more (fun g hg=>?_),hr1,hmap3,zkq hlb,fun g hg9=>hg g ?_⟩,(t1.mono fun b hb=>.inr hb).trans (t3.mono fun b hb=>.inl hb)⟩
 · rcases List.mem_append.1 hg with h9 | h9
   · exact List.mem_append_left _ h9
   · exact List.mem_append_right _ (List.mem_cons_of_mem _ h9)
 · rcases List.mem_append.1 hg9 with h9 | h9
   · exact List.mem_append_left _ h9
   · exact List.mem_append_right _ (List.mem_cons_of_mem _ h9)
theorem ziF (a:Addr) (u:Int) (w:World) (hc:w.cell? a=some (.int .i64 u)) (hz:w.frozen? a=false) (hu:0≤u∧u<9223372036854775807) :
 Calls Tryz.prog 126 #[.pointer (some a),.int .i64 1] w fun e w'=>e=.returned (.int .i64 (u+1))∧w'=w.setCell a (.int .i64 (u+1)):=by
 have hs:IntKind.i64.wrap (u+1)=u+1:=IntWalk.i64_in _ (by omega)
 have hadd:=run_call_add (P:=Tryz.prog) Tryz.func179 (by kernel_rfl) (by kernel_rfl) (by kernel_rfl) .i64 (by kernel_rfl) (y:=1) (s:=IntKind.i64.wrap (u+1)) hc hz (by simp [go_sem];try rfl)
 rw [hs] at hadd;go_enter Tryz.func126,Tryz.ntmps126
 go_wp2;go_ret;exact ⟨rfl,rfl⟩
theorem CaAt.map_ne (h:CaAt Kd w c m ns dt ah af most hit miss):m∉c::ns:=fun h9=>by
 obtain ⟨D,⟨es,k,hm,_⟩,_⟩:=h.map;rcases List.mem_cons.1 h9 with h8 | h8
 · subst h8
   have:=h.nd.ca;unfold Blk at this;rw [hm] at this;injection this with this;cases this
 · obtain ⟨v,this,_⟩:=h.nd.en m h8
   unfold Blk at this;rw [hm] at this;injection this with this;cases this
theorem CaAt.nd_ (h:CaAt Kd w c m ns dt ah af most hit miss) {hit' miss':Int} (hn:Nd Kd w' c m most ns dt ah af hit' miss') (ht:za0 w w' (fun b=>b∈c::ns)):CaAt Kd w' c m ns dt ah af most hit' miss':=
 ⟨hn,h.ring,h.map.turned ht h.map_ne,h.lbas,h.good⟩
theorem IsB.offS {K S:Nat→Prop} {v:Value} {b:List UInt8} (h:IsB w K v b) (hc:∀ p:Addr,S p.block→∀ n:Int,w.cell? p≠some (.int .u8 n)):IsB w (fun x=>K x∧¬S x) v b:=by
 obtain ⟨A,c,rfl,⟨h1,h2⟩,h3⟩:=h;refine ⟨A,c,rfl,⟨h1,fun hn=>?_⟩,h3⟩
 obtain ⟨ad,e,hK,hc'⟩:=h2 hn;refine ⟨ad,e,⟨hK,fun hb=>?_⟩,hc'⟩
 obtain ⟨x,l',rfl⟩:∃ x l',b=x::l':=by
  cases b with
  | nil=>exact absurd hn (Nat.lt_irrefl _)
  | cons x l'=>exact ⟨x,l',rfl⟩
 have h0:=hc' 0 (B8 x) rfl;rw [zbN] at h0;exact hc ad hb _ h0
theorem zeI {g:Nat} {t:TypeId} {cs:Array Value} (hB:Blk w g t cs) (hn:NoB cs) (p:Addr) (hp:p.block=g) (n:Int):w.cell? p≠some (.int .u8 n):=by
 obtain ⟨pb,po,pz⟩:=p;have hp:pb=g:=hp;subst hp;unfold Blk at hB;cases pz with
 | some z=>simp [World.cell?,hB]
 | none=>
   rw [show w.cell? ⟨pb,po,none⟩=cs[po]? by simp [World.cell?,hB]]
   exact hn po n
theorem znQ (a b:Int) (A:Option Addr) (n k:Nat):NoB #[.int .i64 a,.int .i64 b,.slice A n k,.pointer none,.pointer none]:=by
 intro o n;rcases Nat.lt_or_ge o 5 with h | h
 · match o,h with
   | 0,_ | 1,_ | 2,_ | 3,_ | 4,_=>simp
 · rw [Array.getElem?_eq_none (by simpa using h)];simp
theorem CaAt.lt (h:CaAt Kd w c m ns dt ah af most hit miss):∀ y∈c::ns,y<w.heap.size:=fun _ hg=>(h.nd.at_ hg).2.2.2
theorem CaAt.bytes (h:CaAt Kd w c m ns dt ah af most hit miss) {K:Nat→Prop} {v:Value} {b:List UInt8} (hv:IsB w K v b) (ht:za0 w w' (fun b=>b=m∨b∈c::ns)):IsB w' K v b:=by
 refine ((hv.offS (S:=fun b=>b=m∨b∈c::ns) fun p hp n=>?_).turned ht (fun b hb=>hb.2)).more fun _ hb=>hb.1
 rcases hp with hp | hp
 · obtain ⟨D,⟨es,k,hm,_⟩,_⟩:=h.map
   obtain ⟨pb,po,pz⟩:=p;have hp:pb=m:=hp;subst hp;simp [World.cell?,hm]
 · rcases List.mem_cons.1 hp with h8 | h8
   · exact zeI h.nd.ca (zg0 _ _ _ _ _ _ _) p h8 n
   · obtain ⟨v,h1,_⟩:=h.nd.en _ h8
     exact zeI h1 (h.nd.noB h8 h1) p rfl n
theorem zn9 (h:CaAt Kd w c m ns dt ah af most hit miss) (lba ver:Int) (hl:0≤lba∧lba≤9223372036854775807) (hm:0≤miss∧miss<9223372036854775807) (hf:∀ g,fnd dt ns lba=some g→(dt g).ver≠ver) :
 Calls Tryz.prog 61 #[.pointer (some ⟨c,0,none⟩),.int .i64 lba,.int .i64 ver] w fun r w'=>r=.returned (.tuple #[.slice none 0 0,.bool false])∧CaAt Kd w' c m ns dt ah af most hit (miss+1)∧za0 w w' (fun b=>b=c):=by
 obtain ⟨h1,t1⟩:=h.nd.miss_ (miss+1);have hc1:=h.nd_ h1 (t1.mono fun b hb=>by rw [hb];exact List.mem_cons_self ..)
 obtain ⟨q0,f0⟩:=h.nd.ca.rules;have u0:=h.nd.ca.lt;have hz:∀ W,(zeroValue 87).run Tryz.prog W=.ok (.pointer none) W:=fun W=>by simp [go_sem];try rfl
 go_enter Tryz.func61,Tryz.ntmps61
 go_upto_region 2 with (refine zcM rfl _ _ _ rfl 3 87 Tryz.underlying3 Tryz.underlying86 (hz _) m _ _ rfl h.map lba rfl (by omega) ?_)
 have hadd:=ziF ⟨c,8,none⟩ miss w (q0 8) (f0 8) hm;cases hq:fnd dt ns lba with
 | none=>
   unfold ptV;clear h hf hz;go_wp2_with fail;refine hadd.mono ?_;rintro r' w2 ⟨rfl,rfl⟩;go_wp2_with fail;go_ret2;exact ⟨rfl,hc1,t1⟩
 | some g=>
   have hv:=hf g hq;obtain ⟨v,hE,-⟩:=h.nd.en g (zbS hq).1;obtain ⟨q1,f1⟩:=hE.rules;have u1:=hE.lt;unfold ptV;clear h hf hz;go_wp2_with fail;refine hadd.mono ?_;rintro r' w2 ⟨rfl,rfl⟩;go_wp2_with fail;go_ret2;exact ⟨rfl,hc1,t1⟩
theorem zlw (hn:((l++e::r).map fun g=>(dt g).lba).Nodup):fnd dt (e::(l++r))=fnd dt (l++e::r):=by
 rw [List.map_append,List.map_cons,List.nodup_append] at hn;funext i
 unfold fnd;rw [List.find?_cons,List.find?_append,List.find?_append,List.find?_cons];by_cases hi:(dt e).lba=i
 · have:((dt e).lba == i)=true:=by simpa using hi
   rw [this];have:l.find? (fun g=>(dt g).lba == i)=none:=List.find?_eq_none.2 fun g hg=>by
    have:=hn.2.2 _ (List.mem_map_of_mem hg) (dt e).lba (List.mem_cons_self ..);rw [←hi];simpa using this
   rw [this];rfl
 · have:((dt e).lba == i)=false:=by simpa using hi
   rw [this]
theorem zjV {f:Nat→Int} (hn:((l++e::r).map f).Nodup):((e::(l++r)).map f).Nodup:=by
 have hp:(l++e::r).Perm (e::(l++r)):=List.perm_middle;exact (hp.map f).nodup_iff.1 hn
theorem znV (h:CaAt Kd w c m (l++e::r) dt ah af most hit miss) (hm:0≤hit∧hit<9223372036854775807) :
 Calls Tryz.prog 61 #[.pointer (some ⟨c,0,none⟩),.int .i64 (dt e).lba,.int .i64 (dt e).ver] w fun r' w'=>∃ v ah' af',r'=.returned (.tuple #[v,.bool true])∧IsB w' (fun b=>w.heap.size≤b) v (dt e).b∧CaAt Kd w' c m (e::(l++r)) dt ah' af' most (hit+1) miss∧za0 w w' (fun b=>b∈c::(l++e::r)):=by
 have hem:e∈l++e::r:=List.mem_append_right _ (List.mem_cons_self ..);have hc:=h.ne;have hnd:=(List.nodup_cons.1 h.ring.nodup).2;obtain ⟨hr1,hp0,hq0⟩:=h.ring.out;obtain ⟨hp,hq⟩:=h.ring.ahead_mem;have hec:e≠c:=fun x=>hc (by rw [←x];exact hem)
 have hel:e∉l∧e∉r:=by
  rw [List.nodup_append] at hnd;exact ⟨fun h9=>hnd.2.2 e h9 e (List.mem_cons_self ..) rfl,(List.nodup_cons.1 hnd.2.1).1⟩
 have hge:0≤(dt e).lba∧(dt e).lba≤9223372036854775807:=⟨(h.good e hem).1,(h.good e hem).2.1⟩;have hfn:=zlg h.lbas;obtain ⟨h1,t1⟩:=h.nd.hit_ (hit+1);obtain ⟨q0,f0⟩:=h.nd.ca.rules;have u0:=h.nd.ca.lt;obtain ⟨v,hE,-⟩:=h.nd.en e hem;obtain ⟨q1,f1⟩:=hE.rules;have u1:=hE.lt;have hz:∀ W,(zeroValue 87).run Tryz.prog W=.ok (.pointer none) W:=fun W=>by simp [go_sem];try rfl
 have hadd:=ziF ⟨c,7,none⟩ hit w (q0 7) (f0 7) hm;go_enter Tryz.func61,Tryz.ntmps61
 go_upto_region 2 with (refine zcM rfl _ _ _ rfl 3 87 Tryz.underlying3 Tryz.underlying86 (hz _) m _ _ rfl h.map (dt e).lba rfl (by omega) ?_)
 unfold ptV;go_wp2_with fail;refine hadd.mono ?_;rintro r' w2 ⟨rfl,rfl⟩;generalize w.setCell ⟨c,7,none⟩ (.int .i64 (hit+1))=w2 at h1 t1 ⊢;have hpe:ah e≠e:=by
  rintro h9;rw [h9] at hp0;rcases List.mem_cons.1 hp0 with h8 | h8
  · exact hec h8
  · exact hel.1 h8
 have hqe:af e≠e:=by
  rintro h9;rw [h9] at hq0;rcases List.mem_append.1 hq0 with h8 | h8
  · exact hel.2 h8
  · exact hec (List.mem_singleton.1 h8)
 have ho:=zl7 h1 hc hem hp hq hpe hqe;go_wp2_with fail;refine ho.mono ?_;rintro r' w3 ⟨rfl,h3,t3,s3⟩;have hca:=hr1.after_mem;have hcm:upd af (ah e) (af e) c∈c::(l++r):=by
  rcases List.mem_append.1 hca with h8 | h8
  · exact List.mem_cons_of_mem _ h8
  · rw [List.mem_singleton.1 h8];exact List.mem_cons_self ..
 obtain ⟨v3,hE3,hb3⟩:=h3.en e hem;have hN3:=h3.noB hem hE3;have heo:e∉c::(l++r):=by
  rintro h9;rcases List.mem_cons.1 h9 with h8 | h8
  · exact hec h8
  · rcases List.mem_append.1 h8 with h7 | h7
    · exact hel.1 h7
    · exact hel.2 h7
 have hsub:∀ g∈l++r,g∈l++e::r:=fun g hg=>by
  rcases List.mem_append.1 hg with h7 | h7
  · exact List.mem_append_left _ h7
  · exact List.mem_append_right _ (List.mem_cons_of_mem _ h7)
 have hfi:=zha (h3.more hsub) (fun h9=>hc (hsub _ h9)) heo hE3 hN3 hb3 hcm
 clear q0 q1 f0 f1 u0 u1 hadd ho;go_wp2_with fail;refine hfi.mono ?_;rintro r' w4 ⟨rfl,h4,t4,s4⟩;obtain ⟨v4,hE4,hb4⟩:=h4.en e (List.mem_cons_self ..);obtain ⟨q1,f1⟩:=hE4.rules;have u1:=hE4.lt;have hcl:=zay v4 (dt e).b _ _ hb4;clear hfi;go_wp2_with fail;refine hcl.mono ?_;rintro r' w5 ⟨A,k,rfl,hown,hb5⟩;go_wp2_with fail;go_ret2;have hperm:(l++e::r).Perm (e::(l++r)):=List.perm_middle;have hs4:w.heap.size≤w4.heap.size:=by rw [s4,s3];exact t1.size
 have ht4:za0 w w4 (fun b=>b∈c::(l++e::r)):=((t1.mono fun b hb=>by rw [hb];exact List.mem_cons_self ..).trans t3).trans (t4.mono fun b hb=>(hperm.cons c).mem_iff.2 hb)
 have hca4:CaAt Kd w4 c m (e::(l++r)) dt _ _ most (hit+1) miss:=
  ⟨h4,hr1.first heo,by
   have:=h.map.turned ht4 h.map_ne;rw [zlw h.lbas,show (e::(l++r)).length=(l++e::r).length from hperm.length_eq.symm];exact this,zjV h.lbas,fun g hg=>h.good g (hperm.mem_iff.2 hg)⟩
 exact ⟨_,_,_,rfl,(IsB.of_own hown (by rw [(h.good e hem).2.2.2.2];omega)).more fun b hb=>by omega,hca4.step hb5,ht4.trans (za0.of hb5)⟩
structure Ca where
 most:Int
 l:List En
 hit:Int
 miss:Int
def IsCa (Kd:Nat→Prop) (w:World) (c m:Nat) (ns:List Nat) (k:Ca):Prop:=∃ dt ah af,CaAt Kd w c m ns dt ah af k.most k.hit k.miss∧ns.map dt=k.l
def zdd (Kd:Nat→Prop) (w w':World) (c m:Nat) (ns:List Nat) (k:Ca):Prop:=∃ ns',IsCa Kd w' c m ns' k∧za0 w w' (fun b=>b=m∨b∈c::ns)∧∀ g∈ns',g∈ns∨w.heap.size≤g
def zjP (L:List En) (x:En):Bool:=L.any fun y=>y.lba == x.lba && decide (x.ver<y.ver)
def zcs (L:List En) (i:Int):List En:=L.filter fun y=>!(y.lba == i)
def zjJ (most:Int) (L:List En):List En:=if most<L.length then L.dropLast else L
def zel (most:Int) (L:List En) (x:En):List En:=if zjP L x then L else zjJ most (x::zcs L x.lba)
theorem za0.fresh {S S':Nat→Prop} (h:za0 w w' S') (hs:∀ k,S' k→S k∨w.heap.size≤k):za0 w w' S:=⟨h.os,h.tape,h.output,h.size,fun k hk hn=>h.block k hk fun h9=>by
 rcases hs k h9 with h8 | h8
 · exact hn h8
 · omega⟩
theorem zgZ {dt':Nat→En} (hd:∀ g∈ns,dt' g=dt g):fnd dt' ns=fnd dt ns:=by
 funext i
 unfold fnd;induction ns with
 | nil=>rfl
 | cons x l ih=>
   rw [List.find?_cons,List.find?_cons,hd x (List.mem_cons_self ..),ih fun g hg=>hd g (List.mem_cons_of_mem _ hg)]
theorem CaAt.congr (h:CaAt Kd w c m ns dt ah af most hit miss) {dt':Nat→En} (hd:∀ g∈ns,dt' g=dt g):CaAt Kd w c m ns dt' ah af most hit miss:=
 ⟨⟨h.nd.ca,fun g hg=>by rw [hd g hg];exact h.nd.en g hg⟩,h.ring,by rw [zgZ hd];exact h.map,by
   rw [show (ns.map fun g=>(dt' g).lba)=ns.map fun g=>(dt g).lba from List.map_congr_left fun g hg=>by rw [hd g hg]]
   exact h.lbas,fun g hg=>by rw [hd g hg];exact h.good g hg⟩
theorem ziI {x:En} (h:fnd dt ns x.lba=none):zjP (ns.map dt) x=false∧zcs (ns.map dt) x.lba=ns.map dt:=by
 have hn:=zgi h;constructor
 · unfold zjP
   rw [List.any_eq_false];intro y hy;obtain ⟨g,hg,rfl⟩:=List.mem_map.1 hy;have:=hn g hg;simp [this]
 · unfold zcs
   rw [List.filter_eq_self];intro y hy;obtain ⟨g,hg,rfl⟩:=List.mem_map.1 hy;have:=hn g hg;simpa using this
theorem zgV {i:Int} (h:fnd dt ns i=some g):∃ l r,ns=l++g::r:=by
 obtain ⟨l,r,h1⟩:=List.append_of_mem (zbS h).1;exact ⟨l,r,h1⟩
theorem zeu {x:En} (hn:((l++e::r).map fun g=>(dt g).lba).Nodup) (he:(dt e).lba=x.lba):zjP ((l++e::r).map dt) x=decide (x.ver<(dt e).ver)∧zcs ((l++e::r).map dt) x.lba=(l++r).map dt:=by
 have hno:∀ g∈l++r,(dt g).lba≠x.lba:=fun g hg h9=>by
  have h1:=congrFun (zir hn) x.lba;rw [if_pos he.symm] at h1;exact zgi h1.symm g hg h9
 constructor
 · unfold zjP
   rw [Bool.eq_iff_iff,List.any_eq_true];constructor
   · rintro ⟨y,hy,h1⟩
     obtain ⟨g,hg,rfl⟩:=List.mem_map.1 hy;simp only [Bool.and_eq_true,beq_iff_eq] at h1;rcases List.mem_append.1 hg with h9 | h9
     · exact absurd h1.1 (hno g (List.mem_append_left _ h9))
     · rcases List.mem_cons.1 h9 with h8 | h8
       · rw [←h8];exact h1.2
       · exact absurd h1.1 (hno g (List.mem_append_right _ h8))
   · intro h1
     exact ⟨dt e,List.mem_map_of_mem (List.mem_append_right _ (List.mem_cons_self ..)),by simp only [Bool.and_eq_true,beq_iff_eq];exact ⟨he,h1⟩⟩
 · unfold zcs
   rw [List.map_append,List.map_cons,List.filter_append,List.filter_cons,if_neg (by simp [he]),←List.filter_append,←List.map_append,List.filter_eq_self]
   intro y hy;obtain ⟨g,hg,rfl⟩:=List.mem_map.1 hy;simpa using hno g hg
theorem zmk {dt':Nat→En} {x:En} (hde:dt' e=x) (hdn:∀ g∈ns,dt' g=dt g):fnd dt' (e::ns)=fun i=>if i=x.lba then some e else fnd dt ns i:=by
 funext i
 rw [←zgZ hdn];unfold fnd;rw [List.find?_cons,hde];by_cases hi:x.lba=i
 · rw [if_pos hi.symm]
   have:(x.lba == i)=true:=by simpa using hi
   rw [this]
 · rw [if_neg fun h=>hi h.symm]
   have:(x.lba == i)=false:=by simpa using hi
   rw [this]
theorem zni (h:CaAt Kd w c m ns dt ah af most hit miss) (x:En) (hx:0≤x.lba∧x.lba≤9223372036854775807∧0≤x.ver∧x.ver≤9223372036854775807∧x.b.length=16) {K:Nat→Prop} {v:Value} (hv:IsB w K v x.b) (hns:(ns.length:Int)≤1000000) (hKd:∀ b,w.heap.size≤b→Kd b) :
 Calls Tryz.prog 62 #[.pointer (some ⟨c,0,none⟩),.int .i64 x.lba,.int .i64 x.ver,v] w fun r' w'=>r'=.returned (.int .i64 0)∧zdd Kd w w' c m ns ⟨most,zel most (ns.map dt) x,hit,miss⟩:=by
 obtain ⟨Av,kv,rfl,-⟩:=zab hv;have hz:∀ W,(zeroValue 87).run Tryz.prog W=.ok (.pointer none) W:=fun W=>by simp [go_sem];try rfl
 obtain ⟨q0,f0⟩:=h.nd.ca.rules;have u0:=h.nd.ca.lt;obtain ⟨n16,h16⟩:∃ n,x.b.length=n:=⟨_,rfl⟩;have hn16:n16=16:=by rw [←h16];exact hx.2.2.2.2
 subst hn16;have H16:=Lib.hid h16;rw [h16] at hv ⊢;have hx1:=hx.1;have hx2:=hx.2.1;have hx3:=hx.2.2.1;have hx4:=hx.2.2.2.1;have HX:=Lib.hid hx;clear h16 hx;go_enter Tryz.func62,Tryz.ntmps62
 obtain ⟨o,ho⟩:∃ o,fnd dt ns x.lba=o:=⟨_,rfl⟩;have hlook:=fun (ops:Array Oper) (rest:List Oper) (op:Oper) (a:Act) (Q:Exit→Act→World→Prop) g1 m1 x1 g2 g3 g4=>zcM (P:=Tryz.prog) (ops:=ops) (rest:=rest) (o:=op) (a:=a) (Q:=Q) g1 m1 x1 86 g2 3 87 Tryz.underlying3 Tryz.underlying86 (hz w) m _ _ g3 h.map x.lba g4 (by omega)
 rw [ho] at hlook;have hg1:∀ W,(eqGuard .neq 87 (.tmp 28) (.const (.pointer none)) (ptV o) (.pointer none)).run Tryz.prog W=.ok () W:=fun W=>by cases o <;> (unfold ptV;simp [go_sem];try rfl)
 have hg2:∀ W,(binOp .neq 87 (ptV o) (.pointer none)).run Tryz.prog W=.ok (.bool o.isSome) W:=fun W=>by cases o <;> (unfold ptV;simp [go_sem];try rfl)
 go_upto_if 29 with (refine hlook _ _ _ _ _ rfl _ _ rfl rfl rfl ?_)
 clear hg1 hg2 hlook hz q0 f0 u0;by_cases hold:zjP (ns.map dt) x=true
 case pos=>
  cases o with
  | none=>rw [(ziI ho).1] at hold;cases hold
  | some g=>
    obtain ⟨l,r,rfl⟩:=zgV ho;have hgl:=(zbS ho).2;rw [(zeu h.lbas hgl).1] at hold;have hlt:(dt g).ver > x.ver:=of_decide_eq_true hold;obtain ⟨v,hE,-⟩:=h.nd.en g (zbS ho).1;obtain ⟨q1,f1⟩:=hE.rules;have u1:=hE.lt;unfold ptV;go_wp2_with fail;go_ret;refine ⟨rfl,_,⟨_,_,_,h,?_⟩,za0.refl _ _,fun g hg=>.inl hg⟩
    show _=zel _ _ _;unfold zel;rw [(zeu h.lbas hgl).1,if_pos hold]
 case neg=>
  go_cut [] (fun wx=>∃ ns1 ah1 af1,CaAt Kd wx c m ns1 dt ah1 af1 most hit miss∧ns1.map dt=zcs (ns.map dt) x.lba∧fnd dt ns1 x.lba=none∧ns1.length≤ns.length∧(∀ g∈ns1,g∈ns)∧za0 w wx (fun b=>b=m∨b∈c::ns)∧IsB wx K (.slice Av 16 kv) x.b)
  case first=>
   cases o with
   | none=>
     unfold ptV;go_wp2_with fail;go_meet;exact ⟨_,_,_,h,(ziI ho).2.symm,ho,Nat.le_refl _,fun g hg=>hg,za0.refl _ _,hv⟩
   | some g=>
     obtain ⟨l,r,rfl⟩:=zgV ho;have hgl:=(zbS ho).2;obtain ⟨hos1,hos2⟩:=zeu h.lbas hgl;rw [hos1] at hold;have hge:¬(dt g).ver > x.ver:=fun h9=>hold (decide_eq_true h9)
     obtain ⟨v,hE,-⟩:=h.nd.en g (zbS ho).1;obtain ⟨q1,f1⟩:=hE.rules;have u1:=hE.lt;have hdr:=zfd h;have hno:fnd dt (l++r) x.lba=none:=by
      have h1:=congrFun (zir h.lbas) x.lba;rw [if_pos hgl.symm] at h1;exact h1.symm
     have hle:(l++r).length≤(l++g::r).length:=by simp
     have hsub:∀ y∈l++r,y∈l++g::r:=fun y hy=>by
      rcases List.mem_append.1 hy with h7 | h7
      · exact List.mem_append_left _ h7
      · exact List.mem_append_right _ (List.mem_cons_of_mem _ h7)
     unfold ptV;have hby:=fun w'=>h.bytes (w':=w') hv
     clear h hv hns hos1;go_wp2_with fail;refine hdr.mono ?_;rintro r' w1 ⟨rfl,⟨ah1,af1,h1⟩,t1⟩;go_wp2_with fail;go_meet;exact ⟨_,_,_,h1,hos2.symm,hno,hle,hsub,t1,hby _ t1⟩
  case rest=>
   obtain ⟨ns1,ah1,af1,h1,hL,hno,hle,hsub,t1,hv1⟩:=hcut;clear hv h ho;rw [←H16.out] at hv1;have hcl:=zay _ x.b K wc hv1;rw [H16.out] at hcl;go_wp2_with fail;refine hcl.mono ?_;rintro r' w2 ⟨A,k,rfl,hown,hb2⟩;have h2:=h1.step hb2;clear h1 hcl hv1;go_upto_region 9 with fail;have hb3:Below w2.heap.size w2 (w2.alloc (.cells #[.int .i64 x.lba,.int .i64 x.ver,.slice A 16 k,.pointer none,.pointer none] 89)):=(Below.refl _ _).alloc (Nat.le_refl _) _;have hE:=Blk.new w2 89 #[.int .i64 x.lba,.int .i64 x.ver,.slice A 16 k,.pointer none,.pointer none] rfl;have h3:=h2.step hb3;have hv2:IsB w2 Kd (.slice A 16 k) x.b:=by
    have:=IsB.of_own (by rw [H16.out];exact hown) (by rw [H16.out];omega)
    rw [H16.out] at this;exact this.more fun b hb=>hKd b (Nat.le_trans t1.size hb)
   have hv3:=hv2.step hb3;have hlt2:=h2.lt;obtain ⟨e,he⟩:∃ e,w2.heap.size=e:=⟨_,rfl⟩;rw [he] at hE hb3 hlt2;rw [he];have hwe:w.heap.size≤e:=by rw [←he];exact Nat.le_trans t1.size hb2.size
   have t3:za0 w (w2.alloc (.cells #[.int .i64 x.lba,.int .i64 x.ver,.slice A 16 k,.pointer none,.pointer none] 89)) (fun b=>b=m∨b∈c::ns):=(t1.trans (za0.of hb2)).trans (za0.of (he ▸ hb3))
   generalize w2.alloc (.cells #[.int .i64 x.lba,.int .i64 x.ver,.slice A 16 k,.pointer none,.pointer none] 89)=w3 at hE hb3 h3 hv3 t3 ⊢;have hen:e∉c::ns1:=fun h9=>absurd (hlt2 e h9) (by omega)
   have hml:ns1.length<maxLen:=by unfold maxLen;omega
   obtain ⟨q0,f0⟩:=h3.nd.ca.rules;have u0:=h3.nd.ca.lt;clear h2 hb2 hb3 hown hv2 hlt2 he t1;go_upto_region 10 with (refine zi8 rfl _ _ _ _ rfl 3 87 Tryz.underlying3 Tryz.underlying86 m _ _ rfl h3.map hml x.lba e rfl rfl (by omega) ?_;intro w4 hM4 hg4)
   have t4:za0 w3 w4 (fun b=>b=m):=⟨hg4.os,hg4.tape,hg4.output,hg4.size,fun k hk hn=>hg4.block k hk (fun e=>hn (by injection e))⟩
   obtain ⟨dt',hdt⟩:∃ dt':Nat→En,dt'=fun g=>if g=e then x else dt g:=⟨_,rfl⟩
   have hde:dt' e=x:=by rw [hdt];exact if_pos rfl
   have hdn:∀ g∈ns1,dt' g=dt g:=fun g hg=>by rw [hdt];exact if_neg (fun h9=>hen (by rw [←h9];exact List.mem_cons_of_mem _ hg))
   have h3':=h3.congr hdn;have hmw:∃ es k,w3.heap[m]?=some (.map es k):=by obtain ⟨D,⟨es,k,hm,_⟩,_⟩:=h3.map;exact ⟨es,k,hm⟩
   have hme:e≠m:=by
    rintro rfl;obtain ⟨es,k,hm⟩:=hmw;unfold Blk at hE;rw [hE] at hm;injection hm with hm;cases hm
   have h4:=h3'.nd.map hmw t4;have hE4:=hE.turned t4 hme;have hv4:=h3.bytes hv3 (t4.mono fun b hb=>.inl hb)
   have hN4:NoB #[.int .i64 x.lba,.int .i64 x.ver,.slice A 16 k,.pointer none,.pointer none]:=znQ _ _ _ _ _;rw [←hde] at hE4 hv4 hN4;have hr1:=h3'.ring;have hq4:af1 c∈c::ns1:=by
    rcases List.mem_append.1 hr1.after_mem with h8 | h8
    · exact List.mem_cons_of_mem _ h8
    · rw [List.mem_singleton.1 h8];exact List.mem_cons_self ..
   have hfi:=zha h4 h3'.ne hen hE4 hN4 hv4 hq4;clear q0 f0 u0 hE hv3;go_wp2_with fail;refine hfi.mono ?_;rintro r' w5 ⟨rfl,h5,t5,-⟩;have hm5:m∉c::e::ns1:=fun h9=>by
    rcases List.mem_cons.1 h9 with h8 | h8
    · exact h3.map_ne (by rw [h8];exact List.mem_cons_self ..)
    · rcases List.mem_cons.1 h8 with h7 | h7
      · exact hme h7.symm
      · exact h3.map_ne (List.mem_cons_of_mem _ h7)
   have hM5:=hM4.turned t5 hm5;rw [hno,←zmk hde hdn] at hM5;have h6:CaAt Kd w5 c m (e::ns1) dt' _ _ most hit miss:=⟨h5,hr1.first hen,hM5,by
    rw [List.map_cons,List.nodup_cons];refine ⟨fun h9=>?_,h3'.lbas⟩
    obtain ⟨g,hg,h8⟩:=List.mem_map.1 h9;have h8:(dt' g).lba=(dt' e).lba:=h8;rw [hde,hdn g hg] at h8;exact zgi hno g hg h8,fun g hg=>by
    rcases List.mem_cons.1 hg with h8 | h8
    · rw [h8,hde];exact HX.out
    · exact h3'.good g h8⟩
   have t6:za0 w w5 (fun b=>b=m∨b∈c::ns):=(((t3.trans (t4.mono fun b hb=>.inl hb)).mono (S':=fun b=>(b=m∨b∈c::ns)∨b∈c::e::ns1) fun b hb=>.inl hb).trans (t5.mono fun b hb=>.inr hb)).fresh fun k hk=>by
    rcases hk with hk | hk
    · exact .inl hk
    · rcases List.mem_cons.1 hk with h8 | h8
      · exact .inl (.inr (by rw [h8];exact List.mem_cons_self ..))
      · rcases List.mem_cons.1 h8 with h7 | h7
        · exact .inr (by omega)
        · exact .inl (.inr (List.mem_cons_of_mem _ (hsub k h7)))
   have hL6:(e::ns1).map dt'=x::zcs (ns.map dt) x.lba:=by
    rw [List.map_cons,hde,←hL];congr 1
    exact List.map_congr_left hdn
   generalize upd (upd ah1 e c) (af1 c) e=ah5 at h6;generalize upd (upd af1 e (af1 c)) c e=af5 at h6;clear h5 hfi h3 h3' h4 hE4 hv4 hN4 hM4 hM5 hg4 t3 t4 t5 hmw hr1 hq4 hL hno hdn hde hdt hml;obtain ⟨q0,f0⟩:=h6.nd.ca.rules;have u0:=h6.nd.ca.lt;have hwl:((ns1.length+1:Nat):Int)≤1000001:=by omega
   have hlen:∀ N ty,(Builtin.len_ #[86] ty #[.map (some m)]).run Tryz.prog (w5.drewN N)=.ok (.int .i64 ((ns1.length+1:Nat):Int)) (w5.drewN N):=fun N ty=>PtrM.len (w:=w5.drewN N) h6.map Tryz.underlying86 ty
   obtain ⟨n1,hn1⟩:∃ n1,ns1.length+1=n1:=⟨_,rfl⟩;rw [hn1] at hlen hwl;have HN1:=Lib.hid hn1;clear hn1 hle;go_upto_region 11 with fail;go_quiet (fail);replace h6:CaAt Kd (w5.drewN nq) c m (e::ns1) dt' ah5 af5 most hit miss:=⟨⟨h6.nd.ca,h6.nd.en⟩,h6.ring,h6.map,h6.lbas,h6.good⟩;replace t6:za0 w (w5.drewN nq) (fun b=>b=m∨b∈c::ns):=⟨t6.os,t6.tape,t6.output,t6.size,t6.block⟩
   replace q0:∀ o,(w5.drewN nq).cell? ⟨c,o,none⟩=(caC most m c (ah5 c) (af5 c) hit miss)[o]?:=q0;replace f0:∀ o,(w5.drewN nq).frozen? ⟨c,o,none⟩=false:=f0;replace u0:c<(w5.drewN nq).heap.size:=u0;have hmem:∀ g∈e::ns1,g∈ns∨w.heap.size≤g:=fun g hg=>by
    rcases List.mem_cons.1 hg with h8 | h8
    · exact .inr (by omega)
    · exact .inl (hsub g h8)
   have hputs:Hid (zel most (ns.map dt) x=zjJ most ((e::ns1).map dt')):=Lib.hid (by
    unfold zel;rw [if_neg hold,hL6])
   have hll:((e::ns1).map dt').length=n1:=by rw [List.length_map,←HN1.out];rfl
   generalize w5.drewN nq=w6 at h6 t6 q0 f0 u0 ⊢;clear hlen hm5 hen hme hL6 HX H16 hsub hold;by_cases hgt:most<(n1:Int)
   case neg=>
    have hgt':¬most<(n1:Int):=hgt;clear hgt;have hgt:¬(n1:Int) > most:=hgt';have HGT:=Lib.hid hgt';clear hgt';go_wp2_with fail;go_ret;refine ⟨rfl,_,⟨_,_,_,h6,?_⟩,t6,hmem⟩;show _=zel _ _ _;rw [hputs.out];unfold zjJ;rw [hll,if_neg (Int.not_lt.2 HGT.out)]
   case pos=>
    have hgt':(n1:Int) > most:=hgt;obtain ⟨l,z,hlz⟩:=zio ns1 e;rw [hlz] at h6 hmem hputs hll;have haz:=h6.ring.last;have hoz:=zeK (c:=c) (g:=z) (fun h9=>h6.ne (by rw [←h9];simp))
    have hdr:=zfd (l:=l) (e:=z) (r:=[]) h6;rw [haz] at q0;rw [List.append_nil,show (Value.pointer (some ⟨z,0,none⟩))=adV c z by unfold adV;rw [hoz]] at hdr
    clear hlz;go_wp2_with fail;refine hdr.mono ?_;rintro r' w7 ⟨rfl,⟨ah7,af7,h7⟩,t7⟩;go_wp2_with fail;go_ret;refine ⟨rfl,_,⟨_,_,_,h7,?_⟩,(t6.mono (S':=fun b=>(b=m∨b∈c::ns)∨w.heap.size≤b) fun b hb=>.inl hb).trans (t7.mono fun b hb=>?_) |>.fresh fun k hk=>hk,fun g hg=>hmem g (List.mem_append_left _ hg)⟩
    · show _=zel _ _ _
      rw [hputs.out];unfold zjJ;rw [hll,if_pos hgt,List.map_append,List.map_cons,List.map_nil,List.dropLast_concat]
    · rcases hb with hb | hb
      · exact .inl (.inl hb)
      · rcases List.mem_cons.1 hb with h8 | h8
        · exact .inl (.inr (by rw [h8];exact List.mem_cons_self ..))
        · rcases hmem b h8 with h9 | h9
          · exact .inl (.inr (List.mem_cons_of_mem _ h9))
          · exact .inr h9
end
end Go.Proofs.YthblkdnijhphhaaGreat
