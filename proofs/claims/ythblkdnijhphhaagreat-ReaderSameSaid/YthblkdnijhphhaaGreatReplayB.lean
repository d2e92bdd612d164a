/- A part of the proof. -/
import Derived.Test.YthblkdnijhphhaaGreatFill24
import Derived.Test.YthblkdnijhphhaaGreatVmap
set_option maxHeartbeats 4000000
set_option maxRecDepth 100000
namespace Go.Proofs.YthblkdnijhphhaaGreat
open Go.RowKit
theorem zda (m:Nat):(Builtin.zeroCells #[.int .u8 0] m).toList=za3 (List.replicate m 0):=by
 have e:za3 (List.replicate m 0)=List.replicate m (.int .u8 0):=by simp only [za3,List.map_replicate];rfl
 rw [e];apply List.ext_getElem
 · simp [Builtin.zeroCells]
 · intro i h1 h2
   simp [Builtin.zeroCells,Nat.mod_one]
theorem zem {P:Program} (w:World) (base:Nat) (t tn ty e:TypeId) (i:TypeInfo) (kq kn:IntKind) (ht:P.underlying t=some (.slice e)) (htn:P.underlying tn=some (.int kn)) (hi:P.info? e=some i) (hz:i.zero=some (.int .u8 0))
 (hsize:i.size=1) (hby:i.bytes=1) {v:Value} {n:Nat} {xs:List Value} (hown:w.ownsRow base e 1 v n xs) (m:Nat) (hm:n+m≤140737488355328) (hbase:base≤w.heap.size) :
 ∃ v' w',(Builtin.append_ #[t,tn] ty #[v,.int kq m]).run P w=.ok v' w'∧w'.ownsRow base e 1 v' (n+m) (xs++za3 (List.replicate m 0))∧w.grownBy w' v.ownBlock:=by
 have hxl:xs.length=n:=by simpa using hown.1
 have hlen:(xs++za3 (List.replicate m 0)).length=(n+m)*1:=by rw [List.length_append,hxl,zb7,List.length_replicate,Nat.mul_one]
 have hz1:(Value.int .u8 0).cells=#[.int .u8 0]:=rfl;have hzc:∀ k,(Builtin.zeroCells #[.int .u8 0] k).size=k:=fun k=>by rw [size_zeroCells];simp
 have hzt:Builtin.zeroCells #[.int .u8 0] m=(za3 (List.replicate m 0)).toArray:=by rw [←zda,Array.toArray_toList]
 have hw:IntKind.i64.wrap (m:Int)=m:=by rw [IntKind.wrap_i64];omega
 have hneg:¬((m:Int)<0):=by omega
 have h48:¬(281474976710656<(m:Int)):=by omega
 have grown:∀ (old:Nat),old<n+m →
  (w.drew.alloc (.cells (xs.toArray++Builtin.zeroCells #[.int .u8 0] m++Builtin.zeroCells #[.int .u8 0] (grownCap w (n+m) old e-(n+m))) e)).ownsRow base e 1
   (.slice (some ⟨w.heap.size,0,none⟩) (n+m) (grownCap w (n+m) old e)) (n+m) (xs++za3 (List.replicate m 0)) ∧
  ∀ row,w.grownBy (w.drew.alloc (.cells (xs.toArray++Builtin.zeroCells #[.int .u8 0] m++Builtin.zeroCells #[.int .u8 0] (grownCap w (n+m) old e-(n+m))) e)) row:=by
  intro old ho;have hge:=grownCap_ge w (n+m) old e;have hcm:grownCap w (n+m) old e≤maxLen:=grownCap_le_maxLen w (n+m) old e (by simp only [maxLen];omega)
  refine ⟨⟨hlen,.inr ⟨w.heap.size,_,_,rfl,hbase,heap_alloc_new w.drew _,hge,hcm,?_,?_⟩⟩,fun row=>⟨rfl,rfl,rfl,by simp,fun k hk _=>Go.heap_alloc_old w.drew _ (by exact hk)⟩⟩
  · simp only [Array.size_append,List.size_toArray,hzc,hxl]
    omega
  · simp only [Array.toList_append,hzt]
    rw [←hlen];exact List.take_left
 rcases hown.2 with ⟨rfl,rfl⟩ | ⟨g,cap,cur,rfl,hbg,hg,hnc,hcm,hcs,htake⟩
 · have hx:xs=[]:=List.eq_nil_of_length_eq_zero hxl
   subst hx;rcases Nat.eq_zero_or_pos m with h0 | h0
   · subst h0
     refine ⟨.slice none 0 0,w,?_,World.ownsRow_nil w base e 1,World.grownBy.refl w _⟩;simp [Builtin.append_,run_underlying ht,run_underlying htn,sizeOf,typeInfo,hi,asInt,asIntOf,IntKind.wrap_i64]
   · have hr:=Lib.run_append_nil_zeros w t tn ty e i (.int .u8 0) kq kn ht htn hi hz m h0 (by omega) (by omega) (by rw [hby];omega)
     have hgr:=grown 0 (by omega)
     simp only [Nat.zero_add,List.nil_append,Array.empty_append] at hgr ⊢;rw [hz1] at hr;exact ⟨_,_,hr,hgr.1,hgr.2 _⟩
 · by_cases hroom:n+m≤cap
   · have hfit:n+(za3 (List.replicate m 0)).length≤cur.size:=by rw [zb7,List.length_replicate,hcs];omega
     have hst:=run_storeCells_at P g n e (za3 (List.replicate m 0)) 0 cur w hg (by omega) (zan _)
     simp only [Nat.add_zero] at hst;have hrun:(Builtin.append_ #[t,tn] ty #[.slice (some ⟨g,0,none⟩) n cap,.int kq m]).run P w=.ok (.slice (some ⟨g,0,none⟩) (n+m) cap) (w.setRow g (cur.toList.take n++za3 (List.replicate m 0)++cur.toList.drop (n+(za3 (List.replicate m 0)).length)).toArray):=by
      rcases Nat.eq_zero_or_pos m with h0 | h0
      · subst h0
        simp only [List.replicate_zero,za3,List.map_nil] at hst;simp [Builtin.append_,run_underlying ht,run_underlying htn,sizeOf,typeInfo,zeroValue,hi,hz,asInt,asIntOf,hsize,hby,hnc,Addr.add_lit,hst,za3,IntKind.wrap_i64]
      · have hm0:m≠0:=by omega
        simp [Builtin.append_,run_underlying ht,run_underlying htn,sizeOf,typeInfo,zeroValue,hi,hz,asInt,asIntOf,hw,hneg,h48,hsize,hby,hroom,hm0,hz1,hzt,Addr.add_lit,hst]
     refine ⟨_,_,hrun,⟨hlen,.inr ⟨g,cap,_,rfl,hbg,setRow_heap w g cur _ e _ hg,hroom,hcm,?_,?_⟩⟩,⟨rfl,rfl,rfl,by simp,fun k _ hk=>setRow_other w g k _ (fun e=>hk (by simp [Value.ownBlock,e]))⟩⟩
     · simp only [List.size_toArray,List.length_append,List.length_take,List.length_drop,Array.length_toList]
       omega
     · have ht':cur.toList.take n=xs:=by simpa using htake
       rw [ht',←hlen];exact List.take_left
   · have holds:∀ j u,xs[j]?=some u→w.cell? ((⟨g,0,none⟩:Addr).add j)=some u:=hown.cells (g:=g) rfl
     have hold:(Builtin.firstCells i.size n (.slice (some ⟨g,0,none⟩) n cap)).run P w.drew=.ok xs.toArray w.drew:=by
      rw [hsize];exact run_firstCells_some (P:=P) w.drew 1 n ⟨g,0,none⟩ n cap xs hown.1 holds
     have hm0:0<m:=by omega
     have hr:=Lib.run_append_grow_zeros w t tn ty e i (.int .u8 0) kq kn ht htn hi hz (some ⟨g,0,none⟩) n cap xs hold m hm0 (by omega) (by omega) (by omega) (by rw [hby];omega) (by rw [hby];exact growslice_fits (by omega) (by omega))
     have hgr:=grown cap (by omega)
     rw [hz1] at hr;exact ⟨_,_,hr,hgr.1,hgr.2 _⟩
theorem zil {P:Program} {w:World} {ops:Array Oper} {rest:List Oper} {o:Oper} {a:Act} {Q:Exit→Act→World→Prop} (hgd:o.guard=none) (s x:Operand) (t tn:TypeId)
 (ho:o.op=.call { callee:=.builtin .append,args:=#[s,x],argTypes:=#[t,tn] })
 (base:Nat) (e:TypeId) (i:TypeInfo) (kq kn:IntKind) (ht:P.underlying t=some (.slice e)) (htn:P.underlying tn=some (.int kn)) (hi:P.info? e=some i) (hz:i.zero=some (.int .u8 0))
 (hsize:i.size=1) (hby:i.bytes=1)
 {v:Value} {n:Nat} {xs:List Value} (hs:a.eval s=v) (hown:w.ownsRow base e 1 v n xs) (m:Nat) (hx:a.eval x=.int kq m) (hm:n+m≤140737488355328) (hbase:base≤w.heap.size)
 (h:∀ A' c' w',w'.ownsRow base e 1 (.slice A' (n+m) c') (n+m) (xs++za3 (List.replicate m 0))→Below base w w'→wpList P ops Q rest (a.put o.dst (.slice A' (n+m) c')) w') :
 wpList P ops Q (o::rest) a w:=
 wpList_plain hgd fun _ hK=>by
  obtain ⟨v',w',hrun,h2,h3⟩:=zem (P:=P) w base t tn o.type e i kq kn ht htn hi hz hsize hby hown m hm hbase;obtain ⟨A',c',rfl⟩:=zcb h2;unfold Oper.wp execOp;simp only [ho,resolve,invoke,builtin,Sem.run_bind,Sem.run_pure,Result.andThen_ok,List.map_toArray,List.map_cons,List.map_nil,hs,hx,hrun];exact hK _ _ (h A' c' w' h2 ((Below.refl _ _).grown h3 hbase (zdb hown)))
def FitP (zs:List Zn) (p:Ex):Prop:=0<p.n∧-1≤p.zone∧(p.zone<0∨∃ k o:Nat,p.zone=k∧p.off=o∧k<zs.length∧o+(16*p.n).toNat≤(zs.getD k z0).d.length)
def zb3 (zs:List Zn) (p:Ex):List UInt8:=if p.zone<0 then zaI (16*p.n).toNat else ((zs.getD p.zone.toNat z0).d.drop p.off.toNat).take (16*p.n).toNat
theorem zdA {zs:List Zn} {p:Ex} (h:FitP zs p):(zb3 zs p).length=(16*p.n).toNat:=by
 obtain ⟨h1,h2,h3⟩:=h;unfold zb3;split
 · unfold zaI;rw [List.length_replicate]
 · rcases h3 with h3 | ⟨k,o,e1,e2,h4,h5⟩
   · omega
   · rw [e1,e2,Int.toNat_natCast,Int.toNat_natCast,List.length_take,List.length_drop]
     omega
theorem zdc {zs:List Zn}:∀ (l:List Ex) (out:List UInt8),(∀ p∈l,FitP zs p)→zcl zs l out=(out++l.flatMap (zb3 zs),0)
 | [],out,_=>by simp [zcl]
 | p::l,out,h=>by
   obtain ⟨h1,h2,h3⟩:=h p (List.mem_cons_self ..);have ih:=fun out=>zdc l out fun q hq=>h q (List.mem_cons_of_mem _ hq)
   unfold zcl;rw [List.flatMap_cons,←List.append_assoc];unfold zb3;by_cases hz:p.zone<0
   · rw [if_pos hz,if_pos hz,ih]
     rfl
   · rcases h3 with h3 | ⟨k,o,e1,e2,h4,h5⟩
     · exact absurd h3 hz
     · rw [if_neg hz,if_neg hz,if_neg,ih]
       · rfl
       · rw [e1,e2,Int.toNat_natCast]
         omega
theorem ziA {zs:List Zn}:∀ (l:List Ex) (a z:Int),zdG a l z→(∀ p∈l,FitP zs p)→((l.flatMap (zb3 zs)).length:Int)=16*(z-a)
 | [],a,z,h,_=>by
   have:a=z:=h;subst this;simp
 | p::l,a,z,h,hf=>by
   obtain ⟨rfl,h1,h2⟩:=h;have ih:=ziA l _ _ h2 fun q hq=>hf q (List.mem_cons_of_mem _ hq)
   rw [List.flatMap_cons,List.length_append,zdA (hf p (List.mem_cons_self ..))];unfold endE at ih;omega
theorem ziP {zs:List Zn} {m:List Ex} {lba n:Int} (hm:za2 0 m) (hb:za9 lba n) (hf:FitE zs m):∀ p∈lookE m lba n,FitP zs p∧p.n≤n:=by
 intro p hp;obtain ⟨g1,_,_⟩:=zc3 hm hb;obtain ⟨h1,h2,h3,h4⟩:=g1 p hp;unfold endE at h3;refine ⟨⟨h1,?_⟩,by omega⟩
 rcases h4 with ⟨⟨_,g,_⟩,_⟩ | ⟨hmay,hs⟩
 · exact ⟨by omega,.inl (by omega)⟩
 · have hmay':=hmay
   obtain ⟨_,_,k1,k2,k3,k4,_⟩:=hmay;refine ⟨k1,?_⟩;by_cases hz:p.zone<0
   · exact .inl hz
   · have hl:=hs (endE p-1) (by unfold hasE endE;simp;omega)
     have h5:=hf _ _ hl;have hz1:¬p.zone = -1:=by omega
     unfold seeE endE at h5;simp only [hz1,if_false] at h5;rcases h5 with h5 | ⟨h5,h6,h7⟩
     · omega
     · refine .inr ⟨p.zone.toNat,p.off.toNat,by omega,by omega,by omega,?_⟩
       omega
theorem zhS {zs:List Zn} (l:List Ex) {j:Nat} (hj:j<l.length):(l.take (j+1)).flatMap (zb3 zs)=(l.take j).flatMap (zb3 zs)++zb3 zs l[j]:=by
 rw [zdo (r:=l[j]) _ (List.getElem?_eq_getElem hj),List.flatMap_append];simp
theorem zee {zs:List Zn}:∀ (l:List Ex),(∀ p∈l,FitP zs p)→l.length≤(l.flatMap (zb3 zs)).length
 | [],_=>Nat.zero_le _
 | p::l,h=>by
   have ih:=zee l fun q hq=>h q (List.mem_cons_of_mem _ hq)
   have h1:=zdA (h p (List.mem_cons_self ..));have h2:=(h p (List.mem_cons_self ..)).1;rw [List.flatMap_cons,List.length_append,h1,List.length_cons];omega
theorem zlO {zs:List Zn} (l:List Ex) (j:Nat):((l.take j).flatMap (zb3 zs)).length≤(l.flatMap (zb3 zs)).length:=by
 have h:=List.take_append_drop j l;rw [←congrArg (fun l=>(l.flatMap (zb3 zs)).length) h]
 simp only [List.flatMap_append,List.length_append];omega
theorem ze0 (d:Zd) (A:Option Addr) (c:Nat) (Am:Option Addr) (cm:Nat) (m:List Ex) (lba n:Int) (K K':Nat→Prop) (w:World) (hv:IsL Rp.zone w K (.slice A d.z.length c) d.z) (hm:IsL Rp.ex w K' (.slice Am m.length cm) m) (hd:okD d)
 (hch:za2 0 m) (hb:za9 lba n) (hn:n≤4096) (hf:FitE d.z m) :
 Calls Tryz.prog 30 #[.agg #[.int .i64 d.cap,.int .i64 d.opn,.int .i64 d.act,.slice A d.z.length c],.slice Am m.length cm,.int .i64 lba,.int .i64 n] w fun e w'=>
  ∃ A4 c4,e=.returned (.tuple #[.slice A4 (zbp d.z m lba n).1.length c4,.int .i64 0])∧w'.ownsRow w.heap.size 5 1 (.slice A4 (zbp d.z m lba n).1.length c4) (zbp d.z m lba n).1.length (za3 (zbp d.z m lba n).1)∧Below w.heap.size w w':=by
 obtain ⟨i0,hi,hz0,hz1,hz2⟩:=info_parts Tryz.info5;have hlk:=fun W h=>zf1 Am cm m lba n K' W h hch hb
 have hft:=ziP hch hb hf;obtain ⟨h1,h2,_⟩:=zbJ hch hb;have htl:zdG lba (lookE m lba n) (lba+n):=zcy _ _ _ h1 h2;have hby:(zbp d.z m lba n).1=(lookE m lba n).flatMap (zb3 d.z):=by
  unfold zbp;have hc:chkE m=0:=by unfold chkE;rw [if_pos hch]
  rw [if_neg (by rw [hc];simp [hb]),if_neg (by omega),zdc _ _ fun p hp=>(hft p hp).1]
  rfl
 have htot:=ziA _ _ _ htl fun p hp=>(hft p hp).1
 have hcnt:=zee _ fun p hp=>(hft p hp).1
 rw [hby];clear h1 h2 htl hf hby hch;have hzl:∀ z∈d.z,z.d.length≤1000000000:=fun z hz=>by
  obtain ⟨h1,h2,h3,h4⟩:=hd.2.2.2 z hz;have:=hd.1;omega
 have hn64:=hd.1.2.1;clear hd;obtain ⟨zs,hzs⟩:∃ zs,d.z=zs:=⟨_,rfl⟩;rw [hzs] at hv hft htot hcnt hzl hn64 ⊢;obtain ⟨zn,hzn⟩:∃ zn,zs.length=zn:=⟨_,rfl⟩;rw [hzn] at hv hn64 ⊢;have hb2:=hb.2.1;have HV:=hv;have E:=((Kn.start w).give za1.list hv).push 27 #[.int .i64 d.cap,.int .i64 d.opn,.int .i64 d.act,.slice A zn c];generalize lookE m lba n=lk at hlk hft htot hcnt ⊢;obtain ⟨tot,htt⟩:∃ tot,(lk.flatMap (zb3 zs)).length=tot:=⟨_,rfl⟩;have hple:=fun j=>zlO (zs:=zs) lk j
 have hptk:=fun j (hj:j<lk.length)=>zhS (zs:=zs) lk hj
 rw [htt] at htot hcnt ⊢;have htot5:tot≤65536:=by omega
 obtain ⟨ln,hln⟩:∃ ln,lk.length=ln:=⟨_,rfl⟩;rw [hln] at hlk hcnt;obtain ⟨m',hm'⟩:∃ m',m.length=m':=⟨_,rfl⟩;rw [hm'] at hm hlk ⊢;have HLN:=Lib.hid hln;have HTT:=Lib.hid htt;have HFT:=Lib.hid hft;have HPL:=Lib.hid hple;have HPT:=Lib.hid hptk;have HZL:=Lib.hid hzl;have HZN:=Lib.hid hzn;clear hln htt hft hple hptk hzl hzn htot hb hv hzs hm';have n1:n*16≤65536:=by omega
 obtain ⟨N,hN⟩:∃ N:Nat,n*16=(N:Int):=⟨(n*16).toNat,by omega⟩
 have hN2:N≤65536:=by omega
 obtain ⟨q0,f0,t0⟩:=E.rules m0;go_enter Tryz.func30,Tryz.ntmps30
 go_wp2_with fail;refine (hlk _ (hm.alloc _)).mono ?_;rintro x w2 ⟨Ao,co,rfl,own2,hb2'⟩;replace E:=E.step hb2';clear hlk hm hb2' q0 f0 t0;have hs2:=E.below.size;go_wp2_with (at_make;refine wpList_make_own _ rfl _ _ 32 rfl w2.heap.size 5 i0 _ 1 Tryz.underlying32 hi hz0 hz1 _ _ _ N rfl rfl (by first | rfl | omega) (by rw [hz2];omega) (by unfold maxLen;omega) (Nat.le_refl _) ?_;intro w3 own3 hg3)
 have hb3:Below w2.heap.size w2 w3:=(Below.refl _ _).grown hg3 (Nat.le_refl _) (fun k hk=>by cases hk)
 have hsw:w.heap.size<w2.heap.size:=(E.rules m0).2.2;replace E:=E.give za1.ownI' own2;clear own2 hg3;go_loopw [12,14,15,35] (fun x12 x14 x15 x35 wr=>∃ (j t:Nat) (Ab:Option Addr) (cb:Nat),x35=.int .i64 j∧j≤ln∧x12=.slice Ab t cb∧Hid (((lk.take j).flatMap (zb3 zs)).length=t)∧t≤65536∧wr.ownsRow w2.heap.size 5 1 (.slice Ab t cb) t (za3 ((lk.take j).flatMap (zb3 zs)))∧Below w2.heap.size w2 wr∧(∃ y,x14=y)∧∃ y,x15=y) (fun _ _ _ x35 _=>ln-(intOf x35).toNat)
 case atStart=>exact ⟨0,0,_,_,rfl,Nat.zero_le _,rfl,Lib.hid rfl,Nat.zero_le _,own3,hb3,⟨_,rfl⟩,_,rfl⟩
 case round=>
  obtain ⟨j,t,Ab,cb,rfl,hj,rfl,htj,ht5,hown,hb,⟨y,rfl⟩,y',rfl⟩:=hrel;clear own3 hb3;have F:=E.step hb;have hsr:=hb.size;by_cases hlt:j<ln
  case neg=>
   obtain rfl:j=ln:=by omega
   rw [List.take_of_length_le (by rw [HLN.out];exact Nat.le_refl _)] at hown htj
   obtain rfl:t=tot:=by rw [←htj.out,HTT.out]
   clear E;go_wp2;refine bodyPost_ret (v:=.tuple #[.slice Ab t cb,.int .i64 0]) (by simp [results,Tryz.results30,go_sem]) rfl ⟨Ab,cb,rfl,zac hown (by omega),F.below⟩
  have hlt':j<lk.length:=by rw [HLN.out];exact hlt
  have HT:=Lib.hid (HPT.out j hlt');have hle:=HPL.out (j+1);rw [HPT.out j hlt',List.length_append,htj.out,HTT.out] at hle;obtain ⟨hfit,hpn⟩:=HFT.out _ (List.getElem_mem hlt');rw [zdA hfit] at hle;have hpl:=Lib.hid (zdA hfit);obtain ⟨adx,rfl,-,c0,c1,c2,c3,c4⟩:=zb9 (zaA (F.get m0) HLN.out (by omega)) (List.getElem?_eq_getElem hlt')
  generalize lk[j]=p at HT hfit hpn hle hpl c0 c1 c2 c3 c4;obtain ⟨p1,p2,p3⟩:=hfit;obtain ⟨plba,pn,pver,pzone,poff⟩:=p;simp only at hpn hle p1 p2 p3 c0 c1 c2 c3 c4;have HP3:=Lib.hid p3;clear p3;obtain ⟨q,rfl⟩:∃ q:Nat,pn=(q:Int):=⟨pn.toNat,by omega⟩
  have e16:(16*(q:Int)).toNat=q*16:=by omega
  rw [e16] at hle;have j1:(j:Int)<(ln:Int):=by omega
  have j0:(0:Int)≤(j:Int):=by omega
  by_cases hz:pzone<0
  · have hpc:zb3 zs ⟨plba,q,pver,pzone,poff⟩=zaI (q*16):=by unfold zb3;rw [if_pos hz,e16]
    rw [hpc] at HT;clear hpl hpc;go_wp2_with (at_builtin;refine zil rfl (.tmp 45) (.tmp 46) _ _ rfl w2.heap.size 5 i0 .i64 .i64 Tryz.underlying32 Tryz.underlying3 hi hz0 hz1 hz2 rfl (hown.alloc _) (q*16) rfl (by omega) (by rw [World.size_alloc];omega) ?_;intro A5 c5 w5 own5 hb5)
    go_roundw
    case rel=>
     refine ⟨j+1,t+q*16,A5,c5,by go_num,by omega,rfl,Lib.hid ?_,by omega,?_,(hb.alloc hsr _).trans (hb5.mono (Nat.le_refl _)),⟨_,rfl⟩,_,rfl⟩
     · rw [HT.out,List.length_append,htj.out];unfold zaI;rw [List.length_replicate]
     · rw [HT.out,zaH];exact own5
    case measure=>simp [intOf];omega
  obtain ⟨k,o,rfl,rfl,hk,hko⟩:=HP3.out.resolve_left hz;have hgd:zs.getD k z0=zs[k]:=by rw [List.getD_eq_getElem?_getD,List.getElem?_eq_getElem hk];rfl
  have hpc:zb3 zs ⟨plba,q,pver,k,o⟩=(zs[k].d.drop o).take (q*16):=by unfold zb3;simp only;rw [if_neg hz,e16,Int.toNat_natCast,Int.toNat_natCast,hgd]
  rw [hgd] at hko;rw [hpc] at HT;have hln:=HZL.out _ (List.getElem_mem hk);obtain ⟨adz,B,cB,rfl,-,-,hB,d0,d1,d2⟩:=IsL.zone_at HV (List.getElem?_eq_getElem hk);generalize zs[k]=z at HT hko hln hB d0 d1 d2;clear hgd hpc hpl;have HZA:Hid (∀ W,Below w.heap.size w W→W.cell? ⟨(adz.add (k*3)).block,(adz.add (k*3)).off+2,none⟩=some (.slice B z.d.length cB)):=Lib.hid fun W h=>(zhb.step ⟨d0,d1,d2⟩ h).2.2
  have HZB:Hid (∀ W,Below w.heap.size w W→IsB W K (.slice B z.d.length cB) z.d):=Lib.hid fun W h=>hB.step h
  obtain ⟨_,_,hzc,hzc2,_⟩:=hB.open_;clear hB d0 d1 d2;have hko':(o:Nat)+q*16≤z.d.length:=by rw [e16] at hko;exact hko
  obtain ⟨zl,hzl⟩:∃ zl,z.d.length=zl:=⟨_,rfl⟩;rw [hzl] at hko' hln HZA HZB hzc;have HZL2:=Lib.hid hzl;have hkn:k<zn:=by rw [←HZN.out];exact hk
  clear hko hk hzl;have k1:(k:Int)<(zn:Int):=by omega
  have k0:(0:Int)≤(k:Int):=by omega
  have k4:IntKind.i64.wrap ((zl:Int)-(q:Int)*16)=(zl:Int)-(q:Int)*16:=IntWalk.i64_in _ (by omega)
  have k2:(o:Int)≤(zl:Int)-(q:Int)*16:=by omega
  have k3:¬zn≤k:=by omega
  go_upto_region 13 with fail;replace F:=F.push 85 #[.int .i64 plba,.int .i64 q,.int .i64 pver,.int .i64 k,.int .i64 o];have hbx:=hb.alloc hsr (.cells #[.int .i64 plba,.int .i64 q,.int .i64 pver,.int .i64 k,.int .i64 o] 85);replace hown:=hown.alloc (.cells #[.int .i64 plba,.int .i64 q,.int .i64 pver,.int .i64 k,.int .i64 o] 85);clear c0 c1 c2 c3 c4 hb E;generalize wr.alloc (.cells #[.int .i64 plba,.int .i64 q,.int .i64 pver,.int .i64 k,.int .i64 o] 85)=w1 at F hbx hown ⊢;obtain ⟨q0,f0,t0⟩:=F.rules m0;obtain ⟨q1,f1,t1⟩:=F.rules m1;have d2:=HZA.out _ F.below;go_quiet (fail);go_upto_region 15 with fail;generalize hw5:w1.drewN nq=w5;have hb5:Below w1.heap.size w1 w5:=by rw [←hw5];exact zaF (Below.refl _ _) _
  clear hw5 q0 f0 t0 q1 f1 t1 d2;replace F:=F.step hb5;replace hown:=za4 hown hb5 (Nat.le_refl _);replace hbx:=hbx.trans (hb5.mono hbx.size);clear hb5 w1;have hb6:Below w5.heap.size w5 w5.drew:=(Below.refl _ _).drew;replace F:=F.step hb6;replace hown:=za4 hown hb6 (Nat.le_refl _);replace hbx:=hbx.trans (hb6.mono hbx.size);generalize hw6:w5.drew=w6 at F hown hbx hb6;have B0:=F.at_ m0;have B1:=F.at_ m1;have hS:(∀ i,w6.cell? ⟨wr.heap.size,i,none⟩=(#[.int .i64 plba,.int .i64 q,.int .i64 pver,.int .i64 k,.int .i64 o]:Array Value)[i]?)∧(∀ i,w6.cell? ⟨w.heap.size,i,none⟩=(#[.int .i64 d.cap,.int .i64 d.opn,.int .i64 d.act,.slice (some adz) zn c]:Array Value)[i]?)∧w6.cell? ⟨(adz.add (k*3)).block,(adz.add (k*3)).off+2,none⟩=some (.slice B zl cB):=⟨B0.rules.1,B1.rules.1,HZA.out _ F.below⟩;have hcut:=((HZB.out _ F.below).mid (i:=o) (k:=q*16) (c':=cB-o) (by rw [HZL2.out];exact hko') (by omega) (by omega)).open_.2.1
  have hne:¬cB=o:=by omega
  obtain ⟨M,hM⟩:∃ M,o+q*16=M:=⟨_,rfl⟩;have k5:IntKind.i64.wrap ((o:Int)+(q:Int)*16)=(M:Int):=by rw [IntWalk.i64_in _ (by omega)];omega
  have k6:(M:Int)≤(cB:Int):=by omega
  have k7:o≤M:=by omega
  have k8:M-o=q*16:=by omega
  have k9:(0:Int)≤(M:Int):=by omega
  have hcl:(List.take (q*16) (List.drop o z.d)).length=q*16:=by rw [List.length_take,List.length_drop,HZL2.out];omega
  rw [hcl] at hcut;have HCL:=Lib.hid hcl;clear hM hcl k1 k2 k3 k4;refine wp_region_held_drew (S:=fun W=>(∀ i,W.cell? ⟨wr.heap.size,i,none⟩=(#[.int .i64 plba,.int .i64 q,.int .i64 pver,.int .i64 k,.int .i64 o]:Array Value)[i]?)∧(∀ i,W.cell? ⟨w.heap.size,i,none⟩=(#[.int .i64 d.cap,.int .i64 d.opn,.int .i64 d.act,.slice (some adz) zn c]:Array Value)[i]?)∧W.cell? ⟨(adz.add (k*3)).block,(adz.add (k*3)).off+2,none⟩=some (.slice B zl cB)) (by kernel_rfl) (by rw [hw6];exact hS) (fun hHeld=>?_)
  rw [hw6] at hHeld ⊢;clear hw6;refine wT 0 69 ?_;refine wT 1 70 ?_;refine wT 2 71 ?_;refine wT 3 72 ?_;refine wT 4 73 ?_;refine wT 5 74 ?_;refine wT 6 75 ?_;refine wT 7 76 ?_;refine wT 8 77 ?_;refine wT 9 78 ?_;refine wT 10 79 ?_;refine wT 11 80 ?_;refine wT 12 81 ?_;refine wT 13 82 ?_;refine wT 14 83 ?_;refine wR 15 84 (fun K hK=>?_)
  refine zk8 (by rfl) (.tmp 69) (.tmp 83) _ (by rfl) w2.heap.size 5 i0 _ 1 1 Tryz.underlying32 hi hz0 hz1 hz2 rfl (by omega) (by rfl) hown (by rfl) hcut (zan _) (by simp only [maxLen];omega) (by omega) hbx.size ?_
  intro A8 c8 w7 own8 hg8;go_simp;have hb7:=F.below.trans (hg8.below.mono hs2);refine hK.out _ _ ⟨(B0.grew hown (by decide) hg8).rules.1,(B1.grew hown (by decide) hg8).rules.1,HZA.out _ hb7⟩ (fun hHeld=>?_)
  clear hK K;refine wT 16 12 ?_;refine wpAnyH_done (by kernel_rfl) ?_ _
  go_wp2;go_roundw
  case rel=>
   refine ⟨j+1,t+q*16,A8,c8,by go_num,by omega,rfl,Lib.hid ?_,by omega,?_,hbx.trans hg8.below,⟨_,rfl⟩,_,rfl⟩
   · rw [HT.out,List.length_append,htj.out,HCL.out]
   · rw [HT.out,zaH];exact own8
  case measure=>simp [intOf];omega
theorem zfl (l m:List Ex):zb6 (l++m)=zb6 l+zb6 m:=by
 induction l with
 | nil=>simp [zb6]
 | cons e l ih=>simp only [List.cons_append,zb6,ih];omega
theorem zho {l:List Ex} {j:Nat} (hj:j<l.length):zb6 (l.take (j+1))=zb6 (l.take j)+l[j].n:=by
 rw [List.take_succ_eq_append_getElem hj,zfl];simp [zb6]
theorem zih:∀ (l:List Ex) (c:Int),za2 c l→c+zb6 l≤lastE c l∧0≤zb6 l
 | [],c,_=>⟨by simp [zb6,lastE],Int.le_refl _⟩
 | e::l,c,h=>by
   have ih:=zih l (endE e) h.2.2;have hp:=h.1.pos;have h2:=h.2.1;simp only [zb6,lastE];unfold endE at ih ⊢;omega
theorem zfi:∀ (l:List Ex) (c:Int),c≤1099511627776→za2 c l→lastE c l≤1099511627776
 | [],_,hc,_=>hc
 | e::l,c,_,h=>zfi l (endE e) (by have:=h.1.1;unfold za9 at this;unfold endE;omega) h.2.2
theorem zl1 (A:Option Addr) (c:Nat) (l:List Ex) (K:Nat→Prop) (w:World) (hv:IsL Rp.ex w K (.slice A l.length c) l) (hch:za2 0 l) :
 Calls Tryz.prog 112 #[.slice A l.length c] w fun x w'=>x=.returned (.int .i64 (zb6 l))∧Below w.heap.size w w':=by
 have hck:=fun W h=>zaV (.slice A l.length c) l K W h
 have hc0:chkE l=0:=by unfold chkE;rw [if_pos hch]
 rw [hc0] at hck;have E:=(Kn.start w).give za1.list hv;have hlen:=hv.len;have hb:=fun j=>And.intro (zih (l.take j) 0 (zdL j hch)) (zfi (l.take j) 0 (by decide) (zdL j hch))
 have HB:=Lib.hid hb;obtain ⟨n,hn⟩:∃ n,l.length=n:=⟨_,rfl⟩;rw [hn] at hck E hlen ⊢;have HN:=Lib.hid hn;clear hn hv hc0 hch hb;go_enter Tryz.func112,Tryz.ntmps112
 go_wp2_with fail;refine (hck _ (E.get m0)).mono ?_;rintro x w2 ⟨rfl,hb2⟩;replace E:=E.step hb2;clear hck hb2;go_wp2_with fail;go_loopw [2,4,10] (fun x2 x4 x10 wr=>∃ j:Nat,x10=.int .i64 j∧j≤n∧x2=.int .i64 (zb6 (l.take j))∧Below w2.heap.size w2 wr∧∃ y,x4=y) (fun _ _ x10 _=>n-(intOf x10).toNat)
 case atStart=>exact ⟨0,rfl,Nat.zero_le _,rfl,Below.refl _ _,_,rfl⟩
 case round=>
  obtain ⟨j,rfl,hj,rfl,hb,y,rfl⟩:=hrel;have F:=E.step hb;by_cases hlt:j<n
  case neg=>
   obtain rfl:j=n:=by omega
   rw [List.take_of_length_le (by rw [HN.out];exact Nat.le_refl _)]
   clear E;go_wp2;go_ret;exact ⟨rfl,F.below⟩
  have hlt':j<l.length:=by rw [HN.out];exact hlt
  have HM:=Lib.hid (zho hlt');have b0:=HB.out j;have b1:=HB.out (j+1);rw [HM.out] at b1;obtain ⟨ad,rfl,hK,c0,c1,c2,c3,c4⟩:=zb9 (F.get m0) (List.getElem?_eq_getElem hlt');generalize l[j]=e at HM c0 c1 c2 c3 c4 b1;obtain ⟨M0,hM0⟩:∃ M0,zb6 (l.take j)=M0:=⟨_,rfl⟩;rw [hM0] at HM b0 b1 ⊢;have j1:(j:Int)<(n:Int):=by omega
  have j0:(0:Int)≤(j:Int):=by omega
  have q0:0≤M0+e.n∧M0+e.n≤1099511627776:=by omega
  clear hM0 b0 b1;have q1:=q0.1;have q2:=q0.2;go_wp2_with fail;go_roundw
  case rel=>exact ⟨j+1,by go_num,by omega,by rw [HM.out],hb.alloc hb.size _,_,rfl⟩
  case measure=>simp [intOf];omega
end Go.Proofs.YthblkdnijhphhaaGreat
