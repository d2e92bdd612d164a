/- A part of the proof. -/
import Derived.Test.YtcapmeefiglfjaaGreatFill24
import Derived.Test.YtcapmeefiglfjaaGreatVmap
set_option maxHeartbeats 4000000
set_option maxRecDepth 100000
namespace Go.Proofs.YtcapmeefiglfjaaGreat
open Go.RowKit
theorem jY (m:Nat):(Builtin.zeroCells #[.int .u8 0] m).toList=aE (List.replicate m 0):=by
 have e:aE (List.replicate m 0)=List.replicate m (.int .u8 0):=by simp only [aE,zjY];rfl
 rw [e];apply List.ext_getElem
 · simp [Builtin.zeroCells]
 · intro i h1 h2
   simp [Builtin.zeroCells,Nat.mod_one]
theorem nB {P:Program} (w:World) (base:Nat) (t tn ty e:TypeId) (i:TypeInfo) (kq kn:IntKind) (ht:P.underlying t=some (.slice e)) (htn:P.underlying tn=some (.int kn)) (hi:P.info? e=some i) (hz:i.zero=some (.int .u8 0))
 (hsize:i.size=1) (hby:i.bytes=1) {v:Value} {n:Nat} {xs:List Value} (hown:w.ownsRow base e 1 v n xs) (m:Nat) (hm:n+m≤140737488355328) (hbase:base≤w.heap.size) :
 ∃ v' w',(Builtin.append_ #[t,tn] ty #[v,.int kq m]).run P w=.ok v' w'∧w'.ownsRow base e 1 v' (n+m) (xs++aE (List.replicate m 0))∧w.grownBy w' v.ownBlock:=by
 have hxl:xs.length=n:=by simpa using hown.1
 have hlen:(xs++aE (List.replicate m 0)).length=(n+m)*1:=by rw [zie,hxl,eK,ziC,zk0]
 have hz1:(Value.int .u8 0).cells=#[.int .u8 0]:=rfl;have hzc:∀ k,(Builtin.zeroCells #[.int .u8 0] k).size=k:=fun k=>by rw [zko];simp
 have hzt:Builtin.zeroCells #[.int .u8 0] m=(aE (List.replicate m 0)).toArray:=by rw [←jY,Array.toArray_toList]
 have hw:IntKind.i64.wrap (m:Int)=m:=by rw [zk8];omega
 have hneg:¬((m:Int)<0):=by omega
 have h48:¬(281474976710656<(m:Int)):=by omega
 have grown:∀ (old:Nat),old<n+m →
  (w.drew.alloc (.cells (xs.toArray++Builtin.zeroCells #[.int .u8 0] m++Builtin.zeroCells #[.int .u8 0] (grownCap w (n+m) old e-(n+m))) e)).ownsRow base e 1
   (.slice (some ⟨w.heap.size,0,none⟩) (n+m) (grownCap w (n+m) old e)) (n+m) (xs++aE (List.replicate m 0)) ∧
  ∀ row,w.grownBy (w.drew.alloc (.cells (xs.toArray++Builtin.zeroCells #[.int .u8 0] m++Builtin.zeroCells #[.int .u8 0] (grownCap w (n+m) old e-(n+m))) e)) row:=by
  intro old ho;have hge:=zkx w (n+m) old e;have hcm:grownCap w (n+m) old e≤maxLen:=zjL w (n+m) old e (by simp only [maxLen];omega)
  refine ⟨⟨hlen,.inr ⟨w.heap.size,_,_,rfl,hbase,zkE w.drew _,hge,hcm,?_,?_⟩⟩,fun row=>⟨rfl,rfl,rfl,by simp,fun k hk _=>Go.heap_alloc_old w.drew _ (by exact hk)⟩⟩
  · simp only [zjP,ziO,hzc,hxl]
    omega
  · simp only [zjS,hzt]
    rw [←hlen];exact zk1
 rcases hown.2 with ⟨rfl,rfl⟩ | ⟨g,cap,cur,rfl,hbg,hg,hnc,hcm,hcs,htake⟩
 · have hx:xs=[]:=zis hxl
   subst hx;rcases ziV m with h0 | h0
   · subst h0
     refine ⟨.slice none 0 0,w,?_,zin w base e 1,World.grownBy.refl w _⟩;simp [Builtin.append_,ziK ht,ziK htn,sizeOf,typeInfo,hi,asInt,asIntOf,zk8]
   · have hr:=Lib.run_append_nil_zeros w t tn ty e i (.int .u8 0) kq kn ht htn hi hz m h0 (by omega) (by omega) (by rw [hby];omega)
     have hgr:=grown 0 (by omega)
     simp only [zj5,List.nil_append,Array.empty_append] at hgr ⊢;rw [hz1] at hr;exact ⟨_,_,hr,hgr.1,hgr.2 _⟩
 · by_cases hroom:n+m≤cap
   · have hfit:n+(aE (List.replicate m 0)).length≤cur.size:=by rw [eK,ziC,hcs];omega
     have hst:=run_storeCells_at P g n e (aE (List.replicate m 0)) 0 cur w hg (by omega) (aW _)
     simp only [Nat.add_zero] at hst;have hrun:(Builtin.append_ #[t,tn] ty #[.slice (some ⟨g,0,none⟩) n cap,.int kq m]).run P w=.ok (.slice (some ⟨g,0,none⟩) (n+m) cap) (w.setRow g (cur.toList.take n++aE (List.replicate m 0)++cur.toList.drop (n+(aE (List.replicate m 0)).length)).toArray):=by
      rcases ziV m with h0 | h0
      · subst h0
        simp only [List.replicate_zero,aE,zjN] at hst;simp [Builtin.append_,ziK ht,ziK htn,sizeOf,typeInfo,zeroValue,hi,hz,asInt,asIntOf,hsize,hby,hnc,Addr.add_lit,hst,aE,zk8]
      · have hm0:m≠0:=by omega
        simp [Builtin.append_,ziK ht,ziK htn,sizeOf,typeInfo,zeroValue,hi,hz,asInt,asIntOf,hw,hneg,h48,hsize,hby,hroom,hm0,hz1,hzt,Addr.add_lit,hst]
     refine ⟨_,_,hrun,⟨hlen,.inr ⟨g,cap,_,rfl,hbg,zjT w g cur _ e _ hg,hroom,hcm,?_,?_⟩⟩,⟨rfl,rfl,rfl,by simp,fun k _ hk=>zkq w g k _ (fun e=>hk (by simp [Value.ownBlock,e]))⟩⟩
     · simp only [ziO,zie,zio,ziG,Array.length_toList]
       omega
     · have ht':cur.toList.take n=xs:=by simpa using htake
       rw [ht',←hlen];exact zk1
   · have holds:∀ j u,xs[j]?=some u→w.cell? ((⟨g,0,none⟩:Addr).add j)=some u:=hown.cells (g:=g) rfl
     have hold:(Builtin.firstCells i.size n (.slice (some ⟨g,0,none⟩) n cap)).run P w.drew=.ok xs.toArray w.drew:=by
      rw [hsize];exact run_firstCells_some (P:=P) w.drew 1 n ⟨g,0,none⟩ n cap xs hown.1 holds
     have hm0:0<m:=by omega
     have hr:=Lib.run_append_grow_zeros w t tn ty e i (.int .u8 0) kq kn ht htn hi hz (some ⟨g,0,none⟩) n cap xs hold m hm0 (by omega) (by omega) (by omega) (by rw [hby];omega) (by rw [hby];exact zkw (by omega) (by omega))
     have hgr:=grown cap (by omega)
     rw [hz1] at hr;exact ⟨_,_,hr,hgr.1,hgr.2 _⟩
theorem nV {P:Program} {w:World} {ops:Array Oper} {rest:List Oper} {o:Oper} {a:Act} {Q:Exit→Act→World→Prop} (hgd:o.guard=none) (s x:Operand) (t tn:TypeId)
 (ho:o.op=.call { callee:=.builtin .append,args:=#[s,x],argTypes:=#[t,tn] })
 (base:Nat) (e:TypeId) (i:TypeInfo) (kq kn:IntKind) (ht:P.underlying t=some (.slice e)) (htn:P.underlying tn=some (.int kn)) (hi:P.info? e=some i) (hz:i.zero=some (.int .u8 0))
 (hsize:i.size=1) (hby:i.bytes=1)
 {v:Value} {n:Nat} {xs:List Value} (hs:a.eval s=v) (hown:w.ownsRow base e 1 v n xs) (m:Nat) (hx:a.eval x=.int kq m) (hm:n+m≤140737488355328) (hbase:base≤w.heap.size)
 (h:∀ A' c' w',w'.ownsRow base e 1 (.slice A' (n+m) c') (n+m) (xs++aE (List.replicate m 0))→Below base w w'→wpList P ops Q rest (a.put o.dst (.slice A' (n+m) c')) w') :
 wpList P ops Q (o::rest) a w:=
 zkf hgd fun _ hK=>by
  obtain ⟨v',w',hrun,h2,h3⟩:=nB (P:=P) w base t tn o.type e i kq kn ht htn hi hz hsize hby hown m hm hbase;obtain ⟨A',c',rfl⟩:=gC h2;unfold Oper.wp execOp;simp only [ho,resolve,invoke,builtin,zkg,Sem.run_pure,Result.andThen_ok,zk7,zj2,zjN,hs,hx,hrun];exact hK _ _ (h A' c' w' h2 ((zif _ _).grown h3 hbase (jW hown)))
def zh8 (zs:List Zn) (p:Ex):Prop:=0<p.n∧-1≤p.zone∧(p.zone<0∨∃ k o:Nat,p.zone=k∧p.off=o∧k<zs.length∧o+(16*p.n).toNat≤(zs.getD k z0).d.length)
def bU (zs:List Zn) (p:Ex):List UInt8:=if p.zone<0 then bZ (16*p.n).toNat else ((zs.getD p.zone.toNat z0).d.drop p.off.toNat).take (16*p.n).toNat
theorem fW {zs:List Zn} {p:Ex} (h:zh8 zs p):(bU zs p).length=(16*p.n).toNat:=by
 obtain ⟨h1,h2,h3⟩:=h;unfold bU;split
 · unfold bZ;rw [ziC]
 · rcases h3 with h3 | ⟨k,o,e1,e2,h4,h5⟩
   · omega
   · rw [e1,e2,Int.toNat_natCast,Int.toNat_natCast,zio,ziG]
     omega
theorem fT {zs:List Zn}:∀ (l:List Ex) (out:List UInt8),(∀ p∈l,zh8 zs p)→gP zs l out=(out++l.flatMap (bU zs),0)
 | [],out,_=>by simp [gP]
 | p::l,out,h=>by
   obtain ⟨h1,h2,h3⟩:=h p (zih ..);have ih:=fun out=>fT l out fun q hq=>h q (zii _ hq)
   unfold gP;rw [zjn,←ziq];unfold bU;by_cases hz:p.zone<0
   · rw [zij hz,zij hz,ih]
     rfl
   · rcases h3 with h3 | ⟨k,o,e1,e2,h4,h5⟩
     · exact absurd h3 hz
     · rw [zig hz,zig hz,zig,ih]
       · rfl
       · rw [e1,e2,Int.toNat_natCast]
         omega
theorem sB {zs:List Zn}:∀ (l:List Ex) (a z:Int),kG a l z→(∀ p∈l,zh8 zs p)→((l.flatMap (bU zs)).length:Int)=16*(z-a)
 | [],a,z,h,_=>by
   have:a=z:=h;subst this;simp
 | p::l,a,z,h,hf=>by
   obtain ⟨rfl,h1,h2⟩:=h;have ih:=sB l _ _ h2 fun q hq=>hf q (zii _ hq)
   rw [zjn,zie,fW (hf p (zih ..))];unfold aL at ih;omega
theorem sL {zs:List Zn} {m:List Ex} {lba n:Int} (hm:aC 0 m) (hb:aJ lba n) (hf:rB zs m):∀ p∈lookE m lba n,zh8 zs p∧p.n≤n:=by
 intro p hp;obtain ⟨g1,_,_⟩:=fI hm hb;obtain ⟨h1,h2,h3,h4⟩:=g1 p hp;unfold aL at h3;refine ⟨⟨h1,?_⟩,by omega⟩
 rcases h4 with ⟨⟨_,g,_⟩,_⟩ | ⟨hmay,hs⟩
 · exact ⟨by omega,.inl (by omega)⟩
 · have hmay':=hmay
   obtain ⟨_,_,k1,k2,k3,k4,_⟩:=hmay;refine ⟨k1,?_⟩;by_cases hz:p.zone<0
   · exact .inl hz
   · have hl:=hs (aL p-1) (by unfold aX aL;simp;omega)
     have h5:=hf _ _ hl;have hz1:¬p.zone = -1:=by omega
     unfold seeE aL at h5;simp only [hz1,zjG] at h5;rcases h5 with h5 | ⟨h5,h6,h7⟩
     · omega
     · refine .inr ⟨p.zone.toNat,p.off.toNat,by omega,by omega,by omega,?_⟩
       omega
theorem oT {zs:List Zn} (l:List Ex) {j:Nat} (hj:j<l.length):(l.take (j+1)).flatMap (bU zs)=(l.take j).flatMap (bU zs)++bU zs l[j]:=by
 rw [gG (r:=l[j]) _ (zib hj),ziS];simp
theorem iJ {zs:List Zn}:∀ (l:List Ex),(∀ p∈l,zh8 zs p)→l.length≤(l.flatMap (bU zs)).length
 | [],_=>zir _
 | p::l,h=>by
   have ih:=iJ l fun q hq=>h q (zii _ hq)
   have h1:=fW (h p (zih ..));have h2:=(h p (zih ..)).1;rw [zjn,zie,h1,List.length_cons];omega
theorem tK {zs:List Zn} (l:List Ex) (j:Nat):((l.take j).flatMap (bU zs)).length≤(l.flatMap (bU zs)).length:=by
 have h:=ziP j l;rw [←zjj (fun l=>(l.flatMap (bU zs)).length) h]
 simp only [ziS,zie];omega
theorem mF (d:Zd) (A:Option Addr) (c:Nat) (Am:Option Addr) (cm:Nat) (m:List Ex) (lba n:Int) (K K':Nat→Prop) (w:World) (hv:IsL Rp.zone w K (.slice A d.z.length c) d.z) (hm:IsL Rp.ex w K' (.slice Am m.length cm) m) (hd:okD d)
 (hch:aC 0 m) (hb:aJ lba n) (hn:n≤4096) (hf:rB d.z m) :
 Calls Tryz.prog 65 #[.agg #[.int .i64 d.cap,.int .i64 d.opn,.int .i64 d.act,.slice A d.z.length c],.slice Am m.length cm,.int .i64 lba,.int .i64 n] w fun e w'=>
  ∃ A4 c4,e=.returned (.tuple #[.slice A4 (cC d.z m lba n).1.length c4,.int .i64 0])∧w'.ownsRow w.heap.size 5 1 (.slice A4 (cC d.z m lba n).1.length c4) (cC d.z m lba n).1.length (aE (cC d.z m lba n).1)∧Below w.heap.size w w':=by
 obtain ⟨i0,hi,hz0,hz1,hz2⟩:=ziH Tryz.info5;have hlk:=fun W h=>pD Am cm m lba n K' W h hch hb
 have hft:=sL hch hb hf;obtain ⟨h1,h2,_⟩:=dH hch hb;have htl:kG lba (lookE m lba n) (lba+n):=gJ _ _ _ h1 h2;have hby:(cC d.z m lba n).1=(lookE m lba n).flatMap (bU d.z):=by
  unfold cC;have hc:dZ m=0:=by unfold dZ;rw [zij hch]
  rw [zig (by rw [hc];simp [hb]),zig (by omega),fT _ _ fun p hp=>(hft p hp).1]
  rfl
 have htot:=sB _ _ _ htl fun p hp=>(hft p hp).1
 have hcnt:=iJ _ fun p hp=>(hft p hp).1
 rw [hby];clear h1 h2 htl hf hby hch;have hzl:∀ z∈d.z,z.d.length≤1000000000:=fun z hz=>by
  obtain ⟨h1,h2,h3,h4⟩:=hd.2.2.2 z hz;have:=hd.1;omega
 have hn64:=hd.1.2.1;clear hd;obtain ⟨zs,hzs⟩:∃ zs,d.z=zs:=⟨_,rfl⟩;rw [hzs] at hv hft htot hcnt hzl hn64 ⊢;obtain ⟨zn,hzn⟩:∃ zn,zs.length=zn:=⟨_,rfl⟩;rw [hzn] at hv hn64 ⊢;have hb2:=hb.2.1;have HV:=hv;have E:=((Kn.start w).give aB.list hv).push 26 #[.int .i64 d.cap,.int .i64 d.opn,.int .i64 d.act,.slice A zn c];generalize lookE m lba n=lk at hlk hft htot hcnt ⊢;obtain ⟨tot,htt⟩:∃ tot,(lk.flatMap (bU zs)).length=tot:=⟨_,rfl⟩;have hple:=fun j=>tK (zs:=zs) lk j
 have hptk:=fun j (hj:j<lk.length)=>oT (zs:=zs) lk hj
 rw [htt] at htot hcnt ⊢;have htot5:tot≤65536:=by omega
 obtain ⟨ln,hln⟩:∃ ln,lk.length=ln:=⟨_,rfl⟩;rw [hln] at hlk hcnt;obtain ⟨m',hm'⟩:∃ m',m.length=m':=⟨_,rfl⟩;rw [hm'] at hm hlk ⊢;have HLN:=zia hln;have HTT:=zia htt;have HFT:=zia hft;have HPL:=zia hple;have HPT:=zia hptk;have HZL:=zia hzl;have HZN:=zia hzn;clear hln htt hft hple hptk hzl hzn htot hb hv hzs hm';have n1:n*16≤65536:=by omega
 obtain ⟨N,hN⟩:∃ N:Nat,n*16=(N:Int):=⟨(n*16).toNat,by omega⟩
 have hN2:N≤65536:=by omega
 obtain ⟨q0,f0,t0⟩:=E.rules m0;go_enter Tryz.func65,Tryz.ntmps65
 go_wp2_with fail;refine (hlk _ (hm.alloc _)).mono ?_;rintro x w2 ⟨Ao,co,rfl,own2,hb2'⟩;replace E:=E.step hb2';clear hlk hm hb2' q0 f0 t0;have hs2:=E.below.size;go_wp2_with (at_make;refine wpList_make_own _ rfl _ _ 31 rfl w2.heap.size 5 i0 _ 1 Tryz.underlying31 hi hz0 hz1 _ _ _ N rfl rfl (by first | rfl | omega) (by rw [hz2];omega) (by unfold maxLen;omega) (zic _) ?_;intro w3 own3 hg3)
 have hb3:Below w2.heap.size w2 w3:=(zif _ _).grown hg3 (zic _) (fun k hk=>by cases hk)
 have hsw:w.heap.size<w2.heap.size:=(E.rules m0).2.2;replace E:=E.give aB.ownI' own2;clear own2 hg3;go_loopw [12,14,15,35] (fun x12 x14 x15 x35 wr=>∃ (j t:Nat) (Ab:Option Addr) (cb:Nat),x35=.int .i64 j∧j≤ln∧x12=.slice Ab t cb∧Hid (((lk.take j).flatMap (bU zs)).length=t)∧t≤65536∧wr.ownsRow w2.heap.size 5 1 (.slice Ab t cb) t (aE ((lk.take j).flatMap (bU zs)))∧Below w2.heap.size w2 wr∧(∃ y,x14=y)∧∃ y,x15=y) (fun _ _ _ x35 _=>ln-(intOf x35).toNat)
 case atStart=>exact ⟨0,0,_,_,rfl,zir _,rfl,zia rfl,zir _,own3,hb3,⟨_,rfl⟩,_,rfl⟩
 case round=>
  obtain ⟨j,t,Ab,cb,rfl,hj,rfl,htj,ht5,hown,hb,⟨y,rfl⟩,y',rfl⟩:=hrel;clear own3 hb3;have F:=E.step hb;have hsr:=hb.size;by_cases hlt:j<ln
  case neg=>
   obtain rfl:j=ln:=by omega
   rw [zip (by rw [HLN.out];exact zic _)] at hown htj
   obtain rfl:t=tot:=by rw [←htj.out,HTT.out]
   clear E;go_wp2;refine zik (v:=.tuple #[.slice Ab t cb,.int .i64 0]) (by simp [results,Tryz.results65,go_sem]) rfl ⟨Ab,cb,rfl,aO hown (by omega),F.below⟩
  have hlt':j<lk.length:=by rw [HLN.out];exact hlt
  have HT:=zia (HPT.out j hlt');have hle:=HPL.out (j+1);rw [HPT.out j hlt',zie,htj.out,HTT.out] at hle;obtain ⟨hfit,hpn⟩:=HFT.out _ (ziD hlt');rw [fW hfit] at hle;have hpl:=zia (fW hfit);obtain ⟨adx,rfl,-,c0,c1,c2,c3,c4⟩:=bY (bI (F.get m0) HLN.out (by omega)) (zib hlt')
  generalize lk[j]=p at HT hfit hpn hle hpl c0 c1 c2 c3 c4;obtain ⟨p1,p2,p3⟩:=hfit;obtain ⟨plba,pn,pver,pzone,poff⟩:=p;simp only at hpn hle p1 p2 p3 c0 c1 c2 c3 c4;have HP3:=zia p3;clear p3;obtain ⟨q,rfl⟩:∃ q:Nat,pn=(q:Int):=⟨pn.toNat,by omega⟩
  have e16:(16*(q:Int)).toNat=q*16:=by omega
  rw [e16] at hle;have j1:(j:Int)<(ln:Int):=by omega
  have j0:(0:Int)≤(j:Int):=by omega
  by_cases hz:pzone<0
  · have hpc:bU zs ⟨plba,q,pver,pzone,poff⟩=bZ (q*16):=by unfold bU;rw [zij hz,e16]
    rw [hpc] at HT;clear hpl hpc;go_wp2_with (at_builtin;refine nV rfl (.tmp 45) (.tmp 46) _ _ rfl w2.heap.size 5 i0 .i64 .i64 Tryz.underlying31 Tryz.underlying3 hi hz0 hz1 hz2 rfl (hown.alloc _) (q*16) rfl (by omega) (by rw [zid];omega) ?_;intro A5 c5 w5 own5 hb5)
    go_roundw
    case rel=>
     refine ⟨j+1,t+q*16,A5,c5,by go_num,by omega,rfl,zia ?_,by omega,?_,(hb.alloc hsr _).trans (hb5.mono (zic _)),⟨_,rfl⟩,_,rfl⟩
     · rw [HT.out,zie,htj.out];unfold bZ;rw [ziC]
     · rw [HT.out,aZ];exact own5
    case measure=>simp [intOf];omega
  obtain ⟨k,o,rfl,rfl,hk,hko⟩:=HP3.out.resolve_left hz;have hgd:zs.getD k z0=zs[k]:=by rw [ziF,zib hk];rfl
  have hpc:bU zs ⟨plba,q,pver,k,o⟩=(zs[k].d.drop o).take (q*16):=by unfold bU;simp only;rw [zig hz,e16,Int.toNat_natCast,Int.toNat_natCast,hgd]
  rw [hgd] at hko;rw [hpc] at HT;have hln:=HZL.out _ (ziD hk);obtain ⟨adz,B,cB,rfl,-,-,hB,d0,d1,d2⟩:=IsL.zone_at HV (zib hk);generalize zs[k]=z at HT hko hln hB d0 d1 d2;clear hgd hpc hpl;have HZA:Hid (∀ W,Below w.heap.size w W→W.cell? ⟨(adz.add (k*3)).block,(adz.add (k*3)).off+2,none⟩=some (.slice B z.d.length cB)):=zia fun W h=>(rC.step ⟨d0,d1,d2⟩ h).2.2
  have HZB:Hid (∀ W,Below w.heap.size w W→IsB W K (.slice B z.d.length cB) z.d):=zia fun W h=>hB.step h
  obtain ⟨_,_,hzc,hzc2,_⟩:=hB.open_;clear hB d0 d1 d2;have hko':(o:Nat)+q*16≤z.d.length:=by rw [e16] at hko;exact hko
  obtain ⟨zl,hzl⟩:∃ zl,z.d.length=zl:=⟨_,rfl⟩;rw [hzl] at hko' hln HZA HZB hzc;have HZL2:=zia hzl;have hkn:k<zn:=by rw [←HZN.out];exact hk
  clear hko hk hzl;have k1:(k:Int)<(zn:Int):=by omega
  have k0:(0:Int)≤(k:Int):=by omega
  have k4:IntKind.i64.wrap ((zl:Int)-(q:Int)*16)=(zl:Int)-(q:Int)*16:=ziI _ (by omega)
  have k2:(o:Int)≤(zl:Int)-(q:Int)*16:=by omega
  have k3:¬zn≤k:=by omega
  go_upto_region 13 with fail;replace F:=F.push 90 #[.int .i64 plba,.int .i64 q,.int .i64 pver,.int .i64 k,.int .i64 o];have hbx:=hb.alloc hsr (.cells #[.int .i64 plba,.int .i64 q,.int .i64 pver,.int .i64 k,.int .i64 o] 90);replace hown:=hown.alloc (.cells #[.int .i64 plba,.int .i64 q,.int .i64 pver,.int .i64 k,.int .i64 o] 90);clear c0 c1 c2 c3 c4 hb E;generalize wr.alloc (.cells #[.int .i64 plba,.int .i64 q,.int .i64 pver,.int .i64 k,.int .i64 o] 90)=w1 at F hbx hown ⊢;obtain ⟨q0,f0,t0⟩:=F.rules m0;obtain ⟨q1,f1,t1⟩:=F.rules m1;have d2:=HZA.out _ F.below;go_quiet (fail);go_upto_region 15 with fail;generalize hw5:w1.drewN nq=w5;have hb5:Below w1.heap.size w1 w5:=by rw [←hw5];exact aS (zif _ _) _
  clear hw5 q0 f0 t0 q1 f1 t1 d2;replace F:=F.step hb5;replace hown:=aD hown hb5 (zic _);replace hbx:=hbx.trans (hb5.mono hbx.size);clear hb5 w1;have hb6:Below w5.heap.size w5 w5.drew:=(zif _ _).drew;replace F:=F.step hb6;replace hown:=aD hown hb6 (zic _);replace hbx:=hbx.trans (hb6.mono hbx.size);generalize hw6:w5.drew=w6 at F hown hbx hb6;have B0:=F.at_ m0;have B1:=F.at_ m1;have hS:(∀ i,w6.cell? ⟨wr.heap.size,i,none⟩=(#[.int .i64 plba,.int .i64 q,.int .i64 pver,.int .i64 k,.int .i64 o]:Array Value)[i]?)∧(∀ i,w6.cell? ⟨w.heap.size,i,none⟩=(#[.int .i64 d.cap,.int .i64 d.opn,.int .i64 d.act,.slice (some adz) zn c]:Array Value)[i]?)∧w6.cell? ⟨(adz.add (k*3)).block,(adz.add (k*3)).off+2,none⟩=some (.slice B zl cB):=⟨B0.rules.1,B1.rules.1,HZA.out _ F.below⟩;have hcut:=((HZB.out _ F.below).mid (i:=o) (k:=q*16) (c':=cB-o) (by rw [HZL2.out];exact hko') (by omega) (by omega)).open_.2.1
  have hne:¬cB=o:=by omega
  obtain ⟨M,hM⟩:∃ M,o+q*16=M:=⟨_,rfl⟩;have k5:IntKind.i64.wrap ((o:Int)+(q:Int)*16)=(M:Int):=by rw [ziI _ (by omega)];omega
  have k6:(M:Int)≤(cB:Int):=by omega
  have k7:o≤M:=by omega
  have k8:M-o=q*16:=by omega
  have k9:(0:Int)≤(M:Int):=by omega
  have hcl:(List.take (q*16) (List.drop o z.d)).length=q*16:=by rw [zio,ziG,HZL2.out];omega
  rw [hcl] at hcut;have HCL:=zia hcl;clear hM hcl k1 k2 k3 k4;refine wp_region_held_drew (S:=fun W=>(∀ i,W.cell? ⟨wr.heap.size,i,none⟩=(#[.int .i64 plba,.int .i64 q,.int .i64 pver,.int .i64 k,.int .i64 o]:Array Value)[i]?)∧(∀ i,W.cell? ⟨w.heap.size,i,none⟩=(#[.int .i64 d.cap,.int .i64 d.opn,.int .i64 d.act,.slice (some adz) zn c]:Array Value)[i]?)∧W.cell? ⟨(adz.add (k*3)).block,(adz.add (k*3)).off+2,none⟩=some (.slice B zl cB)) (by kernel_rfl) (by rw [hw6];exact hS) (fun hHeld=>?_)
  rw [hw6] at hHeld ⊢;clear hw6;refine wT 0 69 ?_;refine wT 1 70 ?_;refine wT 2 71 ?_;refine wT 3 72 ?_;refine wT 4 73 ?_;refine wT 5 74 ?_;refine wT 6 75 ?_;refine wT 7 76 ?_;refine wT 8 77 ?_;refine wT 9 78 ?_;refine wT 10 79 ?_;refine wT 11 80 ?_;refine wT 12 81 ?_;refine wT 13 82 ?_;refine wT 14 83 ?_;refine wR 15 84 (fun K hK=>?_)
  refine dX (by rfl) (.tmp 69) (.tmp 83) _ (by rfl) w2.heap.size 5 i0 _ 1 1 Tryz.underlying31 hi hz0 hz1 hz2 rfl (by omega) (by rfl) hown (by rfl) hcut (aW _) (by simp only [maxLen];omega) (by omega) hbx.size ?_
  intro A8 c8 w7 own8 hg8;go_simp;have hb7:=F.below.trans (hg8.below.mono hs2);refine hK.out _ _ ⟨(B0.grew hown (by decide) hg8).rules.1,(B1.grew hown (by decide) hg8).rules.1,HZA.out _ hb7⟩ (fun hHeld=>?_)
  clear hK K;refine wT 16 12 ?_;refine wpAnyH_done (by kernel_rfl) ?_ _
  go_wp2;go_roundw
  case rel=>
   refine ⟨j+1,t+q*16,A8,c8,by go_num,by omega,rfl,zia ?_,by omega,?_,hbx.trans hg8.below,⟨_,rfl⟩,_,rfl⟩
   · rw [HT.out,zie,htj.out,HCL.out]
   · rw [HT.out,aZ];exact own8
  case measure=>simp [intOf];omega
theorem oL (l m:List Ex):dJ (l++m)=dJ l+dJ m:=by
 induction l with
 | nil=>simp [dJ]
 | cons e l ih=>simp only [List.cons_append,dJ,ih];omega
theorem tC {l:List Ex} {j:Nat} (hj:j<l.length):dJ (l.take (j+1))=dJ (l.take j)+l[j].n:=by
 rw [ziy hj,oL];simp [dJ]
theorem yY:∀ (l:List Ex) (c:Int),aC c l→c+dJ l≤lastE c l∧0≤dJ l
 | [],c,_=>⟨by simp [dJ,lastE],zj7 _⟩
 | e::l,c,h=>by
   have ih:=yY l (aL e) h.2.2;have hp:=h.1.pos;have h2:=h.2.1;simp only [dJ,lastE];unfold aL at ih ⊢;omega
theorem oV:∀ (l:List Ex) (c:Int),c≤1099511627776→aC c l→lastE c l≤1099511627776
 | [],_,hc,_=>hc
 | e::l,c,_,h=>oV l (aL e) (by have:=h.1.1;unfold aJ at this;unfold aL;omega) h.2.2
theorem zcb (A:Option Addr) (c:Nat) (l:List Ex) (K:Nat→Prop) (w:World) (hv:IsL Rp.ex w K (.slice A l.length c) l) (hch:aC 0 l) :
 Calls Tryz.prog 125 #[.slice A l.length c] w fun x w'=>x=.returned (.int .i64 (dJ l))∧Below w.heap.size w w':=by
 have hck:=fun W h=>cS (.slice A l.length c) l K W h
 have hc0:dZ l=0:=by unfold dZ;rw [zij hch]
 rw [hc0] at hck;have E:=(Kn.start w).give aB.list hv;have hlen:=hv.len;have hb:=fun j=>And.intro (yY (l.take j) 0 (iW j hch)) (oV (l.take j) 0 (by decide) (iW j hch))
 have HB:=zia hb;obtain ⟨n,hn⟩:∃ n,l.length=n:=⟨_,rfl⟩;rw [hn] at hck E hlen ⊢;have HN:=zia hn;clear hn hv hc0 hch hb;go_enter Tryz.func125,Tryz.ntmps125
 go_wp2_with fail;refine (hck _ (E.get m0)).mono ?_;rintro x w2 ⟨rfl,hb2⟩;replace E:=E.step hb2;clear hck hb2;go_wp2_with fail;go_loopw [2,4,10] (fun x2 x4 x10 wr=>∃ j:Nat,x10=.int .i64 j∧j≤n∧x2=.int .i64 (dJ (l.take j))∧Below w2.heap.size w2 wr∧∃ y,x4=y) (fun _ _ x10 _=>n-(intOf x10).toNat)
 case atStart=>exact ⟨0,rfl,zir _,rfl,zif _ _,_,rfl⟩
 case round=>
  obtain ⟨j,rfl,hj,rfl,hb,y,rfl⟩:=hrel;have F:=E.step hb;by_cases hlt:j<n
  case neg=>
   obtain rfl:j=n:=by omega
   rw [zip (by rw [HN.out];exact zic _)]
   clear E;go_wp2;go_ret;exact ⟨rfl,F.below⟩
  have hlt':j<l.length:=by rw [HN.out];exact hlt
  have HM:=zia (tC hlt');have b0:=HB.out j;have b1:=HB.out (j+1);rw [HM.out] at b1;obtain ⟨ad,rfl,hK,c0,c1,c2,c3,c4⟩:=bY (F.get m0) (zib hlt');generalize l[j]=e at HM c0 c1 c2 c3 c4 b1;obtain ⟨M0,hM0⟩:∃ M0,dJ (l.take j)=M0:=⟨_,rfl⟩;rw [hM0] at HM b0 b1 ⊢;have j1:(j:Int)<(n:Int):=by omega
  have j0:(0:Int)≤(j:Int):=by omega
  have q0:0≤M0+e.n∧M0+e.n≤1099511627776:=by omega
  clear hM0 b0 b1;have q1:=q0.1;have q2:=q0.2;go_wp2_with fail;go_roundw
  case rel=>exact ⟨j+1,by go_num,by omega,by rw [HM.out],hb.alloc hb.size _,_,rfl⟩
  case measure=>simp [intOf];omega
