/- A part of the proof. -/
import Derived.Test.YthblkdnijhphhaaGreatVapply
import Derived.Test.YthblkdnijhphhaaGreatReplayB
set_option maxHeartbeats 8000000
set_option maxRecDepth 100000
namespace Go.Proofs.YthblkdnijhphhaaGreat
open Go.RowKit
def movP (f t:Ex) (l:List Ex):List Ex:=(l.filter fun p=>decide (p=withinE f p.lba p.n)).map fun p=>withinE t p.lba p.n
def movE (m:List Ex) (f t:Ex):List Ex:=movP f t (partE m f.lba f.n)
theorem zk6 (f t:Ex) (l:List Ex) (p:Ex):movP f t (l++[p])=movP f t l++if decide (p=withinE f p.lba p.n)=true then [withinE t p.lba p.n] else []:=by
 unfold movP;rw [List.filter_append,List.map_append];congr 1
 by_cases h:decide (p=withinE f p.lba p.n)=true
 · rw [if_pos h,List.filter_cons,if_pos h];rfl
 · rw [if_neg h,List.filter_cons,if_neg h];rfl
theorem zfB {f t:Ex} (ht:mayE t) (he:t.lba=f.lba∧t.n=f.n):∀ {l:List Ex} {b:Int},f.lba≤b→za2 b l→lastE b l≤f.lba+f.n→za2 b (movP f t l)
 | [],_,_,_,_=>trivial
 | p::l,b,hb,h,hl=>by
   obtain ⟨h1,h2,h3⟩:=h;have hpp:=h1.1;have hlast:lastE b (p::l)=lastE (endE p) l:=rfl;rw [hlast] at hl;have hle:endE p≤lastE (endE p) l:=zdX h3;have hep:endE p=p.lba+p.n:=rfl;have hp1:=hpp.2.1;have hrec:=zfB ht he (l:=l) (b:=endE p) (by omega) h3 hl
   unfold movP;rw [List.filter_cons];split
   · refine ⟨(zf8 ht hpp.2.1 (by omega) (by unfold endE;omega)).1,h2,hrec⟩
   · exact zbd hrec (by omega)
theorem zn1 (a b c:Int) (w:World):(Op.equalIn 10000 254 (.agg #[.int .i64 a,.int .i64 b,.int .i64 c]) (.agg #[.int .i64 a,.int .i64 b,.int .i64 c])).run Tryz.prog w=.ok true w:=by
 have u3:=Tryz.underlying3;have a3:=Tryz.isAgg3;have z3:=Tryz.sizeOf3;rw [show (10000:Nat)=9999+1 from rfl,Op.equalIn];simp only [Sem.run_bind,run_underlying Tryz.underlying254,Result.andThen_ok];simp only [Std.Legacy.Range.forIn_eq_forIn_range',Std.Legacy.Range.size,Nat.sub_zero,Nat.add_sub_cancel,Nat.div_one,List.range'_succ,List.range'_zero,List.forIn_cons,List.forIn_nil];go_simp
theorem zkj (A:Option Addr) (c:Nat) (m:List Ex) (f t:Ex) (K:Nat→Prop) (w:World) (hv:IsL Rp.ex w K (.slice A m.length c) m) (hch:za2 0 m) (hf:mayE f) (ht:mayE t) (hfz:f.zone≠-1) (htz:t.zone≠-1)
 (hsame:t.lba=f.lba∧t.n=f.n∧t.ver=f.ver) (hfew:(putE m (movE m f t)).length≤10000) :
 Calls Tryz.prog 111 #[.slice A m.length c,exV f,exV t] w fun x w'=>
  ∃ A1 c1 A2 c2,x=.returned (.tuple #[.slice A1 (putE m (movE m f t)).length c1,.slice A2 (joinE (movE m f t)).length c2,.int .i64 0])∧IsL Rp.ex w' (fun b=>w.heap.size≤b) (.slice A1 (putE m (movE m f t)).length c1) (putE m (movE m f t)) ∧
    IsL Rp.ex w' (fun b=>w.heap.size≤b) (.slice A2 (joinE (movE m f t)).length c2) (joinE (movE m f t))∧Below w.heap.size w w':=by
 obtain ⟨i0,hi,hz0,hz1,hz2⟩:=info_parts Tryz.infX;have hc:chkE m=0:=by unfold chkE;rw [if_pos hch]
 have hpo:=zbJ hch hf.1;have hmc0:za2 f.lba (movE m f t):=zfB ht ⟨hsame.1,hsame.2.1⟩ (Int.le_refl _) hpo.1 hpo.2.1;have hmc:za2 0 (movE m f t):=zbd hmc0 hf.1.1;have hmm:∀ e∈movE m f t,mayE e:=fun e he=>(zai hmc e he).1
 have hpa:=fun W hv=>zeY A c m f.lba f.n K W hv hch hf.1
 have hplen:=zbj hpo.1;have hpb:∀ p∈partE m f.lba f.n,0≤p.lba∧p.lba≤2199023255552:=fun p hp=>by
  have h1:=zai hpo.1 p hp;have h2:=zeA hpo.1 p hp;have h3:=h1.1.1.2.1;have h4:=hf.1;unfold za9 at h4;unfold endE at h2;omega
 unfold movE at hmc0 hmc hmm hfew ⊢;generalize partE m f.lba f.n=pl at *;obtain ⟨n,hn⟩:∃ n,pl.length=n:=⟨_,rfl⟩;rw [hn] at hpa hplen;have hn40:n≤2199023255553:=by have:=hf.1;unfold za9 at this;have:=hpo.2.1;omega
 have hfo:=hf.ok;have hto:=ht.ok;obtain ⟨pn,hpn⟩:∃ pn,(putE m (movP f t pl)).length=pn:=⟨_,rfl⟩;obtain ⟨jn,hjn⟩:∃ jn,(joinE (movP f t pl)).length=jn:=⟨_,rfl⟩;rw [hpn] at hfew ⊢;rw [hjn];have HPN:=Lib.hid hpn;have HJ2:=Lib.hid hjn;clear hpn hjn;have hdf:decide (mayE f)=true:=decide_eq_true hf;have hdt:decide (mayE t)=true:=decide_eq_true ht;have HN:=Lib.hid hn;have HPA:=Lib.hid hpa;have HMC:=Lib.hid hmc;have HMM:=Lib.hid hmm;have HPB:=Lib.hid hpb;have HFEW:=Lib.hid hfew;have HFO:=Lib.hid hfo;have HTO:=Lib.hid hto;have HCH:=Lib.hid hch;have E:=(((Kn.start w).give za1.list hv).push 85 (exC f)).push 85 (exC t);rw [World.size_alloc] at E;have hzf:(f.zone == -1)=false:=beq_eq_false_iff_ne.2 hfz;have hzt:(t.zone == -1)=false:=beq_eq_false_iff_ne.2 htz;obtain ⟨s1,s2,s3⟩:=hsame;have heq:∀ w:World,(binOp .eql 254 (.agg #[.int .i64 f.lba,.int .i64 f.n,.int .i64 f.ver]) (.agg #[.int .i64 t.lba,.int .i64 t.n,.int .i64 t.ver])).run Tryz.prog w=.ok (.bool true) w:=fun w=>by
  rw [s1,s2,s3];go_simp;rw [zn1];rfl
 clear hn hpa hmc hmm hpb hfew hfo hto hmc0 hpo hplen hf ht hch hv hfz htz s1 s2 s3;obtain ⟨q0,f0,t0⟩:=E.rules m0;obtain ⟨q1,f1,t1⟩:=E.rules m1;go_enter Tryz.func111,Tryz.ntmps111
 go_wp2_with fail;refine (zaV _ m K _ (E.get m0)).mono ?_;rintro x w1 ⟨rfl,hb1⟩;rw [hc];replace E:=E.step hb1;obtain ⟨q0,f0,t0⟩:=E.rules m0;obtain ⟨q1,f1,t1⟩:=E.rules m1;go_wp2_with fail;refine (zgf f _).mono ?_;rintro x w2 ⟨rfl,hb2⟩;rw [hdf];replace E:=E.step hb2;obtain ⟨q0,f0,t0⟩:=E.rules m0;obtain ⟨q1,f1,t1⟩:=E.rules m1;go_wp2_with fail;refine (zgf t _).mono ?_;rintro x w3 ⟨rfl,hb3⟩;rw [hdt];replace E:=E.step hb3;obtain ⟨q0,f0,t0⟩:=E.rules m0;obtain ⟨q1,f1,t1⟩:=E.rules m1;clear hb1 hb2 hb3 hc hdf hdt;go_wp2_with fail;refine (HPA.out _ (E.get m0)).mono ?_;rintro x w4 ⟨A4,c4,rfl,own4,hb4⟩;replace E:=(E.step hb4).give za1.list (zaA own4 HN.out (by omega))
 have hsz4:=E.below.size;clear q0 f0 t0 q1 f1 t1 own4 hb4 heq hzf hzt;go_wp2_with fail;go_loopw [12,72] (fun o i wr=>∃ (j k:Nat) (Ao:Option Addr) (co:Nat),o=.slice Ao k co∧i=.int .i64 j∧j≤n∧k≤j∧Hid ((movP f t (pl.take j)).length=k)∧wr.ownsRow w4.heap.size 85 5 (.slice Ao k co) k (exLs (movP f t (pl.take j)))∧Below w4.heap.size w4 wr) (fun _ i _=>n-(intOf i).toNat)
 case atStart=>exact ⟨0,0,none,0,rfl,rfl,Nat.zero_le _,Nat.le_refl _,Lib.hid rfl,World.ownsRow_nil _ _ _ _,Below.refl _ _⟩
 case round=>
  obtain ⟨j,k,Ao,co,rfl,rfl,hj,hkj,HK,hown,hb⟩:=hrel;have hsz:=hb.size;have F:=E.step hb;by_cases hlt:j<n
  case neg=>
   obtain rfl:j=n:=by omega
   have htk:pl.take j=pl:=by rw [←HN.out,List.take_length]
   rw [htk] at HK hown;have hLm:=zaA hown HK.out (by omega)
   have hcp:=fun w hv hw=>ziD A c m Ao co (movP f t pl) K (fun b=>w4.heap.size≤b) w hv HCH.out hw HMM.out (by rw [HPN.out];exact HFEW.out)
   have hjq:=fun w hv=>zeJ Ao co (movP f t pl) (fun b=>w4.heap.size≤b) w hv HMC.out
   rw [HK.out,HPN.out] at hcp;rw [HK.out,HJ2.out] at hjq;have hkk:k≤140737488355328:=by omega
   clear htk;have G:=F.give za1.list (zaA hown HK.out (by omega))
   have HCP:=Lib.hid hcp;have HJN:=Lib.hid hjq;clear hcp hjq;go_wp2_with fail;refine (HCP.out _ (G.get m2) (G.get m0)).mono ?_;rintro x w5 ⟨A5,c5,rfl,own5,hb5⟩;have G5:=G.step hb5;go_wp2_with fail;refine (HJN.out _ (G5.get m0)).mono ?_;rintro x w6 ⟨A6,c6,rfl,own6,hb6⟩;have hbw:=(G5.step hb6).below;have hs5:=hb5.size;have own5':=za4 own5 hb6 (Nat.le_refl _);go_wp2_with fail;go_ret3
   have hp10:pn≤10000:=HFEW.out;have hjn0:jn≤140737488355328:=by
    have h:=zby (zck HMC.out).1;rw [HJ2.out] at h;omega
   exact ⟨A5,c5,A6,c6,rfl,(zaA own5' HPN.out (by omega)).more fun b hb=>by omega,(zaA own6 HJ2.out (by omega)).more fun b hb=>by omega,hbw⟩
  obtain ⟨p,hp⟩:∃ p,pl[j]?=some p:=⟨_,List.getElem?_eq_getElem (by rw [HN.out];exact hlt)⟩
  obtain ⟨p1,p2⟩:=HPB.out p (List.mem_of_getElem? hp);obtain ⟨ad2,rfl,-,c0,c1',c2,c3,c4⟩:=zb9 (F.get m0) hp;have i1':(j:Int)<(n:Int):=by omega
  have i0':(0:Int)≤(j:Int):=by omega
  have hns:=zk6 f t (pl.take j) p;rw [←zdo pl hp] at hns;obtain ⟨q,hq⟩:∃ q,decide (p=withinE f p.lba p.n)=q:=⟨_,rfl⟩;rw [hq] at hns;have heq:∀ w:World,(binOp .eql 85 (exV p) (exV (withinE f p.lba p.n))).run Tryz.prog w=.ok (.bool q) w:=fun w=>by rw [znr,hq]
  have HNS:=Lib.hid hns;clear hns hq hp;have F2:=F.push 85 (exC p);go_upto_region 11 with fail;change Code.wp _ _ _ _ (wr.alloc (.cells (exC p) 85))
  obtain ⟨g4,hg4⟩:∃ g4,wr.heap.size=g4:=⟨_,rfl⟩;have own5:=hown.alloc (.cells (exC p) 85);have hb5:=hb.alloc hsz (.cells (exC p) 85);rw [hg4] at F2;simp only [hg4];generalize hw5:wr.alloc (.cells (exC p) 85)=w5 at F2 own5 hb5 ⊢;clear hw5;have hs5:=hb5.size;have HK5:Hid (∀ W,Below w5.heap.size w5 W→(∀ o,W.cell? ⟨g4,o,none⟩=(exC p)[o]?)∧(∀ o,W.cell? ⟨w.heap.size,o,none⟩=(exC f)[o]?)):=Lib.hid fun W h=>⟨((F2.step h).rules m0).1,((F2.step h).rules m2).1⟩
  have hb0:Below w5.heap.size w5 w5.drew:=(Below.refl _ _).drew;clear c0 c1' c2 c3 c4 hown;refine wp_region_held_drew (S:=fun W=>(∀ o,W.cell? ⟨g4,o,none⟩=(exC p)[o]?)∧(∀ o,W.cell? ⟨w.heap.size,o,none⟩=(exC f)[o]?)) (by kernel_rfl) (HK5.out _ hb0) (fun hHeld=>?_)
  refine wT 0 76 ?_;refine wT 1 77 ?_;refine wT 2 78 ?_;refine wT 3 79 ?_;refine wT 4 80 ?_;refine wT 5 81 ?_;refine wR 6 82 (fun K hK=>?_)
  go_simp;refine (zdi f p.lba p.n _ HFO.out (by omega)).mono ?_
  rintro x w7 ⟨rfl,hb7⟩;replace hb7:=hb0.trans (hb7.mono hb0.size);go_wp2_with fail;refine hK.out _ _ (HK5.out _ hb7) (fun hHeld=>?_)
  clear hK K;refine wT 7 83 ?_;refine wpAnyH_done (by kernel_rfl) ?_ _
  replace F2:=F2.step hb7;replace own5:=za4 own5 hb7 (Nat.le_refl _);replace hb5:=hb5.trans (hb7.mono hs5);obtain ⟨q0,f0,t0⟩:=F2.rules m0;obtain ⟨q1,f1,t1⟩:=F2.rules m1;have hs7:=hb5.size;clear hHeld HK5 hb0 hb7 hs5 hg4 heq;cases q with
  | false=>
    have hns:=HNS.out;rw [if_neg (by simp),List.append_nil] at hns
    have HN2:=Lib.hid hns;clear HNS hns;go_wp2;go_roundw
    case rel=>exact ⟨j+1,k,Ao,co,rfl,by go_num,by omega,by omega,Lib.hid (by rw [HN2.out];exact HK.out),by rw [HN2.out];exact own5,hb5⟩
    case measure=>simp [intOf];omega
  | true=>
    have hns:=HNS.out;rw [if_pos rfl] at hns;have HN2:=Lib.hid hns;clear HNS hns;go_wp2_with fail;refine (zdi t p.lba p.n _ HTO.out (by omega)).mono ?_
    rintro x w8 ⟨rfl,hb8⟩;clear q0 f0 t0 q1 f1 t1;have own8:=za4 own5 hb8 (Nat.le_refl _);have hs8:=hb8.size;generalize withinE t p.lba p.n=y at HN2 ⊢;go_wp2_with (at_builtin;refine za5 rfl _ _ _ rfl w4.heap.size 85 i0 _ 5 40 Tryz.underlying36 hi hz0 hz1 hz2 rfl (by omega) rfl (own8.alloc _) rfl (za6.new (xs:=exCs y) (n:=1) rfl rfl rfl) (by intro u hu;exact zav [y] u (by simpa [exLs] using hu)) (by simp only [maxLen];omega) (by omega) (by rw [World.size_alloc];omega) ?_;intro A8 c8 w9 own9 hg9)
    go_roundw
    case rel=>
     refine ⟨j+1,k+1,A8,c8,rfl,by go_num,by omega,by omega,Lib.hid (by rw [HN2.out,List.length_append,HK.out];rfl),by rw [HN2.out,zbl];exact own9,?_⟩
     exact ((hb5.trans (hb8.mono hs7)).alloc (by omega) (.cells (exC y) 85)).trans (hg9.below.mono (Nat.le_refl _))
    case measure=>simp [intOf];omega
abbrev mvC (f t:Ex):Array Value:=#[.int .i64 f.lba,.int .i64 f.n,.int .i64 f.ver,.int .i64 f.zone,.int .i64 f.off,.int .i64 t.lba,.int .i64 t.n,.int .i64 t.ver,.int .i64 t.zone,.int .i64 t.off]
def Rp.mv:Rp (Ex × Ex):=⟨10,fun _ _ cs o=>cs=(mvC o.1 o.2).toList,
 by rintro _ _ _ _ rfl;rfl,
 fun h _=>h,
 fun h _=>h,
 by
  rintro _ _ _ _ rfl u hu;simp only [List.mem_cons,List.not_mem_nil,or_false] at hu;rcases hu with rfl | rfl | rfl | rfl | rfl | rfl | rfl | rfl | rfl | rfl <;> first | rfl | assumption⟩
theorem zpd {w:World} {K:Nat→Prop} {A:Option Addr} {n c:Nat} {f t:Ex} (h:IsL Rp.mv w K (.slice A n c) [(f,t)]) :
 ∃ ad,A=some ad∧K ad.block∧w.cell? ad=some (.int .i64 f.lba)∧∀ i u,0<i→(mvC f t)[i]?=some u→w.cell? ⟨ad.block,ad.off+i,none⟩=some u:=by
 obtain ⟨ad,es,hA,hKad,hes,hcell⟩:=h.at_ (i:=0) (x:=(f,t)) rfl;obtain rfl:es=_:=hes;have hsz:Rp.mv.size=10:=rfl;rw [hsz] at hcell;have h0:ad.add (0*10)=ad:=by simp [Addr.add]
 rw [h0] at hcell;refine ⟨ad,hA,hKad,?_,fun i u hi hu=>?_⟩
 · rw [←zbN ad];exact hcell 0 _ rfl
 · rw [←zaD _ i (by omega)];exact hcell i _ (by simpa using hu)
theorem zjY (A:Option Addr) (c:Nat) (m:List Ex) (f t:Ex) (Al:Option Addr) (cl:Nat) (K Kl:Nat→Prop) (w:World) (hv:IsL Rp.ex w K (.slice A m.length c) m) (hl:IsL Rp.mv w Kl (.slice Al 1 cl) [(f,t)]) (hml:m.length≤1000000) (hch:za2 0 m) (hf:mayE f) (ht:mayE t) (hfz:f.zone≠-1) (htz:t.zone≠-1)
 (hsame:t.lba=f.lba∧t.n=f.n∧t.ver=f.ver) (hfew:(putE m (movE m f t)).length≤10000) (hmc:za2 0 (joinE (movE m f t))) :
 Calls Tryz.prog 55 #[.slice A m.length c,.slice Al 1 cl] w fun x w'=>
  ∃ A1 c1,x=.returned (.tuple #[.slice A1 (putE m (movE m f t)).length c1,.int .i64 (zb6 (joinE (movE m f t))),.int .i64 0])∧IsL Rp.ex w' (fun b=>w.heap.size≤b) (.slice A1 (putE m (movE m f t)).length c1) (putE m (movE m f t))∧Below w.heap.size w w':=by
 have hc:chkE m=0:=by unfold chkE;rw [if_pos hch]
 have hmv:=fun A c W hv=>zkj A c m f t (fun b=>w.heap.size≤b) W hv hch hf ht hfz htz hsame hfew
 obtain ⟨hm1,hm0⟩:=zih _ _ hmc;have hm2:=zby hmc;have hm3:lastE 0 (joinE (movE m f t))≤1099511627776:=zfi _ 0 (by omega) hmc
 have hmn:=fun A c W hv=>zl1 A c (joinE (movE m f t)) (fun b=>w.heap.size≤b) W hv hmc
 obtain ⟨mk,hmk⟩:∃ mk,zb6 (joinE (movE m f t))=mk:=⟨_,rfl⟩;rw [hmk] at hmn hm1 hm0 ⊢;generalize joinE (movE m f t)=jl at hmv hmn hm2 hm1 hm3;obtain ⟨jn,hjn⟩:∃ jn,jl.length=jn:=⟨_,rfl⟩;rw [hjn] at hmv hmn;generalize putE m (movE m f t)=pl at hmv hfew ⊢;obtain ⟨pn,hpn⟩:∃ pn,pl.length=pn:=⟨_,rfl⟩;rw [hpn] at hmv hfew ⊢;obtain ⟨mn,hmn2⟩:∃ mn,m.length=mn:=⟨_,rfl⟩;have HM:=Lib.hid hmn2;have E:=((Kn.start w).give za1.list hv).give za1.list hl;have HMV:=Lib.hid hmv;have HMN:=Lib.hid hmn;clear hmk hjn hpn hmv hmn hch hf ht hfz htz hsame hmc hm2 hmn2;go_enter Tryz.func55,Tryz.ntmps55
 go_wp2_with fail;refine (zaV _ m K _ (E.get m1)).mono ?_;rintro x w1 ⟨rfl,hb1⟩;rw [hc];replace E:=E.step hb1;go_wp2_with fail;refine (zcX A m.length c K (exLs m) _ (zcA (E.get m1)) (zav m) (by omega)).mono ?_
 rintro x w2 ⟨A2,c2,rfl,own2,hb2⟩;replace E:=E.step hb2;have hL2:IsL Rp.ex w2 (fun b=>w.heap.size≤b) (.slice A2 m.length c2) m:=(zaA own2 rfl (by omega)).more fun b hb=>by have:=hb1.size;omega
 clear own2 hb1 hb2 hc hv hl;go_wp2_with fail;go_loopw [0,8,23] (fun o k i wr=>∃ j:Nat,i=.int .i64 j∧((j=0∧k=.int .i64 0∧o=.slice A2 m.length c2∧wr=w2)∨(j=1∧∃ A4 c4,o=.slice A4 pn c4∧k=.int .i64 mk∧IsL Rp.ex wr (fun b=>w.heap.size≤b) (.slice A4 pn c4) pl∧Below w.heap.size w wr))) (fun _ _ i _=>1-(intOf i).toNat)
 case atStart=>exact ⟨0,rfl,Or.inl ⟨rfl,rfl,rfl,rfl⟩⟩
 case round=>
  obtain ⟨j,rfl,⟨rfl,rfl,rfl,rfl⟩ | ⟨rfl,A4,c4,rfl,rfl,hR,hbR⟩⟩:=hrel
  · obtain ⟨ad,had,-,c0,cs⟩:=zpd (E.get m0)
    subst had;have c1:=cs 1 _ (by decide) rfl
    have c2':=cs 2 _ (by decide) rfl
    have c3:=cs 3 _ (by decide) rfl
    have c4:=cs 4 _ (by decide) rfl
    have c5:=cs 5 _ (by decide) rfl
    have c6:=cs 6 _ (by decide) rfl
    have c7:=cs 7 _ (by decide) rfl
    have c8:=cs 8 _ (by decide) rfl
    have c9:=cs 9 _ (by decide) rfl
    clear cs;have hbw:=E.below;have hba:Below wr.heap.size wr (wr.alloc (.cells (mvC f t) 202)):=(Below.refl _ _).alloc (Nat.le_refl _) _;go_wp2_with fail;refine (HMV.out A2 c2 _ (hL2.step hba)).mono ?_;rintro x w3 ⟨A5,d5,A6,d6,rfl,hp5,hj6,hb3⟩;have hb4:Below wr.heap.size wr w3:=hba.trans (hb3.mono hba.size);have hs4:=hbw.trans (hb4.mono hbw.size);have hz4:=hba.size;have hz5:=hbw.size;have hp6:IsL Rp.ex w3 (fun b=>w.heap.size≤b) (.slice A5 pn d5) pl:=hp5.more fun b hb=>by omega
    have hj7:IsL Rp.ex w3 (fun b=>w.heap.size≤b) (.slice A6 jn d6) jl:=hj6.more fun b hb=>by omega
    clear c0 c1 c2' c3 c4 c5 c6 c7 c8 c9 hba hb3 hL2 hp5 hj6;go_wp2_with fail;refine (HMN.out A6 d6 _ hj7).mono ?_;rintro x w4 ⟨rfl,hb5⟩;go_wp2_with fail;go_roundw
    case rel=>exact ⟨1,by go_num,Or.inr ⟨rfl,A5,d5,rfl,by go_num,hp6.step hb5,hs4.trans (hb5.mono hs4.size)⟩⟩
    case measure=>decide
  · go_wp2_with fail
    go_ret3
    exact ⟨A4,c4,rfl,hR,hbR⟩
def exN (e:Ex):List Int:=[e.lba,e.n,e.ver,e.zone+1,e.off]
def mapB (m:List Ex):List UInt8:=m.flatMap fun e=>flatN (exN e)
theorem zlf (m:List Ex) (e:Ex):mapB (m++[e])=mapB m++flatN (exN e):=by simp [mapB]
theorem znx {e:Ex} (h:mayE e) (hv:e.ver≤9223372036854775807):I63 (exN e)∧zc4 (exN e)=(flatN (exN e),0):=by
 obtain ⟨⟨p0,p1,p2,p3⟩,p4,p5,p6,p7,p8,p9⟩:=h;have hof:e.off≤1125899906842624:=by by_cases h:e.zone = -1 <;> omega
 refine ⟨fun n hn=>?_,if_pos fun n hn=>?_⟩ <;>
 · simp only [exN,List.mem_cons,List.not_mem_nil,or_false] at hn
   rcases hn with rfl | rfl | rfl | rfl | rfl <;> omega
theorem zjs (A:Option Addr) (c:Nat) (m:List Ex) (K:Nat→Prop) (w:World) (hv:IsL Rp.ex w K (.slice A m.length c) m) (hch:za2 0 m) (hver:∀ e∈m,e.ver≤9223372036854775807) (hml:m.length≤1000000) :
 Calls Tryz.prog 165 #[.slice A m.length c] w fun x w'=>∃ A1 c1 bs,x=.returned (.tuple #[.slice A1 bs.length c1,.int .i64 (if 32768<(mapB m).length then 2 else 0)])∧bs=(if 32768<(mapB m).length then [] else mapB m)∧w'.ownsRow w.heap.size 5 1 (.slice A1 bs.length c1) bs.length (za3 bs)∧Below w.heap.size w w':=by
 obtain ⟨i0,hi,hz0,hz1,hz2⟩:=info_parts Tryz.info5;have hc:chkE m=0:=by unfold chkE;rw [if_pos hch]
 have hmay:∀ e∈m,mayE e:=fun e he=>(zai hch e he).1
 have HMAY:=Lib.hid hmay;have HVER:=Lib.hid hver;obtain ⟨n,hn⟩:∃ n,m.length=n:=⟨_,rfl⟩;have HN:=Lib.hid hn;have HCK:=Lib.hid (fun W hv=>zaV (.slice A m.length c) m K W hv)
 obtain ⟨kk,hkk⟩:∃ kk,(mapB m).length=kk:=⟨_,rfl⟩;rw [hkk];have HKK:=Lib.hid hkk;clear hkk;rw [hn] at hv hml ⊢;have E:=(Kn.start w).give za1.list hv;have hck:=HCK.out;rw [hn] at hck;have HCK:=Lib.hid hck;clear hck hn hmay hver hch;go_enter Tryz.func165,Tryz.ntmps165
 go_wp2_with fail;refine (HCK.out _ (E.get m0)).mono ?_;rintro x w1 ⟨rfl,hb1⟩;rw [hc];replace E:=E.step hb1;have hs1:=hb1.size;clear hc;go_wp2_with fail;go_loopw [5,17] (fun o i wr=>∃ (j k:Nat) (Ao:Option Addr) (co:Nat),o=.slice Ao k co∧i=.int .i64 j∧j≤n∧k≤50*j∧Hid ((mapB (m.take j)).length=k)∧wr.ownsRow w1.heap.size 5 1 (.slice Ao k co) k (za3 (mapB (m.take j)))∧Below w1.heap.size w1 wr) (fun _ i _=>n-(intOf i).toNat)
 case atStart=>exact ⟨0,0,none,0,rfl,rfl,Nat.zero_le _,Nat.zero_le _,Lib.hid rfl,World.ownsRow_nil _ _ _ _,Below.refl _ _⟩
 case round=>
  obtain ⟨j,k,Ao,co,rfl,rfl,hj,hkj,HK,hown,hb⟩:=hrel;have hsz:=hb.size;have F:=E.step hb;by_cases hlt:j<n
  · obtain ⟨e,he⟩:∃ e,m[j]?=some e:=⟨_,List.getElem?_eq_getElem (by rw [HN.out];exact hlt)⟩
    have hme:=HMAY.out e (List.mem_of_getElem? he);obtain ⟨h63,hnl⟩:=znx hme (HVER.out e (List.mem_of_getElem? he));have hfl:=zc9 h63;have hsn:=zlf (m.take j) e;rw [←zdo m he] at hsn;obtain ⟨ad,rfl,-,c0,c1',c2,c3,c4⟩:=zb9 (F.get m0) he;have i1':(j:Int)<(n:Int):=by omega
    have i0':(0:Int)≤(j:Int):=by omega
    have hz3:=hme.2.2;have hN:∀ W:World,Calls Tryz.prog 129 #[.slice (some ⟨W.heap.size,0,none⟩) 5 5] (W.alloc (.cells #[.int .i64 e.lba,.int .i64 e.n,.int .i64 e.ver,.int .i64 (e.zone+1),.int .i64 e.off] 3)) fun x w'=>∃ A' c',x=.returned (.tuple #[.slice A' (flatN (exN e)).length c',.int .i64 0]) ∧
     w'.ownsRow (W.heap.size+1) 5 1 (.slice A' (flatN (exN e)).length c') (flatN (exN e)).length (za3 (flatN (exN e)))∧Below (W.heap.size+1) (W.alloc (.cells #[.int .i64 e.lba,.int .i64 e.n,.int .i64 e.ver,.int .i64 (e.zone+1),.int .i64 e.off] 3)) w':=fun W=>by
     have:=zfn _ (exN e) _ _ (zeo (w:=W) (n:=5) (cs:=#[.int .i64 e.lba,.int .i64 e.n,.int .i64 e.ver,.int .i64 (e.zone+1),.int .i64 e.off]) h63 3 rfl rfl (by omega)) (by show 5≤_;omega)
     rw [hnl] at this;simpa only [World.size_alloc] using this
    have hfl5:(exN e).length=5:=rfl;rw [hfl5] at hfl;generalize flatN (exN e)=nb at hN hfl hsn;obtain ⟨ln,hln⟩:∃ ln,nb.length=ln:=⟨_,rfl⟩;rw [hln] at hN hfl;have HLN:=Lib.hid hln;have HSN:=Lib.hid hsn;have HNU:=Lib.hid hN;clear hln hsn hN h63 hnl he hme;have F2:=F.push 85 (exC e);go_wp2_with fail;have hba:Below wr.heap.size wr (wr.alloc (.cells (exC e) 85)):=(Below.refl _ _).alloc (Nat.le_refl _) _;have hNW:=HNU.out (wr.alloc (.cells (exC e) 85));rw [World.size_alloc] at hNW;refine hNW.mono ?_;rintro x w3 ⟨A3,c3',rfl,own3,hb3⟩;have hb4:Below wr.heap.size wr w3:=(hba.alloc (by rw [World.size_alloc];omega) _).trans (hb3.mono (by omega))
    have hs4:=hb4.size;have own4:=za4 hown hb4 (Nat.le_refl _);have hap:za3 (mapB (m.take j)++nb)=za3 (mapB (m.take j))++za3 nb:=by simp [za3]
    have hnv:=zan nb;clear c0 c1' c2 c3 c4 hNW hba;go_wp2_with (at_builtin;refine za5 rfl _ _ _ rfl w1.heap.size 5 i0 _ 1 1 Tryz.underlying32 hi hz0 hz1 hz2 rfl (by omega) rfl own4 rfl (za6.of_own own3) hnv (by simp only [maxLen];omega) (by omega) (by omega) ?_;intro A8 c8 w6 own8 hg8)
    go_roundw
    case rel=>exact ⟨j+1,k+ln,A8,c8,rfl,by go_num,by omega,by omega,Lib.hid (by rw [HSN.out,List.length_append,HK.out,HLN.out]),by rw [HSN.out,hap];exact own8,(hb.trans (hb4.mono hsz)).trans hg8.below⟩
    case measure=>simp [intOf];omega
  · obtain rfl:j=n:=by omega
    have htk:m.take j=m:=by rw [←HN.out,List.take_length]
    rw [htk] at HK hown;have hkl:kk=k:=HKK.out.symm.trans HK.out;subst hkl;clear htk HK;by_cases hbig:32768<kk
    · go_wp2_with fail
      go_ret2;exact ⟨none,0,[],rfl,rfl,World.ownsRow_nil _ _ _ _,F.below⟩
    · go_wp2_with fail
      go_ret2;exact ⟨Ao,co,mapB m,by rw [HKK.out];rfl,rfl,by rw [HKK.out];exact zac hown hs1,F.below⟩
end Go.Proofs.YthblkdnijhphhaaGreat
