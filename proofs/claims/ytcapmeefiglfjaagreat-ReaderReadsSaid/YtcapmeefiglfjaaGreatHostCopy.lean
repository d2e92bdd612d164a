/- A part of the proof. -/
import Derived.Test.YtcapmeefiglfjaaGreatFill16
import Derived.Test.YtcapmeefiglfjaaGreatExtPut
set_option linter.unusedSimpArgs false
set_option maxHeartbeats 8000000
set_option maxRecDepth 100000
namespace Go.Proofs.YtcapmeefiglfjaaGreat
open Go.RowKit
def Rp.fd:Rp Fd:=⟨7,fun w K cs f=>∃ vl va,cs=[.bool f.head,.int .i64 f.h.host,.int .i64 f.h.epoch,.int .i64 f.h.seq,vl,va,.int .i64 f.used]∧IsL Rp.rc w K vl f.l∧IsL Rp.int w K va f.at_,
 by rintro _ _ _ _ ⟨vl,va,rfl,h1,h2⟩;rfl,
 by rintro _ _ _ _ _ ⟨vl,va,e,h1,h2⟩ hk;exact ⟨vl,va,e,h1.keep hk,h2.keep hk⟩,
 by rintro _ _ _ _ _ ⟨vl,va,e,h1,h2⟩ hk;exact ⟨vl,va,e,h1.more hk,h2.more hk⟩,
 by
  rintro _ _ _ _ ⟨vl,va,rfl,h1,h2⟩ u hu;have o1:=RpL.one h1;have o2:=RpL.one h2;simp only [zim,ziJ,zju] at hu;rcases hu with rfl | rfl | rfl | rfl | rfl | rfl | rfl <;> first | rfl | assumption⟩
theorem Tryz.infFd:(Tryz.prog.info? 192).map (fun i=>(i.zero,i.size,i.bytes))=some (some (.agg #[.bool false,.int .i64 0,.int .i64 0,.int .i64 0,.slice none 0 0,.slice none 0 0,.int .i64 0]),7,88):=by kernel_rfl
def vS (b:List UInt8):Prop:=∀ (v:Value) (K:Nat→Prop) (w:World),IsB w K v b→Calls Tryz.prog 211 #[v] w fun e w'=>∃ A4 c4 A5 c5,e=.returned (.agg (fdC (scanL b) (.slice A4 (scanL b).l.length c4) (.slice A5 (scanL b).at_.length c5))) ∧
 IsL Rp.rc w' (fun k=>w.heap.size≤k) (.slice A4 (scanL b).l.length c4) (scanL b).l∧IsL Rp.int w' (fun k=>w.heap.size≤k) (.slice A5 (scanL b).at_.length c5) (scanL b).at_∧Below w.heap.size w w'
theorem zcT (z:Zn) (A:Option Addr) (c:Nat) (K:Nat→Prop) (w:World) (hz:IsB w K (.slice A z.d.length c) z.d) (hl:vS z.d) :
 Calls Tryz.prog 169 #[.agg #[.int .i64 z.st,.int .i64 z.fe,.slice A z.d.length c]] w fun e w'=>∃ A4 c4 A5 c5,e=.returned (.agg (fdC (scanL z.d) (.slice A4 (scanL z.d).l.length c4) (.slice A5 (scanL z.d).at_.length c5))) ∧
  IsL Rp.rc w' (fun k=>w.heap.size≤k) (.slice A4 (scanL z.d).l.length c4) (scanL z.d).l∧IsL Rp.int w' (fun k=>w.heap.size≤k) (.slice A5 (scanL z.d).at_.length c5) (scanL z.d).at_∧Below w.heap.size w w':=by
 have E:=((Kn.start w).push 134 #[.int .i64 z.st,.int .i64 z.fe,.slice A z.d.length c]).push 192 #[.bool false,.int .i64 0,.int .i64 0,.int .i64 0,.slice none 0 0,.slice none 0 0,.int .i64 0];obtain ⟨q0,f0,t0⟩:=E.rules m1;have hsc:=fun w hv=>hl (.slice A z.d.length c) K w hv
 generalize scanL z.d=f at *;go_enter Tryz.func169,Tryz.ntmps169
 go_wp2_with fail;refine (hsc _ ((hz.alloc _).alloc _)).mono ?_;rintro x w2 ⟨A4,c4,A5,c5,rfl,h1,h2,hb2⟩;unfold fdC;replace E:=E.step hb2;rw [zid] at E h1 h2;clear q0 f0 t0;obtain ⟨q0,f0,t0⟩:=E.rules m0;go_wp2;refine zaw (K:=fun W=>bodyPost _ _ _ _ _ W) (E.at_ m0) _ _ _ _ _ _ _ ?_
 intro w3 ht hB3;obtain ⟨q3,f3⟩:=hB3.rules;have hb3:=aA.upon E.below ht (by omega) (zic _)
 refine zik (v:=.agg #[.bool f.head,.int .i64 f.h.host,.int .i64 f.h.epoch,.int .i64 f.h.seq,.slice A4 f.l.length c4,.slice A5 f.at_.length c5,.int .i64 f.used]) (by simp [results,Tryz.results169,go_sem,q3]) rfl ⟨A4,c4,A5,c5,rfl,(h1.turned ht (fun b hb h=>by rw [zid] at hb;omega)).more (fun b hb=>by rw [zid] at hb;omega),(h2.turned ht (fun b hb h=>by rw [zid] at hb;omega)).more (fun b hb=>by rw [zid] at hb;omega),hb3⟩
theorem aI.ltG {α:Type} {R:Rp α} {w:World} {K:Nat→Prop} (hR:∀ cs x,R.is w K cs x→R.is w (fun b=>K b∧b<w.heap.size) cs x):∀ {cs:List Value} {l:List α},aI R w K cs l→aI R w (fun b=>K b∧b<w.heap.size) cs l
 | _,[],h=>h
 | _,_::_,⟨a,b,e,h1,h2⟩=>⟨a,b,e,hR a _ h1,aI.ltG hR h2⟩
theorem IsL.ltG {α:Type} {R:Rp α} {w:World} {K:Nat→Prop} {v:Value} {l:List α} (hR:∀ cs x,R.is w K cs x→R.is w (fun b=>K b∧b<w.heap.size) cs x) (hs:0<R.size) (h:IsL R w K v l):IsL R w (fun b=>K b∧b<w.heap.size) v l:=by
 obtain ⟨A,c,cs,e,h1,h2,h3⟩:=h;exact ⟨A,c,cs,e,h1.lt hs,h2.ltG hR,h3⟩
theorem IsL.ltC {w:World} {K:Nat→Prop} {v:Value} {l:List Rc} (h:IsL Rp.rc w K v l):IsL Rp.rc w (fun b=>K b∧b<w.heap.size) v l:=
 h.ltG (fun _ _ hx=>by obtain ⟨vd,e,hB,r⟩:=hx;exact ⟨vd,e,hB.lt,r⟩) (by decide)
theorem IsL.ltI {w:World} {K:Nat→Prop} {v:Value} {l:List Int} (h:IsL Rp.int w K v l):IsL Rp.int w (fun b=>K b∧b<w.heap.size) v l:=
 h.ltG (fun _ _ hx=>hx) (by decide)
theorem eA.lt2 {α:Type} {R:Rp α} {w:World} {base:Nat} {e:TypeId} {X:Nat→Prop} {A:Option Addr} {n c:Nat} {l:List α} (h:eA R w base e X (.slice A n c) l):∀ b,(Value.slice A n c).ownBlock=some b→base≤b∧b<w.heap.size:=by
 obtain ⟨A',c',cs,e,h1,h2⟩:=h;rw [e];exact fun b hb=>h1.lt b hb
def bA (zs:List Zn):List Fd:=zs.map fun z=>scanL z.d
theorem xX (d:Zd) (A:Option Addr) (c:Nat) (K:Nat→Prop) (w:World) (hv:IsL Rp.zone w K (.slice A d.z.length c) d.z) (hd:okD d) (hS:∀ z∈d.z,vS z.d) :
 Calls Tryz.prog 104 #[.agg #[.int .i64 d.cap,.int .i64 d.opn,.int .i64 d.act,.slice A d.z.length c]] w fun e w'=>∃ Ao co,e=.returned (.slice Ao d.z.length co) ∧
  IsL Rp.fd w' (fun k=>w.heap.size≤k) (.slice Ao d.z.length co) (bA d.z)∧Below w.heap.size w w':=by
 obtain ⟨i0,hi,hz0,hz1,hz2⟩:=ziH Tryz.infFd;have hzl:=hS;have hn64:=hd.1.2.1;have hc0:oH d=0:=by unfold oH;rw [zij hd]
 have hcc:=fun w v hv=>jG d v K w hv
 rw [hc0] at hcc;have E:=((Kn.start w).give aB.list hv).push 26 #[.int .i64 d.cap,.int .i64 d.opn,.int .i64 d.act,.slice A d.z.length c];obtain ⟨zs,hzs⟩:∃ zs,d.z=zs:=⟨_,rfl⟩;rw [hzs] at hzl hn64 hcc E hv ⊢;obtain ⟨n,hn⟩:∃ n,zs.length=n:=⟨_,rfl⟩;have hfl:(bA zs).length=n:=by unfold bA;rw [zjr,hn]
 have hft:∀ j,(hj:j<zs.length)→(bA zs).take (j+1)=(bA zs).take j++[scanL zs[j].d]:=fun j hj=>gG _ (by unfold bA;rw [zj1,zib hj];rfl)
 rw [hn] at hn64 E hv ⊢;have HZL:=zia hzl;have HN:=zia hn;have HCC:=zia hcc;have HFT:=zia hft;have HFL:=zia hfl;clear hzl hn hcc hc0 hft hfl hd hzs;obtain ⟨q0,f0,t0⟩:=E.rules m0;go_enter Tryz.func104,Tryz.ntmps104
 go_wp2_with fail;refine (HCC.out _ _ (hv.alloc _)).mono ?_;rintro x w2 ⟨rfl,hb2⟩;replace E:=E.step hb2;clear q0 f0 t0 hb2;obtain ⟨q0,f0,t0⟩:=E.rules m0;go_wp2_with fail;go_loopw [3,5,12] (fun x3 x5 x12 wr=>∃ (j:Nat) (Ao:Option Addr) (co:Nat),x12=.int .i64 j∧j≤n∧x3=.slice Ao j co∧eA Rp.fd wr w2.heap.size 192 (fun b=>w2.heap.size≤b) (.slice Ao j co) ((bA zs).take j)∧Below w2.heap.size w2 wr∧∃ y,x5=y) (fun _ _ x12 _=>n-(intOf x12).toNat)
 case atStart=>exact ⟨0,none,0,rfl,zir _,rfl,eA.nil_ _ _ _ _,zif _ _,_,rfl⟩
 case round=>
  obtain ⟨j,Ao,co,rfl,hj,rfl,hown,hb,y,rfl⟩:=hrel;have hsz:=hb.size;clear q0 f0 t0;have F:=E.step hb;by_cases hlt:j<n
  case neg=>
   obtain rfl:j=n:=by omega
   rw [zip (by rw [HFL.out];exact zic _)] at hown
   have hs2:=E.below.size;have hfin:=hown.isLt (X':=fun b=>w.heap.size≤b) (by rw [HFL.out];omega) (fun b _ h=>by omega) (fun b _ h=>by omega)
   clear E;go_wp2;go_ret;exact ⟨Ao,co,rfl,hfin,F.below⟩
  have hlt':j<zs.length:=by rw [HN.out];exact hlt
  obtain ⟨ad,B,cB,rfl,hadb,_,hB,c0,c1,c2⟩:=IsL.zone_at (F.get m0) (zib hlt');have hln:=HZL.out _ (ziD hlt');have hft:=HFT.out j hlt';generalize zs[j]=z at hB c0 c1 c2 hln hft;have HF:=zia hft;clear hft;have j1:(j:Int)<(n:Int):=by omega
  have j0:(0:Int)≤(j:Int):=by omega
  go_wp2_with fail;refine (zcT z B cB _ _ (hB.alloc _) hln).mono ?_;rintro x w4 ⟨A4,c4,A5,c5,rfl,h1,h2,hb4⟩;generalize scanL z.d=f at *;unfold fdC;clear c0 c1 c2 hB;have hal:((bA zs).take j).length=j:=by rw [zio,HFL.out];omega
  have hown4:=(hown.step ((zif _ _).alloc (zic _) (.cells #[.int .i64 z.st,.int .i64 z.fe,.slice B z.d.length cB] 134))).step hb4;have hrow:=hown.lt2;obtain ⟨hjj,cs,own4,cl4⟩:=hown4.open_;rw [hal] at own4 cl4;replace own4:w4.ownsRow w2.heap.size 192 7 (.slice Ao j co) j cs:=own4;have HAL:=zia hal;clear hjj hal hown hown4;rw [zid] at h1 h2;have hs4:wr.heap.size+1≤w4.heap.size:=by have:=hb4.size;rw [zid] at this;exact this
  go_wp2_with (at_builtin;(refine aF rfl _ _ _ rfl w2.heap.size 192 i0 _ 7 88 Tryz.underlying189 hi hz0 hz1 hz2 rfl (by omega) rfl (own4.alloc _) rfl (aG.new (xs:=[.bool f.head,.int .i64 f.h.host,.int .i64 f.h.epoch,.int .i64 f.h.seq,.slice A4 f.l.length c4,.slice A5 f.at_.length c5,.int .i64 f.used]) (n:=1) rfl rfl rfl) (by intro u hu;simp only [zim,ziJ,zju] at hu;rcases hu with rfl | rfl | rfl | rfl | rfl | rfl | rfl <;> rfl) (by simp only [maxLen];omega) (by omega) (by rw [zid];omega) ?_;intro A8 c8 w6 own8 hg8))
  go_roundw
  case rel=>
   refine ⟨j+1,A8,c8,by go_num,by omega,rfl,?_,?_,_,rfl⟩
   · rw [HF.out]
     have hne:∀ b,wr.heap.size+1≤b→some b≠(Value.slice Ao j co).ownBlock:=fun b hb h=>by have:=hrow b h.symm;omega
     have hp:=eA.push (R:=Rp.fd) (X:=fun b=>w2.heap.size≤b) (l:=(bA zs).take j) (a:=f) (A:=Ao) (A':=A8) (c:=co) (c':=c8) (w:=w4.alloc (.cells ([.bool f.head,.int .i64 f.h.host,.int .i64 f.h.epoch,.int .i64 f.h.seq,.slice A4 f.l.length c4,.slice A5 f.at_.length c5,.int .i64 f.used]).toArray 192)) (w':=w6) (base:=w2.heap.size) (e:=192) (news:=[.bool f.head,.int .i64 f.h.host,.int .i64 f.h.epoch,.int .i64 f.h.seq,.slice A4 f.l.length c4,.slice A5 f.at_.length c5,.int .i64 f.used])
      (by rw [HAL.out];exact (cl4.alloc _).more fun b hb=>⟨hb.1,by rw [zid];omega,hb.2.2⟩) ⟨_,_,rfl,(h1.ltC.alloc _).more fun b hb=>⟨by omega,by rw [zid];omega,by rw [HAL.out];exact hne b hb.1⟩,(h2.ltI.alloc _).more fun b hb=>⟨by omega,by rw [zid];omega,by rw [HAL.out];exact hne b hb.1⟩⟩ (by rw [HAL.out];exact own8) (by rw [HAL.out];exact hg8)
     rw [HAL.out] at hp;exact hp
   · exact (((hb.alloc hsz (.cells #[.int .i64 z.st,.int .i64 z.fe,.slice B z.d.length cB] 134)).trans (hb4.mono (by rw [zid];omega))).alloc (by omega) (.cells ([.bool f.head,.int .i64 f.h.host,.int .i64 f.h.epoch,.int .i64 f.h.seq,.slice A4 f.l.length c4,.slice A5 f.at_.length c5,.int .i64 f.used]).toArray 192)).trans (hg8.below.mono (zic _))
  case measure=>simp [intOf];omega
theorem zfU {w:World} {K:Nat→Prop} {A:Option Addr} {c g:Nat} {r:Rc} (hg:w.heap.size=g) (hv:IsB w K (.slice A r.data.length c) r.data) (h:lZ r) :
 IsL Rp.rc (w.alloc (.cells #[.int .i64 r.kind,.int .i64 r.lba,.int .i64 r.n,.int .i64 r.ver,.int .i64 r.zone,.int .i64 r.off,.slice A r.data.length c] 117)) (fun b=>b=g∨K b) (.slice (some ⟨g,0,none⟩) 1 1) [r]:=
 ⟨_,1,_,rfl,(aG.new (n:=1) (size:=7) hg rfl rfl).more (fun _ h=>.inl h),aI.single (zh0 ((hv.alloc _).more fun _ h=>.inr h) h),by simp,by omega,by simp⟩
theorem dI {K:World→Prop} {w:World} {g:Nat} {t:TypeId} {u0 u1 u2 u3:Value} (hB:Blk w g t #[u0,u1,u2,u3]) (x0 x1 x2 x3:Value)
 (h:∀ wy,wy.heap.size=w.heap.size→aA w wy (fun b=>b=g)→Blk wy g t #[x0,x1,x2,x3]→K wy):K ((((w.setCell ⟨g,0,none⟩ x0).setCell ⟨g,1,none⟩ x1).setCell ⟨g,2,none⟩ x2).setCell ⟨g,3,none⟩ x3):=
 zhd (K:=fun W=>W.heap.size=w.heap.size→K W) hB x0 x1 x2 x3 (fun wy ht hB hs=>h wy hs ht hB) (by simp)
structure Fn where
 zone:Int
 host:Int
 epoch:Int
def Rp.fn:Rp Fn:=⟨3,fun _ _ cs o=>cs=[.int .i64 o.zone,.int .i64 o.host,.int .i64 o.epoch],
 by rintro _ _ _ _ rfl;rfl,
 fun h _=>h,
 fun h _=>h,
 by
  rintro _ _ _ _ rfl u hu;simp only [zim,ziJ,zju] at hu;rcases hu with rfl | rfl | rfl <;> first | rfl | assumption⟩
structure Sp where
 from_:Int
 till:Int
 owner:Int
 epoch:Int
def Rp.sp:Rp Sp:=⟨4,fun _ _ cs o=>cs=[.int .i64 o.from_,.int .i64 o.till,.int .i64 o.owner,.int .i64 o.epoch],
 by rintro _ _ _ _ rfl;rfl,
 fun h _=>h,
 fun h _=>h,
 by
  rintro _ _ _ _ rfl u hu;simp only [zim,ziJ,zju] at hu;rcases hu with rfl | rfl | rfl | rfl <;> first | rfl | assumption⟩
structure Ho where
 id:Int
 own:List Fn
 s:List Sp
 opn:Bool
 p:Pk
 m:List Ex
 ver:Int
 seq:Int
abbrev hoC (h:Ho) (vo vs vb vl vm:Value):Array Value:=#[.int .i64 h.id,vo,vs,.bool h.opn,.int .i64 h.p.h.host,.int .i64 h.p.h.epoch,.int .i64 h.p.h.seq,.int .i64 h.p.zone,.int .i64 h.p.cap,.int .i64 h.p.at_,vb,vl,vm,.int .i64 h.ver,.int .i64 h.seq]
abbrev hoS (h:Ho) (Ao:Option Addr) (co:Nat) (As:Option Addr) (cs:Nat) (Ab:Option Addr) (cb:Nat) (Al:Option Addr) (cl:Nat) (Am:Option Addr) (cm:Nat):Array Value:=hoC h (.slice Ao h.own.length co) (.slice As h.s.length cs) (.slice Ab h.p.buf.length cb) (.slice Al h.p.l.length cl) (.slice Am h.m.length cm)
def aY (w:World) (K:Nat→Prop) (v:Value) (h:Ho):Prop:=∃ vo vs vb vl vm,v=.agg (hoC h vo vs vb vl vm)∧IsL Rp.fn w K vo h.own∧IsL Rp.sp w K vs h.s∧IsB w K vb h.p.buf∧IsL Rp.rc w K vl h.p.l∧IsL Rp.ex w K vm h.m
section
variable {w w':World} {K K':Nat→Prop} {v:Value} {h:Ho}
theorem aY.step (hh:aY w K v h) (hb:Below w.heap.size w w'):aY w' K v h:=by
 obtain ⟨vo,vs,vb,vl,vm,e,h1,h2,h3,h4,h5⟩:=hh;exact ⟨vo,vs,vb,vl,vm,e,h1.step hb,h2.step hb,h3.step hb,h4.step hb,h5.step hb⟩
theorem aY.more (hh:aY w K v h) (hk:∀ b,K b→K' b):aY w K' v h:=by
 obtain ⟨vo,vs,vb,vl,vm,e,h1,h2,h3,h4,h5⟩:=hh;exact ⟨vo,vs,vb,vl,vm,e,h1.more hk,h2.more hk,h3.more hk,h4.more hk,h5.more hk⟩
theorem aY.keep (hh:aY w K v h) (hk:∀ p:Addr,K p.block→p.block<w.heap.size→w'.cell? p=w.cell? p):aY w' K v h:=by
 obtain ⟨vo,vs,vb,vl,vm,e,h1,h2,h3,h4,h5⟩:=hh;exact ⟨vo,vs,vb,vl,vm,e,h1.keep hk,h2.keep hk,h3.keep hk,h4.keep hk,h5.keep hk⟩
theorem aB.ho:aB (fun w=>aY w K v h):=fun _ _ hh hb=>hh.step hb
end
def lD (e:Fn):List Value:=[.int .i64 e.zone,.int .i64 e.host,.int .i64 e.epoch]
def kO (e:Sp):List Value:=[.int .i64 e.from_,.int .i64 e.till,.int .i64 e.owner,.int .i64 e.epoch]
def dF (lba n most:Int):Prop:=0≤lba∧1≤n∧n≤most∧lba≤1099511627776-n
instance (lba n most:Int):Decidable (dF lba n most):=inferInstanceAs (Decidable (_∧_))
theorem oE (lba n most:Int) (w:World) (hm:most≤1099511627776) :
 Calls Tryz.prog 63 #[.int .i64 lba,.int .i64 n,.int .i64 most] w fun e w'=>e=.returned (.bool (decide (dF lba n most)))∧Below w.heap.size w w':=by
 have E:=Kn.start w;by_cases h1:0≤lba
 case neg=>
  rw [ziv (fun h:dF lba n most=>h1 h.1)]
  go_enter Tryz.func63,Tryz.ntmps63
  go_wp2;go_ret;exact ⟨rfl,E.below⟩
 by_cases h2:1≤n
 case neg=>
  rw [ziv (fun h:dF lba n most=>h2 h.2.1)]
  go_enter Tryz.func63,Tryz.ntmps63
  go_wp2;go_ret;exact ⟨rfl,E.below⟩
 by_cases h3:n≤most
 case neg=>
  rw [ziv (fun h:dF lba n most=>h3 h.2.2.1)]
  go_enter Tryz.func63,Tryz.ntmps63
  go_wp2;go_ret;exact ⟨rfl,E.below⟩
 by_cases h4:lba≤1099511627776-n
 case neg=>
  rw [ziv (fun h:dF lba n most=>h4 h.2.2.2)]
  go_enter Tryz.func63,Tryz.ntmps63
  go_wp2;go_ret;exact ⟨rfl,E.below⟩
 rw [ziu (show dF lba n most from ⟨h1,h2,h3,h4⟩)];go_enter Tryz.func63,Tryz.ntmps63
 go_wp2;go_ret;exact ⟨rfl,E.below⟩
theorem zfM {w:World} {K:Nat→Prop} {A:Option Addr} {n c:Nat} {l:List Sp} (h:IsL Rp.sp w K (.slice A n c) l) {j:Nat} {e:Sp} (hj:l[j]?=some e) :
 ∃ ad,A=some ad∧K ad.block∧w.cell? (ad.add (j*4))=some (.int .i64 e.from_)∧w.cell? ⟨(ad.add (j*4)).block,(ad.add (j*4)).off+1,none⟩=some (.int .i64 e.till)∧w.cell? ⟨(ad.add (j*4)).block,(ad.add (j*4)).off+2,none⟩=some (.int .i64 e.owner) ∧
   w.cell? ⟨(ad.add (j*4)).block,(ad.add (j*4)).off+3,none⟩=some (.int .i64 e.epoch):=by
 obtain ⟨ad,es,hA,hKad,hes,hcell⟩:=h.at_ hj;obtain rfl:es=_:=hes;have hsz:Rp.sp.size=4:=rfl;rw [hsz] at hcell;refine ⟨ad,hA,hKad,?_,?_,?_,?_⟩
 · rw [←cW (ad.add (j*4))];exact hcell 0 _ rfl
 · rw [←bT _ 1 (by decide)];exact hcell 1 _ rfl
 · rw [←bT _ 2 (by decide)];exact hcell 2 _ rfl
 · rw [←bT _ 3 (by decide)];exact hcell 3 _ rfl
def reachS (lba:Int) (l:List Sp):Int:=l.foldl (fun b s=>if s.from_≤b∧b<s.till then s.till else b) lba
theorem oB {l:List Sp} {j:Nat} (b:Int) (hj:j<l.length):reachS b (l.take (j+1))=if l[j].from_≤reachS b (l.take j)∧reachS b (l.take j)<l[j].till then l[j].till else reachS b (l.take j):=by
 unfold reachS;rw [ziy hj,zjp];rfl
def lT (l:List Sp) (lba n:Int):Bool:=decide (dF lba n 1099511627776) && decide (lba+n≤reachS lba l)
theorem xV (h:Ho) (v:Value) (lba n:Int) (K:Nat→Prop) (w:World) (hv:aY w K v h) :
 Calls Tryz.prog 64 #[v,.int .i64 lba,.int .i64 n] w fun e w'=>e=.returned (.bool (lT h.s lba n))∧Below w.heap.size w w':=by
 obtain ⟨vo,vs,vb,vl,vm,rfl,-,hs,-,-,-⟩:=hv;obtain ⟨As,cs,rfl,-⟩:=hs.form;have E:=((Kn.start w).give aB.list hs).push 37 (hoC h vo (.slice As h.s.length cs) vb vl vm);have hso:=fun W=>oE lba n 1099511627776 W (by decide)
 obtain ⟨k,hk⟩:∃ k,h.s.length=k:=⟨_,rfl⟩;have hlen:=hs.len;rw [hk] at E hlen ⊢;have HKK:=zia hk;clear hk hs;unfold lT;by_cases hsm:dF lba n 1099511627776
 case neg=>
  rw [ziv hsm,Bool.false_and];rw [ziv hsm] at hso;go_enter Tryz.func64,Tryz.ntmps64
  go_wp2_with fail;refine (hso _).mono ?_;rintro e w2 ⟨rfl,hb2⟩;replace E:=E.step hb2;go_wp2;go_ret;exact ⟨rfl,E.below⟩
 rw [ziu hsm,zku];rw [ziu hsm] at hso;unfold dF at hsm;obtain ⟨res,hres⟩:∃ res,decide (lba+n≤reachS lba h.s)=res:=⟨_,rfl⟩;rw [hres];have HRES:=zia hres;clear hres;go_enter Tryz.func64,Tryz.ntmps64
 go_wp2_with fail;refine (hso _).mono ?_;rintro e w2 ⟨rfl,hb2⟩;replace E:=E.step hb2;clear hso hb2;obtain ⟨q0,f0,t0⟩:=E.rules m0;go_upto_region 5 with fail;go_loopw [1,9,20] (fun x1 x9 x20 wr=>∃ j:Nat,x20=.int .i64 j∧j≤k∧x1=.int .i64 (reachS lba (h.s.take j))∧Below w2.heap.size w2 wr∧∃ y,x9=y) (fun _ _ x20 _=>k-(intOf x20).toNat)
 case atStart=>exact ⟨0,rfl,zir _,rfl,zif _ _,_,rfl⟩
 case round=>
  obtain ⟨j,rfl,hj,rfl,hb,y,rfl⟩:=hrel;have F:=E.step hb;by_cases hlt:j<k
  case neg=>
   obtain rfl:j=k:=by omega
   rw [zip (by rw [HKK.out];exact zic _)]
   have hr:=HRES.out;generalize reachS lba h.s=R at hr ⊢;clear E;subst hr;go_wp2;go_ret;exact ⟨rfl,F.below⟩
  have hlt':j<h.s.length:=by rw [HKK.out];exact hlt
  have HR:=zia (oB lba hlt');obtain ⟨ad,rfl,hKa,c0,c1,c2,c3⟩:=zfM (F.get m0) (zib hlt');generalize h.s[j]=s at HR c0 c1 c2 c3;generalize reachS lba (h.s.take j)=R at HR ⊢;have j1:(j:Int)<(k:Int):=by omega
  have j0:(0:Int)≤(j:Int):=by omega
  by_cases hin:s.from_≤R∧R<s.till
  · have h1:=hin.1;have h2:=hin.2
    have HIN:=zia hin;clear hin;go_wp2_with fail;go_roundw
    case rel=>exact ⟨j+1,by go_num,by omega,by rw [HR.out,zij HIN.out],hb.alloc hb.size _,_,rfl⟩
    case measure=>simp [intOf];omega
  · have HIN:=zia hin
    by_cases h1:s.from_≤R
    · have h2:¬R<s.till:=fun h=>hin ⟨h1,h⟩
      clear hin;go_wp2_with fail;go_roundw
      case rel=>exact ⟨j+1,by go_num,by omega,by rw [HR.out,zig HIN.out],hb.alloc hb.size _,_,rfl⟩
      case measure=>simp [intOf];omega
    · clear hin
      go_wp2_with fail;go_roundw
      case rel=>exact ⟨j+1,by go_num,by omega,by rw [HR.out,zig HIN.out],hb.alloc hb.size _,_,rfl⟩
      case measure=>simp [intOf];omega
def iT (h:Ho):Ho:=⟨h.id,h.own,h.s,false,p0k,h.m,h.ver,h.seq⟩
theorem rF (h:Ho) (v:Value) (K:Nat→Prop) (w:World) (hv:aY w K v h) :
 Calls Tryz.prog 57 #[v] w fun e w'=>∃ v',e=.returned v'∧aY w' K v' (iT h)∧Below w.heap.size w w':=by
 obtain ⟨vo,vs,vb,vl,vm,rfl,h1,h2,h3,h4,h5⟩:=hv;obtain ⟨Ao,co,rfl,-⟩:=h1.form;obtain ⟨As,cs,rfl,-⟩:=h2.form;obtain ⟨Ab,cb,rfl,-⟩:=aK h3;obtain ⟨Al,cl,rfl,-⟩:=h4.form;obtain ⟨Am,cm,rfl,-⟩:=h5.form;have E:=(((((Kn.start w).give aB.list h1).give aB.list h2).give aB.list h5)).push 37 (hoC h (.slice Ao h.own.length co) (.slice As h.s.length cs) (.slice Ab h.p.buf.length cb) (.slice Al h.p.l.length cl) (.slice Am h.m.length cm));go_enter Tryz.func57,Tryz.ntmps57
 go_wp2;refine zik (v:=.agg (hoC (iT h) (.slice Ao h.own.length co) (.slice As h.s.length cs) (.slice none 0 0) (.slice none 0 0) (.slice Am h.m.length cm))) (by simp [results,Tryz.results57,go_sem,iT,p0k]) rfl
  ⟨_,rfl,⟨_,_,_,_,_,rfl,(h1.alloc _).alloc _,(h2.alloc _).alloc _,IsB.nil_ _ _,IsL.nil_ _ _,(h5.alloc _).alloc _⟩,(zBA).alloc (by rw [zid];omega) _⟩
theorem cF {K:World→Prop} {w:World} {g:Nat} {t:TypeId} {cs:Array Value} (hB:Blk w g t cs) (i:Nat) (u:Value)
 (h:∀ wy,wy.heap.size=w.heap.size→aA w wy (fun b=>b=g)→Blk wy g t (cs.setIfInBounds i u)→K wy):K (w.setCell ⟨g,i,none⟩ u):=
 h _ (by simp) ((aA.refl w (fun b=>b=g)).set (g:=g) rfl i u) (hB.set_ i u)
theorem eV {K:World→Prop} {w:World} {g:Nat} {t:TypeId} {u0 u1 u2 u3 u4 u5 u6 u7 u8 u9 u10 u11 u12 u13 u14:Value} (hB:Blk w g t #[u0,u1,u2,u3,u4,u5,u6,u7,u8,u9,u10,u11,u12,u13,u14]) (x0 x1 x2 x3 x4 x5 x6 x7 x8 x9 x10 x11 x12 x13 x14:Value)
 (h:∀ wy,wy.heap.size=w.heap.size→aA w wy (fun b=>b=g)→Blk wy g t #[x0,x1,x2,x3,x4,x5,x6,x7,x8,x9,x10,x11,x12,x13,x14]→K wy):K (((((((((((((((w.setCell ⟨g,0,none⟩ x0).setCell ⟨g,1,none⟩ x1).setCell ⟨g,2,none⟩ x2).setCell ⟨g,3,none⟩ x3).setCell ⟨g,4,none⟩ x4).setCell ⟨g,5,none⟩ x5).setCell ⟨g,6,none⟩ x6).setCell ⟨g,7,none⟩ x7).setCell ⟨g,8,none⟩ x8).setCell ⟨g,9,none⟩ x9).setCell ⟨g,10,none⟩ x10).setCell ⟨g,11,none⟩ x11).setCell ⟨g,12,none⟩ x12).setCell ⟨g,13,none⟩ x13).setCell ⟨g,14,none⟩ x14):=by
 have t0:=aA.refl w (fun b=>b=g)
 have t1:=t0.set (g:=g) rfl 0 x0;replace hB:Blk _ g t #[x0,u1,u2,u3,u4,u5,u6,u7,u8,u9,u10,u11,u12,u13,u14]:=hB.set_ 0 x0;have t2:=t1.set (g:=g) rfl 1 x1;replace hB:Blk _ g t #[x0,x1,u2,u3,u4,u5,u6,u7,u8,u9,u10,u11,u12,u13,u14]:=hB.set_ 1 x1;have t3:=t2.set (g:=g) rfl 2 x2;replace hB:Blk _ g t #[x0,x1,x2,u3,u4,u5,u6,u7,u8,u9,u10,u11,u12,u13,u14]:=hB.set_ 2 x2;have t4:=t3.set (g:=g) rfl 3 x3;replace hB:Blk _ g t #[x0,x1,x2,x3,u4,u5,u6,u7,u8,u9,u10,u11,u12,u13,u14]:=hB.set_ 3 x3;have t5:=t4.set (g:=g) rfl 4 x4;replace hB:Blk _ g t #[x0,x1,x2,x3,x4,u5,u6,u7,u8,u9,u10,u11,u12,u13,u14]:=hB.set_ 4 x4;have t6:=t5.set (g:=g) rfl 5 x5;replace hB:Blk _ g t #[x0,x1,x2,x3,x4,x5,u6,u7,u8,u9,u10,u11,u12,u13,u14]:=hB.set_ 5 x5;have t7:=t6.set (g:=g) rfl 6 x6;replace hB:Blk _ g t #[x0,x1,x2,x3,x4,x5,x6,u7,u8,u9,u10,u11,u12,u13,u14]:=hB.set_ 6 x6;have t8:=t7.set (g:=g) rfl 7 x7;replace hB:Blk _ g t #[x0,x1,x2,x3,x4,x5,x6,x7,u8,u9,u10,u11,u12,u13,u14]:=hB.set_ 7 x7;have t9:=t8.set (g:=g) rfl 8 x8;replace hB:Blk _ g t #[x0,x1,x2,x3,x4,x5,x6,x7,x8,u9,u10,u11,u12,u13,u14]:=hB.set_ 8 x8;have t10:=t9.set (g:=g) rfl 9 x9;replace hB:Blk _ g t #[x0,x1,x2,x3,x4,x5,x6,x7,x8,x9,u10,u11,u12,u13,u14]:=hB.set_ 9 x9;have t11:=t10.set (g:=g) rfl 10 x10;replace hB:Blk _ g t #[x0,x1,x2,x3,x4,x5,x6,x7,x8,x9,x10,u11,u12,u13,u14]:=hB.set_ 10 x10;have t12:=t11.set (g:=g) rfl 11 x11;replace hB:Blk _ g t #[x0,x1,x2,x3,x4,x5,x6,x7,x8,x9,x10,x11,u12,u13,u14]:=hB.set_ 11 x11;have t13:=t12.set (g:=g) rfl 12 x12;replace hB:Blk _ g t #[x0,x1,x2,x3,x4,x5,x6,x7,x8,x9,x10,x11,x12,u13,u14]:=hB.set_ 12 x12;have t14:=t13.set (g:=g) rfl 13 x13;replace hB:Blk _ g t #[x0,x1,x2,x3,x4,x5,x6,x7,x8,x9,x10,x11,x12,x13,u14]:=hB.set_ 13 x13;have t15:=t14.set (g:=g) rfl 14 x14;replace hB:Blk _ g t #[x0,x1,x2,x3,x4,x5,x6,x7,x8,x9,x10,x11,x12,x13,x14]:=hB.set_ 14 x14;exact h _ (by simp) t15 hB
theorem cT {w:World} {K:Nat→Prop}:∀ {cs:List Value} {l:List Fn},aI Rp.fn w K cs l↔cs=l.flatMap lD
 | cs,[]=>Iff.rfl
 | cs,e::l=>by
   rw [zjn];constructor
   · rintro ⟨c1,c2,rfl,rfl,h⟩
     rw [cT.1 h];rfl
   · intro h
     exact ⟨lD e,l.flatMap lD,h,rfl,cT.2 rfl⟩
theorem fH {w:World} {K:Nat→Prop}:∀ {cs:List Value} {l:List Sp},aI Rp.sp w K cs l↔cs=l.flatMap kO
 | cs,[]=>Iff.rfl
 | cs,e::l=>by
   rw [zjn];constructor
   · rintro ⟨c1,c2,rfl,rfl,h⟩
     rw [fH.1 h];rfl
   · intro h
     exact ⟨kO e,l.flatMap kO,h,rfl,fH.2 rfl⟩
structure eB (h:Ho):Prop where
 own:h.own.length≤1000000
 s:h.s.length≤1000000
 buf:h.p.buf.length≤1000000000
 l:h.p.l.length≤1000000
 m:h.m.length≤1000000
section
variable {α:Type} {R:Rp α} {w:World} {K:Nat→Prop} {A:Option Addr} {n c:Nat} {l:List α}
theorem IsL.parts (h:IsL R w K (.slice A n c) l):∃ xs,aG w K R.size A n xs∧(∀ u∈xs,u.oneCell'=true)∧aI R w K xs l∧l.length=n:=by
 obtain ⟨e,⟨cs,h1,h2⟩,_⟩:=h.open_;subst e;exact ⟨cs,h1,h2.one,h2,rfl⟩
end
theorem mL (h:Ho) (v:Value) (K:Nat→Prop) (w:World) (hv:aY w K v h) (hK:∀ b,K b→b<w.heap.size) (hs:eB h) :
 Calls Tryz.prog 36 #[v] w fun e w'=>∃ Ao co As cs Ab cb Al cl Am cm,e=.returned (.agg (hoS h Ao co As cs Ab cb Al cl Am cm)) ∧
  zf8 Rp.fn w' w.heap.size 138 (fun _=>False) (.slice Ao h.own.length co) h.own∧IsL Rp.sp w' (fun b=>w.heap.size≤b∧(Value.slice Ao h.own.length co).ownBlock≠some b) (.slice As h.s.length cs) h.s∧IsB w' (fun b=>w.heap.size≤b∧(Value.slice Ao h.own.length co).ownBlock≠some b) (.slice Ab h.p.buf.length cb) h.p.buf ∧
  IsL Rp.rc w' (fun b=>(w.heap.size≤b∧(Value.slice Ao h.own.length co).ownBlock≠some b)∨K b) (.slice Al h.p.l.length cl) h.p.l∧IsL Rp.ex w' (fun b=>w.heap.size≤b∧(Value.slice Ao h.own.length co).ownBlock≠some b) (.slice Am h.m.length cm) h.m∧Below w.heap.size w w':=by
 obtain ⟨vo,vs,vb,vl,vm,rfl,h1,h2,h3,h4,h5⟩:=hv;obtain ⟨Ao,co,rfl,-⟩:=h1.form;obtain ⟨As,cs,rfl,-⟩:=h2.form;obtain ⟨Ab,cb,rfl,-⟩:=aK h3;obtain ⟨Al,cl,rfl,-⟩:=h4.form;obtain ⟨Am,cm,rfl,-⟩:=h5.form;have E:=((((((Kn.start w).give aB.list h1).give aB.list h2).give aB.list h4).give aB.list h5).give aB.bytes h3).push 37 (hoS h Ao co As cs Ab cb Al cl Am cm) |>.push 37 #[.int .i64 0,.slice none 0 0,.slice none 0 0,.bool false,.int .i64 0,.int .i64 0,.int .i64 0,.int .i64 0,.int .i64 0,.int .i64 0,.slice none 0 0,.slice none 0 0,.slice none 0 0,.int .i64 0,.int .i64 0]
 rw [zid] at E;obtain ⟨b1,b2,b3,b4,b5⟩:=hs;clear h1 h2 h3 h4 h5;go_enter Tryz.func36,Tryz.ntmps36
 go_upto_region 1 with fail;generalize (w.alloc (.cells (hoS h Ao co As cs Ab cb Al cl Am cm) 37)).alloc (.cells #[.int .i64 0,.slice none 0 0,.slice none 0 0,.bool false,.int .i64 0,.int .i64 0,.int .i64 0,.int .i64 0,.int .i64 0,.int .i64 0,.slice none 0 0,.slice none 0 0,.slice none 0 0,.int .i64 0,.int .i64 0] 37)=w1 at E ⊢;obtain ⟨g,hg⟩:∃ g,w.heap.size=g:=⟨_,rfl⟩;have hK':∀ b,K b→b<g:=fun b hb=>by rw [←hg];exact hK b hb
 obtain ⟨xo,ro,oo,co_,-⟩:=(E.get m4).parts;obtain ⟨xs,rs,os,cs_,-⟩:=(E.get m3).parts;obtain ⟨xm,rm,om,cm_,-⟩:=(E.get m1).parts;have hb0:Below w1.heap.size w1 w1.drew:=(zif _ _).drew;have HKB:=zia hK';have HK:Hid (∀ W,Below w1.heap.size w1 W→∀ o,W.cell? ⟨g,o,none⟩=(hoS h Ao co As cs Ab cb Al cl Am cm)[o]?):=zia fun W hb=>by rw [←hg];exact ((E.step hb).rules m1).1
 refine cZ (S:=fun (L:Array Bool) (W:World)=>L.getD 10 false=true∨(∀ o,W.cell? ⟨g,o,none⟩=(hoS h Ao co As cs Ab cb Al cl Am cm)[o]?)) (by kernel_rfl) (.inr (HK.out _ hb0)) (fun hDn hSn=>?_)
 rw [hg] at E ⊢;clear hK hK';generalize w1.drew=w2 at hb0 hDn hSn ⊢;refine wD 0 3 (fun hDn hSn=>?_)
 refine aN (i:=1) (oi:=⟨some 4,_,_,_,_,_⟩) (v:=?_) (Si:=fun W=>∀ o,W.cell? ⟨g,o,none⟩=(hoS h Ao co As cs Ab cb Al cl Am cm)[o]?) rfl (by kernel_rfl) (by kernel_rfl) (by kernel_rfl) (fun _ _ _ h=>h) (fun L W hD hu hS=>hS.resolve_left (fun h=>by have h:=hD.2 10 _ rfl h ⟨1,.phase⟩ (by simp) rfl;rw [hu] at h;cases h)) (fun L W=>by simp only [zjf false (show (1:Nat)≠10 by omega)]) (Or.inl ⟨by rfl,?hy⟩) (by assumption) (by assumption) (fun hDn hSn=>?_)
 case hy=>intro w hSw;(try dsimp only at hSw);go_simp;with_reducible rfl
 refine wD 3 6 (fun hDn hSn=>?_)
 refine aN (i:=4) (oi:=⟨some 7,_,_,_,_,_⟩) (v:=?_) (Si:=fun W=>∀ o,W.cell? ⟨g,o,none⟩=(hoS h Ao co As cs Ab cb Al cl Am cm)[o]?) rfl (by kernel_rfl) (by kernel_rfl) (by kernel_rfl) (fun _ _ _ h=>h) (fun L W hD hu hS=>hS.resolve_left (fun h=>by have h:=hD.2 10 _ rfl h ⟨4,.phase⟩ (by simp) rfl;rw [hu] at h;cases h)) (fun L W=>by simp only [zjf false (show (4:Nat)≠10 by omega)]) (Or.inl ⟨by rfl,?hy⟩) (by assumption) (by assumption) (fun hDn hSn=>?_)
 case hy=>intro w hSw;(try dsimp only at hSw);go_simp;with_reducible rfl
 refine wD 6 9 (fun hDn hSn=>?_)
 refine aN (i:=7) (oi:=⟨some 10,_,_,_,_,_⟩) (v:=?_) (Si:=fun W=>∀ o,W.cell? ⟨g,o,none⟩=(hoS h Ao co As cs Ab cb Al cl Am cm)[o]?) rfl (by kernel_rfl) (by kernel_rfl) (by kernel_rfl) (fun _ _ _ h=>h) (fun L W hD hu hS=>hS.resolve_left (fun h=>by have h:=hD.2 10 _ rfl h ⟨7,.phase⟩ (by simp) rfl;rw [hu] at h;cases h)) (fun L W=>by simp only [zjf false (show (7:Nat)≠10 by omega)]) (Or.inl ⟨by rfl,?hy⟩) (by assumption) (by assumption) (fun hDn hSn=>?_)
 case hy=>intro w hSw;(try dsimp only at hSw);go_simp;with_reducible rfl
 try simp only [pu,List.set]
 refine aR (i:=2) (o:=⟨some 5,_,_,_,_,_⟩) (by kernel_rfl) rfl (by assumption) (fun K hK=>?_)
 go_simp;refine (zby Ao h.own.length co _ xo _ (ro.step hb0) oo (by omega)).mono ?_
 rintro e w3 ⟨Ao3,co3,rfl,own3,hb3⟩;replace hb3:=hb0.trans (hb3.mono hb0.size);go_wp2_with fail;refine hK.out _ _ (.inr (HK.out _ hb3)) (fun hDn hSn=>?_)
 clear hK K;refine wD 9 12 (fun hDn hSn=>?_)
 refine aR (i:=5) (o:=⟨some 8,_,_,_,_,_⟩) (by kernel_rfl) rfl (by assumption) (fun K hK=>?_)
 go_simp;refine (zbB As h.s.length cs _ xs _ (rs.step hb3) os (by omega)).mono ?_
 rintro e w4 ⟨As4,cs4,rfl,own4,hb4⟩;have hz34:=hb4.size;have own34:=aD own3 hb4 (zic _);replace hb4:=hb3.trans (hb4.mono hb3.size);go_wp2_with fail;refine hK.out _ _ (.inr (HK.out _ hb4)) (fun hDn hSn=>?_)
 clear hK K;try simp only [pu,List.set]
 refine aR (i:=8) (o:=⟨some 11,_,_,_,_,_⟩) (by kernel_rfl) rfl (by assumption) (fun K hK=>?_)
 go_simp;refine (jP Am h.m.length cm _ xm _ (rm.step hb4) om (by omega)).mono ?_
 rintro e w5 ⟨Am5,cm5,rfl,own5,hb5⟩;have hz45:=hb5.size;have own35:=aD own34 hb5 (zic _);have own45:=aD own4 hb5 (zic _);replace hb5:=hb4.trans (hb5.mono hb4.size);go_wp2_with fail;refine hK.out _ _ (.inr (HK.out _ hb5)) (fun hDn hSn=>?_)
 clear hK K;try simp only [pu,List.set]
 refine aR (i:=10) (o:=⟨none,_,_,_,_,_⟩) (by kernel_rfl) rfl (by assumption) (fun K hK=>?_)
 have hBx:=(E.step hb5).at_ m1;obtain ⟨q0,f0⟩:=hBx.rules;have t0:=hBx.lt;go_simp;refine cF (K:=K _) hBx 1 _ ?_;intro w6 hs6 ht6 hB6;clear q0 f0 t0;refine hK.out _ _ (.inl (by kernel_rfl)) (fun hDn hSn=>?_)
 clear hK K;refine wD 11 13 (fun hDn hSn=>?_)
 refine aR (i:=12) (o:=⟨none,_,_,_,_,_⟩) (by kernel_rfl) rfl (by assumption) (fun K hK=>?_)
 obtain ⟨q0,f0⟩:=hB6.rules;have t0:=hB6.lt;go_simp;refine cF (K:=K _) hB6 2 _ ?_;intro w7 hs7 ht7 hB7;clear q0 f0 t0;refine hK.out _ _ (.inl (by kernel_rfl)) (fun hDn hSn=>?_)
 clear hK K;refine wD 13 14 (fun hDn hSn=>?_)
 refine aR (i:=14) (o:=⟨none,_,_,_,_,_⟩) (by kernel_rfl) rfl (by assumption) (fun K hK=>?_)
 obtain ⟨q0,f0⟩:=hB7.rules;have t0:=hB7.lt;go_simp;refine cF (K:=K _) hB7 12 _ ?_;intro w8 hs8 ht8 hB8;clear q0 f0 t0;refine hK.out _ _ (.inl (by kernel_rfl)) (fun hDn hSn=>?_)
 clear hK K;try simp only [pu,List.set]
 refine cX (by kernel_rfl) ?_ _
 have hlo3:∀ b,(Value.slice Ao3 h.own.length co3).ownBlock=some b→b<w3.heap.size:=fun b e=>(own3.lt b e).2
 have T8:=(ht6.trans ht7).trans ht8;have hg1:g<w1.heap.size:=(E.at_ m1).lt;have hgw:g<w2.heap.size:=by have:=hb0.size;omega
 have hs8':w8.heap.size=w5.heap.size:=by rw [hs8,hs7,hs6]
 have hB8':Blk w8 g 37 (hoS h Ao3 co3 As4 cs4 Ab cb Al cl Am5 cm5):=hB8;have hBr:=((E.step hb5).at_ m0).turned T8 (show ¬g+1=g by omega)
 have hbuf:=((E.step hb5).get m0).turned T8 (fun b hb e=>by have:=HKB.out b hb;omega)
 have hrc:=((E.step hb5).get m2).turned T8 (fun b hb e=>by have:=HKB.out b hb;omega)
 have o3:=aH own35 T8 (by omega)
 have o4:=aH own45 T8 (by have:=hb3.size;have:=hb0.size;omega)
 have o5:=aH own5 T8 (by have:=hb4.size;have:=hb0.size;omega)
 have hbl8:=aA.upon (E.below.trans (hb5.mono E.base)) T8 (zic _) (by omega)
 have hsz5:=hb5.size;clear own3 own34 own35 own4 own45 own5 ht6 ht7 ht8 hB6 hB7 hB8 T8 hDn hSn HK;go_upto_region 2 with fail;obtain ⟨xb,rb,ob,hxb⟩:∃ xb,aG w8 _ 1 Ab h.p.buf.length xb∧(∀ u∈xb,u.oneCell'=true)∧xb=aE h.p.buf:=⟨_,(IsB.open_ hbuf).2.1,aW _,rfl⟩;obtain ⟨xr,rr,or_,cr_,-⟩:=hrc.parts;have hbA:Below w8.heap.size w8 w8.drew:=(zif _ _).drew;have HK:Hid (∀ W,Below w8.heap.size w8 W→∀ o,W.cell? ⟨g,o,none⟩=(hoS h Ao3 co3 As4 cs4 Ab cb Al cl Am5 cm5)[o]?):=zia fun W hb=>(hB8'.step hb).rules.1
 refine cZ (S:=fun (L:Array Bool) (W:World)=>L.getD 10 false=true∨(∀ o,W.cell? ⟨g,o,none⟩=(hoS h Ao3 co3 As4 cs4 Ab cb Al cl Am5 cm5)[o]?)) (by kernel_rfl) (.inr (HK.out _ hbA)) (fun hDn hSn=>?_)
 generalize w8.drew=w9 at hbA hDn hSn ⊢;refine wD 0 15 (fun hDn hSn=>?_)
 refine wD 1 16 (fun hDn hSn=>?_)
 refine aN (i:=2) (oi:=⟨some 17,_,_,_,_,_⟩) (v:=?_) (Si:=fun W=>∀ o,W.cell? ⟨g,o,none⟩=(hoS h Ao3 co3 As4 cs4 Ab cb Al cl Am5 cm5)[o]?) rfl (by kernel_rfl) (by kernel_rfl) (by kernel_rfl) (fun _ _ _ h=>h) (fun L W hD hu hS=>hS.resolve_left (fun h=>by have h:=hD.2 10 _ rfl h ⟨2,.phase⟩ (by simp) rfl;rw [hu] at h;cases h)) (fun L W=>by simp only [zjf false (show (2:Nat)≠10 by omega)]) (Or.inl ⟨by rfl,?hy⟩) (by assumption) (by assumption) (fun hDn hSn=>?_)
 case hy=>intro w hSw;(try dsimp only at hSw);go_simp;with_reducible rfl
 refine wD 4 19 (fun hDn hSn=>?_)
 refine wD 5 20 (fun hDn hSn=>?_)
 refine aN (i:=6) (oi:=⟨some 21,_,_,_,_,_⟩) (v:=?_) (Si:=fun W=>∀ o,W.cell? ⟨g,o,none⟩=(hoS h Ao3 co3 As4 cs4 Ab cb Al cl Am5 cm5)[o]?) rfl (by kernel_rfl) (by kernel_rfl) (by kernel_rfl) (fun _ _ _ h=>h) (fun L W hD hu hS=>hS.resolve_left (fun h=>by have h:=hD.2 10 _ rfl h ⟨6,.phase⟩ (by simp) rfl;rw [hu] at h;cases h)) (fun L W=>by simp only [zjf false (show (6:Nat)≠10 by omega)]) (Or.inl ⟨by rfl,?hy⟩) (by assumption) (by assumption) (fun hDn hSn=>?_)
 case hy=>intro w hSw;(try dsimp only at hSw);go_simp;with_reducible rfl
 try simp only [pu,List.set]
 refine aR (i:=3) (o:=⟨some 18,_,_,_,_,_⟩) (by kernel_rfl) rfl (by assumption) (fun K hK=>?_)
 go_simp;refine (qF Ab h.p.buf.length cb _ xb _ (rb.step hbA) ob (by omega)).mono ?_
 rintro e w10 ⟨Ab10,cb10,rfl,own10,hb10⟩;have hz910:=hb10.size;replace hb10:=hbA.trans (hb10.mono hbA.size);go_wp2_with fail;refine hK.out _ _ (.inr (HK.out _ hb10)) (fun hDn hSn=>?_)
 clear hK K;refine wD 8 23 (fun hDn hSn=>?_)
 refine wD 9 24 (fun hDn hSn=>?_)
 refine aR (i:=7) (o:=⟨some 22,_,_,_,_,_⟩) (by kernel_rfl) rfl (by assumption) (fun K hK=>?_)
 go_simp;refine (qL Al h.p.l.length cl _ xr _ (rr.step hb10) or_ (by omega)).mono ?_
 rintro e w11 ⟨Al11,cl11,rfl,own11,hb11⟩;have own101:=aD own10 hb11 (zic _);replace hb11:=hb10.trans (hb11.mono hb10.size);go_wp2_with fail;refine hK.out _ _ (.inr (HK.out _ hb11)) (fun hDn hSn=>?_)
 clear hK K;try simp only [pu,List.set]
 refine aR (i:=10) (o:=⟨none,_,_,_,_,_⟩) (by kernel_rfl) rfl (by assumption) (fun K hK=>?_)
 have hBx:=hB8'.step hb11;obtain ⟨q0,f0⟩:=hBx.rules;have t0:=hBx.lt;go_simp;refine cF (K:=K _) hBx 10 _ ?_;intro w12 hs12 ht12 hB12;clear q0 f0 t0;refine hK.out _ _ (.inl (by kernel_rfl)) (fun hDn hSn=>?_)
 clear hK K;refine wD 11 25 (fun hDn hSn=>?_)
 refine wD 12 26 (fun hDn hSn=>?_)
 refine aR (i:=13) (o:=⟨none,_,_,_,_,_⟩) (by kernel_rfl) rfl (by assumption) (fun K hK=>?_)
 obtain ⟨q0,f0⟩:=hB12.rules;have t0:=hB12.lt;go_simp;refine cF (K:=K _) hB12 11 _ ?_;intro w13 hs13 ht13 hB13;clear q0 f0 t0;refine hK.out _ _ (.inl (by kernel_rfl)) (fun hDn hSn=>?_)
 clear hK K;try simp only [pu,List.set]
 refine cX (by kernel_rfl) ?_ _
 have T13:=ht12.trans ht13;have hB13':Blk w13 g 37 (hoS h Ao3 co3 As4 cs4 Ab10 cb10 Al11 cl11 Am5 cm5):=hB13;have hBr2:=(hBr.step hb11).turned T13 (show ¬g+1=g by omega)
 have h8s:=hb11.size;have hbl13:=aA.upon (hbl8.trans (hb11.mono (by omega))) T13 (zic _) (by omega)
 have p3:=aH (aD o3 hb11 (zic _)) T13 (by omega)
 have p4:=aH (aD o4 hb11 (zic _)) T13 (by have:=hb3.size;omega)
 have p5:=aH (aD o5 hb11 (zic _)) T13 (by have:=hb4.size;omega)
 have p10:=aH own101 T13 (by have:=hbA.size;omega)
 have p11:=aH own11 T13 (by have:=hb10.size;omega)
 have hs13':w13.heap.size=w11.heap.size:=by rw [hs13,hs12]
 have hcr:=(cr_.step hb11).turned T13 (fun b hb e=>by have:=HKB.out b hb;omega)
 obtain ⟨q0,f0⟩:=hB13'.rules;have t0:=hB13'.lt;obtain ⟨q1,f1⟩:=hBr2.rules;have t1:=hBr2.lt;clear hDn hSn HK hB12 hB13 hBx ht12 ht13 own10 own101 own11 o3 o4 o5;go_wp2;refine eV (K:=fun W=>bodyPost _ _ _ _ _ W) hBr2 _ _ _ _ _ _ _ _ _ _ _ _ _ _ _ ?_
 intro w14 hs14 ht14 hB14;obtain ⟨q2,f2⟩:=hB14.rules;have hg2:g+1<w1.heap.size:=(E.at_ m0).lt;have hbl14:=aA.upon hbl13 ht14 (by omega) (by omega)
 have r3:=aH p3 ht14 (by have:=hb0.size;omega)
 have r4:=aH p4 ht14 (by have:=hb3.size;omega)
 have r5:=aH p5 ht14 (by have:=hb4.size;omega)
 have r10:=aH p10 ht14 (by have:=hbA.size;omega)
 have r11:=aH p11 ht14 (by have:=hb10.size;omega)
 have hcr2:=hcr.turned ht14 (fun b hb e=>by have:=HKB.out b hb;omega)
 have s0:=hb0.size;have s3:=hb3.size;have s4:=hb4.size;have sA:=hbA.size;have s10:=hb10.size;refine zik (v:=.agg (hoS h Ao3 co3 As4 cs4 Ab10 cb10 Al11 cl11 Am5 cm5)) (by simp [results,Tryz.results36,go_sem,q2]) rfl ?_
 rw [hg];have fin:∀ {α:Type} {R:Rp α} {e:TypeId} {v:Value} {l:List α} {B:Nat},w3.heap.size≤B→zf8 R w14 B e (fun _=>False) v l→l.length≤140737488355328→IsL R w14 (fun b=>g≤b∧(Value.slice Ao3 h.own.length co3).ownBlock≠some b) v l:=fun hB h hl=>(h.isL hl).more fun b hb=>by
  have hb:=hb.resolve_right (fun h=>h)
  exact ⟨by omega,fun e=>by have:=hlo3 b e;omega⟩
 subst hxb;exact ⟨Ao3,co3,As4,cs4,Ab10,cb10,Al11,cl11,Am5,cm5,rfl,⟨_,_,xo,rfl,aO r3 (by omega),cT.2 (cT.1 co_)⟩,fin (zic _) ⟨_,_,xs,rfl,r4,fH.2 (fH.1 cs_)⟩ (by omega),(IsB.of_own r10 (by omega)).more (fun b hb=>⟨by omega,fun e=>by have:=hlo3 b e;omega⟩),
  (zf8.isL ⟨_,_,xr,rfl,r11,hcr2⟩ (by omega)).more (fun b hb=>hb.imp (fun hb=>⟨by omega,fun e=>by have:=hlo3 b e;omega⟩) id),fin hz34 ⟨_,_,xm,rfl,r5,eN.2 (eN.1 cm_)⟩ (by omega),hbl14⟩
theorem nW (h:Ho) (v:Value) (K:Nat→Prop) (w:World) (hv:aY w K v h) (hK:∀ b,K b→b<w.heap.size) (hs:eB h) :
 Calls Tryz.prog 36 #[v] w fun e w'=>∃ Ao co As cs Ab cb Al cl Am cm,e=.returned (.agg (hoS h Ao co As cs Ab cb Al cl Am cm)) ∧
  zf8 Rp.fn w' w.heap.size 138 (fun _=>False) (.slice Ao h.own.length co) h.own∧IsL Rp.sp w' (fun b=>w.heap.size≤b) (.slice As h.s.length cs) h.s∧IsB w' (fun b=>w.heap.size≤b) (.slice Ab h.p.buf.length cb) h.p.buf ∧
  IsL Rp.rc w' (fun b=>w.heap.size≤b∨K b) (.slice Al h.p.l.length cl) h.p.l∧IsL Rp.ex w' (fun b=>w.heap.size≤b) (.slice Am h.m.length cm) h.m∧Below w.heap.size w w':=
 (mL h v K w hv hK hs).mono fun _ _ ⟨Ao,co,As,cs,Ab,cb,Al,cl,Am,cm,e,h1,h2,h3,h4,h5,h6⟩=>⟨Ao,co,As,cs,Ab,cb,Al,cl,Am,cm,e,h1,h2.more fun _ h=>h.1,h3.more fun _ h=>h.1,h4.more fun _ h=>h.imp (fun h=>h.1) id,h5.more fun _ h=>h.1,h6⟩
