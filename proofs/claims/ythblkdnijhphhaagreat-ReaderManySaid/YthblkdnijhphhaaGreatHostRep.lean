/- A part of the proof. -/
import Derived.Test.YthblkdnijhphhaaGreatFill16
import Derived.Test.YthblkdnijhphhaaGreatExtPut
set_option maxHeartbeats 4000000
set_option maxRecDepth 100000
namespace Go.Proofs.YthblkdnijhphhaaGreat
open Go.RowKit
def Rp.fd:Rp Fd:=⟨7,fun w K cs f=>∃ vl va,cs=[.bool f.head,.int .i64 f.h.host,.int .i64 f.h.epoch,.int .i64 f.h.seq,vl,va,.int .i64 f.used]∧IsL Rp.rc w K vl f.l∧IsL Rp.int w K va f.at_,
 by rintro _ _ _ _ ⟨vl,va,rfl,h1,h2⟩;rfl,
 by rintro _ _ _ _ _ ⟨vl,va,e,h1,h2⟩ hk;exact ⟨vl,va,e,h1.keep hk,h2.keep hk⟩,
 by rintro _ _ _ _ _ ⟨vl,va,e,h1,h2⟩ hk;exact ⟨vl,va,e,h1.more hk,h2.more hk⟩,
 by
  rintro _ _ _ _ ⟨vl,va,rfl,h1,h2⟩ u hu;have o1:=RpL.one h1;have o2:=RpL.one h2;simp only [List.mem_cons,List.not_mem_nil,or_false] at hu;rcases hu with rfl | rfl | rfl | rfl | rfl | rfl | rfl <;> first | rfl | assumption⟩
theorem Tryz.infFd:(Tryz.prog.info? 182).map (fun i=>(i.zero,i.size,i.bytes))=some (some (.agg #[.bool false,.int .i64 0,.int .i64 0,.int .i64 0,.slice none 0 0,.slice none 0 0,.int .i64 0]),7,88):=by kernel_rfl
def zhs (b:List UInt8):Prop:=∀ (v:Value) (K:Nat→Prop) (w:World),IsB w K v b→Calls Tryz.prog 194 #[v] w fun e w'=>∃ A4 c4 A5 c5,e=.returned (.agg (fdC (scanL b) (.slice A4 (scanL b).l.length c4) (.slice A5 (scanL b).at_.length c5))) ∧
 IsL Rp.rc w' (fun k=>w.heap.size≤k) (.slice A4 (scanL b).l.length c4) (scanL b).l∧IsL Rp.int w' (fun k=>w.heap.size≤k) (.slice A5 (scanL b).at_.length c5) (scanL b).at_∧Below w.heap.size w w'
theorem zlY (z:Zn) (A:Option Addr) (c:Nat) (K:Nat→Prop) (w:World) (hz:IsB w K (.slice A z.d.length c) z.d) (hl:zhs z.d) :
 Calls Tryz.prog 153 #[.agg #[.int .i64 z.st,.int .i64 z.fe,.slice A z.d.length c]] w fun e w'=>∃ A4 c4 A5 c5,e=.returned (.agg (fdC (scanL z.d) (.slice A4 (scanL z.d).l.length c4) (.slice A5 (scanL z.d).at_.length c5))) ∧
  IsL Rp.rc w' (fun k=>w.heap.size≤k) (.slice A4 (scanL z.d).l.length c4) (scanL z.d).l∧IsL Rp.int w' (fun k=>w.heap.size≤k) (.slice A5 (scanL z.d).at_.length c5) (scanL z.d).at_∧Below w.heap.size w w':=by
 have E:=((Kn.start w).push 126 #[.int .i64 z.st,.int .i64 z.fe,.slice A z.d.length c]).push 182 #[.bool false,.int .i64 0,.int .i64 0,.int .i64 0,.slice none 0 0,.slice none 0 0,.int .i64 0];obtain ⟨q0,f0,t0⟩:=E.rules m1;have hsc:=fun w hv=>hl (.slice A z.d.length c) K w hv
 generalize scanL z.d=f at *;go_enter Tryz.func153,Tryz.ntmps153
 go_wp2_with fail;refine (hsc _ ((hz.alloc _).alloc _)).mono ?_;rintro x w2 ⟨A4,c4,A5,c5,rfl,h1,h2,hb2⟩;unfold fdC;replace E:=E.step hb2;rw [World.size_alloc] at E h1 h2;clear q0 f0 t0;obtain ⟨q0,f0,t0⟩:=E.rules m0;go_wp2;refine ziE (K:=fun W=>bodyPost _ _ _ _ _ W) (E.at_ m0) _ _ _ _ _ _ _ ?_
 intro w3 ht hB3;obtain ⟨q3,f3⟩:=hB3.rules;have hb3:=za0.upon E.below ht (by omega) (Nat.le_refl _)
 refine bodyPost_ret (v:=.agg #[.bool f.head,.int .i64 f.h.host,.int .i64 f.h.epoch,.int .i64 f.h.seq,.slice A4 f.l.length c4,.slice A5 f.at_.length c5,.int .i64 f.used]) (by simp [results,Tryz.results153,go_sem,q3]) rfl ⟨A4,c4,A5,c5,rfl,(h1.turned ht (fun b hb h=>by rw [World.size_alloc] at hb;omega)).more (fun b hb=>by rw [World.size_alloc] at hb;omega),(h2.turned ht (fun b hb h=>by rw [World.size_alloc] at hb;omega)).more (fun b hb=>by rw [World.size_alloc] at hb;omega),hb3⟩
theorem za8.ltG {α:Type} {R:Rp α} {w:World} {K:Nat→Prop} (hR:∀ cs x,R.is w K cs x→R.is w (fun b=>K b∧b<w.heap.size) cs x):∀ {cs:List Value} {l:List α},za8 R w K cs l→za8 R w (fun b=>K b∧b<w.heap.size) cs l
 | _,[],h=>h
 | _,_::_,⟨a,b,e,h1,h2⟩=>⟨a,b,e,hR a _ h1,za8.ltG hR h2⟩
theorem IsL.ltG {α:Type} {R:Rp α} {w:World} {K:Nat→Prop} {v:Value} {l:List α} (hR:∀ cs x,R.is w K cs x→R.is w (fun b=>K b∧b<w.heap.size) cs x) (hs:0<R.size) (h:IsL R w K v l):IsL R w (fun b=>K b∧b<w.heap.size) v l:=by
 obtain ⟨A,c,cs,e,h1,h2,h3⟩:=h;exact ⟨A,c,cs,e,h1.lt hs,h2.ltG hR,h3⟩
theorem IsL.ltC {w:World} {K:Nat→Prop} {v:Value} {l:List Rc} (h:IsL Rp.rc w K v l):IsL Rp.rc w (fun b=>K b∧b<w.heap.size) v l:=
 h.ltG (fun _ _ hx=>by obtain ⟨vd,e,hB,r⟩:=hx;exact ⟨vd,e,hB.lt,r⟩) (by decide)
theorem IsL.ltI {w:World} {K:Nat→Prop} {v:Value} {l:List Int} (h:IsL Rp.int w K v l):IsL Rp.int w (fun b=>K b∧b<w.heap.size) v l:=
 h.ltG (fun _ _ hx=>hx) (by decide)
theorem OwnR.lt2 {α:Type} {R:Rp α} {w:World} {base:Nat} {e:TypeId} {X:Nat→Prop} {A:Option Addr} {n c:Nat} {l:List α} (h:OwnR R w base e X (.slice A n c) l):∀ b,(Value.slice A n c).ownBlock=some b→base≤b∧b<w.heap.size:=by
 obtain ⟨A',c',cs,e,h1,h2⟩:=h;rw [e];exact fun b hb=>h1.lt b hb
def zal (zs:List Zn):List Fd:=zs.map fun z=>scanL z.d
theorem zgZ (d:Zd) (A:Option Addr) (c:Nat) (K:Nat→Prop) (w:World) (hv:IsL Rp.zone w K (.slice A d.z.length c) d.z) (hd:okD d) (hS:∀ z∈d.z,zhs z.d) :
 Calls Tryz.prog 91 #[.agg #[.int .i64 d.cap,.int .i64 d.opn,.int .i64 d.act,.slice A d.z.length c]] w fun e w'=>∃ Ao co,e=.returned (.slice Ao d.z.length co) ∧
  IsL Rp.fd w' (fun k=>w.heap.size≤k) (.slice Ao d.z.length co) (zal d.z)∧Below w.heap.size w w':=by
 obtain ⟨i0,hi,hz0,hz1,hz2⟩:=info_parts Tryz.infFd;have hzl:=hS;have hn64:=hd.1.2.1;have hc0:chkD d=0:=by unfold chkD;rw [if_pos hd]
 have hcc:=fun w v hv=>zcY d v K w hv
 rw [hc0] at hcc;have E:=((Kn.start w).give za1.list hv).push 27 #[.int .i64 d.cap,.int .i64 d.opn,.int .i64 d.act,.slice A d.z.length c];obtain ⟨zs,hzs⟩:∃ zs,d.z=zs:=⟨_,rfl⟩;rw [hzs] at hzl hn64 hcc E hv ⊢;obtain ⟨n,hn⟩:∃ n,zs.length=n:=⟨_,rfl⟩;have hfl:(zal zs).length=n:=by unfold zal;rw [List.length_map,hn]
 have hft:∀ j,(hj:j<zs.length)→(zal zs).take (j+1)=(zal zs).take j++[scanL zs[j].d]:=fun j hj=>zde _ (by unfold zal;rw [List.getElem?_map,List.getElem?_eq_getElem hj];rfl)
 rw [hn] at hn64 E hv ⊢;have HZL:=Lib.hid hzl;have HN:=Lib.hid hn;have HCC:=Lib.hid hcc;have HFT:=Lib.hid hft;have HFL:=Lib.hid hfl;clear hzl hn hcc hc0 hft hfl hd hzs;obtain ⟨q0,f0,t0⟩:=E.rules m0;go_enter Tryz.func91,Tryz.ntmps91
 go_wp2_with fail;refine (HCC.out _ _ (hv.alloc _)).mono ?_;rintro x w2 ⟨rfl,hb2⟩;replace E:=E.step hb2;clear q0 f0 t0 hb2;obtain ⟨q0,f0,t0⟩:=E.rules m0;go_wp2_with fail;go_loopw [3,5,12] (fun x3 x5 x12 wr=>∃ (j:Nat) (Ao:Option Addr) (co:Nat),x12=.int .i64 j∧j≤n∧x3=.slice Ao j co∧OwnR Rp.fd wr w2.heap.size 182 (fun b=>w2.heap.size≤b) (.slice Ao j co) ((zal zs).take j)∧Below w2.heap.size w2 wr∧∃ y,x5=y) (fun _ _ x12 _=>n-(intOf x12).toNat)
 case atStart=>exact ⟨0,none,0,rfl,Nat.zero_le _,rfl,OwnR.nil_ _ _ _ _,Below.refl _ _,_,rfl⟩
 case round=>
  obtain ⟨j,Ao,co,rfl,hj,rfl,hown,hb,y,rfl⟩:=hrel;have hsz:=hb.size;clear q0 f0 t0;have F:=E.step hb;by_cases hlt:j<n
  case neg=>
   obtain rfl:j=n:=by omega
   rw [List.take_of_length_le (by rw [HFL.out];exact Nat.le_refl _)] at hown
   have hs2:=E.below.size;have hfin:=hown.isLt (X':=fun b=>w.heap.size≤b) (by rw [HFL.out];omega) (fun b _ h=>by omega) (fun b _ h=>by omega)
   clear E;go_wp2;go_ret;exact ⟨Ao,co,rfl,hfin,F.below⟩
  have hlt':j<zs.length:=by rw [HN.out];exact hlt
  obtain ⟨ad,B,cB,rfl,hadb,_,hB,c0,c1,c2⟩:=IsL.zone_at (F.get m0) (List.getElem?_eq_getElem hlt');have hln:=HZL.out _ (List.getElem_mem hlt');have hft:=HFT.out j hlt';generalize zs[j]=z at hB c0 c1 c2 hln hft;have HF:=Lib.hid hft;clear hft;have j1:(j:Int)<(n:Int):=by omega
  have j0:(0:Int)≤(j:Int):=by omega
  go_wp2_with fail;refine (zlY z B cB _ _ (hB.alloc _) hln).mono ?_;rintro x w4 ⟨A4,c4,A5,c5,rfl,h1,h2,hb4⟩;generalize scanL z.d=f at *;unfold fdC;clear c0 c1 c2 hB;have hal:((zal zs).take j).length=j:=by rw [List.length_take,HFL.out];omega
  have hown4:=(hown.step ((Below.refl _ _).alloc (Nat.le_refl _) (.cells #[.int .i64 z.st,.int .i64 z.fe,.slice B z.d.length cB] 126))).step hb4;have hrow:=hown.lt2;obtain ⟨hjj,cs,own4,cl4⟩:=hown4.open_;rw [hal] at own4 cl4;replace own4:w4.ownsRow w2.heap.size 182 7 (.slice Ao j co) j cs:=own4;have HAL:=Lib.hid hal;clear hjj hal hown hown4;rw [World.size_alloc] at h1 h2;have hs4:wr.heap.size+1≤w4.heap.size:=by have:=hb4.size;rw [World.size_alloc] at this;exact this
  go_wp2_with (at_builtin;(refine za5 rfl _ _ _ rfl w2.heap.size 182 i0 _ 7 88 Tryz.underlying179 hi hz0 hz1 hz2 rfl (by omega) rfl (own4.alloc _) rfl (za6.new (xs:=[.bool f.head,.int .i64 f.h.host,.int .i64 f.h.epoch,.int .i64 f.h.seq,.slice A4 f.l.length c4,.slice A5 f.at_.length c5,.int .i64 f.used]) (n:=1) rfl rfl rfl) (by intro u hu;simp only [List.mem_cons,List.not_mem_nil,or_false] at hu;rcases hu with rfl | rfl | rfl | rfl | rfl | rfl | rfl <;> rfl) (by simp only [maxLen];omega) (by omega) (by rw [World.size_alloc];omega) ?_;intro A8 c8 w6 own8 hg8))
  go_roundw
  case rel=>
   refine ⟨j+1,A8,c8,by go_num,by omega,rfl,?_,?_,_,rfl⟩
   · rw [HF.out]
     have hne:∀ b,wr.heap.size+1≤b→some b≠(Value.slice Ao j co).ownBlock:=fun b hb h=>by have:=hrow b h.symm;omega
     have hp:=OwnR.push (R:=Rp.fd) (X:=fun b=>w2.heap.size≤b) (l:=(zal zs).take j) (a:=f) (A:=Ao) (A':=A8) (c:=co) (c':=c8) (w:=w4.alloc (.cells ([.bool f.head,.int .i64 f.h.host,.int .i64 f.h.epoch,.int .i64 f.h.seq,.slice A4 f.l.length c4,.slice A5 f.at_.length c5,.int .i64 f.used]).toArray 182)) (w':=w6) (base:=w2.heap.size) (e:=182) (news:=[.bool f.head,.int .i64 f.h.host,.int .i64 f.h.epoch,.int .i64 f.h.seq,.slice A4 f.l.length c4,.slice A5 f.at_.length c5,.int .i64 f.used])
      (by rw [HAL.out];exact (cl4.alloc _).more fun b hb=>⟨hb.1,by rw [World.size_alloc];omega,hb.2.2⟩) ⟨_,_,rfl,(h1.ltC.alloc _).more fun b hb=>⟨by omega,by rw [World.size_alloc];omega,by rw [HAL.out];exact hne b hb.1⟩,(h2.ltI.alloc _).more fun b hb=>⟨by omega,by rw [World.size_alloc];omega,by rw [HAL.out];exact hne b hb.1⟩⟩ (by rw [HAL.out];exact own8) (by rw [HAL.out];exact hg8)
     rw [HAL.out] at hp;exact hp
   · exact (((hb.alloc hsz (.cells #[.int .i64 z.st,.int .i64 z.fe,.slice B z.d.length cB] 126)).trans (hb4.mono (by rw [World.size_alloc];omega))).alloc (by omega) (.cells ([.bool f.head,.int .i64 f.h.host,.int .i64 f.h.epoch,.int .i64 f.h.seq,.slice A4 f.l.length c4,.slice A5 f.at_.length c5,.int .i64 f.used]).toArray 182)).trans (hg8.below.mono (Nat.le_refl _))
  case measure=>simp [intOf];omega
theorem zns {w:World} {K:Nat→Prop} {A:Option Addr} {c g:Nat} {r:Rc} (hg:w.heap.size=g) (hv:IsB w K (.slice A r.data.length c) r.data) (h:OkRc r) :
 IsL Rp.rc (w.alloc (.cells #[.int .i64 r.kind,.int .i64 r.lba,.int .i64 r.n,.int .i64 r.ver,.int .i64 r.zone,.int .i64 r.off,.slice A r.data.length c] 109)) (fun b=>b=g∨K b) (.slice (some ⟨g,0,none⟩) 1 1) [r]:=
 ⟨_,1,_,rfl,(za6.new (n:=1) (size:=7) hg rfl rfl).more (fun _ h=>.inl h),za8.single (zoN ((hv.alloc _).more fun _ h=>.inr h) h),by simp,by omega,by simp⟩
theorem zb4 {K:World→Prop} {w:World} {g:Nat} {t:TypeId} {u0 u1 u2 u3:Value} (hB:Blk w g t #[u0,u1,u2,u3]) (x0 x1 x2 x3:Value)
 (h:∀ wy,wy.heap.size=w.heap.size→za0 w wy (fun b=>b=g)→Blk wy g t #[x0,x1,x2,x3]→K wy):K ((((w.setCell ⟨g,0,none⟩ x0).setCell ⟨g,1,none⟩ x1).setCell ⟨g,2,none⟩ x2).setCell ⟨g,3,none⟩ x3):=
 zoW (K:=fun W=>W.heap.size=w.heap.size→K W) hB x0 x1 x2 x3 (fun wy ht hB hs=>h wy hs ht hB) (by simp)
structure Fn where
 zone:Int
 host:Int
 epoch:Int
def Rp.fn:Rp Fn:=⟨3,fun _ _ cs o=>cs=[.int .i64 o.zone,.int .i64 o.host,.int .i64 o.epoch],
 by rintro _ _ _ _ rfl;rfl,
 fun h _=>h,
 fun h _=>h,
 by
  rintro _ _ _ _ rfl u hu;simp only [List.mem_cons,List.not_mem_nil,or_false] at hu;rcases hu with rfl | rfl | rfl <;> first | rfl | assumption⟩
structure Sp where
 from_:Int
 till:Int
 owner:Int
 epoch:Int
def Rp.sp:Rp Sp:=⟨4,fun _ _ cs o=>cs=[.int .i64 o.from_,.int .i64 o.till,.int .i64 o.owner,.int .i64 o.epoch],
 by rintro _ _ _ _ rfl;rfl,
 fun h _=>h,
 fun h _=>h,
 by
  rintro _ _ _ _ rfl u hu;simp only [List.mem_cons,List.not_mem_nil,or_false] at hu;rcases hu with rfl | rfl | rfl | rfl <;> first | rfl | assumption⟩
structure Ho where
 id:Int
 own:List Fn
 s:List Sp
 opn:Bool
 p:Pk
 m:List Ex
 ver:Int
 seq:Int
abbrev hoC (h:Ho) (vo vs vb vl vm:Value):Array Value:=#[.int .i64 h.id,vo,vs,.bool h.opn,.int .i64 h.p.h.host,.int .i64 h.p.h.epoch,.int .i64 h.p.h.seq,.int .i64 h.p.zone,.int .i64 h.p.cap,.int .i64 h.p.at_,vb,vl,vm,.int .i64 h.ver,.int .i64 h.seq]
abbrev hoS (h:Ho) (Ao:Option Addr) (co:Nat) (As:Option Addr) (cs:Nat) (Ab:Option Addr) (cb:Nat) (Al:Option Addr) (cl:Nat) (Am:Option Addr) (cm:Nat):Array Value:=hoC h (.slice Ao h.own.length co) (.slice As h.s.length cs) (.slice Ab h.p.buf.length cb) (.slice Al h.p.l.length cl) (.slice Am h.m.length cm)
def IsHo (w:World) (K:Nat→Prop) (v:Value) (h:Ho):Prop:=∃ vo vs vb vl vm,v=.agg (hoC h vo vs vb vl vm)∧IsL Rp.fn w K vo h.own∧IsL Rp.sp w K vs h.s∧IsB w K vb h.p.buf∧IsL Rp.rc w K vl h.p.l∧IsL Rp.ex w K vm h.m
section
variable {w w':World} {K K':Nat→Prop} {v:Value} {h:Ho}
theorem IsHo.step (hh:IsHo w K v h) (hb:Below w.heap.size w w'):IsHo w' K v h:=by
 obtain ⟨vo,vs,vb,vl,vm,e,h1,h2,h3,h4,h5⟩:=hh;exact ⟨vo,vs,vb,vl,vm,e,h1.step hb,h2.step hb,h3.step hb,h4.step hb,h5.step hb⟩
theorem IsHo.more (hh:IsHo w K v h) (hk:∀ b,K b→K' b):IsHo w K' v h:=by
 obtain ⟨vo,vs,vb,vl,vm,e,h1,h2,h3,h4,h5⟩:=hh;exact ⟨vo,vs,vb,vl,vm,e,h1.more hk,h2.more hk,h3.more hk,h4.more hk,h5.more hk⟩
theorem IsHo.keep (hh:IsHo w K v h) (hk:∀ p:Addr,K p.block→p.block<w.heap.size→w'.cell? p=w.cell? p):IsHo w' K v h:=by
 obtain ⟨vo,vs,vb,vl,vm,e,h1,h2,h3,h4,h5⟩:=hh;exact ⟨vo,vs,vb,vl,vm,e,h1.keep hk,h2.keep hk,h3.keep hk,h4.keep hk,h5.keep hk⟩
theorem za1.ho:za1 (fun w=>IsHo w K v h):=fun _ _ hh hb=>hh.step hb
end
def fnCs (e:Fn):List Value:=[.int .i64 e.zone,.int .i64 e.host,.int .i64 e.epoch]
def spCs (e:Sp):List Value:=[.int .i64 e.from_,.int .i64 e.till,.int .i64 e.owner,.int .i64 e.epoch]
def zbO (lba n most:Int):Prop:=0≤lba∧1≤n∧n≤most∧lba≤1099511627776-n
instance (lba n most:Int):Decidable (zbO lba n most):=inferInstanceAs (Decidable (_∧_))
theorem zf8 (lba n most:Int) (w:World) (hm:most≤1099511627776) :
 Calls Tryz.prog 28 #[.int .i64 lba,.int .i64 n,.int .i64 most] w fun e w'=>e=.returned (.bool (decide (zbO lba n most)))∧Below w.heap.size w w':=by
 have E:=Kn.start w;by_cases h1:0≤lba
 case neg=>
  rw [decide_eq_false (fun h:zbO lba n most=>h1 h.1)]
  go_enter Tryz.func28,Tryz.ntmps28
  go_wp2;go_ret;exact ⟨rfl,E.below⟩
 by_cases h2:1≤n
 case neg=>
  rw [decide_eq_false (fun h:zbO lba n most=>h2 h.2.1)]
  go_enter Tryz.func28,Tryz.ntmps28
  go_wp2;go_ret;exact ⟨rfl,E.below⟩
 by_cases h3:n≤most
 case neg=>
  rw [decide_eq_false (fun h:zbO lba n most=>h3 h.2.2.1)]
  go_enter Tryz.func28,Tryz.ntmps28
  go_wp2;go_ret;exact ⟨rfl,E.below⟩
 by_cases h4:lba≤1099511627776-n
 case neg=>
  rw [decide_eq_false (fun h:zbO lba n most=>h4 h.2.2.2)]
  go_enter Tryz.func28,Tryz.ntmps28
  go_wp2;go_ret;exact ⟨rfl,E.below⟩
 rw [decide_eq_true (show zbO lba n most from ⟨h1,h2,h3,h4⟩)];go_enter Tryz.func28,Tryz.ntmps28
 go_wp2;go_ret;exact ⟨rfl,E.below⟩
theorem zoB {w:World} {K:Nat→Prop} {A:Option Addr} {n c:Nat} {l:List Sp} (h:IsL Rp.sp w K (.slice A n c) l) {j:Nat} {e:Sp} (hj:l[j]?=some e) :
 ∃ ad,A=some ad∧K ad.block∧w.cell? (ad.add (j*4))=some (.int .i64 e.from_)∧w.cell? ⟨(ad.add (j*4)).block,(ad.add (j*4)).off+1,none⟩=some (.int .i64 e.till)∧w.cell? ⟨(ad.add (j*4)).block,(ad.add (j*4)).off+2,none⟩=some (.int .i64 e.owner) ∧
   w.cell? ⟨(ad.add (j*4)).block,(ad.add (j*4)).off+3,none⟩=some (.int .i64 e.epoch):=by
 obtain ⟨ad,es,hA,hKad,hes,hcell⟩:=h.at_ hj;obtain rfl:es=_:=hes;have hsz:Rp.sp.size=4:=rfl;rw [hsz] at hcell;refine ⟨ad,hA,hKad,?_,?_,?_,?_⟩
 · rw [←zbu (ad.add (j*4))];exact hcell 0 _ rfl
 · rw [←zaC _ 1 (by decide)];exact hcell 1 _ rfl
 · rw [←zaC _ 2 (by decide)];exact hcell 2 _ rfl
 · rw [←zaC _ 3 (by decide)];exact hcell 3 _ rfl
def reachS (lba:Int) (l:List Sp):Int:=l.foldl (fun b s=>if s.from_≤b∧b<s.till then s.till else b) lba
theorem zhN {l:List Sp} {j:Nat} (b:Int) (hj:j<l.length):reachS b (l.take (j+1))=if l[j].from_≤reachS b (l.take j)∧reachS b (l.take j)<l[j].till then l[j].till else reachS b (l.take j):=by
 unfold reachS;rw [List.take_succ_eq_append_getElem hj,List.foldl_append];rfl
def zfl (l:List Sp) (lba n:Int):Bool:=decide (zbO lba n 1099511627776) && decide (lba+n≤reachS lba l)
theorem zhD (h:Ho) (v:Value) (lba n:Int) (K:Nat→Prop) (w:World) (hv:IsHo w K v h) :
 Calls Tryz.prog 29 #[v,.int .i64 lba,.int .i64 n] w fun e w'=>e=.returned (.bool (zfl h.s lba n))∧Below w.heap.size w w':=by
 obtain ⟨vo,vs,vb,vl,vm,rfl,-,hs,-,-,-⟩:=hv;obtain ⟨As,cs,rfl,-⟩:=hs.form;have E:=((Kn.start w).give za1.list hs).push 38 (hoC h vo (.slice As h.s.length cs) vb vl vm);have hso:=fun W=>zf8 lba n 1099511627776 W (by decide)
 obtain ⟨k,hk⟩:∃ k,h.s.length=k:=⟨_,rfl⟩;have hlen:=hs.len;rw [hk] at E hlen ⊢;have HKK:=Lib.hid hk;clear hk hs;unfold zfl;by_cases hsm:zbO lba n 1099511627776
 case neg=>
  rw [decide_eq_false hsm,Bool.false_and];rw [decide_eq_false hsm] at hso;go_enter Tryz.func29,Tryz.ntmps29
  go_wp2_with fail;refine (hso _).mono ?_;rintro e w2 ⟨rfl,hb2⟩;replace E:=E.step hb2;go_wp2;go_ret;exact ⟨rfl,E.below⟩
 rw [decide_eq_true hsm,Bool.true_and];rw [decide_eq_true hsm] at hso;unfold zbO at hsm;obtain ⟨res,hres⟩:∃ res,decide (lba+n≤reachS lba h.s)=res:=⟨_,rfl⟩;rw [hres];have HRES:=Lib.hid hres;clear hres;go_enter Tryz.func29,Tryz.ntmps29
 go_wp2_with fail;refine (hso _).mono ?_;rintro e w2 ⟨rfl,hb2⟩;replace E:=E.step hb2;clear hso hb2;obtain ⟨q0,f0,t0⟩:=E.rules m0;go_upto_region 5 with fail;go_loopw [1,9,20] (fun x1 x9 x20 wr=>∃ j:Nat,x20=.int .i64 j∧j≤k∧x1=.int .i64 (reachS lba (h.s.take j))∧Below w2.heap.size w2 wr∧∃ y,x9=y) (fun _ _ x20 _=>k-(intOf x20).toNat)
 case atStart=>exact ⟨0,rfl,Nat.zero_le _,rfl,Below.refl _ _,_,rfl⟩
 case round=>
  obtain ⟨j,rfl,hj,rfl,hb,y,rfl⟩:=hrel;have F:=E.step hb;by_cases hlt:j<k
  case neg=>
   obtain rfl:j=k:=by omega
   rw [List.take_of_length_le (by rw [HKK.out];exact Nat.le_refl _)]
   have hr:=HRES.out;generalize reachS lba h.s=R at hr ⊢;clear E;subst hr;go_wp2;go_ret;exact ⟨rfl,F.below⟩
  have hlt':j<h.s.length:=by rw [HKK.out];exact hlt
  have HR:=Lib.hid (zhN lba hlt');obtain ⟨ad,rfl,hKa,c0,c1,c2,c3⟩:=zoB (F.get m0) (List.getElem?_eq_getElem hlt');generalize h.s[j]=s at HR c0 c1 c2 c3;generalize reachS lba (h.s.take j)=R at HR ⊢;have j1:(j:Int)<(k:Int):=by omega
  have j0:(0:Int)≤(j:Int):=by omega
  by_cases hin:s.from_≤R∧R<s.till
  · have h1:=hin.1;have h2:=hin.2
    have HIN:=Lib.hid hin;clear hin;go_wp2_with fail;go_roundw
    case rel=>exact ⟨j+1,by go_num,by omega,by rw [HR.out,if_pos HIN.out],hb.alloc hb.size _,_,rfl⟩
    case measure=>simp [intOf];omega
  · have HIN:=Lib.hid hin
    by_cases h1:s.from_≤R
    · have h2:¬R<s.till:=fun h=>hin ⟨h1,h⟩
      clear hin;go_wp2_with fail;go_roundw
      case rel=>exact ⟨j+1,by go_num,by omega,by rw [HR.out,if_neg HIN.out],hb.alloc hb.size _,_,rfl⟩
      case measure=>simp [intOf];omega
    · clear hin
      go_wp2_with fail;go_roundw
      case rel=>exact ⟨j+1,by go_num,by omega,by rw [HR.out,if_neg HIN.out],hb.alloc hb.size _,_,rfl⟩
      case measure=>simp [intOf];omega
def zcy (h:Ho):Ho:=⟨h.id,h.own,h.s,false,p0k,h.m,h.ver,h.seq⟩
theorem zfH (h:Ho) (v:Value) (K:Nat→Prop) (w:World) (hv:IsHo w K v h) :
 Calls Tryz.prog 53 #[v] w fun e w'=>∃ v',e=.returned v'∧IsHo w' K v' (zcy h)∧Below w.heap.size w w':=by
 obtain ⟨vo,vs,vb,vl,vm,rfl,h1,h2,h3,h4,h5⟩:=hv;obtain ⟨Ao,co,rfl,-⟩:=h1.form;obtain ⟨As,cs,rfl,-⟩:=h2.form;obtain ⟨Ab,cb,rfl,-⟩:=zab h3;obtain ⟨Al,cl,rfl,-⟩:=h4.form;obtain ⟨Am,cm,rfl,-⟩:=h5.form;have E:=(((((Kn.start w).give za1.list h1).give za1.list h2).give za1.list h5)).push 38 (hoC h (.slice Ao h.own.length co) (.slice As h.s.length cs) (.slice Ab h.p.buf.length cb) (.slice Al h.p.l.length cl) (.slice Am h.m.length cm));go_enter Tryz.func53,Tryz.ntmps53
 go_wp2;refine bodyPost_ret (v:=.agg (hoC (zcy h) (.slice Ao h.own.length co) (.slice As h.s.length cs) (.slice none 0 0) (.slice none 0 0) (.slice Am h.m.length cm))) (by simp [results,Tryz.results53,go_sem,zcy,p0k]) rfl
  ⟨_,rfl,⟨_,_,_,_,_,rfl,(h1.alloc _).alloc _,(h2.alloc _).alloc _,IsB.nil_ _ _,IsL.nil_ _ _,(h5.alloc _).alloc _⟩,((Below.refl _ _).alloc (Nat.le_refl _) _).alloc (by rw [World.size_alloc];omega) _⟩
end Go.Proofs.YthblkdnijhphhaaGreat
