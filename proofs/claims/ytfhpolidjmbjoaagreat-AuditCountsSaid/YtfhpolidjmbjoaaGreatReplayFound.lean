/- A part of the proof. -/
import Derived.Test.YtfhpolidjmbjoaaGreatReplayPlain
import Derived.Test.YtfhpolidjmbjoaaGreatExtWalk
import Derived.Test.YtfhpolidjmbjoaaGreatZnsDo
set_option maxHeartbeats 4000000
set_option maxRecDepth 100000
namespace Go.Proofs.YtfhpolidjmbjoaaGreat
open Go.RowKit
def Rp.fd:Rp Fd:=⟨7,fun w K cs f=>∃ vl va,cs=[.bool f.head,.int .i64 f.h.host,.int .i64 f.h.epoch,.int .i64 f.h.seq,vl,va,.int .i64 f.used]∧IsL Rp.rc w K vl f.l∧IsL Rp.int w K va f.at_,
 by rintro _ _ _ _ ⟨vl,va,rfl,h1,h2⟩;rfl,
 by rintro _ _ _ _ _ ⟨vl,va,e,h1,h2⟩ hk;exact ⟨vl,va,e,h1.keep hk,h2.keep hk⟩,
 by rintro _ _ _ _ _ ⟨vl,va,e,h1,h2⟩ hk;exact ⟨vl,va,e,h1.more hk,h2.more hk⟩,
 by
  rintro _ _ _ _ ⟨vl,va,rfl,h1,h2⟩ u hu;have o1:=RpL.one h1;have o2:=RpL.one h2;simp only [List.mem_cons,List.not_mem_nil,or_false] at hu;rcases hu with rfl | rfl | rfl | rfl | rfl | rfl | rfl <;> first | rfl | assumption⟩
theorem Tryz.infFd:(Tryz.prog.info? 148).map (fun i=>(i.zero,i.size,i.bytes))=some (some (.agg #[.bool false,.int .i64 0,.int .i64 0,.int .i64 0,.slice none 0 0,.slice none 0 0,.int .i64 0]),7,88):=by kernel_rfl
theorem rzone_any (z:Zn) (A:Option Addr) (c:Nat) (K:Nat→Prop) (w:World) (hz:IsB w K (.slice A z.d.length c) z.d) (hl:z.d.length≤1000000000) :
 Calls Tryz.prog 105 #[.agg #[.int .i64 z.st,.int .i64 z.fe,.slice A z.d.length c]] w fun e w'=>∃ A4 c4 A5 c5,e=.returned (.agg (fdC (scanL z.d) (.slice A4 (scanL z.d).l.length c4) (.slice A5 (scanL z.d).at_.length c5))) ∧
  IsL Rp.rc w' (fun k=>w.heap.size≤k) (.slice A4 (scanL z.d).l.length c4) (scanL z.d).l∧IsL Rp.int w' (fun k=>w.heap.size≤k) (.slice A5 (scanL z.d).at_.length c5) (scanL z.d).at_∧Below w.heap.size w w':=by
 have E:=((Kn.start w).push 80 #[.int .i64 z.st,.int .i64 z.fe,.slice A z.d.length c]).push 148 #[.bool false,.int .i64 0,.int .i64 0,.int .i64 0,.slice none 0 0,.slice none 0 0,.int .i64 0];obtain ⟨q0,f0,t0⟩:=E.rules m1;have hsc:=fun w hv=>scan_any (.slice A z.d.length c) z.d K w hv hl
 generalize scanL z.d=f at *;go_enter Tryz.func105,Tryz.ntmps105
 go_wp2_with fail;refine (hsc _ ((hz.alloc _).alloc _)).mono ?_;rintro x w2 ⟨A4,c4,A5,c5,rfl,h1,h2,hb2⟩;unfold fdC;replace E:=E.step hb2;rw [World.size_alloc] at E h1 h2;clear q0 f0 t0;obtain ⟨q0,f0,t0⟩:=E.rules m0;go_wp2;refine at_st7 (K:=fun W=>bodyPost _ _ _ _ _ W) (E.at_ m0) _ _ _ _ _ _ _ ?_
 intro w3 ht hB3;obtain ⟨q3,f3⟩:=hB3.rules;have hb3:=Turned.upon E.below ht (by omega) (Nat.le_refl _)
 refine bodyPost_ret (v:=.agg #[.bool f.head,.int .i64 f.h.host,.int .i64 f.h.epoch,.int .i64 f.h.seq,.slice A4 f.l.length c4,.slice A5 f.at_.length c5,.int .i64 f.used]) (by simp [results,Tryz.results105,go_sem,q3]) rfl ⟨A4,c4,A5,c5,rfl,(h1.turned ht (fun b hb h=>by rw [World.size_alloc] at hb;omega)).more (fun b hb=>by rw [World.size_alloc] at hb;omega),(h2.turned ht (fun b hb h=>by rw [World.size_alloc] at hb;omega)).more (fun b hb=>by rw [World.size_alloc] at hb;omega),hb3⟩
theorem CellsL.ltG {α:Type} {R:Rp α} {w:World} {K:Nat→Prop} (hR:∀ cs x,R.is w K cs x→R.is w (fun b=>K b∧b<w.heap.size) cs x):∀ {cs:List Value} {l:List α},CellsL R w K cs l→CellsL R w (fun b=>K b∧b<w.heap.size) cs l
 | _,[],h=>h
 | _,_::_,⟨a,b,e,h1,h2⟩=>⟨a,b,e,hR a _ h1,CellsL.ltG hR h2⟩
theorem IsL.ltG {α:Type} {R:Rp α} {w:World} {K:Nat→Prop} {v:Value} {l:List α} (hR:∀ cs x,R.is w K cs x→R.is w (fun b=>K b∧b<w.heap.size) cs x) (hs:0<R.size) (h:IsL R w K v l):IsL R w (fun b=>K b∧b<w.heap.size) v l:=by
 obtain ⟨A,c,cs,e,h1,h2,h3⟩:=h;exact ⟨A,c,cs,e,h1.lt hs,h2.ltG hR,h3⟩
theorem IsL.ltC {w:World} {K:Nat→Prop} {v:Value} {l:List Rc} (h:IsL Rp.rc w K v l):IsL Rp.rc w (fun b=>K b∧b<w.heap.size) v l:=
 h.ltG (fun _ _ hx=>by obtain ⟨vd,e,hB,r⟩:=hx;exact ⟨vd,e,hB.lt,r⟩) (by decide)
theorem IsL.ltI {w:World} {K:Nat→Prop} {v:Value} {l:List Int} (h:IsL Rp.int w K v l):IsL Rp.int w (fun b=>K b∧b<w.heap.size) v l:=
 h.ltG (fun _ _ hx=>hx) (by decide)
theorem OwnR.lt2 {α:Type} {R:Rp α} {w:World} {base:Nat} {e:TypeId} {X:Nat→Prop} {A:Option Addr} {n c:Nat} {l:List α} (h:OwnR R w base e X (.slice A n c) l):∀ b,(Value.slice A n c).ownBlock=some b→base≤b∧b<w.heap.size:=by
 obtain ⟨A',c',cs,e,h1,h2⟩:=h;rw [e];exact fun b hb=>h1.lt b hb
def foundL (zs:List Zn):List Fd:=zs.map fun z=>scanL z.d
theorem found_any (d:Zd) (A:Option Addr) (c:Nat) (K:Nat→Prop) (w:World) (hv:IsL Rp.zone w K (.slice A d.z.length c) d.z) (hd:okD d) :
 Calls Tryz.prog 79 #[.agg #[.int .i64 d.cap,.int .i64 d.opn,.int .i64 d.act,.slice A d.z.length c]] w fun e w'=>∃ Ao co,e=.returned (.slice Ao d.z.length co) ∧
  IsL Rp.fd w' (fun k=>w.heap.size≤k) (.slice Ao d.z.length co) (foundL d.z)∧Below w.heap.size w w':=by
 obtain ⟨i0,hi,hz0,hz1,hz2⟩:=info_parts Tryz.infFd;have hzl:∀ z∈d.z,z.d.length≤1000000000:=fun z hz=>by
  obtain ⟨h1,h2,h3,h4⟩:=hd.2.2.2 z hz;omega
 have hn64:=hd.1.2.1;have hc0:chkD d=0:=by unfold chkD;rw [if_pos hd]
 have hcc:=fun w v hv=>zchk_any d v K w hv
 rw [hc0] at hcc;have E:=((Kn.start w).give Stable.list hv).push 34 #[.int .i64 d.cap,.int .i64 d.opn,.int .i64 d.act,.slice A d.z.length c];obtain ⟨zs,hzs⟩:∃ zs,d.z=zs:=⟨_,rfl⟩;rw [hzs] at hzl hn64 hcc E hv ⊢;obtain ⟨n,hn⟩:∃ n,zs.length=n:=⟨_,rfl⟩;have hfl:(foundL zs).length=n:=by unfold foundL;rw [List.length_map,hn]
 have hft:∀ j,(hj:j<zs.length)→(foundL zs).take (j+1)=(foundL zs).take j++[scanL zs[j].d]:=fun j hj=>etake _ (by unfold foundL;rw [List.getElem?_map,List.getElem?_eq_getElem hj];rfl)
 rw [hn] at hn64 E hv ⊢;have HZL:=Lib.hid hzl;have HN:=Lib.hid hn;have HCC:=Lib.hid hcc;have HFT:=Lib.hid hft;have HFL:=Lib.hid hfl;clear hzl hn hcc hc0 hft hfl hd hzs;obtain ⟨q0,f0,t0⟩:=E.rules m0;go_enter Tryz.func79,Tryz.ntmps79
 go_wp2_with fail;refine (HCC.out _ _ (hv.alloc _)).mono ?_;rintro x w2 ⟨rfl,hb2⟩;replace E:=E.step hb2;clear q0 f0 t0 hb2;obtain ⟨q0,f0,t0⟩:=E.rules m0;go_wp2_with fail;go_loopw [3,5,12] (fun x3 x5 x12 wr=>∃ (j:Nat) (Ao:Option Addr) (co:Nat),x12=.int .i64 j∧j≤n∧x3=.slice Ao j co∧OwnR Rp.fd wr w2.heap.size 148 (fun b=>w2.heap.size≤b) (.slice Ao j co) ((foundL zs).take j)∧Below w2.heap.size w2 wr∧∃ y,x5=y) (fun _ _ x12 _=>n-(intOf x12).toNat)
 case atStart=>exact ⟨0,none,0,rfl,Nat.zero_le _,rfl,OwnR.nil_ _ _ _ _,Below.refl _ _,_,rfl⟩
 case round=>
  obtain ⟨j,Ao,co,rfl,hj,rfl,hown,hb,y,rfl⟩:=hrel;have hsz:=hb.size;clear q0 f0 t0;have F:=E.step hb;by_cases hlt:j<n
  case neg=>
   obtain rfl:j=n:=by omega
   rw [List.take_of_length_le (by rw [HFL.out];exact Nat.le_refl _)] at hown
   have hs2:=E.below.size;have hfin:=hown.isLt (X':=fun b=>w.heap.size≤b) (by rw [HFL.out];omega) (fun b _ h=>by omega) (fun b _ h=>by omega)
   clear E;go_wp2;go_ret;exact ⟨Ao,co,rfl,hfin,F.below⟩
  have hlt':j<zs.length:=by rw [HN.out];exact hlt
  obtain ⟨ad,B,cB,rfl,hadb,_,hB,c0,c1,c2⟩:=IsL.zone_at (F.get m0) (List.getElem?_eq_getElem hlt');have hln:=HZL.out _ (List.getElem_mem hlt');have hft:=HFT.out j hlt';generalize zs[j]=z at hB c0 c1 c2 hln hft;have HF:=Lib.hid hft;clear hft;have j1:(j:Int)<(n:Int):=by omega
  have j0:(0:Int)≤(j:Int):=by omega
  go_wp2_with fail;refine (rzone_any z B cB _ _ (hB.alloc _) hln).mono ?_;rintro x w4 ⟨A4,c4,A5,c5,rfl,h1,h2,hb4⟩;generalize scanL z.d=f at *;unfold fdC;clear c0 c1 c2 hB;have hal:((foundL zs).take j).length=j:=by rw [List.length_take,HFL.out];omega
  have hown4:=(hown.step ((Below.refl _ _).alloc (Nat.le_refl _) (.cells #[.int .i64 z.st,.int .i64 z.fe,.slice B z.d.length cB] 80))).step hb4;have hrow:=hown.lt2;obtain ⟨hjj,cs,own4,cl4⟩:=hown4.open_;rw [hal] at own4 cl4;replace own4:w4.ownsRow w2.heap.size 148 7 (.slice Ao j co) j cs:=own4;have HAL:=Lib.hid hal;clear hjj hal hown hown4;rw [World.size_alloc] at h1 h2;have hs4:wr.heap.size+1≤w4.heap.size:=by have:=hb4.size;rw [World.size_alloc] at this;exact this
  go_wp2_with (at_builtin;(refine wpList_appN rfl _ _ _ rfl w2.heap.size 148 i0 _ 7 88 Tryz.underlying145 hi hz0 hz1 hz2 rfl (by omega) rfl (own4.alloc _) rfl (Reads.new (xs:=[.bool f.head,.int .i64 f.h.host,.int .i64 f.h.epoch,.int .i64 f.h.seq,.slice A4 f.l.length c4,.slice A5 f.at_.length c5,.int .i64 f.used]) (n:=1) rfl rfl rfl) (by intro u hu;simp only [List.mem_cons,List.not_mem_nil,or_false] at hu;rcases hu with rfl | rfl | rfl | rfl | rfl | rfl | rfl <;> rfl) (by simp only [maxLen];omega) (by omega) (by rw [World.size_alloc];omega) ?_;intro A8 c8 w6 own8 hg8))
  go_roundw
  case rel=>
   refine ⟨j+1,A8,c8,by go_num,by omega,rfl,?_,?_,_,rfl⟩
   · rw [HF.out]
     have hne:∀ b,wr.heap.size+1≤b→some b≠(Value.slice Ao j co).ownBlock:=fun b hb h=>by have:=hrow b h.symm;omega
     have hp:=OwnR.push (R:=Rp.fd) (X:=fun b=>w2.heap.size≤b) (l:=(foundL zs).take j) (a:=f) (A:=Ao) (A':=A8) (c:=co) (c':=c8) (w:=w4.alloc (.cells ([.bool f.head,.int .i64 f.h.host,.int .i64 f.h.epoch,.int .i64 f.h.seq,.slice A4 f.l.length c4,.slice A5 f.at_.length c5,.int .i64 f.used]).toArray 148)) (w':=w6) (base:=w2.heap.size) (e:=148) (news:=[.bool f.head,.int .i64 f.h.host,.int .i64 f.h.epoch,.int .i64 f.h.seq,.slice A4 f.l.length c4,.slice A5 f.at_.length c5,.int .i64 f.used])
      (by rw [HAL.out];exact (cl4.alloc _).more fun b hb=>⟨hb.1,by rw [World.size_alloc];omega,hb.2.2⟩) ⟨_,_,rfl,(h1.ltC.alloc _).more fun b hb=>⟨by omega,by rw [World.size_alloc];omega,by rw [HAL.out];exact hne b hb.1⟩,(h2.ltI.alloc _).more fun b hb=>⟨by omega,by rw [World.size_alloc];omega,by rw [HAL.out];exact hne b hb.1⟩⟩ (by rw [HAL.out];exact own8) (by rw [HAL.out];exact hg8)
     rw [HAL.out] at hp;exact hp
   · exact (((hb.alloc hsz (.cells #[.int .i64 z.st,.int .i64 z.fe,.slice B z.d.length cB] 80)).trans (hb4.mono (by rw [World.size_alloc];omega))).alloc (by omega) (.cells ([.bool f.head,.int .i64 f.h.host,.int .i64 f.h.epoch,.int .i64 f.h.seq,.slice A4 f.l.length c4,.slice A5 f.at_.length c5,.int .i64 f.used]).toArray 148)).trans (hg8.below.mono (Nat.le_refl _))
  case measure=>simp [intOf];omega
theorem at_st4s {K:World→Prop} {w:World} {g:Nat} {t:TypeId} {u0 u1 u2 u3:Value} (hB:Blk w g t #[u0,u1,u2,u3]) (x0 x1 x2 x3:Value)
 (h:∀ wy,wy.heap.size=w.heap.size→Turned w wy (fun b=>b=g)→Blk wy g t #[x0,x1,x2,x3]→K wy):K ((((w.setCell ⟨g,0,none⟩ x0).setCell ⟨g,1,none⟩ x1).setCell ⟨g,2,none⟩ x2).setCell ⟨g,3,none⟩ x3):=
 at_st4 (K:=fun W=>W.heap.size=w.heap.size→K W) hB x0 x1 x2 x3 (fun wy ht hB hs=>h wy hs ht hB) (by simp)
end Go.Proofs.YtfhpolidjmbjoaaGreat
