/- A part of the proof. -/
import Derived.Test.YtfhpolidjmbjoaaGreatLook2
set_option linter.unusedSimpArgs false
set_option maxHeartbeats 8000000
set_option maxRecDepth 100000
namespace Go.Proofs.YtfhpolidjmbjoaaGreat
open Go.RowKit
theorem Told.low {w:World} {B B':Nat} {T:List Int} {j:Nat} {vo:Value} (h:Told w B T j vo) (hB:B'≤B):Told w B' T j vo:=by
 rcases h with h | ⟨t,A,c,h1,h2,h3,h4⟩
 · exact .inl h
 · exact .inr ⟨t,A,c,h1,h2,h3,h4.more fun b hb=>by omega⟩
theorem look0_any (d:Zd) (A:Option Addr) (c:Nat) (As:Option Addr) (ns cs:Nat) (ttl:Int) (K:Nat→Prop) (T:List Int) (w:World) (hz:IsL Rp.zone w K (.slice A d.z.length c) d.z) (hd:okD d) (h2:d.z.length=2) (hT:tornT d.z 2=T) (hT1:T.length≤1) (hT2:∀ t∈T,0≤t∧t<2)
 (hgood:∀ x∈entsU (foundL d.z) [] d.z.length,GoodX 10000 x) (hat:∀ f∈foundL d.z,f.at_.length=f.l.length∧f.l.length≤1000000000) :
 Calls Tryz.prog 10 #[.agg #[.int .i64 d.cap,.int .i64 d.opn,.int .i64 d.act,.slice A d.z.length c],.agg (co0 (.slice As ns cs) ttl 2),.slice none 0 0] w fun x w'=>∃ vo,x=.returned (.tuple #[vo,.int .i64 0])∧Told w' w.heap.size T 2 vo∧Below w.heap.size w w':=by
 have hck:=fun W hz=>zchk_any d (.slice A d.z.length c) K W hz
 have hma:=fun W hz=>rmap_any d A c [] none 0 K (fun _=>False) W hd hz (IsL.nil_ _ _) (by simp) hgood hat
 have hc0:chkD d=0:=by unfold chkD;rw [if_pos hd]
 have E:=(((Kn.start w).give Stable.list hz).push 34 #[.int .i64 d.cap,.int .i64 d.opn,.int .i64 d.act,.slice A d.z.length c]).push 44 (co0 (.slice As ns cs) ttl 2);simp only [World.size_alloc] at E;have HMA:=Lib.hid hma;have HCK:=Lib.hid hck;have HC0:=Lib.hid hc0;have HD:=Lib.hid hd;have H2:=Lib.hid h2;have HT:=Lib.hid hT;clear hz hma hck hc0 hgood hat h2 hT hd;go_enter Tryz.func10,Tryz.ntmps10
 go_wp2_with fail;refine (order0_any _).mono ?_;rintro x w2 ⟨rfl,hb2⟩;replace E:=E.step hb2;obtain ⟨q0,f0,t0⟩:=E.rules m1;clear hb2;go_wp2_with fail;refine (HCK.out _ (E.get m0)).mono ?_;rintro x w3 ⟨rfl,hb3⟩;rw [HC0.out];replace E:=E.step hb3;obtain ⟨q0,f0,t0⟩:=E.rules m1;clear hb3;go_wp2_with fail;refine (HMA.out _ (E.get m0)).mono ?_;rintro x w4 ⟨mm,Am,cm,rfl,-,-,-,hmm,hb4⟩;replace E:=E.step hb4;obtain ⟨q0,f0,t0⟩:=E.rules m1;obtain ⟨q1,f1,t1⟩:=E.rules m0;clear hb4 hmm;go_wp2_with fail;have E2:=(E.push 70 (auC d A c (.slice As ns cs) ttl 2 (.slice Am mm.length cm) (.slice none 0 0))).push 71 #[.func (.func 20) #[] #[],.func (.func 21) #[] #[],.func (.func 22) #[] #[],.func (.func 23) #[] #[]];rw [World.size_alloc] at E2;generalize hw5:(w4.alloc (.cells (auC d A c (.slice As ns cs) ttl 2 (.slice Am mm.length cm) (.slice none 0 0)) 70)).alloc (.cells #[.func (.func 20) #[] #[],.func (.func 21) #[] #[],.func (.func 22) #[] #[],.func (.func 23) #[] #[]] 71)=w5 at E2 ⊢;have hz5:IsL Rp.zone w5 (fun b=>b<w4.heap.size) (.slice A d.z.length c) d.z:=by
  rw [←hw5];exact (((E.get m0).zlt.step ((Below.refl _ _).alloc (Nat.le_refl _) _)).step ((Below.refl _ _).alloc (Nat.le_refl _) _)).more fun b hb=>hb.2
 clear hw5 q0 f0 t0 q1 f1 t1;obtain ⟨ga,hga⟩:∃ g,w4.heap.size=g:=⟨_,rfl⟩;have hgw:w.heap.size≤ga:=by rw [←hga];exact E.below.size
 rw [hga] at E2 hz5 ⊢;have hb5:=E2.below;have hBa:=E2.at_ m1;have hBs:=E2.at_ m0;clear E E2 hga;go_loopw [14,43] (fun x14 x43 wr=>∃ j:Nat,x43=.int .i64 j∧j≤4∧∃ vo,(j=0→vo=.slice none 0 0)∧(1≤j→Told wr w.heap.size T 2 vo)∧Blk wr ga 70 (auC d A c (.slice As ns cs) ttl 2 (.slice Am mm.length cm) vo)∧Blk wr (ga+1) 71 #[.func (.func 20) #[] #[],.func (.func 21) #[] #[],.func (.func 22) #[] #[],.func (.func 23) #[] #[]]∧IsL Rp.zone wr (fun b=>b<ga) (.slice A d.z.length c) d.z∧Below w.heap.size w wr∧∃ y,x14=y) (fun _ x43 _=>4-(intOf x43).toNat)
 case atStart=>exact ⟨0,rfl,by omega,_,fun _=>rfl,fun h=>by omega,hBa,hBs,hz5,hb5,_,rfl⟩
 case round=>
  clear hBa hBs hz5 hb5;obtain ⟨j,rfl,hj,vo,h0,h1,hBa,hBs,hzr,hbr,y,rfl⟩:=hrel;obtain ⟨q0,f0⟩:=hBa.rules;obtain ⟨q1,f1⟩:=hBs.rules;have t0:=hBa.lt;have t1:=hBs.lt;rcases (show j=0∨j=1∨j=2∨j=3∨j=4 by omega) with rfl | rfl | rfl | rfl | rfl
  · obtain rfl:=h0 rfl
    go_wp2_with fail;refine (zones0_any ga d A c As ns cs ttl _ _ T wr hBa hzr HD.out H2.out HT.out hT1 hT2).mono ?_;rintro x w6 ⟨rfl,vo,hB6,hTo6,ht6⟩;have hBs6:=hBs.turned ht6 (by omega)
    have hz6:=hzr.turned ht6 (fun b hb e=>by omega)
    have hb6:=Turned.upon hbr ht6 (by omega) (Nat.le_refl _)
    have hT6:Told w6 w.heap.size T 2 vo:=hTo6.low hbr.size;clear q0 f0 t0 q1 f1 t1;go_wp2_with fail;go_roundw
    case rel=>exact ⟨1,rfl,by omega,vo,fun h=>by omega,fun _=>hT6,hB6,hBs6,hz6,hb6,_,rfl⟩
    case measure=>simp [intOf]
  · go_wp2_with fail
    refine (alone0_any ga d A c (.slice As ns cs) ttl 2 _ vo wr hBa).mono ?_;rintro x w6 ⟨rfl,rfl⟩;go_wp2_with fail;go_roundw
    case rel=>exact ⟨2,rfl,by omega,vo,fun h=>by omega,fun _=>h1 (by omega),hBa,hBs,hzr,hbr,_,rfl⟩
    case measure=>simp [intOf]
  · go_wp2_with fail
    refine (pairs0_any ga d A c (.slice As ns cs) ttl 2 _ vo wr hBa).mono ?_;rintro x w6 ⟨rfl,rfl⟩;go_wp2_with fail;go_roundw
    case rel=>exact ⟨3,rfl,by omega,vo,fun h=>by omega,fun _=>h1 (by omega),hBa,hBs,hzr,hbr,_,rfl⟩
    case measure=>simp [intOf]
  · go_wp2_with fail
    refine (olds0_any ga d A c (.slice As ns cs) ttl 2 _ vo wr hBa).mono ?_;rintro x w6 ⟨rfl,hb6⟩;go_wp2_with fail;go_roundw
    case rel=>exact ⟨4,rfl,by omega,vo,fun h=>by omega,fun _=>(h1 (by omega)).step hb6,hBa.step hb6,hBs.step hb6,(hzr.step hb6).more fun b hb=>by have:=hb6.size;omega,hbr.trans (hb6.mono hbr.size),_,rfl⟩
    case measure=>simp [intOf]
  · go_wp2_with fail
    go_ret2;exact ⟨vo,rfl,h1 (by omega),hbr⟩
end Go.Proofs.YtfhpolidjmbjoaaGreat
