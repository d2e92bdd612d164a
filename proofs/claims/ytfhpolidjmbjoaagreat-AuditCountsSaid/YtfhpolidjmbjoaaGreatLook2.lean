/- A part of the proof. -/
import Derived.Test.YtfhpolidjmbjoaaGreatLook1
set_option linter.unusedSimpArgs false
set_option maxHeartbeats 8000000
set_option maxRecDepth 100000
namespace Go.Proofs.YtfhpolidjmbjoaaGreat
open Go.RowKit
theorem isL_ownI {w:World} {base n c:Nat} {e:TypeId} {A:Option Addr} {l:List Int} (h:w.ownsRow base e 1 (.slice A n c) n (l.map I64)) (hn:l.length=n) (h63:I63 l) (hl:n≤140737488355328):IsL Rp.int w (fun b=>base≤b) (.slice A n c) l:=by
 subst hn;exact ⟨A,c,l.map I64,rfl,Reads.of_own_ge h,cells_ints h63,own_cap h,own_cap63 h,hl⟩
def Told (w:World) (B:Nat) (T:List Int) (j:Nat) (vo:Value):Prop:=
 (vo=.slice none 0 0∧∀ t∈T,¬t<j)∨∃ t A c,T=[t]∧t<j∧vo=.slice A 1 c∧IsL Rp.ft w (fun b=>B≤b) (.slice A 1 c) [⟨1,t,0,0⟩]
theorem Told.step {w w':World} {B:Nat} {T:List Int} {j:Nat} {vo:Value} (h:Told w B T j vo) (hb:Below w.heap.size w w'):Told w' B T j vo:=by
 rcases h with h | ⟨t,A,c,h1,h2,h3,h4⟩
 · exact .inl h
 · exact .inr ⟨t,A,c,h1,h2,h3,h4.step hb⟩
theorem zones0_any (g:Nat) (d:Zd) (A:Option Addr) (c:Nat) (As:Option Addr) (ns cs:Nat) (ttl:Int) (vm:Value) (K:Nat→Prop) (T:List Int) (w:World) (hB:Blk w g 70 (auC d A c (.slice As ns cs) ttl 2 vm (.slice none 0 0)))
 (hz:IsL Rp.zone w K (.slice A d.z.length c) d.z) (hd:okD d) (h2:d.z.length=2) (hT:tornT d.z 2=T) (hT1:T.length≤1) (hT2:∀ t∈T,0≤t∧t<2) :
 Calls Tryz.prog 20 #[.pointer (some ⟨g,0,none⟩)] w fun x w'=>x=.returned (.tuple #[])∧∃ vo,Blk w' g 70 (auC d A c (.slice As ns cs) ttl 2 vm vo)∧Told w' w.heap.size T 2 vo∧Turned w w' (fun b=>b=g):=by
 have hto:=rtorn_any d A c K w hz hd;have hT':tornT d.z d.z.length=T:=by rw [h2];exact hT
 rw [hT'] at hto;obtain ⟨nt,hnt⟩:∃ nt,T.length=nt:=⟨_,rfl⟩;rw [hnt] at hto hT1;have HT2:=Lib.hid hT2;have HNT:=Lib.hid hnt;have H2:=Lib.hid h2;have hg0:=hB.lt;have E:=(Kn.start w).know hB;obtain ⟨q0,f0,t0⟩:=E.rules m0;have HTO:=Lib.hid hto;clear hT hT' hd hT2 hnt hz h2 hto;go_enter Tryz.func20,Tryz.ntmps20
 go_wp2_with fail;refine HTO.out.mono ?_;rintro x w2 ⟨At,ct,rfl,ownT,hb2⟩;replace E:=E.step hb2;obtain ⟨q1,f1,t1⟩:=E.rules m0;have hIT:=isL_ownI ownT HNT.out (fun t ht=>by have:=HT2.out t ht;omega) (by omega)
 clear q0 f0 t0 ownT;go_wp2_with fail;have hB2:=E.at_ m0;have ht2:Turned w w2 (fun b=>b=g):=Turned.of hb2
 go_loopw [3,4,5,6,7,19] (fun x3 x4 x5 x6 x7 x19 wr=>∃ j:Nat,x19=.int .i64 j∧j≤2∧(∃ vo,Blk wr g 70 (auC d A c (.slice As ns cs) ttl 2 vm vo)∧Told wr w.heap.size T j vo)∧IsL Rp.int wr (fun b=>w.heap.size≤b) (.slice At nt ct) T∧Turned w wr (fun b=>b=g)∧(∃ y,x3=y)∧(∃ y,x4=y)∧(∃ y,x5=y)∧(∃ y,x6=y)∧∃ y,x7=y) (fun _ _ _ _ _ x19 _=>2-(intOf x19).toNat)
 case atStart=>exact ⟨0,rfl,by omega,⟨_,hB2,.inl ⟨rfl,fun t ht=>by have:=HT2.out t ht;omega⟩⟩,hIT,ht2,⟨_,rfl⟩,⟨_,rfl⟩,⟨_,rfl⟩,⟨_,rfl⟩,_,rfl⟩
 case round=>
  clear hB2 ht2 hIT q1 f1 t1;obtain ⟨j,rfl,hj,⟨vo,hBr,hTo⟩,hIT,htr,⟨y3,rfl⟩,⟨y4,rfl⟩,⟨y5,rfl⟩,⟨y6,rfl⟩,y7,rfl⟩:=hrel;have hgw:=hBr.lt;by_cases hlt:j<2
  case pos=>
   have j1:(j:Int)<(d.z.length:Int):=by rw [H2.out];omega
   have j0:(0:Int)≤(j:Int):=by omega
   have hbs:=bsearch1_any At nt ct T j _ wr hIT hT1;go_wp2_with fail;refine hbs.mono ?_;rintro x w3 ⟨i,rfl,rfl⟩;have how:=owner0_any As ns cs ttl 2 j;by_cases hm:(j:Int)∈T
   case pos=>
    rw [decide_eq_true hm];have hTj:T=[(j:Int)]:=by
     match T,HNT.out,hT1,hm with
     | [t],_,_,hm=>rw [List.mem_singleton.1 hm]
     | t::t2::T2,e,h,_=>simp at e;omega
    have hnil:vo=.slice none 0 0:=by
     rcases hTo with h | ⟨t,_,_,h1,h2,_⟩
     · exact h.1
     · rw [hTj] at h1;injection h1 with h1;omega
    subst hnil;have htl:=tell0_any g d A c (.slice As ns cs) ttl 2 vm ⟨1,j,0,0⟩ w3 hBr;clear hTo hm hbs;go_wp2_with fail;refine htl.mono ?_;rintro x w4 ⟨rfl,A4,c4,hB4,hI4,ht4⟩;have hIT4:=hIT.turned ht4 (fun b hb e=>by omega)
    have hT4:Told w4 w.heap.size T (j+1) (.slice A4 1 c4):=.inr ⟨j,A4,c4,hTj,by omega,rfl,hI4.more fun b hb=>by have:=htr.size;omega⟩
    obtain ⟨q1,f1⟩:=hB4.rules;clear htl hI4;go_wp2_with fail;refine (how _ (by omega)).mono ?_
    rintro x w5 ⟨rfl,hb5⟩;have hB5:=hB4.step hb5;have hT5:=hT4.step hb5;have hIT5:=hIT4.step hb5;have htr5:=(htr.trans ht4).trans (Turned.of hb5);clear q1 f1 how hTj;go_wp2_with fail;go_roundw
    case rel=>exact ⟨j+1,by go_num,by omega,⟨_,hB5,hT5⟩,hIT5,htr5,⟨_,rfl⟩,⟨_,rfl⟩,⟨_,rfl⟩,⟨_,rfl⟩,_,rfl⟩
    case measure=>simp [intOf];omega
   case neg=>
    rw [decide_eq_false hm];obtain ⟨q1,f1⟩:=hBr.rules;clear hbs;go_wp2_with fail;refine (how _ (by omega)).mono ?_
    rintro x w4 ⟨rfl,hb4⟩;have hB4:=hBr.step hb4;have hT4:Told w4 w.heap.size T (j+1) vo:=by
     rcases hTo.step hb4 with ⟨h1,h2⟩ | ⟨t,A4,c4,h1,h2,h3⟩
     · exact .inl ⟨h1,fun t ht h=>by have:t≠(j:Int):=fun e=>hm (e ▸ ht);have:=h2 t ht;omega⟩
     · exact .inr ⟨t,A4,c4,h1,by omega,h3⟩
    have hIT4:=hIT.step hb4;have htr4:=htr.trans (Turned.of hb4);clear q1 f1 how hm hTo;go_wp2_with fail;go_roundw
    case rel=>exact ⟨j+1,by go_num,by omega,⟨_,hB4,hT4⟩,hIT4,htr4,⟨_,rfl⟩,⟨_,rfl⟩,⟨_,rfl⟩,⟨_,rfl⟩,_,rfl⟩
    case measure=>simp [intOf];omega
  case neg=>
   obtain rfl:j=2:=by omega
   have hd2:¬((2:Nat):Int)<(d.z.length:Int):=by rw [H2.out];omega
   go_wp2_with fail;go_end0;exact ⟨rfl,vo,hBr,hTo,htr⟩
theorem alone0_any (g:Nat) (d:Zd) (A:Option Addr) (c:Nat) (S:Value) (ttl zs:Int) (vm vo:Value) (w:World) (hB:Blk w g 70 (auC d A c S ttl zs vm vo)) :
 Calls Tryz.prog 21 #[.pointer (some ⟨g,0,none⟩)] w fun x w'=>x=.returned (.tuple #[])∧w'=w:=by
 obtain ⟨q0,f0⟩:=hB.rules;have t0:=hB.lt;go_enter Tryz.func21,Tryz.ntmps21
 go_wp2_with fail;go_loopw [3,5,7,13] (fun x0 x1 x2 x3 wr=>x3=.int .i64 0∧wr=w∧(∃ y,x0=y)∧(∃ y,x1=y)∧(∃ y,x2=y)) (fun _ _ _ _ _=>0)
 case atStart=>exact ⟨rfl,rfl,⟨_,rfl⟩,⟨_,rfl⟩,_,rfl⟩
 case round=>
  obtain ⟨rfl,rfl,⟨y0,rfl⟩,⟨y1,rfl⟩,y4,rfl⟩:=hrel;go_wp2_with fail;go_end0;exact ⟨rfl,rfl⟩
theorem pairs0_any (g:Nat) (d:Zd) (A:Option Addr) (c:Nat) (S:Value) (ttl zs:Int) (vm vo:Value) (w:World) (hB:Blk w g 70 (auC d A c S ttl zs vm vo)) :
 Calls Tryz.prog 22 #[.pointer (some ⟨g,0,none⟩)] w fun x w'=>x=.returned (.tuple #[])∧w'=w:=by
 obtain ⟨q0,f0⟩:=hB.rules;have t0:=hB.lt;go_enter Tryz.func22,Tryz.ntmps22
 go_wp2_with fail;go_loopw [2,3,5,6,12] (fun x0 x1 x2 x3 x4 wr=>x4=.int .i64 0∧wr=w∧(∃ y,x0=y)∧(∃ y,x1=y)∧(∃ y,x2=y)∧(∃ y,x3=y)) (fun _ _ _ _ _ _=>0)
 case atStart=>exact ⟨rfl,rfl,⟨_,rfl⟩,⟨_,rfl⟩,⟨_,rfl⟩,_,rfl⟩
 case round=>
  obtain ⟨rfl,rfl,⟨y0,rfl⟩,⟨y1,rfl⟩,⟨y2,rfl⟩,y5,rfl⟩:=hrel;go_wp2_with fail;go_end0;exact ⟨rfl,rfl⟩
theorem olds0_any (g:Nat) (d:Zd) (A:Option Addr) (c:Nat) (S:Value) (ttl zs:Int) (vm vo:Value) (w:World) (hB:Blk w g 70 (auC d A c S ttl zs vm vo)) :
 Calls Tryz.prog 23 #[.pointer (some ⟨g,0,none⟩)] w fun x w'=>x=.returned (.tuple #[])∧Below w.heap.size w w':=by
 have E:=((Kn.start w).know hB).push 68 #[.pointer (some ⟨g,0,none⟩)];obtain ⟨q0,f0,t0⟩:=E.rules m0;obtain ⟨q1,f1,t1⟩:=E.rules m1;have hb:=E.below;go_enter Tryz.func23,Tryz.ntmps23
 go_wp2_with fail;generalize w.alloc (.cells #[.pointer (some ⟨g,0,none⟩)] 68)=w1 at *;go_loopw [3,4,6,8,9,15] (fun x0 x1 x2 x3 x4 x5 wr=>x5=.int .i64 0∧wr=w1∧(∃ y,x0=y)∧(∃ y,x1=y)∧(∃ y,x2=y)∧(∃ y,x3=y)∧∃ y,x4=y) (fun _ _ _ _ _ _ _=>0)
 case atStart=>exact ⟨rfl,rfl,⟨_,rfl⟩,⟨_,rfl⟩,⟨_,rfl⟩,⟨_,rfl⟩,_,rfl⟩
 case round=>
  obtain ⟨rfl,rfl,⟨y0,rfl⟩,⟨y1,rfl⟩,⟨y2,rfl⟩,⟨y3,rfl⟩,y4,rfl⟩:=hrel;go_wp2_with fail;go_end0;exact ⟨rfl,hb⟩
end Go.Proofs.YtfhpolidjmbjoaaGreat
