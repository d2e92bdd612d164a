/- A part of the proof. -/
import Derived.Test.YtfhpolidjmbjoaaGreatDelFt
import Derived.Test.YtfhpolidjmbjoaaGreatMapW
import Derived.Test.YtfhpolidjmbjoaaGreatHostCopy
set_option maxHeartbeats 4000000
set_option maxRecDepth 100000
namespace Go.Proofs.YtfhpolidjmbjoaaGreat
open Go.RowKit
theorem insH_any (f:Value) (w:World):Calls Tryz.prog 103 #[.slice none 0 0,.int .i64 0,.int .i64 0,f] w fun x w'=>x=.returned (.tuple #[])∧Below w.heap.size w w':=by
 have E:=Kn.start w;go_enter Tryz.func103,Tryz.ntmps103
 go_wp2_with fail;go_loopw [8] (fun x wr=>x=.int .i64 1∧wr=w) (fun _ _=>0)
 case atStart=>exact ⟨rfl,rfl⟩
 case round=>
  obtain ⟨rfl,rfl⟩:=hrel;go_wp2_with fail;go_end0;exact ⟨rfl,E.below⟩
theorem stableH_any (f:Value) (w:World):Calls Tryz.prog 76 #[.slice none 0 0,.int .i64 0,f] w fun x w'=>x=.returned (.tuple #[])∧Below w.heap.size w w':=by
 have E:=Kn.start w;go_enter Tryz.func76,Tryz.ntmps76
 go_wp2_with fail;go_loopw [7,8] (fun a b wr=>a=.int .i64 0∧b=.int .i64 20∧wr=w) (fun _ _ _=>0)
 case atStart=>exact ⟨rfl,rfl,rfl⟩
 case round=>
  obtain ⟨rfl,rfl,rfl⟩:=hrel;go_wp2_with fail;refine (insH_any _ _).mono ?_;rintro x w2 ⟨rfl,hb⟩;go_wp2_with fail;go_loopw [6,7,8,9] (fun a b c d wy=>a=.int .i64 20∧wy=w2∧(∃ y,b=y)∧(∃ y,c=y)∧∃ y,d=y) (fun _ _ _ _ _=>0)
  case atStart=>exact ⟨rfl,rfl,⟨_,rfl⟩,⟨_,rfl⟩,_,rfl⟩
  case round=>
   obtain ⟨rfl,rfl,⟨y1,rfl⟩,⟨y2,rfl⟩,y3,rfl⟩:=hrel;go_wp2_with fail;go_end0;exact ⟨rfl,hb⟩
theorem order0_any (w:World):Calls Tryz.prog 18 #[.slice none 0 0] w fun x w'=>x=.returned (.tuple #[.slice none 0 0,.bool true])∧Below w.heap.size w w':=by
 have heq:=fun w=>Lib.run_eql_slice_nil (P:=Tryz.prog) w 62 96 none 0 0 0 0 Tryz.underlying62
 have hcl:∀ w,Calls Tryz.prog 40 #[.slice none 0 0] w fun x w'=>x=.returned (.slice none 0 0)∧w'=w:=fun w=>by
  go_enter Tryz.func40,Tryz.ntmps40
  go_wp2;go_ret;exact ⟨rfl,rfl⟩
 have hst:∀ f w,Calls Tryz.prog 41 #[.slice none 0 0,f] w fun x w'=>x=.returned (.tuple #[])∧Below w.heap.size w w':=fun f w=>by
  go_enter Tryz.func41,Tryz.ntmps41
  go_wp2_with fail;refine (stableH_any _ _).mono ?_;rintro x w2 ⟨rfl,hb⟩;go_wp2;go_end0;exact ⟨rfl,hb⟩
 clear heq;go_enter Tryz.func18,Tryz.ntmps18
 go_wp2_with fail;refine (hcl _).mono ?_;rintro x w1 ⟨rfl,rfl⟩;go_wp2_with fail;refine (hst _ _).mono ?_;rintro x w2 ⟨rfl,hb⟩;go_wp2_with fail;go_loopw [5,6,13] (fun a b i wy=>i=.int .i64 0∧wy=w2∧(∃ y,a=y)∧∃ y,b=y) (fun _ _ _ _=>0)
 case atStart=>exact ⟨rfl,rfl,⟨_,rfl⟩,_,rfl⟩
 case round=>
  obtain ⟨rfl,rfl,⟨y1,rfl⟩,y2,rfl⟩:=hrel;go_wp2_with fail;go_ret2;exact ⟨rfl,hb⟩
abbrev co0 (S:Value) (ttl zs:Int):Array Value:=#[.int .i64 0,.int .i64 0,.slice none 0 0,S,.slice none 0 0,.int .i64 ttl,.int .i64 zs]
theorem find0_any (z:Int) (w:World):Calls Tryz.prog 144 #[.agg #[.int .i64 0,.int .i64 0,.slice none 0 0],.int .i64 z] w fun x w'=>x=.returned (.tuple #[.int .i64 0,.bool false])∧Below w.heap.size w w':=by
 have hbs:∀ f w,Calls Tryz.prog 167 #[.slice none 0 0,.int .i64 z,f] w fun x w'=>x=.returned (.tuple #[.int .i64 0,.bool false])∧Below w.heap.size w w':=fun f w=>by
  go_enter Tryz.func167,Tryz.ntmps167
  go_wp2_with fail;go_loopw [9,10,11] (fun a b c wy=>a=.int .i64 0∧b=.int .i64 0∧wy=w∧∃ y,c=y) (fun _ _ _ _=>0)
  case atStart=>exact ⟨rfl,rfl,rfl,_,rfl⟩
  case round=>
   obtain ⟨rfl,rfl,rfl,y,rfl⟩:=hrel;go_wp2_with fail;go_ret2;exact ⟨rfl,Below.refl _ _⟩
 have E:=(Kn.start w).push 40 #[.int .i64 0,.int .i64 0,.slice none 0 0];obtain ⟨q0,f0,t0⟩:=E.rules m0;have hb0:=E.below;go_enter Tryz.func144,Tryz.ntmps144
 go_wp2_with fail;refine (hbs _ _).mono ?_;rintro x w2 ⟨rfl,hb⟩;go_wp2_with fail;go_ret2;exact ⟨rfl,hb0.trans (hb.mono hb0.size)⟩
theorem holder0_any (z:Int) (w:World):Calls Tryz.prog 115 #[.agg #[.int .i64 0,.int .i64 0,.slice none 0 0],.int .i64 z] w fun x w'=>x=.returned (.tuple #[.agg #[.int .i64 0,.int .i64 0,.int .i64 0,.int .i64 0],.bool false])∧Below w.heap.size w w':=by
 have E:=((Kn.start w).push 40 #[.int .i64 0,.int .i64 0,.slice none 0 0]).push 181 #[.int .i64 0,.int .i64 0,.int .i64 0,.int .i64 0];rw [World.size_alloc] at E;obtain ⟨q1,f1,t1⟩:=E.rules m1;go_enter Tryz.func115,Tryz.ntmps115
 go_wp2_with fail;refine (find0_any _ _).mono ?_;rintro x w2 ⟨rfl,hb⟩;replace E:=E.step hb;obtain ⟨q0,f0,t0⟩:=E.rules m0;have hB:=E.at_ m0;have hb1:=E.below;clear q1 f1 t1 hb E;go_wp2_with fail;have hB2:=(((hB.set_ 0 (.int .i64 0)).set_ 1 (.int .i64 0)).set_ 2 (.int .i64 0)).set_ 3 (.int .i64 0);have hb2:Below w.heap.size w ((((w2.setCell ⟨w.heap.size+1,0,none⟩ (.int .i64 0)).setCell ⟨w.heap.size+1,1,none⟩ (.int .i64 0)).setCell ⟨w.heap.size+1,2,none⟩ (.int .i64 0)).setCell ⟨w.heap.size+1,3,none⟩ (.int .i64 0)):=(((hb1.setCell (p:=⟨w.heap.size+1,0,none⟩) (by show _≤_+1;omega) _).setCell (p:=⟨w.heap.size+1,1,none⟩) (by show _≤_+1;omega) _).setCell (p:=⟨w.heap.size+1,2,none⟩) (by show _≤_+1;omega) _).setCell (p:=⟨w.heap.size+1,3,none⟩) (by show _≤_+1;omega) _
 generalize ((((w2.setCell ⟨w.heap.size+1,0,none⟩ (.int .i64 0)).setCell ⟨w.heap.size+1,1,none⟩ (.int .i64 0)).setCell ⟨w.heap.size+1,2,none⟩ (.int .i64 0)).setCell ⟨w.heap.size+1,3,none⟩ (.int .i64 0))=w9 at hB2 hb2 ⊢;obtain ⟨r0,-⟩:=hB2.rules;refine bodyPost_ret (v:=.tuple #[.agg #[.int .i64 0,.int .i64 0,.int .i64 0,.int .i64 0],.bool false]) (by simp [results,Tryz.results115,go_sem,r0]) rfl ⟨rfl,hb2⟩
theorem owner0_any (As:Option Addr) (ns cs:Nat) (ttl zs z:Int) (w:World) (hz:0≤z∧z<zs):Calls Tryz.prog 51 #[.agg (co0 (.slice As ns cs) ttl zs),.int .i64 z] w fun x w'=>x=.returned (.tuple #[.int .i64 (-1),.int .i64 0])∧Below w.heap.size w w':=by
 have hwho:∀ w,Calls Tryz.prog 92 #[.agg (co0 (.slice As ns cs) ttl zs),.int .i64 z] w fun x w'=>x=.returned (.tuple #[.int .i64 (-1),.int .i64 0])∧Below w.heap.size w w':=fun w=>by
  have E:=(Kn.start w).push 44 (co0 (.slice As ns cs) ttl zs);have hb0:=E.below;obtain ⟨q0,f0,t0⟩:=E.rules m0;go_enter Tryz.func92,Tryz.ntmps92
  go_wp2_with fail;refine (holder0_any _ _).mono ?_;rintro x w2 ⟨rfl,hb⟩;have hb1:=hb0.trans (hb.mono hb0.size);have hb2:=fun X=>hb1.alloc hb1.size X
  go_wp2_with fail;go_ret2;exact ⟨rfl,hb2 _⟩
 have E:=(Kn.start w).push 44 (co0 (.slice As ns cs) ttl zs);have hb0:=E.below;obtain ⟨q0,f0,t0⟩:=E.rules m0;have z1:¬z<0:=by omega
 have z2:¬z≥zs:=by omega
 go_enter Tryz.func51,Tryz.ntmps51
 go_wp2_with fail;refine (hwho _).mono ?_;rintro x w2 ⟨rfl,hb⟩;go_wp2_with fail;go_ret2;exact ⟨rfl,hb0.trans (hb.mono hb0.size)⟩
theorem cnew0_any (w:World):Calls Tryz.prog 9 #[.int .i64 2,.int .i64 64,.int .i64 10] w fun x w'=>∃ As ns cs,x=.returned (.tuple #[.agg (co0 (.slice As ns cs) 10 2),.int .i64 0])∧Below w.heap.size w w':=by
 have hsp:∀ w,Calls Tryz.prog 17 #[.int .i64 64] w fun x w'=>∃ As ns cs,x=.returned (.tuple #[.slice As ns cs,.int .i64 0])∧Below w.heap.size w w':=fun w=>by
  go_enter Tryz.func17,Tryz.ntmps17
  go_wp2_with fail;go_ret2;exact ⟨_,_,_,rfl,(Below.refl _ _).alloc (Nat.le_refl _) _⟩
 have E:=(Kn.start w).push 44 #[.int .i64 0,.int .i64 0,.slice none 0 0,.slice none 0 0,.slice none 0 0,.int .i64 0,.int .i64 0];go_enter Tryz.func9,Tryz.ntmps9
 go_wp2_with fail;refine (hsp _).mono ?_;rintro x w2 ⟨As,ns,cs,rfl,hb⟩;replace E:=E.step hb;obtain ⟨q0,f0,t0⟩:=E.rules m0;have hB:=E.at_ m0;have hb1:=E.below;clear hb E;go_wp2_with fail;have hB2:=(((((((hB.set_ 0 (.int .i64 0)).set_ 1 (.int .i64 0)).set_ 2 (.slice none 0 0)).set_ 3 (.slice As ns cs)).set_ 4 (.slice none 0 0)).set_ 5 (.int .i64 10)).set_ 6 (.int .i64 2));have hb2:Below w.heap.size w (((((((w2.setCell ⟨w.heap.size,0,none⟩ (.int .i64 0)).setCell ⟨w.heap.size,1,none⟩ (.int .i64 0)).setCell ⟨w.heap.size,2,none⟩ (.slice none 0 0)).setCell ⟨w.heap.size,3,none⟩ (.slice As ns cs)).setCell ⟨w.heap.size,4,none⟩ (.slice none 0 0)).setCell ⟨w.heap.size,5,none⟩ (.int .i64 10)).setCell ⟨w.heap.size,6,none⟩ (.int .i64 2)):=(((((((hb1.setCell (p:=⟨w.heap.size,0,none⟩) (Nat.le_refl _) (.int .i64 0)).setCell (p:=⟨w.heap.size,1,none⟩) (Nat.le_refl _) (.int .i64 0)).setCell (p:=⟨w.heap.size,2,none⟩) (Nat.le_refl _) (.slice none 0 0)).setCell (p:=⟨w.heap.size,3,none⟩) (Nat.le_refl _) (.slice As ns cs)).setCell (p:=⟨w.heap.size,4,none⟩) (Nat.le_refl _) (.slice none 0 0)).setCell (p:=⟨w.heap.size,5,none⟩) (Nat.le_refl _) (.int .i64 10)).setCell (p:=⟨w.heap.size,6,none⟩) (Nat.le_refl _) (.int .i64 2));generalize (((((((w2.setCell ⟨w.heap.size,0,none⟩ (.int .i64 0)).setCell ⟨w.heap.size,1,none⟩ (.int .i64 0)).setCell ⟨w.heap.size,2,none⟩ (.slice none 0 0)).setCell ⟨w.heap.size,3,none⟩ (.slice As ns cs)).setCell ⟨w.heap.size,4,none⟩ (.slice none 0 0)).setCell ⟨w.heap.size,5,none⟩ (.int .i64 10)).setCell ⟨w.heap.size,6,none⟩ (.int .i64 2))=w9 at hB2 hb2 ⊢;obtain ⟨r0,-⟩:=hB2.rules;exact bodyPost_ret (v:=.tuple #[.agg (co0 (.slice As ns cs) 10 2),.int .i64 0]) (by simp [results,Tryz.results9,go_sem,r0]) rfl ⟨As,ns,cs,rfl,hb2⟩
theorem Tryz.infT4:(Tryz.prog.info? 28).map (fun i=>(i.zero,i.size,i.bytes))=some (some (.agg #[.int .i64 0,.int .i64 0,.int .i64 0,.int .i64 0]),4,32):=by kernel_rfl
abbrev auC (d:Zd) (A:Option Addr) (c:Nat) (S:Value) (ttl zs:Int) (vm vo:Value):Array Value:=#[.int .i64 d.cap,.int .i64 d.opn,.int .i64 d.act,.slice A d.z.length c,.int .i64 0,.int .i64 0,.slice none 0 0,S,.slice none 0 0,.int .i64 ttl,.int .i64 zs,.slice none 0 0,vm,vo]
abbrev ftV (f:Ft):List Value:=[.int .i64 f.kind,.int .i64 f.zone,.int .i64 f.host,.int .i64 f.lba]
theorem tell0_any (g:Nat) (d:Zd) (A:Option Addr) (c:Nat) (S:Value) (ttl zs:Int) (vm:Value) (f:Ft) (w:World) (hB:Blk w g 70 (auC d A c S ttl zs vm (.slice none 0 0))) :
 Calls Tryz.prog 50 #[.pointer (some ⟨g,0,none⟩),.agg #[.int .i64 f.kind,.int .i64 f.zone,.int .i64 f.host,.int .i64 f.lba]] w fun x w'=>x=.returned (.tuple #[])∧∃ A' c',Blk w' g 70 (auC d A c S ttl zs vm (.slice A' 1 c'))∧IsL Rp.ft w' (fun b=>w.heap.size≤b) (.slice A' 1 c') [f]∧Turned w w' (fun b=>b=g):=by
 obtain ⟨i0,hi,hz0,hz1,hz2⟩:=info_parts Tryz.infT4;have E:=((Kn.start w).know hB).push 28 #[.int .i64 f.kind,.int .i64 f.zone,.int .i64 f.host,.int .i64 f.lba];have hgw:=hB.lt;go_enter Tryz.func50,Tryz.ntmps50
 go_upto_region 1 with fail;generalize w.alloc (.cells #[.int .i64 f.kind,.int .i64 f.zone,.int .i64 f.host,.int .i64 f.lba] 28)=w1 at E ⊢;have hb0:Below w1.heap.size w1 w1.drew:=(Below.refl _ _).drew;have HK:Hid (∀ W,Below w1.heap.size w1 W→W.cell? ⟨g,13,none⟩=some (.slice none 0 0)∧∀ o,W.cell? ⟨w.heap.size,o,none⟩=(#[.int .i64 f.kind,.int .i64 f.zone,.int .i64 f.host,.int .i64 f.lba]:Array Value)[o]?):=Lib.hid fun W hb=>⟨((E.step hb).at_ m1).cell 13,((E.step hb).rules m0).1⟩
 refine wp_region_D (S:=fun (L:Array Bool) (W:World)=>L.getD 10 false=true∨(W.cell? ⟨g,13,none⟩=some (.slice none 0 0)∧∀ o,W.cell? ⟨w.heap.size,o,none⟩=(#[.int .i64 f.kind,.int .i64 f.zone,.int .i64 f.host,.int .i64 f.lba]:Array Value)[o]?)) (by kernel_rfl) (.inr (HK.out _ hb0)) (fun hDn hSn=>?_)
 have hsw:=E.below.size;refine wD 0 4 (fun hDn hSn=>?_)
 refine wD 1 5 (fun hDn hSn=>?_)
 refine wD 2 6 (fun hDn hSn=>?_)
 refine wD 3 7 (fun hDn hSn=>?_)
 refine wpAnyD_take (i:=4) (oi:=⟨some 8,_,_,_,_,_⟩) (v:=?_) (Si:=fun W=>W.cell? ⟨g,13,none⟩=some (.slice none 0 0)∧∀ o,W.cell? ⟨w.heap.size,o,none⟩=(#[.int .i64 f.kind,.int .i64 f.zone,.int .i64 f.host,.int .i64 f.lba]:Array Value)[o]?) rfl (by kernel_rfl) (by kernel_rfl) (by kernel_rfl) (fun _ _ _ h=>h) (fun L W hD hu hS=>hS.resolve_left (fun h=>by have h:=hD.2 10 _ rfl h ⟨4,.phase⟩ (by simp) rfl;rw [hu] at h;cases h)) (fun L W=>by simp only [getD_set_ne false (show (4:Nat)≠10 by omega)]) (Or.inl ⟨by rfl,?hy⟩) (by assumption) (by assumption) (fun hDn hSn=>?_)
 case hy=>intro w hSw;(try dsimp only at hSw);go_simp;with_reducible rfl
 try simp only [pu,List.set]
 refine wpAnyD_take (i:=5) (oi:=⟨some 9,_,_,_,_,_⟩) (v:=?_) (Si:=fun W=>W.cell? ⟨g,13,none⟩=some (.slice none 0 0)∧∀ o,W.cell? ⟨w.heap.size,o,none⟩=(#[.int .i64 f.kind,.int .i64 f.zone,.int .i64 f.host,.int .i64 f.lba]:Array Value)[o]?) rfl (by kernel_rfl) (by kernel_rfl) (by kernel_rfl) (fun _ _ _ h=>h) (fun L W hD hu hS=>hS.resolve_left (fun h=>by have h:=hD.2 10 _ rfl h ⟨5,.phase⟩ (by simp) rfl;rw [hu] at h;cases h)) (fun L W=>by simp only [getD_set_ne false (show (5:Nat)≠10 by omega)]) (Or.inl ⟨by rfl,?hy⟩) (by assumption) (by assumption) (fun hDn hSn=>?_)
 case hy=>intro w hSw;(try dsimp only at hSw);go_simp;with_reducible rfl
 try simp only [pu,List.set]
 refine wpAnyD_one (i:=6) (o:=⟨some 10,_,_,_,_,_⟩) (by kernel_rfl) rfl (by assumption) (fun K hK=>?_)
 go_simp;have hb1:=hb0.alloc hb0.size (.cells #[.int .i64 f.kind,.int .i64 f.zone,.int .i64 f.host,.int .i64 f.lba] 28);refine hK.out _ _ (.inr (HK.out _ hb1)) (fun hDn hSn=>?_)
 clear hK K;try simp only [pu,List.set]
 refine wpAnyD_one (i:=7) (o:=⟨some 11,_,_,_,_,_⟩) (by kernel_rfl) rfl (by assumption) (fun K hK=>?_)
 refine step_appN (by rfl) (.tmp 8) (.tmp 10) _ (by rfl) w.heap.size 28 i0 _ 4 32 Tryz.underlying22 hi hz0 hz1 hz2 rfl (by omega) (by rfl) (World.ownsRow_nil _ _ _ _) (by rfl) (Reads.new (xs:=ftV f) (n:=1) rfl rfl rfl).drew (by intro u hu;simp [ftV] at hu;rcases hu with rfl | rfl | rfl | rfl <;> rfl) (by simp only [maxLen];omega) (by omega) (by simp;omega) ?_
 intro A' c' w3 own3 hg3;have hb2:Below w1.heap.size w1 (w1.alloc (.cells #[.int .i64 f.kind,.int .i64 f.zone,.int .i64 f.host,.int .i64 f.lba] 28)).drew:=((Below.refl _ _).alloc (Nat.le_refl _) _).drew;simp only [Nat.zero_add] at own3 hg3 ⊢;have hb3:=hb2.trans (hg3.turned.below (fun k hk=>by have hk':some k=none:=hk;cases hk') hb2.size)
 refine hK.out _ _ (.inr (HK.out _ hb3)) (fun hDn hSn=>?_)
 clear hK K;refine wD 8 12 (fun hDn hSn=>?_)
 refine wD 9 13 (fun hDn hSn=>?_)
 refine wpAnyD_one (i:=10) (o:=⟨none,_,_,_,_,_⟩) (by kernel_rfl) rfl (by assumption) (fun K hK=>?_)
 have F:=E.step hb3;obtain ⟨q0,f0,t0⟩:=F.rules m1;go_simp;refine at_set (K:=K _) (F.at_ m1) 13 _ ?_;intro w5 hs5 ht5 hB5;refine hK.out _ _ (.inl (by kernel_rfl)) (fun hDn hSn=>?_)
 clear hK K;try simp only [pu,List.set]
 refine wpAnyD_done (by kernel_rfl) ?_ _
 go_end0;have hIF:IsL Rp.ft w3 (fun b=>w.heap.size≤b) (.slice A' 1 c') [f]:=own_ftL (l:=[f]) own3 rfl (by omega)
 have hb5:=hb3;refine ⟨rfl,A',c',hB5,hIF.turned ht5 (fun b hb e=>by omega),?_⟩
 exact (Turned.of (E.step hb3).below).trans ht5
end Go.Proofs.YtfhpolidjmbjoaaGreat
