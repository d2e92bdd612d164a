/- A part of the proof. -/
import Derived.Test.YtcapmeefiglfjaaGreatRgn
import Derived.Deep.DrawnRows
import Derived.Deep.DeepCutAuto
set_option linter.unusedSimpArgs false
set_option maxHeartbeats 4000000
set_option maxRecDepth 100000
namespace Go.Proofs.YtcapmeefiglfjaaGreat
open Go.RowKit
theorem zfd (A:Option Addr) (c:Nat) (w:World):Calls Tryz.prog 235 #[.slice A 0 c] w fun e w'=>e=.returned (.tuple #[.int .u64 0,.int .i64 0,.int .i64 20])∧w'=w:=by
 go_enter Tryz.func235,Tryz.ntmps235
 go_upto_region 1 with fail;go_loopw [2,3,4,5] (fun x2 x3 x4 x5 wr=>wr=w∧x2=.int .u64 0∧x3=.int .i64 0∧x4=.int .i64 0∧∃ y,x5=y) (fun _ _ _ _ _=>1)
 case atStart=>exact ⟨rfl,rfl,rfl,rfl,_,rfl⟩
 case round=>
  obtain ⟨rfl,rfl,rfl,rfl,y,rfl⟩:=hrel;go_wp2;go_ret3
  exact ⟨rfl,rfl⟩
section
variable {w:World} {g:Nat} {A:Option Addr} {c:Nat}
theorem zfL (hB:Blk w g 290 #[.slice A 0 c,.int .i64 0,.int .i64 0]):Calls Tryz.prog 227 #[.pointer (some ⟨g,0,none⟩)] w fun e w'=>e=.returned (.int .i64 0)∧Blk w' g 290 #[.slice A 0 c,.int .i64 0,.int .i64 20]∧aA w w' (· = g):=by
 obtain ⟨q0,f0⟩:=hB.rules;have t0:=hB.lt;have w0:(0:Int)≤(c:Int):=by omega
 go_enter Tryz.func227,Tryz.ntmps227
 go_upto_region 3 with fail;have hb0:Below w.heap.size w w.drew:=(zif _ _).drew;have hB1:=hB.step hb0;refine wp_region_held_drew (S:=fun W=>∀ o,W.cell? ⟨g,o,none⟩=(#[.slice A 0 c,.int .i64 0,.int .i64 0]:Array Value)[o]?) (by kernel_rfl) hB1.rules.1 (fun hHeld=>?_)
 clear q0 f0 t0;refine wT 0 12 ?_;refine wT 1 13 ?_;refine wT 2 14 ?_;refine wT 3 15 ?_;refine wT 4 16 ?_;refine wT 5 17 ?_;refine wT 6 18 ?_;refine wT 7 19 ?_;refine wT 8 20 ?_;refine wR 9 21 (fun K hK=>?_)
 go_simp;refine (zfd _ _ _).mono ?_;rintro e w2 ⟨rfl,rfl⟩;go_wp2_with fail;refine hK.out _ _ hB1.rules.1 (fun hHeld=>?_)
 clear hK K;refine wT 10 11 ?_;refine wT 11 22 ?_;refine wT 12 23 ?_;refine wT 13 24 ?_;refine wT 14 3 ?_;refine wT 15 4 ?_;refine wT 16 5 ?_;refine wpAnyH_done (by kernel_rfl) ?_ _
 obtain ⟨q0,f0⟩:=hB1.rules;have t0:=hB1.lt;go_wp2;go_ret;exact ⟨rfl,(hB.set_ 2 _).drew,((aA.refl w (· = g)).set rfl 2 _).drew⟩
theorem zfb (hB:Blk w g 290 #[.slice A 0 c,.int .i64 0,.int .i64 0]) (m:Int):Calls Tryz.prog 248 #[.pointer (some ⟨g,0,none⟩),.int .i64 m] w fun e w'=>e=.returned (.int .i64 0)∧Blk w' g 290 #[.slice A 0 c,.int .i64 0,.int .i64 20]∧aA w w' (· = g):=by
 have hn:=zfL hB;go_enter Tryz.func248,Tryz.ntmps248
 go_wp2_with fail;refine hn.mono ?_;rintro e w2 ⟨rfl,hB2,ht2⟩;obtain ⟨q0,f0⟩:=hB2.rules;have t0:=hB2.lt;clear hn;go_wp2;go_ret;exact ⟨rfl,hB2,ht2⟩
theorem zgW (hB:Blk w g 290 #[.slice A 0 c,.int .i64 0,.int .i64 0]):Calls Tryz.prog 242 #[.pointer (some ⟨g,0,none⟩)] w fun e w'=>e=.returned (.slice none 0 0)∧Blk w' g 290 #[.slice A 0 c,.int .i64 0,.int .i64 20]∧aA w w' (· = g):=by
 have hn:=fun m=>zfb hB m
 go_enter Tryz.func242,Tryz.ntmps242
 go_wp2_with fail;refine (hn _).mono ?_;rintro e w2 ⟨rfl,hB2,ht2⟩;clear hn;go_upto_region 2 with fail;have hb0:Below w2.heap.size w2 w2.drew:=(zif _ _).drew;have hB3:=hB2.step hb0;have ht3:=ht2.trans (aA.of hb0);refine wp_region_held_drew (S:=fun W=>∀ o,W.cell? ⟨g,o,none⟩=(#[.slice A 0 c,.int .i64 0,.int .i64 20]:Array Value)[o]?) (by kernel_rfl) hB3.rules.1 (fun hHeld=>?_)
 generalize w2.drew=w3 at hB3 ht3 hHeld ⊢;refine wT 0 6 ?_;refine wT 1 7 ?_;refine wT 2 8 ?_;refine wT 3 9 ?_;refine wT 4 10 ?_;refine wT 5 11 ?_;refine wU 6 12 ?_;refine wU 7 13 ?_;refine wU 8 14 ?_;refine wU 9 15 ?_;refine wU 10 16 ?_;refine wU 11 17 ?_;refine wU 12 18 ?_;refine wU 13 19 ?_;refine wU 14 20 ?_;refine wU 15 21 ?_;refine wU 16 22 ?_;refine wU 17 23 ?_;refine wT 18 24 ?_;refine wpAnyH_done (by kernel_rfl) ?_ _
 obtain ⟨q0,f0⟩:=hB3.rules;have t0:=hB3.lt;go_wp2;go_ret;exact ⟨rfl,hB3,ht3⟩
theorem yS (A:Option Addr) (c:Nat) (w:World):Calls Tryz.prog 237 #[.slice A 0 c] w fun e w'=>e=.returned (.tuple #[.slice none 0 0,.int .i64 0,.int .i64 20])∧Below w.heap.size w w':=by
 have hB:=Blk.new w 290 #[.slice A 0 c,.int .i64 0,.int .i64 0] rfl;have hb:=(zif w.heap.size w).alloc (zic _) (.cells #[.slice A 0 c,.int .i64 0,.int .i64 0] 290);have hn:=zgW hB;go_enter Tryz.func237,Tryz.ntmps237
 go_wp2_with fail;refine hn.mono ?_;rintro e w2 ⟨rfl,hB2,ht2⟩;have hb2:=aA.upon hb ht2 (zic _) (zic _);clear hn hB;obtain ⟨q0,f0⟩:=hB2.rules;have t0:=hB2.lt;go_upto_region 4 with fail;have hb0:Below w2.heap.size w2 w2.drew:=(zif _ _).drew;have hB3:=hB2.step hb0;have hb3:=hb2.trans (hb0.mono hb2.size);refine wp_region_held_drew (S:=fun W=>∀ o,W.cell? ⟨w.heap.size,o,none⟩=(#[.slice A 0 c,.int .i64 0,.int .i64 20]:Array Value)[o]?) (by kernel_rfl) hB3.rules.1 (fun hHeld=>?_)
 clear q0 f0 t0;generalize w2.drew=w3 at hB3 hb3 hHeld ⊢;refine wT 0 17 ?_;refine wT 1 18 ?_;refine wT 2 19 ?_;refine wT 3 20 ?_;refine wT 4 2 ?_;refine wT 5 3 ?_;refine wT 6 4 ?_;refine wpAnyH_done (by kernel_rfl) ?_ _
 go_wp2;go_ret3
 exact ⟨rfl,hb3⟩
theorem zd8 (v:Value) (hv:∃ p,v=.agg #[.pointer p]) (A:Option Addr) (c:Nat) (w:World):Calls Tryz.prog 229 #[v,.slice A 0 c] w fun e w'=>e=.returned (.tuple #[.slice none 0 0,.int .i64 0,.bool false])∧Below w.heap.size w w':=by
 obtain ⟨p,rfl⟩:=hv;have hb:=(zif w.heap.size w).alloc (zic _) (.cells #[.pointer p] 235);have hn:=fun w'=>yS A c w'
 go_enter Tryz.func229,Tryz.ntmps229
 go_wp2_with fail;refine (hn _).mono ?_;rintro e w2 ⟨rfl,hb2⟩;clear hn;go_wp2;go_ret3
 exact ⟨rfl,hb.trans (hb2.mono (by simp))⟩
end
