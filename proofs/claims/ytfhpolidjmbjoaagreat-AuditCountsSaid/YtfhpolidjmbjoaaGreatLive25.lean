/- A part of the proof. -/
import Derived.Test.YtfhpolidjmbjoaaGreatLook3
import Derived.Test.YtfhpolidjmbjoaaGreatKinds
import Derived.Test.YtfhpolidjmbjoaaGreatFill16
set_option linter.unusedSimpArgs false
set_option maxHeartbeats 8000000
set_option maxRecDepth 100000
namespace Go.Proofs.YtfhpolidjmbjoaaGreat
open Go.RowKit
def a0D:Zd:=⟨100,2,2,[z0,z0]⟩
def a1D:Zd:=⟨100,2,2,[z0,⟨1,0,[1]⟩]⟩
theorem a_new:newD 2 100 2 2=(a0D,0):=rfl
theorem a_do:doZ a0D ⟨1,1,0,0,0,[1]⟩=(a1D,⟨0,0,[]⟩):=by kernel_rfl
theorem a_f0:foundL a0D.z=[f0d,f0d]:=by kernel_rfl
theorem a_f1:foundL a1D.z=[f0d,f0d]:=by kernel_rfl
theorem a_t0:tornT a0D.z 2=[]:=by kernel_rfl
theorem a_t1:tornT a1D.z 2=[1]:=by kernel_rfl
theorem a_ok0:okD a0D:=by decide +kernel
theorem a_ok1:okD a1D:=by decide +kernel
theorem a_at {l:List Fd} (h:l=[f0d,f0d]):∀ f∈l,f.at_.length=f.l.length∧f.l.length≤1000000000:=by
 rw [h];intro f hf;simp only [List.mem_cons,List.not_mem_nil,or_false] at hf;rcases hf with rfl | rfl <;> exact ⟨rfl,by decide⟩
theorem a_e:entsU [f0d,f0d] [] 2=[]:=by kernel_rfl
theorem a_good {l:List Fd} (h:l=[f0d,f0d]):∀ x∈entsU l [] 2,GoodX 10000 x:=by
 rw [h,a_e];simp
theorem live25_any (w:World):Calls Tryz.prog 4 #[] w fun e w'=>e=.returned (.bool true)∧Below w.heap.size w w':=by
 have hnw:=fun W=>znewK_any 2 100 2 2 W
 rw [a_new] at hnw;have hl0:=fun A c As ns cs K W h=>look0_any a0D A c As ns cs 10 K [] W h a_ok0 rfl a_t0 (by simp) (by simp) (a_good a_f0) (a_at a_f0)
 have hl1:=fun A c As ns cs K W h=>look0_any a1D A c As ns cs 10 K [1] W h a_ok1 rfl a_t1 (by simp) (by simp) (a_good a_f1) (a_at a_f1)
 have hdo:=fun A k Ac kc K W h1 h2 h3=>do_any a0D ⟨1,1,0,0,0,[1]⟩ A k Ac kc K W h1 h2 h3 (by decide) (by decide)
 rw [a_do] at hdo;go_enter Tryz.func4,Tryz.ntmps4
 go_wp2_with fail;refine (hnw _).mono ?_;rintro e w2 ⟨v,rfl,⟨A,c,rfl,hz⟩,hb2⟩;have E:=(Kn.from_ hb2 hb2.size).give Stable.list hz.zlt |>.push 34 #[.int .i64 100,.int .i64 2,.int .i64 2,.slice A 2 c]
 have hle2:=hb2.size;clear hnw hz hb2;have hco:=fun W=>cnew0_any W
 go_wp2_with fail;refine (hco _).mono ?_;rintro e w3 ⟨As,ns,cs,rfl,hb3⟩;replace E:=(E.step hb3).push 44 (co0 (.slice As ns cs) 10 2);have hs3:=hb3.size;rw [World.size_alloc] at hs3;clear hco hb3;obtain ⟨q0,f0,t0⟩:=E.rules m0;obtain ⟨q1,f1,t1⟩:=E.rules m1;go_wp2_with fail;refine (hl0 A c As ns cs _ _ (E.get m0)).mono ?_;rintro e w4 ⟨vo,rfl,hT,hb4⟩;obtain rfl:vo=.slice none 0 0:=by
  rcases hT with h | ⟨t,_,_,h1,_⟩
  · exact h.1
  · cases h1
 have hw3:Below w3.heap.size w3 (w3.alloc (.cells (co0 (.slice As ns cs) 10 2) 44)):=(Below.refl _ _).alloc (Nat.le_refl _) _;replace E:=E.step hb4;have hs4:=hb4.size;rw [World.size_alloc] at hs4;clear hl0 hT hb4 hw3 q0 f0 t0 q1 f1 t1;obtain ⟨q1,f1,t1⟩:=E.rules m1;go_wp2_with fail;have hT1:IsB (w4.alloc (.cells #[.int .u8 1] 5)) (fun b=>b=w4.heap.size) (.slice (some ⟨w4.heap.size,0,none⟩) 1 1) [1]:=IsB.new (l:=[1]) (n:=1) (g:=w4.heap.size) rfl rfl rfl (by decide)
 have E4:=E.alloc (.cells #[.int .u8 1] 5);have hsz:(w4.alloc (.cells #[.int .u8 1] 5)).heap.size=w4.heap.size+1:=World.size_alloc _ _;generalize w4.alloc (.cells #[.int .u8 1] 5)=w5 at E4 hT1 hsz ⊢;refine (hdo A c (some ⟨w4.heap.size,0,none⟩) 1 (fun b=>b<w5.heap.size∧b≠w2.heap.size) w5 ((E4.get m0).more fun b hb=>⟨by have:=hb.2;omega,by have:=hb.2;omega⟩) (fun b hb=>hb.1) (hT1.more fun b hb=>⟨by omega,by omega⟩)).mono ?_
 rintro e w6 ⟨v1,v2,rfl,⟨A6,c6,rfl,hz6,_⟩,⟨A7,k7,rfl,_⟩,hb6⟩;have hz7:=hz6.more (K':=fun b=>b≠w2.heap.size) (fun b hb=>by rcases hb with hb | hb;exact hb.2;omega)
 replace E:=(E4.step hb6).give Stable.list hz7;have hs6:=hb6.size;clear hdo hz6 hz7 hb6 hT1 E4 q1 f1 t1;obtain ⟨q1,f1,t1⟩:=E.rules m1;go_upto_region 5 with fail;refine at_st4s (K:=fun W=>Code.wp _ _ _ _ (W.alloc _)) (E.at_ m1) _ _ _ _ ?_
 intro w7 hs7 ht7 hB7;have hz7:=(E.get m0).turned ht7 (fun b hb e=>hb e)
 have hC7:=(E.at_ m0).turned ht7 (by omega)
 have hb7:=Turned.upon E.below ht7 (by omega) (Nat.le_refl _)
 have F:=(((Kn.from_ hb7 hb7.size).know hB7).know hC7).give Stable.list hz7 |>.push 51 #[.int .i64 0,.int .i64 0,.slice A7 0 k7]
 rw [hs7] at F;clear hz7 hC7 hB7 hb7 ht7 E q1 f1 t1 hs7;obtain ⟨q1,f1,t1⟩:=F.rules m1;obtain ⟨q2,f2,t2⟩:=F.rules m2;go_wp2_with fail;refine (hl1 A6 c6 As ns cs _ _ (F.get m0)).mono ?_;rintro e w8 ⟨vo,rfl,hT,hb8⟩;obtain ⟨A9,c9,rfl,hm⟩:∃ A9 c9,vo=.slice A9 1 c9∧IsL Rp.ft w8 (fun _=>True) (.slice A9 1 c9) [⟨1,1,0,0⟩]:=by
  rcases hT with h | ⟨t,A9,c9,h1,_,h3,h4⟩
  · exact absurd (h.2 1 (by simp)) (by decide)
  · injection h1 with h1
    subst h1;exact ⟨A9,c9,h3,h4.more fun _ _=>trivial⟩
 replace F:=F.step hb8;have hb9:=F.below;obtain ⟨ad,rfl,-,c0,c1,c2,c3⟩:=ft_at hm (show ([⟨1,1,0,0⟩]:List Ft)[0]?=some ⟨1,1,0,0⟩ from rfl);have h0:ad.add (0*4)=ad:=by simp [Addr.add]
 rw [h0] at c0 c1 c2 c3;have hki:=kinds_any (some ad) c9 [⟨1,1,0,0⟩] _ w8 hm (by decide)
 clear hl1 hT hb8 q1 f1 t1 q2 f2 t2 h0 hm;obtain ⟨q0,f0,t0⟩:=F.rules m0;go_wp2_with fail;refine hki.mono ?_;rintro e w9 ⟨rfl,hb10⟩;have hix:=run_ix7 (cntT [⟨1,1,0,0⟩]) (show 1<7 by decide) w9
 have h11:cntT [⟨1,1,0,0⟩] 1=1:=by kernel_rfl
 rw [h11] at hix;have hbF:=hb9.trans (hb10.mono hb9.size);unfold c7;rw [h11];clear hki c0 c1 c2 c3 q0 f0 h11;generalize cntT [⟨1,1,0,0⟩]=fc at hix ⊢;simp only [show ((1:Nat):Int)=1 from rfl] at hix ⊢;go_wp2_with fail;go_ret;exact ⟨rfl,hbF⟩
end Go.Proofs.YtfhpolidjmbjoaaGreat
