/- A part of the proof. -/
import Derived.Test.YtcapmeefiglfjaaGreatCrc
import Derived.Deep.RegionHeld3
import Derived.Deep.DeepCutAuto
import Derived.Deep.CutBlock
set_option maxHeartbeats 2000000
set_option maxRecDepth 100000
namespace Go.Proofs.YtcapmeefiglfjaaGreat
open Go.RowKit
theorem zbx (st most:Int) (h1:1≤most) (h2:most≤9223372036854775807) (w:World) :
 Calls Tryz.prog 164 #[.int .i64 st,.int .i64 most] w fun e w'=>e=.returned (.tuple #[.int .i64 (zfq st most).1,.int .i64 (zfq st most).2])∧w=w':=by
 unfold zfq;by_cases h0:st=0
 · subst h0
   go_enter Tryz.func164,Tryz.ntmps164
   go_wp2;go_ret2;exact ⟨rfl,rfl⟩
 rw [zig h0];have hb0:(st == 0)=false:=ziN.2 h0;by_cases h3:st=1∨st=3
 · rw [zij h3]
   rcases h3 with rfl | rfl
   all_goals
    go_enter Tryz.func164,Tryz.ntmps164
    go_wp2;go_ret2;exact ⟨rfl,rfl⟩
 rw [zig h3];by_cases h4:st=2
 · subst h4
   go_enter Tryz.func164,Tryz.ntmps164
   go_wp2;go_ret2;exact ⟨rfl,rfl⟩
 rw [zig h4];by_cases h5:st=4
 · subst h5
   go_enter Tryz.func164,Tryz.ntmps164
   go_wp2;go_ret2;exact ⟨rfl,rfl⟩
 rw [zig h5];have hb1:(st == 1)=false:=ziN.2 (by omega)
 have hb3:(st == 3)=false:=ziN.2 (by omega)
 have hb2:(st == 2)=false:=ziN.2 h4;have hb4:(st == 4)=false:=ziN.2 h5;clear h0 h3 h4 h5;go_enter Tryz.func164,Tryz.ntmps164
 go_wp2;go_ret2;exact ⟨rfl,rfl⟩
theorem gE (v:Value) (z:Zn) (most:Int) (K:Nat→Prop) (w:World) (hz:IsZ w K v z) :
 Calls Tryz.prog 100 #[v,.int .i64 most] w fun e w'=>e=.returned (.int .i64 (zfk z most))∧Below w.heap.size w w':=by
 obtain ⟨A,c,rfl,hsb⟩:=hz;have hl:=hsb.len;clear hsb;have hok:=zgl z most;unfold zv;by_cases hm:1≤most∧most≤65536
 · obtain ⟨hm1,hm2⟩:=hm
   generalize hb1:(zfq z.st most).1=b1 at *;generalize hb2:(zfq z.st most).2=b2 at *;have HOK:=zia hok;clear hok;have HB1:=zia hb1;clear hb1;have HB2:=zia hb2;clear hb2;go_enter Tryz.func100,Tryz.ntmps100
   go_wp2_with (go_at_call 164;refine (zbx _ _ hm1 (by omega) _).mono ?_;rintro e w' ⟨rfl,rfl⟩;rw [HB1.out,HB2.out])
   all_goals
    go_ret;refine ⟨zjj (fun x=>Ending.returned (.int .i64 x)) ?_,zBA⟩
    have h:=HOK.out;unfold zfk;first
     | (rw [zij (h.2 (by omega))];done)
     | (rw [zig (fun hh=>by have:=h.1 hh;omega)];done)
 · have hnk:¬okZ z most:=fun h=>hm ⟨h.1,h.2.1⟩
   have hck:zfk z most=1:=zig hnk;rw [hck];clear hok hnk hck;go_enter Tryz.func100,Tryz.ntmps100
   by_cases hm1:most<1
   · clear hm
     go_wp2;all_goals
      go_ret;exact ⟨rfl,zBA⟩
   · have hm2:65536<most:=by omega
     clear hm;go_wp2;all_goals
      go_ret;exact ⟨rfl,zBA⟩
theorem iN (v sv:Value) (z:Zn) (most:Int) (l:List UInt8) (K K':Nat→Prop) (w:World) (hz:IsZ w K v z) (hs:IsB w K' sv l) :
 Calls Tryz.prog 171 #[v,.int .i64 most,sv] w fun e w'=>e=.returned (.int .i64 (dO z most l))∧Below w.heap.size w w':=by
 have hz0:=hz;obtain ⟨A,c,rfl,hsb⟩:=hz;have hl1:=hsb.len;have hl2:=hs.len;obtain ⟨A2,c2,rfl,_⟩:=hs;clear hsb;have hck:∀ n:Int,zfk z most=n→Calls Tryz.prog 100 #[.agg #[.int .i64 z.st,.int .i64 z.fe,.slice A z.d.length c],.int .i64 most] (w.alloc (.cells #[.int .i64 z.st,.int .i64 z.fe,.slice A z.d.length c] 134)) fun e w'=>e=.returned (.int .i64 n)∧Below (w.alloc (.cells #[.int .i64 z.st,.int .i64 z.fe,.slice A z.d.length c] 134)).heap.size (w.alloc (.cells #[.int .i64 z.st,.int .i64 z.fe,.slice A z.d.length c] 134)) w':=by
  intro n hn;subst hn;exact gE _ z most K _ (hz0.alloc _)
 have hfin:∀ w1,Below (w.alloc (.cells #[.int .i64 z.st,.int .i64 z.fe,.slice A z.d.length c] 134)).heap.size (w.alloc (.cells #[.int .i64 z.st,.int .i64 z.fe,.slice A z.d.length c] 134)) w1→Below w.heap.size w w1:=fun w1 h=>
  (zBA).trans (h.mono (by simp))
 have HCK:=zia hck;clear hck;have HFIN:=zia hfin;clear hfin;unfold zv;by_cases hok:okZ z most
 · have h0:zfk z most=0:=zij hok
   have HC:=HCK.out 0 h0;have H0:=zia h0;clear h0;have hm:=hok.2.1;have hm1:=hok.1;have HOK:=zia hok;clear hok;have HH:=zia HC;clear HC;by_cases hl:l.length=0
   · have hr:dO z most l=1:=zij (.inr hl)
     rw [hr];have hlb:((l.length:Int) == 0)=true:=by simp;exact zis hl
     clear hl hr;go_enter Tryz.func171,Tryz.ntmps171
     go_wp2_with (go_at_call 100;refine (HH.out).mono ?_;rintro e w1 ⟨rfl,hb1⟩;obtain ⟨hc1,hf1⟩:=vX hb1);go_ret;exact ⟨rfl,HFIN.out _ hb1⟩
   · have hlb:((l.length:Int) == 0)=false:=by simp;intro h;exact hl (by rw [h];rfl)
     by_cases hst:z.st=4
     · have hr:dO z most l=41:=by unfold dO;rw [zig (by rintro (h | h);exact h HOK.out;exact hl h),zij hst]
       rw [hr];have hsb:(z.st == 4)=true:=zkb.2 hst;clear hl hr hst;go_enter Tryz.func171,Tryz.ntmps171
       go_wp2_with (go_at_call 100;refine (HH.out).mono ?_;rintro e w1 ⟨rfl,hb1⟩;obtain ⟨hc1,hf1⟩:=vX hb1);go_ret;exact ⟨rfl,HFIN.out _ hb1⟩
     · have hsb:(z.st == 4)=false:=ziN.2 hst
       by_cases hfit:(z.d.length:Int)+l.length≤most
       · have hr:dO z most l=0:=by unfold dO;rw [zig (by rintro (h | h);exact h HOK.out;exact hl h),zig hst,zij hfit]
         rw [hr];clear hl hr hst;go_enter Tryz.func171,Tryz.ntmps171
         go_wp2_with (go_at_call 100;refine (HH.out).mono ?_;rintro e w1 ⟨rfl,hb1⟩;obtain ⟨hc1,hf1⟩:=vX hb1);go_ret;exact ⟨rfl,HFIN.out _ hb1⟩
       · have hr:dO z most l=40:=by unfold dO;rw [zig (by rintro (h | h);exact h HOK.out;exact hl h),zig hst,zig hfit]
         rw [hr];clear hl hr hst;go_enter Tryz.func171,Tryz.ntmps171
         go_wp2_with (go_at_call 100;refine (HH.out).mono ?_;rintro e w1 ⟨rfl,hb1⟩;obtain ⟨hc1,hf1⟩:=vX hb1);go_ret;exact ⟨rfl,HFIN.out _ hb1⟩
 · have hr:dO z most l=1:=zij (.inl hok)
   rw [hr];have HC:=HCK.out 1 (zig hok);have HH:=zia HC;clear HC;clear hok hr;go_enter Tryz.func171,Tryz.ntmps171
   go_wp2_with (go_at_call 100;refine (HH.out).mono ?_;rintro e w1 ⟨rfl,hb1⟩;obtain ⟨hc1,hf1⟩:=vX hb1);go_ret;exact ⟨rfl,HFIN.out _ hb1⟩
theorem kV (n:Int) (w:World) :
 Calls Tryz.prog 175 #[.int .i64 n] w fun e w'=>e=.returned (.tuple #[.agg #[.int .i64 0,.int .i64 0,.slice none 0 0],.int .i64 n])∧Below w.heap.size w w':=by
 go_enter Tryz.func175,Tryz.ntmps175
 go_wp2;refine zik (v:=.tuple #[.agg #[.int .i64 0,.int .i64 0,.slice none 0 0],.int .i64 n]) (by simp [results,Tryz.results175,go_sem]) rfl ⟨rfl,?_⟩
 exact zBA
theorem jQ (v sv:Value) (z:Zn) (st:Int) (l:List UInt8) (K K':Nat→Prop) (w:World) (hz:IsZ w K v z) (hs:IsB w K' sv l) :
 Calls Tryz.prog 174 #[v,.int .i64 st,sv] w fun e w'=>∃ v',e=.returned v'∧yC w' w.heap.size v' ⟨st,z.fe,l⟩∧Below w.heap.size w w':=by
 obtain ⟨A,c,rfl,hsb⟩:=hz;have hs2:=hs;obtain ⟨A2,c2,rfl,_⟩:=hs;unfold zv;go_enter Tryz.func174,Tryz.ntmps174
 go_wp2_with fail;go_region_with (go_at_call 79;refine (cE _ l K' _ (by first | exact (hs2.alloc _).alloc _ | exact ((hs2.alloc _).alloc _).drew)).mono ?_;rintro e w1 ⟨A3,c3,rfl,hown1,hb1⟩;obtain ⟨hc1,hf1⟩:=vX hb1)
 all_goals
  go_wp2;refine zik (v:=zv ⟨st,z.fe,l⟩ A3 c3) ?_ rfl ⟨_,rfl,⟨A3,c3,rfl,?_⟩,?_⟩
  · simp [results,Tryz.results174,go_sem,zv,hc1]
  · simp at hown1
    exact eL hown1 (by omega) (by omega)
  · exact aP ((((zBA).alloc (by simp) _).drew).trans (hb1.mono (by simp;omega))) (by omega)
theorem tP (v sv:Value) (z:Zn) (most:Int) (l:List UInt8) (K K':Nat→Prop) (w:World) (hz:IsZ w K v z) (hs:IsB w K' sv l) (hsum:z.d.length+l.length≤140737488355328) :
 Calls Tryz.prog 172 #[v,.int .i64 most,sv] w fun e w'=>∃ v',e=.returned v'∧yC w' w.heap.size v' (iB z most l)∧Below w.heap.size w w':=by
 have hz0:=hz;obtain ⟨A,c,rfl,hsb⟩:=hz;obtain ⟨_,hr1,hlc1,hc1',hl1⟩:=hsb.open_;obtain ⟨A2,c2,rfl,hr2,hlc2,hc2,hl2⟩:=hs;have h1:=hr1.more (K':=fun b=>K b∨K' b) (fun _ h=>.inl h)
 have h2:=hr2.more (K':=fun b=>K b∨K' b) (fun _ h=>.inr h)
 generalize hKK:(fun b=>K b∨K' b)=KK at h1 h2
 clear hKK hr1 hr2;unfold zv;obtain ⟨st',hst⟩:∃ s,s=(iB z most l).st:=⟨_,rfl⟩;have hcase:(((z.d.length:Int)+l.length == most)=true∧st'=4)∨(((z.d.length:Int)+l.length == most)=false ∧
  (((l.length:Int) == 0)=true∧st'=z.st∨((l.length:Int) == 0)=false∧((z.st != 2)=false∧st'=z.st∨(z.st != 2)=true∧st'=1))):=by
  rw [hst];unfold iB;simp only [zkb,ziN,bne_iff_ne,bne_eq_false_iff_eq];by_cases c1:(z.d.length:Int)+l.length=most
  · rw [zij c1];exact .inl ⟨c1,rfl⟩
  · rw [zig c1]
    refine .inr ⟨c1,?_⟩;by_cases c2:l.length=0
    · rw [zij c2];exact .inl ⟨by omega,rfl⟩
    · rw [zig c2]
      refine .inr ⟨by omega,?_⟩
      by_cases c3:z.st=2
      · rw [zij c3];exact .inl ⟨c3,c3.symm⟩
      · rw [zig c3];exact .inr ⟨c3,rfl⟩
 have HST:=zia hst;clear hst;have fin:iB z most l=⟨st',z.fe,z.d++l⟩:=by rw [HST.out];rfl
 have HF:=zia fin;clear fin;go_enter Tryz.func172,Tryz.ntmps172
 go_upto_block 0 with fail
 go_cut [7] (fun s7 wx=>s7=.int .i64 st'∧wx=(w.alloc (.cells #[.int .i64 z.st,.int .i64 z.fe,.slice A z.d.length c] 134)).alloc (.cells #[.int .i64 0,.int .i64 0,.slice none 0 0] 134))
 case first=>
  rcases hcase with ⟨hb1,hst⟩ | ⟨hb1,⟨hb2,hst⟩ | ⟨hb2,⟨hb3,hst⟩ | ⟨hb3,hst⟩⟩⟩
  all_goals
   obtain rfl:=hst;go_wp2;go_meet;exact ⟨rfl,rfl⟩
 case rest=>
  obtain ⟨rfl,rfl⟩:=hcut;clear hcase;go_wp2_with fail;go_region_with (first
   | (go_at_call 198;refine (oR _ c c2 A A2 z.d l KK _ ?_ ?_ ?_ hsum).mono ?_;(first | exact (aG.new (by simp) rfl rfl).more (fun _ _=>trivial) | exact ((aG.new (by simp) rfl rfl).drew).more (fun _ _=>trivial));(first | exact ((h1.alloc _).alloc _).alloc _ | exact (((h1.alloc _).alloc _).alloc _).drew);(first | exact ((h2.alloc _).alloc _).alloc _ | exact (((h2.alloc _).alloc _).alloc _).drew);rintro e w1 ⟨A3,c3,rfl,hown1,hb1⟩;obtain ⟨hc1,hf1⟩:=vX hb1)
   | (go_at_call 174;refine (jQ _ _ z _ (z.d++l) K (fun b=>w.heap.size≤b) _ ?_ ?_).mono ?_;(first | exact (((hz0.alloc _).alloc _).alloc _).drew.step hb1);(exact ⟨A3,c3,by simp,(aG.of_own_ge hown1).more (by intro b hb;simp at hb;omega),cD hown1,bF hown1,by simpa using hsum⟩);rintro e w2 ⟨v2,rfl,⟨A4,c4,rfl,hown2⟩,hb2⟩;obtain ⟨hc2',hf2⟩:=vX hb2;have hz2:=hb1.size;simp at hz2;have hz20:w.heap.size<w1.heap.size:=(by omega);have hz21:w.heap.size+1<w1.heap.size:=(by omega);unfold zv))
  all_goals
   go_wp2;simp at hown2;refine zik (v:=zv ⟨st',z.fe,z.d++l⟩ A4 c4) (by simp [results,Tryz.results172,go_sem,zv,hc2',hc1,hz21]) rfl ⟨_,rfl,?_,?_⟩
   · rw [HF.out]
     exact ⟨A4,c4,rfl,by simpa using eL hown2 (by omega) (by omega)⟩
   · exact aP ((((zBA).alloc (by simp) _).alloc (by simp;omega) _).drew.trans ((hb1.mono (by simp;omega)).trans (hb2.mono (by omega)))) (by omega)
theorem zbp (v:Value) (z:Zn) (K:Nat→Prop) (w:World) (hz:IsZ w K v z) :
 Calls Tryz.prog 114 #[v] w fun e w'=>∃ v',e=.returned (.tuple #[v',.int .i64 0])∧yC w' w.heap.size v' (zdO z)∧Below w.heap.size w w':=by
 have hz0:=hz;obtain ⟨A,c,rfl,hsb⟩:=hz;have hl1:=hsb.len;have W0:Below w.heap.size w ((w.alloc (.cells #[.int .i64 z.st,.int .i64 z.fe,.slice A z.d.length c] 134)).alloc (.cells #[.int .i64 0,.int .i64 0,.slice none 0 0] 134)):=(zBA).alloc (by simp) _
 unfold zv;go_enter Tryz.func114,Tryz.ntmps114
 go_wp2_with (go_at_call 174;refine (jQ _ _ z 4 z.d K K _ ((hz0.alloc _).alloc _) ((hsb.alloc _).alloc _)).mono ?_;rintro e w1 ⟨v1,rfl,⟨A4,c4,rfl,hown1⟩,hb1⟩;have Bb:=(Blk.new (g:=w.heap.size+1) _ _ _ (by simp)).step hb1;obtain ⟨qb,fb⟩:=Bb.rules;unfold zv)
 have hW:=W0.trans (hb1.mono W0.size);refine zik (v:=.tuple #[zv ⟨4,z.fe,z.d⟩ A4 c4,.int .i64 0]) (by simp [results,Tryz.results114,go_sem,zv,qb]) rfl ⟨_,rfl,⟨A4,c4,rfl,eL hown1 (by simp) (by simp;omega)⟩,?_⟩
 exact aP hW (by omega)
theorem zcw (v:Value) (z:Zn) (K:Nat→Prop) (w:World) (hz:IsZ w K v z) :
 Calls Tryz.prog 113 #[v] w fun e w'=>∃ v',e=.returned (.tuple #[v',.int .i64 0])∧yC w' w.heap.size v' (sZ z)∧Below w.heap.size w w':=by
 have hz0:=hz;obtain ⟨A,c,rfl,hsb⟩:=hz;have hl1:=hsb.len;have W0:Below w.heap.size w ((w.alloc (.cells #[.int .i64 z.st,.int .i64 z.fe,.slice A z.d.length c] 134)).alloc (.cells #[.int .i64 0,.int .i64 0,.slice none 0 0] 134)):=(zBA).alloc (by simp) _
 unfold zv;go_enter Tryz.func113,Tryz.ntmps113
 go_wp2_with (go_at_call 174;refine (jQ _ _ z 0 [] K K _ ((hz0.alloc _).alloc _) (IsB.nil_ _ _)).mono ?_;rintro e w1 ⟨v1,rfl,⟨A4,c4,rfl,hown1⟩,hb1⟩;have Bb:=(Blk.new (g:=w.heap.size+1) _ _ _ (by simp)).step hb1;obtain ⟨qb,fb⟩:=Bb.rules;unfold zv)
 have hW:=W0.trans (hb1.mono W0.size);refine zik (v:=.tuple #[zv ⟨0,z.fe,[]⟩ A4 c4,.int .i64 0]) (by simp [results,Tryz.results113,go_sem,zv,qb]) rfl ⟨_,rfl,⟨A4,c4,rfl,eL hown1 (by simp) (by simp;omega)⟩,?_⟩
 exact aP hW (by omega)
theorem vF (v:Value) (z:Zn) (K:Nat→Prop) (w:World) (hz:IsZ w K v z) :
 Calls Tryz.prog 116 #[v] w fun e w'=>∃ v',e=.returned (.tuple #[v',.int .i64 (eX z).2])∧yC w' w.heap.size v' (eX z).1∧Below w.heap.size w w':=by
 have hz0:=hz;obtain ⟨A,c,rfl,hsb⟩:=hz;have hl1:=hsb.len;have W0:Below w.heap.size w ((w.alloc (.cells #[.int .i64 z.st,.int .i64 z.fe,.slice A z.d.length c] 134)).alloc (.cells #[.int .i64 0,.int .i64 0,.slice none 0 0] 134)):=(zBA).alloc (by simp) _
 unfold zv;unfold eX;by_cases h0:z.st=0∨z.st=4
 · rw [zij h0]
   have hb:(z.st == 0)=true∨(z.st == 0)=false∧(z.st == 4)=true:=by simp;omega
   clear h0;rcases hb with h0 | ⟨h0,h4⟩
   all_goals
    go_enter Tryz.func116,Tryz.ntmps116
    go_wp2_with (go_at_call 175;refine (kV _ _).mono ?_;rintro e w1 ⟨rfl,hb1⟩;have Bb:=(Blk.new (g:=w.heap.size+1) _ _ _ (by simp)).step hb1;obtain ⟨qb,fb⟩:=Bb.rules)
    have hW:=W0.trans (hb1.mono W0.size);refine zik (v:=.tuple #[.agg #[.int .i64 0,.int .i64 0,.slice none 0 0],.int .i64 41]) (by simp [results,Tryz.results116,go_sem,qb]) rfl ⟨_,rfl,yC.zero _ _,?_⟩
    exact aP hW (by omega)
 · rw [zig h0]
   have h1:(z.st == 0)=false:=ziN.2 (fun h=>h0 (.inl h))
   have h4:(z.st == 4)=false:=ziN.2 (fun h=>h0 (.inr h))
   clear h0;by_cases hd:z.d.length=0
   · have hdb:((z.d.length:Int) == 0)=true:=zkb.2 (by omega)
     rw [zij hd];clear hd;go_enter Tryz.func116,Tryz.ntmps116
     go_wp2_with (go_at_call 174;refine (jQ _ _ z 0 z.d K K _ ((hz0.alloc _).alloc _) ((hsb.alloc _).alloc _)).mono ?_;rintro e w1 ⟨v1,rfl,⟨A4,c4,rfl,hown1⟩,hb1⟩;have Bb:=(Blk.new (g:=w.heap.size+1) _ _ _ (by simp)).step hb1;obtain ⟨qb,fb⟩:=Bb.rules;unfold zv)
     have hW:=W0.trans (hb1.mono W0.size);refine zik (v:=.tuple #[zv ⟨0,z.fe,z.d⟩ A4 c4,.int .i64 0]) (by simp [results,Tryz.results116,go_sem,zv,qb]) rfl ⟨_,rfl,⟨A4,c4,rfl,eL hown1 (by simp) (by simp;omega)⟩,?_⟩
     exact aP hW (by omega)
   · have hdb:((z.d.length:Int) == 0)=false:=ziN.2 (by omega)
     rw [zig hd];clear hd;go_enter Tryz.func116,Tryz.ntmps116
     go_wp2_with (go_at_call 174;refine (jQ _ _ z 3 z.d K K _ ((hz0.alloc _).alloc _) ((hsb.alloc _).alloc _)).mono ?_;rintro e w1 ⟨v1,rfl,⟨A4,c4,rfl,hown1⟩,hb1⟩;have Bb:=(Blk.new (g:=w.heap.size+1) _ _ _ (by simp)).step hb1;obtain ⟨qb,fb⟩:=Bb.rules;unfold zv)
     have hW:=W0.trans (hb1.mono W0.size);refine zik (v:=.tuple #[zv ⟨3,z.fe,z.d⟩ A4 c4,.int .i64 0]) (by simp [results,Tryz.results116,go_sem,zv,qb]) rfl ⟨_,rfl,⟨A4,c4,rfl,eL hown1 (by simp) (by simp;omega)⟩,?_⟩
     exact aP hW (by omega)
theorem zam (v:Value) (z:Zn) (most:Int) (K:Nat→Prop) (w:World) (hz:IsZ w K v z) :
 Calls Tryz.prog 115 #[v,.int .i64 most] w fun e w'=>∃ v',e=.returned (.tuple #[v',.int .i64 (yE z most).2])∧yC w' w.heap.size v' (yE z most).1∧Below w.heap.size w w':=by
 have hz0:=hz;obtain ⟨A,c,rfl,hsb⟩:=hz;have hl1:=hsb.len;have W0:Below w.heap.size w ((w.alloc (.cells #[.int .i64 z.st,.int .i64 z.fe,.slice A z.d.length c] 134)).alloc (.cells #[.int .i64 0,.int .i64 0,.slice none 0 0] 134)):=(zBA).alloc (by simp) _
 unfold zv;unfold yE;by_cases hok:okZ z most
 · rw [zig (by simpa using hok)]
   have HC:Hid (zfk z most=0):=zia (zij hok);clear hok;by_cases hst:z.st=4
   · rw [zij hst]
     have hsb4:(z.st == 4)=true:=zkb.2 hst;clear hst;go_enter Tryz.func115,Tryz.ntmps115
     go_wp2_with (first | (go_at_call 100;refine (gE _ z most K _ ((hz0.alloc _).alloc _)).mono ?_;rintro e w2 ⟨rfl,hb2⟩;rw [HC.out];have Ba2:=((Blk.new w _ _ rfl).alloc _).step hb2;have Bb2:=(Blk.new (g:=w.heap.size+1) _ _ _ (by simp)).step hb2;obtain ⟨qa2,fa2⟩:=Ba2.rules;obtain ⟨qb2,fb2⟩:=Bb2.rules) | (go_at_call 175;refine (kV _ _).mono ?_;rintro e w1 ⟨rfl,hb1⟩;have Bb:=Bb2.step hb1;obtain ⟨qb,fb⟩:=Bb.rules))
     have hW:=(W0.trans (hb2.mono W0.size)).trans (hb1.mono (W0.trans (hb2.mono W0.size)).size);refine zik (v:=.tuple #[.agg #[.int .i64 0,.int .i64 0,.slice none 0 0],.int .i64 41]) (by simp [results,Tryz.results115,go_sem,qb]) rfl ⟨_,rfl,yC.zero _ _,?_⟩
     exact aP hW (by omega)
   · rw [zig hst]
     have hsb4:(z.st == 4)=false:=ziN.2 hst;clear hst;go_enter Tryz.func115,Tryz.ntmps115
     go_wp2_with (first | (go_at_call 100;refine (gE _ z most K _ ((hz0.alloc _).alloc _)).mono ?_;rintro e w2 ⟨rfl,hb2⟩;rw [HC.out];have Ba2:=((Blk.new w _ _ rfl).alloc _).step hb2;have Bb2:=(Blk.new (g:=w.heap.size+1) _ _ _ (by simp)).step hb2;obtain ⟨qa2,fa2⟩:=Ba2.rules;obtain ⟨qb2,fb2⟩:=Bb2.rules) | (go_at_call 174;refine (jQ _ _ z 2 z.d K K _ (((hz0.alloc _).alloc _).step hb2) (((hsb.alloc _).alloc _).step hb2)).mono ?_;rintro e w1 ⟨v1,rfl,⟨A4,c4,rfl,hown1⟩,hb1⟩;have Bb:=Bb2.step hb1;obtain ⟨qb,fb⟩:=Bb.rules;unfold zv))
     have h02:=W0.trans (hb2.mono W0.size);have hW:=h02.trans (hb1.mono h02.size);refine zik (v:=.tuple #[zv ⟨2,z.fe,z.d⟩ A4 c4,.int .i64 0]) (by simp [results,Tryz.results115,go_sem,zv,qb]) rfl ⟨_,rfl,⟨A4,c4,rfl,eL hown1 Bb2.lt h02.size⟩,?_⟩
     exact aP hW (by omega)
 · rw [zij hok]
   have HC:Hid (zfk z most=1):=zia (zig hok);clear hok;go_enter Tryz.func115,Tryz.ntmps115
   go_wp2_with (first | (go_at_call 100;refine (gE _ z most K _ ((hz0.alloc _).alloc _)).mono ?_;rintro e w2 ⟨rfl,hb2⟩;rw [HC.out];have Ba2:=((Blk.new w _ _ rfl).alloc _).step hb2;have Bb2:=(Blk.new (g:=w.heap.size+1) _ _ _ (by simp)).step hb2;obtain ⟨qa2,fa2⟩:=Ba2.rules;obtain ⟨qb2,fb2⟩:=Bb2.rules) | (go_at_call 175;refine (kV _ _).mono ?_;rintro e w1 ⟨rfl,hb1⟩;have Bb:=Bb2.step hb1;obtain ⟨qb,fb⟩:=Bb.rules))
   have hW:=(W0.trans (hb2.mono W0.size)).trans (hb1.mono (W0.trans (hb2.mono W0.size)).size);refine zik (v:=.tuple #[.agg #[.int .i64 0,.int .i64 0,.slice none 0 0],.int .i64 1]) (by simp [results,Tryz.results115,go_sem,qb]) rfl ⟨_,rfl,yC.zero _ _,?_⟩
   exact aP hW (by omega)
theorem zeM (v sv:Value) (z:Zn) (most keep:Int) (l:List UInt8) (K K':Nat→Prop) (w:World) (hz:IsZ w K v z) (hs:IsB w K' sv l) :
 Calls Tryz.prog 117 #[v,.int .i64 most,sv,.int .i64 keep] w fun e w'=>∃ v',e=.returned (.tuple #[v',.int .i64 (zT z most l keep).2])∧yC w' w.heap.size v' (zT z most l keep).1∧Below w.heap.size w w':=by
 have hz0:=hz;obtain ⟨A,c,rfl,hsb⟩:=hz;have hl1:=hsb.len;have hl2:=hs.len;have hs0:=hs;obtain ⟨A2,c2,rfl,_,hlc2,hcc2,_⟩:=hs;clear hsb;have W0:Below w.heap.size w ((w.alloc (.cells #[.int .i64 z.st,.int .i64 z.fe,.slice A z.d.length c] 134)).alloc (.cells #[.int .i64 0,.int .i64 0,.slice none 0 0] 134)):=(zBA).alloc (by simp) _
 unfold zv zT;by_cases hr:dO z most l=0
 · rw [zig (by simpa using hr)]
   obtain ⟨hok,hl0,hst,hfit⟩:=jK hr;have hm:=hok.2.1;have HR:=zia hr;clear hr;clear hok hst;by_cases hk:0≤keep∧keep≤l.length
   · rw [zij hk]
     obtain ⟨hk0,hk1⟩:=hk;obtain ⟨k,rfl⟩:∃ k:Nat,keep=(k:Int):=⟨keep.toNat,by omega⟩
     rw [Int.toNat_natCast];have hkl:k≤l.length:=by omega
     have hkc:(k:Int)≤(c2:Int):=by omega
     have htl:(l.take k).length=k:=by rw [zio];omega
     have HTL:=zia htl;clear htl;go_enter Tryz.func117,Tryz.ntmps117
     go_wp2_with (go_at_call 171;refine (iN _ _ z most l K K' _ ((hz0.alloc _).alloc _) ((hs0.alloc _).alloc _)).mono ?_;rintro e w1 ⟨rfl,hb1⟩;rw [HR.out];have Ba:=((Blk.new w _ _ rfl).alloc _).step hb1;have Bb:=(Blk.new (g:=w.heap.size+1) _ _ _ (by simp)).step hb1;obtain ⟨qa,fa⟩:=Ba.rules;obtain ⟨qb,fb⟩:=Bb.rules)
     go_region_with (go_at_call 172;refine (tP _ _ z most (l.take k) K K' _ ?_ ?_ (by rw [HTL.out];omega)).mono ?_;(first | exact (((hz0.alloc _).alloc _).step hb1).drew | exact ((hz0.alloc _).alloc _).step hb1);(first | exact ((((hs0.pre hkl).alloc _).alloc _).step hb1).drew | exact (((hs0.pre hkl).alloc _).alloc _).step hb1);rintro e w2 ⟨v2,rfl,⟨A4,c4,rfl,hown2⟩,hb2⟩;have Ba2:=Ba.drew.step hb2;have Bb2:=Bb.drew.step hb2;obtain ⟨qa2,fa2⟩:=Ba2.rules;obtain ⟨qb2,fb2⟩:=Bb2.rules;unfold zv)
     all_goals
      have hW:=W0.trans (hb1.mono W0.size);go_wp2;refine zik (v:=.tuple #[zv (iB z most (l.take k)) A4 c4,.int .i64 0]) (by simp [results,Tryz.results117,go_sem,zv,qb2]) rfl ⟨_,rfl,⟨A4,c4,rfl,eL hown2 Bb.lt hW.size⟩,?_⟩
      exact aP (hW.drew.trans (hb2.mono hW.size)) (by omega)
   · rw [zig hk]
     have hkk:(keep<0)∨¬keep<0∧(l.length:Int)<keep:=by omega
     clear hk;rcases hkk with hk | ⟨hk,hk2⟩
     all_goals
      go_enter Tryz.func117,Tryz.ntmps117
      go_wp2_with (first | (go_at_call 171;refine (iN _ _ z most l K K' _ ((hz0.alloc _).alloc _) ((hs0.alloc _).alloc _)).mono ?_;rintro e w1 ⟨rfl,hb1⟩;rw [HR.out];have Bb:=(Blk.new (g:=w.heap.size+1) _ _ _ (by simp)).step hb1;obtain ⟨qb,fb⟩:=Bb.rules) | (go_at_call 175;refine (kV _ _).mono ?_;rintro e w2 ⟨rfl,hb2⟩;have Bb2:=Bb.step hb2;obtain ⟨qb2,fb2⟩:=Bb2.rules))
      have hW:=(W0.trans (hb1.mono W0.size)).trans (hb2.mono (W0.trans (hb1.mono W0.size)).size);refine zik (v:=.tuple #[.agg #[.int .i64 0,.int .i64 0,.slice none 0 0],.int .i64 1]) (by simp [results,Tryz.results117,go_sem,qb2]) rfl ⟨_,rfl,yC.zero _ _,?_⟩
      exact aP hW (by omega)
 · rw [zij hr]
   obtain ⟨r,hre⟩:∃ r,r=dO z most l:=⟨_,rfl⟩;rw [←hre] at hr ⊢;have HE:=zia hre;clear hre;have hrb:(r != 0)=true:=by simpa using hr
   clear hr;go_enter Tryz.func117,Tryz.ntmps117
   go_wp2_with (first | (go_at_call 171;refine (iN _ _ z most l K K' _ ((hz0.alloc _).alloc _) ((hs0.alloc _).alloc _)).mono ?_;rintro e w1 ⟨rfl,hb1⟩;rw [←HE.out];have Bb:=(Blk.new (g:=w.heap.size+1) _ _ _ (by simp)).step hb1;obtain ⟨qb,fb⟩:=Bb.rules) | (go_at_call 175;refine (kV _ _).mono ?_;rintro e w2 ⟨rfl,hb2⟩;have Bb2:=Bb.step hb2;obtain ⟨qb2,fb2⟩:=Bb2.rules))
   have hW:=(W0.trans (hb1.mono W0.size)).trans (hb2.mono (W0.trans (hb1.mono W0.size)).size);refine zik (v:=.tuple #[.agg #[.int .i64 0,.int .i64 0,.slice none 0 0],.int .i64 r]) (by simp [results,Tryz.results117,go_sem,qb2]) rfl ⟨_,rfl,yC.zero _ _,?_⟩
   exact aP hW (by omega)
theorem zdY (v:Value) (z:Zn) (off n:Int) (K:Nat→Prop) (w:World) (hz:IsZ w K v z) (ho:off≤9223372036854775807) :
 Calls Tryz.prog 112 #[v,.int .i64 off,.int .i64 n] w fun e w'=>∃ v',e=.returned (.tuple #[v',.int .i64 (yZ z off n).2])∧zi4 w' w.heap.size v' (yZ z off n).1∧Below w.heap.size w w':=by
 obtain ⟨A,c,rfl,hsb⟩:=hz;obtain ⟨_,_,hlc,hcc,hl1⟩:=hsb.open_;unfold zv yZ;by_cases hk:0≤off∧0≤n∧off+n≤z.d.length
 · rw [zij hk]
   obtain ⟨hk0,hk1,hk2⟩:=hk;obtain ⟨i,rfl⟩:∃ i:Nat,off=(i:Int):=⟨off.toNat,by omega⟩
   obtain ⟨k,rfl⟩:∃ i:Nat,n=(i:Int):=⟨n.toNat,by omega⟩
   rw [Int.toNat_natCast,Int.toNat_natCast];have hik:i+k≤z.d.length:=by omega
   by_cases hci:c=i
   · subst hci
     have hk0':k=0:=by omega
     subst hk0';rw [List.take_zero];go_enter Tryz.func112,Tryz.ntmps112
     go_wp2_with (go_at_call 79;refine (cE _ [] (fun _=>True) _ ?_).mono ?_;(exact ⟨_,_,rfl,⟨rfl,fun h=>absurd h (by simp)⟩,by simp,by simp,by simp⟩);rintro e w1 ⟨A3,c3,rfl,hown1,hb1⟩)
     go_ret2;exact ⟨_,rfl,⟨A3,c3,rfl,aO hown1 (by simp)⟩,(zBA).trans (hb1.mono (by simp))⟩
   · have hB:=hsb.mid (i:=i) (k:=k) (c':=c-i) hik (by omega) (by omega)
     generalize (z.d.drop i).take k=m at hB ⊢;go_enter Tryz.func112,Tryz.ntmps112
     go_wp2_with (go_at_call 79;refine (cE _ _ K _ (hB.alloc _)).mono ?_;rintro e w1 ⟨A3,c3,rfl,hown1,hb1⟩);go_ret2;exact ⟨_,rfl,⟨A3,c3,rfl,aO hown1 (by simp)⟩,(zBA).trans (hb1.mono (by simp))⟩
 · rw [zig hk]
   have hkk:off<0∨¬off<0∧n<0∨¬off<0∧¬n<0∧(z.d.length:Int)<off∨¬off<0∧¬n<0∧¬(z.d.length:Int)<off∧(z.d.length:Int)-off<n:=by omega
   clear hk;rcases hkk with h1 | ⟨h1,h2⟩ | ⟨h1,h2,h3⟩ | ⟨h1,h2,h3,h4⟩
   all_goals
    go_enter Tryz.func112,Tryz.ntmps112
    go_wp2;go_ret2;exact ⟨_,rfl,⟨none,0,rfl,zin _ _ _ _⟩,zBA⟩
theorem rG (v sv:Value) (z:Zn) (most:Int) (l:List UInt8) (K K':Nat→Prop) (w:World) (hz:IsZ w K v z) (hs:IsB w K' sv l) :
 Calls Tryz.prog 108 #[v,.int .i64 most,sv] w fun e w'=>∃ v',e=.returned (.tuple #[v',.int .i64 (zdN z most l).2.1,.int .i64 (zdN z most l).2.2])∧yC w' w.heap.size v' (zdN z most l).1∧Below w.heap.size w w':=by
 have hz0:=hz;obtain ⟨A,c,rfl,hsb⟩:=hz;have hl1:=hsb.len;have hl2:=hs.len;have hs0:=hs;obtain ⟨A2,c2,rfl,_⟩:=hs;clear hsb;unfold zv zdN;by_cases hr:dO z most l=0
 · rw [zij hr]
   obtain ⟨hok,hl0,hst,hfit⟩:=jK hr;have hm:=hok.2.1;have HR:=zia hr;clear hr;clear hok hst;go_enter Tryz.func108,Tryz.ntmps108
   go_wp2_with (go_at_call 171;refine (iN _ _ z most l K K' _ ((hz0.alloc _).alloc _) ((hs0.alloc _).alloc _)).mono ?_;rintro e w1 ⟨rfl,hb1⟩;rw [HR.out];have Ba:=((Blk.new w _ _ rfl).alloc _).step hb1;have Bb:=(Blk.new (g:=w.heap.size+1) _ _ _ (by simp)).step hb1;obtain ⟨qa,fa⟩:=Ba.rules;obtain ⟨qb,fb⟩:=Bb.rules)
   go_region_with (go_at_call 172;refine (tP _ _ z most l K K' _ ?_ ?_ (by omega)).mono ?_;(first | exact (((hz0.alloc _).alloc _).step hb1).drew | exact ((hz0.alloc _).alloc _).step hb1);(first | exact (((hs0.alloc _).alloc _).step hb1).drew | exact ((hs0.alloc _).alloc _).step hb1);rintro e w2 ⟨v2,rfl,⟨A4,c4,rfl,hown2⟩,hb2⟩;have Ba2:=Ba.drew.step hb2;have Bb2:=Bb.drew.step hb2;obtain ⟨qa2,fa2⟩:=Ba2.rules;obtain ⟨qb2,fb2⟩:=Bb2.rules;unfold zv)
   all_goals
    have hW:Below w.heap.size w w1:=((zBA).alloc (by simp) _).trans (hb1.mono (by simp;omega))
    go_wp2;refine zik (v:=.tuple #[zv (iB z most l) A4 c4,.int .i64 z.d.length,.int .i64 0]) (by simp [results,Tryz.results108,go_sem,zv,qb2]) rfl ⟨_,rfl,⟨A4,c4,rfl,eL hown2 Bb.lt hW.size⟩,?_⟩
    exact aP (hW.drew.trans (hb2.mono hW.size)) (by omega)
 · rw [zig hr]
   obtain ⟨r,hre⟩:∃ r,r=dO z most l:=⟨_,rfl⟩;rw [←hre] at hr ⊢;have HE:=zia hre;clear hre;have hrb:(r != 0)=true:=by simpa using hr
   clear hr;go_enter Tryz.func108,Tryz.ntmps108
   go_wp2_with (go_at_call 171;refine (iN _ _ z most l K K' _ ((hz0.alloc _).alloc _) ((hs0.alloc _).alloc _)).mono ?_;rintro e w1 ⟨rfl,hb1⟩;rw [←HE.out];have Bb:=(Blk.new (g:=w.heap.size+1) _ _ _ (by simp)).step hb1;obtain ⟨qb,fb⟩:=Bb.rules)
   have hW:Below w.heap.size w w1:=((zBA).alloc (by simp) _).trans (hb1.mono (by simp;omega))
   refine zik (v:=.tuple #[.agg #[.int .i64 0,.int .i64 0,.slice none 0 0],.int .i64 0,.int .i64 r]) (by simp [results,Tryz.results108,go_sem,qb]) rfl ⟨_,rfl,yC.zero _ _,?_⟩
   exact aP hW (by omega)
