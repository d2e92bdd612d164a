/- A part of the proof. -/
import Derived.Test.YthblkdnijhphhaaGreatZonePlain
import Derived.Test.YthblkdnijhphhaaGreatSlS
import Derived.Deep.RegionHeld3
import Derived.Deep.DeepCutAuto
import Derived.Deep.CutBlock
set_option maxHeartbeats 2000000
set_option maxRecDepth 100000
namespace Go.Proofs.YthblkdnijhphhaaGreat
open Go.RowKit
theorem zjj (st most:Int) (h1:1≤most) (h2:most≤9223372036854775807) (w:World) :
 Calls Tryz.prog 148 #[.int .i64 st,.int .i64 most] w fun e w'=>e=.returned (.tuple #[.int .i64 (bndZ st most).1,.int .i64 (bndZ st most).2])∧w=w':=by
 unfold bndZ;by_cases h0:st=0
 · subst h0
   go_enter Tryz.func148,Tryz.ntmps148
   go_wp2;go_ret2;exact ⟨rfl,rfl⟩
 rw [if_neg h0];have hb0:(st == 0)=false:=beq_eq_false_iff_ne.2 h0;by_cases h3:st=1∨st=3
 · rw [if_pos h3]
   rcases h3 with rfl | rfl
   all_goals
    go_enter Tryz.func148,Tryz.ntmps148
    go_wp2;go_ret2;exact ⟨rfl,rfl⟩
 rw [if_neg h3];by_cases h4:st=2
 · subst h4
   go_enter Tryz.func148,Tryz.ntmps148
   go_wp2;go_ret2;exact ⟨rfl,rfl⟩
 rw [if_neg h4];by_cases h5:st=4
 · subst h5
   go_enter Tryz.func148,Tryz.ntmps148
   go_wp2;go_ret2;exact ⟨rfl,rfl⟩
 rw [if_neg h5];have hb1:(st == 1)=false:=beq_eq_false_iff_ne.2 (by omega)
 have hb3:(st == 3)=false:=beq_eq_false_iff_ne.2 (by omega)
 have hb2:(st == 2)=false:=beq_eq_false_iff_ne.2 h4;have hb4:(st == 4)=false:=beq_eq_false_iff_ne.2 h5;clear h0 h3 h4 h5;go_enter Tryz.func148,Tryz.ntmps148
 go_wp2;go_ret2;exact ⟨rfl,rfl⟩
theorem zc7 (v:Value) (z:Zn) (most:Int) (K:Nat→Prop) (w:World) (hz:IsZ w K v z) :
 Calls Tryz.prog 87 #[v,.int .i64 most] w fun e w'=>e=.returned (.int .i64 (chkZ z most))∧Below w.heap.size w w':=by
 obtain ⟨A,c,rfl,hsb⟩:=hz;have hl:=hsb.len;clear hsb;have hok:=zoB z most;unfold zv;by_cases hm:1≤most∧most≤65536
 · obtain ⟨hm1,hm2⟩:=hm
   generalize hb1:(bndZ z.st most).1=b1 at *;generalize hb2:(bndZ z.st most).2=b2 at *;have HOK:=Lib.hid hok;clear hok;have HB1:=Lib.hid hb1;clear hb1;have HB2:=Lib.hid hb2;clear hb2;go_enter Tryz.func87,Tryz.ntmps87
   go_wp2_with (go_at_call 148;refine (zjj _ _ hm1 (by omega) _).mono ?_;rintro e w' ⟨rfl,rfl⟩;rw [HB1.out,HB2.out])
   all_goals
    go_ret;refine ⟨congrArg (fun x=>Ending.returned (.int .i64 x)) ?_,(Below.refl _ _).alloc (Nat.le_refl _) _⟩
    have h:=HOK.out;unfold chkZ;first
     | (rw [if_pos (h.2 (by omega))];done)
     | (rw [if_neg (fun hh=>by have:=h.1 hh;omega)];done)
 · have hnk:¬okZ z most:=fun h=>hm ⟨h.1,h.2.1⟩
   have hck:chkZ z most=1:=if_neg hnk;rw [hck];clear hok hnk hck;go_enter Tryz.func87,Tryz.ntmps87
   by_cases hm1:most<1
   · clear hm
     go_wp2;all_goals
      go_ret;exact ⟨rfl,(Below.refl _ _).alloc (Nat.le_refl _) _⟩
   · have hm2:65536<most:=by omega
     clear hm;go_wp2;all_goals
      go_ret;exact ⟨rfl,(Below.refl _ _).alloc (Nat.le_refl _) _⟩
theorem zcG (v sv:Value) (z:Zn) (most:Int) (l:List UInt8) (K K':Nat→Prop) (w:World) (hz:IsZ w K v z) (hs:IsB w K' sv l) :
 Calls Tryz.prog 155 #[v,.int .i64 most,sv] w fun e w'=>e=.returned (.int .i64 (zbh z most l))∧Below w.heap.size w w':=by
 have hz0:=hz;obtain ⟨A,c,rfl,hsb⟩:=hz;have hl1:=hsb.len;have hl2:=hs.len;obtain ⟨A2,c2,rfl,_⟩:=hs;clear hsb;have hck:∀ n:Int,chkZ z most=n→Calls Tryz.prog 87 #[.agg #[.int .i64 z.st,.int .i64 z.fe,.slice A z.d.length c],.int .i64 most] (w.alloc (.cells #[.int .i64 z.st,.int .i64 z.fe,.slice A z.d.length c] 126)) fun e w'=>e=.returned (.int .i64 n)∧Below (w.alloc (.cells #[.int .i64 z.st,.int .i64 z.fe,.slice A z.d.length c] 126)).heap.size (w.alloc (.cells #[.int .i64 z.st,.int .i64 z.fe,.slice A z.d.length c] 126)) w':=by
  intro n hn;subst hn;exact zc7 _ z most K _ (hz0.alloc _)
 have hfin:∀ w1,Below (w.alloc (.cells #[.int .i64 z.st,.int .i64 z.fe,.slice A z.d.length c] 126)).heap.size (w.alloc (.cells #[.int .i64 z.st,.int .i64 z.fe,.slice A z.d.length c] 126)) w1→Below w.heap.size w w1:=fun w1 h=>
  ((Below.refl _ _).alloc (Nat.le_refl _) _).trans (h.mono (by simp))
 have HCK:=Lib.hid hck;clear hck;have HFIN:=Lib.hid hfin;clear hfin;unfold zv;by_cases hok:okZ z most
 · have h0:chkZ z most=0:=if_pos hok
   have HC:=HCK.out 0 h0;have H0:=Lib.hid h0;clear h0;have hm:=hok.2.1;have hm1:=hok.1;have HOK:=Lib.hid hok;clear hok;have HH:=Lib.hid HC;clear HC;by_cases hl:l.length=0
   · have hr:zbh z most l=1:=if_pos (.inr hl)
     rw [hr];have hlb:((l.length:Int) == 0)=true:=by simp;exact List.eq_nil_of_length_eq_zero hl
     clear hl hr;go_enter Tryz.func155,Tryz.ntmps155
     go_wp2_with (go_at_call 87;refine (HH.out).mono ?_;rintro e w1 ⟨rfl,hb1⟩;obtain ⟨hc1,hf1⟩:=zgY hb1);go_ret;exact ⟨rfl,HFIN.out _ hb1⟩
   · have hlb:((l.length:Int) == 0)=false:=by simp;intro h;exact hl (by rw [h];rfl)
     by_cases hst:z.st=4
     · have hr:zbh z most l=41:=by unfold zbh;rw [if_neg (by rintro (h | h);exact h HOK.out;exact hl h),if_pos hst]
       rw [hr];have hsb:(z.st == 4)=true:=beq_iff_eq.2 hst;clear hl hr hst;go_enter Tryz.func155,Tryz.ntmps155
       go_wp2_with (go_at_call 87;refine (HH.out).mono ?_;rintro e w1 ⟨rfl,hb1⟩;obtain ⟨hc1,hf1⟩:=zgY hb1);go_ret;exact ⟨rfl,HFIN.out _ hb1⟩
     · have hsb:(z.st == 4)=false:=beq_eq_false_iff_ne.2 hst
       by_cases hfit:(z.d.length:Int)+l.length≤most
       · have hr:zbh z most l=0:=by unfold zbh;rw [if_neg (by rintro (h | h);exact h HOK.out;exact hl h),if_neg hst,if_pos hfit]
         rw [hr];clear hl hr hst;go_enter Tryz.func155,Tryz.ntmps155
         go_wp2_with (go_at_call 87;refine (HH.out).mono ?_;rintro e w1 ⟨rfl,hb1⟩;obtain ⟨hc1,hf1⟩:=zgY hb1);go_ret;exact ⟨rfl,HFIN.out _ hb1⟩
       · have hr:zbh z most l=40:=by unfold zbh;rw [if_neg (by rintro (h | h);exact h HOK.out;exact hl h),if_neg hst,if_neg hfit]
         rw [hr];clear hl hr hst;go_enter Tryz.func155,Tryz.ntmps155
         go_wp2_with (go_at_call 87;refine (HH.out).mono ?_;rintro e w1 ⟨rfl,hb1⟩;obtain ⟨hc1,hf1⟩:=zgY hb1);go_ret;exact ⟨rfl,HFIN.out _ hb1⟩
 · have hr:zbh z most l=1:=if_pos (.inl hok)
   rw [hr];have HC:=HCK.out 1 (if_neg hok);have HH:=Lib.hid HC;clear HC;clear hok hr;go_enter Tryz.func155,Tryz.ntmps155
   go_wp2_with (go_at_call 87;refine (HH.out).mono ?_;rintro e w1 ⟨rfl,hb1⟩;obtain ⟨hc1,hf1⟩:=zgY hb1);go_ret;exact ⟨rfl,HFIN.out _ hb1⟩
theorem zdV (n:Int) (w:World) :
 Calls Tryz.prog 159 #[.int .i64 n] w fun e w'=>e=.returned (.tuple #[.agg #[.int .i64 0,.int .i64 0,.slice none 0 0],.int .i64 n])∧Below w.heap.size w w':=by
 go_enter Tryz.func159,Tryz.ntmps159
 go_wp2;refine bodyPost_ret (v:=.tuple #[.agg #[.int .i64 0,.int .i64 0,.slice none 0 0],.int .i64 n]) (by simp [results,Tryz.results159,go_sem]) rfl ⟨rfl,?_⟩
 exact (Below.refl _ _).alloc (Nat.le_refl _) _
theorem zcS (v sv:Value) (z:Zn) (st:Int) (l:List UInt8) (K K':Nat→Prop) (w:World) (hz:IsZ w K v z) (hs:IsB w K' sv l) :
 Calls Tryz.prog 158 #[v,.int .i64 st,sv] w fun e w'=>∃ v',e=.returned v'∧OwnZ w' w.heap.size v' ⟨st,z.fe,l⟩∧Below w.heap.size w w':=by
 obtain ⟨A,c,rfl,hsb⟩:=hz;have hs2:=hs;obtain ⟨A2,c2,rfl,_⟩:=hs;unfold zv;go_enter Tryz.func158,Tryz.ntmps158
 go_wp2_with fail;go_region_with (go_at_call 66;refine (zay _ l K' _ (by first | exact (hs2.alloc _).alloc _ | exact ((hs2.alloc _).alloc _).drew)).mono ?_;rintro e w1 ⟨A3,c3,rfl,hown1,hb1⟩;obtain ⟨hc1,hf1⟩:=zgY hb1)
 all_goals
  go_wp2;refine bodyPost_ret (v:=zv ⟨st,z.fe,l⟩ A3 c3) ?_ rfl ⟨_,rfl,⟨A3,c3,rfl,?_⟩,?_⟩
  · simp [results,Tryz.results158,go_sem,zv,hc1]
  · simp at hown1
    exact zbq hown1 (by omega) (by omega)
  · exact zad (((((Below.refl _ _).alloc (Nat.le_refl _) _).alloc (by simp) _).drew).trans (hb1.mono (by simp;omega))) (by omega)
theorem zhg (v sv:Value) (z:Zn) (most:Int) (l:List UInt8) (K K':Nat→Prop) (w:World) (hz:IsZ w K v z) (hs:IsB w K' sv l) (hsum:z.d.length+l.length≤140737488355328) :
 Calls Tryz.prog 156 #[v,.int .i64 most,sv] w fun e w'=>∃ v',e=.returned v'∧OwnZ w' w.heap.size v' (zcv z most l)∧Below w.heap.size w w':=by
 have hz0:=hz;obtain ⟨A,c,rfl,hsb⟩:=hz;obtain ⟨_,hr1,hlc1,hc1',hl1⟩:=hsb.open_;obtain ⟨A2,c2,rfl,hr2,hlc2,hc2,hl2⟩:=hs;have h1:=hr1.more (K':=fun b=>K b∨K' b) (fun _ h=>.inl h)
 have h2:=hr2.more (K':=fun b=>K b∨K' b) (fun _ h=>.inr h)
 generalize hKK:(fun b=>K b∨K' b)=KK at h1 h2
 clear hKK hr1 hr2;unfold zv;obtain ⟨st',hst⟩:∃ s,s=(zcv z most l).st:=⟨_,rfl⟩;have hcase:(((z.d.length:Int)+l.length == most)=true∧st'=4)∨(((z.d.length:Int)+l.length == most)=false ∧
  (((l.length:Int) == 0)=true∧st'=z.st∨((l.length:Int) == 0)=false∧((z.st != 2)=false∧st'=z.st∨(z.st != 2)=true∧st'=1))):=by
  rw [hst];unfold zcv;simp only [beq_iff_eq,beq_eq_false_iff_ne,bne_iff_ne,bne_eq_false_iff_eq];by_cases c1:(z.d.length:Int)+l.length=most
  · rw [if_pos c1];exact .inl ⟨c1,rfl⟩
  · rw [if_neg c1]
    refine .inr ⟨c1,?_⟩;by_cases c2:l.length=0
    · rw [if_pos c2];exact .inl ⟨by omega,rfl⟩
    · rw [if_neg c2]
      refine .inr ⟨by omega,?_⟩
      by_cases c3:z.st=2
      · rw [if_pos c3];exact .inl ⟨c3,c3.symm⟩
      · rw [if_neg c3];exact .inr ⟨c3,rfl⟩
 have HST:=Lib.hid hst;clear hst;have fin:zcv z most l=⟨st',z.fe,z.d++l⟩:=by rw [HST.out];rfl
 have HF:=Lib.hid fin;clear fin;go_enter Tryz.func156,Tryz.ntmps156
 go_upto_block 0 with fail
 go_cut [7] (fun s7 wx=>s7=.int .i64 st'∧wx=(w.alloc (.cells #[.int .i64 z.st,.int .i64 z.fe,.slice A z.d.length c] 126)).alloc (.cells #[.int .i64 0,.int .i64 0,.slice none 0 0] 126))
 case first=>
  rcases hcase with ⟨hb1,hst⟩ | ⟨hb1,⟨hb2,hst⟩ | ⟨hb2,⟨hb3,hst⟩ | ⟨hb3,hst⟩⟩⟩
  all_goals
   obtain rfl:=hst;go_wp2;go_meet;exact ⟨rfl,rfl⟩
 case rest=>
  obtain ⟨rfl,rfl⟩:=hcut;clear hcase;go_wp2_with fail;go_region_with (first
   | (go_at_call 181;refine (zeP _ c c2 A A2 z.d l KK _ ?_ ?_ ?_ hsum).mono ?_;(first | exact (za6.new (by simp) rfl rfl).more (fun _ _=>trivial) | exact ((za6.new (by simp) rfl rfl).drew).more (fun _ _=>trivial));(first | exact ((h1.alloc _).alloc _).alloc _ | exact (((h1.alloc _).alloc _).alloc _).drew);(first | exact ((h2.alloc _).alloc _).alloc _ | exact (((h2.alloc _).alloc _).alloc _).drew);rintro e w1 ⟨A3,c3,rfl,hown1,hb1⟩;obtain ⟨hc1,hf1⟩:=zgY hb1)
   | (go_at_call 158;refine (zcS _ _ z _ (z.d++l) K (fun b=>w.heap.size≤b) _ ?_ ?_).mono ?_;(first | exact (((hz0.alloc _).alloc _).alloc _).drew.step hb1);(exact ⟨A3,c3,by simp,(za6.of_own_ge hown1).more (by intro b hb;simp at hb;omega),zaJ hown1,zar hown1,by simpa using hsum⟩);rintro e w2 ⟨v2,rfl,⟨A4,c4,rfl,hown2⟩,hb2⟩;obtain ⟨hc2',hf2⟩:=zgY hb2;have hz2:=hb1.size;simp at hz2;have hz20:w.heap.size<w1.heap.size:=(by omega);have hz21:w.heap.size+1<w1.heap.size:=(by omega);unfold zv))
  all_goals
   go_wp2;simp at hown2;refine bodyPost_ret (v:=zv ⟨st',z.fe,z.d++l⟩ A4 c4) (by simp [results,Tryz.results156,go_sem,zv,hc2',hc1,hz21]) rfl ⟨_,rfl,?_,?_⟩
   · rw [HF.out]
     exact ⟨A4,c4,rfl,by simpa using zbq hown2 (by omega) (by omega)⟩
   · exact zad (((((Below.refl _ _).alloc (Nat.le_refl _) _).alloc (by simp) _).alloc (by simp;omega) _).drew.trans ((hb1.mono (by simp;omega)).trans (hb2.mono (by omega)))) (by omega)
theorem zji (v:Value) (z:Zn) (K:Nat→Prop) (w:World) (hz:IsZ w K v z) :
 Calls Tryz.prog 101 #[v] w fun e w'=>∃ v',e=.returned (.tuple #[v',.int .i64 0])∧OwnZ w' w.heap.size v' (finZ z)∧Below w.heap.size w w':=by
 have hz0:=hz;obtain ⟨A,c,rfl,hsb⟩:=hz;have hl1:=hsb.len;have W0:Below w.heap.size w ((w.alloc (.cells #[.int .i64 z.st,.int .i64 z.fe,.slice A z.d.length c] 126)).alloc (.cells #[.int .i64 0,.int .i64 0,.slice none 0 0] 126)):=((Below.refl _ _).alloc (Nat.le_refl _) _).alloc (by simp) _
 unfold zv;go_enter Tryz.func101,Tryz.ntmps101
 go_wp2_with (go_at_call 158;refine (zcS _ _ z 4 z.d K K _ ((hz0.alloc _).alloc _) ((hsb.alloc _).alloc _)).mono ?_;rintro e w1 ⟨v1,rfl,⟨A4,c4,rfl,hown1⟩,hb1⟩;have Bb:=(Blk.new (g:=w.heap.size+1) _ _ _ (by simp)).step hb1;obtain ⟨qb,fb⟩:=Bb.rules;unfold zv)
 have hW:=W0.trans (hb1.mono W0.size);refine bodyPost_ret (v:=.tuple #[zv ⟨4,z.fe,z.d⟩ A4 c4,.int .i64 0]) (by simp [results,Tryz.results101,go_sem,zv,qb]) rfl ⟨_,rfl,⟨A4,c4,rfl,zbq hown1 (by simp) (by simp;omega)⟩,?_⟩
 exact zad hW (by omega)
theorem zkA (v:Value) (z:Zn) (K:Nat→Prop) (w:World) (hz:IsZ w K v z) :
 Calls Tryz.prog 100 #[v] w fun e w'=>∃ v',e=.returned (.tuple #[v',.int .i64 0])∧OwnZ w' w.heap.size v' (rstZ z)∧Below w.heap.size w w':=by
 have hz0:=hz;obtain ⟨A,c,rfl,hsb⟩:=hz;have hl1:=hsb.len;have W0:Below w.heap.size w ((w.alloc (.cells #[.int .i64 z.st,.int .i64 z.fe,.slice A z.d.length c] 126)).alloc (.cells #[.int .i64 0,.int .i64 0,.slice none 0 0] 126)):=((Below.refl _ _).alloc (Nat.le_refl _) _).alloc (by simp) _
 unfold zv;go_enter Tryz.func100,Tryz.ntmps100
 go_wp2_with (go_at_call 158;refine (zcS _ _ z 0 [] K K _ ((hz0.alloc _).alloc _) (IsB.nil_ _ _)).mono ?_;rintro e w1 ⟨v1,rfl,⟨A4,c4,rfl,hown1⟩,hb1⟩;have Bb:=(Blk.new (g:=w.heap.size+1) _ _ _ (by simp)).step hb1;obtain ⟨qb,fb⟩:=Bb.rules;unfold zv)
 have hW:=W0.trans (hb1.mono W0.size);refine bodyPost_ret (v:=.tuple #[zv ⟨0,z.fe,[]⟩ A4 c4,.int .i64 0]) (by simp [results,Tryz.results100,go_sem,zv,qb]) rfl ⟨_,rfl,⟨A4,c4,rfl,zbq hown1 (by simp) (by simp;omega)⟩,?_⟩
 exact zad hW (by omega)
theorem zhq (v:Value) (z:Zn) (K:Nat→Prop) (w:World) (hz:IsZ w K v z) :
 Calls Tryz.prog 103 #[v] w fun e w'=>∃ v',e=.returned (.tuple #[v',.int .i64 (zbH z).2])∧OwnZ w' w.heap.size v' (zbH z).1∧Below w.heap.size w w':=by
 have hz0:=hz;obtain ⟨A,c,rfl,hsb⟩:=hz;have hl1:=hsb.len;have W0:Below w.heap.size w ((w.alloc (.cells #[.int .i64 z.st,.int .i64 z.fe,.slice A z.d.length c] 126)).alloc (.cells #[.int .i64 0,.int .i64 0,.slice none 0 0] 126)):=((Below.refl _ _).alloc (Nat.le_refl _) _).alloc (by simp) _
 unfold zv;unfold zbH;by_cases h0:z.st=0∨z.st=4
 · rw [if_pos h0]
   have hb:(z.st == 0)=true∨(z.st == 0)=false∧(z.st == 4)=true:=by simp;omega
   clear h0;rcases hb with h0 | ⟨h0,h4⟩
   all_goals
    go_enter Tryz.func103,Tryz.ntmps103
    go_wp2_with (go_at_call 159;refine (zdV _ _).mono ?_;rintro e w1 ⟨rfl,hb1⟩;have Bb:=(Blk.new (g:=w.heap.size+1) _ _ _ (by simp)).step hb1;obtain ⟨qb,fb⟩:=Bb.rules)
    have hW:=W0.trans (hb1.mono W0.size);refine bodyPost_ret (v:=.tuple #[.agg #[.int .i64 0,.int .i64 0,.slice none 0 0],.int .i64 41]) (by simp [results,Tryz.results103,go_sem,qb]) rfl ⟨_,rfl,OwnZ.zero _ _,?_⟩
    exact zad hW (by omega)
 · rw [if_neg h0]
   have h1:(z.st == 0)=false:=beq_eq_false_iff_ne.2 (fun h=>h0 (.inl h))
   have h4:(z.st == 4)=false:=beq_eq_false_iff_ne.2 (fun h=>h0 (.inr h))
   clear h0;by_cases hd:z.d.length=0
   · have hdb:((z.d.length:Int) == 0)=true:=beq_iff_eq.2 (by omega)
     rw [if_pos hd];clear hd;go_enter Tryz.func103,Tryz.ntmps103
     go_wp2_with (go_at_call 158;refine (zcS _ _ z 0 z.d K K _ ((hz0.alloc _).alloc _) ((hsb.alloc _).alloc _)).mono ?_;rintro e w1 ⟨v1,rfl,⟨A4,c4,rfl,hown1⟩,hb1⟩;have Bb:=(Blk.new (g:=w.heap.size+1) _ _ _ (by simp)).step hb1;obtain ⟨qb,fb⟩:=Bb.rules;unfold zv)
     have hW:=W0.trans (hb1.mono W0.size);refine bodyPost_ret (v:=.tuple #[zv ⟨0,z.fe,z.d⟩ A4 c4,.int .i64 0]) (by simp [results,Tryz.results103,go_sem,zv,qb]) rfl ⟨_,rfl,⟨A4,c4,rfl,zbq hown1 (by simp) (by simp;omega)⟩,?_⟩
     exact zad hW (by omega)
   · have hdb:((z.d.length:Int) == 0)=false:=beq_eq_false_iff_ne.2 (by omega)
     rw [if_neg hd];clear hd;go_enter Tryz.func103,Tryz.ntmps103
     go_wp2_with (go_at_call 158;refine (zcS _ _ z 3 z.d K K _ ((hz0.alloc _).alloc _) ((hsb.alloc _).alloc _)).mono ?_;rintro e w1 ⟨v1,rfl,⟨A4,c4,rfl,hown1⟩,hb1⟩;have Bb:=(Blk.new (g:=w.heap.size+1) _ _ _ (by simp)).step hb1;obtain ⟨qb,fb⟩:=Bb.rules;unfold zv)
     have hW:=W0.trans (hb1.mono W0.size);refine bodyPost_ret (v:=.tuple #[zv ⟨3,z.fe,z.d⟩ A4 c4,.int .i64 0]) (by simp [results,Tryz.results103,go_sem,zv,qb]) rfl ⟨_,rfl,⟨A4,c4,rfl,zbq hown1 (by simp) (by simp;omega)⟩,?_⟩
     exact zad hW (by omega)
theorem ziN (v:Value) (z:Zn) (most:Int) (K:Nat→Prop) (w:World) (hz:IsZ w K v z) :
 Calls Tryz.prog 102 #[v,.int .i64 most] w fun e w'=>∃ v',e=.returned (.tuple #[v',.int .i64 (zhX z most).2])∧OwnZ w' w.heap.size v' (zhX z most).1∧Below w.heap.size w w':=by
 have hz0:=hz;obtain ⟨A,c,rfl,hsb⟩:=hz;have hl1:=hsb.len;have W0:Below w.heap.size w ((w.alloc (.cells #[.int .i64 z.st,.int .i64 z.fe,.slice A z.d.length c] 126)).alloc (.cells #[.int .i64 0,.int .i64 0,.slice none 0 0] 126)):=((Below.refl _ _).alloc (Nat.le_refl _) _).alloc (by simp) _
 unfold zv;unfold zhX;by_cases hok:okZ z most
 · rw [if_neg (by simpa using hok)]
   have HC:Hid (chkZ z most=0):=Lib.hid (if_pos hok);clear hok;by_cases hst:z.st=4
   · rw [if_pos hst]
     have hsb4:(z.st == 4)=true:=beq_iff_eq.2 hst;clear hst;go_enter Tryz.func102,Tryz.ntmps102
     go_wp2_with (first | (go_at_call 87;refine (zc7 _ z most K _ ((hz0.alloc _).alloc _)).mono ?_;rintro e w2 ⟨rfl,hb2⟩;rw [HC.out];have Ba2:=((Blk.new w _ _ rfl).alloc _).step hb2;have Bb2:=(Blk.new (g:=w.heap.size+1) _ _ _ (by simp)).step hb2;obtain ⟨qa2,fa2⟩:=Ba2.rules;obtain ⟨qb2,fb2⟩:=Bb2.rules) | (go_at_call 159;refine (zdV _ _).mono ?_;rintro e w1 ⟨rfl,hb1⟩;have Bb:=Bb2.step hb1;obtain ⟨qb,fb⟩:=Bb.rules))
     have hW:=(W0.trans (hb2.mono W0.size)).trans (hb1.mono (W0.trans (hb2.mono W0.size)).size);refine bodyPost_ret (v:=.tuple #[.agg #[.int .i64 0,.int .i64 0,.slice none 0 0],.int .i64 41]) (by simp [results,Tryz.results102,go_sem,qb]) rfl ⟨_,rfl,OwnZ.zero _ _,?_⟩
     exact zad hW (by omega)
   · rw [if_neg hst]
     have hsb4:(z.st == 4)=false:=beq_eq_false_iff_ne.2 hst;clear hst;go_enter Tryz.func102,Tryz.ntmps102
     go_wp2_with (first | (go_at_call 87;refine (zc7 _ z most K _ ((hz0.alloc _).alloc _)).mono ?_;rintro e w2 ⟨rfl,hb2⟩;rw [HC.out];have Ba2:=((Blk.new w _ _ rfl).alloc _).step hb2;have Bb2:=(Blk.new (g:=w.heap.size+1) _ _ _ (by simp)).step hb2;obtain ⟨qa2,fa2⟩:=Ba2.rules;obtain ⟨qb2,fb2⟩:=Bb2.rules) | (go_at_call 158;refine (zcS _ _ z 2 z.d K K _ (((hz0.alloc _).alloc _).step hb2) (((hsb.alloc _).alloc _).step hb2)).mono ?_;rintro e w1 ⟨v1,rfl,⟨A4,c4,rfl,hown1⟩,hb1⟩;have Bb:=Bb2.step hb1;obtain ⟨qb,fb⟩:=Bb.rules;unfold zv))
     have h02:=W0.trans (hb2.mono W0.size);have hW:=h02.trans (hb1.mono h02.size);refine bodyPost_ret (v:=.tuple #[zv ⟨2,z.fe,z.d⟩ A4 c4,.int .i64 0]) (by simp [results,Tryz.results102,go_sem,zv,qb]) rfl ⟨_,rfl,⟨A4,c4,rfl,zbq hown1 Bb2.lt h02.size⟩,?_⟩
     exact zad hW (by omega)
 · rw [if_pos hok]
   have HC:Hid (chkZ z most=1):=Lib.hid (if_neg hok);clear hok;go_enter Tryz.func102,Tryz.ntmps102
   go_wp2_with (first | (go_at_call 87;refine (zc7 _ z most K _ ((hz0.alloc _).alloc _)).mono ?_;rintro e w2 ⟨rfl,hb2⟩;rw [HC.out];have Ba2:=((Blk.new w _ _ rfl).alloc _).step hb2;have Bb2:=(Blk.new (g:=w.heap.size+1) _ _ _ (by simp)).step hb2;obtain ⟨qa2,fa2⟩:=Ba2.rules;obtain ⟨qb2,fb2⟩:=Bb2.rules) | (go_at_call 159;refine (zdV _ _).mono ?_;rintro e w1 ⟨rfl,hb1⟩;have Bb:=Bb2.step hb1;obtain ⟨qb,fb⟩:=Bb.rules))
   have hW:=(W0.trans (hb2.mono W0.size)).trans (hb1.mono (W0.trans (hb2.mono W0.size)).size);refine bodyPost_ret (v:=.tuple #[.agg #[.int .i64 0,.int .i64 0,.slice none 0 0],.int .i64 1]) (by simp [results,Tryz.results102,go_sem,qb]) rfl ⟨_,rfl,OwnZ.zero _ _,?_⟩
   exact zad hW (by omega)
theorem zmf (v sv:Value) (z:Zn) (most keep:Int) (l:List UInt8) (K K':Nat→Prop) (w:World) (hz:IsZ w K v z) (hs:IsB w K' sv l) :
 Calls Tryz.prog 104 #[v,.int .i64 most,sv,.int .i64 keep] w fun e w'=>∃ v',e=.returned (.tuple #[v',.int .i64 (zhO z most l keep).2])∧OwnZ w' w.heap.size v' (zhO z most l keep).1∧Below w.heap.size w w':=by
 have hz0:=hz;obtain ⟨A,c,rfl,hsb⟩:=hz;have hl1:=hsb.len;have hl2:=hs.len;have hs0:=hs;obtain ⟨A2,c2,rfl,_,hlc2,hcc2,_⟩:=hs;clear hsb;have W0:Below w.heap.size w ((w.alloc (.cells #[.int .i64 z.st,.int .i64 z.fe,.slice A z.d.length c] 126)).alloc (.cells #[.int .i64 0,.int .i64 0,.slice none 0 0] 126)):=((Below.refl _ _).alloc (Nat.le_refl _) _).alloc (by simp) _
 unfold zv zhO;by_cases hr:zbh z most l=0
 · rw [if_neg (by simpa using hr)]
   obtain ⟨hok,hl0,hst,hfit⟩:=zcU hr;have hm:=hok.2.1;have HR:=Lib.hid hr;clear hr;clear hok hst;by_cases hk:0≤keep∧keep≤l.length
   · rw [if_pos hk]
     obtain ⟨hk0,hk1⟩:=hk;obtain ⟨k,rfl⟩:∃ k:Nat,keep=(k:Int):=⟨keep.toNat,by omega⟩
     rw [Int.toNat_natCast];have hkl:k≤l.length:=by omega
     have hkc:(k:Int)≤(c2:Int):=by omega
     have htl:(l.take k).length=k:=by rw [List.length_take];omega
     have HTL:=Lib.hid htl;clear htl;go_enter Tryz.func104,Tryz.ntmps104
     go_wp2_with (go_at_call 155;refine (zcG _ _ z most l K K' _ ((hz0.alloc _).alloc _) ((hs0.alloc _).alloc _)).mono ?_;rintro e w1 ⟨rfl,hb1⟩;rw [HR.out];have Ba:=((Blk.new w _ _ rfl).alloc _).step hb1;have Bb:=(Blk.new (g:=w.heap.size+1) _ _ _ (by simp)).step hb1;obtain ⟨qa,fa⟩:=Ba.rules;obtain ⟨qb,fb⟩:=Bb.rules)
     go_region_with (go_at_call 156;refine (zhg _ _ z most (l.take k) K K' _ ?_ ?_ (by rw [HTL.out];omega)).mono ?_;(first | exact (((hz0.alloc _).alloc _).step hb1).drew | exact ((hz0.alloc _).alloc _).step hb1);(first | exact ((((hs0.pre hkl).alloc _).alloc _).step hb1).drew | exact (((hs0.pre hkl).alloc _).alloc _).step hb1);rintro e w2 ⟨v2,rfl,⟨A4,c4,rfl,hown2⟩,hb2⟩;have Ba2:=Ba.drew.step hb2;have Bb2:=Bb.drew.step hb2;obtain ⟨qa2,fa2⟩:=Ba2.rules;obtain ⟨qb2,fb2⟩:=Bb2.rules;unfold zv)
     all_goals
      have hW:=W0.trans (hb1.mono W0.size);go_wp2;refine bodyPost_ret (v:=.tuple #[zv (zcv z most (l.take k)) A4 c4,.int .i64 0]) (by simp [results,Tryz.results104,go_sem,zv,qb2]) rfl ⟨_,rfl,⟨A4,c4,rfl,zbq hown2 Bb.lt hW.size⟩,?_⟩
      exact zad (hW.drew.trans (hb2.mono hW.size)) (by omega)
   · rw [if_neg hk]
     have hkk:(keep<0)∨¬keep<0∧(l.length:Int)<keep:=by omega
     clear hk;rcases hkk with hk | ⟨hk,hk2⟩
     all_goals
      go_enter Tryz.func104,Tryz.ntmps104
      go_wp2_with (first | (go_at_call 155;refine (zcG _ _ z most l K K' _ ((hz0.alloc _).alloc _) ((hs0.alloc _).alloc _)).mono ?_;rintro e w1 ⟨rfl,hb1⟩;rw [HR.out];have Bb:=(Blk.new (g:=w.heap.size+1) _ _ _ (by simp)).step hb1;obtain ⟨qb,fb⟩:=Bb.rules) | (go_at_call 159;refine (zdV _ _).mono ?_;rintro e w2 ⟨rfl,hb2⟩;have Bb2:=Bb.step hb2;obtain ⟨qb2,fb2⟩:=Bb2.rules))
      have hW:=(W0.trans (hb1.mono W0.size)).trans (hb2.mono (W0.trans (hb1.mono W0.size)).size);refine bodyPost_ret (v:=.tuple #[.agg #[.int .i64 0,.int .i64 0,.slice none 0 0],.int .i64 1]) (by simp [results,Tryz.results104,go_sem,qb2]) rfl ⟨_,rfl,OwnZ.zero _ _,?_⟩
      exact zad hW (by omega)
 · rw [if_pos hr]
   obtain ⟨r,hre⟩:∃ r,r=zbh z most l:=⟨_,rfl⟩;rw [←hre] at hr ⊢;have HE:=Lib.hid hre;clear hre;have hrb:(r != 0)=true:=by simpa using hr
   clear hr;go_enter Tryz.func104,Tryz.ntmps104
   go_wp2_with (first | (go_at_call 155;refine (zcG _ _ z most l K K' _ ((hz0.alloc _).alloc _) ((hs0.alloc _).alloc _)).mono ?_;rintro e w1 ⟨rfl,hb1⟩;rw [←HE.out];have Bb:=(Blk.new (g:=w.heap.size+1) _ _ _ (by simp)).step hb1;obtain ⟨qb,fb⟩:=Bb.rules) | (go_at_call 159;refine (zdV _ _).mono ?_;rintro e w2 ⟨rfl,hb2⟩;have Bb2:=Bb.step hb2;obtain ⟨qb2,fb2⟩:=Bb2.rules))
   have hW:=(W0.trans (hb1.mono W0.size)).trans (hb2.mono (W0.trans (hb1.mono W0.size)).size);refine bodyPost_ret (v:=.tuple #[.agg #[.int .i64 0,.int .i64 0,.slice none 0 0],.int .i64 r]) (by simp [results,Tryz.results104,go_sem,qb2]) rfl ⟨_,rfl,OwnZ.zero _ _,?_⟩
   exact zad hW (by omega)
theorem zmp (v:Value) (z:Zn) (off n:Int) (K:Nat→Prop) (w:World) (hz:IsZ w K v z) (ho:off≤9223372036854775807) :
 Calls Tryz.prog 99 #[v,.int .i64 off,.int .i64 n] w fun e w'=>∃ v',e=.returned (.tuple #[v',.int .i64 (zii z off n).2])∧OwnB w' w.heap.size v' (zii z off n).1∧Below w.heap.size w w':=by
 obtain ⟨A,c,rfl,hsb⟩:=hz;obtain ⟨_,_,hlc,hcc,hl1⟩:=hsb.open_;unfold zv zii;by_cases hk:0≤off∧0≤n∧off+n≤z.d.length
 · rw [if_pos hk]
   obtain ⟨hk0,hk1,hk2⟩:=hk;obtain ⟨i,rfl⟩:∃ i:Nat,off=(i:Int):=⟨off.toNat,by omega⟩
   obtain ⟨k,rfl⟩:∃ i:Nat,n=(i:Int):=⟨n.toNat,by omega⟩
   rw [Int.toNat_natCast,Int.toNat_natCast];have hik:i+k≤z.d.length:=by omega
   by_cases hci:c=i
   · subst hci
     have hk0':k=0:=by omega
     subst hk0';rw [List.take_zero];go_enter Tryz.func99,Tryz.ntmps99
     go_wp2_with (go_at_call 66;refine (zay _ [] (fun _=>True) _ ?_).mono ?_;(exact ⟨_,_,rfl,⟨rfl,fun h=>absurd h (by simp)⟩,by simp,by simp,by simp⟩);rintro e w1 ⟨A3,c3,rfl,hown1,hb1⟩)
     go_ret2;exact ⟨_,rfl,⟨A3,c3,rfl,zac hown1 (by simp)⟩,((Below.refl _ _).alloc (Nat.le_refl _) _).trans (hb1.mono (by simp))⟩
   · have hB:=hsb.mid (i:=i) (k:=k) (c':=c-i) hik (by omega) (by omega)
     generalize (z.d.drop i).take k=m at hB ⊢;go_enter Tryz.func99,Tryz.ntmps99
     go_wp2_with (go_at_call 66;refine (zay _ _ K _ (hB.alloc _)).mono ?_;rintro e w1 ⟨A3,c3,rfl,hown1,hb1⟩);go_ret2;exact ⟨_,rfl,⟨A3,c3,rfl,zac hown1 (by simp)⟩,((Below.refl _ _).alloc (Nat.le_refl _) _).trans (hb1.mono (by simp))⟩
 · rw [if_neg hk]
   have hkk:off<0∨¬off<0∧n<0∨¬off<0∧¬n<0∧(z.d.length:Int)<off∨¬off<0∧¬n<0∧¬(z.d.length:Int)<off∧(z.d.length:Int)-off<n:=by omega
   clear hk;rcases hkk with h1 | ⟨h1,h2⟩ | ⟨h1,h2,h3⟩ | ⟨h1,h2,h3,h4⟩
   all_goals
    go_enter Tryz.func99,Tryz.ntmps99
    go_wp2;go_ret2;exact ⟨_,rfl,⟨none,0,rfl,World.ownsRow_nil _ _ _ _⟩,(Below.refl _ _).alloc (Nat.le_refl _) _⟩
theorem zg1 (v sv:Value) (z:Zn) (most:Int) (l:List UInt8) (K K':Nat→Prop) (w:World) (hz:IsZ w K v z) (hs:IsB w K' sv l) :
 Calls Tryz.prog 95 #[v,.int .i64 most,sv] w fun e w'=>∃ v',e=.returned (.tuple #[v',.int .i64 (appZ z most l).2.1,.int .i64 (appZ z most l).2.2])∧OwnZ w' w.heap.size v' (appZ z most l).1∧Below w.heap.size w w':=by
 have hz0:=hz;obtain ⟨A,c,rfl,hsb⟩:=hz;have hl1:=hsb.len;have hl2:=hs.len;have hs0:=hs;obtain ⟨A2,c2,rfl,_⟩:=hs;clear hsb;unfold zv appZ;by_cases hr:zbh z most l=0
 · rw [if_pos hr]
   obtain ⟨hok,hl0,hst,hfit⟩:=zcU hr;have hm:=hok.2.1;have HR:=Lib.hid hr;clear hr;clear hok hst;go_enter Tryz.func95,Tryz.ntmps95
   go_wp2_with (go_at_call 155;refine (zcG _ _ z most l K K' _ ((hz0.alloc _).alloc _) ((hs0.alloc _).alloc _)).mono ?_;rintro e w1 ⟨rfl,hb1⟩;rw [HR.out];have Ba:=((Blk.new w _ _ rfl).alloc _).step hb1;have Bb:=(Blk.new (g:=w.heap.size+1) _ _ _ (by simp)).step hb1;obtain ⟨qa,fa⟩:=Ba.rules;obtain ⟨qb,fb⟩:=Bb.rules)
   go_region_with (go_at_call 156;refine (zhg _ _ z most l K K' _ ?_ ?_ (by omega)).mono ?_;(first | exact (((hz0.alloc _).alloc _).step hb1).drew | exact ((hz0.alloc _).alloc _).step hb1);(first | exact (((hs0.alloc _).alloc _).step hb1).drew | exact ((hs0.alloc _).alloc _).step hb1);rintro e w2 ⟨v2,rfl,⟨A4,c4,rfl,hown2⟩,hb2⟩;have Ba2:=Ba.drew.step hb2;have Bb2:=Bb.drew.step hb2;obtain ⟨qa2,fa2⟩:=Ba2.rules;obtain ⟨qb2,fb2⟩:=Bb2.rules;unfold zv)
   all_goals
    have hW:Below w.heap.size w w1:=(((Below.refl _ _).alloc (Nat.le_refl _) _).alloc (by simp) _).trans (hb1.mono (by simp;omega))
    go_wp2;refine bodyPost_ret (v:=.tuple #[zv (zcv z most l) A4 c4,.int .i64 z.d.length,.int .i64 0]) (by simp [results,Tryz.results95,go_sem,zv,qb2]) rfl ⟨_,rfl,⟨A4,c4,rfl,zbq hown2 Bb.lt hW.size⟩,?_⟩
    exact zad (hW.drew.trans (hb2.mono hW.size)) (by omega)
 · rw [if_neg hr]
   obtain ⟨r,hre⟩:∃ r,r=zbh z most l:=⟨_,rfl⟩;rw [←hre] at hr ⊢;have HE:=Lib.hid hre;clear hre;have hrb:(r != 0)=true:=by simpa using hr
   clear hr;go_enter Tryz.func95,Tryz.ntmps95
   go_wp2_with (go_at_call 155;refine (zcG _ _ z most l K K' _ ((hz0.alloc _).alloc _) ((hs0.alloc _).alloc _)).mono ?_;rintro e w1 ⟨rfl,hb1⟩;rw [←HE.out];have Bb:=(Blk.new (g:=w.heap.size+1) _ _ _ (by simp)).step hb1;obtain ⟨qb,fb⟩:=Bb.rules)
   have hW:Below w.heap.size w w1:=(((Below.refl _ _).alloc (Nat.le_refl _) _).alloc (by simp) _).trans (hb1.mono (by simp;omega))
   refine bodyPost_ret (v:=.tuple #[.agg #[.int .i64 0,.int .i64 0,.slice none 0 0],.int .i64 0,.int .i64 r]) (by simp [results,Tryz.results95,go_sem,qb]) rfl ⟨_,rfl,OwnZ.zero _ _,?_⟩
   exact zad hW (by omega)
end Go.Proofs.YthblkdnijhphhaaGreat
