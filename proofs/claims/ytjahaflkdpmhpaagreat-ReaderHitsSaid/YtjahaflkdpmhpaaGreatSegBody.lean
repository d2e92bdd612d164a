/- A part of the proof. -/
import Derived.Test.YtjahaflkdpmhpaaGreatCrc
import Derived.Test.YtjahaflkdpmhpaaGreatFixPut
import Derived.Test.YtjahaflkdpmhpaaGreatLawsN
set_option maxHeartbeats 1600000
set_option maxRecDepth 100000
namespace Go.Proofs.YtjahaflkdpmhpaaGreat
open Go.RowKit
def frameL (x:List UInt8):List UInt8 × Int:=if (vecL x).2≠0 then ([],(vecL x).2) else ((vecL x).1++fixL (crcL x),0)
def takeF (b:List UInt8):List UInt8 × Int × Bool:=
 if (takeVecL b).2.2≠0 then ([],0,false)
 else ((takeVecL b).1,(takeVecL b).2.1+4,decide ((takeFL (b.drop (takeVecL b).2.1.toNat)).2=0) && decide ((takeFL (b.drop (takeVecL b).2.1.toNat)).1=crcL (takeVecL b).1))
theorem TabC.turned {w w':World} {g:Nat} {n s:Int} {t:Nat→Nat} {u:Int} {S:Nat→Prop} (h:TabC w g n s t u) (hb:Turned w w' S) (hS:¬S g):TabC w' g n s t u:=by
 have hc:∀ o,w'.cell? ⟨g,o,none⟩=w.cell? ⟨g,o,none⟩:=fun o=>World.cell?_of_block (hb.block g h.lt hS)
 have hf:∀ o,w'.frozen? ⟨g,o,none⟩=w.frozen? ⟨g,o,none⟩:=fun o=>World.frozen?_of_block (hb.block g h.lt hS)
 exact ⟨Nat.lt_of_lt_of_le h.lt hb.size,fun o=>(hf o).trans (h.free o),(hc _).trans h.done,(hc _).trans h.lock,fun i hi=>(hc _).trans (h.tab i hi),(hc _).trans h.used⟩
theorem TabOk.turned {w w':World} {g:Nat} {S:Nat→Prop} (h:TabOk w g) (hb:Turned w w' S) (hS:¬S g):TabOk w' g:=by
 obtain ⟨n,t,u,h1,h2⟩:=h;exact ⟨n,t,u,h1.turned hb hS,h2⟩
theorem TabOk.below {w w':World} {g B:Nat} (h:TabOk w g) (hb:Below B w w') (hg:g<B):TabOk w' g:=
 h.turned (S:=fun k=>B≤k) ⟨hb.os,hb.tape,hb.output,hb.size,fun k _ hn=>hb.block k (by omega)⟩ (by omega)
theorem Turned.later {w w' w'':World} {S:Nat→Prop} {B:Nat} (h:Turned w w' S) (hb:Below B w' w'') (hB:w.heap.size≤B):Turned w w'' S:=
 ⟨hb.os.trans h.os,hb.tape.trans h.tape,hb.output.trans h.output,Nat.le_trans h.size hb.size,fun k hk hn=>(hb.block k (by omega)).trans (h.block k hk hn)⟩
theorem own_turned {w w':World} {base g:Nat} {e:TypeId} {size:Nat} {v:Value} {n:Nat} {xs:List Value} (h:w.ownsRow base e size v n xs) (ht:Turned w w' (· = g)) (hg:g<base):w'.ownsRow base e size v n xs:=
 h.kept (row:=some g) ⟨ht.os,ht.tape,ht.output,ht.size,fun k hk hn=>ht.block k hk (fun e=>hn (by rw [e]))⟩ (.inr (fun e=>by have:=own_lt h g e;omega))
theorem isL_single {w:World} {K:Nat→Prop} {v:Value} {x:List UInt8} (h:IsB w K v x) (t:TypeId):IsL Rp.bytes (w.alloc (.cells #[v] t)) (fun b=>b=w.heap.size∨K b) (.slice (some ⟨w.heap.size,0,none⟩) 1 1) [x]:=
 ⟨_,_,[v],rfl,(Reads.new (n:=1) (size:=1) rfl rfl rfl).more (fun _ h=>.inl h),⟨[v],[],rfl,⟨v,rfl,(h.alloc _).more (fun _ h=>.inr h)⟩,rfl⟩,Nat.le_refl _,by omega,by simp⟩
theorem frameL_le (x:List UInt8):(frameL x).1.length≤65560:=by
 unfold frameL vecL;by_cases h:x.length≤65536
 · have:=putL_len10 (n:=x.length) (by omega)
   simp [h,fixL];omega
 · simp [h]
theorem begin_any (w:World):Calls Tryz.prog 154 #[] w fun e w'=>∃ g,e=.returned (.agg #[.pointer (some ⟨g,0,none⟩)])∧w.heap.size≤g∧TabOk w' g∧Below w.heap.size w w':=by
 go_enter Tryz.func154,Tryz.ntmps154
 go_wp2_with (go_at_call 199;refine (new_any _).mono ?_;rintro e w1 ⟨rfl,hT1,hb1⟩;obtain ⟨r1,r2⟩:=((Blk.new w 247 #[.pointer none] rfl).step hb1).rules;have hlw:=((Blk.new w 247 #[.pointer none] rfl).step hb1).lt);have hs1:=hb1.size;simp only [World.size_alloc] at hs1 hT1;refine bodyPost_ret (v:=.agg #[.pointer (some ⟨w.heap.size+1,0,none⟩)]) (by simp [results,Tryz.results154,go_sem,r1,World.cell?_setCell_same]) rfl ⟨_,rfl,by omega,hT1.turned (S:=(· = w.heap.size)) ((Turned.refl w1 (· = w.heap.size)).set rfl 0 _) (by omega),Below.setCell ?_ (by dsimp only;omega) _⟩
 exact ((Below.refl _ _).alloc (Nat.le_refl _) _).trans (hb1.mono (by simp))
theorem put_frame (g:Nat) (v:Value) (x:List UInt8) (K:Nat→Prop) (w:World) (hT:TabOk w g) (hv:IsB w K v x) (hK:∀ k,K k→k≠g) :
 Calls Tryz.prog 155 #[.agg #[.pointer (some ⟨g,0,none⟩)],v] w fun e w'=>∃ A' c',e=.returned (.tuple #[.slice A' (frameL x).1.length c',.int .i64 (frameL x).2]) ∧
  w'.ownsRow w.heap.size 5 1 (.slice A' (frameL x).1.length c') (frameL x).1.length (cells8 (frameL x).1)∧TabOk w' g∧Turned w w' (· = g):=by
 obtain ⟨i0,hi,hz0,hz1,hz2⟩:=info_parts Tryz.info5;have hlen:=frameL_le x;have hgl:=hT.lt;unfold frameL at hlen ⊢;have hv0:=hv;obtain ⟨A,c,rfl,hlc0⟩:=hv;by_cases he:(vecL x).2=0
 · rw [if_neg (by omega)] at hlen ⊢
   have hcl:=crcL_lt x;have hfl:(fixL (crcL x)).length=4:=rfl;have HF:=Lib.hid hfl;clear hfl;have hf1:=cells8_one (fixL (crcL x));have happ:cells8 ((vecL x).1++fixL (crcL x))=cells8 (vecL x).1++cells8 (fixL (crcL x)):=by simp [cells8]
   have HAP:=Lib.hid happ;clear happ;have hl2:((vecL x).1++fixL (crcL x)).length=(vecL x).1.length+4:=by rw [List.length_append,HF.out]
   rw [hl2,HAP.out];rw [hl2] at hlen;have hfx:=fun W=>fixed_any (crcL x) W hcl
   generalize fixL (crcL x)=fx at hfx hf1 hl2;generalize hcx:crcL x=cx at hfx hcl;generalize hvx:vecL x=vx at he hlen hl2;obtain ⟨vb,ve⟩:=vx;simp only at he hlen hl2 ⊢;subst he;have HV:=Lib.hid hvx;have HC:=Lib.hid hcx;clear hvx hcx HF hl2;go_enter Tryz.func155,Tryz.ntmps155
   go_wp2_with fail;refine (wvec_any _ x K _ (hv0.alloc _)).mono ?_;rintro e w1 ⟨A1,c1,rfl,own1,hb1⟩;rw [HV.out] at own1 ⊢;simp only [World.size_alloc] at own1 ⊢;have hB:=(Blk.new w 247 #[.pointer (some ⟨g,0,none⟩)] rfl).step hb1;obtain ⟨r1,r2⟩:=hB.rules;have hs1:=hb1.size;simp only [World.size_alloc] at hs1;go_wp2_with fail;have hv2:=isL_single (hv0.step (((Below.refl _ _).alloc (Nat.le_refl _) _).trans (hb1.mono (by simp)))) 36
   have hb2:Below w.heap.size w (w1.alloc (.cells #[.slice A x.length c] 36)):=(((Below.refl _ _).alloc (Nat.le_refl _) _).trans (hb1.mono (by simp))).alloc (by omega) _
   refine (sum_any g _ [x] _ _ (hT.step hb2) hv2 (fun k hk=>by rcases hk with h | h;omega;exact hK k h)).mono ?_
   rintro e w3 ⟨rfl,hT3,hb3⟩;have own3:=own_turned (own1.alloc (.cells #[.slice A x.length c] 36)) hb3 (by omega)
   have hs3:=hb3.size;simp only [World.size_alloc] at hs3;rw [List.flatten_singleton,HC.out];have hT5:∀ W,Below w3.heap.size w3 W→TabOk W g:=fun W h=>hT3.step h
   go_wp2_with fail;refine (hfx _).mono ?_;rintro e w4 ⟨A5,c5,rfl,own5,hb5⟩;have hs5:=hb5.size;have own4:=own_below own3 hb5 (Nat.le_refl _);have hr5:=Reads.of_own own5;go_wp2_with (at_builtin;refine wpList_appN rfl _ _ _ rfl (w.heap.size+1) 5 i0 _ 1 1 Tryz.underlying36 hi hz0 hz1 hz2 rfl (by omega) rfl own4 rfl hr5 hf1 (by simp only [maxLen];omega) (by omega) (by omega) ?_;intro A7 c7 w7 own7 hg7)
   have hg7b:=hg7.below;go_ret2;exact ⟨A7,c7,rfl,own_base own7 (by omega),(hT3.step hb5).below hg7b (by omega),(((Turned.of hb2).trans hb3).step hb5).later hg7b (by omega)⟩
 · rw [if_pos he]
   generalize hvx:vecL x=vx at he hlen;obtain ⟨vb,ve⟩:=vx;simp only at he ⊢;have HV:=Lib.hid hvx;clear hvx hlen;have he':((ve:Int) != 0)=true:=by simp [he]
   go_enter Tryz.func155,Tryz.ntmps155
   go_wp2_with fail;refine (wvec_any _ x K _ (hv0.alloc _)).mono ?_;rintro e w1 ⟨A1,c1,rfl,own1,hb1⟩;rw [HV.out] at own1 ⊢;simp only at own1 ⊢;have hb2:Below w.heap.size w w1:=((Below.refl _ _).alloc (Nat.le_refl _) _).trans (hb1.mono (by simp))
   go_wp2;go_ret2;exact ⟨none,0,rfl,World.ownsRow_nil _ _ _ _,hT.step hb2,Turned.of hb2⟩
theorem takeF_any (g:Nat) (v:Value) (b:List UInt8) (K:Nat→Prop) (w:World) (hT:TabOk w g) (hv:IsB w K v b) :
 Calls Tryz.prog 210 #[.agg #[.pointer (some ⟨g,0,none⟩)],v] w fun e w'=>∃ A' c',e=.returned (.tuple #[.slice A' (takeF b).1.length c',.int .i64 (takeF b).2.1,.bool (takeF b).2.2]) ∧
  w'.ownsRow w.heap.size 5 1 (.slice A' (takeF b).1.length c') (takeF b).1.length (cells8 (takeF b).1)∧TabOk w' g∧Turned w w' (· = g):=by
 have hgl:=hT.lt;have hv0:=hv;obtain ⟨A,c,rfl,hlc0⟩:=hv;obtain ⟨hrc,hlc,hcc,hl47⟩:=hlc0;unfold takeF;by_cases he:(takeVecL b).2.2=0
 · rw [if_neg (by omega)]
   obtain ⟨vx,hvx⟩:∃ vx,takeVecL b=vx:=⟨_,rfl⟩;rw [hvx] at he ⊢;obtain ⟨x,n0,e0⟩:=vx;simp only at he ⊢;subst he;obtain ⟨j,rfl,hj1,hj2,_,hx64⟩:=takeVec_one hvx;have HV:=Lib.hid hvx;clear hvx;simp only [Int.toNat_natCast];obtain ⟨ok,hok⟩:∃ ok,(decide ((takeFL (b.drop j)).2=0) && decide ((takeFL (b.drop j)).1=crcL x))=ok:=⟨_,rfl⟩;rw [hok];obtain ⟨tf,htf⟩:∃ tf,takeFL (b.drop j)=tf:=⟨_,rfl⟩;simp only [htf] at hok;obtain ⟨p,e2⟩:=tf;simp only at hok;have HTF:=Lib.hid htf;clear htf;have HOK:=Lib.hid hok;clear hok;go_enter Tryz.func210,Tryz.ntmps210
   go_wp2_with fail;refine (takeVec_any _ b K _ (hv0.alloc _)).mono ?_;rintro e w1 ⟨A1,c1,rfl,own1,hb1⟩;rw [HV.out] at own1 ⊢;simp only [World.size_alloc] at own1 ⊢;have hB:=(Blk.new w 247 #[.pointer (some ⟨g,0,none⟩)] rfl).step hb1;have hs1:=hb1.size;simp only [World.size_alloc] at hs1;have hjc:(j:Int)≤(c:Int):=by omega
   have hcut:=cut_bytes hv0 hj2;obtain ⟨A3,hA3⟩:∃ A3,(if c=j then A else A.map (fun x=>x.add j))=A3:=⟨_,rfl⟩
   rw [hA3] at hcut;have hcutB:IsB w K (.slice A3 (b.length-j) (c-j)) (b.drop j):=⟨A3,c-j,by rw [List.length_drop],by rw [List.length_drop];exact hcut,by rw [List.length_drop];omega,by omega,by rw [List.length_drop];omega⟩
   have hb2:Below w.heap.size w w1:=((Below.refl _ _).alloc (Nat.le_refl _) _).trans (hb1.mono (by simp))
   replace hcutB:=hcutB.step hb2;have hcl:=crcL_lt x;clear hcut;go_wp2_with fail;refine (takeFixed_any _ (b.drop j) K _ hcutB).mono ?_;rintro e w2 ⟨rfl,hb3⟩;rw [HTF.out];simp only;have own2:=own_below own1 hb3 (Nat.le_refl _);have hs2:=hb3.size;have hB2:=hB.step hb3;obtain ⟨r1,r2⟩:=hB2.rules;have hb4:=hb2.trans (hb3.mono hb2.size);by_cases he2:e2=0
   · subst he2
     have hxB:IsB w2 (fun k=>w.heap.size+1≤k) (.slice A1 x.length c1) x:=⟨A1,c1,rfl,Reads.of_own_ge own2,own_cap own2,own_cap63 own2,by omega⟩
     have hv5:=isL_single hxB 36;have hb5:Below w.heap.size w (w2.alloc (.cells #[.slice A1 x.length c1] 36)):=hb4.alloc (by omega) _
     have own5:=own2.alloc (.cells #[.slice A1 x.length c1] 36);have hcx:=crcL_lt x;go_wp2_with fail;refine (sum_any g _ [x] _ _ (hT.step hb5) hv5 (fun k hk=>by rcases hk with h | h;omega;omega)).mono ?_
     rintro e w6 ⟨rfl,hT6,hb6⟩;have own6:=own_turned own5 hb6 (by omega)
     rw [List.flatten_singleton];by_cases hpc:p=crcL x
     · have hok:ok=true:=by rw [←HOK.out,decide_eq_true hpc];simp
       subst hok;have hpc':((p:Int) == (crcL x:Int))=true:=by simp [hpc]
       go_wp2;go_ret3
       exact ⟨A1,c1,rfl,own_base own6 (by omega),hT6,(Turned.of hb5).trans hb6⟩
     · have hok:ok=false:=by rw [←HOK.out,decide_eq_false hpc];simp
       subst hok;have hpc':((p:Int) == (crcL x:Int))=false:=by simp;omega
       go_wp2;go_ret3
       exact ⟨A1,c1,rfl,own_base own6 (by omega),hT6,(Turned.of hb5).trans hb6⟩
   · have he2':((e2:Int) == 0)=false:=by simp [he2]
     have hok:ok=false:=by rw [←HOK.out,decide_eq_false he2,Bool.false_and]
     subst hok;go_wp2;go_ret3
     exact ⟨A1,c1,rfl,own_base own2 (by omega),hT.step hb4,Turned.of hb4⟩
 · rw [if_pos he]
   obtain ⟨vx,hvx⟩:∃ vx,takeVecL b=vx:=⟨_,rfl⟩;rw [hvx] at he;obtain ⟨x,n0,e0⟩:=vx;simp only at he;have HV:=Lib.hid hvx;clear hvx;have he':((e0:Int) != 0)=true:=by simp [he]
   go_enter Tryz.func210,Tryz.ntmps210
   go_wp2_with fail;refine (takeVec_any _ b K _ (hv0.alloc _)).mono ?_;rintro e w1 ⟨A1,c1,rfl,own1,hb1⟩;rw [HV.out] at own1 ⊢;simp only at own1 ⊢;have hb2:Below w.heap.size w w1:=((Below.refl _ _).alloc (Nat.le_refl _) _).trans (hb1.mono (by simp))
   go_wp2;go_ret3
   exact ⟨none,0,rfl,World.ownsRow_nil _ _ _ _,hT.step hb2,Turned.of hb2⟩
end Go.Proofs.YtjahaflkdpmhpaaGreat
namespace Go.Proofs.YtjahaflkdpmhpaaGreat
open Go.RowKit Go.WideShapes Go.ChangeShapes Go.Deep
structure Hd where
 host:Int
 epoch:Int
 seq:Int
deriving DecidableEq
structure Rc where
 kind:Int
 lba:Int
 n:Int
 ver:Int
 zone:Int
 off:Int
 data:List UInt8
deriving DecidableEq
def Rp.hd:Rp Hd:=⟨3,fun _ _ cs o=>cs=[.int .i64 o.host,.int .i64 o.epoch,.int .i64 o.seq]∧(-9223372036854775808≤o.host∧o.host≤9223372036854775807)∧(-9223372036854775808≤o.epoch∧o.epoch≤9223372036854775807)∧(-9223372036854775808≤o.seq∧o.seq≤9223372036854775807),
 by rintro _ _ _ _ ⟨rfl,r0,r1,r2⟩;rfl,
 fun h _=>h,
 fun h _=>h,
 by
  rintro _ _ _ _ ⟨rfl,r0,r1,r2⟩ u hu;simp only [List.mem_cons,List.not_mem_nil,or_false] at hu;rcases hu with rfl | rfl | rfl <;> first | rfl | assumption⟩
def Rp.rc:Rp Rc:=⟨7,fun w K cs o=>∃ v_data,cs=[.int .i64 o.kind,.int .i64 o.lba,.int .i64 o.n,.int .i64 o.ver,.int .i64 o.zone,.int .i64 o.off,v_data]∧IsB w K v_data o.data∧(-9223372036854775808≤o.kind∧o.kind≤9223372036854775807)∧(-9223372036854775808≤o.lba∧o.lba≤9223372036854775807)∧(-9223372036854775808≤o.n∧o.n≤9223372036854775807)∧(-9223372036854775808≤o.ver∧o.ver≤9223372036854775807)∧(-9223372036854775808≤o.zone∧o.zone≤9223372036854775807)∧(-9223372036854775808≤o.off∧o.off≤9223372036854775807),
 by rintro _ _ _ _ ⟨v_data,rfl,h_data,r0,r1,r2,r3,r4,r5⟩;rfl,
 by rintro _ _ _ _ _ ⟨v_data,e,h_data,r0,r1,r2,r3,r4,r5⟩ hk;exact ⟨v_data,e,h_data.keep hk,r0,r1,r2,r3,r4,r5⟩,
 by rintro _ _ _ _ _ ⟨v_data,e,h_data,r0,r1,r2,r3,r4,r5⟩ hk;exact ⟨v_data,e,h_data.more hk,r0,r1,r2,r3,r4,r5⟩,
 by
  rintro _ _ _ _ ⟨v_data,rfl,h_data,r0,r1,r2,r3,r4,r5⟩ u hu;have o_data:=IsB.one h_data;simp only [List.mem_cons,List.not_mem_nil,or_false] at hu;rcases hu with rfl | rfl | rfl | rfl | rfl | rfl | rfl <;> first | rfl | assumption⟩
end Go.Proofs.YtjahaflkdpmhpaaGreat
namespace Go.Proofs.YtjahaflkdpmhpaaGreat
def headN (h:Hd):List Int:=[0,h.host,h.epoch,h.seq]
def recN (r:Rc):List Int:=[r.kind,r.lba,r.n,r.ver,r.zone,r.off]
def headL (h:Hd):List UInt8 × Int:=if (numsL (headN h)).2≠0 then ([],(numsL (headN h)).2) else frameL (numsL (headN h)).1
def checkL (r:Rc):Int:=
 if r.kind<1∨5<r.kind then 1
 else if r.lba<0∨r.n<0∨r.ver<0∨r.zone<0∨r.off<0 then 1
 else if ¬(r.kind=3∨r.kind=5)∧(r.zone≠0∨r.off≠0) then 1
 else if r.kind=4 then (if r.lba≠0∨r.n≠0 then 1 else if 32768<r.data.length then 2 else 0)
 else if r.n<1∨1099511627776<r.n∨1099511627776-r.n<r.lba then 1
 else if r.kind=1∨r.kind=5 then (if 256<r.n∨(r.data.length:Int)≠r.n*16 then 1 else 0)
 else if 0<r.data.length then 1 else 0
def recL (r:Rc):List UInt8 × Int:=
 if checkL r≠0 then ([],checkL r)
 else if (numsL (recN r)).2≠0 then ([],(numsL (recN r)).2)
 else if (vecL r.data).2≠0 then ([],(vecL r.data).2)
 else frameL ((numsL (recN r)).1++(vecL r.data).1)
def headerL (x:List UInt8):Hd × Bool:=
 if (takeNumsL x 4).2.2≠0 then (⟨0,0,0⟩,false)
 else if (takeNumsL x 4).2.1≠x.length∨(takeNumsL x 4).1.getD 0 0≠0 then (⟨0,0,0⟩,false)
 else (⟨(takeNumsL x 4).1.getD 1 0,(takeNumsL x 4).1.getD 2 0,(takeNumsL x 4).1.getD 3 0⟩,true)
def r0c:Rc:=⟨0,0,0,0,0,0,[]⟩
def recordL (x:List UInt8):Rc × Bool:=
 if (takeNumsL x 6).2.2≠0 then (r0c,false)
 else
  let l:=(takeNumsL x 6).1
  let y:=takeVecL (x.drop (takeNumsL x 6).2.1.toNat)
  if y.2.2≠0∨(takeNumsL x 6).2.1+y.2.1<x.length then (r0c,false)
  else
   let r:Rc:=⟨l.getD 0 0,l.getD 1 0,l.getD 2 0,l.getD 3 0,l.getD 4 0,l.getD 5 0,y.1⟩
   (r,decide (checkL r=0))
structure Fd where
 head:Bool
 h:Hd
 l:List Rc
 at_:List Int
 used:Nat
def f0d:Fd:=⟨false,⟨0,0,0⟩,[],[],0⟩
def stepS (b:List UInt8) (f:Fd):Option Fd:=
 let t:=takeF (b.drop f.used)
 if t.2.2=false then none
 else if f.head=false then
  if (headerL t.1).2=false then none else some ⟨true,(headerL t.1).1,f.l,f.at_,f.used+t.2.1.toNat⟩
 else if (recordL t.1).2=false then none
 else some ⟨true,f.h,f.l++[(recordL t.1).1],f.at_++[(f.used:Int)],f.used+t.2.1.toNat⟩
def iterS (b:List UInt8):Nat→Fd→Fd
 | 0,f=>f
 | n+1,f=>match stepS b f with
   | none=>f
   | some g=>iterS b n g
def scanL (b:List UInt8):Fd:=iterS b (b.length+1) f0d
theorem takeF_inv {b x:List UInt8} {n:Int} (h:takeF b=(x,n,true)):∃ j:Nat,n=j∧5≤j∧j≤b.length∧frameL x=(b.take j,0)∧x.length≤65536:=by
 unfold takeF at h;split at h
 · simp at h
 · rename_i h0
   obtain ⟨y,hy⟩:∃ y,takeVecL b=y:=⟨_,rfl⟩;obtain ⟨x',n',e'⟩:=y;simp only [hy] at h h0;have he:e'=0:=Decidable.not_not.1 h0;subst he;obtain ⟨j,rfl,h1,h2,h3,h4⟩:=takeVec_one hy;simp only [Prod.mk.injEq,Bool.and_eq_true,decide_eq_true_eq,Int.toNat_natCast] at h;obtain ⟨rfl,rfl,h5,h6⟩:=h;have h7:4≤(b.drop j).length:=by
    rcases Nat.lt_or_ge (b.drop j).length 4 with h | h
    · rw [takeFL_short h] at h5;simp at h5
    · exact h
   obtain ⟨h8,_,_⟩:=fix_take h7;rw [List.length_drop] at h7;refine ⟨j+4,by omega,by omega,by omega,?_,h4⟩
   unfold frameL;rw [h3];simp only [ne_eq,not_true_eq_false,if_false,Prod.mk.injEq,and_true];rw [←h6,h8,List.take_add]
theorem stepS_used {b:List UInt8} {f g:Fd} (hf:f.used≤b.length) (h:stepS b f=some g):f.used+5≤g.used∧g.used≤b.length:=by
 unfold stepS at h;obtain ⟨t,ht⟩:∃ t,takeF (b.drop f.used)=t:=⟨_,rfl⟩;obtain ⟨x,n,ok⟩:=t;simp only [ht] at h;cases ok with
 | false=>simp at h
 | true=>
   obtain ⟨j,rfl,h1,h2,_⟩:=takeF_inv ht;rw [List.length_drop] at h2;simp only [Int.toNat_natCast,Bool.true_eq_false,if_false] at h;split at h
   · split at h
     · cases h
     · cases h;constructor <;> (simp only;omega)
   · split at h
     · cases h
     · cases h;constructor <;> (simp only;omega)
theorem iterS_fuel {b:List UInt8}:∀ (n m:Nat) (f:Fd),f.used≤b.length→b.length+1≤n+f.used→b.length+1≤m+f.used→iterS b n f=iterS b m f
 | 0,_,f,h,h1,_=>by omega
 | _,0,f,h,_,h2=>by omega
 | n+1,m+1,f,h,h1,h2=>by
   unfold iterS;cases hs:stepS b f with
   | none=>rfl
   | some g=>
     have hu:=stepS_used h hs;exact iterS_fuel n m g hu.2 (by omega) (by omega)
def OnWay (b:List UInt8) (f:Fd):Prop:=f.used≤b.length∧iterS b (b.length+1) f=scanL b
theorem OnWay.start (b:List UInt8):OnWay b f0d:=⟨Nat.zero_le _,rfl⟩
theorem OnWay.next {b:List UInt8} {f g:Fd} (h:OnWay b f) (hs:stepS b f=some g):OnWay b g∧f.used+5≤g.used:=by
 have hu:=stepS_used h.1 hs;refine ⟨⟨hu.2,?_⟩,hu.1⟩;rw [←h.2];have e:iterS b (b.length+1) f=iterS b b.length g:=by
  conv=>lhs;unfold iterS
  rw [hs]
 rw [e];exact iterS_fuel _ _ _ hu.2 (by omega) (by omega)
theorem OnWay.stop {b:List UInt8} {f:Fd} (h:OnWay b f) (hs:stepS b f=none):scanL b=f:=by
 rw [←h.2];unfold iterS;rw [hs]
end Go.Proofs.YtjahaflkdpmhpaaGreat
namespace Go.Proofs.YtjahaflkdpmhpaaGreat
open Go.RowKit
theorem isL_ints {w:World} {l:List Int} {cs:Array Value} {n:Nat} (hI:I63 l) (t:TypeId) (hcs:cs.toList=l.map I64) (hn:l.length=n) (h47:n≤1000) :
 IsL Rp.int (w.alloc (.cells cs t)) (fun b=>b=w.heap.size) (.slice (some ⟨w.heap.size,0,none⟩) n n) l:=by
 subst hn;exact ⟨_,_,l.map I64,rfl,Reads.new (n:=l.length) (size:=1) rfl hcs (by have:=congrArg List.length hcs;simpa using this),cells_ints hI,Nat.le_refl _,by omega,by omega⟩
def hdV (h:Hd):Value:=.agg #[.int .i64 h.host,.int .i64 h.epoch,.int .i64 h.seq]
def OkHd (h:Hd):Prop:=(-9223372036854775808≤h.host∧h.host≤9223372036854775807)∧(-9223372036854775808≤h.epoch∧h.epoch≤9223372036854775807)∧(-9223372036854775808≤h.seq∧h.seq≤9223372036854775807)
theorem OkHd.i63 {h:Hd} (hh:OkHd h):I63 (headN h):=by
 obtain ⟨h1,h2,h3⟩:=hh;intro n hn;simp only [headN,List.mem_cons,List.not_mem_nil,or_false] at hn;rcases hn with rfl | rfl | rfl | rfl <;> omega
theorem head_any (h:Hd) (w:World) (hh:OkHd h) :
 Calls Tryz.prog 202 #[hdV h] w fun e w'=>∃ A c,e=.returned (.tuple #[.slice A (headL h).1.length c,.int .i64 (headL h).2]) ∧
  w'.ownsRow w.heap.size 5 1 (.slice A (headL h).1.length c) (headL h).1.length (cells8 (headL h).1)∧Below w.heap.size w w':=by
 have hI:=hh.i63;have hcs:(#[.int .i64 0,.int .i64 h.host,.int .i64 h.epoch,.int .i64 h.seq]:Array Value).toList=(headN h).map I64:=rfl;have hcalls:=fun W=>wnums_any _ (headN h) _ _ (isL_ints (w:=W) (n:=4) hI 3 hcs rfl (by omega)) (by show 4≤_;omega)
 have hlen4:(headN h).length=4:=rfl;unfold headL hdV;obtain ⟨nb,hnb⟩:∃ nb,numsL (headN h)=nb:=⟨_,rfl⟩;have hnl:=flatN_len hI;have hnl2:nb.1.length≤40:=by
  rw [←hnb];unfold numsL;split
  · rw [hlen4] at hnl;exact hnl
  · simp
 simp only [hnb] at hcalls ⊢;obtain ⟨nb,ne⟩:=nb;simp only at hcalls hnl2 ⊢;replace hcalls:=hcalls (w.alloc (.cells #[.int .i64 h.host,.int .i64 h.epoch,.int .i64 h.seq] 35));simp only [World.size_alloc] at hcalls;have HC:=Lib.hid hcalls;clear hcalls hcs hnl hlen4;by_cases he:ne=0
 · subst he
   simp only [ne_eq,not_true_eq_false,if_false];obtain ⟨fr,hfr⟩:∃ fr,frameL nb=fr:=⟨_,rfl⟩;rw [hfr];have HF:=Lib.hid hfr;clear hfr;go_enter Tryz.func202,Tryz.ntmps202
   go_wp2_with fail;refine HC.out.mono ?_;rintro e w1 ⟨A1,c1,rfl,own1,hb1⟩;have hb2:Below w.heap.size w w1:=(((Below.refl _ _).alloc (Nat.le_refl _) _).alloc (by simp) _).trans (hb1.mono (by omega))
   go_wp2_with fail;refine (begin_any _).mono ?_;rintro e w2 ⟨g,rfl,hg,hT2,hb3⟩;have own2:=own_below own1 hb3 (Nat.le_refl _);have hs2:=hb2.size;have hs3:=hb3.size;have hlt:=own1.lt;have hxB:IsB w2 (fun k=>k<w1.heap.size) (.slice A1 nb.length c1) nb:=⟨A1,c1,rfl,(Reads.of_own own2).more (fun b hb=>(own1.lt b hb.symm).2),own_cap own2,own_cap63 own2,by omega⟩
   go_wp2_with fail;refine (put_frame g _ nb _ _ hT2 hxB (fun k hk=>by omega)).mono ?_
   rintro e w3 ⟨A5,c5,rfl,own5,hT5,hb5⟩;rw [HF.out] at own5 ⊢;have hb6:Below w.heap.size w w3:=(hb2.trans (hb3.mono hs2)).trans (hb5.below (fun k hk=>by omega) (by omega))
   go_wp2;go_ret2;exact ⟨A5,c5,rfl,own_base own5 (by omega),hb6⟩
 · simp only [ne_eq,he,not_false_eq_true,if_true]
   have he':((ne:Int) != 0)=true:=by simp [he]
   go_enter Tryz.func202,Tryz.ntmps202
   go_wp2_with fail;refine HC.out.mono ?_;rintro e w1 ⟨A1,c1,rfl,own1,hb1⟩;have hb2:Below w.heap.size w w1:=(((Below.refl _ _).alloc (Nat.le_refl _) _).alloc (by simp) _).trans (hb1.mono (by omega))
   go_wp2;go_ret2;exact ⟨none,0,rfl,World.ownsRow_nil _ _ _ _,hb2⟩
def OkRc (r:Rc):Prop:=I63 (recN r)
theorem checkL_ok {r:Rc} (h:checkL r=0):r.data.length≤32768∧∀ n∈recN r,0≤n:=by
 have h1:r.data.length≤32768:=by
  unfold checkL at h
  (repeat' split at h) <;> first | omega | (exfalso;omega)
 refine ⟨h1,fun n hn=>?_⟩
 have h2:0≤r.kind∧0≤r.lba∧0≤r.n∧0≤r.ver∧0≤r.zone∧0≤r.off:=by
  unfold checkL at h
  (repeat' split at h) <;> first | omega | (exfalso;omega)
 simp only [recN,List.mem_cons,List.not_mem_nil,or_false] at hn;rcases hn with rfl | rfl | rfl | rfl | rfl | rfl <;> omega
def bodyR (r:Rc):List UInt8:=flatN (recN r)++(putL r.data.length++r.data)
def frB (x:List UInt8):List UInt8:=putL x.length++x++fixL (crcL x)
theorem frameL_ok {x:List UInt8} (h:x.length≤65536):frameL x=(frB x,0):=by
 unfold frameL vecL frB;rw [if_pos h];simp
theorem bodyR_le {r:Rc} (hr:OkRc r) (h:checkL r=0):(bodyR r).length≤40000:=by
 have h1:=(checkL_ok h).1;have h2:=flatN_len hr;have h3:(recN r).length=6:=rfl;have h4:=putL_len10 (n:=r.data.length) (by omega)
 unfold bodyR;simp only [List.length_append];omega
theorem recL_ok {r:Rc} (hr:OkRc r) (h:checkL r=0):recL r=(frB (bodyR r),0):=by
 have h1:=checkL_ok h;have hn:numsL (recN r)=(flatN (recN r),0):=if_pos h1.2;have hv:vecL r.data=(putL r.data.length++r.data,0):=if_pos (by omega)
 unfold recL;rw [if_neg (by simp [h]),hn,hv]
 simp only [ne_eq,not_true_eq_false,if_false];exact frameL_ok (by have:=bodyR_le hr h;unfold bodyR at this;omega)
theorem recL_no {r:Rc} (h:checkL r≠0):recL r=([],checkL r):=by unfold recL;rw [if_pos h]
theorem frB_len (x:List UInt8):(frB x).length=(putL x.length).length+x.length+4:=by simp [frB,fixL];omega
end Go.Proofs.YtjahaflkdpmhpaaGreat
