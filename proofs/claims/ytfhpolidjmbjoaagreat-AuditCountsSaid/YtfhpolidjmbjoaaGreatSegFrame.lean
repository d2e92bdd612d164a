/- A part of the proof. -/
import Derived.Test.YtfhpolidjmbjoaaGreatCrc
import Derived.Test.YtfhpolidjmbjoaaGreatFixPut
import Derived.Test.YtfhpolidjmbjoaaGreatLawsN
set_option maxHeartbeats 1600000
set_option maxRecDepth 100000
namespace Go.Proofs.YtfhpolidjmbjoaaGreat
open Go.RowKit
def frameL (x:List UInt8):List UInt8 × Int:=if (vecL x).2≠0 then ([],(vecL x).2) else ((vecL x).1++fixL (crcL x),0)
def takeF (b:List UInt8):List UInt8 × Int × Bool:=
 if (takeVecL b).2.2≠0 then ([],0,false)
 else ((takeVecL b).1,(takeVecL b).2.1+4,decide ((takeFL (b.drop (takeVecL b).2.1.toNat)).2=0) && decide ((takeFL (b.drop (takeVecL b).2.1.toNat)).1=crcL (takeVecL b).1))
theorem TabC.turned {w w':World} {g:Nat} {n s:Int} {t:Nat→Nat} {u:Int} {S:Nat→Prop} (h:TabC w g n s t u) (hb:Turned w w' S) (hS:¬S g):TabC w' g n s t u:=by
 have hc:∀ o,w'.cell? ⟨g,o,none⟩=w.cell? ⟨g,o,none⟩:=fun o=>World.cell?_of_block (hb.block g h.lt hS)
 have hf:∀ o,w'.frozen? ⟨g,o,none⟩=w.frozen? ⟨g,o,none⟩:=fun o=>World.frozen?_of_block (hb.block g h.lt hS)
 exact ⟨Nat.lt_of_lt_of_le h.lt hb.size,fun o=>(hf o).trans (h.free o),(hc _).trans h.done,(hc _).trans h.lock,fun i hi=>(hc _).trans (h.tab i hi),(hc _).trans h.used⟩
theorem TabOk.turned {w w':World} {g:Nat} {S:Nat→Prop} (h:TabOk w g) (hb:Turned w w' S) (hS:¬S g):TabOk w' g:=by
 obtain ⟨n,t,u,h1,h2⟩:=h;exact ⟨n,t,u,h1.turned hb hS,h2⟩
theorem TabOk.below {w w':World} {g B:Nat} (h:TabOk w g) (hb:Below B w w') (hg:g<B):TabOk w' g:=
 h.turned (S:=fun k=>B≤k) ⟨hb.os,hb.tape,hb.output,hb.size,fun k _ hn=>hb.block k (by omega)⟩ (by omega)
theorem Turned.later {w w' w'':World} {S:Nat→Prop} {B:Nat} (h:Turned w w' S) (hb:Below B w' w'') (hB:w.heap.size≤B):Turned w w'' S:=
 ⟨hb.os.trans h.os,hb.tape.trans h.tape,hb.output.trans h.output,Nat.le_trans h.size hb.size,fun k hk hn=>(hb.block k (by omega)).trans (h.block k hk hn)⟩
theorem own_turned {w w':World} {base g:Nat} {e:TypeId} {size:Nat} {v:Value} {n:Nat} {xs:List Value} (h:w.ownsRow base e size v n xs) (ht:Turned w w' (· = g)) (hg:g<base):w'.ownsRow base e size v n xs:=
 h.kept (row:=some g) ⟨ht.os,ht.tape,ht.output,ht.size,fun k hk hn=>ht.block k hk (fun e=>hn (by rw [e]))⟩ (.inr (fun e=>by have:=own_lt h g e;omega))
theorem isL_single {w:World} {K:Nat→Prop} {v:Value} {x:List UInt8} (h:IsB w K v x) (t:TypeId):IsL Rp.bytes (w.alloc (.cells #[v] t)) (fun b=>b=w.heap.size∨K b) (.slice (some ⟨w.heap.size,0,none⟩) 1 1) [x]:=
 ⟨_,_,[v],rfl,(Reads.new (n:=1) (size:=1) rfl rfl rfl).more (fun _ h=>.inl h),⟨[v],[],rfl,⟨v,rfl,(h.alloc _).more (fun _ h=>.inr h)⟩,rfl⟩,Nat.le_refl _,by omega,by simp⟩
theorem frameL_le (x:List UInt8):(frameL x).1.length≤65560:=by
 unfold frameL vecL;by_cases h:x.length≤65536
 · have:=putL_len10 (n:=x.length) (by omega)
   simp [h,fixL];omega
 · simp [h]
theorem begin_any (w:World):Calls Tryz.prog 133 #[] w fun e w'=>∃ g,e=.returned (.agg #[.pointer (some ⟨g,0,none⟩)])∧w.heap.size≤g∧TabOk w' g∧Below w.heap.size w w':=by
 go_enter Tryz.func133,Tryz.ntmps133
 go_wp2_with (go_at_call 160;refine (new_any _).mono ?_;rintro e w1 ⟨rfl,hT1,hb1⟩;obtain ⟨r1,r2⟩:=((Blk.new w 203 #[.pointer none] rfl).step hb1).rules;have hlw:=((Blk.new w 203 #[.pointer none] rfl).step hb1).lt);have hs1:=hb1.size;simp only [World.size_alloc] at hs1 hT1;refine bodyPost_ret (v:=.agg #[.pointer (some ⟨w.heap.size+1,0,none⟩)]) (by simp [results,Tryz.results133,go_sem,r1,World.cell?_setCell_same]) rfl ⟨_,rfl,by omega,hT1.turned (S:=(· = w.heap.size)) ((Turned.refl w1 (· = w.heap.size)).set rfl 0 _) (by omega),Below.setCell ?_ (by dsimp only;omega) _⟩
 exact ((Below.refl _ _).alloc (Nat.le_refl _) _).trans (hb1.mono (by simp))
theorem put_frame (g:Nat) (v:Value) (x:List UInt8) (K:Nat→Prop) (w:World) (hT:TabOk w g) (hv:IsB w K v x) (hK:∀ k,K k→k≠g) :
 Calls Tryz.prog 134 #[.agg #[.pointer (some ⟨g,0,none⟩)],v] w fun e w'=>∃ A' c',e=.returned (.tuple #[.slice A' (frameL x).1.length c',.int .i64 (frameL x).2]) ∧
  w'.ownsRow w.heap.size 5 1 (.slice A' (frameL x).1.length c') (frameL x).1.length (cells8 (frameL x).1)∧TabOk w' g∧Turned w w' (· = g):=by
 obtain ⟨i0,hi,hz0,hz1,hz2⟩:=info_parts Tryz.info5;have hlen:=frameL_le x;have hgl:=hT.lt;unfold frameL at hlen ⊢;have hv0:=hv;obtain ⟨A,c,rfl,hlc0⟩:=hv;by_cases he:(vecL x).2=0
 · rw [if_neg (by omega)] at hlen ⊢
   have hcl:=crcL_lt x;have hfl:(fixL (crcL x)).length=4:=rfl;have HF:=Lib.hid hfl;clear hfl;have hf1:=cells8_one (fixL (crcL x));have happ:cells8 ((vecL x).1++fixL (crcL x))=cells8 (vecL x).1++cells8 (fixL (crcL x)):=by simp [cells8]
   have HAP:=Lib.hid happ;clear happ;have hl2:((vecL x).1++fixL (crcL x)).length=(vecL x).1.length+4:=by rw [List.length_append,HF.out]
   rw [hl2,HAP.out];rw [hl2] at hlen;have hfx:=fun W=>fixed_any (crcL x) W hcl
   generalize fixL (crcL x)=fx at hfx hf1 hl2;generalize hcx:crcL x=cx at hfx hcl;generalize hvx:vecL x=vx at he hlen hl2;obtain ⟨vb,ve⟩:=vx;simp only at he hlen hl2 ⊢;subst he;have HV:=Lib.hid hvx;have HC:=Lib.hid hcx;clear hvx hcx HF hl2;go_enter Tryz.func134,Tryz.ntmps134
   go_wp2_with fail;refine (wvec_any _ x K _ (hv0.alloc _)).mono ?_;rintro e w1 ⟨A1,c1,rfl,own1,hb1⟩;rw [HV.out] at own1 ⊢;simp only [World.size_alloc] at own1 ⊢;have hB:=(Blk.new w 203 #[.pointer (some ⟨g,0,none⟩)] rfl).step hb1;obtain ⟨r1,r2⟩:=hB.rules;have hs1:=hb1.size;simp only [World.size_alloc] at hs1;go_wp2_with fail;have hv2:=isL_single (hv0.step (((Below.refl _ _).alloc (Nat.le_refl _) _).trans (hb1.mono (by simp)))) 49
   have hb2:Below w.heap.size w (w1.alloc (.cells #[.slice A x.length c] 49)):=(((Below.refl _ _).alloc (Nat.le_refl _) _).trans (hb1.mono (by simp))).alloc (by omega) _
   refine (sum_any g _ [x] _ _ (hT.step hb2) hv2 (fun k hk=>by rcases hk with h | h;omega;exact hK k h)).mono ?_
   rintro e w3 ⟨rfl,hT3,hb3⟩;have own3:=own_turned (own1.alloc (.cells #[.slice A x.length c] 49)) hb3 (by omega)
   have hs3:=hb3.size;simp only [World.size_alloc] at hs3;rw [List.flatten_singleton,HC.out];have hT5:∀ W,Below w3.heap.size w3 W→TabOk W g:=fun W h=>hT3.step h
   go_wp2_with fail;refine (hfx _).mono ?_;rintro e w4 ⟨A5,c5,rfl,own5,hb5⟩;have hs5:=hb5.size;have own4:=own_below own3 hb5 (Nat.le_refl _);have hr5:=Reads.of_own own5;go_wp2_with (at_builtin;refine wpList_appN rfl _ _ _ rfl (w.heap.size+1) 5 i0 _ 1 1 Tryz.underlying49 hi hz0 hz1 hz2 rfl (by omega) rfl own4 rfl hr5 hf1 (by simp only [maxLen];omega) (by omega) (by omega) ?_;intro A7 c7 w7 own7 hg7)
   have hg7b:=hg7.below;go_ret2;exact ⟨A7,c7,rfl,own_base own7 (by omega),(hT3.step hb5).below hg7b (by omega),(((Turned.of hb2).trans hb3).step hb5).later hg7b (by omega)⟩
 · rw [if_pos he]
   generalize hvx:vecL x=vx at he hlen;obtain ⟨vb,ve⟩:=vx;simp only at he ⊢;have HV:=Lib.hid hvx;clear hvx hlen;have he':((ve:Int) != 0)=true:=by simp [he]
   go_enter Tryz.func134,Tryz.ntmps134
   go_wp2_with fail;refine (wvec_any _ x K _ (hv0.alloc _)).mono ?_;rintro e w1 ⟨A1,c1,rfl,own1,hb1⟩;rw [HV.out] at own1 ⊢;simp only at own1 ⊢;have hb2:Below w.heap.size w w1:=((Below.refl _ _).alloc (Nat.le_refl _) _).trans (hb1.mono (by simp))
   go_wp2;go_ret2;exact ⟨none,0,rfl,World.ownsRow_nil _ _ _ _,hT.step hb2,Turned.of hb2⟩
theorem takeF_any (g:Nat) (v:Value) (b:List UInt8) (K:Nat→Prop) (w:World) (hT:TabOk w g) (hv:IsB w K v b) :
 Calls Tryz.prog 156 #[.agg #[.pointer (some ⟨g,0,none⟩)],v] w fun e w'=>∃ A' c',e=.returned (.tuple #[.slice A' (takeF b).1.length c',.int .i64 (takeF b).2.1,.bool (takeF b).2.2]) ∧
  w'.ownsRow w.heap.size 5 1 (.slice A' (takeF b).1.length c') (takeF b).1.length (cells8 (takeF b).1)∧TabOk w' g∧Turned w w' (· = g):=by
 have hgl:=hT.lt;have hv0:=hv;obtain ⟨A,c,rfl,hlc0⟩:=hv;obtain ⟨hrc,hlc,hcc,hl47⟩:=hlc0;unfold takeF;by_cases he:(takeVecL b).2.2=0
 · rw [if_neg (by omega)]
   obtain ⟨vx,hvx⟩:∃ vx,takeVecL b=vx:=⟨_,rfl⟩;rw [hvx] at he ⊢;obtain ⟨x,n0,e0⟩:=vx;simp only at he ⊢;subst he;obtain ⟨j,rfl,hj1,hj2,_,hx64⟩:=takeVec_one hvx;have HV:=Lib.hid hvx;clear hvx;simp only [Int.toNat_natCast];obtain ⟨ok,hok⟩:∃ ok,(decide ((takeFL (b.drop j)).2=0) && decide ((takeFL (b.drop j)).1=crcL x))=ok:=⟨_,rfl⟩;rw [hok];obtain ⟨tf,htf⟩:∃ tf,takeFL (b.drop j)=tf:=⟨_,rfl⟩;simp only [htf] at hok;obtain ⟨p,e2⟩:=tf;simp only at hok;have HTF:=Lib.hid htf;clear htf;have HOK:=Lib.hid hok;clear hok;go_enter Tryz.func156,Tryz.ntmps156
   go_wp2_with fail;refine (takeVec_any _ b K _ (hv0.alloc _)).mono ?_;rintro e w1 ⟨A1,c1,rfl,own1,hb1⟩;rw [HV.out] at own1 ⊢;simp only [World.size_alloc] at own1 ⊢;have hB:=(Blk.new w 203 #[.pointer (some ⟨g,0,none⟩)] rfl).step hb1;have hs1:=hb1.size;simp only [World.size_alloc] at hs1;have hjc:(j:Int)≤(c:Int):=by omega
   have hcut:=cut_bytes hv0 hj2;obtain ⟨A3,hA3⟩:∃ A3,(if c=j then A else A.map (fun x=>x.add j))=A3:=⟨_,rfl⟩
   rw [hA3] at hcut;have hcutB:IsB w K (.slice A3 (b.length-j) (c-j)) (b.drop j):=⟨A3,c-j,by rw [List.length_drop],by rw [List.length_drop];exact hcut,by rw [List.length_drop];omega,by omega,by rw [List.length_drop];omega⟩
   have hb2:Below w.heap.size w w1:=((Below.refl _ _).alloc (Nat.le_refl _) _).trans (hb1.mono (by simp))
   replace hcutB:=hcutB.step hb2;have hcl:=crcL_lt x;clear hcut;go_wp2_with fail;refine (takeFixed_any _ (b.drop j) K _ hcutB).mono ?_;rintro e w2 ⟨rfl,hb3⟩;rw [HTF.out];simp only;have own2:=own_below own1 hb3 (Nat.le_refl _);have hs2:=hb3.size;have hB2:=hB.step hb3;obtain ⟨r1,r2⟩:=hB2.rules;have hb4:=hb2.trans (hb3.mono hb2.size);by_cases he2:e2=0
   · subst he2
     have hxB:IsB w2 (fun k=>w.heap.size+1≤k) (.slice A1 x.length c1) x:=⟨A1,c1,rfl,Reads.of_own_ge own2,own_cap own2,own_cap63 own2,by omega⟩
     have hv5:=isL_single hxB 49;have hb5:Below w.heap.size w (w2.alloc (.cells #[.slice A1 x.length c1] 49)):=hb4.alloc (by omega) _
     have own5:=own2.alloc (.cells #[.slice A1 x.length c1] 49);have hcx:=crcL_lt x;go_wp2_with fail;refine (sum_any g _ [x] _ _ (hT.step hb5) hv5 (fun k hk=>by rcases hk with h | h;omega;omega)).mono ?_
     rintro e w6 ⟨rfl,hT6,hb6⟩;have own6:=own_turned own5 hb6 (by omega)
     rw [List.flatten_singleton];by_cases hpc:p=crcL x
     · have hok:ok=true:=by rw [←HOK.out,decide_eq_true hpc];simp
       subst hok;have hpc':((p:Int) == (crcL x:Int))=true:=by simp [hpc]
       go_wp2;go_ret3
       exact ⟨A1,c1,rfl,own_base own6 (by omega),hT6,(Turned.of hb5).trans hb6⟩
     · have hok:ok=false:=by rw [←HOK.out,decide_eq_false hpc];simp
       subst hok;have hpc':((p:Int) == (crcL x:Int))=false:=by simp;omega
       go_wp2;go_ret3
       exact ⟨A1,c1,rfl,own_base own6 (by omega),hT6,(Turned.of hb5).trans hb6⟩
   · have he2':((e2:Int) == 0)=false:=by simp [he2]
     have hok:ok=false:=by rw [←HOK.out,decide_eq_false he2,Bool.false_and]
     subst hok;go_wp2;go_ret3
     exact ⟨A1,c1,rfl,own_base own2 (by omega),hT.step hb4,Turned.of hb4⟩
 · rw [if_pos he]
   obtain ⟨vx,hvx⟩:∃ vx,takeVecL b=vx:=⟨_,rfl⟩;rw [hvx] at he;obtain ⟨x,n0,e0⟩:=vx;simp only at he;have HV:=Lib.hid hvx;clear hvx;have he':((e0:Int) != 0)=true:=by simp [he]
   go_enter Tryz.func156,Tryz.ntmps156
   go_wp2_with fail;refine (takeVec_any _ b K _ (hv0.alloc _)).mono ?_;rintro e w1 ⟨A1,c1,rfl,own1,hb1⟩;rw [HV.out] at own1 ⊢;simp only at own1 ⊢;have hb2:Below w.heap.size w w1:=((Below.refl _ _).alloc (Nat.le_refl _) _).trans (hb1.mono (by simp))
   go_wp2;go_ret3
   exact ⟨none,0,rfl,World.ownsRow_nil _ _ _ _,hT.step hb2,Turned.of hb2⟩
end Go.Proofs.YtfhpolidjmbjoaaGreat
namespace Go.Proofs.YtfhpolidjmbjoaaGreat
open Go.RowKit Go.WideShapes Go.ChangeShapes Go.Deep
structure Hd where
 host:Int
 epoch:Int
 seq:Int
deriving DecidableEq
structure Rc where
 kind:Int
 lba:Int
 n:Int
 ver:Int
 zone:Int
 off:Int
 data:List UInt8
deriving DecidableEq
theorem Tryz.bytes_int:Tryz.prog.bytesOf 3=8:=by kernel_rfl
theorem open_L_int {H:Type} {enc:TypeId × Value→H} {w:World} {n:Nat} {cs:List Value} {x:DataW H × List MemPlace} (h:DataW.trod enc Tryz.prog w 0 (fun _=>true) true n 23 cs=some x) (hs:Small Tryz.prog 23 x.1) :
 ∃ v l,cs=[v]∧IsL Rp.int w (· < w.heap.size) v l∧l.length*8≤140737488351232:=by
 obtain ⟨v,l,e,hL,hb⟩:=open_list Rp.int Tryz.underlying23 Tryz.ci (by rw [Tryz.bytes_int];decide) (by decide) h hs fun _ _ _ h s=>by obtain ⟨a,e,_,w⟩:=DataW.trod_int Tryz.underlying3 h;have b:=bounds_i64 w;exact ⟨a,e,b.1,b.2⟩
 rw [Tryz.bytes_int] at hb;exact ⟨v,l,e,hL,hb⟩
theorem open_LA_int {H:Type} {enc:TypeId × Value→H} {w:World} {base:Nat} {v:Value} {d:DataW H} {p:List MemPlace} (hv:Value.okWide Tryz.prog w .any base 23 v) (h:DataW.Trod enc Tryz.prog w 0 (fun _=>true) true 23 v d p) (hs:Small Tryz.prog 23 d) :
 ∃ l,IsL Rp.int w (· < w.heap.size) v l∧l.length*8≤140737488351232:=by
 obtain ⟨A,n,c,rfl⟩:=okWide_slice Tryz.underlying23 hv;obtain ⟨fuel,hf⟩:=h;obtain ⟨v',l,hcs,hB⟩:=open_L_int hf hs;have:Value.slice A n c=v':=by simpa [Value.cells] using hcs
 rw [this];exact ⟨l,hB⟩
def Rp.hd:Rp Hd:=⟨3,fun _ _ cs o=>cs=[.int .i64 o.host,.int .i64 o.epoch,.int .i64 o.seq]∧(-9223372036854775808≤o.host∧o.host≤9223372036854775807)∧(-9223372036854775808≤o.epoch∧o.epoch≤9223372036854775807)∧(-9223372036854775808≤o.seq∧o.seq≤9223372036854775807),
 by rintro _ _ _ _ ⟨rfl,r0,r1,r2⟩;rfl,
 fun h _=>h,
 fun h _=>h,
 by
  rintro _ _ _ _ ⟨rfl,r0,r1,r2⟩ u hu;simp only [List.mem_cons,List.not_mem_nil,or_false] at hu;rcases hu with rfl | rfl | rfl <;> first | rfl | assumption⟩
def Rp.rc:Rp Rc:=⟨7,fun w K cs o=>∃ v_data,cs=[.int .i64 o.kind,.int .i64 o.lba,.int .i64 o.n,.int .i64 o.ver,.int .i64 o.zone,.int .i64 o.off,v_data]∧IsB w K v_data o.data∧(-9223372036854775808≤o.kind∧o.kind≤9223372036854775807)∧(-9223372036854775808≤o.lba∧o.lba≤9223372036854775807)∧(-9223372036854775808≤o.n∧o.n≤9223372036854775807)∧(-9223372036854775808≤o.ver∧o.ver≤9223372036854775807)∧(-9223372036854775808≤o.zone∧o.zone≤9223372036854775807)∧(-9223372036854775808≤o.off∧o.off≤9223372036854775807),
 by rintro _ _ _ _ ⟨v_data,rfl,h_data,r0,r1,r2,r3,r4,r5⟩;rfl,
 by rintro _ _ _ _ _ ⟨v_data,e,h_data,r0,r1,r2,r3,r4,r5⟩ hk;exact ⟨v_data,e,h_data.keep hk,r0,r1,r2,r3,r4,r5⟩,
 by rintro _ _ _ _ _ ⟨v_data,e,h_data,r0,r1,r2,r3,r4,r5⟩ hk;exact ⟨v_data,e,h_data.more hk,r0,r1,r2,r3,r4,r5⟩,
 by
  rintro _ _ _ _ ⟨v_data,rfl,h_data,r0,r1,r2,r3,r4,r5⟩ u hu;have o_data:=IsB.one h_data;simp only [List.mem_cons,List.not_mem_nil,or_false] at hu;rcases hu with rfl | rfl | rfl | rfl | rfl | rfl | rfl <;> first | rfl | assumption⟩
end Go.Proofs.YtfhpolidjmbjoaaGreat
