/- A part of the proof. -/
import Derived.Test.YthblkdnijhphhaaGreatCrc
import Derived.Test.YthblkdnijhphhaaGreatFixPut
import Derived.Test.YthblkdnijhphhaaGreatLawsN
set_option maxHeartbeats 4000000
set_option maxRecDepth 100000
namespace Go.Proofs.YthblkdnijhphhaaGreat
open Go.RowKit
def zbF (x:List UInt8):List UInt8 × Int:=if (vecL x).2≠0 then ([],(vecL x).2) else ((vecL x).1++fixL (crcL x),0)
def zdj (b:List UInt8):List UInt8 × Int × Bool:=
 if (zas b).2.2≠0 then ([],0,false)
 else ((zas b).1,(zas b).2.1+4,decide ((zbC (b.drop (zas b).2.1.toNat)).2=0) && decide ((zbC (b.drop (zas b).2.1.toNat)).1=crcL (zas b).1))
theorem TabC.turned {w w':World} {g:Nat} {n s:Int} {t:Nat→Nat} {u:Int} {S:Nat→Prop} (h:TabC w g n s t u) (hb:za0 w w' S) (hS:¬S g):TabC w' g n s t u:=by
 have hc:∀ o,w'.cell? ⟨g,o,none⟩=w.cell? ⟨g,o,none⟩:=fun o=>World.cell?_of_block (hb.block g h.lt hS)
 have hf:∀ o,w'.frozen? ⟨g,o,none⟩=w.frozen? ⟨g,o,none⟩:=fun o=>World.frozen?_of_block (hb.block g h.lt hS)
 exact ⟨Nat.lt_of_lt_of_le h.lt hb.size,fun o=>(hf o).trans (h.free o),(hc _).trans h.done,(hc _).trans h.lock,fun i hi=>(hc _).trans (h.tab i hi),(hc _).trans h.used⟩
theorem zbt.turned {w w':World} {g:Nat} {S:Nat→Prop} (h:zbt w g) (hb:za0 w w' S) (hS:¬S g):zbt w' g:=by
 obtain ⟨n,t,u,h1,h2⟩:=h;exact ⟨n,t,u,h1.turned hb hS,h2⟩
theorem zbt.below {w w':World} {g B:Nat} (h:zbt w g) (hb:Below B w w') (hg:g<B):zbt w' g:=
 h.turned (S:=fun k=>B≤k) ⟨hb.os,hb.tape,hb.output,hb.size,fun k _ hn=>hb.block k (by omega)⟩ (by omega)
theorem za0.later {w w' w'':World} {S:Nat→Prop} {B:Nat} (h:za0 w w' S) (hb:Below B w' w'') (hB:w.heap.size≤B):za0 w w'' S:=
 ⟨hb.os.trans h.os,hb.tape.trans h.tape,hb.output.trans h.output,Nat.le_trans h.size hb.size,fun k hk hn=>(hb.block k (by omega)).trans (h.block k hk hn)⟩
theorem za7 {w w':World} {base g:Nat} {e:TypeId} {size:Nat} {v:Value} {n:Nat} {xs:List Value} (h:w.ownsRow base e size v n xs) (ht:za0 w w' (· = g)) (hg:g<base):w'.ownsRow base e size v n xs:=
 h.kept (row:=some g) ⟨ht.os,ht.tape,ht.output,ht.size,fun k hk hn=>ht.block k hk (fun e=>hn (by rw [e]))⟩ (.inr (fun e=>by have:=zdb h g e;omega))
theorem zfC {w:World} {K:Nat→Prop} {v:Value} {x:List UInt8} (h:IsB w K v x) (t:TypeId):IsL Rp.bytes (w.alloc (.cells #[v] t)) (fun b=>b=w.heap.size∨K b) (.slice (some ⟨w.heap.size,0,none⟩) 1 1) [x]:=
 ⟨_,_,[v],rfl,(za6.new (n:=1) (size:=1) rfl rfl rfl).more (fun _ h=>.inl h),⟨[v],[],rfl,⟨v,rfl,(h.alloc _).more (fun _ h=>.inr h)⟩,rfl⟩,Nat.le_refl _,by omega,by simp⟩
theorem zhm (x:List UInt8):(zbF x).1.length≤65560:=by
 unfold zbF vecL;by_cases h:x.length≤65536
 · have:=zbg (n:=x.length) (by omega)
   simp [h,fixL];omega
 · simp [h]
theorem zex (w:World):Calls Tryz.prog 131 #[] w fun e w'=>∃ g,e=.returned (.agg #[.pointer (some ⟨g,0,none⟩)])∧w.heap.size≤g∧zbt w' g∧Below w.heap.size w w':=by
 go_enter Tryz.func131,Tryz.ntmps131
 go_wp2_with (go_at_call 182;refine (znK _).mono ?_;rintro e w1 ⟨rfl,hT1,hb1⟩;obtain ⟨r1,r2⟩:=((Blk.new w 225 #[.pointer none] rfl).step hb1).rules;have hlw:=((Blk.new w 225 #[.pointer none] rfl).step hb1).lt);have hs1:=hb1.size;simp only [World.size_alloc] at hs1 hT1;refine bodyPost_ret (v:=.agg #[.pointer (some ⟨w.heap.size+1,0,none⟩)]) (by simp [results,Tryz.results131,go_sem,r1,World.cell?_setCell_same]) rfl ⟨_,rfl,by omega,hT1.turned (S:=(· = w.heap.size)) ((za0.refl w1 (· = w.heap.size)).set rfl 0 _) (by omega),Below.setCell ?_ (by dsimp only;omega) _⟩
 exact ((Below.refl _ _).alloc (Nat.le_refl _) _).trans (hb1.mono (by simp))
theorem zhr (g:Nat) (v:Value) (x:List UInt8) (K:Nat→Prop) (w:World) (hT:zbt w g) (hv:IsB w K v x) (hK:∀ k,K k→k≠g) :
 Calls Tryz.prog 132 #[.agg #[.pointer (some ⟨g,0,none⟩)],v] w fun e w'=>∃ A' c',e=.returned (.tuple #[.slice A' (zbF x).1.length c',.int .i64 (zbF x).2]) ∧
  w'.ownsRow w.heap.size 5 1 (.slice A' (zbF x).1.length c') (zbF x).1.length (za3 (zbF x).1)∧zbt w' g∧za0 w w' (· = g):=by
 obtain ⟨i0,hi,hz0,hz1,hz2⟩:=info_parts Tryz.info5;have hlen:=zhm x;have hgl:=hT.lt;unfold zbF at hlen ⊢;have hv0:=hv;obtain ⟨A,c,rfl,hlc0⟩:=hv;by_cases he:(vecL x).2=0
 · rw [if_neg (by omega)] at hlen ⊢
   have hcl:=zi6 x;have hfl:(fixL (crcL x)).length=4:=rfl;have HF:=Lib.hid hfl;clear hfl;have hf1:=zan (fixL (crcL x));have happ:za3 ((vecL x).1++fixL (crcL x))=za3 (vecL x).1++za3 (fixL (crcL x)):=by simp [za3]
   have HAP:=Lib.hid happ;clear happ;have hl2:((vecL x).1++fixL (crcL x)).length=(vecL x).1.length+4:=by rw [List.length_append,HF.out]
   rw [hl2,HAP.out];rw [hl2] at hlen;have hfx:=fun W=>zkf (crcL x) W hcl
   generalize fixL (crcL x)=fx at hfx hf1 hl2;generalize hcx:crcL x=cx at hfx hcl;generalize hvx:vecL x=vx at he hlen hl2;obtain ⟨vb,ve⟩:=vx;simp only at he hlen hl2 ⊢;subst he;have HV:=Lib.hid hvx;have HC:=Lib.hid hcx;clear hvx hcx HF hl2;go_enter Tryz.func132,Tryz.ntmps132
   go_wp2_with fail;refine (zg6 _ x K _ (hv0.alloc _)).mono ?_;rintro e w1 ⟨A1,c1,rfl,own1,hb1⟩;rw [HV.out] at own1 ⊢;simp only [World.size_alloc] at own1 ⊢;have hB:=(Blk.new w 225 #[.pointer (some ⟨g,0,none⟩)] rfl).step hb1;obtain ⟨r1,r2⟩:=hB.rules;have hs1:=hb1.size;simp only [World.size_alloc] at hs1;go_wp2_with fail;have hv2:=zfC (hv0.step (((Below.refl _ _).alloc (Nat.le_refl _) _).trans (hb1.mono (by simp)))) 32
   have hb2:Below w.heap.size w (w1.alloc (.cells #[.slice A x.length c] 32)):=(((Below.refl _ _).alloc (Nat.le_refl _) _).trans (hb1.mono (by simp))).alloc (by omega) _
   refine (zkw g _ [x] _ _ (hT.step hb2) hv2 (fun k hk=>by rcases hk with h | h;omega;exact hK k h)).mono ?_
   rintro e w3 ⟨rfl,hT3,hb3⟩;have own3:=za7 (own1.alloc (.cells #[.slice A x.length c] 32)) hb3 (by omega)
   have hs3:=hb3.size;simp only [World.size_alloc] at hs3;rw [List.flatten_singleton,HC.out];have hT5:∀ W,Below w3.heap.size w3 W→zbt W g:=fun W h=>hT3.step h
   go_wp2_with fail;refine (hfx _).mono ?_;rintro e w4 ⟨A5,c5,rfl,own5,hb5⟩;have hs5:=hb5.size;have own4:=za4 own3 hb5 (Nat.le_refl _);have hr5:=za6.of_own own5;go_wp2_with (at_builtin;refine za5 rfl _ _ _ rfl (w.heap.size+1) 5 i0 _ 1 1 Tryz.underlying32 hi hz0 hz1 hz2 rfl (by omega) rfl own4 rfl hr5 hf1 (by simp only [maxLen];omega) (by omega) (by omega) ?_;intro A7 c7 w7 own7 hg7)
   have hg7b:=hg7.below;go_ret2;exact ⟨A7,c7,rfl,zac own7 (by omega),(hT3.step hb5).below hg7b (by omega),(((za0.of hb2).trans hb3).step hb5).later hg7b (by omega)⟩
 · rw [if_pos he]
   generalize hvx:vecL x=vx at he hlen;obtain ⟨vb,ve⟩:=vx;simp only at he ⊢;have HV:=Lib.hid hvx;clear hvx hlen;have he':((ve:Int) != 0)=true:=by simp [he]
   go_enter Tryz.func132,Tryz.ntmps132
   go_wp2_with fail;refine (zg6 _ x K _ (hv0.alloc _)).mono ?_;rintro e w1 ⟨A1,c1,rfl,own1,hb1⟩;rw [HV.out] at own1 ⊢;simp only at own1 ⊢;have hb2:Below w.heap.size w w1:=((Below.refl _ _).alloc (Nat.le_refl _) _).trans (hb1.mono (by simp))
   go_wp2;go_ret2;exact ⟨none,0,rfl,World.ownsRow_nil _ _ _ _,hT.step hb2,za0.of hb2⟩
theorem zkT (g:Nat) (v:Value) (b:List UInt8) (K:Nat→Prop) (w:World) (hT:zbt w g) (hv:IsB w K v b) :
 Calls Tryz.prog 212 #[.agg #[.pointer (some ⟨g,0,none⟩)],v] w fun e w'=>∃ A' c',e=.returned (.tuple #[.slice A' (zdj b).1.length c',.int .i64 (zdj b).2.1,.bool (zdj b).2.2]) ∧
  w'.ownsRow w.heap.size 5 1 (.slice A' (zdj b).1.length c') (zdj b).1.length (za3 (zdj b).1)∧zbt w' g∧za0 w w' (· = g):=by
 have hgl:=hT.lt;have hv0:=hv;obtain ⟨A,c,rfl,hlc0⟩:=hv;obtain ⟨hrc,hlc,hcc,hl47⟩:=hlc0;unfold zdj;by_cases he:(zas b).2.2=0
 · rw [if_neg (by omega)]
   obtain ⟨vx,hvx⟩:∃ vx,zas b=vx:=⟨_,rfl⟩;rw [hvx] at he ⊢;obtain ⟨x,n0,e0⟩:=vx;simp only at he ⊢;subst he;obtain ⟨j,rfl,hj1,hj2,_,hx64⟩:=zfa hvx;have HV:=Lib.hid hvx;clear hvx;simp only [Int.toNat_natCast];obtain ⟨ok,hok⟩:∃ ok,(decide ((zbC (b.drop j)).2=0) && decide ((zbC (b.drop j)).1=crcL x))=ok:=⟨_,rfl⟩;rw [hok];obtain ⟨tf,htf⟩:∃ tf,zbC (b.drop j)=tf:=⟨_,rfl⟩;simp only [htf] at hok;obtain ⟨p,e2⟩:=tf;simp only at hok;have HTF:=Lib.hid htf;clear htf;have HOK:=Lib.hid hok;clear hok;go_enter Tryz.func212,Tryz.ntmps212
   go_wp2_with fail;refine (zeX _ b K _ (hv0.alloc _)).mono ?_;rintro e w1 ⟨A1,c1,rfl,own1,hb1⟩;rw [HV.out] at own1 ⊢;simp only [World.size_alloc] at own1 ⊢;have hB:=(Blk.new w 225 #[.pointer (some ⟨g,0,none⟩)] rfl).step hb1;have hs1:=hb1.size;simp only [World.size_alloc] at hs1;have hjc:(j:Int)≤(c:Int):=by omega
   have hcut:=zf0 hv0 hj2;obtain ⟨A3,hA3⟩:∃ A3,(if c=j then A else A.map (fun x=>x.add j))=A3:=⟨_,rfl⟩
   rw [hA3] at hcut;have hcutB:IsB w K (.slice A3 (b.length-j) (c-j)) (b.drop j):=⟨A3,c-j,by rw [List.length_drop],by rw [List.length_drop];exact hcut,by rw [List.length_drop];omega,by omega,by rw [List.length_drop];omega⟩
   have hb2:Below w.heap.size w w1:=((Below.refl _ _).alloc (Nat.le_refl _) _).trans (hb1.mono (by simp))
   replace hcutB:=hcutB.step hb2;have hcl:=zi6 x;clear hcut;go_wp2_with fail;refine (zgE _ (b.drop j) K _ hcutB).mono ?_;rintro e w2 ⟨rfl,hb3⟩;rw [HTF.out];simp only;have own2:=za4 own1 hb3 (Nat.le_refl _);have hs2:=hb3.size;have hB2:=hB.step hb3;obtain ⟨r1,r2⟩:=hB2.rules;have hb4:=hb2.trans (hb3.mono hb2.size);by_cases he2:e2=0
   · subst he2
     have hxB:IsB w2 (fun k=>w.heap.size+1≤k) (.slice A1 x.length c1) x:=⟨A1,c1,rfl,za6.of_own_ge own2,zaJ own2,zar own2,by omega⟩
     have hv5:=zfC hxB 32;have hb5:Below w.heap.size w (w2.alloc (.cells #[.slice A1 x.length c1] 32)):=hb4.alloc (by omega) _
     have own5:=own2.alloc (.cells #[.slice A1 x.length c1] 32);have hcx:=zi6 x;go_wp2_with fail;refine (zkw g _ [x] _ _ (hT.step hb5) hv5 (fun k hk=>by rcases hk with h | h;omega;omega)).mono ?_
     rintro e w6 ⟨rfl,hT6,hb6⟩;have own6:=za7 own5 hb6 (by omega)
     rw [List.flatten_singleton];by_cases hpc:p=crcL x
     · have hok:ok=true:=by rw [←HOK.out,decide_eq_true hpc];simp
       subst hok;have hpc':((p:Int) == (crcL x:Int))=true:=by simp [hpc]
       go_wp2;go_ret3
       exact ⟨A1,c1,rfl,zac own6 (by omega),hT6,(za0.of hb5).trans hb6⟩
     · have hok:ok=false:=by rw [←HOK.out,decide_eq_false hpc];simp
       subst hok;have hpc':((p:Int) == (crcL x:Int))=false:=by simp;omega
       go_wp2;go_ret3
       exact ⟨A1,c1,rfl,zac own6 (by omega),hT6,(za0.of hb5).trans hb6⟩
   · have he2':((e2:Int) == 0)=false:=by simp [he2]
     have hok:ok=false:=by rw [←HOK.out,decide_eq_false he2,Bool.false_and]
     subst hok;go_wp2;go_ret3
     exact ⟨A1,c1,rfl,zac own2 (by omega),hT.step hb4,za0.of hb4⟩
 · rw [if_pos he]
   obtain ⟨vx,hvx⟩:∃ vx,zas b=vx:=⟨_,rfl⟩;rw [hvx] at he;obtain ⟨x,n0,e0⟩:=vx;simp only at he;have HV:=Lib.hid hvx;clear hvx;have he':((e0:Int) != 0)=true:=by simp [he]
   go_enter Tryz.func212,Tryz.ntmps212
   go_wp2_with fail;refine (zeX _ b K _ (hv0.alloc _)).mono ?_;rintro e w1 ⟨A1,c1,rfl,own1,hb1⟩;rw [HV.out] at own1 ⊢;simp only at own1 ⊢;have hb2:Below w.heap.size w w1:=((Below.refl _ _).alloc (Nat.le_refl _) _).trans (hb1.mono (by simp))
   go_wp2;go_ret3
   exact ⟨none,0,rfl,World.ownsRow_nil _ _ _ _,hT.step hb2,za0.of hb2⟩
end Go.Proofs.YthblkdnijhphhaaGreat
namespace Go.Proofs.YthblkdnijhphhaaGreat
open Go.RowKit Go.WideShapes Go.ChangeShapes Go.Deep
structure Hd where
 host:Int
 epoch:Int
 seq:Int
deriving DecidableEq
structure Rc where
 kind:Int
 lba:Int
 n:Int
 ver:Int
 zone:Int
 off:Int
 data:List UInt8
deriving DecidableEq
def Rp.hd:Rp Hd:=⟨3,fun _ _ cs o=>cs=[.int .i64 o.host,.int .i64 o.epoch,.int .i64 o.seq]∧(-9223372036854775808≤o.host∧o.host≤9223372036854775807)∧(-9223372036854775808≤o.epoch∧o.epoch≤9223372036854775807)∧(-9223372036854775808≤o.seq∧o.seq≤9223372036854775807),
 by rintro _ _ _ _ ⟨rfl,r0,r1,r2⟩;rfl,
 fun h _=>h,
 fun h _=>h,
 by
  rintro _ _ _ _ ⟨rfl,r0,r1,r2⟩ u hu;simp only [List.mem_cons,List.not_mem_nil,or_false] at hu;rcases hu with rfl | rfl | rfl <;> first | rfl | assumption⟩
def Rp.rc:Rp Rc:=⟨7,fun w K cs o=>∃ v_data,cs=[.int .i64 o.kind,.int .i64 o.lba,.int .i64 o.n,.int .i64 o.ver,.int .i64 o.zone,.int .i64 o.off,v_data]∧IsB w K v_data o.data∧(-9223372036854775808≤o.kind∧o.kind≤9223372036854775807)∧(-9223372036854775808≤o.lba∧o.lba≤9223372036854775807)∧(-9223372036854775808≤o.n∧o.n≤9223372036854775807)∧(-9223372036854775808≤o.ver∧o.ver≤9223372036854775807)∧(-9223372036854775808≤o.zone∧o.zone≤9223372036854775807)∧(-9223372036854775808≤o.off∧o.off≤9223372036854775807),
 by rintro _ _ _ _ ⟨v_data,rfl,h_data,r0,r1,r2,r3,r4,r5⟩;rfl,
 by rintro _ _ _ _ _ ⟨v_data,e,h_data,r0,r1,r2,r3,r4,r5⟩ hk;exact ⟨v_data,e,h_data.keep hk,r0,r1,r2,r3,r4,r5⟩,
 by rintro _ _ _ _ _ ⟨v_data,e,h_data,r0,r1,r2,r3,r4,r5⟩ hk;exact ⟨v_data,e,h_data.more hk,r0,r1,r2,r3,r4,r5⟩,
 by
  rintro _ _ _ _ ⟨v_data,rfl,h_data,r0,r1,r2,r3,r4,r5⟩ u hu;have o_data:=IsB.one h_data;simp only [List.mem_cons,List.not_mem_nil,or_false] at hu;rcases hu with rfl | rfl | rfl | rfl | rfl | rfl | rfl <;> first | rfl | assumption⟩
end Go.Proofs.YthblkdnijhphhaaGreat
namespace Go.Proofs.YthblkdnijhphhaaGreat
def zd5 (h:Hd):List Int:=[0,h.host,h.epoch,h.seq]
def recN (r:Rc):List Int:=[r.kind,r.lba,r.n,r.ver,r.zone,r.off]
def zbX (h:Hd):List UInt8 × Int:=if (zc4 (zd5 h)).2≠0 then ([],(zc4 (zd5 h)).2) else zbF (zc4 (zd5 h)).1
def checkL (r:Rc):Int:=
 if r.kind<1∨5<r.kind then 1
 else if r.lba<0∨r.n<0∨r.ver<0∨r.zone<0∨r.off<0 then 1
 else if ¬(r.kind=3∨r.kind=5)∧(r.zone≠0∨r.off≠0) then 1
 else if r.kind=4 then (if r.lba≠0∨r.n≠0 then 1 else if 32768<r.data.length then 2 else 0)
 else if r.n<1∨1099511627776<r.n∨1099511627776-r.n<r.lba then 1
 else if r.kind=1∨r.kind=5 then (if 256<r.n∨(r.data.length:Int)≠r.n*16 then 1 else 0)
 else if 0<r.data.length then 1 else 0
def recL (r:Rc):List UInt8 × Int:=
 if checkL r≠0 then ([],checkL r)
 else if (zc4 (recN r)).2≠0 then ([],(zc4 (recN r)).2)
 else if (vecL r.data).2≠0 then ([],(vecL r.data).2)
 else zbF ((zc4 (recN r)).1++(vecL r.data).1)
def zkC (x:List UInt8):Hd × Bool:=
 if (zaU x 4).2.2≠0 then (⟨0,0,0⟩,false)
 else if (zaU x 4).2.1≠x.length∨(zaU x 4).1.getD 0 0≠0 then (⟨0,0,0⟩,false)
 else (⟨(zaU x 4).1.getD 1 0,(zaU x 4).1.getD 2 0,(zaU x 4).1.getD 3 0⟩,true)
def r0c:Rc:=⟨0,0,0,0,0,0,[]⟩
def zlX (x:List UInt8):Rc × Bool:=
 if (zaU x 6).2.2≠0 then (r0c,false)
 else
  let l:=(zaU x 6).1
  let y:=zas (x.drop (zaU x 6).2.1.toNat)
  if y.2.2≠0∨(zaU x 6).2.1+y.2.1<x.length then (r0c,false)
  else
   let r:Rc:=⟨l.getD 0 0,l.getD 1 0,l.getD 2 0,l.getD 3 0,l.getD 4 0,l.getD 5 0,y.1⟩
   (r,decide (checkL r=0))
structure Fd where
 head:Bool
 h:Hd
 l:List Rc
 at_:List Int
 used:Nat
def f0d:Fd:=⟨false,⟨0,0,0⟩,[],[],0⟩
def zou (b:List UInt8) (f:Fd):Option Fd:=
 let t:=zdj (b.drop f.used)
 if t.2.2=false then none
 else if f.head=false then
  if (zkC t.1).2=false then none else some ⟨true,(zkC t.1).1,f.l,f.at_,f.used+t.2.1.toNat⟩
 else if (zlX t.1).2=false then none
 else some ⟨true,f.h,f.l++[(zlX t.1).1],f.at_++[(f.used:Int)],f.used+t.2.1.toNat⟩
def zmu (b:List UInt8):Nat→Fd→Fd
 | 0,f=>f
 | n+1,f=>match zou b f with
   | none=>f
   | some g=>zmu b n g
def scanL (b:List UInt8):Fd:=zmu b (b.length+1) f0d
theorem zlT {b x:List UInt8} {n:Int} (h:zdj b=(x,n,true)):∃ j:Nat,n=j∧5≤j∧j≤b.length∧zbF x=(b.take j,0)∧x.length≤65536:=by
 unfold zdj at h;split at h
 · simp at h
 · rename_i h0
   obtain ⟨y,hy⟩:∃ y,zas b=y:=⟨_,rfl⟩;obtain ⟨x',n',e'⟩:=y;simp only [hy] at h h0;have he:e'=0:=Decidable.not_not.1 h0;subst he;obtain ⟨j,rfl,h1,h2,h3,h4⟩:=zfa hy;simp only [Prod.mk.injEq,Bool.and_eq_true,decide_eq_true_eq,Int.toNat_natCast] at h;obtain ⟨rfl,rfl,h5,h6⟩:=h;have h7:4≤(b.drop j).length:=by
    rcases Nat.lt_or_ge (b.drop j).length 4 with h | h
    · rw [zej h] at h5;simp at h5
    · exact h
   obtain ⟨h8,_,_⟩:=ziJ h7;rw [List.length_drop] at h7;refine ⟨j+4,by omega,by omega,by omega,?_,h4⟩
   unfold zbF;rw [h3];simp only [ne_eq,not_true_eq_false,if_false,Prod.mk.injEq,and_true];rw [←h6,h8,List.take_add]
end Go.Proofs.YthblkdnijhphhaaGreat
namespace Go.Proofs.YthblkdnijhphhaaGreat
open Go.RowKit
theorem zeo {w:World} {l:List Int} {cs:Array Value} {n:Nat} (hI:I63 l) (t:TypeId) (hcs:cs.toList=l.map I64) (hn:l.length=n) (h47:n≤1000) :
 IsL Rp.int (w.alloc (.cells cs t)) (fun b=>b=w.heap.size) (.slice (some ⟨w.heap.size,0,none⟩) n n) l:=by
 subst hn;exact ⟨_,_,l.map I64,rfl,za6.new (n:=l.length) (size:=1) rfl hcs (by have:=congrArg List.length hcs;simpa using this),zfK hI,Nat.le_refl _,by omega,by omega⟩
def hdV (h:Hd):Value:=.agg #[.int .i64 h.host,.int .i64 h.epoch,.int .i64 h.seq]
def OkHd (h:Hd):Prop:=(-9223372036854775808≤h.host∧h.host≤9223372036854775807)∧(-9223372036854775808≤h.epoch∧h.epoch≤9223372036854775807)∧(-9223372036854775808≤h.seq∧h.seq≤9223372036854775807)
theorem OkHd.i63 {h:Hd} (hh:OkHd h):I63 (zd5 h):=by
 obtain ⟨h1,h2,h3⟩:=hh;intro n hn;simp only [zd5,List.mem_cons,List.not_mem_nil,or_false] at hn;rcases hn with rfl | rfl | rfl | rfl <;> omega
theorem zm7 (h:Hd) (w:World) (hh:OkHd h) :
 Calls Tryz.prog 185 #[hdV h] w fun e w'=>∃ A c,e=.returned (.tuple #[.slice A (zbX h).1.length c,.int .i64 (zbX h).2]) ∧
  w'.ownsRow w.heap.size 5 1 (.slice A (zbX h).1.length c) (zbX h).1.length (za3 (zbX h).1)∧Below w.heap.size w w':=by
 have hI:=hh.i63;have hcs:(#[.int .i64 0,.int .i64 h.host,.int .i64 h.epoch,.int .i64 h.seq]:Array Value).toList=(zd5 h).map I64:=rfl;have hcalls:=fun W=>zfn _ (zd5 h) _ _ (zeo (w:=W) (n:=4) hI 3 hcs rfl (by omega)) (by show 4≤_;omega)
 have hlen4:(zd5 h).length=4:=rfl;unfold zbX hdV;obtain ⟨nb,hnb⟩:∃ nb,zc4 (zd5 h)=nb:=⟨_,rfl⟩;have hnl:=zc9 hI;have hnl2:nb.1.length≤40:=by
  rw [←hnb];unfold zc4;split
  · rw [hlen4] at hnl;exact hnl
  · simp
 simp only [hnb] at hcalls ⊢;obtain ⟨nb,ne⟩:=nb;simp only at hcalls hnl2 ⊢;replace hcalls:=hcalls (w.alloc (.cells #[.int .i64 h.host,.int .i64 h.epoch,.int .i64 h.seq] 31));simp only [World.size_alloc] at hcalls;have HC:=Lib.hid hcalls;clear hcalls hcs hnl hlen4;by_cases he:ne=0
 · subst he
   simp only [ne_eq,not_true_eq_false,if_false];obtain ⟨fr,hfr⟩:∃ fr,zbF nb=fr:=⟨_,rfl⟩;rw [hfr];have HF:=Lib.hid hfr;clear hfr;go_enter Tryz.func185,Tryz.ntmps185
   go_wp2_with fail;refine HC.out.mono ?_;rintro e w1 ⟨A1,c1,rfl,own1,hb1⟩;have hb2:Below w.heap.size w w1:=(((Below.refl _ _).alloc (Nat.le_refl _) _).alloc (by simp) _).trans (hb1.mono (by omega))
   go_wp2_with fail;refine (zex _).mono ?_;rintro e w2 ⟨g,rfl,hg,hT2,hb3⟩;have own2:=za4 own1 hb3 (Nat.le_refl _);have hs2:=hb2.size;have hs3:=hb3.size;have hlt:=own1.lt;have hxB:IsB w2 (fun k=>k<w1.heap.size) (.slice A1 nb.length c1) nb:=⟨A1,c1,rfl,(za6.of_own own2).more (fun b hb=>(own1.lt b hb.symm).2),zaJ own2,zar own2,by omega⟩
   go_wp2_with fail;refine (zhr g _ nb _ _ hT2 hxB (fun k hk=>by omega)).mono ?_
   rintro e w3 ⟨A5,c5,rfl,own5,hT5,hb5⟩;rw [HF.out] at own5 ⊢;have hb6:Below w.heap.size w w3:=(hb2.trans (hb3.mono hs2)).trans (hb5.below (fun k hk=>by omega) (by omega))
   go_wp2;go_ret2;exact ⟨A5,c5,rfl,zac own5 (by omega),hb6⟩
 · simp only [ne_eq,he,not_false_eq_true,if_true]
   have he':((ne:Int) != 0)=true:=by simp [he]
   go_enter Tryz.func185,Tryz.ntmps185
   go_wp2_with fail;refine HC.out.mono ?_;rintro e w1 ⟨A1,c1,rfl,own1,hb1⟩;have hb2:Below w.heap.size w w1:=(((Below.refl _ _).alloc (Nat.le_refl _) _).alloc (by simp) _).trans (hb1.mono (by omega))
   go_wp2;go_ret2;exact ⟨none,0,rfl,World.ownsRow_nil _ _ _ _,hb2⟩
def OkRc (r:Rc):Prop:=I63 (recN r)
theorem zfp {r:Rc} (h:checkL r=0):r.data.length≤32768∧∀ n∈recN r,0≤n:=by
 have h1:r.data.length≤32768:=by
  unfold checkL at h
  (repeat' split at h) <;> first | omega | (exfalso;omega)
 refine ⟨h1,fun n hn=>?_⟩
 have h2:0≤r.kind∧0≤r.lba∧0≤r.n∧0≤r.ver∧0≤r.zone∧0≤r.off:=by
  unfold checkL at h
  (repeat' split at h) <;> first | omega | (exfalso;omega)
 simp only [recN,List.mem_cons,List.not_mem_nil,or_false] at hn;rcases hn with rfl | rfl | rfl | rfl | rfl | rfl <;> omega
def zcD (r:Rc):List UInt8:=flatN (recN r)++(putL r.data.length++r.data)
def frB (x:List UInt8):List UInt8:=putL x.length++x++fixL (crcL x)
theorem zeT {x:List UInt8} (h:x.length≤65536):zbF x=(frB x,0):=by
 unfold zbF vecL frB;rw [if_pos h];simp
theorem zgo {r:Rc} (hr:OkRc r) (h:checkL r=0):(zcD r).length≤40000:=by
 have h1:=(zfp h).1;have h2:=zc9 hr;have h3:(recN r).length=6:=rfl;have h4:=zbg (n:=r.data.length) (by omega)
 unfold zcD;simp only [List.length_append];omega
theorem ze7 {r:Rc} (hr:OkRc r) (h:checkL r=0):recL r=(frB (zcD r),0):=by
 have h1:=zfp h;have hn:zc4 (recN r)=(flatN (recN r),0):=if_pos h1.2;have hv:vecL r.data=(putL r.data.length++r.data,0):=if_pos (by omega)
 unfold recL;rw [if_neg (by simp [h]),hn,hv]
 simp only [ne_eq,not_true_eq_false,if_false];exact zeT (by have:=zgo hr h;unfold zcD at this;omega)
theorem zkG {r:Rc} (h:checkL r≠0):recL r=([],checkL r):=by unfold recL;rw [if_pos h]
theorem zkl (x:List UInt8):(frB x).length=(putL x.length).length+x.length+4:=by simp [frB,fixL];omega
theorem zjS (a b:Nat) (ha:a<9223372036854775808) (hb:b<9223372036854775808):bits .or .i64 (a:Int) (b:Int)=((a ||| b:Nat):Int):=by
 have hx:a ||| b<2 ^ 63:=Nat.or_lt_two_pow (by omega) (by omega)
 show IntKind.i64.wrap ((BitVec.ofInt 64 (a:Int) ||| BitVec.ofInt 64 (b:Int)).toNat:Int)=_
 rw [BitVec.toNat_or,ofInt_u64 a (by omega),ofInt_u64 b (by omega),IntKind.wrap_i64]
 omega
theorem znm {a b:Int} (ha:0≤a) (ha2:a≤9223372036854775807) (hb:0≤b) (hb2:b≤9223372036854775807):(bits .or .i64 a b != 0)=decide (a≠0∨b≠0):=by
 obtain ⟨A,rfl⟩:=Int.eq_ofNat_of_zero_le ha;obtain ⟨B,rfl⟩:=Int.eq_ofNat_of_zero_le hb;rw [zjS A B (by omega) (by omega)]
 by_cases h:A=0∧B=0
 · obtain ⟨rfl,rfl⟩:=h;rfl
 · have:A ||| B≠0:=fun h'=>h (Nat.or_eq_zero_iff.1 h')
   have h1:(((A ||| B:Nat):Int) != 0)=true:=by simp;exact fun a b=>h ⟨a,b⟩
   rw [h1];symm
   simp;omega
theorem zow (v:Value) (l:List Int) (K:Nat→Prop) (w:World) (hv:IsL Rp.int w K v l) (hl:1≤l.length) :
 Calls Tryz.prog 140 #[v] w fun e w'=>∃ m:Int,e=.returned (.int .i64 m)∧(m<0↔∃ n∈l,n<0)∧w'=w:=by
 have hv0:=hv;obtain ⟨A,c,rfl,hlc,hcc⟩:=hv.form;have hl47:=hv.len;obtain ⟨ad0,es0,hA,hK0,he0,hc0⟩:=hv0.at_ (i:=0) (x:=l[0]) (List.getElem?_eq_getElem (by omega))
 obtain ⟨rfl,hr0⟩:=he0;have hcell0:=hc0 0 _ rfl;rw [zbN,Nat.zero_mul,zbN] at hcell0;have h1:((l.length:Int)<1)=False:=by simp;omega
 subst hA;go_enter Tryz.func140,Tryz.ntmps140
 go_wp2;go_loopw [3,4] (fun x i wr=>∃ (j:Nat) (m:Int),x=.int .i64 m∧i=.int .i64 j∧1≤j∧j≤l.length∧(m<0↔∃ n∈l.take j,n<0)∧wr=w) (fun _ i _=>l.length-(intOf i).toNat)
 case atStart=>
  refine ⟨1,l[0],rfl,rfl,by omega,by omega,?_,rfl⟩
  have:l.take 1=[l[0]]:=by
   match l,hl with
   | a::r,_=>rfl
  rw [this];simp
 case round=>
  obtain ⟨j,m,rfl,rfl,hj1,hj,hm,rfl⟩:=hrel;have HM:=Lib.hid hm;clear hm;by_cases hlt:j<l.length
  · obtain ⟨ad,es,hA,hK1,he1,hc1⟩:=hv0.at_ (i:=j) (x:=l[j]) (List.getElem?_eq_getElem hlt)
    obtain ⟨rfl,hr1⟩:=he1;injection hA with hA';subst hA';have hcell:=hc1 0 _ rfl;have hsz1:Rp.int.size=1:=rfl;rw [zbN,hsz1,Nat.mul_one] at hcell;have htk:l.take (j+1)=l.take j++[l[j]]:=by rw [List.take_add_one,List.getElem?_eq_getElem hlt];rfl
    have HTK:=Lib.hid htk;clear htk hc1 hc0 hsz1;generalize hy:l[j]=y at *;clear hy;go_wp2;refine ⟨⟨j+1,min m y,rfl,by go_num,by omega,by omega,?_,trivial⟩,by simp [intOf];omega⟩
    rw [HTK.out];have h:=HM.out;have h2:min m y<0↔m<0∨y<0:=by omega
    rw [h2,h];simp only [List.mem_append,List.mem_singleton,or_and_right,exists_or,exists_eq_left]
  · obtain rfl:j=l.length:=by omega
    go_wp2;go_ret;have:=HM.out;rw [List.take_length] at this;exact ⟨m,rfl,this,rfl⟩
def rcV (r:Rc) (vd:Value):Value:=.agg #[.int .i64 r.kind,.int .i64 r.lba,.int .i64 r.n,.int .i64 r.ver,.int .i64 r.zone,.int .i64 r.off,vd]
theorem zhK (r:Rc) (A:Option Addr) (c:Nat) (w:World) (hr:OkRc r) (hl47:r.data.length≤140737488355328) :
 Calls Tryz.prog 75 #[rcV r (.slice A r.data.length c)] w fun e w'=>e=.returned (.int .i64 (checkL r))∧Below w.heap.size w w':=by
 obtain ⟨kind,lba,n,ver,zone,off,data⟩:=r;have hI:I63 [lba,n,ver,zone,off]:=fun x hx=>hr x (List.mem_cons_of_mem _ hx)
 have hk:=hr kind (List.mem_cons_self ..);have hb1:=hI lba (by simp)
 have hb2:=hI n (by simp)
 have hb4:=hI zone (by simp)
 have hb5:=hI off (by simp)
 clear hr;unfold rcV;simp only at hl47 ⊢;have hmin:∀ W:World,Calls Tryz.prog 140 #[.slice (some ⟨W.heap.size,0,none⟩) 5 5] (W.alloc (.cells #[.int .i64 lba,.int .i64 n,.int .i64 ver,.int .i64 zone,.int .i64 off] 3)) fun e w'=>∃ m:Int,e=.returned (.int .i64 m)∧(m<0↔(lba<0∨n<0∨ver<0∨zone<0∨off<0))∧w'=W.alloc (.cells #[.int .i64 lba,.int .i64 n,.int .i64 ver,.int .i64 zone,.int .i64 off] 3):=fun W=>
  (zow _ _ _ _ (zeo (w:=W) (n:=5) hI 3 rfl rfl (by omega)) (by simp)).mono fun e w' ⟨m,h1,h2,h3⟩=>⟨m,h1,by rw [h2];simp,h3⟩
 replace hmin:=hmin (w.alloc (.cells #[.int .i64 kind,.int .i64 lba,.int .i64 n,.int .i64 ver,.int .i64 zone,.int .i64 off,.slice A data.length c] 109));simp only [World.size_alloc] at hmin;have hmin':=fun (_:Unit)=>hmin
 have HMIN:=Lib.hid hmin';clear hmin hmin' hI;have hbl:Below w.heap.size w ((w.alloc (.cells #[.int .i64 kind,.int .i64 lba,.int .i64 n,.int .i64 ver,.int .i64 zone,.int .i64 off,.slice A data.length c] 109)).alloc (.cells #[.int .i64 lba,.int .i64 n,.int .i64 ver,.int .i64 zone,.int .i64 off] 3)):=((Below.refl _ _).alloc (Nat.le_refl _) _).alloc (by simp) _
 by_cases h1:kind<1∨5<kind
 · have e1:(kind == 1)=false:=by simp;omega
   have e2:(kind == 2)=false:=by simp;omega
   have e3:(kind == 3)=false:=by simp;omega
   have e4:(kind == 4)=false:=by simp;omega
   have e5:(kind == 5)=false:=by simp;omega
   have hcv:checkL ⟨kind,lba,n,ver,zone,off,data⟩=1:=by unfold checkL;dsimp only;rw [if_pos h1]
   rw [hcv];clear hcv;go_enter Tryz.func75,Tryz.ntmps75
   go_wp2;go_ret;exact ⟨rfl,hbl⟩
 have hkk:kind=1∨kind=2∨kind=3∨kind=4∨kind=5:=by omega
 clear h1 hk;by_cases hneg:lba<0∨n<0∨ver<0∨zone<0∨off<0
 · rcases hkk with rfl | rfl | rfl | rfl | rfl
   · have hcv:checkL ⟨1,lba,n,ver,zone,off,data⟩=1:=by unfold checkL;dsimp only;(repeat' split) <;> first | rfl | (exfalso;omega)
     rw [hcv];clear hcv;go_enter Tryz.func75,Tryz.ntmps75
     go_wp2_with (go_at_call 140;refine (HMIN.out ()).mono ?_;rintro e w1 ⟨m,rfl,hm,rfl⟩;have hm1:m<0:=hm.2 hneg;clear hm);go_ret;exact ⟨rfl,hbl⟩
   · have hcv:checkL ⟨2,lba,n,ver,zone,off,data⟩=1:=by unfold checkL;dsimp only;(repeat' split) <;> first | rfl | (exfalso;omega)
     rw [hcv];clear hcv;go_enter Tryz.func75,Tryz.ntmps75
     go_wp2_with (go_at_call 140;refine (HMIN.out ()).mono ?_;rintro e w1 ⟨m,rfl,hm,rfl⟩;have hm1:m<0:=hm.2 hneg;clear hm);go_ret;exact ⟨rfl,hbl⟩
   · have hcv:checkL ⟨3,lba,n,ver,zone,off,data⟩=1:=by unfold checkL;dsimp only;(repeat' split) <;> first | rfl | (exfalso;omega)
     rw [hcv];clear hcv;go_enter Tryz.func75,Tryz.ntmps75
     go_wp2_with (go_at_call 140;refine (HMIN.out ()).mono ?_;rintro e w1 ⟨m,rfl,hm,rfl⟩;have hm1:m<0:=hm.2 hneg;clear hm);go_ret;exact ⟨rfl,hbl⟩
   · have hcv:checkL ⟨4,lba,n,ver,zone,off,data⟩=1:=by unfold checkL;dsimp only;(repeat' split) <;> first | rfl | (exfalso;omega)
     rw [hcv];clear hcv;go_enter Tryz.func75,Tryz.ntmps75
     go_wp2_with (go_at_call 140;refine (HMIN.out ()).mono ?_;rintro e w1 ⟨m,rfl,hm,rfl⟩;have hm1:m<0:=hm.2 hneg;clear hm);go_ret;exact ⟨rfl,hbl⟩
   · have hcv:checkL ⟨5,lba,n,ver,zone,off,data⟩=1:=by unfold checkL;dsimp only;(repeat' split) <;> first | rfl | (exfalso;omega)
     rw [hcv];clear hcv;go_enter Tryz.func75,Tryz.ntmps75
     go_wp2_with (go_at_call 140;refine (HMIN.out ()).mono ?_;rintro e w1 ⟨m,rfl,hm,rfl⟩;have hm1:m<0:=hm.2 hneg;clear hm);go_ret;exact ⟨rfl,hbl⟩
 have hz0:0≤zone:=by omega
 have ho0:0≤off:=by omega
 have hl0:0≤lba:=by omega
 have hn0:0≤n:=by omega
 have hor:=znm hz0 hb4.2 ho0 hb5.2;have hor2:=znm hl0 hb1.2 hn0 hb2.2;rcases hkk with rfl | rfl | rfl | rfl | rfl
 · by_cases hzo:zone≠0∨off≠0
   · rw [decide_eq_true hzo] at hor
     have hcv:checkL ⟨1,lba,n,ver,zone,off,data⟩=1:=by unfold checkL;dsimp only;(repeat' split) <;> first | rfl | (exfalso;omega)
     rw [hcv];clear hcv;go_enter Tryz.func75,Tryz.ntmps75
     go_wp2_with (go_at_call 140;refine (HMIN.out ()).mono ?_;rintro e w1 ⟨m,rfl,hm,rfl⟩;have hm1:¬m<0:=fun h=>hneg (hm.1 h);clear hm)
     go_ret;exact ⟨rfl,hbl⟩
   rw [decide_eq_false hzo] at hor;by_cases hn1:n<1
   · have hcv:checkL ⟨1,lba,n,ver,zone,off,data⟩=1:=by unfold checkL;dsimp only;(repeat' split) <;> first | rfl | (exfalso;omega)
     rw [hcv];clear hcv;go_enter Tryz.func75,Tryz.ntmps75
     go_wp2_with (go_at_call 140;refine (HMIN.out ()).mono ?_;rintro e w1 ⟨m,rfl,hm,rfl⟩;have hm1:¬m<0:=fun h=>hneg (hm.1 h);clear hm)
     go_ret;exact ⟨rfl,hbl⟩
   by_cases hn2:1099511627776<n
   · have hcv:checkL ⟨1,lba,n,ver,zone,off,data⟩=1:=by unfold checkL;dsimp only;(repeat' split) <;> first | rfl | (exfalso;omega)
     rw [hcv];clear hcv;go_enter Tryz.func75,Tryz.ntmps75
     go_wp2_with (go_at_call 140;refine (HMIN.out ()).mono ?_;rintro e w1 ⟨m,rfl,hm,rfl⟩;have hm1:¬m<0:=fun h=>hneg (hm.1 h);clear hm)
     go_ret;exact ⟨rfl,hbl⟩
   by_cases hn3:1099511627776-n<lba
   · have hcv:checkL ⟨1,lba,n,ver,zone,off,data⟩=1:=by unfold checkL;dsimp only;(repeat' split) <;> first | rfl | (exfalso;omega)
     rw [hcv];clear hcv;go_enter Tryz.func75,Tryz.ntmps75
     go_wp2_with (go_at_call 140;refine (HMIN.out ()).mono ?_;rintro e w1 ⟨m,rfl,hm,rfl⟩;have hm1:¬m<0:=fun h=>hneg (hm.1 h);clear hm)
     go_ret;exact ⟨rfl,hbl⟩
   by_cases hn4:256<n
   · have hcv:checkL ⟨1,lba,n,ver,zone,off,data⟩=1:=by unfold checkL;dsimp only;(repeat' split) <;> first | rfl | (exfalso;omega)
     rw [hcv];clear hcv;go_enter Tryz.func75,Tryz.ntmps75
     go_wp2_with (go_at_call 140;refine (HMIN.out ()).mono ?_;rintro e w1 ⟨m,rfl,hm,rfl⟩;have hm1:¬m<0:=fun h=>hneg (hm.1 h);clear hm)
     go_ret;exact ⟨rfl,hbl⟩
   by_cases hd:(data.length:Int)≠n*16
   · have hd':((data.length:Int) != n*16)=true:=by simpa using hd
     have hcv:checkL ⟨1,lba,n,ver,zone,off,data⟩=1:=by unfold checkL;dsimp only;(repeat' split) <;> first | rfl | (exfalso;omega)
     rw [hcv];clear hcv;go_enter Tryz.func75,Tryz.ntmps75
     go_wp2_with (go_at_call 140;refine (HMIN.out ()).mono ?_;rintro e w1 ⟨m,rfl,hm,rfl⟩;have hm1:¬m<0:=fun h=>hneg (hm.1 h);clear hm)
     go_ret;exact ⟨rfl,hbl⟩
   have hd':((data.length:Int) != n*16)=false:=by simpa using hd
   have hcv:checkL ⟨1,lba,n,ver,zone,off,data⟩=0:=by unfold checkL;dsimp only;(repeat' split) <;> first | rfl | (exfalso;omega)
   rw [hcv];clear hcv;go_enter Tryz.func75,Tryz.ntmps75
   go_wp2_with (go_at_call 140;refine (HMIN.out ()).mono ?_;rintro e w1 ⟨m,rfl,hm,rfl⟩;have hm1:¬m<0:=fun h=>hneg (hm.1 h);clear hm)
   go_ret;exact ⟨rfl,hbl⟩
 · by_cases hzo:zone≠0∨off≠0
   · rw [decide_eq_true hzo] at hor
     have hcv:checkL ⟨2,lba,n,ver,zone,off,data⟩=1:=by unfold checkL;dsimp only;(repeat' split) <;> first | rfl | (exfalso;omega)
     rw [hcv];clear hcv;go_enter Tryz.func75,Tryz.ntmps75
     go_wp2_with (go_at_call 140;refine (HMIN.out ()).mono ?_;rintro e w1 ⟨m,rfl,hm,rfl⟩;have hm1:¬m<0:=fun h=>hneg (hm.1 h);clear hm)
     go_ret;exact ⟨rfl,hbl⟩
   rw [decide_eq_false hzo] at hor;by_cases hn1:n<1
   · have hcv:checkL ⟨2,lba,n,ver,zone,off,data⟩=1:=by unfold checkL;dsimp only;(repeat' split) <;> first | rfl | (exfalso;omega)
     rw [hcv];clear hcv;go_enter Tryz.func75,Tryz.ntmps75
     go_wp2_with (go_at_call 140;refine (HMIN.out ()).mono ?_;rintro e w1 ⟨m,rfl,hm,rfl⟩;have hm1:¬m<0:=fun h=>hneg (hm.1 h);clear hm)
     go_ret;exact ⟨rfl,hbl⟩
   by_cases hn2:1099511627776<n
   · have hcv:checkL ⟨2,lba,n,ver,zone,off,data⟩=1:=by unfold checkL;dsimp only;(repeat' split) <;> first | rfl | (exfalso;omega)
     rw [hcv];clear hcv;go_enter Tryz.func75,Tryz.ntmps75
     go_wp2_with (go_at_call 140;refine (HMIN.out ()).mono ?_;rintro e w1 ⟨m,rfl,hm,rfl⟩;have hm1:¬m<0:=fun h=>hneg (hm.1 h);clear hm)
     go_ret;exact ⟨rfl,hbl⟩
   by_cases hn3:1099511627776-n<lba
   · have hcv:checkL ⟨2,lba,n,ver,zone,off,data⟩=1:=by unfold checkL;dsimp only;(repeat' split) <;> first | rfl | (exfalso;omega)
     rw [hcv];clear hcv;go_enter Tryz.func75,Tryz.ntmps75
     go_wp2_with (go_at_call 140;refine (HMIN.out ()).mono ?_;rintro e w1 ⟨m,rfl,hm,rfl⟩;have hm1:¬m<0:=fun h=>hneg (hm.1 h);clear hm)
     go_ret;exact ⟨rfl,hbl⟩
   by_cases hd:0<(data.length:Int)
   · have hcv:checkL ⟨2,lba,n,ver,zone,off,data⟩=1:=by unfold checkL;dsimp only;(repeat' split) <;> first | rfl | (exfalso;omega)
     rw [hcv];clear hcv;go_enter Tryz.func75,Tryz.ntmps75
     go_wp2_with (go_at_call 140;refine (HMIN.out ()).mono ?_;rintro e w1 ⟨m,rfl,hm,rfl⟩;have hm1:¬m<0:=fun h=>hneg (hm.1 h);clear hm)
     go_ret;exact ⟨rfl,hbl⟩
   have hcv:checkL ⟨2,lba,n,ver,zone,off,data⟩=0:=by unfold checkL;dsimp only;(repeat' split) <;> first | rfl | (exfalso;omega)
   rw [hcv];clear hcv;go_enter Tryz.func75,Tryz.ntmps75
   go_wp2_with (go_at_call 140;refine (HMIN.out ()).mono ?_;rintro e w1 ⟨m,rfl,hm,rfl⟩;have hm1:¬m<0:=fun h=>hneg (hm.1 h);clear hm)
   go_ret;exact ⟨rfl,hbl⟩
 · by_cases hn1:n<1
   · have hcv:checkL ⟨3,lba,n,ver,zone,off,data⟩=1:=by unfold checkL;dsimp only;(repeat' split) <;> first | rfl | (exfalso;omega)
     rw [hcv];clear hcv;go_enter Tryz.func75,Tryz.ntmps75
     go_wp2_with (go_at_call 140;refine (HMIN.out ()).mono ?_;rintro e w1 ⟨m,rfl,hm,rfl⟩;have hm1:¬m<0:=fun h=>hneg (hm.1 h);clear hm)
     go_ret;exact ⟨rfl,hbl⟩
   by_cases hn2:1099511627776<n
   · have hcv:checkL ⟨3,lba,n,ver,zone,off,data⟩=1:=by unfold checkL;dsimp only;(repeat' split) <;> first | rfl | (exfalso;omega)
     rw [hcv];clear hcv;go_enter Tryz.func75,Tryz.ntmps75
     go_wp2_with (go_at_call 140;refine (HMIN.out ()).mono ?_;rintro e w1 ⟨m,rfl,hm,rfl⟩;have hm1:¬m<0:=fun h=>hneg (hm.1 h);clear hm)
     go_ret;exact ⟨rfl,hbl⟩
   by_cases hn3:1099511627776-n<lba
   · have hcv:checkL ⟨3,lba,n,ver,zone,off,data⟩=1:=by unfold checkL;dsimp only;(repeat' split) <;> first | rfl | (exfalso;omega)
     rw [hcv];clear hcv;go_enter Tryz.func75,Tryz.ntmps75
     go_wp2_with (go_at_call 140;refine (HMIN.out ()).mono ?_;rintro e w1 ⟨m,rfl,hm,rfl⟩;have hm1:¬m<0:=fun h=>hneg (hm.1 h);clear hm)
     go_ret;exact ⟨rfl,hbl⟩
   by_cases hd:0<(data.length:Int)
   · have hcv:checkL ⟨3,lba,n,ver,zone,off,data⟩=1:=by unfold checkL;dsimp only;(repeat' split) <;> first | rfl | (exfalso;omega)
     rw [hcv];clear hcv;go_enter Tryz.func75,Tryz.ntmps75
     go_wp2_with (go_at_call 140;refine (HMIN.out ()).mono ?_;rintro e w1 ⟨m,rfl,hm,rfl⟩;have hm1:¬m<0:=fun h=>hneg (hm.1 h);clear hm)
     go_ret;exact ⟨rfl,hbl⟩
   have hcv:checkL ⟨3,lba,n,ver,zone,off,data⟩=0:=by unfold checkL;dsimp only;(repeat' split) <;> first | rfl | (exfalso;omega)
   rw [hcv];clear hcv;go_enter Tryz.func75,Tryz.ntmps75
   go_wp2_with (go_at_call 140;refine (HMIN.out ()).mono ?_;rintro e w1 ⟨m,rfl,hm,rfl⟩;have hm1:¬m<0:=fun h=>hneg (hm.1 h);clear hm)
   go_ret;exact ⟨rfl,hbl⟩
 · by_cases hzo:zone≠0∨off≠0
   · rw [decide_eq_true hzo] at hor
     have hcv:checkL ⟨4,lba,n,ver,zone,off,data⟩=1:=by unfold checkL;dsimp only;(repeat' split) <;> first | rfl | (exfalso;omega)
     rw [hcv];clear hcv;go_enter Tryz.func75,Tryz.ntmps75
     go_wp2_with (go_at_call 140;refine (HMIN.out ()).mono ?_;rintro e w1 ⟨m,rfl,hm,rfl⟩;have hm1:¬m<0:=fun h=>hneg (hm.1 h);clear hm)
     go_ret;exact ⟨rfl,hbl⟩
   rw [decide_eq_false hzo] at hor;by_cases hln:lba≠0∨n≠0
   · rw [decide_eq_true hln] at hor2
     have hcv:checkL ⟨4,lba,n,ver,zone,off,data⟩=1:=by unfold checkL;dsimp only;(repeat' split) <;> first | rfl | (exfalso;omega)
     rw [hcv];clear hcv;go_enter Tryz.func75,Tryz.ntmps75
     go_wp2_with (go_at_call 140;refine (HMIN.out ()).mono ?_;rintro e w1 ⟨m,rfl,hm,rfl⟩;have hm1:¬m<0:=fun h=>hneg (hm.1 h);clear hm)
     go_ret;exact ⟨rfl,hbl⟩
   rw [decide_eq_false hln] at hor2;by_cases hd:32768<(data.length:Int)
   · have hcv:checkL ⟨4,lba,n,ver,zone,off,data⟩=2:=by unfold checkL;dsimp only;(repeat' split) <;> first | rfl | (exfalso;omega)
     rw [hcv];clear hcv;go_enter Tryz.func75,Tryz.ntmps75
     go_wp2_with (go_at_call 140;refine (HMIN.out ()).mono ?_;rintro e w1 ⟨m,rfl,hm,rfl⟩;have hm1:¬m<0:=fun h=>hneg (hm.1 h);clear hm)
     go_ret;exact ⟨rfl,hbl⟩
   have hcv:checkL ⟨4,lba,n,ver,zone,off,data⟩=0:=by unfold checkL;dsimp only;(repeat' split) <;> first | rfl | (exfalso;omega)
   rw [hcv];clear hcv;go_enter Tryz.func75,Tryz.ntmps75
   go_wp2_with (go_at_call 140;refine (HMIN.out ()).mono ?_;rintro e w1 ⟨m,rfl,hm,rfl⟩;have hm1:¬m<0:=fun h=>hneg (hm.1 h);clear hm)
   go_ret;exact ⟨rfl,hbl⟩
 · by_cases hn1:n<1
   · have hcv:checkL ⟨5,lba,n,ver,zone,off,data⟩=1:=by unfold checkL;dsimp only;(repeat' split) <;> first | rfl | (exfalso;omega)
     rw [hcv];clear hcv;go_enter Tryz.func75,Tryz.ntmps75
     go_wp2_with (go_at_call 140;refine (HMIN.out ()).mono ?_;rintro e w1 ⟨m,rfl,hm,rfl⟩;have hm1:¬m<0:=fun h=>hneg (hm.1 h);clear hm)
     go_ret;exact ⟨rfl,hbl⟩
   by_cases hn2:1099511627776<n
   · have hcv:checkL ⟨5,lba,n,ver,zone,off,data⟩=1:=by unfold checkL;dsimp only;(repeat' split) <;> first | rfl | (exfalso;omega)
     rw [hcv];clear hcv;go_enter Tryz.func75,Tryz.ntmps75
     go_wp2_with (go_at_call 140;refine (HMIN.out ()).mono ?_;rintro e w1 ⟨m,rfl,hm,rfl⟩;have hm1:¬m<0:=fun h=>hneg (hm.1 h);clear hm)
     go_ret;exact ⟨rfl,hbl⟩
   by_cases hn3:1099511627776-n<lba
   · have hcv:checkL ⟨5,lba,n,ver,zone,off,data⟩=1:=by unfold checkL;dsimp only;(repeat' split) <;> first | rfl | (exfalso;omega)
     rw [hcv];clear hcv;go_enter Tryz.func75,Tryz.ntmps75
     go_wp2_with (go_at_call 140;refine (HMIN.out ()).mono ?_;rintro e w1 ⟨m,rfl,hm,rfl⟩;have hm1:¬m<0:=fun h=>hneg (hm.1 h);clear hm)
     go_ret;exact ⟨rfl,hbl⟩
   by_cases hn4:256<n
   · have hcv:checkL ⟨5,lba,n,ver,zone,off,data⟩=1:=by unfold checkL;dsimp only;(repeat' split) <;> first | rfl | (exfalso;omega)
     rw [hcv];clear hcv;go_enter Tryz.func75,Tryz.ntmps75
     go_wp2_with (go_at_call 140;refine (HMIN.out ()).mono ?_;rintro e w1 ⟨m,rfl,hm,rfl⟩;have hm1:¬m<0:=fun h=>hneg (hm.1 h);clear hm)
     go_ret;exact ⟨rfl,hbl⟩
   by_cases hd:(data.length:Int)≠n*16
   · have hd':((data.length:Int) != n*16)=true:=by simpa using hd
     have hcv:checkL ⟨5,lba,n,ver,zone,off,data⟩=1:=by unfold checkL;dsimp only;(repeat' split) <;> first | rfl | (exfalso;omega)
     rw [hcv];clear hcv;go_enter Tryz.func75,Tryz.ntmps75
     go_wp2_with (go_at_call 140;refine (HMIN.out ()).mono ?_;rintro e w1 ⟨m,rfl,hm,rfl⟩;have hm1:¬m<0:=fun h=>hneg (hm.1 h);clear hm)
     go_ret;exact ⟨rfl,hbl⟩
   have hd':((data.length:Int) != n*16)=false:=by simpa using hd
   have hcv:checkL ⟨5,lba,n,ver,zone,off,data⟩=0:=by unfold checkL;dsimp only;(repeat' split) <;> first | rfl | (exfalso;omega)
   rw [hcv];clear hcv;go_enter Tryz.func75,Tryz.ntmps75
   go_wp2_with (go_at_call 140;refine (HMIN.out ()).mono ?_;rintro e w1 ⟨m,rfl,hm,rfl⟩;have hm1:¬m<0:=fun h=>hneg (hm.1 h);clear hm)
   go_ret;exact ⟨rfl,hbl⟩
end Go.Proofs.YthblkdnijhphhaaGreat
