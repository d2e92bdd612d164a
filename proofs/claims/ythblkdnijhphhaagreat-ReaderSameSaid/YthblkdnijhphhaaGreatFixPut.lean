/- A part of the proof. -/
import Derived.RangeFuncBox
import Derived.Shelf.Abstract
import Derived.OwnWalkIn
import Derived.TacticsInMore
import Derived.LoopNIn
import Derived.LoopIn
import Derived.Test.YthblkdnijhphhaaGreatWireRd
import Derived.Test.YthblkdnijhphhaaGreatMapP
set_option maxHeartbeats 2000000
set_option maxRecDepth 100000
namespace Go.Proofs.YthblkdnijhphhaaGreat
open Go.RowKit Go.Shelf
attribute [local go_sem] Oper.semAt_some
def upto {α:Type} (f:Nat→α) (k:Nat):List α:=(List.range k).map f
theorem zlW {α:Type} (f:Nat→α) (k:Nat):upto f (k+1)=upto f k++[f k]:=by simp [upto,List.range_succ]
theorem zhM {α:Type} (f:Nat→α) (k:Nat):(upto f k).length=k:=by simp [upto]
def zcP (b:List UInt8) (k:Nat):Nat × UInt8:=(b.length-1-k,b.getD (b.length-1-k) 0)
def KpB (n₀ Bs:Nat) (A B:World):Prop:=Below n₀ A B∧B.heap[Bs]?=A.heap[Bs]?
theorem KpB.trans {n₀ Bs:Nat} {A B C:World} (h:KpB n₀ Bs A B) (h':KpB n₀ Bs B C):KpB n₀ Bs A C:=⟨h.1.trans h'.1,h'.2.trans h.2⟩
theorem zmb (F:Fence) (n:Nat) (hF:F.fn 232) (hro:F.round=none) (hn:1≤n) (l Bs n₀:Nat) (ad:Addr) (cap:Nat) (b:List UInt8) (hlen:b.length≤140737488355328) (hb:ad.block<n₀) (J Jx:List (Nat × UInt8)→World→Prop)
 (hY:∀ pre x W,J pre W→pre.length<b.length→YieldAt F (n-1) Tryz.prog l #[.int .i64 (x.1:Int),B8 x.2] W fun e W'=>
  (e=.returned (.bool true)∧J (pre++[x]) W'∧KpB n₀ Bs W W')∨(e=.returned (.bool false)∧Jx (pre++[x]) W'))
 (W:World) (hBs:W.cell? ⟨Bs,0,none⟩=some (.slice (some ad) b.length cap)) (hc:∀ j,j<b.length→W.cell? (ad.add j)=some (B8 (b.getD j 0))) (h0:J [] W) :
 CallsIn F n Tryz.prog 232 #[.func (.yield l) #[] #[],.pointer (some ⟨Bs,0,none⟩)] W fun e W'=>(∃ v,e=.returned v) ∧
  ((∃ ys,ys=upto (zcP b) b.length∧J ys W')∨(∃ pre,(∃ k,k≤b.length∧pre=upto (zcP b) k)∧Jx pre W')):=by
 refine callsIn_of_wp Tryz.func232 rfl hF ?_ hro;simp only [Tryz.ntmps232,List.size_toArray,List.length_cons,List.length_nil,Nat.reduceAdd,Nat.reduceSub,Array.replicate_succ,Array.replicate_zero,List.push_toArray,List.append_toArray,List.nil_append,List.cons_append];gi_wp2
 gi_loopw [3] (fun i wr=>∃ k r:Nat,k+r=b.length∧i=.int .i64 ((r:Int)-1)∧J (upto (zcP b) k) wr∧KpB n₀ Bs W wr)
  (fun i _=>(intOf i+1).toNat)
 case atStart=>exact ⟨0,b.length,by omega,rfl,h0,Below.refl _ _,rfl⟩
 case round=>
  obtain ⟨k,r,hk,rfl,hJs,hnx⟩:=hrel;have hBs':=(World.cell?_of_block (a:=⟨Bs,0,none⟩) hnx.2).trans hBs;rcases Nat.eq_zero_or_pos r with rfl | hr
  · obtain rfl:k=b.length:=by omega
    have e:((0:Nat):Int)-1 = -1:=by omega
    rw [e];gi_wp2
    go_end0;exact ⟨⟨_,rfl⟩,.inl ⟨_,rfl,hJs⟩⟩
  · obtain ⟨r,rfl⟩:∃ r',r=r'+1:=⟨r-1,by omega⟩
    have e:((r+1:Nat):Int)-1=(r:Int):=by omega
    rw [e];have hba:zcP b k=(r,b.getD r 0):=by unfold zcP;rw [show b.length-1-k=r by omega]
    have hcx:wr.cell? (ad.add r)=some (B8 (b.getD r 0)):=(hnx.1.cell (p:=ad.add r) (by rw [zal];exact hb)).trans (hc r (by omega))
    have hup:=zlW (zcP b) k;rw [hba] at hup;obtain ⟨fn,tmps,assign,body,hy,hR⟩:=hY _ (r,b.getD r 0) wr hJs (by rw [zhM];omega)
    dsimp only at hy;generalize b.getD r 0=x at hcx hup hy hR;have HUP:=Lib.hid hup;clear hup hba e;have r0:(0:Int)≤(r:Int):=by omega
    have r1:(r:Int)<(b.length:Int):=by omega
    unfold B8 at hcx hy;gi_wp2
    refine hR.mono ?_;rintro e W3 (⟨rfl,hJ3,hk3⟩ | ⟨rfl,hJx3⟩)
    · gi_wp2
      go_roundw
      case rel=>exact ⟨k+1,r,by omega,rfl,by rw [HUP.out];exact hJ3,hnx.trans hk3⟩
      case measure=>simp [intOf]
    · gi_wp2
      refine bodyPost_ret (results_none rfl _ _ _) rfl ?_;exact ⟨⟨_,rfl⟩,.inr ⟨_,⟨k+1,by omega,HUP.out.symm⟩,hJx3⟩⟩
theorem zox (F:Fence) (n:Nat) (hF:F.fn 226) (hro:F.round=none) (a:Option Addr) (len cap:Nat) (w:World) :
 CallsIn F n Tryz.prog 226 #[.slice a len cap] w fun e w'=>e=.returned (.func (.func 232) #[] #[.pointer (some ⟨w.heap.size,0,none⟩)])∧w'=w.alloc (.cells #[.slice a len cap] 32):=by
 refine callsIn_of_wp Tryz.func226 rfl hF ?_ hro;simp only [Tryz.ntmps226,List.size_toArray,List.length_cons,List.length_nil,Nat.reduceAdd,Nat.reduceSub,Array.replicate_succ,Array.replicate_zero,List.push_toArray,List.append_toArray,List.nil_append,List.cons_append];gi_wp2
 go_ret;exact ⟨rfl,rfl⟩
theorem zjA (F:Fence) (n:Nat) (hF:F.fn 232) (hro:F.round=none) (hn:1≤n) (Bs n₀:Nat) (ad:Addr) (cap:Nat) (b:List UInt8) (hlen:b.length≤140737488355328) (hb:ad.block<n₀) (w:World) (hBn:Bs<w.heap.size) (hn₀:n₀≤w.heap.size)
 (hc:w.cell? ⟨Bs,0,none⟩=some (.slice (some ad) b.length cap)) (hI:∀ j,j<b.length→w.cell? (ad.add j)=some (B8 (b.getD j 0))) :
 SeqStopsK F n Tryz.prog 232 #[.pointer (some ⟨Bs,0,none⟩)] (fun x:Nat × UInt8=>#[Value.int .i64 (x.1:Int),B8 x.2]) (KpB n₀ Bs) (fun ys=>ys=upto (zcP b) b.length)
  (fun pre=>∃ k,k≤b.length∧pre=upto (zcP b) k) b.length w:=fun l J Jx W hW _ _ hY h0=>by
 have hc':=(hW.cell (p:=⟨Bs,0,none⟩) hBn).trans hc;exact zmb F n hF hro hn l Bs n₀ ad cap b hlen hb J Jx hY W hc' (fun j hj=>(hW.cell (p:=ad.add j) (by rw [zal];omega)).trans (hI j hj)) h0
def foldF:List (Nat × UInt8)→Nat
 | l=>l.foldl (fun n x=>(n*256) % 4294967296 ||| x.2.toNat) 0
theorem zjL (l:List (Nat × UInt8)) (x:Nat × UInt8):foldF (l++[x])=(foldF l*256) % 4294967296 ||| x.2.toNat:=by simp [foldF]
theorem zh3 (F:Fence) (n:Nat) (h1:F.fn 221) (h2:F.fn 226) (h3:F.fn 232) (hro:F.round=none) (hn:3≤n) (ad:Addr) (cap:Nat) (b:List UInt8) (K:Nat→Prop) (w:World) (hv:IsB w K (.slice (some ad) b.length cap) b) (h4:4≤b.length) :
 CallsIn F n Tryz.prog 221 #[.slice (some ad) b.length cap] w fun e W'=>e=.returned (.tuple #[.int .u32 (foldF (upto (zcP (b.take 4)) 4):Int),.int .i64 0])∧Below w.heap.size w W':=by
 have hn1:1≤n:=by omega
 obtain ⟨_,hr,hlc,hcc,hl47⟩:=hv.open_;obtain ⟨ad',e,_,hcell⟩:=hr.2 (by omega)
 injection e with e;subst e;have hadb:ad.block<w.heap.size:=by
  have:=World.block_lt_of_cell? w _ (hcell 0 _ (by rw [List.getElem?_eq_getElem (by rw [zb7];omega)]))
  rwa [zal] at this
 have hlen4:(b.take 4).length=4:=by rw [List.length_take];omega
 have hbc:∀ j,j<(b.take 4).length→w.cell? (ad.add j)=some (B8 ((b.take 4).getD j 0)):=fun j hj=>by
  refine hcell j _ ?_;rw [hlen4] at hj;have hjb:j<b.length:=by omega
  simp [za3,List.getD_eq_getElem?_getD,hj,hjb]
 have HBC:=Lib.hid hbc;have HL4:=Lib.hid hlen4;have i4:(4:Int)≤(b.length:Int):=by omega
 have i5:(4:Int)≤(cap:Int):=by omega
 clear hbc hlen4 hr hcell hv;refine callsIn_of_wp_marks Tryz.func221 rfl h1 ?_ hro;simp only [Tryz.ntmps221,List.size_toArray,List.length_cons,List.length_nil,Nat.reduceAdd,Nat.reduceSub,Array.replicate_succ,Array.replicate_zero,List.push_toArray,List.append_toArray,List.nil_append,List.cons_append];gi_wp2_with (gi_at_call 226;refine (zox F (n-1) h2 hro _ _ _ _).mono ?_;rintro e w' ⟨rfl,rfl⟩)
 have bS:=Boxed.new w 268 (.int .u32 0);have bN:=Boxed.new (w.alloc (.cells #[.int .u32 0] 268)) 32 (.slice (some ad) 4 cap);rw [World.size_alloc] at bN;have hB0:Below w.heap.size w ((w.alloc (.cells #[.int .u32 0] 268)).alloc (.cells #[.slice (some ad) 4 cap] 32)):=((Below.refl _ w).alloc (Nat.le_refl _) _).alloc (by simp) _
 have hst:=zjA F (n-1) h3 hro (by omega) (w.heap.size+1) w.heap.size ad cap (b.take 4) (by rw [HL4.out];omega) hadb _ (by simp) (by simp;omega) (by rw [HL4.out];exact bN.cell) (fun j hj=>(hB0.cell (p:=ad.add j) (by rw [zal];exact hadb)).trans (HBC.out j hj))
 rw [HL4.out] at hst;refine wpIn_rangeFunc_ownF hro hn1 (gf:=232) (lb:=#[.pointer (some ⟨w.heap.size+1,0,none⟩)]) rfl h3 (enters_of Tryz.func232 (by kernel_rfl) rfl)
  hst KpB.trans (fun W l o o' hl ho h1 h2=>⟨belowK_b (by simp;omega) W l o o' hl ho h1 h2,(World.putObj_heap_other (by simp at hl;omega))⟩) (Below.refl _ _) (fun _=>rfl)
  (fun pre W=>(W.cell? ⟨w.heap.size,0,none⟩=some (.int .u32 (foldF pre:Int))∧W.frozen? ⟨w.heap.size,0,none⟩=false∧foldF pre<4294967296)∧Below w.heap.size w W)
  (fun _ _ _=>False)
  (OwnFrom.and (Own.from (fun s A B row hs hg hr=>⟨cell_kept hs.1 hg hr,(frozen_kept hs.1 hg hr).trans hs.2.1,hs.2.2⟩) _) (ownFrom_below (Nat.le_refl _) (by simp;omega)))
  (fun _ _ _ _ _ hs _ _=>hs)
  ⟨⟨(bS.alloc _).cell,(bS.alloc _).frozen,by decide⟩,hB0⟩
  (fun x=>{ tmps:=#[.slice (some ad) b.length cap,undef,.int .u32 0,.int .i64 0,.pointer (some ⟨w.heap.size,0,none⟩),undef,B8 x.2,.slice (some ad) b.length cap,.int .i64 b.length,.bool (decide ((b.length:Int)<4)),.slice (some ad) b.length cap,.slice (some ad) 4 cap,.func (.func 232) #[] #[.pointer (some ⟨w.heap.size+1,0,none⟩)],.int .i64 (x.1:Int),B8 x.2,undef,undef,undef,undef,undef,undef],defers:=[] }) ?assign ?body ?done ?stop
 case assign=>
  intro l x W K hK;gi_wp2
  exact hK
 case body=>
  rintro l pre x W ⟨⟨hc,hf,hlt⟩,hB⟩ _;have hfs:=zjL pre x;generalize foldF pre=m at hc hlt hfs;have HFS:=Lib.hid hfs;clear hfs;have hx:=x.2.toNat_lt;have hor:bits BinOp.or IntKind.u32 ((m:Int)*256 % 4294967296) (x.2.toNat:Int)=((foldF (pre++[x]):Nat):Int):=by
   rw [HFS.out,show (m:Int)*256 % 4294967296=((m*256 % 4294967296:Nat):Int) by omega]
   exact u32_or_nat _ _ (by omega) (by omega)
  have hol:foldF (pre++[x])<4294967296:=by rw [HFS.out];exact Nat.or_lt_two_pow (n:=32) (by omega) (by omega)
  have HOR:=Lib.hid hor;clear hor;unfold B8;gi_wp2
  exact ⟨(KeepsOthers.setCell _ _ _),⟨(Below.refl w.heap.size W).setCell (p:=⟨w.heap.size,0,none⟩) (Nat.le_refl _) _,Below.heap_setCell _ _ _ _ (by show w.heap.size+1≠w.heap.size;omega)⟩,
   ⟨by rw [←HOR.out];exact World.cell?_setCell_same' _ _ _ (by rw [hc];rfl),by rw [World.frozen?_setCell];exact hf,hol⟩,hB.setCell (p:=⟨w.heap.size,0,none⟩) (Nat.le_refl _) _⟩
 case done=>
  rintro D ys W hD rfl ⟨⟨hc,_⟩,hB⟩ hK;gi_wp2
  refine ⟨by simp,.inl ⟨_,_,rfl,run_takeDeferred hK,?_⟩⟩
  exact ⟨_,results_tmp2 rfl _ _ _,rfl,hB.trans (belowK_b (w:=w) (Nat.le_refl _) W D _ _ (by simp at hD;omega) hK rfl rfl)⟩
 case stop=>
  rintro D c pre W _ _ h _;exact h.elim
def zbC:List UInt8→Nat × Int
 | b0::b1::b2::b3::_=>(b0.toNat+b1.toNat*256+b2.toNat*65536+b3.toNat*16777216,0)
 | _=>(0,20)
def fixL (n:Nat):List UInt8:=[UInt8.ofNat (n % 256),UInt8.ofNat (n / 256 % 256),UInt8.ofNat (n / 65536 % 256),UInt8.ofNat (n / 16777216 % 256)]
theorem ziJ {b:List UInt8} (h:4≤b.length):fixL (zbC b).1=b.take 4∧(zbC b).2=0∧(zbC b).1<4294967296:=by
 match b,h with
 | b0::b1::b2::b3::r,_=>
   have h0:=b0.toNat_lt;have h1:=b1.toNat_lt;have h2:=b2.toNat_lt;have h3:=b3.toNat_lt;refine ⟨?_,rfl,by simp only [zbC];omega⟩
   have e:∀ (x:UInt8) (m:Nat),m=x.toNat→UInt8.ofNat m=x:=fun x m h=>by rw [h];exact UInt8.ofNat_toNat
   simp only [zbC,fixL,List.take_succ_cons,List.take_zero];rw [e b0 _ (by omega),e b1 _ (by omega),e b2 _ (by omega),e b3 _ (by omega)]
theorem zej {b:List UInt8} (h:b.length<4):zbC b=(0,20):=by
 match b,h with
 | [],_=>rfl
 | [_],_=>rfl
 | [_,_],_=>rfl
 | [_,_,_],_=>rfl
theorem zlo {b:List UInt8} (h:4≤b.length):foldF (upto (zcP (b.take 4)) 4)=(zbC b).1:=by
 match b,h with
 | b0::b1::b2::b3::r,_=>
   have h0:=b0.toNat_lt;have h1:=b1.toNat_lt;have h2:=b2.toNat_lt;have h3:=b3.toNat_lt;have e:upto (zcP ((b0::b1::b2::b3::r).take 4)) 4=[(3,b3),(2,b2),(1,b1),(0,b0)]:=rfl;rw [e];simp only [foldF,List.foldl_cons,List.foldl_nil,zbC];rw [show 0*256 % 4294967296 ||| b3.toNat=b3.toNat by simp,nat_join 8 _ b2.toNat (by omega) (by omega),nat_join 8 _ b1.toNat (by omega) (by omega),nat_join 8 _ b0.toNat (by omega) (by omega)]
   omega
theorem zgE (v:Value) (b:List UInt8) (K:Nat→Prop) (w:World) (hv:IsB w K v b) :
 Calls Tryz.prog 221 #[v] w fun e w'=>e=.returned (.tuple #[.int .u32 ((zbC b).1:Int),.int .i64 (zbC b).2])∧Below w.heap.size w w':=by
 have hv0:=hv;obtain ⟨A,c,rfl,hr,hlc,hcc,hl47⟩:=hv;by_cases h4:4≤b.length
 · obtain ⟨ad,rfl,_⟩:=hr.2 (by omega)
   have h:=(callsIn_wide (n:=3)).1 (zh3 Fence.wide 3 trivial trivial trivial rfl (Nat.le_refl _) ad c b K w hv0 h4);rw [zlo h4] at h;rw [(ziJ h4).2.1];exact h
 · rw [zej (by omega)]
   have h4':(b.length:Int)<4:=by omega
   go_enter Tryz.func221,Tryz.ntmps221
   go_wp2;go_ret2;exact ⟨rfl,Below.refl _ _⟩
end Go.Proofs.YthblkdnijhphhaaGreat
namespace Go.Proofs.YthblkdnijhphhaaGreat
open Go.RowKit
theorem zm1 {n:Nat} (hn:n<4294967296):za3 (fixL n)=[.int .u8 ((n:Int) % 256),.int .u8 ((n:Int) / 256 % 256),.int .u8 ((n:Int) / 65536 % 256),.int .u8 ((n:Int) / 16777216)]:=by
 simp only [za3,fixL,List.map_cons,List.map_nil,B8,UInt8.toNat_ofNat'];rw [show ((n % 256 % 2 ^ 8:Nat):Int)=(n:Int) % 256 by omega,show ((n / 256 % 256 % 2 ^ 8:Nat):Int)=(n:Int) / 256 % 256 by omega,show ((n / 65536 % 256 % 2 ^ 8:Nat):Int)=(n:Int) / 65536 % 256 by omega,show ((n / 16777216 % 256 % 2 ^ 8:Nat):Int)=(n:Int) / 16777216 by omega]
theorem zkf (n:Nat) (w:World) (hn:n<4294967296) :
 Calls Tryz.prog 183 #[.int .u32 n] w fun e w'=>∃ A c,e=.returned (.slice A 4 c)∧w'.ownsRow w.heap.size 5 1 (.slice A 4 c) 4 (za3 (fixL n))∧Below w.heap.size w w':=by
 obtain ⟨i0,hi,hz0,hz1,hz2⟩:=info_parts Tryz.info5;have hc:=zm1 hn;have HC:=Lib.hid hc;clear hc;go_enter Tryz.func183,Tryz.ntmps183
 go_wp2_with fail;go_loopw [3,4,5] (fun a x4 i wr=>(∃ (j:Nat) (A:Option Addr) (c:Nat),i=.int .i64 j∧j≤4∧a=.slice A j c∧wr.ownsRow w.heap.size 5 1 (.slice A j c) j ((za3 (fixL n)).take j)∧Below w.heap.size w wr)∧(∃ y,x4=y)) (fun _ _ i _=>4-(intOf i).toNat)
 case atStart=>exact ⟨⟨0,none,0,rfl,by omega,rfl,World.ownsRow_nil _ _ _ _,Below.refl _ _⟩,_,rfl⟩
 case round=>
  obtain ⟨⟨j,A,c,rfl,hj,rfl,hown,hb⟩,y,rfl⟩:=hrel;have hsz:=hb.size;have hj':j=0∨j=1∨j=2∨j=3∨j=4:=by omega
  clear hj;rcases hj' with rfl | rfl | rfl | rfl | rfl
  · go_wp2_with (at_builtin;refine zb4 rfl _ _ _ rfl w.heap.size 5 i0 _ 1 Tryz.underlying32 hi hz0 hz1 hz2 rfl rfl hown rfl rfl rfl (by simp only [maxLen];omega) (by omega) hsz ?_;intro A6 c6 w6 own6 hg6)
    rw [HC.out] at own6;exact ⟨⟨⟨1,A6,c6,rfl,by omega,rfl,by rw [HC.out];exact own6,hb.trans hg6.below⟩,_,rfl⟩,by simp [intOf]⟩
  · go_wp2_with (at_builtin;refine zb4 rfl _ _ _ rfl w.heap.size 5 i0 _ 1 Tryz.underlying32 hi hz0 hz1 hz2 rfl rfl hown rfl rfl rfl (by simp only [maxLen];omega) (by omega) hsz ?_;intro A6 c6 w6 own6 hg6)
    rw [HC.out] at own6;exact ⟨⟨⟨2,A6,c6,rfl,by omega,rfl,by rw [HC.out];exact own6,hb.trans hg6.below⟩,_,rfl⟩,by simp [intOf]⟩
  · go_wp2_with (at_builtin;refine zb4 rfl _ _ _ rfl w.heap.size 5 i0 _ 1 Tryz.underlying32 hi hz0 hz1 hz2 rfl rfl hown rfl rfl rfl (by simp only [maxLen];omega) (by omega) hsz ?_;intro A6 c6 w6 own6 hg6)
    rw [HC.out] at own6;exact ⟨⟨⟨3,A6,c6,rfl,by omega,rfl,by rw [HC.out];exact own6,hb.trans hg6.below⟩,_,rfl⟩,by simp [intOf]⟩
  · go_wp2_with (at_builtin;refine zb4 rfl _ _ _ rfl w.heap.size 5 i0 _ 1 Tryz.underlying32 hi hz0 hz1 hz2 rfl rfl hown rfl rfl rfl (by simp only [maxLen];omega) (by omega) hsz ?_;intro A6 c6 w6 own6 hg6)
    rw [HC.out] at own6;exact ⟨⟨⟨4,A6,c6,rfl,by omega,rfl,by rw [HC.out];exact own6,hb.trans hg6.below⟩,_,rfl⟩,by simp [intOf]⟩
  · go_wp2
    go_ret;rw [List.take_of_length_le (by rw [HC.out];simp)] at hown
    exact ⟨A,c,rfl,hown,hb⟩
end Go.Proofs.YthblkdnijhphhaaGreat
