/- A part of the proof. -/
import Derived.RangeFuncBox
import Derived.Shelf.Abstract
import Derived.OwnWalkIn
import Derived.TacticsInMore
import Derived.LoopNIn
import Derived.LoopIn
import Derived.Test.YtcapmeefiglfjaaGreatWireRd
import Derived.Test.YtcapmeefiglfjaaGreatMapP
set_option maxHeartbeats 1000000
set_option maxRecDepth 100000
namespace Go.Proofs.YtcapmeefiglfjaaGreat
open Go.RowKit Go.Shelf
attribute [local go_sem] Oper.semAt_some
def mS:List UInt8→Nat × Int
 | b0::b1::b2::b3::_=>(b0.toNat+b1.toNat*256+b2.toNat*65536+b3.toNat*16777216,0)
 | _=>(0,20)
def fixL (n:Nat):List UInt8:=[UInt8.ofNat (n % 256),UInt8.ofNat (n / 256 % 256),UInt8.ofNat (n / 65536 % 256),UInt8.ofNat (n / 16777216 % 256)]
theorem zeS {b:List UInt8} (h:4≤b.length):fixL (mS b).1=b.take 4∧(mS b).2=0∧(mS b).1<4294967296:=by
 match b,h with
 | b0::b1::b2::b3::r,_=>
   have h0:=b0.toNat_lt;have h1:=b1.toNat_lt;have h2:=b2.toNat_lt;have h3:=b3.toNat_lt;refine ⟨?_,rfl,by simp only [mS];omega⟩
   have e:∀ (x:UInt8) (m:Nat),m=x.toNat→UInt8.ofNat m=x:=fun x m h=>by rw [h];exact UInt8.ofNat_toNat
   simp only [mS,fixL,List.take_succ_cons,List.take_zero];rw [e b0 _ (by omega),e b1 _ (by omega),e b2 _ (by omega),e b3 _ (by omega)]
theorem xI {b:List UInt8} (h:b.length<4):mS b=(0,20):=by
 match b,h with
 | [],_=>rfl
 | [_],_=>rfl
 | [_,_],_=>rfl
 | [_,_,_],_=>rfl
end Go.Proofs.YtcapmeefiglfjaaGreat
namespace Go.Proofs.YtcapmeefiglfjaaGreat
open Go.RowKit
theorem zcQ {n:Nat} (hn:n<4294967296):aE (fixL n)=[.int .u8 ((n:Int) % 256),.int .u8 ((n:Int) / 256 % 256),.int .u8 ((n:Int) / 65536 % 256),.int .u8 ((n:Int) / 16777216)]:=by
 simp only [aE,fixL,zj2,zjN,B8,UInt8.toNat_ofNat'];rw [show ((n % 256 % 2 ^ 8:Nat):Int)=(n:Int) % 256 by omega,show ((n / 256 % 256 % 2 ^ 8:Nat):Int)=(n:Int) / 256 % 256 by omega,show ((n / 65536 % 256 % 2 ^ 8:Nat):Int)=(n:Int) / 65536 % 256 by omega,show ((n / 16777216 % 256 % 2 ^ 8:Nat):Int)=(n:Int) / 16777216 by omega]
theorem zcm (n:Nat) (w:World) (hn:n<4294967296) :
 Calls Tryz.prog 200 #[.int .u32 n] w fun e w'=>∃ A c,e=.returned (.slice A 4 c)∧w'.ownsRow w.heap.size 5 1 (.slice A 4 c) 4 (aE (fixL n))∧Below w.heap.size w w':=by
 obtain ⟨i0,hi,hz0,hz1,hz2⟩:=ziH Tryz.info5;have hc:=zcQ hn;have HC:=zia hc;clear hc;go_enter Tryz.func200,Tryz.ntmps200
 go_wp2_with fail;go_loopw [3,4,5] (fun a x4 i wr=>(∃ (j:Nat) (A:Option Addr) (c:Nat),i=.int .i64 j∧j≤4∧a=.slice A j c∧wr.ownsRow w.heap.size 5 1 (.slice A j c) j ((aE (fixL n)).take j)∧Below w.heap.size w wr)∧(∃ y,x4=y)) (fun _ _ i _=>4-(intOf i).toNat)
 case atStart=>exact ⟨⟨0,none,0,rfl,by omega,rfl,zin _ _ _ _,zif _ _⟩,_,rfl⟩
 case round=>
  obtain ⟨⟨j,A,c,rfl,hj,rfl,hown,hb⟩,y,rfl⟩:=hrel;have hsz:=hb.size;have hj':j=0∨j=1∨j=2∨j=3∨j=4:=by omega
  clear hj;rcases hj' with rfl | rfl | rfl | rfl | rfl
  · go_wp2_with (at_builtin;refine dB rfl _ _ _ rfl w.heap.size 5 i0 _ 1 Tryz.underlying31 hi hz0 hz1 hz2 rfl rfl hown rfl rfl rfl (by simp only [maxLen];omega) (by omega) hsz ?_;intro A6 c6 w6 own6 hg6)
    rw [HC.out] at own6;exact ⟨⟨⟨1,A6,c6,rfl,by omega,rfl,by rw [HC.out];exact own6,hb.trans hg6.below⟩,_,rfl⟩,by simp [intOf]⟩
  · go_wp2_with (at_builtin;refine dB rfl _ _ _ rfl w.heap.size 5 i0 _ 1 Tryz.underlying31 hi hz0 hz1 hz2 rfl rfl hown rfl rfl rfl (by simp only [maxLen];omega) (by omega) hsz ?_;intro A6 c6 w6 own6 hg6)
    rw [HC.out] at own6;exact ⟨⟨⟨2,A6,c6,rfl,by omega,rfl,by rw [HC.out];exact own6,hb.trans hg6.below⟩,_,rfl⟩,by simp [intOf]⟩
  · go_wp2_with (at_builtin;refine dB rfl _ _ _ rfl w.heap.size 5 i0 _ 1 Tryz.underlying31 hi hz0 hz1 hz2 rfl rfl hown rfl rfl rfl (by simp only [maxLen];omega) (by omega) hsz ?_;intro A6 c6 w6 own6 hg6)
    rw [HC.out] at own6;exact ⟨⟨⟨3,A6,c6,rfl,by omega,rfl,by rw [HC.out];exact own6,hb.trans hg6.below⟩,_,rfl⟩,by simp [intOf]⟩
  · go_wp2_with (at_builtin;refine dB rfl _ _ _ rfl w.heap.size 5 i0 _ 1 Tryz.underlying31 hi hz0 hz1 hz2 rfl rfl hown rfl rfl rfl (by simp only [maxLen];omega) (by omega) hsz ?_;intro A6 c6 w6 own6 hg6)
    rw [HC.out] at own6;exact ⟨⟨⟨4,A6,c6,rfl,by omega,rfl,by rw [HC.out];exact own6,hb.trans hg6.below⟩,_,rfl⟩,by simp [intOf]⟩
  · go_wp2
    go_ret;rw [zip (by rw [HC.out];simp)] at hown
    exact ⟨A,c,rfl,hown,hb⟩
