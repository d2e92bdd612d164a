/- A part of the proof. -/
import Derived.Test.YtcapmeefiglfjaaGreatLib
import Derived.Test.YtcapmeefiglfjaaGreatLen64
set_option maxHeartbeats 400000
set_option maxRecDepth 100000
namespace Go.Proofs.YtcapmeefiglfjaaGreat
def putL (n:Nat):List UInt8:=
 if n<128 then [UInt8.ofNat n] else UInt8.ofNat (n % 128+128)::putL (n / 128)
termination_by n
decreasing_by omega
theorem kQ {n:Nat} (h:n<128):putL n=[UInt8.ofNat n]:=by rw [putL,zij h]
theorem rS {n:Nat} (h:¬n<128):putL n=UInt8.ofNat (n % 128+128)::putL (n / 128):=by rw [putL,zig h]
theorem zec {j:Nat}:∀ {n:Nat},n<128 ^ (j+1)→(putL n).length≤j+1:=by
 induction j with
 | zero=>intro n h;rw [kQ (by simpa using h)];simp
 | succ j ih=>
   intro n h;by_cases h1:n<128
   · rw [kQ h1];simp
   · rw [rS h1,List.length_cons]
     have:=ih (n:=n / 128) (by rw [Nat.div_lt_iff_lt_mul (by omega)];rw [Nat.pow_succ] at h;exact h)
     omega
theorem rK (n:Nat):0<(putL n).length:=by
 by_cases h:n<128
 · rw [kQ h];simp
 · rw [rS h];simp
theorem tO (n:Nat) (h:n<256):((UInt8.ofNat n).toNat:Int)=n:=by simp;omega
theorem zh3 (n:Nat) (h:n<128):B8 (UInt8.ofNat n)=.int .u8 (n:Int):=by unfold B8;rw [tO n (by omega)]
theorem zgG (n:Nat):B8 (UInt8.ofNat (n % 128+128))=.int .u8 (bits BinOp.or IntKind.u8 ((n:Int) % 256) 128):=by
 unfold B8;rw [tO _ (by omega)]
 have h:((n:Int) % 256)=((n % 256:Nat):Int):=by omega
 have h2:=u8_or_nat (n % 256) 128 (by omega) (by omega)
 rw [h];rw [show (128:Int)=((128:Nat):Int) from rfl,h2];congr 2
 by_cases hb:n % 256<128
 · rw [Nat.or_comm,nat_join 7 128 (n % 256) (by omega) (by omega)];omega
 · have h3:n % 256=128+n % 128:=by omega
   rw [h3,←nat_join 7 128 (n % 128) (by omega) (by omega),Nat.or_comm,←Nat.or_assoc,Nat.or_self,nat_join 7 128 (n % 128) (by omega) (by omega)];omega
theorem zfQ {k:Nat} {acc:List UInt8} {n:Nat} (h:acc++putL k=putL n) (hk:k<128):aE (putL n)=aE acc++[.int .u8 (k:Int)]∧(putL n).length=acc.length+1:=by
 rw [←h,kQ hk,pP,zh3 k hk];simp
theorem zez {k:Nat} {acc:List UInt8} {n:Nat} (h:acc++putL k=putL n) (hk:¬k<128):(acc++[UInt8.ofNat (k % 128+128)])++putL (k / 128)=putL n ∧
 aE (acc++[UInt8.ofNat (k % 128+128)])=aE acc++[.int .u8 (bits BinOp.or IntKind.u8 ((k:Int) % 256) 128)]:=by
 rw [←h,rS hk,pP,zgG];simp
def zbY:List UInt8→Nat→Nat→Nat × Nat × Nat
 | [],_,_=>(0,0,20)
 | c::l,k,n=>
   if k=9∧1<c.toNat then (0,0,21)
   else if c.toNat<128 then
    if 0<k∧c.toNat=0 then (0,0,21) else (n+c.toNat*128 ^ k,k+1,0)
   else zbY l (k+1) (n+(c.toNat-128)*128 ^ k)
def iF (b:List UInt8):Nat × Nat × Nat:=zbY b 0 0
theorem zcp {n:Nat} (h:n<18446744073709551616):n<128 ^ (9+1):=by
 have:(128:Nat) ^ (9+1)=1180591620717411303424:=by decide
 omega
theorem dR {n:Nat} (h:n<18446744073709551616):(putL n).length≤10:=zec (j:=9) (zcp h)
end Go.Proofs.YtcapmeefiglfjaaGreat
namespace Go.Proofs.YtcapmeefiglfjaaGreat
open Go.RowKit
theorem zL (x:Nat):Lib.bitLen x≤64:=by
 have h:∀ f x,Lib.bitLenAux f x≤f:=by
  intro f;induction f with
  | zero=>intro x;exact zic _
  | succ f ih=>
    intro x;unfold Lib.bitLenAux;split
    · omega
    · have:=ih (x / 2);omega
 exact h 64 x
def zfD (n:Nat):Nat:=if Lib.bitLen n=0 then 1 else (Lib.bitLen n+6) / 7
theorem zhr (x:Int) (w:World) (h0:0≤x) (h1:x≤18446744073709551615) :
 Calls Tryz.prog 241 #[.int .u64 x] w fun e w'=>e=.returned (.int .i64 (zfD x.toNat))∧w=w':=by
 have hle:Lib.bitLen x.toNat≤64:=zL _;go_enter Tryz.func241,Tryz.ntmps241
 go_wp2_with (go_at_call 194;refine (vB x _ h0 h1).mono ?_;rintro e w' ⟨rfl,rfl⟩);go_ret;refine ⟨zjj Ending.returned (zjj (Value.int IntKind.i64) ?_),rfl⟩;unfold zfD;split <;> omega
theorem Tryz.info5:(Tryz.prog.info? 5).map (fun i=>(i.zero,i.size,i.bytes))=some (some (.int .u8 0),1,1):=by kernel_rfl
theorem zce (n:Nat) (hn:(putL n).length≤10) (w:World) :
 Calls Tryz.prog 197 #[.int .u64 n] w fun e w'=>∃ A c,e=.returned (.slice A (putL n).length c)∧w'.ownsRow w.heap.size 5 1 (.slice A (putL n).length c) (putL n).length (aE (putL n))∧Below w.heap.size w w':=by
 obtain ⟨i0,hi,hz0,hz1,hz2⟩:=ziH Tryz.info5;go_enter Tryz.func197,Tryz.ntmps197
 go_wp2;go_loopw [0,3] (fun m b wr=>∃ (k:Nat) (acc:List UInt8) (A:Option Addr) (c:Nat),m=.int .u64 k∧b=.slice A acc.length c∧wr.ownsRow w.heap.size 5 1 (.slice A acc.length c) acc.length (aE acc)∧Below w.heap.size w wr∧acc++putL k=putL n)
  (fun m _ _=>(intOf m).toNat)
 case atStart=>exact ⟨n,[],_,_,rfl,rfl,zin _ _ _ _,zif _ _,rfl⟩
 case round=>
  obtain ⟨k,acc,A,c,rfl,rfl,hown,hb,hp⟩:=hrel;have hsz:=hb.size;have hla:acc.length≤10:=by have:=zjj List.length hp;rw [zie] at this;omega
  have HP:=zia hp;clear hp;by_cases hk:k<128
  · go_wp2_with (at_builtin;refine kK rfl _ _ 31 rfl w.heap.size 5 i0 _ 1 Tryz.underlying31 hi hz0 hz1 hz2 rfl rfl hown rfl rfl (by simp only [maxLen];omega) (by omega) hsz ?_;intro A' c' w1 hown1 hg1)
    go_ret;obtain ⟨h1,h2⟩:=zfQ HP.out hk;rw [h1,h2];exact ⟨_,_,rfl,hown1,hb.trans hg1.below⟩
  · go_wp2_with (at_builtin;refine kK rfl _ _ 31 rfl w.heap.size 5 i0 _ 1 Tryz.underlying31 hi hz0 hz1 hz2 rfl rfl hown rfl rfl (by simp only [maxLen];omega) (by omega) hsz ?_;intro A' c' w1 hown1 hg1)
    go_roundw
    case rel=>
     obtain ⟨h1,h2⟩:=zez HP.out hk;refine ⟨k / 128,acc++[UInt8.ofNat (k % 128+128)],A',c',?_,?_,?_,hb.trans hg1.below,h1⟩
     · go_num
     · simp
     · rw [h2,zie];exact hown1
    case measure=>simp [intOf];omega
theorem zhU (a m:Nat) (ha:a≤127) (hm:m≤1):a*72057594037927936+m*9223372036854775808<18446744073709551616:=by omega
theorem zi2 (m:Nat) (h:m*9223372036854775808<18446744073709551616):m≤1:=by omega
theorem zdv (b:List UInt8):∀ (k n v k':Nat),k≤9→zbY b k n=(v,k',0)→∃ m,v=n+m*128 ^ k∧k'=k+(putL m).length∧(∃ r,b=putL m++r)∧(k=0∨0<m)∧m*128 ^ k<18446744073709551616:=by
 have h9:(128:Nat) ^ 9=9223372036854775808:=by decide
 have h8:(128:Nat) ^ 8=72057594037927936:=by decide
 induction b with
 | nil=>intro k n v k' _ h;simp [zbY] at h
 | cons c b ih=>
   intro k n v k' hk h;have hc:=UInt8.toNat_lt c;unfold zbY at h;split at h
   · simp at h
   · rename_i h1
     split at h
     · rename_i h2
       split at h
       · simp at h
       · rename_i h3
         simp only [zj4,zks] at h;obtain ⟨rfl,rfl⟩:=h;refine ⟨c.toNat,rfl,by rw [kQ h2];rfl,⟨b,by rw [kQ h2];simp⟩,by omega,?_⟩
         rcases zjb k 9 with h4 | h4
         · have:128 ^ k≤128 ^ 8:=Nat.pow_le_pow_right (by omega) (by omega)
           have h5:c.toNat*128 ^ k≤127*128 ^ 8:=Nat.mul_le_mul (by omega) this
           rw [h8] at h5;omega
         · obtain rfl:k=9:=by omega
           have:c.toNat≤1:=by omega
           have h5:c.toNat*128 ^ 9≤1*128 ^ 9:=zjm _ this;rw [h9] at h5 ⊢;omega
     · rename_i h2
       have hk8:k≠9:=by rintro rfl;omega
       obtain ⟨m,rfl,rfl,⟨r,hr⟩,h4,h5⟩:=ih (k+1) _ v k' (by omega) h
       have hm:0<m:=by omega
       have e1:(c.toNat-128+128*m) % 128=c.toNat-128:=by omega
       have e2:(c.toNat-128+128*m) / 128=m:=by omega
       have hp:putL (c.toNat-128+128*m)=c::putL m:=by
        rw [rS (by omega),e1,e2,show c.toNat-128+128=c.toNat by omega]
        simp
       have e3:(c.toNat-128+128*m)*128 ^ k=(c.toNat-128)*128 ^ k+m*128 ^ (k+1):=by
        rw [zk6,Nat.pow_succ,Nat.mul_comm (128 ^ k) 128,←Nat.mul_assoc m,Nat.mul_comm m 128]
       refine ⟨c.toNat-128+128*m,by rw [e3];omega,by rw [hp,List.length_cons];omega,⟨r,by rw [hp,hr];rfl⟩,by omega,?_⟩
       rw [e3];have e4:m*128 ^ (k+1)=128*m*128 ^ k:=by rw [Nat.pow_succ,Nat.mul_comm (128 ^ k) 128,←Nat.mul_assoc,Nat.mul_comm m 128]
       rcases zjb (k+1) 9 with h6 | h6
       · have h7:128 ^ k≤128 ^ 7:=Nat.pow_le_pow_right (by omega) (by omega)
         have h8':(128:Nat) ^ 7=562949953421312:=by decide
         rw [h8'] at h7;have h10:(c.toNat-128)*128 ^ k≤127*128 ^ k:=zjm _ (by omega)
         have h11:(18446744073709551616:Nat)=32768*128 ^ 7:=by rw [h8']
         have h12:∃ q,(18446744073709551616:Nat)=128*q*128 ^ k:=by
          refine ⟨256*128 ^ (7-k),?_⟩;have:128 ^ (7-k)*128 ^ k=128 ^ 7:=by rw [←Nat.pow_add];congr 1;omega
          rw [h11,show 128*(256*128 ^ (7-k))*128 ^ k=32768*(128 ^ (7-k)*128 ^ k) by
           rw [←Nat.mul_assoc 128 256];rw [Nat.mul_assoc (128*256)],this]
         obtain ⟨q,hq⟩:=h12;have h50:=h5;rw [e4] at h5;have h51:128*m*128 ^ k<128*q*128 ^ k:=Nat.lt_of_lt_of_eq h5 hq;clear h5 h50;have h5:=h51;have h13:128*m<128*q:=Nat.lt_of_mul_lt_mul_right h5;have h14:(128*m+128)*128 ^ k≤128*q*128 ^ k:=zjm _ (by omega)
         rw [zk6] at h14;have h16:=hq ▸ h14;clear h14 hq h51 h5 h11;have hpos:0<128 ^ k:=Nat.pos_of_ne_zero (by simp)
         rw [e4];omega
       · obtain rfl:k=8:=by omega
         have e9:(128:Nat) ^ (8+1)=9223372036854775808:=h9;rw [e9] at h5 ⊢;rw [h8];exact zhU _ _ (by omega) (zi2 _ h5)
theorem xN {b:List UInt8} (h:(iF b).2.2=0):(iF b).1<18446744073709551616∧(iF b).2.1=(putL (iF b).1).length∧∃ r,b=putL (iF b).1++r:=by
 obtain ⟨v,k',e,hv⟩:∃ v k' e,iF b=(v,k',e):=⟨_,_,_,rfl⟩;rw [hv] at h ⊢;simp only at h ⊢;subst h;obtain ⟨m,h1,h2,h3,_,h5⟩:=zdv b 0 0 v k' (by omega) hv
 simp only [Nat.pow_zero,zk0,zj5] at h1 h2 h5;subst h1;exact ⟨h5,h2,h3⟩
theorem zek {b:List UInt8} (h:(iF b).2.2=0):0<(iF b).2.1∧(iF b).2.1≤b.length∧(iF b).2.1≤10:=by
 obtain ⟨h1,h2,r,h3⟩:=xN h;have:=zjj List.length h3;rw [zie] at this;have h4:=rK (iF b).1;have h5:=dR h1;omega
abbrev Rs:=Nat × Int
def sX (l:List UInt8) (s:Rs):Int × Rs:=
 if s.2≠0 then (0,s) else if (iF (l.drop s.1)).2.2≠0 then (0,(s.1,(iF (l.drop s.1)).2.2))
 else if 9223372036854775808≤(iF (l.drop s.1)).1 then (0,(s.1,21)) else ((iF (l.drop s.1)).1,(s.1+(iF (l.drop s.1)).2.1,0))
def iG (l:List UInt8) (m:Int) (s:Rs):Int × Rs:=
 if (sX l s).2.2=0∧m<(sX l s).1 then ((sX l s).1,((sX l s).2.1,2)) else sX l s
def zdu (l:List UInt8):Nat→List Int→Rs→List Int × Rs
 | 0,acc,s=>(acc,s)
 | n+1,acc,s=>if (sX l s).2.2≠0 then ([],(sX l s).2) else zdu l n (acc++[(sX l s).1]) (sX l s).2
def iD (l:List UInt8) (s:Rs):Int × Rs:=
 if (iG l 65536 s).2.2=0∧((l.length:Int)-(iG l 65536 s).2.1<(iG l 65536 s).1) then ((iG l 65536 s).1,((iG l 65536 s).2.1,20)) else iG l 65536 s
def zg4 (l:List UInt8) (s:Rs):List UInt8 × Rs:=
 if (iD l s).2.2≠0 then ([],(iD l s).2) else ((l.drop (iD l s).2.1).take (iD l s).1.toNat,((iD l s).2.1+(iD l s).1.toNat,0))
theorem zdL {l:List UInt8} {s:Rs} (h:s.1≤l.length):(sX l s).2.1≤l.length∧s.1≤(sX l s).2.1∧0≤(sX l s).1∧(sX l s).1≤9223372036854775807:=by
 unfold sX;split
 · exact ⟨h,zic _,by simp⟩
 · split
   · exact ⟨h,zic _,by simp⟩
   · split
     · exact ⟨h,zic _,by simp⟩
     · rename_i h1 h2 h3
       have:=zek (ziT.1 h2);rw [ziG] at this;simp only;omega
theorem zan {l:List UInt8} {s:Rs} (m:Int) (h:s.1≤l.length):(iG l m s).2.1≤l.length∧s.1≤(iG l m s).2.1∧0≤(iG l m s).1∧(iG l m s).1≤9223372036854775807:=by
 unfold iG;split
 · exact zdL h
 · exact zdL h
theorem zad {l:List UInt8} {s:Rs} {m:Int} (h:(iG l m s).2.2=0):(iG l m s).1≤m:=by
 unfold iG at h ⊢;split
 · rename_i h1;rw [zij h1] at h;simp at h
 · rename_i h1;rw [zig h1] at h;omega
theorem zeX {l:List UInt8} {s:Rs} (h:s.1≤l.length):(iD l s).2.1≤l.length∧s.1≤(iD l s).2.1∧0≤(iD l s).1∧(iD l s).1≤9223372036854775807:=by
 unfold iD;split
 · exact zan _ h
 · exact zan _ h
theorem zfh {l:List UInt8} {s:Rs} (h:(iD l s).2.2=0):(iD l s).1≤65536∧(iD l s).1≤(l.length:Int)-(iD l s).2.1:=by
 unfold iD at h ⊢;split
 · rename_i h1;rw [zij h1] at h;simp at h
 · rename_i h1
   rw [zig h1] at h;have:=zad h;omega
