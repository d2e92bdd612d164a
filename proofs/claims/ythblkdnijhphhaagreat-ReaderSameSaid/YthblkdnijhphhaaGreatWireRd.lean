/- A part of the proof. -/
import Derived.Test.YthblkdnijhphhaaGreatRing
import Derived.Test.YthblkdnijhphhaaGreatLen64
set_option maxHeartbeats 400000
set_option maxRecDepth 100000
namespace Go.Proofs.YthblkdnijhphhaaGreat
def putL (n:Nat):List UInt8:=
 if n<128 then [UInt8.ofNat n] else UInt8.ofNat (n % 128+128)::putL (n / 128)
termination_by n
decreasing_by omega
theorem zdr {n:Nat} (h:n<128):putL n=[UInt8.ofNat n]:=by rw [putL,if_pos h]
theorem zgt {n:Nat} (h:¬n<128):putL n=UInt8.ofNat (n % 128+128)::putL (n / 128):=by rw [putL,if_neg h]
theorem zmA {j:Nat}:∀ {n:Nat},n<128 ^ (j+1)→(putL n).length≤j+1:=by
 induction j with
 | zero=>intro n h;rw [zdr (by simpa using h)];simp
 | succ j ih=>
   intro n h;by_cases h1:n<128
   · rw [zdr h1];simp
   · rw [zgt h1,List.length_cons]
     have:=ih (n:=n / 128) (by rw [Nat.div_lt_iff_lt_mul (by omega)];rw [Nat.pow_succ] at h;exact h)
     omega
theorem zgr (n:Nat):0<(putL n).length:=by
 by_cases h:n<128
 · rw [zdr h];simp
 · rw [zgt h];simp
theorem zh1 (n:Nat) (h:n<256):((UInt8.ofNat n).toNat:Int)=n:=by simp;omega
theorem zoI (n:Nat) (h:n<128):B8 (UInt8.ofNat n)=.int .u8 (n:Int):=by unfold B8;rw [zh1 n (by omega)]
theorem znY (n:Nat):B8 (UInt8.ofNat (n % 128+128))=.int .u8 (bits BinOp.or IntKind.u8 ((n:Int) % 256) 128):=by
 unfold B8;rw [zh1 _ (by omega)]
 have h:((n:Int) % 256)=((n % 256:Nat):Int):=by omega
 have h2:=u8_or_nat (n % 256) 128 (by omega) (by omega)
 rw [h];rw [show (128:Int)=((128:Nat):Int) from rfl,h2];congr 2
 by_cases hb:n % 256<128
 · rw [Nat.or_comm,nat_join 7 128 (n % 256) (by omega) (by omega)];omega
 · have h3:n % 256=128+n % 128:=by omega
   rw [h3,←nat_join 7 128 (n % 128) (by omega) (by omega),Nat.or_comm,←Nat.or_assoc,Nat.or_self,nat_join 7 128 (n % 128) (by omega) (by omega)];omega
theorem zob {k:Nat} {acc:List UInt8} {n:Nat} (h:acc++putL k=putL n) (hk:k<128):za3 (putL n)=za3 acc++[.int .u8 (k:Int)]∧(putL n).length=acc.length+1:=by
 rw [←h,zdr hk,zeQ,zoI k hk];simp
theorem zn8 {k:Nat} {acc:List UInt8} {n:Nat} (h:acc++putL k=putL n) (hk:¬k<128):(acc++[UInt8.ofNat (k % 128+128)])++putL (k / 128)=putL n ∧
 za3 (acc++[UInt8.ofNat (k % 128+128)])=za3 acc++[.int .u8 (bits BinOp.or IntKind.u8 ((k:Int) % 256) 128)]:=by
 rw [←h,zgt hk,zeQ,znY];simp
def zd4:List UInt8→Nat→Nat→Nat × Nat × Nat
 | [],_,_=>(0,0,20)
 | c::l,k,n=>
   if k=9∧1<c.toNat then (0,0,21)
   else if c.toNat<128 then
    if 0<k∧c.toNat=0 then (0,0,21) else (n+c.toNat*128 ^ k,k+1,0)
   else zd4 l (k+1) (n+(c.toNat-128)*128 ^ k)
def zca (b:List UInt8):Nat × Nat × Nat:=zd4 b 0 0
def tup3 (r:Nat × Nat × Nat):Value:=.tuple #[.int .u64 r.1,.int .i64 r.2.1,.int .i64 r.2.2]
theorem zl4 (c:Nat) (hc:c<256):bits BinOp.andNot IntKind.u8 (c:Int) 128=((c % 128:Nat):Int):=by
 have h:=u8_andNot_nat c 128 hc (by omega)
 rw [show (128:Int)=((128:Nat):Int) from rfl,h,show 255-128=127 from rfl,nat_mask7]
theorem znD {n c k:Nat} (hc:c<256) (hn:n<128 ^ k) (hk:k<10) (h9:k=9→c<2) :
 bits BinOp.or IntKind.u64 (n:Int) (IntKind.u64.wrap (IntKind.u64.wrap (bits BinOp.andNot IntKind.u8 (c:Int) 128)*2 ^ (7*k)))=((n+(c % 128)*128 ^ k:Nat):Int) ∧
 n+(c % 128)*128 ^ k<18446744073709551616∧n+(c % 128)*128 ^ k<128 ^ (k+1):=by
 have hp:(128:Nat) ^ k=2 ^ (7*k):=by rw [Nat.pow_mul]
 have hpos:0<2 ^ (7*k):=Nat.two_pow_pos _;have hm:c % 128<128:=Nat.mod_lt _ (by omega)
 have hb1:n+(c % 128)*128 ^ k<128 ^ (k+1):=by
  have:(c % 128)*128 ^ k≤127*128 ^ k:=Nat.mul_le_mul_right _ (by omega)
  rw [Nat.pow_succ];omega
 have hb2:n+(c % 128)*128 ^ k<18446744073709551616:=by
  by_cases hk9:k=9
  · subst hk9
    have:c % 128≤1:=by have:=h9 rfl;omega
    have:(c % 128)*128 ^ 9≤1*128 ^ 9:=Nat.mul_le_mul_right _ this;have h3:(128:Nat) ^ 9=9223372036854775808:=by decide
    omega
  · have h3:(128:Nat) ^ (k+1)≤128 ^ 9:=Nat.pow_le_pow_right (by omega) (by omega)
    have h4:(128:Nat) ^ 9=9223372036854775808:=by decide
    omega
 refine ⟨?_,hb2,hb1⟩;have e1:(2:Int) ^ (7*k)=((128 ^ k:Nat):Int):=by rw [hp,Int.natCast_pow];rfl
 have w64:∀ m:Nat,m<18446744073709551616→IntKind.u64.wrap (m:Int)=(m:Int):=fun m hm=>by
  simp [IntKind.wrap,IntKind.bits,IntKind.signed];omega
 rw [zl4 c hc,w64 _ (by omega),e1,←Int.natCast_mul,w64 _ (by omega),u64_or_nat _ _ (by omega) (by omega)]
 congr 1
 rw [Nat.or_comm,nat_join (7*k) _ _ (by rw [hp,Nat.mul_mod_left]) (by rw [←hp];exact hn)]
 omega
theorem zlP {b:List UInt8} {k n:Nat} (h:¬k<b.length):zd4 (b.drop k) k n=(0,0,20):=by
 rw [List.drop_of_length_le (by omega)];rfl
theorem zkP {b:List UInt8} {n:Nat} (h:9<b.length) {c:Nat} (hc:b[9].toNat=c) (h1:¬c≤1):zd4 (b.drop 9) 9 n=(0,0,21):=by
 rw [List.drop_eq_getElem_cons h,zd4,if_pos ⟨rfl,by omega⟩]
theorem zje {b:List UInt8} {k n:Nat} (h:k<b.length) {c:Nat} (hc:b[k].toNat=c) (h1:0<k) (h2:c=0):zd4 (b.drop k) k n=(0,0,21):=by
 rw [List.drop_eq_getElem_cons h,zd4,if_neg (by omega),if_pos (by omega),if_pos ⟨h1,by omega⟩]
theorem zk1 {b:List UInt8} {k n:Nat} (h:k<b.length) {c:Nat} (hc:b[k].toNat=c) (h9:k=9→c<2) (h1:c<128) (h2:k=0∨0<c) :
 zd4 (b.drop k) k n=(n+(c % 128)*128 ^ k,k+1,0):=by
 rw [List.drop_eq_getElem_cons h,zd4,if_neg (by omega),if_pos (by omega),if_neg (by omega),hc,Nat.mod_eq_of_lt h1]
theorem zjb {b:List UInt8} {k n:Nat} (h:k<b.length) {c:Nat} (hc:b[k].toNat=c) (h9:k≠9) (h1:¬c<128) :
 zd4 (b.drop k) k n=zd4 (b.drop (k+1)) (k+1) (n+(c % 128)*128 ^ k):=by
 have:=UInt8.toNat_lt b[k];rw [List.drop_eq_getElem_cons h,zd4,if_neg (by omega),if_neg (by omega),hc,show c-128=c % 128 by omega]
theorem zkt {n:Nat} (h:n<18446744073709551616):n<128 ^ (9+1):=by
 have:(128:Nat) ^ (9+1)=1180591620717411303424:=by decide
 omega
theorem zbg {n:Nat} (h:n<18446744073709551616):(putL n).length≤10:=zmA (j:=9) (zkt h)
end Go.Proofs.YthblkdnijhphhaaGreat
namespace Go.Proofs.YthblkdnijhphhaaGreat
open Go.RowKit
theorem zeB:∀ (f x j:Nat),x<2 ^ j→Lib.bitLenAux f x≤j
 | 0,_,_,_=>Nat.zero_le _
 | f+1,x,j,h=>by
   unfold Lib.bitLenAux;by_cases hx:x=0
   · rw [if_pos hx];exact Nat.zero_le _
   · rw [if_neg hx]
     match j,h with
     | 0,h=>simp at h;omega
     | j+1,h=>
       have:=zeB f (x / 2) j (by rw [Nat.pow_succ] at h;omega)
       omega
theorem zfb:∀ (f x j:Nat),2 ^ j≤x→j<f→j+1≤Lib.bitLenAux f x
 | 0,_,_,_,h=>by omega
 | f+1,x,j,h,hf=>by
   unfold Lib.bitLenAux;have hp:=Nat.two_pow_pos j;rw [if_neg (by omega)]
   match j,h with
   | 0,h=>omega
   | j+1,h=>
     have:=zfb f (x / 2) j (by rw [Nat.pow_succ] at h;omega) (by omega)
     omega
theorem zhV (x:Nat):Lib.bitLen x≤64:=by
 have h:∀ f x,Lib.bitLenAux f x≤f:=by
  intro f;induction f with
  | zero=>intro x;exact Nat.le_refl _
  | succ f ih=>
    intro x;unfold Lib.bitLenAux;split
    · omega
    · have:=ih (x / 2);omega
 exact h 64 x
def widthN (n:Nat):Nat:=if Lib.bitLen n=0 then 1 else (Lib.bitLen n+6) / 7
theorem zj0 (k:Nat):128 ^ k=2 ^ (7*k):=by rw [Nat.pow_mul]
theorem zm9 {n k:Nat} (h1:n<128 ^ (k+1)) (h0:k=0∨128 ^ k≤n) (hk:k<10):widthN n=k+1:=by
 have hle:Lib.bitLen n≤7*(k+1):=zeB 64 n _ (by rw [←zj0];exact h1)
 unfold widthN;by_cases hz:Lib.bitLen n=0
 · rw [if_pos hz]
   rcases h0 with h0 | h0
   · omega
   · have:=zfb 64 n (7*k) (by rw [←zj0];exact h0) (by omega)
     have h2:7*k+1≤Lib.bitLen n:=this;omega
 · rw [if_neg hz]
   rcases h0 with h0 | h0
   · subst h0;omega
   · have h2:7*k+1≤Lib.bitLen n:=zfb 64 n (7*k) (by rw [←zj0];exact h0) (by omega)
     omega
theorem zmP {n k:Nat} (h1:n<128 ^ k) (h0:0<k):widthN n≠k+1:=by
 have hle:Lib.bitLen n≤7*k:=zeB 64 n _ (by rw [←zj0];exact h1)
 unfold widthN;split <;> omega
theorem zhv (x:Int) (w:World) (h0:0≤x) (h1:x≤18446744073709551615) :
 Calls Tryz.prog 224 #[.int .u64 x] w fun e w'=>e=.returned (.int .i64 (widthN x.toNat))∧w=w':=by
 have hle:Lib.bitLen x.toNat≤64:=zhV _;go_enter Tryz.func224,Tryz.ntmps224
 go_wp2_with (go_at_call 178;refine (zht x _ h0 h1).mono ?_;rintro e w' ⟨rfl,rfl⟩);go_ret;refine ⟨congrArg Ending.returned (congrArg (Value.int IntKind.i64) ?_),rfl⟩;unfold widthN;split <;> omega
theorem Tryz.info5:(Tryz.prog.info? 5).map (fun i=>(i.zero,i.size,i.bytes))=some (some (.int .u8 0),1,1):=by kernel_rfl
theorem zkQ (n:Nat) (hn:(putL n).length≤10) (w:World) :
 Calls Tryz.prog 180 #[.int .u64 n] w fun e w'=>∃ A c,e=.returned (.slice A (putL n).length c)∧w'.ownsRow w.heap.size 5 1 (.slice A (putL n).length c) (putL n).length (za3 (putL n))∧Below w.heap.size w w':=by
 obtain ⟨i0,hi,hz0,hz1,hz2⟩:=info_parts Tryz.info5;go_enter Tryz.func180,Tryz.ntmps180
 go_wp2;go_loopw [0,3] (fun m b wr=>∃ (k:Nat) (acc:List UInt8) (A:Option Addr) (c:Nat),m=.int .u64 k∧b=.slice A acc.length c∧wr.ownsRow w.heap.size 5 1 (.slice A acc.length c) acc.length (za3 acc)∧Below w.heap.size w wr∧acc++putL k=putL n)
  (fun m _ _=>(intOf m).toNat)
 case atStart=>exact ⟨n,[],_,_,rfl,rfl,World.ownsRow_nil _ _ _ _,Below.refl _ _,rfl⟩
 case round=>
  obtain ⟨k,acc,A,c,rfl,rfl,hown,hb,hp⟩:=hrel;have hsz:=hb.size;have hla:acc.length≤10:=by have:=congrArg List.length hp;rw [List.length_append] at this;omega
  have HP:=Lib.hid hp;clear hp;by_cases hk:k<128
  · go_wp2_with (at_builtin;refine zdp rfl _ _ 32 rfl w.heap.size 5 i0 _ 1 Tryz.underlying32 hi hz0 hz1 hz2 rfl rfl hown rfl rfl (by simp only [maxLen];omega) (by omega) hsz ?_;intro A' c' w1 hown1 hg1)
    go_ret;obtain ⟨h1,h2⟩:=zob HP.out hk;rw [h1,h2];exact ⟨_,_,rfl,hown1,hb.trans hg1.below⟩
  · go_wp2_with (at_builtin;refine zdp rfl _ _ 32 rfl w.heap.size 5 i0 _ 1 Tryz.underlying32 hi hz0 hz1 hz2 rfl rfl hown rfl rfl (by simp only [maxLen];omega) (by omega) hsz ?_;intro A' c' w1 hown1 hg1)
    go_roundw
    case rel=>
     obtain ⟨h1,h2⟩:=zn8 HP.out hk;refine ⟨k / 128,acc++[UInt8.ofNat (k % 128+128)],A',c',?_,?_,?_,hb.trans hg1.below,h1⟩
     · go_num
     · simp
     · rw [h2,List.length_append];exact hown1
    case measure=>simp [intOf];omega
theorem key8 (a m:Nat) (ha:a≤127) (hm:m≤1):a*72057594037927936+m*9223372036854775808<18446744073709551616:=by omega
theorem key9 (m:Nat) (h:m*9223372036854775808<18446744073709551616):m≤1:=by omega
theorem zlv (b:List UInt8):∀ (k n v k':Nat),k≤9→zd4 b k n=(v,k',0)→∃ m,v=n+m*128 ^ k∧k'=k+(putL m).length∧(∃ r,b=putL m++r)∧(k=0∨0<m)∧m*128 ^ k<18446744073709551616:=by
 have h9:(128:Nat) ^ 9=9223372036854775808:=by decide
 have h8:(128:Nat) ^ 8=72057594037927936:=by decide
 induction b with
 | nil=>intro k n v k' _ h;simp [zd4] at h
 | cons c b ih=>
   intro k n v k' hk h;have hc:=UInt8.toNat_lt c;unfold zd4 at h;split at h
   · simp at h
   · rename_i h1
     split at h
     · rename_i h2
       split at h
       · simp at h
       · rename_i h3
         simp only [Prod.mk.injEq,and_true] at h;obtain ⟨rfl,rfl⟩:=h;refine ⟨c.toNat,rfl,by rw [zdr h2];rfl,⟨b,by rw [zdr h2];simp⟩,by omega,?_⟩
         rcases Nat.lt_or_ge k 9 with h4 | h4
         · have:128 ^ k≤128 ^ 8:=Nat.pow_le_pow_right (by omega) (by omega)
           have h5:c.toNat*128 ^ k≤127*128 ^ 8:=Nat.mul_le_mul (by omega) this
           rw [h8] at h5;omega
         · obtain rfl:k=9:=by omega
           have:c.toNat≤1:=by omega
           have h5:c.toNat*128 ^ 9≤1*128 ^ 9:=Nat.mul_le_mul_right _ this;rw [h9] at h5 ⊢;omega
     · rename_i h2
       have hk8:k≠9:=by rintro rfl;omega
       obtain ⟨m,rfl,rfl,⟨r,hr⟩,h4,h5⟩:=ih (k+1) _ v k' (by omega) h
       have hm:0<m:=by omega
       have e1:(c.toNat-128+128*m) % 128=c.toNat-128:=by omega
       have e2:(c.toNat-128+128*m) / 128=m:=by omega
       have hp:putL (c.toNat-128+128*m)=c::putL m:=by
        rw [zgt (by omega),e1,e2,show c.toNat-128+128=c.toNat by omega]
        simp
       have e3:(c.toNat-128+128*m)*128 ^ k=(c.toNat-128)*128 ^ k+m*128 ^ (k+1):=by
        rw [Nat.add_mul,Nat.pow_succ,Nat.mul_comm (128 ^ k) 128,←Nat.mul_assoc m,Nat.mul_comm m 128]
       refine ⟨c.toNat-128+128*m,by rw [e3];omega,by rw [hp,List.length_cons];omega,⟨r,by rw [hp,hr];rfl⟩,by omega,?_⟩
       rw [e3];have e4:m*128 ^ (k+1)=128*m*128 ^ k:=by rw [Nat.pow_succ,Nat.mul_comm (128 ^ k) 128,←Nat.mul_assoc,Nat.mul_comm m 128]
       rcases Nat.lt_or_ge (k+1) 9 with h6 | h6
       · have h7:128 ^ k≤128 ^ 7:=Nat.pow_le_pow_right (by omega) (by omega)
         have h8':(128:Nat) ^ 7=562949953421312:=by decide
         rw [h8'] at h7;have h10:(c.toNat-128)*128 ^ k≤127*128 ^ k:=Nat.mul_le_mul_right _ (by omega)
         have h11:(18446744073709551616:Nat)=32768*128 ^ 7:=by rw [h8']
         have h12:∃ q,(18446744073709551616:Nat)=128*q*128 ^ k:=by
          refine ⟨256*128 ^ (7-k),?_⟩;have:128 ^ (7-k)*128 ^ k=128 ^ 7:=by rw [←Nat.pow_add];congr 1;omega
          rw [h11,show 128*(256*128 ^ (7-k))*128 ^ k=32768*(128 ^ (7-k)*128 ^ k) by
           rw [←Nat.mul_assoc 128 256];rw [Nat.mul_assoc (128*256)],this]
         obtain ⟨q,hq⟩:=h12;have h50:=h5;rw [e4] at h5;have h51:128*m*128 ^ k<128*q*128 ^ k:=Nat.lt_of_lt_of_eq h5 hq;clear h5 h50;have h5:=h51;have h13:128*m<128*q:=Nat.lt_of_mul_lt_mul_right h5;have h14:(128*m+128)*128 ^ k≤128*q*128 ^ k:=Nat.mul_le_mul_right _ (by omega)
         rw [Nat.add_mul] at h14;have h16:=hq ▸ h14;clear h14 hq h51 h5 h11;have hpos:0<128 ^ k:=Nat.pos_of_ne_zero (by simp)
         rw [e4];omega
       · obtain rfl:k=8:=by omega
         have e9:(128:Nat) ^ (8+1)=9223372036854775808:=h9;rw [e9] at h5 ⊢;rw [h8];exact key8 _ _ (by omega) (key9 _ h5)
theorem zf9 {b:List UInt8} (h:(zca b).2.2=0):(zca b).1<18446744073709551616∧(zca b).2.1=(putL (zca b).1).length∧∃ r,b=putL (zca b).1++r:=by
 obtain ⟨v,k',e,hv⟩:∃ v k' e,zca b=(v,k',e):=⟨_,_,_,rfl⟩;rw [hv] at h ⊢;simp only at h ⊢;subst h;obtain ⟨m,h1,h2,h3,_,h5⟩:=zlv b 0 0 v k' (by omega) hv
 simp only [Nat.pow_zero,Nat.mul_one,Nat.zero_add] at h1 h2 h5;subst h1;exact ⟨h5,h2,h3⟩
theorem ziW {b:List UInt8} (h:(zca b).2.2=0):0<(zca b).2.1∧(zca b).2.1≤b.length∧(zca b).2.1≤10:=by
 obtain ⟨h1,h2,r,h3⟩:=zf9 h;have:=congrArg List.length h3;rw [List.length_append] at this;have h4:=zgr (zca b).1;have h5:=zbg h1;omega
abbrev Rs:=Nat × Int
def rnum (l:List UInt8) (s:Rs):Int × Rs:=
 if s.2≠0 then (0,s) else if (zca (l.drop s.1)).2.2≠0 then (0,(s.1,(zca (l.drop s.1)).2.2))
 else if 9223372036854775808≤(zca (l.drop s.1)).1 then (0,(s.1,21)) else ((zca (l.drop s.1)).1,(s.1+(zca (l.drop s.1)).2.1,0))
def zbD (l:List UInt8) (m:Int) (s:Rs):Int × Rs:=
 if (rnum l s).2.2=0∧m<(rnum l s).1 then ((rnum l s).1,((rnum l s).2.1,2)) else rnum l s
def zk7 (l:List UInt8):Nat→List Int→Rs→List Int × Rs
 | 0,acc,s=>(acc,s)
 | n+1,acc,s=>if (rnum l s).2.2≠0 then ([],(rnum l s).2) else zk7 l n (acc++[(rnum l s).1]) (rnum l s).2
def zbf (l:List UInt8) (s:Rs):Int × Rs:=
 if (zbD l 65536 s).2.2=0∧((l.length:Int)-(zbD l 65536 s).2.1<(zbD l 65536 s).1) then ((zbD l 65536 s).1,((zbD l 65536 s).2.1,20)) else zbD l 65536 s
def rvec (l:List UInt8) (s:Rs):List UInt8 × Rs:=
 if (zbf l s).2.2≠0 then ([],(zbf l s).2) else ((l.drop (zbf l s).2.1).take (zbf l s).1.toNat,((zbf l s).2.1+(zbf l s).1.toNat,0))
theorem zkR {l:List UInt8} {s:Rs} (h:s.1≤l.length):(rnum l s).2.1≤l.length∧s.1≤(rnum l s).2.1∧0≤(rnum l s).1∧(rnum l s).1≤9223372036854775807:=by
 unfold rnum;split
 · exact ⟨h,Nat.le_refl _,by simp⟩
 · split
   · exact ⟨h,Nat.le_refl _,by simp⟩
   · split
     · exact ⟨h,Nat.le_refl _,by simp⟩
     · rename_i h1 h2 h3
       have:=ziW (Decidable.not_not.1 h2);rw [List.length_drop] at this;simp only;omega
theorem zgu {l:List UInt8} {s:Rs} (m:Int) (h:s.1≤l.length):(zbD l m s).2.1≤l.length∧s.1≤(zbD l m s).2.1∧0≤(zbD l m s).1∧(zbD l m s).1≤9223372036854775807:=by
 unfold zbD;split
 · exact zkR h
 · exact zkR h
theorem zg9 {l:List UInt8} {s:Rs} {m:Int} (h:(zbD l m s).2.2=0):(zbD l m s).1≤m:=by
 unfold zbD at h ⊢;split
 · rename_i h1;rw [if_pos h1] at h;simp at h
 · rename_i h1;rw [if_neg h1] at h;omega
theorem zm8 {l:List UInt8} {s:Rs} (h:s.1≤l.length):(zbf l s).2.1≤l.length∧s.1≤(zbf l s).2.1∧0≤(zbf l s).1∧(zbf l s).1≤9223372036854775807:=by
 unfold zbf;split
 · exact zgu _ h
 · exact zgu _ h
theorem zms {l:List UInt8} {s:Rs} (h:(zbf l s).2.2=0):(zbf l s).1≤65536∧(zbf l s).1≤(l.length:Int)-(zbf l s).2.1:=by
 unfold zbf at h ⊢;split
 · rename_i h1;rw [if_pos h1] at h;simp at h
 · rename_i h1
   rw [if_neg h1] at h;have:=zg9 h;omega
theorem zmd (b:List UInt8) (A:Option Addr) (n cap:Nat) (K:Nat→Prop) (hn:b.length=n) (hlb:n≤9223372036854775807) (w:World) (hr:za6 w K 1 A n (za3 b)) :
 Calls Tryz.prog 218 #[.slice A n cap] w fun e w'=>e=.returned (tup3 (zca b))∧w=w':=by
 subst hn;go_enter Tryz.func218,Tryz.ntmps218
 go_wp2;go_loop [2,3,4,5] (fun n k e _=>∃ n0 k0:Nat,n=.int .u64 n0∧k=.int .i64 k0∧e=.int .i64 0∧k0≤b.length∧k0<10∧n0<128 ^ k0∧zd4 (b.drop k0) k0 n0=zca b)
  (fun _ k _ _=>10-(intOf k).toNat)
 case atStart=>exact ⟨0,0,rfl,rfl,rfl,by omega,by omega,by simp,rfl⟩
 case round=>
  obtain ⟨n0,k0,rfl,rfl,rfl,hk1,hk2,hn0,hgo⟩:=hrel;have HG:=Lib.hid hgo;clear hgo;have HN:=Lib.hid hn0;clear hn0;by_cases hk:k0<b.length
  · obtain ⟨ad,u,rfl,hbB,hu,hc⟩:=hr.at_ hk
    simp only [za3,List.getElem?_map,List.getElem?_eq_getElem hk,Option.map_some,Option.some.injEq] at hu;subst hu;unfold B8 at hc;have hc2:(b[k0].toNat)<256:=UInt8.toNat_lt _;generalize hcc:b[k0].toNat=c at hc hc2;have HC:=Lib.hid hcc;clear hcc;have hk2':(k0:Int)<10:=by omega
    by_cases hbad:k0=9∧¬c≤1
    · have h9b:((k0:Int) == 9)=true:=by simp;omega
      obtain ⟨h9,hc1⟩:=hbad;have H9:=Lib.hid h9;clear h9;go_wp2;go_ret3
      obtain rfl:=H9.out;exact ⟨by rw [←HG.out,zkP hk HC.out hc1];rfl,rfl⟩
    · obtain ⟨hv,hlt,hn1⟩:=znD (n:=n0) hc2 HN.out hk2 (by omega)
      generalize hn1e:n0+(c % 128)*128 ^ k0=n1 at hv hlt hn1;have HE:=Lib.hid hn1e;clear hn1e;have H1:=Lib.hid hn1;clear hn1;have HL:=Lib.hid hlt;clear hlt;have hh:(((k0:Int) == 9)=true∧c≤1)∨((k0:Int) == 9)=false:=by simp;omega
      have HB:=Lib.hid hbad;clear hbad;by_cases h128:c<128
      · by_cases hz:0<k0∧c=0
        · have hwd:widthN n1≠k0+1:=zmP (by rw [←HE.out,hz.2];simpa using HN.out) hz.1
          have hwb:((widthN n1:Int) != (k0:Int)+1)=true:=by simp;omega
          have HZ:=Lib.hid hz;clear hz;clear hwd;rcases hh with ⟨h9b,hc1⟩ | h9b
          all_goals
           go_wp2_with (go_at_call 224;refine (zhv n1 _ (by omega) (by have:=HL.out;omega)).mono ?_;rintro e w' ⟨rfl,rfl⟩;rw [Int.toNat_natCast])
           go_ret3
           exact ⟨by rw [←HG.out,zje hk HC.out HZ.out.1 HZ.out.2];rfl,rfl⟩
        · have hwd:widthN n1=k0+1:=zm9 H1.out (by
           rcases Nat.eq_zero_or_pos k0 with h | h
           · exact .inl h
           · refine .inr ?_
             rw [←HE.out,Nat.mod_eq_of_lt h128];have:1*128 ^ k0≤c*128 ^ k0:=Nat.mul_le_mul_right _ (by omega)
             omega) hk2
          have HW:=Lib.hid hwd;clear hwd;have HZ:=Lib.hid hz;clear hz;rcases hh with ⟨h9b,hc1⟩ | h9b
          all_goals
           go_wp2_with (go_at_call 224;refine (zhv n1 _ (by omega) (by have:=HL.out;omega)).mono ?_;rintro e w' ⟨rfl,rfl⟩;rw [Int.toNat_natCast,HW.out];try rw [Int.natCast_add,Int.natCast_one])
           go_ret3
           exact ⟨by rw [←HG.out,zk1 hk HC.out (by have:=HB.out;omega) h128 (by have:=HZ.out;omega),HE.out];rfl,rfl⟩
      · rcases hh with ⟨h9b,hc1⟩ | h9b
        · omega
        · go_wp2
          go_round
          case rel=>exact ⟨n1,k0+1,rfl,by go_num,rfl,by omega,by have:=HB.out;simp at h9b;omega,H1.out,by rw [←HG.out,zjb hk HC.out (by simp at h9b;omega) h128,HE.out]⟩
          case measure=>simp [intOf];omega
  · go_wp2
    go_ret3
    exact ⟨by rw [←HG.out,zlP hk];rfl,rfl⟩
end Go.Proofs.YthblkdnijhphhaaGreat
