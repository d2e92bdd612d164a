/- A part of the proof. -/
import Derived.Test.YtfhpolidjmbjoaaGreatLib
import Derived.Test.YtfhpolidjmbjoaaGreatLen64
set_option maxHeartbeats 400000
set_option maxRecDepth 100000
namespace Go.Proofs.YtfhpolidjmbjoaaGreat
def putL (n:Nat):List UInt8:=
 if n<128 then [UInt8.ofNat n] else UInt8.ofNat (n % 128+128)::putL (n / 128)
termination_by n
decreasing_by omega
theorem putL_lt {n:Nat} (h:n<128):putL n=[UInt8.ofNat n]:=by rw [putL,if_pos h]
theorem putL_ge {n:Nat} (h:¬n<128):putL n=UInt8.ofNat (n % 128+128)::putL (n / 128):=by rw [putL,if_neg h]
theorem putL_len {j:Nat}:∀ {n:Nat},n<128 ^ (j+1)→(putL n).length≤j+1:=by
 induction j with
 | zero=>intro n h;rw [putL_lt (by simpa using h)];simp
 | succ j ih=>
   intro n h;by_cases h1:n<128
   · rw [putL_lt h1];simp
   · rw [putL_ge h1,List.length_cons]
     have:=ih (n:=n / 128) (by rw [Nat.div_lt_iff_lt_mul (by omega)];rw [Nat.pow_succ] at h;exact h)
     omega
theorem putL_pos (n:Nat):0<(putL n).length:=by
 by_cases h:n<128
 · rw [putL_lt h];simp
 · rw [putL_ge h];simp
theorem ofNat_val (n:Nat) (h:n<256):((UInt8.ofNat n).toNat:Int)=n:=by simp;omega
theorem B8_low (n:Nat) (h:n<128):B8 (UInt8.ofNat n)=.int .u8 (n:Int):=by unfold B8;rw [ofNat_val n (by omega)]
theorem B8_high (n:Nat):B8 (UInt8.ofNat (n % 128+128))=.int .u8 (bits BinOp.or IntKind.u8 ((n:Int) % 256) 128):=by
 unfold B8;rw [ofNat_val _ (by omega)]
 have h:((n:Int) % 256)=((n % 256:Nat):Int):=by omega
 have h2:=u8_or_nat (n % 256) 128 (by omega) (by omega)
 rw [h];rw [show (128:Int)=((128:Nat):Int) from rfl,h2];congr 2
 by_cases hb:n % 256<128
 · rw [Nat.or_comm,nat_join 7 128 (n % 256) (by omega) (by omega)];omega
 · have h3:n % 256=128+n % 128:=by omega
   rw [h3,←nat_join 7 128 (n % 128) (by omega) (by omega),Nat.or_comm,←Nat.or_assoc,Nat.or_self,nat_join 7 128 (n % 128) (by omega) (by omega)];omega
theorem put_low {k:Nat} {acc:List UInt8} {n:Nat} (h:acc++putL k=putL n) (hk:k<128):cells8 (putL n)=cells8 acc++[.int .u8 (k:Int)]∧(putL n).length=acc.length+1:=by
 rw [←h,putL_lt hk,cells8_snoc,B8_low k hk];simp
theorem put_high {k:Nat} {acc:List UInt8} {n:Nat} (h:acc++putL k=putL n) (hk:¬k<128):(acc++[UInt8.ofNat (k % 128+128)])++putL (k / 128)=putL n ∧
 cells8 (acc++[UInt8.ofNat (k % 128+128)])=cells8 acc++[.int .u8 (bits BinOp.or IntKind.u8 ((k:Int) % 256) 128)]:=by
 rw [←h,putL_ge hk,cells8_snoc,B8_high];simp
def takeG:List UInt8→Nat→Nat→Nat × Nat × Nat
 | [],_,_=>(0,0,20)
 | c::l,k,n=>
   if k=9∧1<c.toNat then (0,0,21)
   else if c.toNat<128 then
    if 0<k∧c.toNat=0 then (0,0,21) else (n+c.toNat*128 ^ k,k+1,0)
   else takeG l (k+1) (n+(c.toNat-128)*128 ^ k)
def takeL (b:List UInt8):Nat × Nat × Nat:=takeG b 0 0
def tup3 (r:Nat × Nat × Nat):Value:=.tuple #[.int .u64 r.1,.int .i64 r.2.1,.int .i64 r.2.2]
theorem andNot128 (c:Nat) (hc:c<256):bits BinOp.andNot IntKind.u8 (c:Int) 128=((c % 128:Nat):Int):=by
 have h:=u8_andNot_nat c 128 hc (by omega)
 rw [show (128:Int)=((128:Nat):Int) from rfl,h,show 255-128=127 from rfl,nat_mask7]
theorem take_or {n c k:Nat} (hc:c<256) (hn:n<128 ^ k) (hk:k<10) (h9:k=9→c<2) :
 bits BinOp.or IntKind.u64 (n:Int) (IntKind.u64.wrap (IntKind.u64.wrap (bits BinOp.andNot IntKind.u8 (c:Int) 128)*2 ^ (7*k)))=((n+(c % 128)*128 ^ k:Nat):Int) ∧
 n+(c % 128)*128 ^ k<18446744073709551616∧n+(c % 128)*128 ^ k<128 ^ (k+1):=by
 have hp:(128:Nat) ^ k=2 ^ (7*k):=by rw [Nat.pow_mul]
 have hpos:0<2 ^ (7*k):=Nat.two_pow_pos _;have hm:c % 128<128:=Nat.mod_lt _ (by omega)
 have hb1:n+(c % 128)*128 ^ k<128 ^ (k+1):=by
  have:(c % 128)*128 ^ k≤127*128 ^ k:=Nat.mul_le_mul_right _ (by omega)
  rw [Nat.pow_succ];omega
 have hb2:n+(c % 128)*128 ^ k<18446744073709551616:=by
  by_cases hk9:k=9
  · subst hk9
    have:c % 128≤1:=by have:=h9 rfl;omega
    have:(c % 128)*128 ^ 9≤1*128 ^ 9:=Nat.mul_le_mul_right _ this;have h3:(128:Nat) ^ 9=9223372036854775808:=by decide
    omega
  · have h3:(128:Nat) ^ (k+1)≤128 ^ 9:=Nat.pow_le_pow_right (by omega) (by omega)
    have h4:(128:Nat) ^ 9=9223372036854775808:=by decide
    omega
 refine ⟨?_,hb2,hb1⟩;have e1:(2:Int) ^ (7*k)=((128 ^ k:Nat):Int):=by rw [hp,Int.natCast_pow];rfl
 have w64:∀ m:Nat,m<18446744073709551616→IntKind.u64.wrap (m:Int)=(m:Int):=fun m hm=>by
  simp [IntKind.wrap,IntKind.bits,IntKind.signed];omega
 rw [andNot128 c hc,w64 _ (by omega),e1,←Int.natCast_mul,w64 _ (by omega),u64_or_nat _ _ (by omega) (by omega)]
 congr 1
 rw [Nat.or_comm,nat_join (7*k) _ _ (by rw [hp,Nat.mul_mod_left]) (by rw [←hp];exact hn)]
 omega
theorem takeG_nil {b:List UInt8} {k n:Nat} (h:¬k<b.length):takeG (b.drop k) k n=(0,0,20):=by
 rw [List.drop_of_length_le (by omega)];rfl
theorem takeG_big {b:List UInt8} {n:Nat} (h:9<b.length) {c:Nat} (hc:b[9].toNat=c) (h1:¬c≤1):takeG (b.drop 9) 9 n=(0,0,21):=by
 rw [List.drop_eq_getElem_cons h,takeG,if_pos ⟨rfl,by omega⟩]
theorem takeG_zero {b:List UInt8} {k n:Nat} (h:k<b.length) {c:Nat} (hc:b[k].toNat=c) (h1:0<k) (h2:c=0):takeG (b.drop k) k n=(0,0,21):=by
 rw [List.drop_eq_getElem_cons h,takeG,if_neg (by omega),if_pos (by omega),if_pos ⟨h1,by omega⟩]
theorem takeG_last {b:List UInt8} {k n:Nat} (h:k<b.length) {c:Nat} (hc:b[k].toNat=c) (h9:k=9→c<2) (h1:c<128) (h2:k=0∨0<c) :
 takeG (b.drop k) k n=(n+(c % 128)*128 ^ k,k+1,0):=by
 rw [List.drop_eq_getElem_cons h,takeG,if_neg (by omega),if_pos (by omega),if_neg (by omega),hc,Nat.mod_eq_of_lt h1]
theorem takeG_next {b:List UInt8} {k n:Nat} (h:k<b.length) {c:Nat} (hc:b[k].toNat=c) (h9:k≠9) (h1:¬c<128) :
 takeG (b.drop k) k n=takeG (b.drop (k+1)) (k+1) (n+(c % 128)*128 ^ k):=by
 have:=UInt8.toNat_lt b[k];rw [List.drop_eq_getElem_cons h,takeG,if_neg (by omega),if_neg (by omega),hc,show c-128=c % 128 by omega]
theorem pow128_10 {n:Nat} (h:n<18446744073709551616):n<128 ^ (9+1):=by
 have:(128:Nat) ^ (9+1)=1180591620717411303424:=by decide
 omega
theorem putL_len10 {n:Nat} (h:n<18446744073709551616):(putL n).length≤10:=putL_len (j:=9) (pow128_10 h)
end Go.Proofs.YtfhpolidjmbjoaaGreat
namespace Go.Proofs.YtfhpolidjmbjoaaGreat
open Go.RowKit
theorem bitAux_le:∀ (f x j:Nat),x<2 ^ j→Lib.bitLenAux f x≤j
 | 0,_,_,_=>Nat.zero_le _
 | f+1,x,j,h=>by
   unfold Lib.bitLenAux;by_cases hx:x=0
   · rw [if_pos hx];exact Nat.zero_le _
   · rw [if_neg hx]
     match j,h with
     | 0,h=>simp at h;omega
     | j+1,h=>
       have:=bitAux_le f (x / 2) j (by rw [Nat.pow_succ] at h;omega)
       omega
theorem bitAux_ge:∀ (f x j:Nat),2 ^ j≤x→j<f→j+1≤Lib.bitLenAux f x
 | 0,_,_,_,h=>by omega
 | f+1,x,j,h,hf=>by
   unfold Lib.bitLenAux;have hp:=Nat.two_pow_pos j;rw [if_neg (by omega)]
   match j,h with
   | 0,h=>omega
   | j+1,h=>
     have:=bitAux_ge f (x / 2) j (by rw [Nat.pow_succ] at h;omega) (by omega)
     omega
theorem bitLen_le64 (x:Nat):Lib.bitLen x≤64:=by
 have h:∀ f x,Lib.bitLenAux f x≤f:=by
  intro f;induction f with
  | zero=>intro x;exact Nat.le_refl _
  | succ f ih=>
    intro x;unfold Lib.bitLenAux;split
    · omega
    · have:=ih (x / 2);omega
 exact h 64 x
def widthN (n:Nat):Nat:=if Lib.bitLen n=0 then 1 else (Lib.bitLen n+6) / 7
theorem pow128 (k:Nat):128 ^ k=2 ^ (7*k):=by rw [Nat.pow_mul]
theorem width_eq {n k:Nat} (h1:n<128 ^ (k+1)) (h0:k=0∨128 ^ k≤n) (hk:k<10):widthN n=k+1:=by
 have hle:Lib.bitLen n≤7*(k+1):=bitAux_le 64 n _ (by rw [←pow128];exact h1)
 unfold widthN;by_cases hz:Lib.bitLen n=0
 · rw [if_pos hz]
   rcases h0 with h0 | h0
   · omega
   · have:=bitAux_ge 64 n (7*k) (by rw [←pow128];exact h0) (by omega)
     have h2:7*k+1≤Lib.bitLen n:=this;omega
 · rw [if_neg hz]
   rcases h0 with h0 | h0
   · subst h0;omega
   · have h2:7*k+1≤Lib.bitLen n:=bitAux_ge 64 n (7*k) (by rw [←pow128];exact h0) (by omega)
     omega
theorem width_ne {n k:Nat} (h1:n<128 ^ k) (h0:0<k):widthN n≠k+1:=by
 have hle:Lib.bitLen n≤7*k:=bitAux_le 64 n _ (by rw [←pow128];exact h1)
 unfold widthN;split <;> omega
theorem width_any (x:Int) (w:World) (h0:0≤x) (h1:x≤18446744073709551615) :
 Calls Tryz.prog 190 #[.int .u64 x] w fun e w'=>e=.returned (.int .i64 (widthN x.toNat))∧w=w':=by
 have hle:Lib.bitLen x.toNat≤64:=bitLen_le64 _;go_enter Tryz.func190,Tryz.ntmps190
 go_wp2_with (go_at_call 125;refine (len64_any x _ h0 h1).mono ?_;rintro e w' ⟨rfl,rfl⟩);go_ret;refine ⟨congrArg Ending.returned (congrArg (Value.int IntKind.i64) ?_),rfl⟩;unfold widthN;split <;> omega
theorem Tryz.info5:(Tryz.prog.info? 5).map (fun i=>(i.zero,i.size,i.bytes))=some (some (.int .u8 0),1,1):=by kernel_rfl
theorem put_any (n:Nat) (hn:(putL n).length≤10) (w:World) :
 Calls Tryz.prog 159 #[.int .u64 n] w fun e w'=>∃ A c,e=.returned (.slice A (putL n).length c)∧w'.ownsRow w.heap.size 5 1 (.slice A (putL n).length c) (putL n).length (cells8 (putL n))∧Below w.heap.size w w':=by
 obtain ⟨i0,hi,hz0,hz1,hz2⟩:=info_parts Tryz.info5;go_enter Tryz.func159,Tryz.ntmps159
 go_wp2;go_loopw [0,3] (fun m b wr=>∃ (k:Nat) (acc:List UInt8) (A:Option Addr) (c:Nat),m=.int .u64 k∧b=.slice A acc.length c∧wr.ownsRow w.heap.size 5 1 (.slice A acc.length c) acc.length (cells8 acc)∧Below w.heap.size w wr∧acc++putL k=putL n)
  (fun m _ _=>(intOf m).toNat)
 case atStart=>exact ⟨n,[],_,_,rfl,rfl,World.ownsRow_nil _ _ _ _,Below.refl _ _,rfl⟩
 case round=>
  obtain ⟨k,acc,A,c,rfl,rfl,hown,hb,hp⟩:=hrel;have hsz:=hb.size;have hla:acc.length≤10:=by have:=congrArg List.length hp;rw [List.length_append] at this;omega
  have HP:=Lib.hid hp;clear hp;by_cases hk:k<128
  · go_wp2_with (at_builtin;refine wpList_app1 rfl _ _ 49 rfl w.heap.size 5 i0 _ 1 Tryz.underlying49 hi hz0 hz1 hz2 rfl rfl hown rfl rfl (by simp only [maxLen];omega) (by omega) hsz ?_;intro A' c' w1 hown1 hg1)
    go_ret;obtain ⟨h1,h2⟩:=put_low HP.out hk;rw [h1,h2];exact ⟨_,_,rfl,hown1,hb.trans hg1.below⟩
  · go_wp2_with (at_builtin;refine wpList_app1 rfl _ _ 49 rfl w.heap.size 5 i0 _ 1 Tryz.underlying49 hi hz0 hz1 hz2 rfl rfl hown rfl rfl (by simp only [maxLen];omega) (by omega) hsz ?_;intro A' c' w1 hown1 hg1)
    go_roundw
    case rel=>
     obtain ⟨h1,h2⟩:=put_high HP.out hk;refine ⟨k / 128,acc++[UInt8.ofNat (k % 128+128)],A',c',?_,?_,?_,hb.trans hg1.below,h1⟩
     · go_num
     · simp
     · rw [h2,List.length_append];exact hown1
    case measure=>simp [intOf];omega
end Go.Proofs.YtfhpolidjmbjoaaGreat
