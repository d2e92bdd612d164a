/- A part of the proof. -/
import Derived.Test.YtfhpolidjmbjoaaGreatSegBody
set_option maxHeartbeats 4000000
set_option maxRecDepth 100000
namespace Go.Proofs.YtfhpolidjmbjoaaGreat
open Go.RowKit
theorem i64_or_nat (a b:Nat) (ha:a<9223372036854775808) (hb:b<9223372036854775808):bits .or .i64 (a:Int) (b:Int)=((a ||| b:Nat):Int):=by
 have hx:a ||| b<2 ^ 63:=Nat.or_lt_two_pow (by omega) (by omega)
 show IntKind.i64.wrap ((BitVec.ofInt 64 (a:Int) ||| BitVec.ofInt 64 (b:Int)).toNat:Int)=_
 rw [BitVec.toNat_or,ofInt_u64 a (by omega),ofInt_u64 b (by omega),IntKind.wrap_i64]
 omega
theorem or_ne0 {a b:Int} (ha:0≤a) (ha2:a≤9223372036854775807) (hb:0≤b) (hb2:b≤9223372036854775807):(bits .or .i64 a b != 0)=decide (a≠0∨b≠0):=by
 obtain ⟨A,rfl⟩:=Int.eq_ofNat_of_zero_le ha;obtain ⟨B,rfl⟩:=Int.eq_ofNat_of_zero_le hb;rw [i64_or_nat A B (by omega) (by omega)]
 by_cases h:A=0∧B=0
 · obtain ⟨rfl,rfl⟩:=h;rfl
 · have:A ||| B≠0:=fun h'=>h (Nat.or_eq_zero_iff.1 h')
   have h1:(((A ||| B:Nat):Int) != 0)=true:=by simp;exact fun a b=>h ⟨a,b⟩
   rw [h1];symm
   simp;omega
theorem min_any (v:Value) (l:List Int) (K:Nat→Prop) (w:World) (hv:IsL Rp.int w K v l) (hl:1≤l.length) :
 Calls Tryz.prog 109 #[v] w fun e w'=>∃ m:Int,e=.returned (.int .i64 m)∧(m<0↔∃ n∈l,n<0)∧w'=w:=by
 have hv0:=hv;obtain ⟨A,c,rfl,hlc,hcc⟩:=hv.form;have hl47:=hv.len;obtain ⟨ad0,es0,hA,hK0,he0,hc0⟩:=hv0.at_ (i:=0) (x:=l[0]) (List.getElem?_eq_getElem (by omega))
 obtain ⟨rfl,hr0⟩:=he0;have hcell0:=hc0 0 _ rfl;rw [addr0,Nat.zero_mul,addr0] at hcell0;have h1:((l.length:Int)<1)=False:=by simp;omega
 subst hA;go_enter Tryz.func109,Tryz.ntmps109
 go_wp2;go_loopw [3,4] (fun x i wr=>∃ (j:Nat) (m:Int),x=.int .i64 m∧i=.int .i64 j∧1≤j∧j≤l.length∧(m<0↔∃ n∈l.take j,n<0)∧wr=w) (fun _ i _=>l.length-(intOf i).toNat)
 case atStart=>
  refine ⟨1,l[0],rfl,rfl,by omega,by omega,?_,rfl⟩
  have:l.take 1=[l[0]]:=by
   match l,hl with
   | a::r,_=>rfl
  rw [this];simp
 case round=>
  obtain ⟨j,m,rfl,rfl,hj1,hj,hm,rfl⟩:=hrel;have HM:=Lib.hid hm;clear hm;by_cases hlt:j<l.length
  · obtain ⟨ad,es,hA,hK1,he1,hc1⟩:=hv0.at_ (i:=j) (x:=l[j]) (List.getElem?_eq_getElem hlt)
    obtain ⟨rfl,hr1⟩:=he1;injection hA with hA';subst hA';have hcell:=hc1 0 _ rfl;have hsz1:Rp.int.size=1:=rfl;rw [addr0,hsz1,Nat.mul_one] at hcell;have htk:l.take (j+1)=l.take j++[l[j]]:=by rw [List.take_add_one,List.getElem?_eq_getElem hlt];rfl
    have HTK:=Lib.hid htk;clear htk hc1 hc0 hsz1;generalize hy:l[j]=y at *;clear hy;go_wp2;refine ⟨⟨j+1,min m y,rfl,by go_num,by omega,by omega,?_,trivial⟩,by simp [intOf];omega⟩
    rw [HTK.out];have h:=HM.out;have h2:min m y<0↔m<0∨y<0:=by omega
    rw [h2,h];simp only [List.mem_append,List.mem_singleton,or_and_right,exists_or,exists_eq_left]
  · obtain rfl:j=l.length:=by omega
    go_wp2;go_ret;have:=HM.out;rw [List.take_length] at this;exact ⟨m,rfl,this,rfl⟩
def rcV (r:Rc) (vd:Value):Value:=.agg #[.int .i64 r.kind,.int .i64 r.lba,.int .i64 r.n,.int .i64 r.ver,.int .i64 r.zone,.int .i64 r.off,vd]
theorem check_any (r:Rc) (A:Option Addr) (c:Nat) (w:World) (hr:OkRc r) (hl47:r.data.length≤140737488355328) :
 Calls Tryz.prog 82 #[rcV r (.slice A r.data.length c)] w fun e w'=>e=.returned (.int .i64 (checkL r))∧Below w.heap.size w w':=by
 obtain ⟨kind,lba,n,ver,zone,off,data⟩:=r;have hI:I63 [lba,n,ver,zone,off]:=fun x hx=>hr x (List.mem_cons_of_mem _ hx)
 have hk:=hr kind (List.mem_cons_self ..);have hb1:=hI lba (by simp)
 have hb2:=hI n (by simp)
 have hb4:=hI zone (by simp)
 have hb5:=hI off (by simp)
 clear hr;unfold rcV;simp only at hl47 ⊢;have hmin:∀ W:World,Calls Tryz.prog 109 #[.slice (some ⟨W.heap.size,0,none⟩) 5 5] (W.alloc (.cells #[.int .i64 lba,.int .i64 n,.int .i64 ver,.int .i64 zone,.int .i64 off] 3)) fun e w'=>∃ m:Int,e=.returned (.int .i64 m)∧(m<0↔(lba<0∨n<0∨ver<0∨zone<0∨off<0))∧w'=W.alloc (.cells #[.int .i64 lba,.int .i64 n,.int .i64 ver,.int .i64 zone,.int .i64 off] 3):=fun W=>
  (min_any _ _ _ _ (isL_ints (w:=W) (n:=5) hI 3 rfl rfl (by omega)) (by simp)).mono fun e w' ⟨m,h1,h2,h3⟩=>⟨m,h1,by rw [h2];simp,h3⟩
 replace hmin:=hmin (w.alloc (.cells #[.int .i64 kind,.int .i64 lba,.int .i64 n,.int .i64 ver,.int .i64 zone,.int .i64 off,.slice A data.length c] 106));simp only [World.size_alloc] at hmin;have hmin':=fun (_:Unit)=>hmin
 have HMIN:=Lib.hid hmin';clear hmin hmin' hI;have hbl:Below w.heap.size w ((w.alloc (.cells #[.int .i64 kind,.int .i64 lba,.int .i64 n,.int .i64 ver,.int .i64 zone,.int .i64 off,.slice A data.length c] 106)).alloc (.cells #[.int .i64 lba,.int .i64 n,.int .i64 ver,.int .i64 zone,.int .i64 off] 3)):=((Below.refl _ _).alloc (Nat.le_refl _) _).alloc (by simp) _
 by_cases h1:kind<1∨5<kind
 · have e1:(kind == 1)=false:=by simp;omega
   have e2:(kind == 2)=false:=by simp;omega
   have e3:(kind == 3)=false:=by simp;omega
   have e4:(kind == 4)=false:=by simp;omega
   have e5:(kind == 5)=false:=by simp;omega
   have hcv:checkL ⟨kind,lba,n,ver,zone,off,data⟩=1:=by unfold checkL;dsimp only;rw [if_pos h1]
   rw [hcv];clear hcv;go_enter Tryz.func82,Tryz.ntmps82
   go_wp2;go_ret;exact ⟨rfl,hbl⟩
 have hkk:kind=1∨kind=2∨kind=3∨kind=4∨kind=5:=by omega
 clear h1 hk;by_cases hneg:lba<0∨n<0∨ver<0∨zone<0∨off<0
 · rcases hkk with rfl | rfl | rfl | rfl | rfl
   · have hcv:checkL ⟨1,lba,n,ver,zone,off,data⟩=1:=by unfold checkL;dsimp only;(repeat' split) <;> first | rfl | (exfalso;omega)
     rw [hcv];clear hcv;go_enter Tryz.func82,Tryz.ntmps82
     go_wp2_with (go_at_call 109;refine (HMIN.out ()).mono ?_;rintro e w1 ⟨m,rfl,hm,rfl⟩;have hm1:m<0:=hm.2 hneg;clear hm);go_ret;exact ⟨rfl,hbl⟩
   · have hcv:checkL ⟨2,lba,n,ver,zone,off,data⟩=1:=by unfold checkL;dsimp only;(repeat' split) <;> first | rfl | (exfalso;omega)
     rw [hcv];clear hcv;go_enter Tryz.func82,Tryz.ntmps82
     go_wp2_with (go_at_call 109;refine (HMIN.out ()).mono ?_;rintro e w1 ⟨m,rfl,hm,rfl⟩;have hm1:m<0:=hm.2 hneg;clear hm);go_ret;exact ⟨rfl,hbl⟩
   · have hcv:checkL ⟨3,lba,n,ver,zone,off,data⟩=1:=by unfold checkL;dsimp only;(repeat' split) <;> first | rfl | (exfalso;omega)
     rw [hcv];clear hcv;go_enter Tryz.func82,Tryz.ntmps82
     go_wp2_with (go_at_call 109;refine (HMIN.out ()).mono ?_;rintro e w1 ⟨m,rfl,hm,rfl⟩;have hm1:m<0:=hm.2 hneg;clear hm);go_ret;exact ⟨rfl,hbl⟩
   · have hcv:checkL ⟨4,lba,n,ver,zone,off,data⟩=1:=by unfold checkL;dsimp only;(repeat' split) <;> first | rfl | (exfalso;omega)
     rw [hcv];clear hcv;go_enter Tryz.func82,Tryz.ntmps82
     go_wp2_with (go_at_call 109;refine (HMIN.out ()).mono ?_;rintro e w1 ⟨m,rfl,hm,rfl⟩;have hm1:m<0:=hm.2 hneg;clear hm);go_ret;exact ⟨rfl,hbl⟩
   · have hcv:checkL ⟨5,lba,n,ver,zone,off,data⟩=1:=by unfold checkL;dsimp only;(repeat' split) <;> first | rfl | (exfalso;omega)
     rw [hcv];clear hcv;go_enter Tryz.func82,Tryz.ntmps82
     go_wp2_with (go_at_call 109;refine (HMIN.out ()).mono ?_;rintro e w1 ⟨m,rfl,hm,rfl⟩;have hm1:m<0:=hm.2 hneg;clear hm);go_ret;exact ⟨rfl,hbl⟩
 have hz0:0≤zone:=by omega
 have ho0:0≤off:=by omega
 have hl0:0≤lba:=by omega
 have hn0:0≤n:=by omega
 have hor:=or_ne0 hz0 hb4.2 ho0 hb5.2;have hor2:=or_ne0 hl0 hb1.2 hn0 hb2.2;rcases hkk with rfl | rfl | rfl | rfl | rfl
 · by_cases hzo:zone≠0∨off≠0
   · rw [decide_eq_true hzo] at hor
     have hcv:checkL ⟨1,lba,n,ver,zone,off,data⟩=1:=by unfold checkL;dsimp only;(repeat' split) <;> first | rfl | (exfalso;omega)
     rw [hcv];clear hcv;go_enter Tryz.func82,Tryz.ntmps82
     go_wp2_with (go_at_call 109;refine (HMIN.out ()).mono ?_;rintro e w1 ⟨m,rfl,hm,rfl⟩;have hm1:¬m<0:=fun h=>hneg (hm.1 h);clear hm)
     go_ret;exact ⟨rfl,hbl⟩
   rw [decide_eq_false hzo] at hor;by_cases hn1:n<1
   · have hcv:checkL ⟨1,lba,n,ver,zone,off,data⟩=1:=by unfold checkL;dsimp only;(repeat' split) <;> first | rfl | (exfalso;omega)
     rw [hcv];clear hcv;go_enter Tryz.func82,Tryz.ntmps82
     go_wp2_with (go_at_call 109;refine (HMIN.out ()).mono ?_;rintro e w1 ⟨m,rfl,hm,rfl⟩;have hm1:¬m<0:=fun h=>hneg (hm.1 h);clear hm)
     go_ret;exact ⟨rfl,hbl⟩
   by_cases hn2:1099511627776<n
   · have hcv:checkL ⟨1,lba,n,ver,zone,off,data⟩=1:=by unfold checkL;dsimp only;(repeat' split) <;> first | rfl | (exfalso;omega)
     rw [hcv];clear hcv;go_enter Tryz.func82,Tryz.ntmps82
     go_wp2_with (go_at_call 109;refine (HMIN.out ()).mono ?_;rintro e w1 ⟨m,rfl,hm,rfl⟩;have hm1:¬m<0:=fun h=>hneg (hm.1 h);clear hm)
     go_ret;exact ⟨rfl,hbl⟩
   by_cases hn3:1099511627776-n<lba
   · have hcv:checkL ⟨1,lba,n,ver,zone,off,data⟩=1:=by unfold checkL;dsimp only;(repeat' split) <;> first | rfl | (exfalso;omega)
     rw [hcv];clear hcv;go_enter Tryz.func82,Tryz.ntmps82
     go_wp2_with (go_at_call 109;refine (HMIN.out ()).mono ?_;rintro e w1 ⟨m,rfl,hm,rfl⟩;have hm1:¬m<0:=fun h=>hneg (hm.1 h);clear hm)
     go_ret;exact ⟨rfl,hbl⟩
   by_cases hn4:256<n
   · have hcv:checkL ⟨1,lba,n,ver,zone,off,data⟩=1:=by unfold checkL;dsimp only;(repeat' split) <;> first | rfl | (exfalso;omega)
     rw [hcv];clear hcv;go_enter Tryz.func82,Tryz.ntmps82
     go_wp2_with (go_at_call 109;refine (HMIN.out ()).mono ?_;rintro e w1 ⟨m,rfl,hm,rfl⟩;have hm1:¬m<0:=fun h=>hneg (hm.1 h);clear hm)
     go_ret;exact ⟨rfl,hbl⟩
   by_cases hd:(data.length:Int)≠n*16
   · have hd':((data.length:Int) != n*16)=true:=by simpa using hd
     have hcv:checkL ⟨1,lba,n,ver,zone,off,data⟩=1:=by unfold checkL;dsimp only;(repeat' split) <;> first | rfl | (exfalso;omega)
     rw [hcv];clear hcv;go_enter Tryz.func82,Tryz.ntmps82
     go_wp2_with (go_at_call 109;refine (HMIN.out ()).mono ?_;rintro e w1 ⟨m,rfl,hm,rfl⟩;have hm1:¬m<0:=fun h=>hneg (hm.1 h);clear hm)
     go_ret;exact ⟨rfl,hbl⟩
   have hd':((data.length:Int) != n*16)=false:=by simpa using hd
   have hcv:checkL ⟨1,lba,n,ver,zone,off,data⟩=0:=by unfold checkL;dsimp only;(repeat' split) <;> first | rfl | (exfalso;omega)
   rw [hcv];clear hcv;go_enter Tryz.func82,Tryz.ntmps82
   go_wp2_with (go_at_call 109;refine (HMIN.out ()).mono ?_;rintro e w1 ⟨m,rfl,hm,rfl⟩;have hm1:¬m<0:=fun h=>hneg (hm.1 h);clear hm)
   go_ret;exact ⟨rfl,hbl⟩
 · by_cases hzo:zone≠0∨off≠0
   · rw [decide_eq_true hzo] at hor
     have hcv:checkL ⟨2,lba,n,ver,zone,off,data⟩=1:=by unfold checkL;dsimp only;(repeat' split) <;> first | rfl | (exfalso;omega)
     rw [hcv];clear hcv;go_enter Tryz.func82,Tryz.ntmps82
     go_wp2_with (go_at_call 109;refine (HMIN.out ()).mono ?_;rintro e w1 ⟨m,rfl,hm,rfl⟩;have hm1:¬m<0:=fun h=>hneg (hm.1 h);clear hm)
     go_ret;exact ⟨rfl,hbl⟩
   rw [decide_eq_false hzo] at hor;by_cases hn1:n<1
   · have hcv:checkL ⟨2,lba,n,ver,zone,off,data⟩=1:=by unfold checkL;dsimp only;(repeat' split) <;> first | rfl | (exfalso;omega)
     rw [hcv];clear hcv;go_enter Tryz.func82,Tryz.ntmps82
     go_wp2_with (go_at_call 109;refine (HMIN.out ()).mono ?_;rintro e w1 ⟨m,rfl,hm,rfl⟩;have hm1:¬m<0:=fun h=>hneg (hm.1 h);clear hm)
     go_ret;exact ⟨rfl,hbl⟩
   by_cases hn2:1099511627776<n
   · have hcv:checkL ⟨2,lba,n,ver,zone,off,data⟩=1:=by unfold checkL;dsimp only;(repeat' split) <;> first | rfl | (exfalso;omega)
     rw [hcv];clear hcv;go_enter Tryz.func82,Tryz.ntmps82
     go_wp2_with (go_at_call 109;refine (HMIN.out ()).mono ?_;rintro e w1 ⟨m,rfl,hm,rfl⟩;have hm1:¬m<0:=fun h=>hneg (hm.1 h);clear hm)
     go_ret;exact ⟨rfl,hbl⟩
   by_cases hn3:1099511627776-n<lba
   · have hcv:checkL ⟨2,lba,n,ver,zone,off,data⟩=1:=by unfold checkL;dsimp only;(repeat' split) <;> first | rfl | (exfalso;omega)
     rw [hcv];clear hcv;go_enter Tryz.func82,Tryz.ntmps82
     go_wp2_with (go_at_call 109;refine (HMIN.out ()).mono ?_;rintro e w1 ⟨m,rfl,hm,rfl⟩;have hm1:¬m<0:=fun h=>hneg (hm.1 h);clear hm)
     go_ret;exact ⟨rfl,hbl⟩
   by_cases hd:0<(data.length:Int)
   · have hcv:checkL ⟨2,lba,n,ver,zone,off,data⟩=1:=by unfold checkL;dsimp only;(repeat' split) <;> first | rfl | (exfalso;omega)
     rw [hcv];clear hcv;go_enter Tryz.func82,Tryz.ntmps82
     go_wp2_with (go_at_call 109;refine (HMIN.out ()).mono ?_;rintro e w1 ⟨m,rfl,hm,rfl⟩;have hm1:¬m<0:=fun h=>hneg (hm.1 h);clear hm)
     go_ret;exact ⟨rfl,hbl⟩
   have hcv:checkL ⟨2,lba,n,ver,zone,off,data⟩=0:=by unfold checkL;dsimp only;(repeat' split) <;> first | rfl | (exfalso;omega)
   rw [hcv];clear hcv;go_enter Tryz.func82,Tryz.ntmps82
   go_wp2_with (go_at_call 109;refine (HMIN.out ()).mono ?_;rintro e w1 ⟨m,rfl,hm,rfl⟩;have hm1:¬m<0:=fun h=>hneg (hm.1 h);clear hm)
   go_ret;exact ⟨rfl,hbl⟩
 · by_cases hn1:n<1
   · have hcv:checkL ⟨3,lba,n,ver,zone,off,data⟩=1:=by unfold checkL;dsimp only;(repeat' split) <;> first | rfl | (exfalso;omega)
     rw [hcv];clear hcv;go_enter Tryz.func82,Tryz.ntmps82
     go_wp2_with (go_at_call 109;refine (HMIN.out ()).mono ?_;rintro e w1 ⟨m,rfl,hm,rfl⟩;have hm1:¬m<0:=fun h=>hneg (hm.1 h);clear hm)
     go_ret;exact ⟨rfl,hbl⟩
   by_cases hn2:1099511627776<n
   · have hcv:checkL ⟨3,lba,n,ver,zone,off,data⟩=1:=by unfold checkL;dsimp only;(repeat' split) <;> first | rfl | (exfalso;omega)
     rw [hcv];clear hcv;go_enter Tryz.func82,Tryz.ntmps82
     go_wp2_with (go_at_call 109;refine (HMIN.out ()).mono ?_;rintro e w1 ⟨m,rfl,hm,rfl⟩;have hm1:¬m<0:=fun h=>hneg (hm.1 h);clear hm)
     go_ret;exact ⟨rfl,hbl⟩
   by_cases hn3:1099511627776-n<lba
   · have hcv:checkL ⟨3,lba,n,ver,zone,off,data⟩=1:=by unfold checkL;dsimp only;(repeat' split) <;> first | rfl | (exfalso;omega)
     rw [hcv];clear hcv;go_enter Tryz.func82,Tryz.ntmps82
     go_wp2_with (go_at_call 109;refine (HMIN.out ()).mono ?_;rintro e w1 ⟨m,rfl,hm,rfl⟩;have hm1:¬m<0:=fun h=>hneg (hm.1 h);clear hm)
     go_ret;exact ⟨rfl,hbl⟩
   by_cases hd:0<(data.length:Int)
   · have hcv:checkL ⟨3,lba,n,ver,zone,off,data⟩=1:=by unfold checkL;dsimp only;(repeat' split) <;> first | rfl | (exfalso;omega)
     rw [hcv];clear hcv;go_enter Tryz.func82,Tryz.ntmps82
     go_wp2_with (go_at_call 109;refine (HMIN.out ()).mono ?_;rintro e w1 ⟨m,rfl,hm,rfl⟩;have hm1:¬m<0:=fun h=>hneg (hm.1 h);clear hm)
     go_ret;exact ⟨rfl,hbl⟩
   have hcv:checkL ⟨3,lba,n,ver,zone,off,data⟩=0:=by unfold checkL;dsimp only;(repeat' split) <;> first | rfl | (exfalso;omega)
   rw [hcv];clear hcv;go_enter Tryz.func82,Tryz.ntmps82
   go_wp2_with (go_at_call 109;refine (HMIN.out ()).mono ?_;rintro e w1 ⟨m,rfl,hm,rfl⟩;have hm1:¬m<0:=fun h=>hneg (hm.1 h);clear hm)
   go_ret;exact ⟨rfl,hbl⟩
 · by_cases hzo:zone≠0∨off≠0
   · rw [decide_eq_true hzo] at hor
     have hcv:checkL ⟨4,lba,n,ver,zone,off,data⟩=1:=by unfold checkL;dsimp only;(repeat' split) <;> first | rfl | (exfalso;omega)
     rw [hcv];clear hcv;go_enter Tryz.func82,Tryz.ntmps82
     go_wp2_with (go_at_call 109;refine (HMIN.out ()).mono ?_;rintro e w1 ⟨m,rfl,hm,rfl⟩;have hm1:¬m<0:=fun h=>hneg (hm.1 h);clear hm)
     go_ret;exact ⟨rfl,hbl⟩
   rw [decide_eq_false hzo] at hor;by_cases hln:lba≠0∨n≠0
   · rw [decide_eq_true hln] at hor2
     have hcv:checkL ⟨4,lba,n,ver,zone,off,data⟩=1:=by unfold checkL;dsimp only;(repeat' split) <;> first | rfl | (exfalso;omega)
     rw [hcv];clear hcv;go_enter Tryz.func82,Tryz.ntmps82
     go_wp2_with (go_at_call 109;refine (HMIN.out ()).mono ?_;rintro e w1 ⟨m,rfl,hm,rfl⟩;have hm1:¬m<0:=fun h=>hneg (hm.1 h);clear hm)
     go_ret;exact ⟨rfl,hbl⟩
   rw [decide_eq_false hln] at hor2;by_cases hd:32768<(data.length:Int)
   · have hcv:checkL ⟨4,lba,n,ver,zone,off,data⟩=2:=by unfold checkL;dsimp only;(repeat' split) <;> first | rfl | (exfalso;omega)
     rw [hcv];clear hcv;go_enter Tryz.func82,Tryz.ntmps82
     go_wp2_with (go_at_call 109;refine (HMIN.out ()).mono ?_;rintro e w1 ⟨m,rfl,hm,rfl⟩;have hm1:¬m<0:=fun h=>hneg (hm.1 h);clear hm)
     go_ret;exact ⟨rfl,hbl⟩
   have hcv:checkL ⟨4,lba,n,ver,zone,off,data⟩=0:=by unfold checkL;dsimp only;(repeat' split) <;> first | rfl | (exfalso;omega)
   rw [hcv];clear hcv;go_enter Tryz.func82,Tryz.ntmps82
   go_wp2_with (go_at_call 109;refine (HMIN.out ()).mono ?_;rintro e w1 ⟨m,rfl,hm,rfl⟩;have hm1:¬m<0:=fun h=>hneg (hm.1 h);clear hm)
   go_ret;exact ⟨rfl,hbl⟩
 · by_cases hn1:n<1
   · have hcv:checkL ⟨5,lba,n,ver,zone,off,data⟩=1:=by unfold checkL;dsimp only;(repeat' split) <;> first | rfl | (exfalso;omega)
     rw [hcv];clear hcv;go_enter Tryz.func82,Tryz.ntmps82
     go_wp2_with (go_at_call 109;refine (HMIN.out ()).mono ?_;rintro e w1 ⟨m,rfl,hm,rfl⟩;have hm1:¬m<0:=fun h=>hneg (hm.1 h);clear hm)
     go_ret;exact ⟨rfl,hbl⟩
   by_cases hn2:1099511627776<n
   · have hcv:checkL ⟨5,lba,n,ver,zone,off,data⟩=1:=by unfold checkL;dsimp only;(repeat' split) <;> first | rfl | (exfalso;omega)
     rw [hcv];clear hcv;go_enter Tryz.func82,Tryz.ntmps82
     go_wp2_with (go_at_call 109;refine (HMIN.out ()).mono ?_;rintro e w1 ⟨m,rfl,hm,rfl⟩;have hm1:¬m<0:=fun h=>hneg (hm.1 h);clear hm)
     go_ret;exact ⟨rfl,hbl⟩
   by_cases hn3:1099511627776-n<lba
   · have hcv:checkL ⟨5,lba,n,ver,zone,off,data⟩=1:=by unfold checkL;dsimp only;(repeat' split) <;> first | rfl | (exfalso;omega)
     rw [hcv];clear hcv;go_enter Tryz.func82,Tryz.ntmps82
     go_wp2_with (go_at_call 109;refine (HMIN.out ()).mono ?_;rintro e w1 ⟨m,rfl,hm,rfl⟩;have hm1:¬m<0:=fun h=>hneg (hm.1 h);clear hm)
     go_ret;exact ⟨rfl,hbl⟩
   by_cases hn4:256<n
   · have hcv:checkL ⟨5,lba,n,ver,zone,off,data⟩=1:=by unfold checkL;dsimp only;(repeat' split) <;> first | rfl | (exfalso;omega)
     rw [hcv];clear hcv;go_enter Tryz.func82,Tryz.ntmps82
     go_wp2_with (go_at_call 109;refine (HMIN.out ()).mono ?_;rintro e w1 ⟨m,rfl,hm,rfl⟩;have hm1:¬m<0:=fun h=>hneg (hm.1 h);clear hm)
     go_ret;exact ⟨rfl,hbl⟩
   by_cases hd:(data.length:Int)≠n*16
   · have hd':((data.length:Int) != n*16)=true:=by simpa using hd
     have hcv:checkL ⟨5,lba,n,ver,zone,off,data⟩=1:=by unfold checkL;dsimp only;(repeat' split) <;> first | rfl | (exfalso;omega)
     rw [hcv];clear hcv;go_enter Tryz.func82,Tryz.ntmps82
     go_wp2_with (go_at_call 109;refine (HMIN.out ()).mono ?_;rintro e w1 ⟨m,rfl,hm,rfl⟩;have hm1:¬m<0:=fun h=>hneg (hm.1 h);clear hm)
     go_ret;exact ⟨rfl,hbl⟩
   have hd':((data.length:Int) != n*16)=false:=by simpa using hd
   have hcv:checkL ⟨5,lba,n,ver,zone,off,data⟩=0:=by unfold checkL;dsimp only;(repeat' split) <;> first | rfl | (exfalso;omega)
   rw [hcv];clear hcv;go_enter Tryz.func82,Tryz.ntmps82
   go_wp2_with (go_at_call 109;refine (HMIN.out ()).mono ?_;rintro e w1 ⟨m,rfl,hm,rfl⟩;have hm1:¬m<0:=fun h=>hneg (hm.1 h);clear hm)
   go_ret;exact ⟨rfl,hbl⟩
end Go.Proofs.YtfhpolidjmbjoaaGreat
