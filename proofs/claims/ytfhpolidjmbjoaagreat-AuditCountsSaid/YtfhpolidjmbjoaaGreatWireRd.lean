/- A part of the proof. -/
import Derived.Test.YtfhpolidjmbjoaaGreatWirePlain
set_option maxHeartbeats 400000
set_option maxRecDepth 100000
namespace Go.Proofs.YtfhpolidjmbjoaaGreat
open Go.RowKit
theorem key8 (a m:Nat) (ha:a≤127) (hm:m≤1):a*72057594037927936+m*9223372036854775808<18446744073709551616:=by omega
theorem key9 (m:Nat) (h:m*9223372036854775808<18446744073709551616):m≤1:=by omega
theorem takeG_inv (b:List UInt8):∀ (k n v k':Nat),k≤9→takeG b k n=(v,k',0)→∃ m,v=n+m*128 ^ k∧k'=k+(putL m).length∧(∃ r,b=putL m++r)∧(k=0∨0<m)∧m*128 ^ k<18446744073709551616:=by
 have h9:(128:Nat) ^ 9=9223372036854775808:=by decide
 have h8:(128:Nat) ^ 8=72057594037927936:=by decide
 induction b with
 | nil=>intro k n v k' _ h;simp [takeG] at h
 | cons c b ih=>
   intro k n v k' hk h;have hc:=UInt8.toNat_lt c;unfold takeG at h;split at h
   · simp at h
   · rename_i h1
     split at h
     · rename_i h2
       split at h
       · simp at h
       · rename_i h3
         simp only [Prod.mk.injEq,and_true] at h;obtain ⟨rfl,rfl⟩:=h;refine ⟨c.toNat,rfl,by rw [putL_lt h2];rfl,⟨b,by rw [putL_lt h2];simp⟩,by omega,?_⟩
         rcases Nat.lt_or_ge k 9 with h4 | h4
         · have:128 ^ k≤128 ^ 8:=Nat.pow_le_pow_right (by omega) (by omega)
           have h5:c.toNat*128 ^ k≤127*128 ^ 8:=Nat.mul_le_mul (by omega) this
           rw [h8] at h5;omega
         · obtain rfl:k=9:=by omega
           have:c.toNat≤1:=by omega
           have h5:c.toNat*128 ^ 9≤1*128 ^ 9:=Nat.mul_le_mul_right _ this;rw [h9] at h5 ⊢;omega
     · rename_i h2
       have hk8:k≠9:=by rintro rfl;omega
       obtain ⟨m,rfl,rfl,⟨r,hr⟩,h4,h5⟩:=ih (k+1) _ v k' (by omega) h
       have hm:0<m:=by omega
       have e1:(c.toNat-128+128*m) % 128=c.toNat-128:=by omega
       have e2:(c.toNat-128+128*m) / 128=m:=by omega
       have hp:putL (c.toNat-128+128*m)=c::putL m:=by
        rw [putL_ge (by omega),e1,e2,show c.toNat-128+128=c.toNat by omega]
        simp
       have e3:(c.toNat-128+128*m)*128 ^ k=(c.toNat-128)*128 ^ k+m*128 ^ (k+1):=by
        rw [Nat.add_mul,Nat.pow_succ,Nat.mul_comm (128 ^ k) 128,←Nat.mul_assoc m,Nat.mul_comm m 128]
       refine ⟨c.toNat-128+128*m,by rw [e3];omega,by rw [hp,List.length_cons];omega,⟨r,by rw [hp,hr];rfl⟩,by omega,?_⟩
       rw [e3];have e4:m*128 ^ (k+1)=128*m*128 ^ k:=by rw [Nat.pow_succ,Nat.mul_comm (128 ^ k) 128,←Nat.mul_assoc,Nat.mul_comm m 128]
       rcases Nat.lt_or_ge (k+1) 9 with h6 | h6
       · have h7:128 ^ k≤128 ^ 7:=Nat.pow_le_pow_right (by omega) (by omega)
         have h8':(128:Nat) ^ 7=562949953421312:=by decide
         rw [h8'] at h7;have h10:(c.toNat-128)*128 ^ k≤127*128 ^ k:=Nat.mul_le_mul_right _ (by omega)
         have h11:(18446744073709551616:Nat)=32768*128 ^ 7:=by rw [h8']
         have h12:∃ q,(18446744073709551616:Nat)=128*q*128 ^ k:=by
          refine ⟨256*128 ^ (7-k),?_⟩;have:128 ^ (7-k)*128 ^ k=128 ^ 7:=by rw [←Nat.pow_add];congr 1;omega
          rw [h11,show 128*(256*128 ^ (7-k))*128 ^ k=32768*(128 ^ (7-k)*128 ^ k) by
           rw [←Nat.mul_assoc 128 256];rw [Nat.mul_assoc (128*256)],this]
         obtain ⟨q,hq⟩:=h12;have h50:=h5;rw [e4] at h5;have h51:128*m*128 ^ k<128*q*128 ^ k:=Nat.lt_of_lt_of_eq h5 hq;clear h5 h50;have h5:=h51;have h13:128*m<128*q:=Nat.lt_of_mul_lt_mul_right h5;have h14:(128*m+128)*128 ^ k≤128*q*128 ^ k:=Nat.mul_le_mul_right _ (by omega)
         rw [Nat.add_mul] at h14;have h16:=hq ▸ h14;clear h14 hq h51 h5 h11;have hpos:0<128 ^ k:=Nat.pos_of_ne_zero (by simp)
         rw [e4];omega
       · obtain rfl:k=8:=by omega
         have e9:(128:Nat) ^ (8+1)=9223372036854775808:=h9;rw [e9] at h5 ⊢;rw [h8];exact key8 _ _ (by omega) (key9 _ h5)
theorem takeL_inv {b:List UInt8} (h:(takeL b).2.2=0):(takeL b).1<18446744073709551616∧(takeL b).2.1=(putL (takeL b).1).length∧∃ r,b=putL (takeL b).1++r:=by
 obtain ⟨v,k',e,hv⟩:∃ v k' e,takeL b=(v,k',e):=⟨_,_,_,rfl⟩;rw [hv] at h ⊢;simp only at h ⊢;subst h;obtain ⟨m,h1,h2,h3,_,h5⟩:=takeG_inv b 0 0 v k' (by omega) hv
 simp only [Nat.pow_zero,Nat.mul_one,Nat.zero_add] at h1 h2 h5;subst h1;exact ⟨h5,h2,h3⟩
theorem takeL_le {b:List UInt8} (h:(takeL b).2.2=0):0<(takeL b).2.1∧(takeL b).2.1≤b.length∧(takeL b).2.1≤10:=by
 obtain ⟨h1,h2,r,h3⟩:=takeL_inv h;have:=congrArg List.length h3;rw [List.length_append] at this;have h4:=putL_pos (takeL b).1;have h5:=putL_len10 h1;omega
abbrev Rs:=Nat × Int
def rnum (l:List UInt8) (s:Rs):Int × Rs:=
 if s.2≠0 then (0,s) else if (takeL (l.drop s.1)).2.2≠0 then (0,(s.1,(takeL (l.drop s.1)).2.2))
 else if 9223372036854775808≤(takeL (l.drop s.1)).1 then (0,(s.1,21)) else ((takeL (l.drop s.1)).1,(s.1+(takeL (l.drop s.1)).2.1,0))
def rmost (l:List UInt8) (m:Int) (s:Rs):Int × Rs:=
 if (rnum l s).2.2=0∧m<(rnum l s).1 then ((rnum l s).1,((rnum l s).2.1,2)) else rnum l s
def rnums (l:List UInt8):Nat→List Int→Rs→List Int × Rs
 | 0,acc,s=>(acc,s)
 | n+1,acc,s=>if (rnum l s).2.2≠0 then ([],(rnum l s).2) else rnums l n (acc++[(rnum l s).1]) (rnum l s).2
def rvec1 (l:List UInt8) (s:Rs):Int × Rs:=
 if (rmost l 65536 s).2.2=0∧((l.length:Int)-(rmost l 65536 s).2.1<(rmost l 65536 s).1) then ((rmost l 65536 s).1,((rmost l 65536 s).2.1,20)) else rmost l 65536 s
def rvec (l:List UInt8) (s:Rs):List UInt8 × Rs:=
 if (rvec1 l s).2.2≠0 then ([],(rvec1 l s).2) else ((l.drop (rvec1 l s).2.1).take (rvec1 l s).1.toNat,((rvec1 l s).2.1+(rvec1 l s).1.toNat,0))
theorem rnum_in {l:List UInt8} {s:Rs} (h:s.1≤l.length):(rnum l s).2.1≤l.length∧s.1≤(rnum l s).2.1∧0≤(rnum l s).1∧(rnum l s).1≤9223372036854775807:=by
 unfold rnum;split
 · exact ⟨h,Nat.le_refl _,by simp⟩
 · split
   · exact ⟨h,Nat.le_refl _,by simp⟩
   · split
     · exact ⟨h,Nat.le_refl _,by simp⟩
     · rename_i h1 h2 h3
       have:=takeL_le (Decidable.not_not.1 h2);rw [List.length_drop] at this;simp only;omega
theorem rmost_in {l:List UInt8} {s:Rs} (m:Int) (h:s.1≤l.length):(rmost l m s).2.1≤l.length∧s.1≤(rmost l m s).2.1∧0≤(rmost l m s).1∧(rmost l m s).1≤9223372036854775807:=by
 unfold rmost;split
 · exact rnum_in h
 · exact rnum_in h
theorem rmost_le {l:List UInt8} {s:Rs} {m:Int} (h:(rmost l m s).2.2=0):(rmost l m s).1≤m:=by
 unfold rmost at h ⊢;split
 · rename_i h1;rw [if_pos h1] at h;simp at h
 · rename_i h1;rw [if_neg h1] at h;omega
theorem rvec1_in {l:List UInt8} {s:Rs} (h:s.1≤l.length):(rvec1 l s).2.1≤l.length∧s.1≤(rvec1 l s).2.1∧0≤(rvec1 l s).1∧(rvec1 l s).1≤9223372036854775807:=by
 unfold rvec1;split
 · exact rmost_in _ h
 · exact rmost_in _ h
theorem rvec1_le {l:List UInt8} {s:Rs} (h:(rvec1 l s).2.2=0):(rvec1 l s).1≤65536∧(rvec1 l s).1≤(l.length:Int)-(rvec1 l s).2.1:=by
 unfold rvec1 at h ⊢;split
 · rename_i h1;rw [if_pos h1] at h;simp at h
 · rename_i h1
   rw [if_neg h1] at h;have:=rmost_le h;omega
theorem take_any (b:List UInt8) (A:Option Addr) (n cap:Nat) (K:Nat→Prop) (hn:b.length=n) (hlb:n≤9223372036854775807) (w:World) (hr:Reads w K 1 A n (cells8 b)) :
 Calls Tryz.prog 176 #[.slice A n cap] w fun e w'=>e=.returned (tup3 (takeL b))∧w=w':=by
 subst hn;go_enter Tryz.func176,Tryz.ntmps176
 go_wp2;go_loop [2,3,4,5] (fun n k e _=>∃ n0 k0:Nat,n=.int .u64 n0∧k=.int .i64 k0∧e=.int .i64 0∧k0≤b.length∧k0<10∧n0<128 ^ k0∧takeG (b.drop k0) k0 n0=takeL b)
  (fun _ k _ _=>10-(intOf k).toNat)
 case atStart=>exact ⟨0,0,rfl,rfl,rfl,by omega,by omega,by simp,rfl⟩
 case round=>
  obtain ⟨n0,k0,rfl,rfl,rfl,hk1,hk2,hn0,hgo⟩:=hrel;have HG:=Lib.hid hgo;clear hgo;have HN:=Lib.hid hn0;clear hn0;by_cases hk:k0<b.length
  · obtain ⟨ad,u,rfl,hbB,hu,hc⟩:=hr.at_ hk
    simp only [cells8,List.getElem?_map,List.getElem?_eq_getElem hk,Option.map_some,Option.some.injEq] at hu;subst hu;unfold B8 at hc;have hc2:(b[k0].toNat)<256:=UInt8.toNat_lt _;generalize hcc:b[k0].toNat=c at hc hc2;have HC:=Lib.hid hcc;clear hcc;have hk2':(k0:Int)<10:=by omega
    by_cases hbad:k0=9∧¬c≤1
    · have h9b:((k0:Int) == 9)=true:=by simp;omega
      obtain ⟨h9,hc1⟩:=hbad;have H9:=Lib.hid h9;clear h9;go_wp2;go_ret3
      obtain rfl:=H9.out;exact ⟨by rw [←HG.out,takeG_big hk HC.out hc1];rfl,rfl⟩
    · obtain ⟨hv,hlt,hn1⟩:=take_or (n:=n0) hc2 HN.out hk2 (by omega)
      generalize hn1e:n0+(c % 128)*128 ^ k0=n1 at hv hlt hn1;have HE:=Lib.hid hn1e;clear hn1e;have H1:=Lib.hid hn1;clear hn1;have HL:=Lib.hid hlt;clear hlt;have hh:(((k0:Int) == 9)=true∧c≤1)∨((k0:Int) == 9)=false:=by simp;omega
      have HB:=Lib.hid hbad;clear hbad;by_cases h128:c<128
      · by_cases hz:0<k0∧c=0
        · have hwd:widthN n1≠k0+1:=width_ne (by rw [←HE.out,hz.2];simpa using HN.out) hz.1
          have hwb:((widthN n1:Int) != (k0:Int)+1)=true:=by simp;omega
          have HZ:=Lib.hid hz;clear hz;clear hwd;rcases hh with ⟨h9b,hc1⟩ | h9b
          all_goals
           go_wp2_with (go_at_call 190;refine (width_any n1 _ (by omega) (by have:=HL.out;omega)).mono ?_;rintro e w' ⟨rfl,rfl⟩;rw [Int.toNat_natCast])
           go_ret3
           exact ⟨by rw [←HG.out,takeG_zero hk HC.out HZ.out.1 HZ.out.2];rfl,rfl⟩
        · have hwd:widthN n1=k0+1:=width_eq H1.out (by
           rcases Nat.eq_zero_or_pos k0 with h | h
           · exact .inl h
           · refine .inr ?_
             rw [←HE.out,Nat.mod_eq_of_lt h128];have:1*128 ^ k0≤c*128 ^ k0:=Nat.mul_le_mul_right _ (by omega)
             omega) hk2
          have HW:=Lib.hid hwd;clear hwd;have HZ:=Lib.hid hz;clear hz;rcases hh with ⟨h9b,hc1⟩ | h9b
          all_goals
           go_wp2_with (go_at_call 190;refine (width_any n1 _ (by omega) (by have:=HL.out;omega)).mono ?_;rintro e w' ⟨rfl,rfl⟩;rw [Int.toNat_natCast,HW.out];try rw [Int.natCast_add,Int.natCast_one])
           go_ret3
           exact ⟨by rw [←HG.out,takeG_last hk HC.out (by have:=HB.out;omega) h128 (by have:=HZ.out;omega),HE.out];rfl,rfl⟩
      · rcases hh with ⟨h9b,hc1⟩ | h9b
        · omega
        · go_wp2
          go_round
          case rel=>exact ⟨n1,k0+1,rfl,by go_num,rfl,by omega,by have:=HB.out;simp at h9b;omega,H1.out,by rw [←HG.out,takeG_next hk HC.out (by simp at h9b;omega) h128,HE.out]⟩
          case measure=>simp [intOf];omega
  · go_wp2
    go_ret3
    exact ⟨by rw [←HG.out,takeG_nil hk];rfl,rfl⟩
end Go.Proofs.YtfhpolidjmbjoaaGreat
