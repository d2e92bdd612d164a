/- A part of the proof. -/
import Derived.Test.YtfhpolidjmbjoaaGreatKinds
import Derived.Test.YtfhpolidjmbjoaaGreatOnly
set_option linter.unusedSimpArgs false
set_option maxHeartbeats 16000000
set_option maxRecDepth 100000
namespace Go.Proofs.YtfhpolidjmbjoaaGreat
open Go.RowKit
def sumT (l:List Ft):Nat→Nat
 | 0=>0
 | k+1=>sumT l k+cntT l k
theorem sumT_snoc (l:List Ft) (f:Ft):∀ k,sumT (l++[f]) k=sumT l k+if kF f<k then 1 else 0
 | 0=>by simp [sumT]
 | k+1=>by
   simp only [sumT];rw [sumT_snoc l f k,cntT_snoc];have:=kF_lt f;by_cases h1:kF f<k
   · rw [if_pos h1,if_neg (by omega),if_pos (by omega)];omega
   · by_cases h2:kF f=k
     · rw [if_neg h1,if_pos h2,if_pos (by omega)];omega
     · rw [if_neg h1,if_neg h2,if_neg (by omega)];omega
theorem sumT_all (l:List Ft):sumT l 7=l.length:=by
 have:∀ r:List Ft,sumT r.reverse 7=r.length:=by
  intro r;induction r with
  | nil=>rfl
  | cons f r ih=>rw [List.reverse_cons,sumT_snoc,ih,if_pos (kF_lt f)];rfl
 have h:=this l.reverse;rwa [List.reverse_reverse,List.length_reverse] at h
theorem only_at {l:List Ft} {ks:List Int} {j:Nat} {f:Ft} (hj:l[j]?=some f) :
 (f.kind∈ks→(onlyT l ks)[(onlyT (l.take j) ks).length]?=some f∧(onlyT (l.take (j+1)) ks).length=(onlyT (l.take j) ks).length+1)∧(f.kind∉ks→(onlyT (l.take (j+1)) ks).length=(onlyT (l.take j) ks).length):=by
 obtain ⟨hlt,rfl⟩:=List.getElem?_eq_some_iff.1 hj;have h1:=List.take_succ_eq_append_getElem hlt;have h2:l=l.take j++l[j]::l.drop (j+1):=by rw [←List.drop_eq_getElem_cons hlt,List.take_append_drop]
 refine ⟨fun hk=>⟨?_,?_⟩,fun hk=>?_⟩
 · have h3:onlyT l ks=onlyT (l.take j) ks++l[j]::onlyT (l.drop (j+1)) ks:=by
    conv=>lhs;rw [h2]
    unfold onlyT;rw [List.filter_append,List.filter_cons,decide_eq_true hk];simp
   rw [h3,List.getElem?_append_right (Nat.le_refl _),Nat.sub_self];rfl
 · rw [h1];unfold onlyT;rw [List.filter_append,List.length_append,List.filter_cons,decide_eq_true hk];simp
 · rw [h1];unfold onlyT;rw [List.filter_append,List.length_append,List.filter_cons,decide_eq_false hk];simp
theorem only_le (l:List Ft) (ks:List Int) (j:Nat):(onlyT (l.take j) ks).length≤(onlyT l ks).length:=by
 unfold onlyT;conv=>rhs;rw [←List.take_append_drop j l,List.filter_append,List.length_append]
 omega
theorem auditCounts_all (hli:∀ W:World,Calls Tryz.prog 4 #[] W fun e w'=>e=.returned (.bool true)∧Below W.heap.size W w')
 (l:List Ft) (v:Value) (ks:List Int) (vk:Value) (K:Nat→Prop) (w:World) (hv:IsL Rp.ft w K v l) (hk:IsL Rp.int w K vk ks) (hK:∀ b,K b→b<w.heap.size) :
 Calls Tryz.prog 3 #[v,vk] w fun e w'=>e=.returned (.bool true)∧Below w.heap.size w w':=by
 obtain ⟨A,c,rfl,-⟩:=hv.form;obtain ⟨Ak,ck,rfl,-⟩:=hk.form;obtain ⟨n,hn⟩:∃ n,l.length=n:=⟨_,rfl⟩;obtain ⟨m,hm⟩:∃ m,ks.length=m:=⟨_,rfl⟩;have hnl:=hv.len;have hml:=hk.len;rw [hn] at hv hnl ⊢;rw [hm] at hk hml ⊢;have HN:=Lib.hid hn;have HM:=Lib.hid hm;have E:=((Kn.start w).give Stable.list hv).give Stable.list hk;clear hn hm hv hk;go_enter Tryz.func3,Tryz.ntmps3
 go_wp2_with fail;refine (hli _).mono ?_;rintro e w1 ⟨rfl,hb1⟩;replace E:=E.step hb1;clear hb1;by_cases h1:(n:Int) > 1000
 case pos=>
  go_wp2_with fail;go_ret;exact ⟨rfl,E.below⟩
 by_cases h2:(m:Int) > 100
 case pos=>
  go_wp2_with fail;go_ret;exact ⟨rfl,E.below⟩
 have hki:=kinds_any A c l K w1 (by rw [HN.out];exact E.get m1) (by rw [HN.out];omega)
 rw [HN.out] at hki;have hcl:=fun k=>cntT_le l k
 rw [HN.out] at hcl;go_wp2_with fail;refine hki.mono ?_;rintro e w2 ⟨rfl,hb2⟩;have hs7:=sumT_all l;rw [HN.out] at hs7;have HS7:=Lib.hid hs7;clear hki hs7;replace E:=E.step hb2;clear hb2;obtain ⟨f,hf⟩:∃ f,cntT l=f:=⟨_,rfl⟩;rw [hf] at hcl ⊢;have HF:=Lib.hid hf;clear hf;unfold c7;go_wp2_with fail;replace E:=E.step ((Below.refl w2.heap.size w2).alloc (Nat.le_refl _) (.cells #[.int .i64 (f 0),.int .i64 (f 1),.int .i64 (f 2),.int .i64 (f 3),.int .i64 (f 4),.int .i64 (f 5),.int .i64 (f 6)] 25));obtain ⟨g,hg⟩:∃ g,w2.heap.size=g:=⟨_,rfl⟩;rw [hg];clear hg;change Code.wp _ _ _ _ (w2.alloc (.cells #[.int .i64 (f 0),.int .i64 (f 1),.int .i64 (f 2),.int .i64 (f 3),.int .i64 (f 4),.int .i64 (f 5),.int .i64 (f 6)] 25))
 generalize w2.alloc (.cells #[.int .i64 (f 0),.int .i64 (f 1),.int .i64 (f 2),.int .i64 (f 3),.int .i64 (f 4),.int .i64 (f 5),.int .i64 (f 6)] 25)=w3 at E ⊢;go_loopw [7,8,9,10,12,30] (fun x7 x8 x9 x10 x12 x30 wr=>∃ i s:Nat,x30=.int .i64 i∧i≤7∧x7=.int .i64 s∧s≤n*i∧Hid (sumT l i=s)∧Below w3.heap.size w3 wr∧(∃ y,x8=y)∧(∃ y,x9=y)∧(∃ y,x10=y)∧∃ y,x12=y) (fun _ _ _ _ _ x30 _=>7-(intOf x30).toNat)
 case atStart=>exact ⟨0,0,rfl,by omega,rfl,by omega,Lib.hid rfl,Below.refl _ _,⟨_,rfl⟩,⟨_,rfl⟩,⟨_,rfl⟩,_,rfl⟩
 case round=>
  obtain ⟨i,s,rfl,hi,rfl,hs,HS,hb3,⟨y8,rfl⟩,⟨y9,rfl⟩,⟨y10,rfl⟩,y12,rfl⟩:=hrel;have F:=E.step hb3;by_cases hlt:i<7
  case pos=>
   have i7:(i:Int)<7:=by omega
   have hix:=run_ix7 f hlt wr
   · have hfi:=hcl i
     go_wp2_with fail;go_loopw [10,12,36] (fun x10 x12 x36 wl=>∃ j k:Nat,x36=.int .i64 j∧j≤n∧x10=.int .i64 k∧k≤j∧Hid (cntT (l.take j) i=k)∧Below w3.heap.size w3 wl∧∃ y,x12=y) (fun _ _ x36 _=>n-(intOf x36).toNat)
     case atStart=>exact ⟨0,0,rfl,by omega,rfl,by omega,Lib.hid rfl,hb3,_,rfl⟩
     case round=>
      clear F hb3;obtain ⟨j,k,rfl,hj,rfl,hkj,HKK,hb3,y,rfl⟩:=hrel;have F:=E.step hb3;by_cases hjn:j<n
      case pos=>
       have hlj:j<l.length:=by rw [HN.out];exact hjn
       have hje:l[j]?=some l[j]:=List.getElem?_eq_getElem _;obtain ⟨ad,rfl,-,c0,c1,c2,c3⟩:=ft_at (F.get m1) hje;have hsn:=cntT_snoc (l.take j) l[j] i;rw [←List.take_succ_eq_append_getElem hlj,HKK.out] at hsn;generalize l[j]=e at c0 c1 c2 c3 hsn hje;have j1:(j:Int)<(n:Int):=by omega
       have j0:(0:Int)≤(j:Int):=by omega
       have wv:IntKind.i64.wrap ((k:Int)+1)=(k:Int)+1:=IntWalk.i64_in _ (by omega)
       have HB4:Hid (∀ X,Below w3.heap.size w3 (wr.alloc X)):=Lib.hid fun X=>hb3.alloc hb3.size X
       have HKF:=Lib.hid (show (kF e=i)↔(if i=0 then e.kind<1∨6<e.kind else e.kind=(i:Int)) by unfold kF;split <;> split <;> omega)
       obtain ⟨q,hq⟩:∃ q,(if kF e=i then 1 else 0)=q:=⟨_,rfl⟩;rw [hq] at hsn;have HQ:=Lib.hid hq;have HSN:=Lib.hid hsn;have HI:=Lib.hid hix;clear hje hlj hq hsn hix;by_cases hi0:i=0
       case pos=>
        subst hi0;have i00:((0:Nat):Int)=0:=rfl;by_cases hyes:e.kind<1∨6<e.kind
        case pos=>
         have hq1:q=1:=by rw [←HQ.out,if_pos (HKF.out.2 (by simpa using hyes))]
         subst hq1;by_cases hk0:e.kind=0
         · rw [hk0] at c0
           go_wp2_with fail;go_roundw
           case rel=>exact ⟨j+1,k+1,by go_num,by omega,by go_num,by omega,HSN,HB4.out _,_,rfl⟩
           case measure=>simp [intOf];omega
         by_cases hk1:e.kind<1
         · clear hyes
           go_wp2_with fail;first
            | exact ⟨⟨_,_,_,⟨j+1,rfl,by omega,k+1,rfl,by omega,HSN,HB4.out _⟩,by first | rfl | go_num,rfl,by go_num⟩,by simp [intOf];omega⟩
            | exact ⟨⟨j+1,k+1,by go_num,by omega,by go_num,by omega,HSN,HB4.out _,_,rfl⟩,by simp [intOf];omega⟩
         · have hk6:e.kind > 6:=by omega
           clear hyes;go_wp2_with fail;first
            | exact ⟨⟨_,_,_,⟨j+1,rfl,by omega,k+1,rfl,by omega,HSN,HB4.out _⟩,by first | rfl | go_num,rfl,by go_num⟩,by simp [intOf];omega⟩
            | exact ⟨⟨j+1,k+1,by go_num,by omega,by go_num,by omega,HSN,HB4.out _,_,rfl⟩,by simp [intOf];omega⟩
        case neg=>
         have hq0:q=0:=by rw [←HQ.out,if_neg (fun h=>hyes (by simpa using HKF.out.1 h))]
         subst hq0;have hk1:¬e.kind<1:=fun h=>hyes (.inl h)
         have hk6:¬e.kind > 6:=fun h=>hyes (.inr h)
         have hk0:¬e.kind=0:=by omega
         clear hyes;go_wp2_with fail;first
          | exact ⟨⟨_,_,_,⟨j+1,rfl,by omega,k,rfl,by omega,HSN,HB4.out _⟩,by first | rfl | go_num,rfl,by go_num⟩,by simp [intOf];omega⟩
          | exact ⟨⟨j+1,k,by go_num,by omega,rfl,by omega,HSN,HB4.out _,_,rfl⟩,by simp [intOf];omega⟩
       case neg=>
        have hip:(i:Int) > 0:=by omega
        have hin:¬(i:Int)=0:=by omega
        by_cases hyes:e.kind=(i:Int)
        case pos=>
         have hq1:q=1:=by rw [←HQ.out,if_pos (HKF.out.2 (by rw [if_neg hi0];exact hyes))]
         subst hq1;rw [hyes] at c0;clear hyes;go_wp2_with fail;first
          | exact ⟨⟨_,_,_,⟨j+1,rfl,by omega,k+1,rfl,by omega,HSN,HB4.out _⟩,by first | rfl | go_num,rfl,by go_num⟩,by simp [intOf];omega⟩
          | exact ⟨⟨j+1,k+1,by go_num,by omega,by go_num,by omega,HSN,HB4.out _,_,rfl⟩,by simp [intOf];omega⟩
        case neg=>
         have hq0:q=0:=by rw [←HQ.out,if_neg (fun h=>hyes (by have:=HKF.out.1 h;rwa [if_neg hi0] at this))]
         subst hq0;go_wp2_with fail;first
          | exact ⟨⟨_,_,_,⟨j+1,rfl,by omega,k,rfl,by omega,HSN,HB4.out _⟩,by first | rfl | go_num,rfl,by go_num⟩,by simp [intOf];omega⟩
          | exact ⟨⟨j+1,k,by go_num,by omega,rfl,by omega,HSN,HB4.out _,_,rfl⟩,by simp [intOf];omega⟩
      case neg=>
       obtain rfl:j=n:=by omega
       have hkf:k=f i:=by rw [←HKK.out,←HF.out];congr 1;rw [←HN.out,List.take_length]
       subst hkf;have HI:=Lib.hid hix;have hss:sumT l (i+1)=s+f i:=by show sumT l i+cntT l i=_;rw [HS.out,HF.out]
       have HSS:=Lib.hid hss;have hsm:s+f i≤j*(i+1):=by rw [Nat.mul_succ];omega
       have hsb:j*(i+1)≤1000*7:=Nat.mul_le_mul (by omega) (by omega)
       have wv:IntKind.i64.wrap ((s:Int)+(f i:Int))=(s:Int)+(f i:Int):=IntWalk.i64_in _ (by omega)
       clear hix hss hsb;go_wp2_with fail;go_roundw
       case rel=>exact ⟨i+1,s+f i,by go_num,by omega,by go_num,hsm,HSS,hb3,⟨_,rfl⟩,⟨_,rfl⟩,⟨_,rfl⟩,_,rfl⟩
       case measure=>simp [intOf];omega
  case neg=>
   obtain rfl:i=7:=by omega
   obtain rfl:s=n:=by rw [←HS.out];exact HS7.out
   have hon:=only_any A c l Ak m ck ks K K wr (by rw [HN.out];exact F.get m1) (F.get m0) (by rw [HN.out];omega) (fun b hb=>Nat.lt_of_lt_of_le (hK b hb) F.below.size)
   rw [HN.out] at hon;have hol:=fun j=>only_le l ks j
   have hoa:∀ j f,l[j]?=some f→_:=fun j f h=>only_at (ks:=ks) h
   have hof:(onlyT (l.take s) ks).length=(onlyT l ks).length:=by rw [←HN.out,List.take_length]
   have hox:(onlyT l ks).length≤s:=by have:=List.length_filter_le (fun f:Ft=>decide (f.kind∈ks)) l;rw [HN.out] at this;exact this
   obtain ⟨o,ho⟩:∃ o,onlyT l ks=o:=⟨_,rfl⟩;rw [ho] at hon hol hoa hof hox;obtain ⟨no,hno⟩:∃ no,o.length=no:=⟨_,rfl⟩;rw [hno] at hon hol hof hox;have HOL:=Lib.hid hol;have HOA:=Lib.hid hoa;have HOF:=Lib.hid hof;clear ho hno hol hoa hof;go_wp2_with fail;refine hon.mono ?_;rintro e w5 ⟨Ao,co,rfl,ho5,hb5⟩;have G:=(F.step hb5).give Stable.list ho5;clear hon F hb3 hb5 ho5;go_wp2_with fail;go_loopw [13,16,77] (fun x13 x16 x77 wl=>∃ j k:Nat,x77=.int .i64 j∧j≤s∧x13=.int .i64 k∧k≤no∧Hid ((onlyT (l.take j) ks).length=k)∧Below w5.heap.size w5 wl∧∃ y,x16=y) (fun _ _ x77 _=>s-(intOf x77).toNat)
   case atStart=>exact ⟨0,0,rfl,by omega,rfl,by omega,Lib.hid rfl,Below.refl _ _,_,rfl⟩
   case round=>
    obtain ⟨j,k,rfl,hj,rfl,hkj,HKK,hb5,y,rfl⟩:=hrel;replace G:=G.step hb5;by_cases hjn:j<s
    case pos=>
     have hlj:j<l.length:=by rw [HN.out];exact hjn
     have hje:l[j]?=some l[j]:=List.getElem?_eq_getElem _;obtain ⟨ad,hAd,-,c0,c1,c2,c3⟩:=ft_at (G.get m2) hje;subst hAd;have hoj:=HOA.out _ _ hje;have hkn:=HOL.out (j+1);generalize l[j]=e at c0 c1 c2 c3 hje hoj;rw [HKK.out] at hoj;have j1:(j:Int)<(s:Int):=by omega
     have j0:(0:Int)≤(j:Int):=by omega
     have HJ:=Lib.hid hje;have HOJ:=Lib.hid hoj;have hin:=in02_any Ak m ck ks e.kind K;have G2:=G.push 28 #[.int .i64 e.kind,.int .i64 e.zone,.int .i64 e.host,.int .i64 e.lba];clear hje hlj hoj;go_wp2_with fail;refine (hin _ (G2.get m1)).mono ?_;rintro x w6 ⟨rfl,hb6⟩;have hb7:=hb5.trans ((((Below.refl wr.heap.size wr).alloc (Nat.le_refl _) (.cells #[.int .i64 e.kind,.int .i64 e.zone,.int .i64 e.host,.int .i64 e.lba] 28)).trans (hb6.mono (by rw [World.size_alloc];omega))).mono hb5.size)
     replace G2:=G2.step hb6;clear hin c0 c1 c2 c3 G hb6;by_cases hmem:e.kind∈ks
     case pos=>
      obtain ⟨h1,h2⟩:=HOJ.out.1 hmem;rw [decide_eq_true hmem];have hkk:k+1≤no:=by omega
      have HB7:=Lib.hid hb7;have HK2:=Lib.hid h2;have HO1:=Lib.hid h1;obtain ⟨ad2,hAd2,-,d0,d1,d2,d3⟩:=ft_at (G2.get m0) h1;subst hAd2;clear d0 d1 d2 d3;have k1:decide ((no:Int)≤(k:Int))=false:=decide_eq_false (by omega)
      have k3:decide (no≤k)=false:=decide_eq_false (by omega)
      have k0:(0:Int)≤(k:Int):=by omega
      have k2:(k:Int)<(no:Int):=by omega
      have wv:IntKind.i64.wrap ((k:Int)+1)=(k:Int)+1:=IntWalk.i64_in _ (by omega)
      clear h1 h2 hmem HOJ hkn hb7;go_upto_region 26 with fail;have hb0:Below w6.heap.size w6 w6.drew:=(Below.refl _ _).drew;have G3:=G2.step hb0;obtain ⟨ad3,hAd3,-,d0,d1,d2,d3⟩:=ft_at (G3.get m0) HO1.out;injection hAd3 with hAd3;subst hAd3;obtain ⟨q0,f0,t0⟩:=G3.rules m0;refine wp_region_held_drew (S:=fun W=>(∀ o,W.cell? ⟨wr.heap.size,o,none⟩=(#[.int .i64 e.kind,.int .i64 e.zone,.int .i64 e.host,.int .i64 e.lba]:Array Value)[o]?)∧W.cell? (ad2.add (k*4))=some (.int .i64 e.kind)∧W.cell? ⟨(ad2.add (k*4)).block,(ad2.add (k*4)).off+1,none⟩=some (.int .i64 e.zone)∧W.cell? ⟨(ad2.add (k*4)).block,(ad2.add (k*4)).off+2,none⟩=some (.int .i64 e.host)∧W.cell? ⟨(ad2.add (k*4)).block,(ad2.add (k*4)).off+3,none⟩=some (.int .i64 e.lba)) (by kernel_rfl) ⟨q0,d0,d1,d2,d3⟩ (fun hHeld=>?_)
      generalize w6.drew=w7 at hb0 hHeld ⊢;clear G2 G3 q0 f0 t0 d0 d1 d2 d3;refine wT 0 86 ?_;refine wT 1 87 ?_;refine wT 2 88 ?_;refine wT 3 89 ?_;refine wT 4 90 ?_;refine wT 5 91 ?_;refine wT 6 92 ?_;refine wT 7 93 ?_;refine wT 8 94 ?_;refine wT 9 95 ?_;refine wT 10 96 ?_;refine wT 11 97 ?_;refine wpAnyH_done (by kernel_rfl) ?_ _
      have HB8:Below w5.heap.size w5 w7:=HB7.out.trans (hb0.mono HB7.out.size);clear hHeld;go_wp2_with fail;go_roundw
      case rel=>exact ⟨j+1,k+1,by go_num,by omega,by go_num,by omega,HK2,HB8,_,rfl⟩
      case measure=>simp [intOf];omega
     case neg=>
      have h2:=HOJ.out.2 hmem;rw [decide_eq_false hmem];have HB7:=Lib.hid hb7;have HK2:=Lib.hid h2;clear h2 hmem HOJ hkn hb7;go_wp2_with fail;go_roundw
      case rel=>exact ⟨j+1,k,by go_num,by omega,rfl,hkj,HK2,HB7.out,_,rfl⟩
      case measure=>simp [intOf];omega
    case neg=>
     obtain rfl:j=s:=by omega
     obtain rfl:k=no:=by rw [←HKK.out,HOF.out]
     go_wp2_with fail;go_ret;exact ⟨rfl,G.below⟩
end Go.Proofs.YtfhpolidjmbjoaaGreat
