/- A part of the proof. -/
import Derived.Test.YtfhpolidjmbjoaaGreatDelFt
import Derived.Test.YtfhpolidjmbjoaaGreatSlT
import Derived.Test.YtfhpolidjmbjoaaGreatZonePlain
set_option maxHeartbeats 4000000
set_option maxRecDepth 100000
namespace Go.Proofs.YtfhpolidjmbjoaaGreat
open Go.RowKit
def onlyT (l:List Ft) (ks:List Int):List Ft:=l.filter fun f=>decide (f.kind∈ks)
theorem isL_int_reads {w:World} {K:Nat→Prop} {A:Option Addr} {n c:Nat} {l:List Int} (h:IsL Rp.int w K (.slice A n c) l):l.length=n∧Reads w K 1 A n (l.map I64)∧n≤9223372036854775807:=by
 obtain ⟨hn,⟨cs,hr,hc⟩,hl⟩:=h.open_;have e:cs=l.map I64:=by
  clear hr hn hl h;induction l generalizing cs with
  | nil=>exact List.eq_nil_of_length_eq_zero (by have:=hc.len;simpa using this)
  | cons x l ih=>
    obtain ⟨a,b,rfl,ha,hb⟩:=hc;rw [ih _ hb,show a=[.int .i64 x] from ha.1];rfl
 rw [←e,hn];exact ⟨rfl,hr,by have:=h.len;omega⟩
theorem only1_any (e:Ft) (ks:List Int) (Ak:Option Addr) (n ck:Nat) (K:Nat→Prop) (g:Nat) (w:World) (hk:IsL Rp.int w K (.slice Ak n ck) ks) (hg:Blk w g 23 #[.slice Ak n ck]) :
 Calls Tryz.prog 14 #[.agg #[.int .i64 e.kind,.int .i64 e.zone,.int .i64 e.host,.int .i64 e.lba],.pointer (some ⟨g,0,none⟩)] w fun x w'=>x=.returned (.bool (!decide (e.kind∈ks)))∧Below w.heap.size w w':=by
 obtain ⟨h1,h2,h3⟩:=isL_int_reads hk;have E:=((Kn.start w).know hg).push 28 #[.int .i64 e.kind,.int .i64 e.zone,.int .i64 e.host,.int .i64 e.lba];have hb:=E.below;obtain ⟨q0,f0,t0⟩:=E.rules m0;obtain ⟨q1,f1,t1⟩:=E.rules m1;have hc:=contains_any Ak n ck ks e.kind K _ h1 h3 (h2.alloc (.cells #[.int .i64 e.kind,.int .i64 e.zone,.int .i64 e.host,.int .i64 e.lba] 28));have HC:=Lib.hid hc;clear h1 h2 h3 hc;go_enter Tryz.func14,Tryz.ntmps14
 go_wp2_with fail;refine HC.out.mono ?_;rintro x w2 ⟨rfl,rfl⟩;go_wp2_with fail;go_ret;exact ⟨rfl,hb⟩
theorem enT_only:∀ args w,(callFunc 14 args).run Tryz.prog w=.ok (.enter 14 args) w:=enters_of Tryz.func14 (by kernel_rfl) rfl
theorem only_any (A:Option Addr) (c:Nat) (l:List Ft) (Ak:Option Addr) (n ck:Nat) (ks:List Int) (K K':Nat→Prop) (w:World) (hv:IsL Rp.ft w K (.slice A l.length c) l) (hk:IsL Rp.int w K' (.slice Ak n ck) ks) (hl:l.length≤1000000) (hK:∀ b,K' b→b<w.heap.size) :
 Calls Tryz.prog 6 #[.slice A l.length c,.slice Ak n ck] w fun e w'=>∃ A' c',e=.returned (.slice A' (onlyT l ks).length c')∧IsL Rp.ft w' (fun b=>w.heap.size≤b) (.slice A' (onlyT l ks).length c') (onlyT l ks)∧Below w.heap.size w w':=by
 have E:=(((Kn.start w).give Stable.list hv).give Stable.list hk).push 23 #[.slice Ak n ck];have hw:=E.below;have t0:=(E.at_ m0).lt;go_enter Tryz.func6,Tryz.ntmps6
 go_wp2_with fail;refine (cloneT_any A l.length c K (ftLs l) _ (ftL_reads (E.get m1)) (ftLs_one l) (by omega)).mono ?_
 rintro x w2 ⟨A2,c2,rfl,own2,hb2⟩;replace E:=E.step hb2;have hBk:=E.at_ m0;have hIk:=E.get m0;have hown:∀ b,some b=(Value.slice A2 l.length c2).ownBlock→w.heap.size<b:=fun b hb=>by have:=(own2.lt b hb.symm).1;rw [World.size_alloc] at this;omega
 have hdel:=delT_any 14 enT_only #[.pointer (some ⟨w.heap.size,0,none⟩)] (fun e=>!decide (e.kind∈ks)) _ c2 A2 l w2 own2 (by omega) (fun W e ht _=>only1_any e ks Ak n ck K' w.heap.size W (hIk.turned ht (fun b hb h=>by have:=hK b hb;have:=hown b h;omega)) (hBk.turned ht (fun h=>by have:=hown _ h;omega)))
 go_wp2_with fail;refine hdel.mono ?_;rintro x w3 ⟨l',hl',rfl,own3,ht3⟩;have hol:l'=onlyT l ks:=by rw [hl'];unfold onlyT;congr 1;funext e;simp
 subst hol;have hle:(onlyT l ks).length≤l.length:=List.length_filter_le _ _;go_wp2_with fail;go_ret;refine ⟨A2,c2,rfl,(own_ftL own3 rfl (by omega)).more fun b hb=>by rw [World.size_alloc] at hb;omega,?_⟩
 exact E.below.trans (ht3.below (fun k hk=>by have:=hown k hk;omega) E.below.size)
theorem in02_any (Ak:Option Addr) (n ck:Nat) (ks:List Int) (x:Int) (K:Nat→Prop) (w:World) (hk:IsL Rp.int w K (.slice Ak n ck) ks) :
 Calls Tryz.prog 7 #[.slice Ak n ck,.int .i64 x] w fun e w'=>e=.returned (.bool (decide (x∈ks)))∧Below w.heap.size w w':=by
 obtain ⟨h1,h2,h3⟩:=isL_int_reads hk;have HK:Hid (∀ j y,ks[j]?=some y→∃ ad,Ak=some ad∧w.cell? (ad.add j)=some (.int .i64 y)):=Lib.hid fun j y hj=>by
  obtain ⟨ad,es,hA,_,hes,hcell⟩:=hk.at_ hj;refine ⟨ad,hA,?_⟩;have h9:=hcell 0 (.int .i64 y) (by rw [show es=[.int .i64 y] from hes.1];rfl)
  have h8:(ad.add (j*Rp.int.size))=ad.add j:=by rw [show Rp.int.size=1 from rfl,Nat.mul_one]
  rw [h8] at h9;rw [←addr0 (ad.add j)];exact h9
 obtain ⟨res,hres⟩:∃ res,decide (x∈ks)=res:=⟨_,rfl⟩;rw [hres];have HR:=Lib.hid hres;have HN:=Lib.hid h1;clear hres h1 h2 hk;go_enter Tryz.func7,Tryz.ntmps7
 go_wp2_with fail;go_loopw [6,9] (fun x6 x9 wr=>∃ j:Nat,x9=.int .i64 j∧j≤n∧wr=w∧Hid (∀ i y,i<j→ks[i]?=some y→y≠x)∧∃ y,x6=y) (fun _ x9 _=>n-(intOf x9).toNat)
 case atStart=>exact ⟨0,rfl,Nat.zero_le _,rfl,Lib.hid (fun i y hi=>by omega),_,rfl⟩
 case round=>
  obtain ⟨j,rfl,hj,rfl,HI,y,rfl⟩:=hrel;by_cases hlt:j<n
  case pos=>
   have hlj:j<ks.length:=by rw [HN.out];exact hlt
   have hje:ks[j]?=some ks[j]:=List.getElem?_eq_getElem _;obtain ⟨ad,rfl,c0⟩:=HK.out j _ hje;generalize ks[j]=u at c0 hje;have HJ:=Lib.hid hje;have j1:(j:Int)<(n:Int):=by omega
   have j0:(0:Int)≤(j:Int):=by omega
   clear hje hlj;by_cases hux:u=x
   case pos=>
    subst hux;have hr:res=true:=by rw [←HR.out];exact decide_eq_true (List.mem_of_getElem? HJ.out)
    subst hr;go_wp2_with fail;go_ret;exact ⟨rfl,Below.refl _ _⟩
   case neg=>
    have HI2:Hid (∀ i y,i<j+1→ks[i]?=some y→y≠x):=Lib.hid fun i y hi hy=>by
     by_cases hij:i=j
     · subst hij
       rw [HJ.out] at hy;injection hy with hy;rw [←hy];exact hux
     · exact HI.out i y (by omega) hy
    go_wp2_with fail;go_roundw
    case rel=>exact ⟨j+1,by go_num,by omega,trivial,HI2,_,rfl⟩
    case measure=>simp [intOf];omega
  case neg=>
   obtain rfl:j=n:=by omega
   have hr:res=false:=by
    rw [←HR.out];refine decide_eq_false fun hm=>?_
    obtain ⟨i,hi,e⟩:=List.mem_iff_getElem.1 hm;exact HI.out i x (by rw [←HN.out];exact hi) (by rw [List.getElem?_eq_getElem hi,e]) rfl
   subst hr;go_wp2_with fail;go_ret;exact ⟨rfl,Below.refl _ _⟩
end Go.Proofs.YtfhpolidjmbjoaaGreat
