/- A part of the proof. -/
import Derived.Test.YtfhpolidjmbjoaaGreatLook0
import Derived.Test.YtfhpolidjmbjoaaGreatOnly
set_option maxHeartbeats 4000000
set_option maxRecDepth 100000
namespace Go.Proofs.YtfhpolidjmbjoaaGreat
open Go.RowKit
theorem less_any (a b:Int) (w:World):Calls Tryz.prog 90 #[.int .i64 a,.int .i64 b] w fun x w'=>x=.returned (.bool (decide (a<b)))∧w'=w:=by
 have hnn:∀ a w,Calls Tryz.prog 77 #[.int .i64 a] w fun x w'=>x=.returned (.bool false)∧w'=w:=fun a w=>by
  go_enter Tryz.func77,Tryz.ntmps77
  go_wp2;go_ret;exact ⟨rfl,rfl⟩
 go_enter Tryz.func90,Tryz.ntmps90
 go_wp2_with fail;refine (hnn _ _).mono ?_;rintro x w1 ⟨rfl,rfl⟩;go_wp2;go_ret;exact ⟨rfl,rfl⟩
theorem bsearch1_any (A:Option Addr) (n c:Nat) (T:List Int) (z:Int) (K:Nat→Prop) (w:World) (hT:IsL Rp.int w K (.slice A n c) T) (hn:n≤1) :
 Calls Tryz.prog 49 #[.slice A n c,.int .i64 z] w fun x w'=>∃ i,x=.returned (.tuple #[.int .i64 i,.bool (decide (z∈T))])∧w'=w:=by
 obtain ⟨h1,h2,h3⟩:=isL_int_reads hT;have hnn:∀ a w,Calls Tryz.prog 91 #[.int .i64 a] w fun x w'=>x=.returned (.bool false)∧w'=w:=fun a w=>by
  go_enter Tryz.func91,Tryz.ntmps91
  go_wp2;go_ret;exact ⟨rfl,rfl⟩
 rcases T with _ | ⟨t,_ | ⟨t2,T⟩⟩
 case nil=>
  obtain rfl:n=0:=by simpa using h1.symm
  have hz:decide (z∈([]:List Int))=false:=by simp
  rw [hz];clear h1 h2 h3 hT hz;go_enter Tryz.func49,Tryz.ntmps49
  go_wp2_with fail;go_loopw [7,8,9] (fun a b d wr=>a=.int .i64 0∧b=.int .i64 0∧wr=w∧∃ y,d=y) (fun _ _ _ _=>0)
  case atStart=>exact ⟨rfl,rfl,rfl,_,rfl⟩
  case round=>
   obtain ⟨rfl,rfl,rfl,y,rfl⟩:=hrel;go_wp2_with fail;go_ret2;exact ⟨0,rfl,rfl⟩
 case cons.nil=>
  obtain rfl:n=1:=by simpa using h1.symm
  obtain ⟨ad,es,rfl,_,hes,hcell⟩:=hT.at_ (i:=0) (x:=t) rfl;have h9:=hcell 0 (.int .i64 t) (by rw [show es=[.int .i64 t] from hes.1];rfl)
  have h8:(ad.add (0*Rp.int.size))=ad:=by rw [Nat.zero_mul];simp [Addr.add]
  rw [h8] at h9;have c0:w.cell? ad=some (.int .i64 t):=by rw [←addr0 ad];exact h9
  obtain ⟨res,hres⟩:∃ res,decide (z∈[t])=res:=⟨_,rfl⟩;rw [hres];have HR:=Lib.hid hres;clear h1 h2 h3 hT hres h9 h8 hcell hes;go_enter Tryz.func49,Tryz.ntmps49
  go_wp2_with fail;go_loopw [7,8,9] (fun a b d wr=>((a=.int .i64 0∧b=.int .i64 1)∨(a=.int .i64 1∧b=.int .i64 1∧t<z)∨(a=.int .i64 0∧b=.int .i64 0∧¬t<z))∧wr=w∧∃ y,d=y) (fun a b _ _=>(intOf b-intOf a).toNat)
  case atStart=>exact ⟨.inl ⟨rfl,rfl⟩,rfl,_,rfl⟩
  case round=>
   obtain ⟨⟨rfl,rfl⟩ | ⟨rfl,rfl,ht⟩ | ⟨rfl,rfl,ht⟩,rfl,y,rfl⟩:=hrel
   · go_wp2_with fail
     refine (less_any _ _ _).mono ?_;rintro x w1 ⟨rfl,rfl⟩;by_cases ht:t<z
     · rw [decide_eq_true ht]
       go_wp2_with fail;go_roundw
       case rel=>exact ⟨.inr (.inl ⟨rfl,rfl,ht⟩),trivial,_,rfl⟩
       case measure=>simp [intOf]
     · rw [decide_eq_false ht]
       go_wp2_with fail;go_roundw
       case rel=>exact ⟨.inr (.inr ⟨rfl,rfl,by omega⟩),trivial,_,rfl⟩
       case measure=>simp [intOf]
   · have hr:res=false:=by rw [←HR.out];simp;omega
     subst hr;go_wp2_with fail;go_ret2;exact ⟨1,rfl,rfl⟩
   · by_cases htz:t=z
     · have hr:res=true:=by rw [←HR.out];simp [htz]
       subst hr htz;go_wp2_with fail;go_ret2;first | exact ⟨0,rfl,rfl⟩ | exact ⟨⟨0,rfl⟩,rfl⟩
     · have hr:res=false:=by rw [←HR.out];simp;omega
       subst hr;have hbz:(t == z)=false:=by simp [htz]
       go_wp2_with fail;refine (hnn _ _).mono ?_;rintro x w1 ⟨rfl,rfl⟩;go_wp2_with fail;go_ret2;first | exact ⟨0,rfl,rfl⟩ | exact ⟨⟨0,rfl⟩,rfl⟩
 case cons.cons=>
  simp at h1;omega
end Go.Proofs.YtfhpolidjmbjoaaGreat
