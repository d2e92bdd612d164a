/- A part of the proof. -/
import Derived.Test.YtfhpolidjmbjoaaGreatRows
import Derived.Test.YtfhpolidjmbjoaaGreatLib
import Derived.Lib.AppendZerosOnto
import Derived.Lib.Walk
set_option maxHeartbeats 400000
set_option maxRecDepth 100000
namespace Go.Proofs.YtfhpolidjmbjoaaGreat
open Go.RowKit
theorem Tryz.infT:(Tryz.prog.info? 28).map (fun i=>(i.zero,i.size,i.bytes))=some (some (.agg #[.int .i64 0,.int .i64 0,.int .i64 0,.int .i64 0]),4,32):=by kernel_rfl
theorem cloneT_any (A:Option Addr) (n c:Nat) (K:Nat→Prop) (xs:List Value) (w:World) (hr:Reads w K 4 A n xs) (h1:∀ u∈xs,u.oneCell'=true) (hn:n*32≤140737488355328) :
 Calls Tryz.prog 13 #[.slice A n c] w fun e w'=>∃ A' c',e=.returned (.slice A' n c')∧w'.ownsRow w.heap.size 28 4 (.slice A' n c') n xs∧Below w.heap.size w w':=by
 obtain ⟨i0,hi,hz0,hz1,hz2⟩:=info_parts Tryz.infT;rcases A with _ | ad
 · have hn0:n=0:=by
    rcases Nat.eq_zero_or_pos n with h | h
    · exact h
    · obtain ⟨_,h2,_⟩:=hr.2 h;cases h2
   subst hn0;have hx:xs=[]:=List.eq_nil_of_length_eq_zero (by simpa using hr.1)
   subst hx;have heq:=fun w=>Lib.run_eql_slice_nil (P:=Tryz.prog) w 22 28 none 0 c 0 0 Tryz.underlying22
   go_enter Tryz.func13,Tryz.ntmps13
   go_wp2;go_ret;exact ⟨none,0,rfl,World.ownsRow_nil _ _ _ _,Below.refl _ _⟩
 · have heq:=fun w=>Lib.run_eql_slice_nil (P:=Tryz.prog) w 22 28 (some ad) n c 0 0 Tryz.underlying22
   have hr':=hr.alloc (.cells #[] 28);go_enter Tryz.func13,Tryz.ntmps13
   go_wp2_with (at_builtin;refine wpList_appN rfl _ _ _ rfl w.heap.size 28 i0 _ 4 32 Tryz.underlying22 hi hz0 hz1 hz2 rfl (by omega) rfl (own_empty _ _ _ _) rfl hr' h1 (by simp only [maxLen];omega) (by omega) (by simp) ?_;intro A' c' w1 hown1 hg1)
   go_ret;simp only [Nat.zero_add,List.nil_append] at hown1 ⊢;exact ⟨A',c',rfl,hown1,((Below.refl _ _).alloc (Nat.le_refl _) _).trans hg1.below⟩
end Go.Proofs.YtfhpolidjmbjoaaGreat
