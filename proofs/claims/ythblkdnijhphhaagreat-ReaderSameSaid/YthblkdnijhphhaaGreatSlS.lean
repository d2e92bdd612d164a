/- A part of the proof. -/
import Derived.Test.YthblkdnijhphhaaGreatRows
import Derived.Test.YthblkdnijhphhaaGreatRing
import Derived.Lib.AppendZerosOnto
import Derived.Lib.Walk
set_option maxHeartbeats 1000000
set_option maxRecDepth 100000
namespace Go.Proofs.YthblkdnijhphhaaGreat
open Go.RowKit
theorem Tryz.inf8:(Tryz.prog.info? 5).map (fun i=>(i.zero,i.size,i.bytes))=some (some (.int .u8 0),1,1):=by kernel_rfl
theorem zfT (A:Option Addr) (n c:Nat) (K:Nat→Prop) (xs:List Value) (w:World) (hr:za6 w K 1 A n xs) (h1:∀ u∈xs,u.oneCell'=true) (hn:n*1≤140737488355328) :
 Calls Tryz.prog 66 #[.slice A n c] w fun e w'=>∃ A' c',e=.returned (.slice A' n c')∧w'.ownsRow w.heap.size 5 1 (.slice A' n c') n xs∧Below w.heap.size w w':=by
 obtain ⟨i0,hi,hz0,hz1,hz2⟩:=info_parts Tryz.inf8;rcases A with _ | ad
 · have hn0:n=0:=by
    rcases Nat.eq_zero_or_pos n with h | h
    · exact h
    · obtain ⟨_,h2,_⟩:=hr.2 h;cases h2
   subst hn0;have hx:xs=[]:=List.eq_nil_of_length_eq_zero (by simpa using hr.1)
   subst hx;have heq:=fun w=>Lib.run_eql_slice_nil (P:=Tryz.prog) w 32 5 none 0 c 0 0 Tryz.underlying32
   go_enter Tryz.func66,Tryz.ntmps66
   go_wp2;go_ret;exact ⟨none,0,rfl,World.ownsRow_nil _ _ _ _,Below.refl _ _⟩
 · have heq:=fun w=>Lib.run_eql_slice_nil (P:=Tryz.prog) w 32 5 (some ad) n c 0 0 Tryz.underlying32
   have hr':=hr.alloc (.cells #[] 5);go_enter Tryz.func66,Tryz.ntmps66
   go_wp2_with (at_builtin;refine za5 rfl _ _ _ rfl w.heap.size 5 i0 _ 1 1 Tryz.underlying32 hi hz0 hz1 hz2 rfl (by omega) rfl (zce _ _ _ _) rfl hr' h1 (by simp only [maxLen];omega) (by omega) (by simp) ?_;intro A' c' w1 hown1 hg1)
   go_ret;simp only [Nat.zero_add,List.nil_append] at hown1 ⊢;exact ⟨A',c',rfl,hown1,((Below.refl _ _).alloc (Nat.le_refl _) _).trans hg1.below⟩
theorem zlB (n:Nat) (w:World) (hn:n*1≤140737488355328) :
 Calls Tryz.prog 208 #[.slice none 0 0,.int .i64 n] w fun e w'=>∃ A' c',e=.returned (.slice A' 0 c')∧w'.ownsRow w.heap.size 5 1 (.slice A' 0 c') 0 []∧Below w.heap.size w w':=by
 obtain ⟨i0,hi,hz0,hz1,hz2⟩:=info_parts Tryz.inf8;rcases Nat.eq_zero_or_pos n with h0 | h0
 · subst h0
   go_enter Tryz.func208,Tryz.ntmps208
   go_wp2;go_ret;exact ⟨none,0,rfl,World.ownsRow_nil _ _ _ _,Below.refl _ _⟩
 · have hold:(Builtin.firstCells i0.size 0 (.slice none 0 0)).run Tryz.prog w.drew=.ok ([]:List Value).toArray w.drew:=run_firstCells_none w.drew i0.size 0 0 0
   have hrz:∀ ty,(Builtin.append_ #[32,3] ty #[.slice none 0 0,.int .i64 (n:Int)]).run Tryz.prog w =
    .ok (.slice (some ⟨w.heap.size,0,none⟩) n (grownCap w n 0 5)) (w.drew.alloc (.cells (([]:List Value).toArray++Builtin.zeroCells (.int .u8 0:Value).cells n++Builtin.zeroCells (.int .u8 0:Value).cells (grownCap w n 0 5-n)) 5)):=fun ty=>by
    have h:=Lib.run_append_grow_zeros w 32 3 ty 5 i0 (.int .u8 0:Value) .i64 .i64 Tryz.underlying32 Tryz.underlying3 hi hz0 none 0 0 [] hold n (by omega) (by omega) (by omega) (by omega)
     (by rw [hz2];omega) (by rw [hz2];simp only [Nat.zero_add];exact growslice_fits h0 hn)
    simp only [Nat.zero_add] at h;exact h
   have hGn:n≤grownCap w n 0 5:=grownCap_ge w _ _ _;have hGm:grownCap w n 0 5≤maxLen:=grownCap_le_maxLen w n 0 5 (by unfold maxLen;omega)
   generalize grownCap w n 0 5=G at hrz hGn hGm;have hG63:G≤9223372036854775807:=by unfold maxLen at hGm;omega
   have hcs:(([]:List Value).toArray++Builtin.zeroCells (.int .u8 0:Value).cells n++Builtin.zeroCells (.int .u8 0:Value).cells (G-n)).size=G*1:=by
    have e:(.int .u8 0:Value).cells.size=1:=rfl;simp only [Array.size_append,size_zeroCells,e,List.size_toArray,List.length_nil];omega
   generalize ([]:List Value).toArray++Builtin.zeroCells (.int .u8 0:Value).cells n++Builtin.zeroCells (.int .u8 0:Value).cells (G-n)=cs at hrz hcs;have HM:=Lib.hid hGm;clear hGm;have HC:=Lib.hid hcs;clear hcs;clear hold;go_enter Tryz.func208,Tryz.ntmps208
   go_wp2_with (at_builtin;refine Lib.wpList_append_run _ rfl _ _ _ _ rfl _ _ rfl rfl _ _ (hrz _) ?_);all_goals
    go_ret;exact ⟨_,G,rfl,World.ownsRow_made w.drew cs G (Nat.le_refl _) HM.out HC.out,(Below.refl _ _).drew.alloc (Nat.le_refl _) _⟩
theorem zif (SA:Option Addr) (k sc:Nat) (K K':Nat→Prop) (ps:List Part) (w:World) (hk:ps.length=k) (hs:za6 w K 1 SA k (ps.map Part.v))
 (hp:∀ p∈ps,za6 w K' 1 p.A p.n p.xs∧∀ u∈p.xs,u.oneCell'=true) (hn:sumN ps*1≤140737488355328) (hk63:k≤9223372036854775807) :
 Calls Tryz.prog 181 #[.slice SA k sc] w fun e w'=>∃ A' c',e=.returned (.slice A' (sumN ps) c')∧w'.ownsRow w.heap.size 5 1 (.slice A' (sumN ps) c') (sumN ps) (ps.flatMap Part.xs)∧Below w.heap.size w w':=by
 obtain ⟨i0,hi,hz0,hz1,hz2⟩:=info_parts Tryz.inf8;subst hk;have HN:=Lib.hid hn;clear hn;go_enter Tryz.func181,Tryz.ntmps181
 go_wp2;go_loop [3,5,11] (fun size _ i=>∃ j:Nat,j≤ps.length∧i=.int .i64 j∧size=.int .i64 (sumN (ps.take j))) (fun _ _ i=>ps.length-(intOf i).toNat)
 case atStart=>exact ⟨0,Nat.zero_le _,rfl,rfl⟩
 case round=>
  obtain ⟨j,hj,rfl,rfl⟩:=hrel;have hle:=zcd ps j;have hle63:sumN (ps.take j)≤140737488355328:=by have:=HN.out;omega
  by_cases hlt:j<ps.length
  · obtain ⟨ad,u,rfl,hbB,hu,hc⟩:=hs.at_ hlt
    simp only [List.getElem?_map,List.getElem?_eq_getElem hlt,Option.map_some,Option.some.injEq] at hu;subst hu;unfold Part.v at hc;have hsn:=zdD ps hlt;have hle':=zcd ps (j+1);have hb2:sumN (ps.take j)+ps[j].n≤140737488355328:=by have:=HN.out;omega
    have hnn:¬((sumN (ps.take j):Int)+(ps[j].n:Int)<0):=by omega
    have HS:=Lib.hid hsn;clear hsn;generalize hP:ps[j]=P0 at hc hb2 hnn;have HP:=Lib.hid hP;clear hP;generalize hS0:sumN (ps.take j)=S0 at hb2 hnn hle hle63 ⊢;have HS0:=Lib.hid hS0;clear hS0;clear hle hle';go_wp2;go_round
    case rel=>exact ⟨j+1,by omega,by go_num,by rw [HS.out,HP.out,HS0.out];go_num⟩
    case measure=>simp [intOf];omega
  · obtain rfl:j=ps.length:=by omega
    have ht:sumN (ps.take ps.length)=sumN ps:=by rw [List.take_length]
    rw [ht] at hle63 ⊢;clear ht hle;generalize hS:sumN ps=S at hle63 ⊢;have HS:=Lib.hid hS;clear hS;go_wp2_with (go_at_call 208;refine (zlB S w (by have:=HN.out;have:=HS.out;omega)).mono ?_;rintro e w1 ⟨A1,c1,rfl,hown1,hb1⟩)
    go_loopw [6,8,27] (fun v _ i wr=>∃ (j:Nat) (A:Option Addr) (c:Nat),j≤ps.length∧i=.int .i64 j∧v=.slice A (sumN (ps.take j)) c∧wr.ownsRow w.heap.size 5 1 (.slice A (sumN (ps.take j)) c) (sumN (ps.take j)) ((ps.take j).flatMap Part.xs)∧Below w.heap.size w wr) (fun _ _ i _=>ps.length-(intOf i).toNat)
    case atStart=>exact ⟨0,A1,c1,Nat.zero_le _,rfl,rfl,hown1,hb1⟩
    case round=>
     obtain ⟨j,A,c,hj,rfl,rfl,hown,hb⟩:=hrel;have hsz:=hb.size;by_cases hlt:j<ps.length
     · obtain ⟨ad,u,rfl,hbB,hu,hc⟩:=(hs.step hb).at_ hlt
       simp only [List.getElem?_map,List.getElem?_eq_getElem hlt,Option.map_some,Option.some.injEq] at hu;subst hu;unfold Part.v at hc;have hsn:=zdD ps hlt;have hle':=zcd ps (j+1);have hxs:=zhz ps hlt;have hb2:(sumN (ps.take j)+ps[j].n)*1≤140737488355328:=by have:=HN.out;rw [←hsn];omega
       have hrp:=(hp ps[j] (List.getElem_mem hlt)).1;have hone:=(hp ps[j] (List.getElem_mem hlt)).2;have HSN:=Lib.hid hsn;clear hsn;have HX:=Lib.hid hxs;clear hxs;generalize hP:ps[j]=P0 at hc hb2 hrp hone;have HP:=Lib.hid hP;clear hP;generalize hS0:sumN (ps.take j)=S0 at hb2 hown ⊢;have HS0:=Lib.hid hS0;clear hS0;generalize hX0:(ps.take j).flatMap Part.xs=X0 at hown;have HX0:=Lib.hid hX0;clear hX0;clear hle';go_wp2_with (at_builtin;refine za5 rfl (.tmp 31) (.tmp 32) _ rfl w.heap.size 5 i0 _ 1 1 Tryz.underlying32 hi hz0 hz1 hz2 rfl (by omega) rfl hown rfl (hrp.step hb) hone (by simp only [maxLen];omega) hb2 hsz ?_;intro A' c' w2 hown2 hg2)
       go_roundw
       case rel=>exact ⟨j+1,A',c',by omega,by go_num,by rw [HSN.out,HP.out,HS0.out],by rw [HSN.out,HX.out,HP.out,HS0.out,HX0.out];exact hown2,hb.trans hg2.below⟩
       case measure=>simp [intOf];omega
     · obtain rfl:j=ps.length:=by omega
       rw [List.take_length,HS.out] at hown ⊢;go_wp2;go_ret;rw [HS.out];exact ⟨A,c,rfl,hown,hb⟩
def OwnB (w:World) (base:Nat) (v:Value) (l:List UInt8):Prop:=∃ A c,v=.slice A l.length c∧w.ownsRow base 5 1 (.slice A l.length c) l.length (za3 l)
theorem zay (sv:Value) (l:List UInt8) (K:Nat→Prop) (w:World) (hs:IsB w K sv l) :
 Calls Tryz.prog 66 #[sv] w fun e w'=>∃ A c,e=.returned (.slice A l.length c)∧w'.ownsRow w.heap.size 5 1 (.slice A l.length c) l.length (za3 l)∧Below w.heap.size w w':=by
 obtain ⟨A,c,rfl,hr,_,_,hl⟩:=hs;exact zfT A l.length c K (za3 l) w hr (zan l) (by omega)
theorem zeP (g c c2:Nat) (A A2:Option Addr) (l l2:List UInt8) (K:Nat→Prop) (w:World) (hs:za6 w (fun _=>True) 1 (some ⟨g,0,none⟩) 2 [.slice A l.length c,.slice A2 l2.length c2])
 (h1:za6 w K 1 A l.length (za3 l)) (h2:za6 w K 1 A2 l2.length (za3 l2)) (hl:l.length+l2.length≤140737488355328) :
 Calls Tryz.prog 181 #[.slice (some ⟨g,0,none⟩) 2 2] w fun e w'=>∃ A' c',e=.returned (.slice A' (l++l2).length c')∧w'.ownsRow w.heap.size 5 1 (.slice A' (l++l2).length c') (l++l2).length (za3 (l++l2))∧Below w.heap.size w w':=by
 have e1:sumN [⟨A,l.length,c,za3 l⟩,⟨A2,l2.length,c2,za3 l2⟩]=(l++l2).length:=by simp [sumN]
 have e2:[(⟨A,l.length,c,za3 l⟩:Part),⟨A2,l2.length,c2,za3 l2⟩].flatMap Part.xs=za3 (l++l2):=by simp [za3]
 have h:=zif (some ⟨g,0,none⟩) 2 2 (fun _=>True) K [⟨A,l.length,c,za3 l⟩,⟨A2,l2.length,c2,za3 l2⟩] w rfl hs (by
  intro p hp;simp only [List.mem_cons,List.not_mem_nil,or_false] at hp;rcases hp with rfl | rfl
  · exact ⟨h1,zan l⟩
  · exact ⟨h2,zan l2⟩) (by rw [e1];simp;omega) (by omega)
 rw [e1,e2] at h;exact h
theorem Tryz.infF:(Tryz.prog.info? 130).map (fun i=>(i.zero,i.size,i.bytes))=some (some (.agg #[.int .i64 0,.int .i64 0,.int .i64 0]),3,24):=by kernel_rfl
theorem zjx (A:Option Addr) (n c:Nat) (K:Nat→Prop) (xs:List Value) (w:World) (hr:za6 w K 3 A n xs) (h1:∀ u∈xs,u.oneCell'=true) (hn:n*24≤140737488355328) :
 Calls Tryz.prog 67 #[.slice A n c] w fun e w'=>∃ A' c',e=.returned (.slice A' n c')∧w'.ownsRow w.heap.size 130 3 (.slice A' n c') n xs∧Below w.heap.size w w':=by
 obtain ⟨i0,hi,hz0,hz1,hz2⟩:=info_parts Tryz.infF;rcases A with _ | ad
 · have hn0:n=0:=by
    rcases Nat.eq_zero_or_pos n with h | h
    · exact h
    · obtain ⟨_,h2,_⟩:=hr.2 h;cases h2
   subst hn0;have hx:xs=[]:=List.eq_nil_of_length_eq_zero (by simpa using hr.1)
   subst hx;have heq:=fun w=>Lib.run_eql_slice_nil (P:=Tryz.prog) w 28 130 none 0 c 0 0 Tryz.underlying28
   go_enter Tryz.func67,Tryz.ntmps67
   go_wp2;go_ret;exact ⟨none,0,rfl,World.ownsRow_nil _ _ _ _,Below.refl _ _⟩
 · have heq:=fun w=>Lib.run_eql_slice_nil (P:=Tryz.prog) w 28 130 (some ad) n c 0 0 Tryz.underlying28
   have hr':=hr.alloc (.cells #[] 130);go_enter Tryz.func67,Tryz.ntmps67
   go_wp2_with (at_builtin;refine za5 rfl _ _ _ rfl w.heap.size 130 i0 _ 3 24 Tryz.underlying28 hi hz0 hz1 hz2 rfl (by omega) rfl (zce _ _ _ _) rfl hr' h1 (by simp only [maxLen];omega) (by omega) (by simp) ?_;intro A' c' w1 hown1 hg1)
   go_ret;simp only [Nat.zero_add,List.nil_append] at hown1 ⊢;exact ⟨A',c',rfl,hown1,((Below.refl _ _).alloc (Nat.le_refl _) _).trans hg1.below⟩
theorem Tryz.infS:(Tryz.prog.info? 118).map (fun i=>(i.zero,i.size,i.bytes))=some (some (.agg #[.int .i64 0,.int .i64 0,.int .i64 0,.int .i64 0]),4,32):=by kernel_rfl
theorem zjD (A:Option Addr) (n c:Nat) (K:Nat→Prop) (xs:List Value) (w:World) (hr:za6 w K 4 A n xs) (h1:∀ u∈xs,u.oneCell'=true) (hn:n*32≤140737488355328) :
 Calls Tryz.prog 68 #[.slice A n c] w fun e w'=>∃ A' c',e=.returned (.slice A' n c')∧w'.ownsRow w.heap.size 118 4 (.slice A' n c') n xs∧Below w.heap.size w w':=by
 obtain ⟨i0,hi,hz0,hz1,hz2⟩:=info_parts Tryz.infS;rcases A with _ | ad
 · have hn0:n=0:=by
    rcases Nat.eq_zero_or_pos n with h | h
    · exact h
    · obtain ⟨_,h2,_⟩:=hr.2 h;cases h2
   subst hn0;have hx:xs=[]:=List.eq_nil_of_length_eq_zero (by simpa using hr.1)
   subst hx;have heq:=fun w=>Lib.run_eql_slice_nil (P:=Tryz.prog) w 29 118 none 0 c 0 0 Tryz.underlying29
   go_enter Tryz.func68,Tryz.ntmps68
   go_wp2;go_ret;exact ⟨none,0,rfl,World.ownsRow_nil _ _ _ _,Below.refl _ _⟩
 · have heq:=fun w=>Lib.run_eql_slice_nil (P:=Tryz.prog) w 29 118 (some ad) n c 0 0 Tryz.underlying29
   have hr':=hr.alloc (.cells #[] 118);go_enter Tryz.func68,Tryz.ntmps68
   go_wp2_with (at_builtin;refine za5 rfl _ _ _ rfl w.heap.size 118 i0 _ 4 32 Tryz.underlying29 hi hz0 hz1 hz2 rfl (by omega) rfl (zce _ _ _ _) rfl hr' h1 (by simp only [maxLen];omega) (by omega) (by simp) ?_;intro A' c' w1 hown1 hg1)
   go_ret;simp only [Nat.zero_add,List.nil_append] at hown1 ⊢;exact ⟨A',c',rfl,hown1,((Below.refl _ _).alloc (Nat.le_refl _) _).trans hg1.below⟩
end Go.Proofs.YthblkdnijhphhaaGreat
