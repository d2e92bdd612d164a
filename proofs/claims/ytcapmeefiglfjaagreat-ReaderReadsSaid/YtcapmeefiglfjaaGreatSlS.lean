/- A part of the proof. -/
import Derived.Test.YtcapmeefiglfjaaGreatRows
import Derived.Test.YtcapmeefiglfjaaGreatLib
import Derived.Lib.AppendZerosOnto
import Derived.Lib.Walk
set_option maxHeartbeats 1000000
set_option maxRecDepth 100000
namespace Go.Proofs.YtcapmeefiglfjaaGreat
open Go.RowKit
theorem Tryz.inf8:(Tryz.prog.info? 5).map (fun i=>(i.zero,i.size,i.bytes))=some (some (.int .u8 0),1,1):=by kernel_rfl
theorem qF (A:Option Addr) (n c:Nat) (K:Nat→Prop) (xs:List Value) (w:World) (hr:aG w K 1 A n xs) (h1:∀ u∈xs,u.oneCell'=true) (hn:n*1≤140737488355328) :
 Calls Tryz.prog 79 #[.slice A n c] w fun e w'=>∃ A' c',e=.returned (.slice A' n c')∧w'.ownsRow w.heap.size 5 1 (.slice A' n c') n xs∧Below w.heap.size w w':=by
 obtain ⟨i0,hi,hz0,hz1,hz2⟩:=ziH Tryz.inf8;rcases A with _ | ad
 · have hn0:n=0:=by
    rcases ziV n with h | h
    · exact h
    · obtain ⟨_,h2,_⟩:=hr.2 h;cases h2
   subst hn0;have hx:xs=[]:=zis (by simpa using hr.1)
   subst hx;have heq:=fun w=>zj6 (P:=Tryz.prog) w 31 5 none 0 c 0 0 Tryz.underlying31
   go_enter Tryz.func79,Tryz.ntmps79
   go_wp2;go_ret;exact ⟨none,0,rfl,zin _ _ _ _,zif _ _⟩
 · have heq:=fun w=>zj6 (P:=Tryz.prog) w 31 5 (some ad) n c 0 0 Tryz.underlying31
   have hr':=hr.alloc (.cells #[] 5);go_enter Tryz.func79,Tryz.ntmps79
   go_wp2_with (at_builtin;refine aF rfl _ _ _ rfl w.heap.size 5 i0 _ 1 1 Tryz.underlying31 hi hz0 hz1 hz2 rfl (by omega) rfl (fV _ _ _ _) rfl hr' h1 (by simp only [maxLen];omega) (by omega) (by simp) ?_;intro A' c' w1 hown1 hg1)
   go_ret;simp only [zj5,List.nil_append] at hown1 ⊢;exact ⟨A',c',rfl,hown1,(zBA).trans hg1.below⟩
theorem zdf (n:Nat) (w:World) (hn:n*1≤140737488355328) :
 Calls Tryz.prog 225 #[.slice none 0 0,.int .i64 n] w fun e w'=>∃ A' c',e=.returned (.slice A' 0 c')∧w'.ownsRow w.heap.size 5 1 (.slice A' 0 c') 0 []∧Below w.heap.size w w':=by
 obtain ⟨i0,hi,hz0,hz1,hz2⟩:=ziH Tryz.inf8;rcases ziV n with h0 | h0
 · subst h0
   go_enter Tryz.func225,Tryz.ntmps225
   go_wp2;go_ret;exact ⟨none,0,rfl,zin _ _ _ _,zif _ _⟩
 · have hold:(Builtin.firstCells i0.size 0 (.slice none 0 0)).run Tryz.prog w.drew=.ok ([]:List Value).toArray w.drew:=run_firstCells_none w.drew i0.size 0 0 0
   have hrz:∀ ty,(Builtin.append_ #[31,3] ty #[.slice none 0 0,.int .i64 (n:Int)]).run Tryz.prog w =
    .ok (.slice (some ⟨w.heap.size,0,none⟩) n (grownCap w n 0 5)) (w.drew.alloc (.cells (([]:List Value).toArray++Builtin.zeroCells (.int .u8 0:Value).cells n++Builtin.zeroCells (.int .u8 0:Value).cells (grownCap w n 0 5-n)) 5)):=fun ty=>by
    have h:=Lib.run_append_grow_zeros w 31 3 ty 5 i0 (.int .u8 0:Value) .i64 .i64 Tryz.underlying31 Tryz.underlying3 hi hz0 none 0 0 [] hold n (by omega) (by omega) (by omega) (by omega)
     (by rw [hz2];omega) (by rw [hz2];simp only [zj5];exact zkw h0 hn)
    simp only [zj5] at h;exact h
   have hGn:n≤grownCap w n 0 5:=zkx w _ _ _;have hGm:grownCap w n 0 5≤maxLen:=zjL w n 0 5 (by unfold maxLen;omega)
   generalize grownCap w n 0 5=G at hrz hGn hGm;have hG63:G≤9223372036854775807:=by unfold maxLen at hGm;omega
   have hcs:(([]:List Value).toArray++Builtin.zeroCells (.int .u8 0:Value).cells n++Builtin.zeroCells (.int .u8 0:Value).cells (G-n)).size=G*1:=by
    have e:(.int .u8 0:Value).cells.size=1:=rfl;simp only [zjP,zko,e,ziO,List.length_nil];omega
   generalize ([]:List Value).toArray++Builtin.zeroCells (.int .u8 0:Value).cells n++Builtin.zeroCells (.int .u8 0:Value).cells (G-n)=cs at hrz hcs;have HM:=zia hGm;clear hGm;have HC:=zia hcs;clear hcs;clear hold;go_enter Tryz.func225,Tryz.ntmps225
   go_wp2_with (at_builtin;refine Lib.wpList_append_run _ rfl _ _ _ _ rfl _ _ rfl rfl _ _ (hrz _) ?_);all_goals
    go_ret;exact ⟨_,G,rfl,World.ownsRow_made w.drew cs G (zic _) HM.out HC.out,(zif _ _).drew.alloc (zic _) _⟩
theorem zP (SA:Option Addr) (k sc:Nat) (K K':Nat→Prop) (ps:List mY) (w:World) (hk:ps.length=k) (hs:aG w K 1 SA k (ps.map mY.v))
 (hp:∀ p∈ps,aG w K' 1 p.A p.n p.xs∧∀ u∈p.xs,u.oneCell'=true) (hn:eC ps*1≤140737488355328) (hk63:k≤9223372036854775807) :
 Calls Tryz.prog 198 #[.slice SA k sc] w fun e w'=>∃ A' c',e=.returned (.slice A' (eC ps) c')∧w'.ownsRow w.heap.size 5 1 (.slice A' (eC ps) c') (eC ps) (ps.flatMap mY.xs)∧Below w.heap.size w w':=by
 obtain ⟨i0,hi,hz0,hz1,hz2⟩:=ziH Tryz.inf8;subst hk;have HN:=zia hn;clear hn;go_enter Tryz.func198,Tryz.ntmps198
 go_wp2;go_loop [3,5,11] (fun size _ i=>∃ j:Nat,j≤ps.length∧i=.int .i64 j∧size=.int .i64 (eC (ps.take j))) (fun _ _ i=>ps.length-(intOf i).toNat)
 case atStart=>exact ⟨0,zir _,rfl,rfl⟩
 case round=>
  obtain ⟨j,hj,rfl,rfl⟩:=hrel;have hle:=gH ps j;have hle63:eC (ps.take j)≤140737488355328:=by have:=HN.out;omega
  by_cases hlt:j<ps.length
  · obtain ⟨ad,u,rfl,hbB,hu,hc⟩:=hs.at_ hlt
    simp only [zj1,zib hlt,Option.map_some,ziL] at hu;subst hu;unfold mY.v at hc;have hsn:=lQ ps hlt;have hle':=gH ps (j+1);have hb2:eC (ps.take j)+ps[j].n≤140737488355328:=by have:=HN.out;omega
    have hnn:¬((eC (ps.take j):Int)+(ps[j].n:Int)<0):=by omega
    have HS:=zia hsn;clear hsn;generalize hP:ps[j]=P0 at hc hb2 hnn;have HP:=zia hP;clear hP;generalize hS0:eC (ps.take j)=S0 at hb2 hnn hle hle63 ⊢;have HS0:=zia hS0;clear hS0;clear hle hle';go_wp2;go_round
    case rel=>exact ⟨j+1,by omega,by go_num,by rw [HS.out,HP.out,HS0.out];go_num⟩
    case measure=>simp [intOf];omega
  · obtain rfl:j=ps.length:=by omega
    have ht:eC (ps.take ps.length)=eC ps:=by rw [ziQ]
    rw [ht] at hle63 ⊢;clear ht hle;generalize hS:eC ps=S at hle63 ⊢;have HS:=zia hS;clear hS;go_wp2_with (go_at_call 225;refine (zdf S w (by have:=HN.out;have:=HS.out;omega)).mono ?_;rintro e w1 ⟨A1,c1,rfl,hown1,hb1⟩)
    go_loopw [6,8,27] (fun v _ i wr=>∃ (j:Nat) (A:Option Addr) (c:Nat),j≤ps.length∧i=.int .i64 j∧v=.slice A (eC (ps.take j)) c∧wr.ownsRow w.heap.size 5 1 (.slice A (eC (ps.take j)) c) (eC (ps.take j)) ((ps.take j).flatMap mY.xs)∧Below w.heap.size w wr) (fun _ _ i _=>ps.length-(intOf i).toNat)
    case atStart=>exact ⟨0,A1,c1,zir _,rfl,rfl,hown1,hb1⟩
    case round=>
     obtain ⟨j,A,c,hj,rfl,rfl,hown,hb⟩:=hrel;have hsz:=hb.size;by_cases hlt:j<ps.length
     · obtain ⟨ad,u,rfl,hbB,hu,hc⟩:=(hs.step hb).at_ hlt
       simp only [zj1,zib hlt,Option.map_some,ziL] at hu;subst hu;unfold mY.v at hc;have hsn:=lQ ps hlt;have hle':=gH ps (j+1);have hxs:=xH ps hlt;have hb2:(eC (ps.take j)+ps[j].n)*1≤140737488355328:=by have:=HN.out;rw [←hsn];omega
       have hrp:=(hp ps[j] (ziD hlt)).1;have hone:=(hp ps[j] (ziD hlt)).2;have HSN:=zia hsn;clear hsn;have HX:=zia hxs;clear hxs;generalize hP:ps[j]=P0 at hc hb2 hrp hone;have HP:=zia hP;clear hP;generalize hS0:eC (ps.take j)=S0 at hb2 hown ⊢;have HS0:=zia hS0;clear hS0;generalize hX0:(ps.take j).flatMap mY.xs=X0 at hown;have HX0:=zia hX0;clear hX0;clear hle';go_wp2_with (at_builtin;refine aF rfl (.tmp 31) (.tmp 32) _ rfl w.heap.size 5 i0 _ 1 1 Tryz.underlying31 hi hz0 hz1 hz2 rfl (by omega) rfl hown rfl (hrp.step hb) hone (by simp only [maxLen];omega) hb2 hsz ?_;intro A' c' w2 hown2 hg2)
       go_roundw
       case rel=>exact ⟨j+1,A',c',by omega,by go_num,by rw [HSN.out,HP.out,HS0.out],by rw [HSN.out,HX.out,HP.out,HS0.out,HX0.out];exact hown2,hb.trans hg2.below⟩
       case measure=>simp [intOf];omega
     · obtain rfl:j=ps.length:=by omega
       rw [ziQ,HS.out] at hown ⊢;go_wp2;go_ret;rw [HS.out];exact ⟨A,c,rfl,hown,hb⟩
def zi4 (w:World) (base:Nat) (v:Value) (l:List UInt8):Prop:=∃ A c,v=.slice A l.length c∧w.ownsRow base 5 1 (.slice A l.length c) l.length (aE l)
theorem cE (sv:Value) (l:List UInt8) (K:Nat→Prop) (w:World) (hs:IsB w K sv l) :
 Calls Tryz.prog 79 #[sv] w fun e w'=>∃ A c,e=.returned (.slice A l.length c)∧w'.ownsRow w.heap.size 5 1 (.slice A l.length c) l.length (aE l)∧Below w.heap.size w w':=by
 obtain ⟨A,c,rfl,hr,_,_,hl⟩:=hs;exact qF A l.length c K (aE l) w hr (aW l) (by omega)
theorem oR (g c c2:Nat) (A A2:Option Addr) (l l2:List UInt8) (K:Nat→Prop) (w:World) (hs:aG w (fun _=>True) 1 (some ⟨g,0,none⟩) 2 [.slice A l.length c,.slice A2 l2.length c2])
 (h1:aG w K 1 A l.length (aE l)) (h2:aG w K 1 A2 l2.length (aE l2)) (hl:l.length+l2.length≤140737488355328) :
 Calls Tryz.prog 198 #[.slice (some ⟨g,0,none⟩) 2 2] w fun e w'=>∃ A' c',e=.returned (.slice A' (l++l2).length c')∧w'.ownsRow w.heap.size 5 1 (.slice A' (l++l2).length c') (l++l2).length (aE (l++l2))∧Below w.heap.size w w':=by
 have e1:eC [⟨A,l.length,c,aE l⟩,⟨A2,l2.length,c2,aE l2⟩]=(l++l2).length:=by simp [eC]
 have e2:[(⟨A,l.length,c,aE l⟩:mY),⟨A2,l2.length,c2,aE l2⟩].flatMap mY.xs=aE (l++l2):=by simp [aE]
 have h:=zP (some ⟨g,0,none⟩) 2 2 (fun _=>True) K [⟨A,l.length,c,aE l⟩,⟨A2,l2.length,c2,aE l2⟩] w rfl hs (by
  intro p hp;simp only [zim,ziJ,zju] at hp;rcases hp with rfl | rfl
  · exact ⟨h1,aW l⟩
  · exact ⟨h2,aW l2⟩) (by rw [e1];simp;omega) (by omega)
 rw [e1,e2] at h;exact h
theorem Tryz.infF:(Tryz.prog.info? 138).map (fun i=>(i.zero,i.size,i.bytes))=some (some (.agg #[.int .i64 0,.int .i64 0,.int .i64 0]),3,24):=by kernel_rfl
theorem zby (A:Option Addr) (n c:Nat) (K:Nat→Prop) (xs:List Value) (w:World) (hr:aG w K 3 A n xs) (h1:∀ u∈xs,u.oneCell'=true) (hn:n*24≤140737488355328) :
 Calls Tryz.prog 80 #[.slice A n c] w fun e w'=>∃ A' c',e=.returned (.slice A' n c')∧w'.ownsRow w.heap.size 138 3 (.slice A' n c') n xs∧Below w.heap.size w w':=by
 obtain ⟨i0,hi,hz0,hz1,hz2⟩:=ziH Tryz.infF;rcases A with _ | ad
 · have hn0:n=0:=by
    rcases ziV n with h | h
    · exact h
    · obtain ⟨_,h2,_⟩:=hr.2 h;cases h2
   subst hn0;have hx:xs=[]:=zis (by simpa using hr.1)
   subst hx;have heq:=fun w=>zj6 (P:=Tryz.prog) w 27 138 none 0 c 0 0 Tryz.underlying27
   go_enter Tryz.func80,Tryz.ntmps80
   go_wp2;go_ret;exact ⟨none,0,rfl,zin _ _ _ _,zif _ _⟩
 · have heq:=fun w=>zj6 (P:=Tryz.prog) w 27 138 (some ad) n c 0 0 Tryz.underlying27
   have hr':=hr.alloc (.cells #[] 138);go_enter Tryz.func80,Tryz.ntmps80
   go_wp2_with (at_builtin;refine aF rfl _ _ _ rfl w.heap.size 138 i0 _ 3 24 Tryz.underlying27 hi hz0 hz1 hz2 rfl (by omega) rfl (fV _ _ _ _) rfl hr' h1 (by simp only [maxLen];omega) (by omega) (by simp) ?_;intro A' c' w1 hown1 hg1)
   go_ret;simp only [zj5,List.nil_append] at hown1 ⊢;exact ⟨A',c',rfl,hown1,(zBA).trans hg1.below⟩
theorem Tryz.infS:(Tryz.prog.info? 126).map (fun i=>(i.zero,i.size,i.bytes))=some (some (.agg #[.int .i64 0,.int .i64 0,.int .i64 0,.int .i64 0]),4,32):=by kernel_rfl
theorem zbB (A:Option Addr) (n c:Nat) (K:Nat→Prop) (xs:List Value) (w:World) (hr:aG w K 4 A n xs) (h1:∀ u∈xs,u.oneCell'=true) (hn:n*32≤140737488355328) :
 Calls Tryz.prog 81 #[.slice A n c] w fun e w'=>∃ A' c',e=.returned (.slice A' n c')∧w'.ownsRow w.heap.size 126 4 (.slice A' n c') n xs∧Below w.heap.size w w':=by
 obtain ⟨i0,hi,hz0,hz1,hz2⟩:=ziH Tryz.infS;rcases A with _ | ad
 · have hn0:n=0:=by
    rcases ziV n with h | h
    · exact h
    · obtain ⟨_,h2,_⟩:=hr.2 h;cases h2
   subst hn0;have hx:xs=[]:=zis (by simpa using hr.1)
   subst hx;have heq:=fun w=>zj6 (P:=Tryz.prog) w 28 126 none 0 c 0 0 Tryz.underlying28
   go_enter Tryz.func81,Tryz.ntmps81
   go_wp2;go_ret;exact ⟨none,0,rfl,zin _ _ _ _,zif _ _⟩
 · have heq:=fun w=>zj6 (P:=Tryz.prog) w 28 126 (some ad) n c 0 0 Tryz.underlying28
   have hr':=hr.alloc (.cells #[] 126);go_enter Tryz.func81,Tryz.ntmps81
   go_wp2_with (at_builtin;refine aF rfl _ _ _ rfl w.heap.size 126 i0 _ 4 32 Tryz.underlying28 hi hz0 hz1 hz2 rfl (by omega) rfl (fV _ _ _ _) rfl hr' h1 (by simp only [maxLen];omega) (by omega) (by simp) ?_;intro A' c' w1 hown1 hg1)
   go_ret;simp only [zj5,List.nil_append] at hown1 ⊢;exact ⟨A',c',rfl,hown1,(zBA).trans hg1.below⟩
