/- A part of the proof. -/
import Derived.Test.YtfhpolidjmbjoaaGreatPackLive
import Derived.Test.YtfhpolidjmbjoaaGreatZnsDo
set_option linter.unusedSimpArgs false
set_option maxHeartbeats 4000000
set_option maxRecDepth 100000
namespace Go.Proofs.YtfhpolidjmbjoaaGreat
open Go.RowKit
def IsDK (w:World) (K:Nat→Prop) (v:Value) (d:Zd):Prop:=∃ A c,v=.agg #[.int .i64 d.cap,.int .i64 d.opn,.int .i64 d.act,.slice A d.z.length c]∧IsL Rp.zone w K (.slice A d.z.length c) d.z
theorem znewK_any (zones most opn act:Int) (w:World) :
 Calls Tryz.prog 8 #[.int .i64 zones,.int .i64 most,.int .i64 opn,.int .i64 act] w fun e w'=>∃ v,e=.returned (.tuple #[v,.int .i64 (newD zones most opn act).2])∧IsDK w' (fun b=>w.heap.size≤b) v (newD zones most opn act).1∧Below w.heap.size w w':=by
 obtain ⟨res,hres⟩:∃ res,newD zones most opn act=res:=⟨_,rfl⟩;rw [hres];have HRES:=Lib.hid hres;clear hres;obtain ⟨i0,hi,hz0,hz1,hz2⟩:=info_parts Tryz.infZ;have hb0:Below w.heap.size w (w.alloc (.cells #[.int .i64 0,.int .i64 0,.int .i64 0,.slice none 0 0] 34)):=(Below.refl _ _).alloc (Nat.le_refl _) _;by_cases hz:zones<1∨64<zones
 · have hr:res=(⟨0,0,0,[]⟩,1):=by rw [←HRES.out];exact if_pos hz
   subst hr;clear HRES;have hb:(zones<1)∨(¬zones<1∧64<zones):=by omega
   clear hz;rcases hb with h | ⟨h,h'⟩
   all_goals
    go_enter Tryz.func8,Tryz.ntmps8
    go_wp2;refine bodyPost_ret (v:=.tuple #[.agg #[.int .i64 0,.int .i64 0,.int .i64 0,.slice none 0 0],.int .i64 1]) (by simp [results,Tryz.results8,go_sem]) rfl ⟨_,rfl,⟨none,0,rfl,IsL.nil_ _ _⟩,hb0⟩
 · have h1:¬zones<1:=fun h=>hz (.inl h)
   have h2:¬64<zones:=fun h=>hz (.inr h)
   obtain ⟨n,rfl⟩:∃ n:Nat,zones=n:=⟨zones.toNat,by omega⟩
   obtain ⟨d,hd⟩:∃ d:Zd,d=⟨most,opn,act,List.replicate n z0⟩:=⟨_,rfl⟩;have hr:res=if chkD d=0 then (d,0) else (⟨0,0,0,[]⟩,1):=by
    rw [←HRES.out,hd];unfold newD;rw [if_neg hz,Int.toNat_natCast]
   have hlen:n=d.z.length:=by rw [hd,List.length_replicate]
   have HR:=Lib.hid hr;have HD:=Lib.hid hd;clear hr HRES hd;have hm1:most=d.cap:=by rw [HD.out]
   have hm2:opn=d.opn:=by rw [HD.out]
   have hm3:act=d.act:=by rw [HD.out]
   subst hm1 hm2 hm3;have hn64:n≤64:=by omega
   subst hlen;go_enter Tryz.func8,Tryz.ntmps8
   go_wp2_with (at_make;refine wpList_make_full _ rfl _ _ 32 rfl (w.heap.size+1) 80 i0 _ 3 Tryz.underlying32 hi hz0 hz1 _ _ _ _ d.z.length rfl rfl (by omega) (by omega) (by rw [hz2];omega) (by unfold maxLen;omega) (by rw [World.size_alloc];omega) ?_;intro w1 how hg1)
   have hbn:Below (w.heap.size+1) (w.alloc (.cells #[.int .i64 0,.int .i64 0,.int .i64 0,.slice none 0 0] 34)) w1:=⟨hg1.os,hg1.tape,hg1.output,hg1.size,fun k hk=>hg1.block k (by rw [World.size_alloc];omega) (by simp)⟩
   have hb1:Below w.heap.size w w1:=hb0.trans (hbn.mono (by omega))
   have hB1:=(Blk.new w 34 #[.int .i64 0,.int .i64 0,.int .i64 0,.slice none 0 0] rfl).step (by rw [World.size_alloc];exact hbn)
   have hL1:IsL Rp.zone w1 (fun b=>w.heap.size+1≤b) (.slice (some ⟨w.heap.size+1,0,none⟩) d.z.length d.z.length) d.z:=by
    have e1:(madeCells (Value.agg #[.int .i64 0,.int .i64 0,.slice none 0 0]).cells (d.z.length*3)).toList=(List.replicate d.z.length [.int .i64 0,.int .i64 0,.slice none 0 0]).flatten:=made_flat #[.int .i64 0,.int .i64 0,.slice none 0 0] d.z.length;rw [World.size_alloc,e1] at how;have hz:d.z=List.replicate d.z.length z0:=congrArg Zd.z HD.out;have hc:=cells_z0 w1 (fun b=>w.heap.size+1≤b) d.z.length
    rw [←hz] at hc;exact ⟨_,_,_,rfl,Reads.of_own_ge how,hc,Nat.le_refl _,by omega,by omega⟩
   refine (zchk_any d _ _ _ (hL1.alloc _)).mono ?_;rintro e w2 ⟨rfl,hb2⟩;have E:=(((Kn.from_ hb1 hb1.size).know hB1).give Stable.list hL1).push 34 #[.int .i64 d.cap,.int .i64 d.opn,.int .i64 d.act,.slice (some ⟨w.heap.size+1,0,none⟩) d.z.length d.z.length] |>.step hb2
   clear hL1 hB1 hb1 hbn hg1 how hb2;obtain ⟨q0,f0,t0⟩:=E.rules m0;obtain ⟨q1,f1,t1⟩:=E.rules m1;by_cases hk:chkD d=0
   · rw [hk]
     have hr:=HR.out;rw [if_pos hk] at hr;subst hr;clear hk HR HD;go_wp2;have hA:=((((E.at_ m1).set_ 0 (.int .i64 d.cap)).set_ 1 (.int .i64 d.opn)).set_ 2 (.int .i64 d.act)).set_ 3 (.slice (some ⟨w.heap.size+1,0,none⟩) d.z.length d.z.length);have ht:=((((Turned.refl w2 (fun b=>b=w.heap.size)).set (g:=w.heap.size) rfl 0 (.int .i64 d.cap)).set (g:=w.heap.size) rfl 1 (.int .i64 d.opn)).set (g:=w.heap.size) rfl 2 (.int .i64 d.act)).set (g:=w.heap.size) rfl 3 (.slice (some ⟨w.heap.size+1,0,none⟩) d.z.length d.z.length)
     generalize (((w2.setCell ⟨w.heap.size,0,none⟩ (.int .i64 d.cap)).setCell ⟨w.heap.size,1,none⟩ (.int .i64 d.opn)).setCell ⟨w.heap.size,2,none⟩ (.int .i64 d.act)).setCell ⟨w.heap.size,3,none⟩ (.slice (some ⟨w.heap.size+1,0,none⟩) d.z.length d.z.length)=w9 at hA ht ⊢;obtain ⟨q9,f9⟩:=hA.rules;refine bodyPost_ret (v:=.tuple #[.agg #[.int .i64 d.cap,.int .i64 d.opn,.int .i64 d.act,.slice (some ⟨w.heap.size+1,0,none⟩) d.z.length d.z.length],.int .i64 0]) (by simp [results,Tryz.results8,go_sem,q9]) rfl ⟨_,rfl,⟨_,_,rfl,?_⟩,?_⟩
     · exact ((E.get m0).turned ht (fun b hb=>by omega)).more fun b hb=>by omega
     · exact E.below.trans (ht.below (fun b hb=>by omega) E.below.size)
   · have hk1:chkD d=1:=by
      unfold chkD at hk ⊢;split
      · rename_i h;rw [if_pos h] at hk;exact absurd rfl hk
      · rfl
     rw [hk1];have hr:=HR.out;rw [if_neg hk] at hr;subst hr;clear hk hk1 HR HD;go_wp2;have hA:=((((E.at_ m1).set_ 0 (.int .i64 0)).set_ 1 (.int .i64 0)).set_ 2 (.int .i64 0)).set_ 3 (.slice none 0 0);have ht:=((((Turned.refl w2 (fun b=>b=w.heap.size)).set (g:=w.heap.size) rfl 0 (.int .i64 0)).set (g:=w.heap.size) rfl 1 (.int .i64 0)).set (g:=w.heap.size) rfl 2 (.int .i64 0)).set (g:=w.heap.size) rfl 3 (.slice none 0 0)
     generalize (((w2.setCell ⟨w.heap.size,0,none⟩ (.int .i64 0)).setCell ⟨w.heap.size,1,none⟩ (.int .i64 0)).setCell ⟨w.heap.size,2,none⟩ (.int .i64 0)).setCell ⟨w.heap.size,3,none⟩ (.slice none 0 0)=w9 at hA ht ⊢;obtain ⟨q9,f9⟩:=hA.rules;refine bodyPost_ret (v:=.tuple #[.agg #[.int .i64 0,.int .i64 0,.int .i64 0,.slice none 0 0],.int .i64 1]) (by simp [results,Tryz.results8,go_sem,q9]) rfl ⟨_,rfl,⟨none,0,rfl,IsL.nil_ _ _⟩,?_⟩
     exact E.below.trans (ht.below (fun b hb=>by omega) E.below.size)
end Go.Proofs.YtfhpolidjmbjoaaGreat
