/- A part of the proof. -/
import Derived.Test.YthblkdnijhphhaaGreatMapP
import Derived.Test.YthblkdnijhphhaaGreatSlS
set_option maxHeartbeats 1600000
set_option maxRecDepth 100000
namespace Go.Proofs.YthblkdnijhphhaaGreat
def stepC (r:Nat):Nat:=(r / 2) ^^^ (if r % 2=1 then 2197175160 else 0)
def tabC (i:Nat):Nat:=stepC (stepC (stepC (stepC (stepC (stepC (stepC (stepC i)))))))
def goC (r:Nat) (x:UInt8):Nat:=(r / 256) ^^^ tabC ((r % 256) ^^^ x.toNat)
def crcL (b:List UInt8):Nat:=4294967295 ^^^ b.foldl goC 4294967295
theorem zbs {r:Nat} (h:r<4294967296):stepC r<4294967296:=by
 unfold stepC;have:(4294967296:Nat)=2 ^ 32:=rfl;rw [this] at h ⊢;refine Nat.xor_lt_two_pow (by omega) ?_
 split <;> omega
theorem zlj {r:Nat} (h:r<4294967296):tabC r<4294967296:=by
 unfold tabC;exact zbs (zbs (zbs (zbs (zbs (zbs (zbs (zbs h)))))))
theorem znp (r:Nat) (x:UInt8):(r % 256) ^^^ x.toNat<256:=by
 have:(256:Nat)=2 ^ 8:=rfl;have hx:=x.toNat_lt;rw [this];exact Nat.xor_lt_two_pow (by omega) (by omega)
theorem zoZ {r:Nat} (x:UInt8) (h:r<4294967296):goC r x<4294967296:=by
 have h1:=znp r x;have h2:tabC ((r % 256) ^^^ x.toNat)<4294967296:=zlj (by omega)
 have:(4294967296:Nat)=2 ^ 32:=rfl;unfold goC;rw [this] at h2 ⊢;exact Nat.xor_lt_two_pow (by omega) h2
theorem zgd (b:List UInt8):∀ r,r<4294967296→b.foldl goC r<4294967296:=by
 induction b with
 | nil=>intro r h;exact h
 | cons x b ih=>intro r h;exact ih _ (zoZ x h)
theorem zi6 (b:List UInt8):crcL b<4294967296:=by
 have h:=zgd b 4294967295 (by omega)
 have:(4294967296:Nat)=2 ^ 32:=rfl;unfold crcL;rw [this] at h ⊢;exact Nat.xor_lt_two_pow (by omega) h
end Go.Proofs.YthblkdnijhphhaaGreat
namespace Go.Proofs.YthblkdnijhphhaaGreat
open Go.RowKit
structure TabC (w:World) (g:Nat) (n s:Int) (t:Nat→Nat) (u:Int):Prop where
 lt:g<w.heap.size
 free:∀ o,w.frozen? ⟨g,o,none⟩=false
 done:w.cell? ⟨g,0,none⟩=some (.int .u32 n)
 lock:w.cell? ⟨g,1,none⟩=some (.int .i32 s)
 tab:∀ i,i<256→w.cell? ⟨g,3+i,none⟩=some (.int .u32 (t i))
 used:w.cell? ⟨g,259,none⟩=some (.int .i64 u)
section
variable {w w':World} {g:Nat} {n s:Int} {t:Nat→Nat} {u:Int}
theorem zaC (w:World) (g i o:Nat) (x:Value) {y:Value} (hy:w.cell? ⟨g,o,none⟩=some y):(w.setCell ⟨g,i,none⟩ x).cell? ⟨g,o,none⟩=some (if o=i then x else y):=by
 by_cases h:o=i
 · subst h;rw [if_pos rfl];exact World.cell?_setCell_same w _ _ hy
 · rw [if_neg h];exact (World.cell?_setCell_other _ ⟨g,i,none⟩ ⟨g,o,none⟩ _ (by simp;try omega)).trans hy
theorem TabC.drew (h:TabC w g n s t u):TabC w.drew g n s t u:=⟨h.lt,h.free,h.done,h.lock,h.tab,h.used⟩
theorem TabC.setT (h:TabC w g n s t u) {i:Nat} (hi:i<256) (x:Nat):TabC (w.setCell ⟨g,3+i,none⟩ (.int .u32 x)) g n s (fun k=>if k=i then x else t k) u:=
 ⟨by simpa using h.lt,fun o=>by simpa using h.free o,by simpa [show ¬(0=3+i) by omega] using zaC w g (3+i) 0 (.int .u32 x) h.done,by simpa [show ¬(1=3+i) by omega] using zaC w g (3+i) 1 (.int .u32 x) h.lock,
  fun k hk=>by
   have:=zaC w g (3+i) (3+k) (.int .u32 x) (h.tab k hk);by_cases hki:k=i
   · subst hki;simpa using this
   · rw [if_neg (by omega)] at this;rw [this];simp [hki],
  by simpa [show ¬(259=3+i) by omega] using zaC w g (3+i) 259 (.int .u32 x) h.used⟩
theorem TabC.setN (h:TabC w g n s t u) (x:Int):TabC (w.setCell ⟨g,0,none⟩ (.int .u32 x)) g x s t u:=
 ⟨by simpa using h.lt,fun o=>by simpa using h.free o,by simpa using zaC w g 0 0 (.int .u32 x) h.done,by simpa using zaC w g 0 1 (.int .u32 x) h.lock,
  fun k hk=>by simpa [show ¬(3+k=0) by omega] using zaC w g 0 (3+k) (.int .u32 x) (h.tab k hk),by simpa using zaC w g 0 259 (.int .u32 x) h.used⟩
theorem TabC.setS (h:TabC w g n s t u) (x:Int):TabC (w.setCell ⟨g,1,none⟩ (.int .i32 x)) g n x t u:=
 ⟨by simpa using h.lt,fun o=>by simpa using h.free o,by simpa using zaC w g 1 0 (.int .i32 x) h.done,by simpa using zaC w g 1 1 (.int .i32 x) h.lock,
  fun k hk=>by simpa [show ¬(3+k=1) by omega] using zaC w g 1 (3+k) (.int .i32 x) (h.tab k hk),by simpa using zaC w g 1 259 (.int .i32 x) h.used⟩
theorem TabC.setU (h:TabC w g n s t u) (x:Int):TabC (w.setCell ⟨g,259,none⟩ (.int .i64 x)) g n s t x:=
 ⟨by simpa using h.lt,fun o=>by simpa using h.free o,by simpa using zaC w g 259 0 (.int .i64 x) h.done,by simpa using zaC w g 259 1 (.int .i64 x) h.lock,
  fun k hk=>by simpa [show ¬(3+k=259) by omega] using zaC w g 259 (3+k) (.int .i64 x) (h.tab k hk),by simpa using zaC w g 259 259 (.int .i64 x) h.used⟩
end
def stepsC:Nat→Nat→Nat
 | 0,r=>r
 | k+1,r=>stepC (stepsC k r)
theorem zmX (r:Nat):stepsC 8 r=tabC r:=rfl
theorem zh4 {r:Nat} (h:r<4294967296):∀ k,stepsC k r<4294967296
 | 0=>h
 | k+1=>zbs (zh4 h k)
theorem zjz (r:Nat) (h:r<4294967296):bits BinOp.xor IntKind.u32 ((r:Int) / 2) (bits BinOp.and IntKind.u32 2197175160 (-bits BinOp.and IntKind.u32 (r:Int) 1 % 4294967296))=((stepC r:Nat):Int):=by
 have h1:bits BinOp.and IntKind.u32 (r:Int) 1=((r % 2:Nat):Int):=by rw [show (1:Int)=((1:Nat):Int) from rfl,u32_and_nat _ _ h (by omega),Nat.and_one_is_mod]
 have h2:(-((r % 2:Nat):Int)) % 4294967296=((if r % 2=1 then 4294967295 else 0:Nat):Int):=by split <;> omega
 have h3:2197175160 &&& (if r % 2=1 then 4294967295 else 0:Nat)=(if r % 2=1 then 2197175160 else 0:Nat):=by split <;> decide
 rw [h1,h2,show (2197175160:Int)=((2197175160:Nat):Int) from rfl,u32_and_nat _ _ (by omega) (by split <;> omega),h3,show (r:Int) / 2=((r / 2:Nat):Int) by omega,u32_xor_nat _ _ (by omega) (by split <;> omega)]
 rfl
theorem zmh (g:Nat) (n s:Int) (t:Nat→Nat) (u:Int) (w:World) (hT:TabC w g n s t u) :
 Calls Tryz.prog 217 #[.pointer (some ⟨g,0,none⟩)] w fun e w'=>e=.returned (.tuple #[])∧TabC w' g n s tabC u∧za0 w w' (· = g):=by
 go_enter Tryz.func217,Tryz.ntmps217
 go_wp2;go_loopw [4] (fun i wr=>∃ (j:Nat) (t:Nat→Nat),i=.int .i64 j∧j≤256∧(∀ k,k<j→t k=tabC k)∧TabC wr g n s t u∧za0 w wr (· = g)) (fun i _=>256-(intOf i).toNat)
 case atStart=>exact ⟨0,t,rfl,by omega,fun k hk=>by omega,hT,za0.refl _ _⟩
 case round=>
  obtain ⟨j,t1,rfl,hj,ht,hT1,hb⟩:=hrel;by_cases hlt:j<256
  · obtain ⟨wo,rfl⟩:∃ wo:World,wo=wr:=⟨_,rfl⟩
    go_wp2;go_loopw [3,9] (fun r k wx=>∃ (c:Nat),r=.int .u32 (stepsC c j:Nat)∧k=.int .i64 c∧c≤8∧wx=wo) (fun _ k _=>8-(intOf k).toNat)
    case atStart=>exact ⟨0,by go_num,rfl,by omega,rfl⟩
    case round=>
     obtain ⟨c,rfl,rfl,hc,rfl⟩:=hrel;have hr:=zh4 (r:=j) (by omega) c
     by_cases hc8:c<8
     · go_wp2
       go_roundw
       case rel=>
        refine ⟨c+1,?_,by go_num,by omega,trivial⟩
        rw [zjz _ hr];rfl
       case measure=>simp [intOf];omega
     · obtain rfl:c=8:=by omega
       have hcell:=hT1.tab j hlt;have hfr:=hT1.free;go_wp2;refine ⟨⟨j+1,_,by go_num,by omega,?_,hT1.setT hlt _,hb.set rfl _ _⟩,by simp [intOf];omega⟩
       intro k hk;by_cases hkj:k=j
       · rw [if_pos hkj,hkj];exact zmX j
       · rw [if_neg hkj];exact ht k (by omega)
  · go_wp2
    obtain rfl:j=256:=by omega
    go_end0;refine ⟨rfl,?_,hb⟩;refine ⟨hT1.lt,hT1.free,hT1.done,hT1.lock,fun i hi=>?_,hT1.used⟩
    rw [←ht i hi];exact hT1.tab i hi
end Go.Proofs.YthblkdnijhphhaaGreat
namespace Go.Proofs.YthblkdnijhphhaaGreat
theorem zfm (w:World):(callFunc 237 #[]).run Tryz.prog w=.ok (.value (.tuple #[])) w:=run_call_mark0 Tryz.func237 (by kernel_rfl) (by kernel_rfl) (by kernel_rfl) .disable (by kernel_rfl) w
theorem zfW (w:World):(callFunc 239 #[]).run Tryz.prog w=.ok (.value (.tuple #[])) w:=run_call_mark0 Tryz.func239 (by kernel_rfl) (by kernel_rfl) (by kernel_rfl) .enable (by kernel_rfl) w
theorem zik (a:Addr) (w:World):(callFunc 240 #[.pointer (some a)]).run Tryz.prog w=.ok (.value (.tuple #[])) w:=run_call_marked Tryz.func240 (by kernel_rfl) (by kernel_rfl) (by kernel_rfl) .acquire (by kernel_rfl) a w
theorem zek (a:Addr) (w:World):(callFunc 242 #[.pointer (some a)]).run Tryz.prog w=.ok (.value (.tuple #[])) w:=run_call_marked Tryz.func242 (by kernel_rfl) (by kernel_rfl) (by kernel_rfl) .releaseMerge (by kernel_rfl) a w
theorem zfw (a:Addr) (x:Value) (u:FrameMode) (w:World) (hc:w.cell? a=some x) (hz:w.frozen? a=false) :
 CallsD Tryz.prog 230 #[.pointer (some a),.bool true] u w fun e u' w'=>u'=u∧(e=.returned (.tuple #[])∧w'=w.drew.setCell a (.int .u32 1)):=by
 have hc':w.drew.cell? a=some x:=by go_simp
 have hz':w.drew.frozen? a=false:=by go_simp
 have hst:=run_call_store (P:=Tryz.prog) Tryz.func235 (by kernel_rfl) (by kernel_rfl) (by kernel_rfl) (by kernel_rfl) (k:=.u32) (y:=1) hc' hz'
 go_enter_d Tryz.func230,Tryz.ntmps230
 go_wp2;go_region_calls
 all_goals (go_end0;exact ⟨rfl,rfl⟩)
theorem zke (a:Addr) (w:World) (hc:w.cell? a=some (.int .i32 1)) (hz:w.frozen? a=false) :
 Calls Tryz.prog 234 #[.pointer (some a)] w fun e w'=>e=.returned (.tuple #[])∧w'=w.setCell a (.int .i32 0):=by
 have hd:=zfm;have he:=zfW;have hr:=zek;have hadd:=run_call_add (P:=Tryz.prog) Tryz.func243 (by kernel_rfl) (by kernel_rfl) (by kernel_rfl) .i32 (by kernel_rfl) (y:=-1) (s:=0) hc hz (by simp [go_sem];rfl)
 have hcv:=run_convert_to_unsafe (P:=Tryz.prog) (src:=345) (dst:=349) Tryz.underlying345 Tryz.underlying349 (by kernel_rfl) hc
 go_enter Tryz.func234,Tryz.ntmps234
 go_wp2;go_end0;exact ⟨rfl,rfl⟩
theorem zey (a:Addr) (u:FrameMode) (w:World) (hc:w.cell? a=some (.int .i32 1)) (hz:w.frozen? a=false) :
 CallsD Tryz.prog 229 #[.pointer (some a)] u w fun e u' w'=>u'=u∧(e=.returned (.tuple #[])∧w'=w.setCell a (.int .i32 0)):=by
 go_enter_d Tryz.func229,Tryz.ntmps229
 go_wp2_with (go_at_call 234;refine (zke a _ hc hz).mono ?_;rintro e w' ⟨rfl,rfl⟩);go_end0;exact ⟨rfl,rfl⟩
theorem zoa (a:Addr) (w:World) (hc:w.cell? a=some (.int .i32 0)) (hz:w.frozen? a=false) :
 Calls Tryz.prog 233 #[.pointer (some a)] w fun e w'=>e=.returned (.tuple #[])∧w'=w.setCell a (.int .i32 1):=by
 have hd:=zfm;have he:=zfW;have ha:=zik;have hcas:=run_call_cas_hit (P:=Tryz.prog) Tryz.func238 (by kernel_rfl) (by kernel_rfl) (by kernel_rfl) .i32 (by kernel_rfl) (y:=1) hc hz
 have hc':(w.setCell a (.int .i32 1)).cell? a=some (.int .i32 1):=World.cell?_setCell_same w a _ hc;have hcv:=run_convert_to_unsafe (P:=Tryz.prog) (src:=345) (dst:=349) Tryz.underlying345 Tryz.underlying349 (by kernel_rfl) hc'
 go_enter Tryz.func233,Tryz.ntmps233
 go_wp2;first | go_end0 | (simp only [Exit.inBlock,Exit.then];refine bodyPost_ret (results_none rfl _ _ _) rfl ?_) | refine bodyPost_ret (results_none rfl _ _ _) rfl ?_
 exact ⟨rfl,rfl⟩
theorem zlx (a:Addr) (w:World) (hc:w.cell? a=some (.int .i32 0)) (hz:w.frozen? a=false) :
 Calls Tryz.prog 228 #[.pointer (some a)] w fun e w'=>e=.returned (.tuple #[])∧w'=w.setCell a (.int .i32 1):=by
 go_enter Tryz.func228,Tryz.ntmps228
 go_wp2_with (go_at_call 233;refine (zoa a _ hc hz).mono ?_;rintro e w' ⟨rfl,rfl⟩);go_end0;exact ⟨rfl,rfl⟩
theorem zfq (a:Addr) (d:Int) (w:World) (hc:w.cell? a=some (.int .u32 d)) :
 Calls Tryz.prog 222 #[.pointer (some a)] w fun e w'=>e=.returned (.bool (d != 0))∧w'=w:=by
 have hl:=run_call_load (P:=Tryz.prog) Tryz.func227 (by kernel_rfl) (by kernel_rfl) (by kernel_rfl) .u32 (by kernel_rfl) hc
 go_enter Tryz.func222,Tryz.ntmps222
 go_wp2;go_ret;exact ⟨rfl,rfl⟩
theorem zm6 (g:Nat) (t:Nat→Nat) (u:Int) (w:World) (hT:TabC w g 0 0 t u) :
 Calls Tryz.prog 223 #[.pointer (some ⟨g,0,none⟩),.func (.func 217) #[.pointer (some ⟨g,0,none⟩)] #[]] w fun e w'=>e=.returned (.tuple #[])∧TabC w' g 1 0 tabC u∧za0 w w' (· = g):=by
 have hnot:∀ (x:Bool) (w:World),(Op.unary .not (.bool x)).run Tryz.prog w=.ok (.bool (!x)) w:=fun _ _=>rfl
 have hT1:=hT.setS 1;go_enter_defers Tryz.func223,Tryz.ntmps223
 go_wp2_with (first
  | (go_at_call 228;refine (zlx ⟨g,1,none⟩ _ hT.lock (hT.free 1)).mono ?_;rintro e w' ⟨rfl,rfl⟩)
  | (go_at_call 222;refine (zfq ⟨g,0,none⟩ 0 _ hT1.done).mono ?_;rintro e w' ⟨rfl,rfl⟩)
  | (go_at_call 217;refine (zmh g 0 1 t u _ hT1).mono ?_;rintro e w5 ⟨rfl,hT5,hb5⟩))
 refine leaves_cons (f:=230) (args:=#[.pointer (some ⟨g,0,none⟩),.bool true]) (by simp) (by simp [go_sem]) ?_
 refine (zfw ⟨g,0,none⟩ _ .returning _ hT5.done (hT5.free 0)).mono ?_;rintro e u' w'' ⟨rfl,rfl,rfl⟩;have hT6:=hT5.drew.setN 1;refine leaves_cons (f:=229) (args:=#[.pointer (some ⟨g,1,none⟩)]) (by simp [settle]) (by simp [go_sem]) ?_
 refine (zey ⟨g,1,none⟩ _ _ hT6.lock (hT6.free 1)).mono ?_;rintro e u' w'' ⟨rfl,rfl,rfl⟩;have hT7:=hT6.setS 0;have hb:za0 w (((w5.drew.setCell ⟨g,0,none⟩ (.int .u32 1))).setCell ⟨g,1,none⟩ (.int .i32 0)) (· = g):=
  (((((za0.refl w (· = g)).set rfl 1 (.int .i32 1)).trans hb5).drew).set rfl _ _).set rfl _ _
 simp only [Leaves,settle,results,Tryz.results223];simp;exact ⟨hT7,hb⟩
theorem zmz (g:Nat) (n:Int) (t:Nat→Nat) (u:Int) (w:World) (hT:TabC w g n 0 t u) (hn:n=0∨n=1∧∀ i,i<256→t i=tabC i) :
 Calls Tryz.prog 216 #[.pointer (some ⟨g,0,none⟩),.func (.func 217) #[.pointer (some ⟨g,0,none⟩)] #[]] w fun e w'=>e=.returned (.tuple #[])∧TabC w' g 1 0 tabC u∧za0 w w' (· = g):=by
 have hnot:∀ (x:Bool) (w:World),(Op.unary .not (.bool x)).run Tryz.prog w=.ok (.bool (!x)) w:=fun _ _=>rfl
 rcases hn with rfl | ⟨rfl,ht⟩
 · go_enter Tryz.func216,Tryz.ntmps216
   go_wp2_with (first
    | (go_at_call 222;refine (zfq ⟨g,0,none⟩ 0 _ hT.done).mono ?_;rintro e w' ⟨rfl,rfl⟩)
    | (go_at_call 223;refine (zm6 g t u _ hT).mono ?_;rintro e w5 ⟨rfl,hT5,hb5⟩))
   go_end0;exact ⟨rfl,hT5,hb5⟩
 · go_enter Tryz.func216,Tryz.ntmps216
   go_wp2_with (first
    | (go_at_call 222;refine (zfq ⟨g,0,none⟩ 1 _ hT.done).mono ?_;rintro e w' ⟨rfl,rfl⟩))
   go_end0;exact ⟨rfl,⟨hT.lt,hT.free,hT.done,hT.lock,fun i hi=>by rw [←ht i hi];exact hT.tab i hi,hT.used⟩,za0.refl _ _⟩
end Go.Proofs.YthblkdnijhphhaaGreat
namespace Go.Proofs.YthblkdnijhphhaaGreat
open Go.RowKit
def zbt (w:World) (g:Nat):Prop:=∃ n t u,TabC w g n 0 t u∧(n=0∨n=1∧∀ i,i<256→t i=tabC i)
theorem TabC.step {w w':World} {g:Nat} {n s:Int} {t:Nat→Nat} {u:Int} (h:TabC w g n s t u) (hb:Below w.heap.size w w'):TabC w' g n s t u:=by
 have hc:∀ o,w'.cell? ⟨g,o,none⟩=w.cell? ⟨g,o,none⟩:=fun o=>hb.cell h.lt
 have hf:∀ o,w'.frozen? ⟨g,o,none⟩=w.frozen? ⟨g,o,none⟩:=fun o=>World.frozen?_of_block (hb.block g h.lt)
 exact ⟨Nat.lt_of_lt_of_le h.lt hb.size,fun o=>(hf o).trans (h.free o),(hc _).trans h.done,(hc _).trans h.lock,fun i hi=>(hc _).trans (h.tab i hi),(hc _).trans h.used⟩
theorem zbt.step {w w':World} {g:Nat} (h:zbt w g) (hb:Below w.heap.size w w'):zbt w' g:=by
 obtain ⟨n,t,u,h1,h2⟩:=h;exact ⟨n,t,u,h1.step hb,h2⟩
theorem zbt.lt {w:World} {g:Nat} (h:zbt w g):g<w.heap.size:=by obtain ⟨n,t,u,h1,h2⟩:=h;exact h1.lt
def zo2:Option Value→Bool
 | some (.int .u32 n)=>n == 0
 | _=>false
theorem zmy {o:Option Value} (h:zo2 o=true):o=some (.int .u32 0):=by
 unfold zo2 at h;split at h
 · rename_i n;rw [eq_of_beq h]
 · cases h
theorem zn6:(List.range 256).all (fun i=>zo2 (Tryz.zeroCells312[3+i]?))=true:=by kernel_rfl
theorem znK (w:World):Calls Tryz.prog 182 #[] w fun e w'=>e=.returned (.pointer (some ⟨w.heap.size,0,none⟩))∧zbt w' w.heap.size∧Below w.heap.size w w':=by
 go_enter Tryz.func182,Tryz.ntmps182
 go_wp2;go_ret;have hB:=Blk.new w 312 Tryz.zeroCells312 rfl;refine ⟨rfl,⟨0,fun _=>0,0,⟨hB.lt,hB.frozen,(hB.cell 0).trans (by kernel_rfl),(hB.cell 1).trans (by kernel_rfl),fun i hi=>(hB.cell _).trans (zmy (List.all_eq_true.1 zn6 i (List.mem_range.2 hi))),(hB.cell 259).trans (by kernel_rfl)⟩,.inl rfl⟩,(Below.refl _ _).alloc (Nat.le_refl _) _⟩
theorem zom (g:Nat) (r0:Nat) (v:Value) (b:List UInt8) (K:Nat→Prop) (w:World) (hT:zbt w g) (hv:IsB w K v b) (hK:∀ k,K k→k≠g) (hr:r0<4294967296) :
 Calls Tryz.prog 209 #[.pointer (some ⟨g,0,none⟩),.int .u32 r0,v] w fun e w'=>e=.returned (.int .u32 (b.foldl goC r0:Nat))∧zbt w' g∧za0 w w' (· = g):=by
 have hmf:∀ (fn:Fn) (first cap:Array Value) (w:World),(Instr.makeFunc fn first cap).run Tryz.prog w=.ok (.func fn first cap) w:=fun _ _ _ _=>rfl
 obtain ⟨n,t,u,hT1,hn⟩:=hT;have hv0:=hv;obtain ⟨A,c,rfl,hrd,hlc,hcc,hl47⟩:=hv;go_enter Tryz.func209,Tryz.ntmps209
 go_wp2_with (go_at_call 216;refine (zmz g n t u _ hT1 hn).mono ?_;rintro e w1 ⟨rfl,hT2,hb2⟩);have hv1:=hv0.turned hb2 hK;go_wp2;go_loopw [1,17] (fun r i wr=>∃ (j:Nat),r=.int .u32 ((b.take j).foldl goC r0:Nat)∧i=.int .i64 j∧j≤b.length∧wr=w1) (fun _ i _=>b.length-(intOf i).toNat)
 case atStart=>exact ⟨0,by simp,rfl,by omega,rfl⟩
 case round=>
  obtain ⟨j,rfl,rfl,hj,rfl⟩:=hrel;by_cases hlt:j<b.length
  · have hlow:=zgd (b.take j) r0 hr
    obtain ⟨A',c',hA',hrd1,_⟩:=hv1;injection hA' with e1 e2 e3;subst e1;obtain ⟨ad,x,rfl,hbB,hu,hc⟩:=hrd1.at_ hlt;simp only [za3,List.getElem?_map,List.getElem?_eq_getElem hlt,Option.map_some,Option.some.injEq] at hu;subst hu;unfold B8 at hc;have hx2:(b[j].toNat)<256:=UInt8.toNat_lt _;have htk:b.take (j+1)=b.take j++[b[j]]:=by rw [List.take_add_one,List.getElem?_eq_getElem hlt];rfl
    have hgo:(b.take (j+1)).foldl goC r0=goC ((b.take j).foldl goC r0) b[j]:=by rw [htk,List.foldl_append];rfl
    generalize (b.take j).foldl goC r0=r at hlow hgo;have hix:=znp r b[j];have hcell:=hT2.tab _ hix;have hix2:bits BinOp.xor IntKind.u8 ((r:Int) % 256) (b[j].toNat:Int)=(((r % 256) ^^^ b[j].toNat:Nat):Int):=by
     rw [show (r:Int) % 256=((r % 256:Nat):Int) by omega,u8_xor_nat _ _ (by omega) hx2]
    generalize hxi:(r % 256) ^^^ b[j].toNat=xi at hix hcell hix2;have HGO:=Lib.hid hgo;have HXI:=Lib.hid hxi;clear hgo hxi htk;go_wp2;refine ⟨⟨j+1,?_,by go_num,by omega,trivial⟩,by simp [intOf];omega⟩
    rw [HGO.out];unfold goC;rw [HXI.out,show (r:Int) / 256=((r / 256:Nat):Int) by omega,u32_xor_nat _ _ (by omega) (zlj (by omega))]
  · go_wp2
    obtain rfl:j=b.length:=by omega
    go_ret;rw [List.take_length];exact ⟨rfl,⟨1,tabC,u,hT2,.inr ⟨rfl,fun _ _=>rfl⟩⟩,hb2⟩
theorem zmT (a:Addr) (u:Int) (w:World) (hc:w.cell? a=some (.int .i64 u)) (hz:w.frozen? a=false) :
 Calls Tryz.prog 126 #[.pointer (some a),.int .i64 1] w fun e w'=>∃ u',e=.returned (.int .i64 u')∧w'=w.setCell a (.int .i64 u'):=by
 have hadd:=run_call_add (P:=Tryz.prog) Tryz.func179 (by kernel_rfl) (by kernel_rfl) (by kernel_rfl) .i64 (by kernel_rfl) (y:=1) (s:=IntKind.i64.wrap (u+1)) hc hz (by simp [go_sem];try rfl)
 go_enter Tryz.func126,Tryz.ntmps126
 go_wp2;go_ret;exact ⟨_,rfl,rfl⟩
theorem zkw (g:Nat) (v:Value) (l:List (List UInt8)) (K:Nat→Prop) (w:World) (hT:zbt w g) (hv:IsL Rp.bytes w K v l) (hK:∀ k,K k→k≠g) :
 Calls Tryz.prog 184 #[.pointer (some ⟨g,0,none⟩),v] w fun e w'=>e=.returned (.int .u32 (crcL l.flatten:Nat))∧zbt w' g∧za0 w w' (· = g):=by
 obtain ⟨n,t,u,hT1,hn⟩:=hT;have hv0:=hv;obtain ⟨A,c,rfl,hlc,hcc⟩:=hv.form;have hl47:=hv.len;have hb1:∀ u',za0 w (w.setCell ⟨g,259,none⟩ (.int .i64 u')) (· = g):=fun u'=>(za0.refl w (· = g)).set rfl _ _
 go_enter Tryz.func184,Tryz.ntmps184
 go_wp2_with (go_at_call 126;refine (zmT ⟨g,259,none⟩ u _ hT1.used (hT1.free 259)).mono ?_;rintro e w1 ⟨u1,rfl,rfl⟩);have hT2:=hT1.setU u1;have hv2:=hv0.turned (hb1 u1) hK;generalize hw1:w.setCell ⟨g,259,none⟩ (.int .i64 u1)=w1 at *;go_loopw [5,14] (fun r i wr=>∃ (j:Nat),r=.int .u32 ((l.take j).flatten.foldl goC 4294967295:Nat)∧i=.int .i64 j∧j≤l.length∧zbt wr g∧za0 w wr (· = g)) (fun _ i _=>l.length-(intOf i).toNat)
 case atStart=>exact ⟨0,by simp,rfl,by omega,⟨n,t,u1,hT2,hn⟩,by have:=hb1 u1;rw [hw1] at this;exact this⟩
 case round=>
  obtain ⟨j,rfl,rfl,hj,hT3,hb3⟩:=hrel;by_cases hlt:j<l.length
  · have hv3:=hv0.turned hb3 hK
    obtain ⟨ad,es,rfl,hKb,⟨v',rfl,hvb⟩,hcs⟩:=hv3.at_ (i:=j) (x:=l[j]) (List.getElem?_eq_getElem hlt);have hcell:=hcs 0 _ rfl;have hsz1:Rp.bytes.size=1:=rfl;rw [zbN,hsz1,Nat.mul_one] at hcell;have htk:(l.take (j+1)).flatten.foldl goC 4294967295=l[j].foldl goC ((l.take j).flatten.foldl goC 4294967295):=by
     rw [List.take_add_one,List.getElem?_eq_getElem hlt,Option.toList_some,List.flatten_append,List.foldl_append];simp
    have hr:=zgd (l.take j).flatten 4294967295 (by omega)
    generalize (l.take j).flatten.foldl goC 4294967295=r at htk hr;have HTK:=Lib.hid htk;clear htk hcs;go_wp2_with (go_at_call 209;refine (zom g r v' l[j] K _ hT3 hvb hK hr).mono ?_;rintro e w4 ⟨rfl,hT4,hb4⟩);go_roundw
    case rel=>exact ⟨j+1,by rw [HTK.out],by go_num,by omega,hT4,hb3.trans hb4⟩
    case measure=>simp [intOf];omega
  · obtain rfl:j=l.length:=by omega
    rw [List.take_length] at *;have hr:=zgd l.flatten 4294967295 (by omega)
    generalize hrr:l.flatten.foldl goC 4294967295=r at *;go_wp2;go_ret;refine ⟨?_,hT3,hb3⟩;unfold crcL;rw [hrr];simp;exact u32_xor_nat 4294967295 r (by omega) hr
end Go.Proofs.YthblkdnijhphhaaGreat
