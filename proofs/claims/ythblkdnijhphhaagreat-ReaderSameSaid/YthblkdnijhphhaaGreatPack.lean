/- A part of the proof. -/
import Derived.Test.YthblkdnijhphhaaGreatSegCheck
import Derived.Deep.DeepCutAuto
set_option maxHeartbeats 4000000
set_option maxRecDepth 100000
namespace Go.Proofs.YthblkdnijhphhaaGreat
structure Pk where
 h:Hd
 zone:Int
 cap:Int
 at_:Int
 buf:List UInt8
 l:List Rc
def p0k:Pk:=⟨⟨0,0,0⟩,0,0,0,[],[]⟩
def zco (p:Pk):Int:=max (p.cap-p.at_-p.buf.length) 0
def frsL:List Rc→List UInt8
 | []=>[]
 | r::l=>(recL r).1++frsL l
def errL:List Rc→Int
 | []=>0
 | r::l=>if (recL r).2≠0 then (recL r).2 else errL l
def plsL:Int→List Rc→List Int
 | _,[]=>[]
 | b,r::l=>(b+(recL r).1.length-4-r.data.length)::plsL (b+(recL r).1.length) l
def addL (p:Pk) (l:List Rc):Pk × List Int × Int:=
 if errL l≠0 then (p0k,[],errL l)
 else if zco p<(frsL l).length then (p0k,[],40)
 else (⟨p.h,p.zone,p.cap,p.at_,p.buf++frsL l,p.l++l⟩,plsL (p.at_+p.buf.length) l,0)
def zcH (h:Hd) (zone most:Int):Pk × Int:=
 if (zbX h).2≠0 then (p0k,(zbX h).2)
 else if ¬(0≤zone∧1≤most∧most≤65536) then (p0k,1)
 else if most<(zbX h).1.length then (p0k,40)
 else (⟨h,zone,most,0,(zbX h).1,[]⟩,0)
def zc8 (p:Pk):Pk:=if p.buf=[] then p else ⟨p.h,p.zone,p.cap,p.at_+p.buf.length,[],[]⟩
theorem zf2 (l m:List Rc):frsL (l++m)=frsL l++frsL m:=by
 induction l with
 | nil=>rfl
 | cons r l ih=>simp [frsL,ih]
theorem zgP (l:List Rc) (r:Rc):errL (l++[r])=if errL l≠0 then errL l else (recL r).2:=by
 induction l with
 | nil=>simp [errL];exact fun h=>h.symm
 | cons x l ih=>
   rw [List.cons_append];unfold errL;by_cases h:(recL x).2=0
   · simp only [h,ne_eq,not_true_eq_false,if_false];rw [ih]
   · simp [h]
theorem zin (l m:List Rc):∀ b:Int,plsL b (l++m)=plsL b l++plsL (b+(frsL l).length) m:=by
 induction l with
 | nil=>intro b;simp [plsL,frsL]
 | cons r l ih=>
   intro b;simp only [List.cons_append,plsL,frsL,ih,List.length_append,Int.natCast_add];rw [show b+((recL r).1.length:Int)+((frsL l).length:Int)=b+(((recL r).1.length:Int)+((frsL l).length:Int)) by omega]
theorem zgv (l:List Rc):∀ b:Int,(plsL b l).length=l.length:=by
 induction l with
 | nil=>intro b;rfl
 | cons r l ih=>intro b;simp [plsL,ih]
theorem zdy {r:Rc} (hr:OkRc r):(recL r).1.length≤40030∧((recL r).2=0→r.data.length+4≤(recL r).1.length∧5≤(recL r).1.length):=by
 by_cases h:checkL r=0
 · rw [ze7 hr h]
   have h1:=zgo hr h;have h2:=zkl (zcD r);have h3:=zbg (n:=(zcD r).length) (by omega)
   have h4:=zgr (zcD r).length;have h5:r.data.length≤(zcD r).length:=by unfold zcD;simp only [List.length_append];omega
   dsimp only;constructor
   · omega
   · intro _;omega
 · rw [zkG h]
   exact ⟨by simp,fun h'=>absurd h' h⟩
end Go.Proofs.YthblkdnijhphhaaGreat
namespace Go.Proofs.YthblkdnijhphhaaGreat
open Go.RowKit
theorem Tryz.infR:(Tryz.prog.info? 109).map (fun i=>(i.zero,i.size,i.bytes))=some (some (.agg #[.int .i64 0,.int .i64 0,.int .i64 0,.int .i64 0,.int .i64 0,.int .i64 0,.slice none 0 0]),7,72):=by kernel_rfl
theorem zfy (A:Option Addr) (n c:Nat) (K:Nat→Prop) (xs:List Value) (w:World) (hr:za6 w K 7 A n xs) (h1:∀ u∈xs,u.oneCell'=true) (hn:n*72≤140737488355328) :
 Calls Tryz.prog 70 #[.slice A n c] w fun e w'=>∃ A' c',e=.returned (.slice A' n c')∧w'.ownsRow w.heap.size 109 7 (.slice A' n c') n xs∧Below w.heap.size w w':=by
 obtain ⟨i0,hi,hz0,hz1,hz2⟩:=info_parts Tryz.infR;rcases A with _ | ad
 · have hn0:n=0:=by
    rcases Nat.eq_zero_or_pos n with h | h
    · exact h
    · obtain ⟨_,h2,_⟩:=hr.2 h;cases h2
   subst hn0;have hx:xs=[]:=List.eq_nil_of_length_eq_zero (by simpa using hr.1)
   subst hx;have heq:=fun w=>Lib.run_eql_slice_nil (P:=Tryz.prog) w 33 109 none 0 c 0 0 Tryz.underlying33
   go_enter Tryz.func70,Tryz.ntmps70
   go_wp2;go_ret;exact ⟨none,0,rfl,World.ownsRow_nil _ _ _ _,Below.refl _ _⟩
 · have heq:=fun w=>Lib.run_eql_slice_nil (P:=Tryz.prog) w 33 109 (some ad) n c 0 0 Tryz.underlying33
   have hr':=hr.alloc (.cells #[] 109);go_enter Tryz.func70,Tryz.ntmps70
   go_wp2_with (at_builtin;refine za5 rfl _ _ _ rfl w.heap.size 109 i0 _ 7 72 Tryz.underlying33 hi hz0 hz1 hz2 rfl (by omega) rfl (zce _ _ _ _) rfl hr' h1 (by simp only [maxLen];omega) (by omega) (by simp) ?_;intro A' c' w1 hown1 hg1)
   go_ret;simp only [Nat.zero_add,List.nil_append] at hown1 ⊢;exact ⟨A',c',rfl,hown1,((Below.refl _ _).alloc (Nat.le_refl _) _).trans hg1.below⟩
def pkV (p:Pk) (vb vl:Value):Value:=.agg #[.int .i64 p.h.host,.int .i64 p.h.epoch,.int .i64 p.h.seq,.int .i64 p.zone,.int .i64 p.cap,.int .i64 p.at_,vb,vl]
def IsPk (w:World) (K:Nat→Prop) (v:Value) (p:Pk):Prop:=∃ vb vl,v=pkV p vb vl∧IsB w K vb p.buf∧IsL Rp.rc w K vl p.l
def OkPk (p:Pk):Prop:=OkHd p.h∧(-9223372036854775808≤p.zone∧p.zone≤9223372036854775807)∧(0≤p.cap∧p.cap≤1099511627776)∧(0≤p.at_∧p.at_≤1099511627776)∧p.buf.length≤1099511627776∧p.l.length≤1000000000000
theorem zg8 (v:Value) (p:Pk) (K:Nat→Prop) (w:World) (hv:IsPk w K v p) (hp:OkPk p) :
 Calls Tryz.prog 133 #[v] w fun e w'=>e=.returned (.int .i64 (zco p))∧Below w.heap.size w w':=by
 obtain ⟨vb,vl,rfl,hb,hl⟩:=hv;obtain ⟨_,_,hcap,hat,hbl,_⟩:=hp;obtain ⟨A,c,rfl,_⟩:=hb;unfold pkV zco;go_enter Tryz.func133,Tryz.ntmps133
 go_wp2;go_ret;exact ⟨rfl,(Below.refl _ _).alloc (Nat.le_refl _) _⟩
theorem zgw (zone most:Int) (w:World) :
 Calls Tryz.prog 186 #[.int .i64 zone,.int .i64 most] w fun e w'=>e=.returned (.bool (decide (0≤zone∧1≤most∧most≤65536)))∧w'=w:=by
 by_cases h1:0≤zone
 · by_cases h2:1≤most
   · by_cases h3:most≤65536
     · rw [show decide (0≤zone∧1≤most∧most≤65536)=true by simp;omega]
       go_enter Tryz.func186,Tryz.ntmps186
       go_wp2;go_ret;exact ⟨rfl,rfl⟩
     · rw [show decide (0≤zone∧1≤most∧most≤65536)=false by simp;omega]
       go_enter Tryz.func186,Tryz.ntmps186
       go_wp2;go_ret;exact ⟨rfl,rfl⟩
   · rw [show decide (0≤zone∧1≤most∧most≤65536)=false by simp;omega]
     go_enter Tryz.func186,Tryz.ntmps186
     go_wp2;go_ret;exact ⟨rfl,rfl⟩
 · rw [show decide (0≤zone∧1≤most∧most≤65536)=false by simp;omega]
   go_enter Tryz.func186,Tryz.ntmps186
   go_wp2;go_ret;exact ⟨rfl,rfl⟩
def st8 (w:World) (a:Nat) (x0 x1 x2 x3 x4 x5 x6 x7:Value):World:=(((((((w.setCell ⟨a,0,none⟩ x0).setCell ⟨a,1,none⟩ x1).setCell ⟨a,2,none⟩ x2).setCell ⟨a,3,none⟩ x3).setCell ⟨a,4,none⟩ x4).setCell ⟨a,5,none⟩ x5).setCell ⟨a,6,none⟩ x6).setCell ⟨a,7,none⟩ x7
theorem b8_0 {w:World} {a:Nat} {ta:TypeId} {u0 u1 u2 u3 u4 u5 u6 u7:Value} (h:Blk w a ta #[u0,u1,u2,u3,u4,u5,u6,u7]) (x:Value):Blk (w.setCell ⟨a,0,none⟩ x) a ta #[x,u1,u2,u3,u4,u5,u6,u7]:=h.set_ 0 x
theorem b8_1 {w:World} {a:Nat} {ta:TypeId} {u0 u1 u2 u3 u4 u5 u6 u7:Value} (h:Blk w a ta #[u0,u1,u2,u3,u4,u5,u6,u7]) (x:Value):Blk (w.setCell ⟨a,1,none⟩ x) a ta #[u0,x,u2,u3,u4,u5,u6,u7]:=h.set_ 1 x
theorem b8_2 {w:World} {a:Nat} {ta:TypeId} {u0 u1 u2 u3 u4 u5 u6 u7:Value} (h:Blk w a ta #[u0,u1,u2,u3,u4,u5,u6,u7]) (x:Value):Blk (w.setCell ⟨a,2,none⟩ x) a ta #[u0,u1,x,u3,u4,u5,u6,u7]:=h.set_ 2 x
theorem b8_3 {w:World} {a:Nat} {ta:TypeId} {u0 u1 u2 u3 u4 u5 u6 u7:Value} (h:Blk w a ta #[u0,u1,u2,u3,u4,u5,u6,u7]) (x:Value):Blk (w.setCell ⟨a,3,none⟩ x) a ta #[u0,u1,u2,x,u4,u5,u6,u7]:=h.set_ 3 x
theorem b8_4 {w:World} {a:Nat} {ta:TypeId} {u0 u1 u2 u3 u4 u5 u6 u7:Value} (h:Blk w a ta #[u0,u1,u2,u3,u4,u5,u6,u7]) (x:Value):Blk (w.setCell ⟨a,4,none⟩ x) a ta #[u0,u1,u2,u3,x,u5,u6,u7]:=h.set_ 4 x
theorem b8_5 {w:World} {a:Nat} {ta:TypeId} {u0 u1 u2 u3 u4 u5 u6 u7:Value} (h:Blk w a ta #[u0,u1,u2,u3,u4,u5,u6,u7]) (x:Value):Blk (w.setCell ⟨a,5,none⟩ x) a ta #[u0,u1,u2,u3,u4,x,u6,u7]:=h.set_ 5 x
theorem b8_6 {w:World} {a:Nat} {ta:TypeId} {u0 u1 u2 u3 u4 u5 u6 u7:Value} (h:Blk w a ta #[u0,u1,u2,u3,u4,u5,u6,u7]) (x:Value):Blk (w.setCell ⟨a,6,none⟩ x) a ta #[u0,u1,u2,u3,u4,u5,x,u7]:=h.set_ 6 x
theorem b8_7 {w:World} {a:Nat} {ta:TypeId} {u0 u1 u2 u3 u4 u5 u6 u7:Value} (h:Blk w a ta #[u0,u1,u2,u3,u4,u5,u6,u7]) (x:Value):Blk (w.setCell ⟨a,7,none⟩ x) a ta #[u0,u1,u2,u3,u4,u5,u6,x]:=h.set_ 7 x
theorem zbY {w:World} {a:Nat} {ta:TypeId} {u0 u1 u2 u3 u4 u5 u6 u7:Value} (hA:Blk w a ta #[u0,u1,u2,u3,u4,u5,u6,u7]) (x0 x1 x2 x3 x4 x5 x6 x7:Value) :
 Blk (st8 w a x0 x1 x2 x3 x4 x5 x6 x7) a ta #[x0,x1,x2,x3,x4,x5,x6,x7]∧za0 w (st8 w a x0 x1 x2 x3 x4 x5 x6 x7) (fun k=>k=a):=by
 unfold st8;exact ⟨(b8_7 (b8_6 (b8_5 (b8_4 (b8_3 (b8_2 (b8_1 (b8_0 hA x0) x1) x2) x3) x4) x5) x6) x7),(((((((((za0.refl w (fun k=>k=a)).set (g:=a) rfl 0 x0).set (g:=a) rfl 1 x1).set (g:=a) rfl 2 x2).set (g:=a) rfl 3 x3).set (g:=a) rfl 4 x4).set (g:=a) rfl 5 x5).set (g:=a) rfl 6 x6).set (g:=a) rfl 7 x7)⟩
theorem zaj {w w' w'':World} {B a:Nat} (h:Below B w w') (ht:za0 w' w'' (fun k=>k=a)) (ha:B≤a) (hB:B≤w'.heap.size):Below B w w'':=
 h.trans ⟨ht.os,ht.tape,ht.output,ht.size,fun k hk=>ht.block k (by omega) (by omega)⟩
theorem zjg (h:Hd) (zone most:Int) (w:World) (hh:OkHd h) :
 Calls Tryz.prog 136 #[hdV h,.int .i64 zone,.int .i64 most] w fun e w'=>∃ A c,e=.returned (.tuple #[pkV (zcH h zone most).1 (.slice A (zcH h zone most).1.buf.length c) (.slice none 0 0),.int .i64 (zcH h zone most).2]) ∧
  w'.ownsRow w.heap.size 5 1 (.slice A (zcH h zone most).1.buf.length c) (zcH h zone most).1.buf.length (za3 (zcH h zone most).1.buf)∧Below w.heap.size w w':=by
 have hc:=fun W=>zm7 h W hh
 unfold hdV pkV zcH at *;obtain ⟨hb,hhb⟩:∃ hb,zbX h=hb:=⟨_,rfl⟩;rw [hhb] at hc ⊢;clear hhb;obtain ⟨hb,he⟩:=hb;simp only at hc ⊢;have E:=((Kn.start w).push 31 #[.int .i64 h.host,.int .i64 h.epoch,.int .i64 h.seq]).push 35 #[.int .i64 0,.int .i64 0,.int .i64 0,.int .i64 0,.int .i64 0,.int .i64 0,.slice none 0 0,.slice none 0 0];rw [World.size_alloc] at E;by_cases h1:he=0
 · subst h1
   rw [if_neg (by simp)]
   by_cases h2:0≤zone∧1≤most∧most≤65536
   · rw [if_neg (fun h=>h h2)]
     have h2':decide (0≤zone∧1≤most∧most≤65536)=true:=decide_eq_true h2;by_cases h3:most<(hb.length:Int)
     · rw [if_pos h3]
       go_enter Tryz.func136,Tryz.ntmps136
       go_wp2_with fail;refine (hc _).mono ?_;rintro e w1 ⟨A1,c1,rfl,own1,hb1⟩;replace E:=E.step hb1;obtain ⟨q1,f1,t1⟩:=E.rules m0;go_wp2_with fail;refine (zgw zone most _).mono ?_;rintro e w2 ⟨rfl,rfl⟩;rw [h2'];clear h2';go_wp2_with fail;have h8:=zbY (E.at_ m0) (.int .i64 0) (.int .i64 0) (.int .i64 0) (.int .i64 0) (.int .i64 0) (.int .i64 0) (.slice none 0 0) (.slice none 0 0);obtain ⟨w9,hw9⟩:∃ w9,st8 w2 (w.heap.size+1) (.int .i64 0) (.int .i64 0) (.int .i64 0) (.int .i64 0) (.int .i64 0) (.int .i64 0) (.slice none 0 0) (.slice none 0 0)=w9:=⟨_,rfl⟩;rw [hw9] at h8;unfold st8 at hw9;rw [hw9];have hb2:=zaj E.below h8.2 (by omega) E.below.size
       obtain ⟨q9,f9⟩:=h8.1.rules;refine bodyPost_ret (v:=.tuple #[.agg #[.int .i64 0,.int .i64 0,.int .i64 0,.int .i64 0,.int .i64 0,.int .i64 0,.slice none 0 0,.slice none 0 0],.int .i64 40]) (by simp [results,Tryz.results136,go_sem,q9]) rfl ⟨none,0,rfl,World.ownsRow_nil _ _ _ _,hb2⟩
     · rw [if_neg h3]
       go_enter Tryz.func136,Tryz.ntmps136
       go_wp2_with fail;refine (hc _).mono ?_;rintro e w1 ⟨A1,c1,rfl,own1,hb1⟩;replace E:=E.step hb1;obtain ⟨q1,f1,t1⟩:=E.rules m0;go_wp2_with fail;refine (zgw zone most _).mono ?_;rintro e w2 ⟨rfl,rfl⟩;rw [h2'];clear h2';obtain ⟨q2,f2,t2⟩:=E.rules m1;go_wp2_with fail;have h8:=zbY (E.at_ m0) (.int .i64 h.host) (.int .i64 h.epoch) (.int .i64 h.seq) (.int .i64 zone) (.int .i64 most) (.int .i64 0) (.slice A1 hb.length c1) (.slice none 0 0);obtain ⟨w9,hw9⟩:∃ w9,st8 w2 (w.heap.size+1) (.int .i64 h.host) (.int .i64 h.epoch) (.int .i64 h.seq) (.int .i64 zone) (.int .i64 most) (.int .i64 0) (.slice A1 hb.length c1) (.slice none 0 0)=w9:=⟨_,rfl⟩;rw [hw9] at h8;unfold st8 at hw9;rw [hw9];have hb2:=zaj E.below h8.2 (by omega) E.below.size
       obtain ⟨q9,f9⟩:=h8.1.rules;refine bodyPost_ret (v:=.tuple #[.agg #[.int .i64 h.host,.int .i64 h.epoch,.int .i64 h.seq,.int .i64 zone,.int .i64 most,.int .i64 0,.slice A1 hb.length c1,.slice none 0 0],.int .i64 0]) (by simp [results,Tryz.results136,go_sem,q9]) rfl ⟨A1,c1,rfl,?_,hb2⟩
       exact zac (za7 own1 h8.2 (by simp)) (by simp;omega)
   · rw [if_pos h2]
     have h2':decide (0≤zone∧1≤most∧most≤65536)=false:=decide_eq_false h2;go_enter Tryz.func136,Tryz.ntmps136
     go_wp2_with fail;refine (hc _).mono ?_;rintro e w1 ⟨A1,c1,rfl,own1,hb1⟩;replace E:=E.step hb1;obtain ⟨q1,f1,t1⟩:=E.rules m0;go_wp2_with fail;refine (zgw zone most _).mono ?_;rintro e w2 ⟨rfl,rfl⟩;rw [h2'];clear h2';go_wp2_with fail;have h8:=zbY (E.at_ m0) (.int .i64 0) (.int .i64 0) (.int .i64 0) (.int .i64 0) (.int .i64 0) (.int .i64 0) (.slice none 0 0) (.slice none 0 0);obtain ⟨w9,hw9⟩:∃ w9,st8 w2 (w.heap.size+1) (.int .i64 0) (.int .i64 0) (.int .i64 0) (.int .i64 0) (.int .i64 0) (.int .i64 0) (.slice none 0 0) (.slice none 0 0)=w9:=⟨_,rfl⟩;rw [hw9] at h8;unfold st8 at hw9;rw [hw9];have hb2:=zaj E.below h8.2 (by omega) E.below.size
     obtain ⟨q9,f9⟩:=h8.1.rules;refine bodyPost_ret (v:=.tuple #[.agg #[.int .i64 0,.int .i64 0,.int .i64 0,.int .i64 0,.int .i64 0,.int .i64 0,.slice none 0 0,.slice none 0 0],.int .i64 1]) (by simp [results,Tryz.results136,go_sem,q9]) rfl ⟨none,0,rfl,World.ownsRow_nil _ _ _ _,hb2⟩
 · rw [if_pos h1]
   have h1':((he:Int) != 0)=true:=by simp [h1]
   clear h1;go_enter Tryz.func136,Tryz.ntmps136
   go_wp2_with fail;refine (hc _).mono ?_;rintro e w1 ⟨A1,c1,rfl,own1,hb1⟩;replace E:=E.step hb1;obtain ⟨q1,f1,t1⟩:=E.rules m0;go_wp2_with fail;have h8:=zbY (E.at_ m0) (.int .i64 0) (.int .i64 0) (.int .i64 0) (.int .i64 0) (.int .i64 0) (.int .i64 0) (.slice none 0 0) (.slice none 0 0);obtain ⟨w9,hw9⟩:∃ w9,st8 w1 (w.heap.size+1) (.int .i64 0) (.int .i64 0) (.int .i64 0) (.int .i64 0) (.int .i64 0) (.int .i64 0) (.slice none 0 0) (.slice none 0 0)=w9:=⟨_,rfl⟩;rw [hw9] at h8;unfold st8 at hw9;rw [hw9];have hb2:=zaj E.below h8.2 (by omega) E.below.size
   obtain ⟨q9,f9⟩:=h8.1.rules;refine bodyPost_ret (v:=.tuple #[.agg #[.int .i64 0,.int .i64 0,.int .i64 0,.int .i64 0,.int .i64 0,.int .i64 0,.slice none 0 0,.slice none 0 0],.int .i64 he]) (by simp [results,Tryz.results136,go_sem,q9]) rfl ⟨none,0,rfl,World.ownsRow_nil _ _ _ _,hb2⟩
theorem zjH {α:Type} (cur cs:List α) (h:cur.length=cs.length):splice cur 0 cs=cs:=by
 unfold splice;rw [List.take_zero,List.nil_append,List.drop_of_length_le (by omega),List.append_nil]
theorem zma {w:World} {base g n cap:Nat} {e:TypeId} {xs:List Value} (h:w.ownsRow base e 1 (.slice (some ⟨g,0,none⟩) n cap) n xs) (hn:n=cap):∃ cur:List Value,w.heap[g]?=some (.cells cur.toArray e (0,0))∧cur.length=n:=by
 rcases h.2 with ⟨h1,_⟩ | ⟨g',cap',cur,hv,_,hg,_,_,hcs,_⟩
 · cases h1
 · injection hv with e1 e2 e3
   injection e1 with e1;injection e1 with e1;subst e1 e3;exact ⟨cur.toList,by simpa using hg,by simp [hcs,hn]⟩
theorem zmQ {w:World} {K:Nat→Prop} {A:Option Addr} {n:Nat} {cs:List Value} (h:za6 w K 1 A n cs) (hn:0<n):∃ ad,A=some ad∧∀ j v,cs[j]?=some v→w.cell? (ad.add j)=some v:=by
 obtain ⟨ad,e,_,hc⟩:=h.2 hn;exact ⟨ad,e,hc⟩
theorem zjn {w:World} {base g n:Nat} {e:TypeId} {xs cs:List Value} (h:w.heap[g]?=some (.cells xs.toArray e (0,0))) (hx:xs=cs) (hn:cs.length=n) (hb:base≤g) (h63:n≤9223372036854775807):w.ownsRow base e 1 (.slice (some ⟨g,0,none⟩) n n) n cs:=by
 subst hx;exact ⟨by omega,.inr ⟨g,n,xs.toArray,rfl,hb,h,Nat.le_refl _,by unfold maxLen;omega,by simp [hn],by simp [←hn]⟩⟩
theorem zgH (v:Value) (p:Pk) (K:Nat→Prop) (w:World) (hv:IsPk w K v p) (hK:∀ b,K b→b<w.heap.size) (hbl:p.buf.length≤1099511627776) (hll:p.l.length≤1000000000000) :
 Calls Tryz.prog 187 #[v] w fun e w'=>∃ A c A' c',e=.returned (pkV p (.slice A p.buf.length c) (.slice A' p.l.length c'))∧w'.ownsRow w.heap.size 5 1 (.slice A p.buf.length c) p.buf.length (za3 p.buf) ∧
  OwnR Rp.rc w' w.heap.size 109 K (.slice A' p.l.length c') p.l∧Below w.heap.size w w':=by
 obtain ⟨vb,vl,rfl,hb,hl⟩:=hv;obtain ⟨i0,hi,hz0,hz1,hz2⟩:=info_parts Tryz.info5;have hb0:=hb;have hl0:=hl;obtain ⟨A,c,rfl,hbr,hbc,hbc2,_⟩:=hb;obtain ⟨A2,c2,rfl,hlc,hlc2⟩:=hl.form;have E:=((((Kn.start w).give za1.list hl0).give za1.bytes hb0).push 35 #[.int .i64 p.h.host,.int .i64 p.h.epoch,.int .i64 p.h.seq,.int .i64 p.zone,.int .i64 p.cap,.int .i64 p.at_,.slice A p.buf.length c,.slice A2 p.l.length c2]).push 35 #[.int .i64 0,.int .i64 0,.int .i64 0,.int .i64 0,.int .i64 0,.int .i64 0,.slice none 0 0,.slice none 0 0];rw [World.size_alloc] at E;unfold pkV;go_enter Tryz.func187,Tryz.ntmps187
 go_upto_region 1 with fail;have hw2:(((w.alloc (.cells #[.int .i64 p.h.host,.int .i64 p.h.epoch,.int .i64 p.h.seq,.int .i64 p.zone,.int .i64 p.cap,.int .i64 p.at_,.slice A p.buf.length c,.slice A2 p.l.length c2] 35)).alloc (.cells #[.int .i64 0,.int .i64 0,.int .i64 0,.int .i64 0,.int .i64 0,.int .i64 0,.slice none 0 0,.slice none 0 0] 35))).heap.size=w.heap.size+1+1:=by simp
 generalize ((w.alloc (.cells #[.int .i64 p.h.host,.int .i64 p.h.epoch,.int .i64 p.h.seq,.int .i64 p.zone,.int .i64 p.cap,.int .i64 p.at_,.slice A p.buf.length c,.slice A2 p.l.length c2] 35)).alloc (.cells #[.int .i64 0,.int .i64 0,.int .i64 0,.int .i64 0,.int .i64 0,.int .i64 0,.slice none 0 0,.slice none 0 0] 35))=w2 at E hw2 ⊢;obtain ⟨qa,fa,ta⟩:=E.rules m1;go_wp2_with (first
  | (at_make;go_must (refine wpList_make_full _ rfl _ _ 32 rfl w2.heap.size 5 i0 _ 1 Tryz.underlying32 hi hz0 hz1 _ _ _ _ p.buf.length rfl rfl (by omega) (by omega) (by rw [hz2];omega) (by unfold maxLen;omega) (Nat.le_refl _) ?_)
     intro w1 how hg1;have hbn:Below w2.heap.size w2 w1:=⟨hg1.os,hg1.tape,hg1.output,hg1.size,fun k hk=>hg1.block k hk (by simp)⟩
     have E1:=E.step hbn;obtain ⟨qb,fb,tb⟩:=E1.rules m1;obtain ⟨Ab,cb,eb,hbr1,_⟩:=E1.get m0;injection eb with eb1 _ eb2;subst eb1 eb2;obtain ⟨cur,hcur,hcs⟩:=zma how rfl;have hszb:(Tryz.prog.info? 5).map (·.size)=some 1:=by rw [hi];simp [hz1]
     have h8l:(za3 p.buf).length=p.buf.length:=by simp [za3])
  | (refine wpList_copy_splice rfl _ _ _ _ rfl 5 Tryz.underlying32 hszb _ _ _ _ _ _ rfl rfl (w.heap.size+1+1) 0 cur 5 (by rw [←hw2];exact hcur) (za3 p.buf) (by rw [h8l];exact (Nat.min_self _).symm) (fun h=>⟨rfl,zmQ hbr1 (by omega)⟩) (by omega) (zan _) (w.heap.size+1+1) w1 (Below.refl _ _) (Nat.le_refl _) ?_
     intro w3 hg3 hb3;have hb13:Below w2.heap.size w2 w3:=hbn.trans (hb3.mono (by omega))
     have E3:=E.step hb13;obtain ⟨qc,fc,tc⟩:=E3.rules m1;have ownB:=zjn (base:=w2.heap.size) hg3.out (zjH cur (za3 p.buf) (by omega)) h8l (by omega) (by omega)
     obtain ⟨_,⟨cs,hrl,hcl⟩,_⟩:=(E3.get m1).open_))
 refine (zfy A2 p.l.length c2 K cs _ hrl (za8.one hcl) (by omega)).mono ?_
 rintro e w4 ⟨A4,c4,rfl,own4,hb4⟩;have E4:=E3.step hb4;have ownB4:=za4 ownB hb4 (Nat.le_refl _);obtain ⟨qd,fd,td⟩:=E4.rules m1;obtain ⟨qe,fe,te⟩:=E4.rules m0;have hs3:=hb13.size;have hs4:=hb4.size;have hcl4:=hcl.step hb4;clear E E3 qa qc fa fc qb fb;go_wp2_with fail;have t5:za0 w4 ((w4.setCell ⟨w.heap.size,6,none⟩ (.slice (some ⟨w.heap.size+1+1,0,none⟩) p.buf.length p.buf.length)).setCell ⟨w.heap.size,7,none⟩ (.slice A4 p.l.length c4)) (· = w.heap.size):=((za0.refl w4 (· = w.heap.size)).set (g:=w.heap.size) rfl 6 _).set (g:=w.heap.size) rfl 7 _;have B5:Blk ((w4.setCell ⟨w.heap.size,6,none⟩ (.slice (some ⟨w.heap.size+1+1,0,none⟩) p.buf.length p.buf.length)).setCell ⟨w.heap.size,7,none⟩ (.slice A4 p.l.length c4)) (w.heap.size+1) 35 #[.int .i64 0,.int .i64 0,.int .i64 0,.int .i64 0,.int .i64 0,.int .i64 0,.slice none 0 0,.slice none 0 0]:=((E4.at_ m0).far (p:=⟨w.heap.size,6,none⟩) (by simp) _).far (p:=⟨w.heap.size,7,none⟩) (by simp) _
 have h8:=zbY B5 (.int .i64 p.h.host) (.int .i64 p.h.epoch) (.int .i64 p.h.seq) (.int .i64 p.zone) (.int .i64 p.cap) (.int .i64 p.at_) (.slice (some ⟨w.heap.size+1+1,0,none⟩) p.buf.length p.buf.length) (.slice A4 p.l.length c4);obtain ⟨w9,hw9⟩:∃ w9,st8 ((w4.setCell ⟨w.heap.size,6,none⟩ (.slice (some ⟨w.heap.size+1+1,0,none⟩) p.buf.length p.buf.length)).setCell ⟨w.heap.size,7,none⟩ (.slice A4 p.l.length c4)) (w.heap.size+1) (.int .i64 p.h.host) (.int .i64 p.h.epoch) (.int .i64 p.h.seq) (.int .i64 p.zone) (.int .i64 p.cap) (.int .i64 p.at_) (.slice (some ⟨w.heap.size+1+1,0,none⟩) p.buf.length p.buf.length) (.slice A4 p.l.length c4)=w9:=⟨_,rfl⟩;rw [hw9] at h8;unfold st8 at hw9;rw [hw9];have hb6:=zaj (zaj E4.below t5 (Nat.le_refl _) E4.below.size) h8.2 (by omega) (by have:=t5.size;have:=E4.below.size;omega)
 obtain ⟨q9,f9⟩:=h8.1.rules;have ownB9:=za7 (za7 ownB4 t5 (by omega)) h8.2 (by omega)
 have own9:=za7 (za7 own4 t5 (by omega)) h8.2 (by omega)
 refine bodyPost_ret (v:=.agg #[.int .i64 p.h.host,.int .i64 p.h.epoch,.int .i64 p.h.seq,.int .i64 p.zone,.int .i64 p.cap,.int .i64 p.at_,.slice (some ⟨w.heap.size+1+1,0,none⟩) p.buf.length p.buf.length,.slice A4 p.l.length c4]) (by simp [results,Tryz.results187,go_sem,q9]) rfl ⟨_,_,_,_,rfl,zac ownB9 (by omega),⟨A4,c4,cs,rfl,zac own9 (by omega),?_⟩,hb6⟩
 refine (hcl4.keep (w':=w9) fun q hq _=>?_).more fun b hb=>?_
 · have h1:=hK _ hq
   rw [World.cell?_of_block (h8.2.block q.block (by have:=t5.size;omega) (by omega)),World.cell?_of_block (t5.block q.block (by omega) (by omega))]
 · have h1:=hK _ hb
   refine ⟨hb,by have:=hb6.size;omega,fun e=>?_⟩
   have:=(own9.lt b e.symm).1;omega
def cmdV (op zone epoch:Int) (vd:Value):Value:=.agg #[.int .i64 op,.int .i64 zone,.int .i64 epoch,.int .i64 0,.int .i64 0,vd]
theorem znn {w:World} {a:Nat} {ta:TypeId} {u0 u1 u2 u3 u4 u5:Value} (hA:Blk w a ta #[u0,u1,u2,u3,u4,u5]) (x0 x1 x2 x3 x4 x5:Value) :
 Blk ((((((w.setCell ⟨a,0,none⟩ x0).setCell ⟨a,1,none⟩ x1).setCell ⟨a,2,none⟩ x2).setCell ⟨a,3,none⟩ x3).setCell ⟨a,4,none⟩ x4).setCell ⟨a,5,none⟩ x5) a ta #[x0,x1,x2,x3,x4,x5] ∧
 za0 w ((((((w.setCell ⟨a,0,none⟩ x0).setCell ⟨a,1,none⟩ x1).setCell ⟨a,2,none⟩ x2).setCell ⟨a,3,none⟩ x3).setCell ⟨a,4,none⟩ x4).setCell ⟨a,5,none⟩ x5) (fun k=>k=a):=
 ⟨(((((hA.set_ 0 x0).set_ 1 x1).set_ 2 x2).set_ 3 x3).set_ 4 x4).set_ 5 x5,((((((za0.refl w (fun k=>k=a)).set (g:=a) rfl 0 x0).set (g:=a) rfl 1 x1).set (g:=a) rfl 2 x2).set (g:=a) rfl 3 x3).set (g:=a) rfl 4 x4).set (g:=a) rfl 5 x5⟩
theorem zjc (v:Value) (p:Pk) (K:Nat→Prop) (w:World) (hv:IsPk w K v p) (hp:OkPk p) (hne:p.buf≠[]) :
 Calls Tryz.prog 138 #[v] w fun e w'=>∃ A c,e=.returned (.tuple #[cmdV 1 p.zone p.h.epoch (.slice A p.buf.length c),pkV (zc8 p) (.slice none 0 0) (.slice none 0 0),.bool true]) ∧
  w'.ownsRow w.heap.size 5 1 (.slice A p.buf.length c) p.buf.length (za3 p.buf)∧Below w.heap.size w w':=by
 obtain ⟨vb,vl,rfl,hb,hl⟩:=hv;obtain ⟨_,_,hcap,hat,hbl,_⟩:=hp;have hb0:=hb;have hl0:=hl;obtain ⟨A,c,rfl,hbr,hbc,hbc2,_⟩:=hb;obtain ⟨A2,c2,rfl,hlc,hlc2⟩:=hl.form;have hpos:0<p.buf.length:=List.length_pos_iff.2 hne;have hpos':((p.buf.length:Int) == 0)=false:=by simp;exact hne
 unfold zc8;rw [if_neg hne];clear hne hpos;have E:=(((((Kn.start w).give za1.list hl0).give za1.bytes hb0).push 35 #[.int .i64 p.h.host,.int .i64 p.h.epoch,.int .i64 p.h.seq,.int .i64 p.zone,.int .i64 p.cap,.int .i64 p.at_,.slice A p.buf.length c,.slice A2 p.l.length c2]).push 78 #[.int .i64 0,.int .i64 0,.int .i64 0,.int .i64 0,.int .i64 0,.slice none 0 0]).push 35 #[.int .i64 0,.int .i64 0,.int .i64 0,.int .i64 0,.int .i64 0,.int .i64 0,.slice none 0 0,.slice none 0 0];simp only [World.size_alloc] at E;unfold pkV cmdV;go_enter Tryz.func138,Tryz.ntmps138
 go_upto_region 1 with fail;obtain ⟨w2,hw2⟩:∃ w2,((w.alloc (.cells #[.int .i64 p.h.host,.int .i64 p.h.epoch,.int .i64 p.h.seq,.int .i64 p.zone,.int .i64 p.cap,.int .i64 p.at_,.slice A p.buf.length c,.slice A2 p.l.length c2] 35)).alloc (.cells #[.int .i64 0,.int .i64 0,.int .i64 0,.int .i64 0,.int .i64 0,.slice none 0 0] 78)).alloc (.cells #[.int .i64 0,.int .i64 0,.int .i64 0,.int .i64 0,.int .i64 0,.int .i64 0,.slice none 0 0,.slice none 0 0] 35)=w2:=⟨_,rfl⟩;have hs2:w2.heap.size=w.heap.size+1+1+1:=by rw [←hw2];simp
 rw [hw2] at E ⊢;have HS2:=Lib.hid hs2;clear hw2 hs2;obtain ⟨qa,fa,ta⟩:=E.rules m2;go_upto_region 3 with fail;go_cut [5] (fun s5 wx=>∃ bx A9 c9,s5=.pointer (some ⟨bx,0,none⟩)∧w2.heap.size≤bx∧Blk wx bx 78 #[.int .i64 1,.int .i64 p.zone,.int .i64 p.h.epoch,.int .i64 0,.int .i64 0,.slice A9 p.buf.length c9]∧wx.ownsRow w2.heap.size 5 1 (.slice A9 p.buf.length c9) p.buf.length (za3 p.buf)∧Below w2.heap.size w2 wx)
 case first=>
  have HK:Hid (∀ W,Below w2.heap.size w2 W→(∀ o,W.cell? ⟨w.heap.size,o,none⟩=(#[.int .i64 p.h.host,.int .i64 p.h.epoch,.int .i64 p.h.seq,.int .i64 p.zone,.int .i64 p.cap,.int .i64 p.at_,.slice A p.buf.length c,.slice A2 p.l.length c2]:Array Value)[o]?)):=Lib.hid fun W h=>((E.step h).rules m2).1
  have HK6:Hid (∀ W A9 c9,Below w2.heap.size w2 W→(∀ o,((((((W.setCell ⟨w2.heap.size,0,none⟩ (.int .i64 1)).setCell ⟨w2.heap.size,1,none⟩ (.int .i64 p.zone)).setCell ⟨w2.heap.size,2,none⟩ (.int .i64 p.h.epoch)).setCell ⟨w2.heap.size,3,none⟩ (.int .i64 0)).setCell ⟨w2.heap.size,4,none⟩ (.int .i64 0)).setCell ⟨w2.heap.size,5,none⟩ (.slice A9 p.buf.length c9)).cell? ⟨w.heap.size,o,none⟩=(#[.int .i64 p.h.host,.int .i64 p.h.epoch,.int .i64 p.h.seq,.int .i64 p.zone,.int .i64 p.cap,.int .i64 p.at_,.slice A p.buf.length c,.slice A2 p.l.length c2]:Array Value)[o]?)):=Lib.hid fun W A9 c9 h=>HK.out _ ((((((h.setCell (Nat.le_refl _) _).setCell (Nat.le_refl _) _).setCell (Nat.le_refl _) _).setCell (Nat.le_refl _) _).setCell (Nat.le_refl _) _).setCell (Nat.le_refl _) _)
  have hbZ:Below w2.heap.size w2 (w2.alloc (.cells #[.int .i64 0,.int .i64 0,.int .i64 0,.int .i64 0,.int .i64 0,.slice none 0 0] 78)).drew:=((Below.refl _ _).alloc (Nat.le_refl _) _).drew;have hZ0:Blk (w2.alloc (.cells #[.int .i64 0,.int .i64 0,.int .i64 0,.int .i64 0,.int .i64 0,.slice none 0 0] 78)).drew w2.heap.size 78 #[.int .i64 0,.int .i64 0,.int .i64 0,.int .i64 0,.int .i64 0,.slice none 0 0]:=(Blk.new w2 _ _ rfl).drew;go_region_held3 (fun W=>(∀ o,W.cell? ⟨w.heap.size,o,none⟩=(#[.int .i64 p.h.host,.int .i64 p.h.epoch,.int .i64 p.h.seq,.int .i64 p.zone,.int .i64 p.cap,.int .i64 p.at_,.slice A p.buf.length c,.slice A2 p.l.length c2]:Array Value)[o]?))
   (first | with_reducible exact HK6.out _ _ _ hb1 | with_reducible exact HK.out _ (Below.refl _ _).drew | with_reducible exact HK.out _ hbZ | with_reducible exact HK.out _ hb1 | with_reducible exact HK.out _ (hb1.alloc (Nat.le_refl _) _) | with_reducible exact HK.out _ (hb1.alloc hb1.size _))
   (first
    | (go_at_call 66
       refine (zay _ p.buf K _ ((E.step hbZ).get m0)).mono ?_;rintro e w1 ⟨A9,c9,rfl,own9,hb1⟩;have hZ:=hZ0.step hb1;obtain ⟨qz,fz⟩:=hZ.rules;have tz:=hZ.lt;replace hb1:=hbZ.trans (hb1.mono hbZ.size))
    | (go_at_call 66
       refine (zay _ p.buf K _ ((E.step (Below.refl _ _).drew).get m0)).mono ?_;rintro e w1 ⟨A9,c9,rfl,own9,hb1⟩;replace hb1:=(Below.refl w2.heap.size w2).drew.trans hb1))
  all_goals go_wp2_with fail
  all_goals go_meet
  · exact ⟨w1.heap.size,A9,c9,rfl,hb1.size,Blk.new _ _ _ rfl,zac (own9.alloc _) (Nat.le_refl _),hb1.alloc hb1.size _⟩
  · obtain ⟨hb6,ht6⟩:=znn hZ (.int .i64 1) (.int .i64 p.zone) (.int .i64 p.h.epoch) (.int .i64 0) (.int .i64 0) (.slice A9 p.buf.length c9)
    exact ⟨w2.heap.size,A9,c9,rfl,Nat.le_refl _,hb6,zac (za7 own9 ht6 (by simp)) (by simp),zaj hb1 ht6 (Nat.le_refl _) hb1.size⟩
 case rest=>
  obtain ⟨bx,A9,c9,rfl,hbx,hBx,own9,hbc⟩:=hcut;have E5:=E.step hbc;have hs2:=HS2.out;have hbxl:=hBx.lt;obtain ⟨qb,fb,tb⟩:=E5.rules m2;have hbx3:w.heap.size+1+1+1≤bx:=by omega
  have hne5:bx≠w.heap.size:=by omega
  go_upto_region 6 with fail;have T5:za0 wc (((wc.setCell ⟨w.heap.size,5,none⟩ (.int .i64 (p.at_+p.buf.length))).setCell ⟨w.heap.size,6,none⟩ (.slice none 0 0)).setCell ⟨w.heap.size,7,none⟩ (.slice none 0 0)) (· = w.heap.size):=(((za0.refl wc (· = w.heap.size)).set (g:=w.heap.size) rfl 5 _).set (g:=w.heap.size) rfl 6 _).set (g:=w.heap.size) rfl 7 _;have C0:Blk (((wc.setCell ⟨w.heap.size,5,none⟩ (.int .i64 (p.at_+p.buf.length))).setCell ⟨w.heap.size,6,none⟩ (.slice none 0 0)).setCell ⟨w.heap.size,7,none⟩ (.slice none 0 0)) w.heap.size 35 #[.int .i64 p.h.host,.int .i64 p.h.epoch,.int .i64 p.h.seq,.int .i64 p.zone,.int .i64 p.cap,.int .i64 (p.at_+p.buf.length),.slice none 0 0,.slice none 0 0]:=(((E5.at_ m2).set_ 5 (.int .i64 (p.at_+p.buf.length))).set_ 6 (.slice none 0 0)).set_ 7 (.slice none 0 0);have C1:Blk (((wc.setCell ⟨w.heap.size,5,none⟩ (.int .i64 (p.at_+p.buf.length))).setCell ⟨w.heap.size,6,none⟩ (.slice none 0 0)).setCell ⟨w.heap.size,7,none⟩ (.slice none 0 0)) (w.heap.size+1) 78 #[.int .i64 0,.int .i64 0,.int .i64 0,.int .i64 0,.int .i64 0,.slice none 0 0]:=(((E5.at_ m1).far (p:=⟨w.heap.size,5,none⟩) (by simp) _).far (p:=⟨w.heap.size,6,none⟩) (by simp) _).far (p:=⟨w.heap.size,7,none⟩) (by simp) _
  have C2:Blk (((wc.setCell ⟨w.heap.size,5,none⟩ (.int .i64 (p.at_+p.buf.length))).setCell ⟨w.heap.size,6,none⟩ (.slice none 0 0)).setCell ⟨w.heap.size,7,none⟩ (.slice none 0 0)) (w.heap.size+1+1) 35 #[.int .i64 0,.int .i64 0,.int .i64 0,.int .i64 0,.int .i64 0,.int .i64 0,.slice none 0 0,.slice none 0 0]:=(((E5.at_ m0).far (p:=⟨w.heap.size,5,none⟩) (by simp;omega) _).far (p:=⟨w.heap.size,6,none⟩) (by simp;omega) _).far (p:=⟨w.heap.size,7,none⟩) (by simp;omega) _
  have Cx:Blk (((wc.setCell ⟨w.heap.size,5,none⟩ (.int .i64 (p.at_+p.buf.length))).setCell ⟨w.heap.size,6,none⟩ (.slice none 0 0)).setCell ⟨w.heap.size,7,none⟩ (.slice none 0 0)) bx 78 #[.int .i64 1,.int .i64 p.zone,.int .i64 p.h.epoch,.int .i64 0,.int .i64 0,.slice A9 p.buf.length c9]:=((hBx.far (p:=⟨w.heap.size,5,none⟩) hne5 _).far (p:=⟨w.heap.size,6,none⟩) hne5 _).far (p:=⟨w.heap.size,7,none⟩) hne5 _;have own5:=za7 own9 T5 (by omega)
  have hbd:=zaj E5.below T5 (Nat.le_refl _) E5.below.size;have hszT:=T5.size;clear E E5 hBx own9 qa fa qb fb;generalize ((wc.setCell ⟨w.heap.size,5,none⟩ (.int .i64 (p.at_+p.buf.length))).setCell ⟨w.heap.size,6,none⟩ (.slice none 0 0)).setCell ⟨w.heap.size,7,none⟩ (.slice none 0 0)=w5 at T5 C0 C1 C2 Cx own5 hbd hszT ⊢;clear T5 hs2;obtain ⟨q1,f1⟩:=C1.rules;obtain ⟨q2,f2⟩:=C2.rules;have t1:=C1.lt;have t2:=C2.lt;have hlx:=Cx.lt;have hl0:=C0.lt;have HT:Hid (∀ W,za0 w5 W (fun k=>k=w.heap.size+1∨k=w.heap.size+1+1)→((∀ o,W.cell? ⟨bx,o,none⟩=(#[.int .i64 1,.int .i64 p.zone,.int .i64 p.h.epoch,.int .i64 0,.int .i64 0,.slice A9 p.buf.length c9]:Array Value)[o]?)∧(∀ o,W.cell? ⟨w.heap.size,o,none⟩=(#[.int .i64 p.h.host,.int .i64 p.h.epoch,.int .i64 p.h.seq,.int .i64 p.zone,.int .i64 p.cap,.int .i64 (p.at_+p.buf.length),.slice none 0 0,.slice none 0 0]:Array Value)[o]?))):=Lib.hid fun W h=>
   ⟨fun o=>by rw [World.cell?_of_block (h.block bx hlx (by omega))];exact Cx.cell o,fun o=>by rw [World.cell?_of_block (h.block w.heap.size hl0 (by omega))];exact C0.cell o⟩
  have T6:∀ W,za0 w5 W (fun k=>k=w.heap.size+1∨k=w.heap.size+1+1)→za0 w5 ((((((W.setCell ⟨w.heap.size+1,0,none⟩ (.int .i64 1)).setCell ⟨w.heap.size+1,1,none⟩ (.int .i64 p.zone)).setCell ⟨w.heap.size+1,2,none⟩ (.int .i64 p.h.epoch)).setCell ⟨w.heap.size+1,3,none⟩ (.int .i64 0)).setCell ⟨w.heap.size+1,4,none⟩ (.int .i64 0)).setCell ⟨w.heap.size+1,5,none⟩ (.slice A9 p.buf.length c9)) (fun k=>k=w.heap.size+1∨k=w.heap.size+1+1):=fun W h=>(((((h.set (g:=w.heap.size+1) (.inl rfl) 0 _).set (g:=w.heap.size+1) (.inl rfl) 1 _).set (g:=w.heap.size+1) (.inl rfl) 2 _).set (g:=w.heap.size+1) (.inl rfl) 3 _).set (g:=w.heap.size+1) (.inl rfl) 4 _).set (g:=w.heap.size+1) (.inl rfl) 5 _
  have T8:∀ W,za0 w5 W (fun k=>k=w.heap.size+1∨k=w.heap.size+1+1)→za0 w5 ((((((((W.setCell ⟨w.heap.size+1+1,0,none⟩ (.int .i64 p.h.host)).setCell ⟨w.heap.size+1+1,1,none⟩ (.int .i64 p.h.epoch)).setCell ⟨w.heap.size+1+1,2,none⟩ (.int .i64 p.h.seq)).setCell ⟨w.heap.size+1+1,3,none⟩ (.int .i64 p.zone)).setCell ⟨w.heap.size+1+1,4,none⟩ (.int .i64 p.cap)).setCell ⟨w.heap.size+1+1,5,none⟩ (.int .i64 (p.at_+p.buf.length))).setCell ⟨w.heap.size+1+1,6,none⟩ (.slice none 0 0)).setCell ⟨w.heap.size+1+1,7,none⟩ (.slice none 0 0)) (fun k=>k=w.heap.size+1∨k=w.heap.size+1+1):=fun W h=>(((((((h.set (g:=w.heap.size+1+1) (.inr rfl) 0 _).set (g:=w.heap.size+1+1) (.inr rfl) 1 _).set (g:=w.heap.size+1+1) (.inr rfl) 2 _).set (g:=w.heap.size+1+1) (.inr rfl) 3 _).set (g:=w.heap.size+1+1) (.inr rfl) 4 _).set (g:=w.heap.size+1+1) (.inr rfl) 5 _).set (g:=w.heap.size+1+1) (.inr rfl) 6 _).set (g:=w.heap.size+1+1) (.inr rfl) 7 _
  have T00:za0 w5 w5 (fun k=>k=w.heap.size+1∨k=w.heap.size+1+1):=za0.refl _ _
  have T0:za0 w5 w5.drew (fun k=>k=w.heap.size+1∨k=w.heap.size+1+1):=za0.of (Below.refl _ _).drew
  have HS0:Hid ((∀ o,w5.drew.cell? ⟨bx,o,none⟩=(#[.int .i64 1,.int .i64 p.zone,.int .i64 p.h.epoch,.int .i64 0,.int .i64 0,.slice A9 p.buf.length c9]:Array Value)[o]?)∧(∀ o,w5.drew.cell? ⟨w.heap.size,o,none⟩=(#[.int .i64 p.h.host,.int .i64 p.h.epoch,.int .i64 p.h.seq,.int .i64 p.zone,.int .i64 p.cap,.int .i64 (p.at_+p.buf.length),.slice none 0 0,.slice none 0 0]:Array Value)[o]?)):=Lib.hid (HT.out _ T0);have HS6:Hid (∀ W,za0 w5 W (fun k=>k=w.heap.size+1∨k=w.heap.size+1+1)→((∀ o,((((((W.setCell ⟨w.heap.size+1,0,none⟩ (.int .i64 1)).setCell ⟨w.heap.size+1,1,none⟩ (.int .i64 p.zone)).setCell ⟨w.heap.size+1,2,none⟩ (.int .i64 p.h.epoch)).setCell ⟨w.heap.size+1,3,none⟩ (.int .i64 0)).setCell ⟨w.heap.size+1,4,none⟩ (.int .i64 0)).setCell ⟨w.heap.size+1,5,none⟩ (.slice A9 p.buf.length c9)).drew.cell? ⟨bx,o,none⟩=(#[.int .i64 1,.int .i64 p.zone,.int .i64 p.h.epoch,.int .i64 0,.int .i64 0,.slice A9 p.buf.length c9]:Array Value)[o]?)∧(∀ o,((((((W.setCell ⟨w.heap.size+1,0,none⟩ (.int .i64 1)).setCell ⟨w.heap.size+1,1,none⟩ (.int .i64 p.zone)).setCell ⟨w.heap.size+1,2,none⟩ (.int .i64 p.h.epoch)).setCell ⟨w.heap.size+1,3,none⟩ (.int .i64 0)).setCell ⟨w.heap.size+1,4,none⟩ (.int .i64 0)).setCell ⟨w.heap.size+1,5,none⟩ (.slice A9 p.buf.length c9)).drew.cell? ⟨w.heap.size,o,none⟩=(#[.int .i64 p.h.host,.int .i64 p.h.epoch,.int .i64 p.h.seq,.int .i64 p.zone,.int .i64 p.cap,.int .i64 (p.at_+p.buf.length),.slice none 0 0,.slice none 0 0]:Array Value)[o]?))):=Lib.hid fun W h=>HT.out _ (T6 W h).drew
  have HS8:Hid (∀ W,za0 w5 W (fun k=>k=w.heap.size+1∨k=w.heap.size+1+1)→((∀ o,((((((((W.setCell ⟨w.heap.size+1+1,0,none⟩ (.int .i64 p.h.host)).setCell ⟨w.heap.size+1+1,1,none⟩ (.int .i64 p.h.epoch)).setCell ⟨w.heap.size+1+1,2,none⟩ (.int .i64 p.h.seq)).setCell ⟨w.heap.size+1+1,3,none⟩ (.int .i64 p.zone)).setCell ⟨w.heap.size+1+1,4,none⟩ (.int .i64 p.cap)).setCell ⟨w.heap.size+1+1,5,none⟩ (.int .i64 (p.at_+p.buf.length))).setCell ⟨w.heap.size+1+1,6,none⟩ (.slice none 0 0)).setCell ⟨w.heap.size+1+1,7,none⟩ (.slice none 0 0)).drew.cell? ⟨bx,o,none⟩=(#[.int .i64 1,.int .i64 p.zone,.int .i64 p.h.epoch,.int .i64 0,.int .i64 0,.slice A9 p.buf.length c9]:Array Value)[o]?)∧(∀ o,((((((((W.setCell ⟨w.heap.size+1+1,0,none⟩ (.int .i64 p.h.host)).setCell ⟨w.heap.size+1+1,1,none⟩ (.int .i64 p.h.epoch)).setCell ⟨w.heap.size+1+1,2,none⟩ (.int .i64 p.h.seq)).setCell ⟨w.heap.size+1+1,3,none⟩ (.int .i64 p.zone)).setCell ⟨w.heap.size+1+1,4,none⟩ (.int .i64 p.cap)).setCell ⟨w.heap.size+1+1,5,none⟩ (.int .i64 (p.at_+p.buf.length))).setCell ⟨w.heap.size+1+1,6,none⟩ (.slice none 0 0)).setCell ⟨w.heap.size+1+1,7,none⟩ (.slice none 0 0)).drew.cell? ⟨w.heap.size,o,none⟩=(#[.int .i64 p.h.host,.int .i64 p.h.epoch,.int .i64 p.h.seq,.int .i64 p.zone,.int .i64 p.cap,.int .i64 (p.at_+p.buf.length),.slice none 0 0,.slice none 0 0]:Array Value)[o]?))):=Lib.hid fun W h=>HT.out _ (T8 W h).drew
  go_region_held3 (fun W:World=>(∀ o,W.cell? ⟨bx,o,none⟩=(#[.int .i64 1,.int .i64 p.zone,.int .i64 p.h.epoch,.int .i64 0,.int .i64 0,.slice A9 p.buf.length c9]:Array Value)[o]?)∧(∀ o,W.cell? ⟨w.heap.size,o,none⟩=(#[.int .i64 p.h.host,.int .i64 p.h.epoch,.int .i64 p.h.seq,.int .i64 p.zone,.int .i64 p.cap,.int .i64 (p.at_+p.buf.length),.slice none 0 0,.slice none 0 0]:Array Value)[o]?))
   (first | with_reducible exact HS8.out _ (T6 _ T00) | with_reducible exact HS6.out _ (T8 _ T00) | with_reducible exact HS8.out _ T00 | with_reducible exact HS6.out _ T00 | with_reducible exact HS0.out) (fail)
  go_wp2_with fail;obtain ⟨hB6,hT6⟩:=znn C1 (.int .i64 1) (.int .i64 p.zone) (.int .i64 p.h.epoch) (.int .i64 0) (.int .i64 0) (.slice A9 p.buf.length c9);obtain ⟨hB8,hT8⟩:=zbY (C2.turned hT6 (by omega)) (.int .i64 p.h.host) (.int .i64 p.h.epoch) (.int .i64 p.h.seq) (.int .i64 p.zone) (.int .i64 p.cap) (.int .i64 (p.at_+p.buf.length)) (.slice none 0 0) (.slice none 0 0)
  unfold st8 at hB8 hT8;have hB6':=hB6.turned hT8 (by omega)
  have own8:=za7 (za7 own5 hT6 (by have:=HS2.out;omega)) hT8 (by have:=HS2.out;omega)
  have hbe:=zaj (zaj hbd hT6 (by omega) (by omega)) hT8 (by omega) (by have:=hT6.size;omega)
  generalize ((((((((((((((w5.setCell ⟨w.heap.size+1,0,none⟩ (.int .i64 1)).setCell ⟨w.heap.size+1,1,none⟩ (.int .i64 p.zone)).setCell ⟨w.heap.size+1,2,none⟩ (.int .i64 p.h.epoch)).setCell ⟨w.heap.size+1,3,none⟩ (.int .i64 0)).setCell ⟨w.heap.size+1,4,none⟩ (.int .i64 0)).setCell ⟨w.heap.size+1,5,none⟩ (.slice A9 p.buf.length c9)).setCell ⟨w.heap.size+1+1,0,none⟩ (.int .i64 p.h.host)).setCell ⟨w.heap.size+1+1,1,none⟩ (.int .i64 p.h.epoch)).setCell ⟨w.heap.size+1+1,2,none⟩ (.int .i64 p.h.seq)).setCell ⟨w.heap.size+1+1,3,none⟩ (.int .i64 p.zone)).setCell ⟨w.heap.size+1+1,4,none⟩ (.int .i64 p.cap)).setCell ⟨w.heap.size+1+1,5,none⟩ (.int .i64 (p.at_+p.buf.length))).setCell ⟨w.heap.size+1+1,6,none⟩ (.slice none 0 0)).setCell ⟨w.heap.size+1+1,7,none⟩ (.slice none 0 0))=w9 at hB6' hB8 own8 hbe ⊢;obtain ⟨q8,f8⟩:=hB6'.drew.rules;obtain ⟨q9,f9⟩:=hB8.drew.rules;refine bodyPost_ret (v:=.tuple #[.agg #[.int .i64 1,.int .i64 p.zone,.int .i64 p.h.epoch,.int .i64 0,.int .i64 0,.slice A9 p.buf.length c9],.agg #[.int .i64 p.h.host,.int .i64 p.h.epoch,.int .i64 p.h.seq,.int .i64 p.zone,.int .i64 p.cap,.int .i64 (p.at_+p.buf.length),.slice none 0 0,.slice none 0 0],.bool true]) (by simp [results,Tryz.results138,go_sem,q8,q9]) rfl ⟨A9,c9,rfl,zac (za4 own8 (Below.refl _ _).drew (Nat.le_refl _)) (by have:=HS2.out;omega),hbe.drew⟩
end Go.Proofs.YthblkdnijhphhaaGreat
