/- A part of the proof. -/
import Derived.Test.YtcapmeefiglfjaaGreatSegCheck
import Derived.Deep.DeepCutAuto
set_option maxHeartbeats 4000000
set_option maxRecDepth 100000
namespace Go.Proofs.YtcapmeefiglfjaaGreat
structure Pk where
 h:Hd
 zone:Int
 cap:Int
 at_:Int
 buf:List UInt8
 l:List Rc
def p0k:Pk:=⟨⟨0,0,0⟩,0,0,0,[],[]⟩
def gT (p:Pk):Int:=max (p.cap-p.at_-p.buf.length) 0
def cH:List Rc→List UInt8
 | []=>[]
 | r::l=>(recL r).1++cH l
def eY:List Rc→Int
 | []=>0
 | r::l=>if (recL r).2≠0 then (recL r).2 else eY l
def pW:Int→List Rc→List Int
 | _,[]=>[]
 | b,r::l=>(b+(recL r).1.length-4-r.data.length)::pW (b+(recL r).1.length) l
def fX (p:Pk) (l:List Rc):Pk × List Int × Int:=
 if eY l≠0 then (p0k,[],eY l)
 else if gT p<(cH l).length then (p0k,[],40)
 else (⟨p.h,p.zone,p.cap,p.at_,p.buf++cH l,p.l++l⟩,pW (p.at_+p.buf.length) l,0)
def iV (h:Hd) (zone most:Int):Pk × Int:=
 if (fQ h).2≠0 then (p0k,(fQ h).2)
 else if ¬(0≤zone∧1≤most∧most≤65536) then (p0k,1)
 else if most<(fQ h).1.length then (p0k,40)
 else (⟨h,zone,most,0,(fQ h).1,[]⟩,0)
def gA (p:Pk):Pk:=if p.buf=[] then p else ⟨p.h,p.zone,p.cap,p.at_+p.buf.length,[],[]⟩
theorem nP (l m:List Rc):cH (l++m)=cH l++cH m:=by
 induction l with
 | nil=>rfl
 | cons r l ih=>simp [cH,ih]
theorem vO (l:List Rc) (r:Rc):eY (l++[r])=if eY l≠0 then eY l else (recL r).2:=by
 induction l with
 | nil=>simp [eY];exact fun h=>h.symm
 | cons x l ih=>
   rw [List.cons_append];unfold eY;by_cases h:(recL x).2=0
   · simp only [h,ne_eq,zk3,zjG];rw [ih]
   · simp [h]
theorem zR (l m:List Rc):∀ b:Int,pW b (l++m)=pW b l++pW (b+(cH l).length) m:=by
 induction l with
 | nil=>intro b;simp [pW,cH]
 | cons r l ih=>
   intro b;simp only [List.cons_append,pW,cH,ih,zie,Int.natCast_add];rw [show b+((recL r).1.length:Int)+((cH l).length:Int)=b+(((recL r).1.length:Int)+((cH l).length:Int)) by omega]
theorem sF (l:List Rc):∀ b:Int,(pW b l).length=l.length:=by
 induction l with
 | nil=>intro b;rfl
 | cons r l ih=>intro b;simp [pW,ih]
theorem kU {r:Rc} (hr:lZ r):(recL r).1.length≤40030∧((recL r).2=0→r.data.length+4≤(recL r).1.length∧5≤(recL r).1.length):=by
 by_cases h:checkL r=0
 · rw [mD hr h]
   have h1:=rQ hr h;have h2:=zcZ (jB r);have h3:=dR (n:=(jB r).length) (by omega)
   have h4:=rK (jB r).length;have h5:r.data.length≤(jB r).length:=by unfold jB;simp only [zie];omega
   dsimp only;constructor
   · omega
   · intro _;omega
 · rw [zcH h]
   exact ⟨by simp,fun h'=>absurd h' h⟩
end Go.Proofs.YtcapmeefiglfjaaGreat
namespace Go.Proofs.YtcapmeefiglfjaaGreat
open Go.RowKit
theorem Tryz.infR:(Tryz.prog.info? 117).map (fun i=>(i.zero,i.size,i.bytes))=some (some (.agg #[.int .i64 0,.int .i64 0,.int .i64 0,.int .i64 0,.int .i64 0,.int .i64 0,.slice none 0 0]),7,72):=by kernel_rfl
theorem qL (A:Option Addr) (n c:Nat) (K:Nat→Prop) (xs:List Value) (w:World) (hr:aG w K 7 A n xs) (h1:∀ u∈xs,u.oneCell'=true) (hn:n*72≤140737488355328) :
 Calls Tryz.prog 83 #[.slice A n c] w fun e w'=>∃ A' c',e=.returned (.slice A' n c')∧w'.ownsRow w.heap.size 117 7 (.slice A' n c') n xs∧Below w.heap.size w w':=by
 obtain ⟨i0,hi,hz0,hz1,hz2⟩:=ziH Tryz.infR;rcases A with _ | ad
 · have hn0:n=0:=by
    rcases ziV n with h | h
    · exact h
    · obtain ⟨_,h2,_⟩:=hr.2 h;cases h2
   subst hn0;have hx:xs=[]:=zis (by simpa using hr.1)
   subst hx;have heq:=fun w=>zj6 (P:=Tryz.prog) w 32 117 none 0 c 0 0 Tryz.underlying32
   go_enter Tryz.func83,Tryz.ntmps83
   go_wp2;go_ret;exact ⟨none,0,rfl,zin _ _ _ _,zif _ _⟩
 · have heq:=fun w=>zj6 (P:=Tryz.prog) w 32 117 (some ad) n c 0 0 Tryz.underlying32
   have hr':=hr.alloc (.cells #[] 117);go_enter Tryz.func83,Tryz.ntmps83
   go_wp2_with (at_builtin;refine aF rfl _ _ _ rfl w.heap.size 117 i0 _ 7 72 Tryz.underlying32 hi hz0 hz1 hz2 rfl (by omega) rfl (fV _ _ _ _) rfl hr' h1 (by simp only [maxLen];omega) (by omega) (by simp) ?_;intro A' c' w1 hown1 hg1)
   go_ret;simp only [zj5,List.nil_append] at hown1 ⊢;exact ⟨A',c',rfl,hown1,(zBA).trans hg1.below⟩
def pkV (p:Pk) (vb vl:Value):Value:=.agg #[.int .i64 p.h.host,.int .i64 p.h.epoch,.int .i64 p.h.seq,.int .i64 p.zone,.int .i64 p.cap,.int .i64 p.at_,vb,vl]
def ze8 (w:World) (K:Nat→Prop) (v:Value) (p:Pk):Prop:=∃ vb vl,v=pkV p vb vl∧IsB w K vb p.buf∧IsL Rp.rc w K vl p.l
def zbE (p:Pk):Prop:=yA p.h∧(-9223372036854775808≤p.zone∧p.zone≤9223372036854775807)∧(0≤p.cap∧p.cap≤1099511627776)∧(0≤p.at_∧p.at_≤1099511627776)∧p.buf.length≤1099511627776∧p.l.length≤1000000000000
theorem sE (v:Value) (p:Pk) (K:Nat→Prop) (w:World) (hv:ze8 w K v p) (hp:zbE p) :
 Calls Tryz.prog 149 #[v] w fun e w'=>e=.returned (.int .i64 (gT p))∧Below w.heap.size w w':=by
 obtain ⟨vb,vl,rfl,hb,hl⟩:=hv;obtain ⟨_,_,hcap,hat,hbl,_⟩:=hp;obtain ⟨A,c,rfl,_⟩:=hb;unfold pkV gT;go_enter Tryz.func149,Tryz.ntmps149
 go_wp2;go_ret;exact ⟨rfl,zBA⟩
theorem rU (zone most:Int) (w:World) :
 Calls Tryz.prog 203 #[.int .i64 zone,.int .i64 most] w fun e w'=>e=.returned (.bool (decide (0≤zone∧1≤most∧most≤65536)))∧w'=w:=by
 by_cases h1:0≤zone
 · by_cases h2:1≤most
   · by_cases h3:most≤65536
     · rw [show decide (0≤zone∧1≤most∧most≤65536)=true by simp;omega]
       go_enter Tryz.func203,Tryz.ntmps203
       go_wp2;go_ret;exact ⟨rfl,rfl⟩
     · rw [show decide (0≤zone∧1≤most∧most≤65536)=false by simp;omega]
       go_enter Tryz.func203,Tryz.ntmps203
       go_wp2;go_ret;exact ⟨rfl,rfl⟩
   · rw [show decide (0≤zone∧1≤most∧most≤65536)=false by simp;omega]
     go_enter Tryz.func203,Tryz.ntmps203
     go_wp2;go_ret;exact ⟨rfl,rfl⟩
 · rw [show decide (0≤zone∧1≤most∧most≤65536)=false by simp;omega]
   go_enter Tryz.func203,Tryz.ntmps203
   go_wp2;go_ret;exact ⟨rfl,rfl⟩
def st8 (w:World) (a:Nat) (x0 x1 x2 x3 x4 x5 x6 x7:Value):World:=(((((((w.setCell ⟨a,0,none⟩ x0).setCell ⟨a,1,none⟩ x1).setCell ⟨a,2,none⟩ x2).setCell ⟨a,3,none⟩ x3).setCell ⟨a,4,none⟩ x4).setCell ⟨a,5,none⟩ x5).setCell ⟨a,6,none⟩ x6).setCell ⟨a,7,none⟩ x7
theorem zi9 {w:World} {a:Nat} {ta:TypeId} {u0 u1 u2 u3 u4 u5 u6 u7:Value} (h:Blk w a ta #[u0,u1,u2,u3,u4,u5,u6,u7]) (x:Value):Blk (w.setCell ⟨a,0,none⟩ x) a ta #[x,u1,u2,u3,u4,u5,u6,u7]:=h.set_ 0 x
theorem zhY {w:World} {a:Nat} {ta:TypeId} {u0 u1 u2 u3 u4 u5 u6 u7:Value} (h:Blk w a ta #[u0,u1,u2,u3,u4,u5,u6,u7]) (x:Value):Blk (w.setCell ⟨a,1,none⟩ x) a ta #[u0,x,u2,u3,u4,u5,u6,u7]:=h.set_ 1 x
theorem zi7 {w:World} {a:Nat} {ta:TypeId} {u0 u1 u2 u3 u4 u5 u6 u7:Value} (h:Blk w a ta #[u0,u1,u2,u3,u4,u5,u6,u7]) (x:Value):Blk (w.setCell ⟨a,2,none⟩ x) a ta #[u0,u1,x,u3,u4,u5,u6,u7]:=h.set_ 2 x
theorem zhX {w:World} {a:Nat} {ta:TypeId} {u0 u1 u2 u3 u4 u5 u6 u7:Value} (h:Blk w a ta #[u0,u1,u2,u3,u4,u5,u6,u7]) (x:Value):Blk (w.setCell ⟨a,3,none⟩ x) a ta #[u0,u1,u2,x,u4,u5,u6,u7]:=h.set_ 3 x
theorem zi1 {w:World} {a:Nat} {ta:TypeId} {u0 u1 u2 u3 u4 u5 u6 u7:Value} (h:Blk w a ta #[u0,u1,u2,u3,u4,u5,u6,u7]) (x:Value):Blk (w.setCell ⟨a,4,none⟩ x) a ta #[u0,u1,u2,u3,x,u5,u6,u7]:=h.set_ 4 x
theorem zi5 {w:World} {a:Nat} {ta:TypeId} {u0 u1 u2 u3 u4 u5 u6 u7:Value} (h:Blk w a ta #[u0,u1,u2,u3,u4,u5,u6,u7]) (x:Value):Blk (w.setCell ⟨a,5,none⟩ x) a ta #[u0,u1,u2,u3,u4,x,u6,u7]:=h.set_ 5 x
theorem zhT {w:World} {a:Nat} {ta:TypeId} {u0 u1 u2 u3 u4 u5 u6 u7:Value} (h:Blk w a ta #[u0,u1,u2,u3,u4,u5,u6,u7]) (x:Value):Blk (w.setCell ⟨a,6,none⟩ x) a ta #[u0,u1,u2,u3,u4,u5,x,u7]:=h.set_ 6 x
theorem zhR {w:World} {a:Nat} {ta:TypeId} {u0 u1 u2 u3 u4 u5 u6 u7:Value} (h:Blk w a ta #[u0,u1,u2,u3,u4,u5,u6,u7]) (x:Value):Blk (w.setCell ⟨a,7,none⟩ x) a ta #[u0,u1,u2,u3,u4,u5,u6,x]:=h.set_ 7 x
theorem fK {w:World} {a:Nat} {ta:TypeId} {u0 u1 u2 u3 u4 u5 u6 u7:Value} (hA:Blk w a ta #[u0,u1,u2,u3,u4,u5,u6,u7]) (x0 x1 x2 x3 x4 x5 x6 x7:Value) :
 Blk (st8 w a x0 x1 x2 x3 x4 x5 x6 x7) a ta #[x0,x1,x2,x3,x4,x5,x6,x7]∧aA w (st8 w a x0 x1 x2 x3 x4 x5 x6 x7) (fun k=>k=a):=by
 unfold st8;exact ⟨(zhR (zhT (zi5 (zi1 (zhX (zi7 (zhY (zi9 hA x0) x1) x2) x3) x4) x5) x6) x7),(((((((((aA.refl w (fun k=>k=a)).set (g:=a) rfl 0 x0).set (g:=a) rfl 1 x1).set (g:=a) rfl 2 x2).set (g:=a) rfl 3 x3).set (g:=a) rfl 4 x4).set (g:=a) rfl 5 x5).set (g:=a) rfl 6 x6).set (g:=a) rfl 7 x7)⟩
theorem aV {w w' w'':World} {B a:Nat} (h:Below B w w') (ht:aA w' w'' (fun k=>k=a)) (ha:B≤a) (hB:B≤w'.heap.size):Below B w w'':=
 h.trans ⟨ht.os,ht.tape,ht.output,ht.size,fun k hk=>ht.block k (by omega) (by omega)⟩
theorem zaF (h:Hd) (zone most:Int) (w:World) (hh:yA h) :
 Calls Tryz.prog 152 #[hdV h,.int .i64 zone,.int .i64 most] w fun e w'=>∃ A c,e=.returned (.tuple #[pkV (iV h zone most).1 (.slice A (iV h zone most).1.buf.length c) (.slice none 0 0),.int .i64 (iV h zone most).2]) ∧
  w'.ownsRow w.heap.size 5 1 (.slice A (iV h zone most).1.buf.length c) (iV h zone most).1.buf.length (aE (iV h zone most).1.buf)∧Below w.heap.size w w':=by
 have hc:=fun W=>zf7 h W hh
 unfold hdV pkV iV at *;obtain ⟨hb,hhb⟩:∃ hb,fQ h=hb:=⟨_,rfl⟩;rw [hhb] at hc ⊢;clear hhb;obtain ⟨hb,he⟩:=hb;simp only at hc ⊢;have E:=((Kn.start w).push 30 #[.int .i64 h.host,.int .i64 h.epoch,.int .i64 h.seq]).push 34 #[.int .i64 0,.int .i64 0,.int .i64 0,.int .i64 0,.int .i64 0,.int .i64 0,.slice none 0 0,.slice none 0 0];rw [zid] at E;by_cases h1:he=0
 · subst h1
   rw [zig (by simp)]
   by_cases h2:0≤zone∧1≤most∧most≤65536
   · rw [zig (fun h=>h h2)]
     have h2':decide (0≤zone∧1≤most∧most≤65536)=true:=ziu h2;by_cases h3:most<(hb.length:Int)
     · rw [zij h3]
       go_enter Tryz.func152,Tryz.ntmps152
       go_wp2_with fail;refine (hc _).mono ?_;rintro e w1 ⟨A1,c1,rfl,own1,hb1⟩;replace E:=E.step hb1;obtain ⟨q1,f1,t1⟩:=E.rules m0;go_wp2_with fail;refine (rU zone most _).mono ?_;rintro e w2 ⟨rfl,rfl⟩;rw [h2'];clear h2';go_wp2_with fail;have h8:=fK (E.at_ m0) (.int .i64 0) (.int .i64 0) (.int .i64 0) (.int .i64 0) (.int .i64 0) (.int .i64 0) (.slice none 0 0) (.slice none 0 0);obtain ⟨w9,hw9⟩:∃ w9,st8 w2 (w.heap.size+1) (.int .i64 0) (.int .i64 0) (.int .i64 0) (.int .i64 0) (.int .i64 0) (.int .i64 0) (.slice none 0 0) (.slice none 0 0)=w9:=⟨_,rfl⟩;rw [hw9] at h8;unfold st8 at hw9;rw [hw9];have hb2:=aV E.below h8.2 (by omega) E.below.size
       obtain ⟨q9,f9⟩:=h8.1.rules;refine zik (v:=.tuple #[.agg #[.int .i64 0,.int .i64 0,.int .i64 0,.int .i64 0,.int .i64 0,.int .i64 0,.slice none 0 0,.slice none 0 0],.int .i64 40]) (by simp [results,Tryz.results152,go_sem,q9]) rfl ⟨none,0,rfl,zin _ _ _ _,hb2⟩
     · rw [zig h3]
       go_enter Tryz.func152,Tryz.ntmps152
       go_wp2_with fail;refine (hc _).mono ?_;rintro e w1 ⟨A1,c1,rfl,own1,hb1⟩;replace E:=E.step hb1;obtain ⟨q1,f1,t1⟩:=E.rules m0;go_wp2_with fail;refine (rU zone most _).mono ?_;rintro e w2 ⟨rfl,rfl⟩;rw [h2'];clear h2';obtain ⟨q2,f2,t2⟩:=E.rules m1;go_wp2_with fail;have h8:=fK (E.at_ m0) (.int .i64 h.host) (.int .i64 h.epoch) (.int .i64 h.seq) (.int .i64 zone) (.int .i64 most) (.int .i64 0) (.slice A1 hb.length c1) (.slice none 0 0);obtain ⟨w9,hw9⟩:∃ w9,st8 w2 (w.heap.size+1) (.int .i64 h.host) (.int .i64 h.epoch) (.int .i64 h.seq) (.int .i64 zone) (.int .i64 most) (.int .i64 0) (.slice A1 hb.length c1) (.slice none 0 0)=w9:=⟨_,rfl⟩;rw [hw9] at h8;unfold st8 at hw9;rw [hw9];have hb2:=aV E.below h8.2 (by omega) E.below.size
       obtain ⟨q9,f9⟩:=h8.1.rules;refine zik (v:=.tuple #[.agg #[.int .i64 h.host,.int .i64 h.epoch,.int .i64 h.seq,.int .i64 zone,.int .i64 most,.int .i64 0,.slice A1 hb.length c1,.slice none 0 0],.int .i64 0]) (by simp [results,Tryz.results152,go_sem,q9]) rfl ⟨A1,c1,rfl,?_,hb2⟩
       exact aO (aH own1 h8.2 (by simp)) (by simp;omega)
   · rw [zij h2]
     have h2':decide (0≤zone∧1≤most∧most≤65536)=false:=ziv h2;go_enter Tryz.func152,Tryz.ntmps152
     go_wp2_with fail;refine (hc _).mono ?_;rintro e w1 ⟨A1,c1,rfl,own1,hb1⟩;replace E:=E.step hb1;obtain ⟨q1,f1,t1⟩:=E.rules m0;go_wp2_with fail;refine (rU zone most _).mono ?_;rintro e w2 ⟨rfl,rfl⟩;rw [h2'];clear h2';go_wp2_with fail;have h8:=fK (E.at_ m0) (.int .i64 0) (.int .i64 0) (.int .i64 0) (.int .i64 0) (.int .i64 0) (.int .i64 0) (.slice none 0 0) (.slice none 0 0);obtain ⟨w9,hw9⟩:∃ w9,st8 w2 (w.heap.size+1) (.int .i64 0) (.int .i64 0) (.int .i64 0) (.int .i64 0) (.int .i64 0) (.int .i64 0) (.slice none 0 0) (.slice none 0 0)=w9:=⟨_,rfl⟩;rw [hw9] at h8;unfold st8 at hw9;rw [hw9];have hb2:=aV E.below h8.2 (by omega) E.below.size
     obtain ⟨q9,f9⟩:=h8.1.rules;refine zik (v:=.tuple #[.agg #[.int .i64 0,.int .i64 0,.int .i64 0,.int .i64 0,.int .i64 0,.int .i64 0,.slice none 0 0,.slice none 0 0],.int .i64 1]) (by simp [results,Tryz.results152,go_sem,q9]) rfl ⟨none,0,rfl,zin _ _ _ _,hb2⟩
 · rw [zij h1]
   have h1':((he:Int) != 0)=true:=by simp [h1]
   clear h1;go_enter Tryz.func152,Tryz.ntmps152
   go_wp2_with fail;refine (hc _).mono ?_;rintro e w1 ⟨A1,c1,rfl,own1,hb1⟩;replace E:=E.step hb1;obtain ⟨q1,f1,t1⟩:=E.rules m0;go_wp2_with fail;have h8:=fK (E.at_ m0) (.int .i64 0) (.int .i64 0) (.int .i64 0) (.int .i64 0) (.int .i64 0) (.int .i64 0) (.slice none 0 0) (.slice none 0 0);obtain ⟨w9,hw9⟩:∃ w9,st8 w1 (w.heap.size+1) (.int .i64 0) (.int .i64 0) (.int .i64 0) (.int .i64 0) (.int .i64 0) (.int .i64 0) (.slice none 0 0) (.slice none 0 0)=w9:=⟨_,rfl⟩;rw [hw9] at h8;unfold st8 at hw9;rw [hw9];have hb2:=aV E.below h8.2 (by omega) E.below.size
   obtain ⟨q9,f9⟩:=h8.1.rules;refine zik (v:=.tuple #[.agg #[.int .i64 0,.int .i64 0,.int .i64 0,.int .i64 0,.int .i64 0,.int .i64 0,.slice none 0 0,.slice none 0 0],.int .i64 he]) (by simp [results,Tryz.results152,go_sem,q9]) rfl ⟨none,0,rfl,zin _ _ _ _,hb2⟩
theorem zbe {α:Type} (cur cs:List α) (h:cur.length=cs.length):splice cur 0 cs=cs:=by
 unfold splice;rw [List.take_zero,List.nil_append,zjz (by omega),ziz]
theorem zer {w:World} {base g n cap:Nat} {e:TypeId} {xs:List Value} (h:w.ownsRow base e 1 (.slice (some ⟨g,0,none⟩) n cap) n xs) (hn:n=cap):∃ cur:List Value,w.heap[g]?=some (.cells cur.toArray e (0,0))∧cur.length=n:=by
 rcases h.2 with ⟨h1,_⟩ | ⟨g',cap',cur,hv,_,hg,_,_,hcs,_⟩
 · cases h1
 · injection hv with e1 e2 e3
   injection e1 with e1;injection e1 with e1;subst e1 e3;exact ⟨cur.toList,by simpa using hg,by simp [hcs,hn]⟩
theorem zeZ {w:World} {K:Nat→Prop} {A:Option Addr} {n:Nat} {cs:List Value} (h:aG w K 1 A n cs) (hn:0<n):∃ ad,A=some ad∧∀ j v,cs[j]?=some v→w.cell? (ad.add j)=some v:=by
 obtain ⟨ad,e,_,hc⟩:=h.2 hn;exact ⟨ad,e,hc⟩
theorem zba {w:World} {base g n:Nat} {e:TypeId} {xs cs:List Value} (h:w.heap[g]?=some (.cells xs.toArray e (0,0))) (hx:xs=cs) (hn:cs.length=n) (hb:base≤g) (h63:n≤9223372036854775807):w.ownsRow base e 1 (.slice (some ⟨g,0,none⟩) n n) n cs:=by
 subst hx;exact ⟨by omega,.inr ⟨g,n,xs.toArray,rfl,hb,h,zic _,by unfold maxLen;omega,by simp [hn],by simp [←hn]⟩⟩
theorem vD (v:Value) (p:Pk) (K:Nat→Prop) (w:World) (hv:ze8 w K v p) (hK:∀ b,K b→b<w.heap.size) (hbl:p.buf.length≤1099511627776) (hll:p.l.length≤1000000000000) :
 Calls Tryz.prog 204 #[v] w fun e w'=>∃ A c A' c',e=.returned (pkV p (.slice A p.buf.length c) (.slice A' p.l.length c'))∧w'.ownsRow w.heap.size 5 1 (.slice A p.buf.length c) p.buf.length (aE p.buf) ∧
  eA Rp.rc w' w.heap.size 117 K (.slice A' p.l.length c') p.l∧Below w.heap.size w w':=by
 obtain ⟨vb,vl,rfl,hb,hl⟩:=hv;obtain ⟨i0,hi,hz0,hz1,hz2⟩:=ziH Tryz.info5;have hb0:=hb;have hl0:=hl;obtain ⟨A,c,rfl,hbr,hbc,hbc2,_⟩:=hb;obtain ⟨A2,c2,rfl,hlc,hlc2⟩:=hl.form;have E:=((((Kn.start w).give aB.list hl0).give aB.bytes hb0).push 34 #[.int .i64 p.h.host,.int .i64 p.h.epoch,.int .i64 p.h.seq,.int .i64 p.zone,.int .i64 p.cap,.int .i64 p.at_,.slice A p.buf.length c,.slice A2 p.l.length c2]).push 34 #[.int .i64 0,.int .i64 0,.int .i64 0,.int .i64 0,.int .i64 0,.int .i64 0,.slice none 0 0,.slice none 0 0];rw [zid] at E;unfold pkV;go_enter Tryz.func204,Tryz.ntmps204
 go_upto_region 1 with fail;have hw2:(((w.alloc (.cells #[.int .i64 p.h.host,.int .i64 p.h.epoch,.int .i64 p.h.seq,.int .i64 p.zone,.int .i64 p.cap,.int .i64 p.at_,.slice A p.buf.length c,.slice A2 p.l.length c2] 34)).alloc (.cells #[.int .i64 0,.int .i64 0,.int .i64 0,.int .i64 0,.int .i64 0,.int .i64 0,.slice none 0 0,.slice none 0 0] 34))).heap.size=w.heap.size+1+1:=by simp
 generalize ((w.alloc (.cells #[.int .i64 p.h.host,.int .i64 p.h.epoch,.int .i64 p.h.seq,.int .i64 p.zone,.int .i64 p.cap,.int .i64 p.at_,.slice A p.buf.length c,.slice A2 p.l.length c2] 34)).alloc (.cells #[.int .i64 0,.int .i64 0,.int .i64 0,.int .i64 0,.int .i64 0,.int .i64 0,.slice none 0 0,.slice none 0 0] 34))=w2 at E hw2 ⊢;obtain ⟨qa,fa,ta⟩:=E.rules m1;go_wp2_with (first
  | (at_make;go_must (refine wpList_make_full _ rfl _ _ 31 rfl w2.heap.size 5 i0 _ 1 Tryz.underlying31 hi hz0 hz1 _ _ _ _ p.buf.length rfl rfl (by omega) (by omega) (by rw [hz2];omega) (by unfold maxLen;omega) (zic _) ?_)
     intro w1 how hg1;have hbn:Below w2.heap.size w2 w1:=⟨hg1.os,hg1.tape,hg1.output,hg1.size,fun k hk=>hg1.block k hk (by simp)⟩
     have E1:=E.step hbn;obtain ⟨qb,fb,tb⟩:=E1.rules m1;obtain ⟨Ab,cb,eb,hbr1,_⟩:=E1.get m0;injection eb with eb1 _ eb2;subst eb1 eb2;obtain ⟨cur,hcur,hcs⟩:=zer how rfl;have hszb:(Tryz.prog.info? 5).map (·.size)=some 1:=by rw [hi];simp [hz1]
     have h8l:(aE p.buf).length=p.buf.length:=by simp [aE])
  | (refine wpList_copy_splice rfl _ _ _ _ rfl 5 Tryz.underlying31 hszb _ _ _ _ _ _ rfl rfl (w.heap.size+1+1) 0 cur 5 (by rw [←hw2];exact hcur) (aE p.buf) (by rw [h8l];exact (Nat.min_self _).symm) (fun h=>⟨rfl,zeZ hbr1 (by omega)⟩) (by omega) (aW _) (w.heap.size+1+1) w1 (zif _ _) (zic _) ?_
     intro w3 hg3 hb3;have hb13:Below w2.heap.size w2 w3:=hbn.trans (hb3.mono (by omega))
     have E3:=E.step hb13;obtain ⟨qc,fc,tc⟩:=E3.rules m1;have ownB:=zba (base:=w2.heap.size) hg3.out (zbe cur (aE p.buf) (by omega)) h8l (by omega) (by omega)
     obtain ⟨_,⟨cs,hrl,hcl⟩,_⟩:=(E3.get m1).open_))
 refine (qL A2 p.l.length c2 K cs _ hrl (aI.one hcl) (by omega)).mono ?_
 rintro e w4 ⟨A4,c4,rfl,own4,hb4⟩;have E4:=E3.step hb4;have ownB4:=aD ownB hb4 (zic _);obtain ⟨qd,fd,td⟩:=E4.rules m1;obtain ⟨qe,fe,te⟩:=E4.rules m0;have hs3:=hb13.size;have hs4:=hb4.size;have hcl4:=hcl.step hb4;clear E E3 qa qc fa fc qb fb;go_wp2_with fail;have t5:aA w4 ((w4.setCell ⟨w.heap.size,6,none⟩ (.slice (some ⟨w.heap.size+1+1,0,none⟩) p.buf.length p.buf.length)).setCell ⟨w.heap.size,7,none⟩ (.slice A4 p.l.length c4)) (· = w.heap.size):=((aA.refl w4 (· = w.heap.size)).set (g:=w.heap.size) rfl 6 _).set (g:=w.heap.size) rfl 7 _;have B5:Blk ((w4.setCell ⟨w.heap.size,6,none⟩ (.slice (some ⟨w.heap.size+1+1,0,none⟩) p.buf.length p.buf.length)).setCell ⟨w.heap.size,7,none⟩ (.slice A4 p.l.length c4)) (w.heap.size+1) 34 #[.int .i64 0,.int .i64 0,.int .i64 0,.int .i64 0,.int .i64 0,.int .i64 0,.slice none 0 0,.slice none 0 0]:=((E4.at_ m0).far (p:=⟨w.heap.size,6,none⟩) (by simp) _).far (p:=⟨w.heap.size,7,none⟩) (by simp) _
 have h8:=fK B5 (.int .i64 p.h.host) (.int .i64 p.h.epoch) (.int .i64 p.h.seq) (.int .i64 p.zone) (.int .i64 p.cap) (.int .i64 p.at_) (.slice (some ⟨w.heap.size+1+1,0,none⟩) p.buf.length p.buf.length) (.slice A4 p.l.length c4);obtain ⟨w9,hw9⟩:∃ w9,st8 ((w4.setCell ⟨w.heap.size,6,none⟩ (.slice (some ⟨w.heap.size+1+1,0,none⟩) p.buf.length p.buf.length)).setCell ⟨w.heap.size,7,none⟩ (.slice A4 p.l.length c4)) (w.heap.size+1) (.int .i64 p.h.host) (.int .i64 p.h.epoch) (.int .i64 p.h.seq) (.int .i64 p.zone) (.int .i64 p.cap) (.int .i64 p.at_) (.slice (some ⟨w.heap.size+1+1,0,none⟩) p.buf.length p.buf.length) (.slice A4 p.l.length c4)=w9:=⟨_,rfl⟩;rw [hw9] at h8;unfold st8 at hw9;rw [hw9];have hb6:=aV (aV E4.below t5 (zic _) E4.below.size) h8.2 (by omega) (by have:=t5.size;have:=E4.below.size;omega)
 obtain ⟨q9,f9⟩:=h8.1.rules;have ownB9:=aH (aH ownB4 t5 (by omega)) h8.2 (by omega)
 have own9:=aH (aH own4 t5 (by omega)) h8.2 (by omega)
 refine zik (v:=.agg #[.int .i64 p.h.host,.int .i64 p.h.epoch,.int .i64 p.h.seq,.int .i64 p.zone,.int .i64 p.cap,.int .i64 p.at_,.slice (some ⟨w.heap.size+1+1,0,none⟩) p.buf.length p.buf.length,.slice A4 p.l.length c4]) (by simp [results,Tryz.results204,go_sem,q9]) rfl ⟨_,_,_,_,rfl,aO ownB9 (by omega),⟨A4,c4,cs,rfl,aO own9 (by omega),?_⟩,hb6⟩
 refine (hcl4.keep (w':=w9) fun q hq _=>?_).more fun b hb=>?_
 · have h1:=hK _ hq
   rw [zjg (h8.2.block q.block (by have:=t5.size;omega) (by omega)),zjg (t5.block q.block (by omega) (by omega))]
 · have h1:=hK _ hb
   refine ⟨hb,by have:=hb6.size;omega,fun e=>?_⟩
   have:=(own9.lt b e.symm).1;omega
def zhG (op zone epoch:Int) (vd:Value):Value:=.agg #[.int .i64 op,.int .i64 zone,.int .i64 epoch,.int .i64 0,.int .i64 0,vd]
theorem zfs {w:World} {a:Nat} {ta:TypeId} {u0 u1 u2 u3 u4 u5:Value} (hA:Blk w a ta #[u0,u1,u2,u3,u4,u5]) (x0 x1 x2 x3 x4 x5:Value) :
 Blk ((((((w.setCell ⟨a,0,none⟩ x0).setCell ⟨a,1,none⟩ x1).setCell ⟨a,2,none⟩ x2).setCell ⟨a,3,none⟩ x3).setCell ⟨a,4,none⟩ x4).setCell ⟨a,5,none⟩ x5) a ta #[x0,x1,x2,x3,x4,x5] ∧
 aA w ((((((w.setCell ⟨a,0,none⟩ x0).setCell ⟨a,1,none⟩ x1).setCell ⟨a,2,none⟩ x2).setCell ⟨a,3,none⟩ x3).setCell ⟨a,4,none⟩ x4).setCell ⟨a,5,none⟩ x5) (fun k=>k=a):=
 ⟨(((((hA.set_ 0 x0).set_ 1 x1).set_ 2 x2).set_ 3 x3).set_ 4 x4).set_ 5 x5,((((((aA.refl w (fun k=>k=a)).set (g:=a) rfl 0 x0).set (g:=a) rfl 1 x1).set (g:=a) rfl 2 x2).set (g:=a) rfl 3 x3).set (g:=a) rfl 4 x4).set (g:=a) rfl 5 x5⟩
theorem zbg (v:Value) (p:Pk) (K:Nat→Prop) (w:World) (hv:ze8 w K v p) (hp:zbE p) (hne:p.buf≠[]) :
 Calls Tryz.prog 154 #[v] w fun e w'=>∃ A c,e=.returned (.tuple #[zhG 1 p.zone p.h.epoch (.slice A p.buf.length c),pkV (gA p) (.slice none 0 0) (.slice none 0 0),.bool true]) ∧
  w'.ownsRow w.heap.size 5 1 (.slice A p.buf.length c) p.buf.length (aE p.buf)∧Below w.heap.size w w':=by
 obtain ⟨vb,vl,rfl,hb,hl⟩:=hv;obtain ⟨_,_,hcap,hat,hbl,_⟩:=hp;have hb0:=hb;have hl0:=hl;obtain ⟨A,c,rfl,hbr,hbc,hbc2,_⟩:=hb;obtain ⟨A2,c2,rfl,hlc,hlc2⟩:=hl.form;have hpos:0<p.buf.length:=zjR.2 hne;have hpos':((p.buf.length:Int) == 0)=false:=by simp;exact hne
 unfold gA;rw [zig hne];clear hne hpos;have E:=(((((Kn.start w).give aB.list hl0).give aB.bytes hb0).push 34 #[.int .i64 p.h.host,.int .i64 p.h.epoch,.int .i64 p.h.seq,.int .i64 p.zone,.int .i64 p.cap,.int .i64 p.at_,.slice A p.buf.length c,.slice A2 p.l.length c2]).push 80 #[.int .i64 0,.int .i64 0,.int .i64 0,.int .i64 0,.int .i64 0,.slice none 0 0]).push 34 #[.int .i64 0,.int .i64 0,.int .i64 0,.int .i64 0,.int .i64 0,.int .i64 0,.slice none 0 0,.slice none 0 0];simp only [zid] at E;unfold pkV zhG;go_enter Tryz.func154,Tryz.ntmps154
 go_upto_region 1 with fail;obtain ⟨w2,hw2⟩:∃ w2,((w.alloc (.cells #[.int .i64 p.h.host,.int .i64 p.h.epoch,.int .i64 p.h.seq,.int .i64 p.zone,.int .i64 p.cap,.int .i64 p.at_,.slice A p.buf.length c,.slice A2 p.l.length c2] 34)).alloc (.cells #[.int .i64 0,.int .i64 0,.int .i64 0,.int .i64 0,.int .i64 0,.slice none 0 0] 80)).alloc (.cells #[.int .i64 0,.int .i64 0,.int .i64 0,.int .i64 0,.int .i64 0,.int .i64 0,.slice none 0 0,.slice none 0 0] 34)=w2:=⟨_,rfl⟩;have hs2:w2.heap.size=w.heap.size+1+1+1:=by rw [←hw2];simp
 rw [hw2] at E ⊢;have HS2:=zia hs2;clear hw2 hs2;obtain ⟨qa,fa,ta⟩:=E.rules m2;go_upto_region 3 with fail;go_cut [5] (fun s5 wx=>∃ bx A9 c9,s5=.pointer (some ⟨bx,0,none⟩)∧w2.heap.size≤bx∧Blk wx bx 80 #[.int .i64 1,.int .i64 p.zone,.int .i64 p.h.epoch,.int .i64 0,.int .i64 0,.slice A9 p.buf.length c9]∧wx.ownsRow w2.heap.size 5 1 (.slice A9 p.buf.length c9) p.buf.length (aE p.buf)∧Below w2.heap.size w2 wx)
 case first=>
  have HK:Hid (∀ W,Below w2.heap.size w2 W→(∀ o,W.cell? ⟨w.heap.size,o,none⟩=(#[.int .i64 p.h.host,.int .i64 p.h.epoch,.int .i64 p.h.seq,.int .i64 p.zone,.int .i64 p.cap,.int .i64 p.at_,.slice A p.buf.length c,.slice A2 p.l.length c2]:Array Value)[o]?)):=zia fun W h=>((E.step h).rules m2).1
  have HK6:Hid (∀ W A9 c9,Below w2.heap.size w2 W→(∀ o,((((((W.setCell ⟨w2.heap.size,0,none⟩ (.int .i64 1)).setCell ⟨w2.heap.size,1,none⟩ (.int .i64 p.zone)).setCell ⟨w2.heap.size,2,none⟩ (.int .i64 p.h.epoch)).setCell ⟨w2.heap.size,3,none⟩ (.int .i64 0)).setCell ⟨w2.heap.size,4,none⟩ (.int .i64 0)).setCell ⟨w2.heap.size,5,none⟩ (.slice A9 p.buf.length c9)).cell? ⟨w.heap.size,o,none⟩=(#[.int .i64 p.h.host,.int .i64 p.h.epoch,.int .i64 p.h.seq,.int .i64 p.zone,.int .i64 p.cap,.int .i64 p.at_,.slice A p.buf.length c,.slice A2 p.l.length c2]:Array Value)[o]?)):=zia fun W A9 c9 h=>HK.out _ ((((((h.setCell (zic _) _).setCell (zic _) _).setCell (zic _) _).setCell (zic _) _).setCell (zic _) _).setCell (zic _) _)
  have hbZ:Below w2.heap.size w2 (w2.alloc (.cells #[.int .i64 0,.int .i64 0,.int .i64 0,.int .i64 0,.int .i64 0,.slice none 0 0] 80)).drew:=(zBA).drew;have hZ0:Blk (w2.alloc (.cells #[.int .i64 0,.int .i64 0,.int .i64 0,.int .i64 0,.int .i64 0,.slice none 0 0] 80)).drew w2.heap.size 80 #[.int .i64 0,.int .i64 0,.int .i64 0,.int .i64 0,.int .i64 0,.slice none 0 0]:=(Blk.new w2 _ _ rfl).drew;go_region_held3 (fun W=>(∀ o,W.cell? ⟨w.heap.size,o,none⟩=(#[.int .i64 p.h.host,.int .i64 p.h.epoch,.int .i64 p.h.seq,.int .i64 p.zone,.int .i64 p.cap,.int .i64 p.at_,.slice A p.buf.length c,.slice A2 p.l.length c2]:Array Value)[o]?))
   (first | with_reducible exact HK6.out _ _ _ hb1 | with_reducible exact HK.out _ (zif _ _).drew | with_reducible exact HK.out _ hbZ | with_reducible exact HK.out _ hb1 | with_reducible exact HK.out _ (hb1.alloc (zic _) _) | with_reducible exact HK.out _ (hb1.alloc hb1.size _))
   (first
    | (go_at_call 79
       refine (cE _ p.buf K _ ((E.step hbZ).get m0)).mono ?_;rintro e w1 ⟨A9,c9,rfl,own9,hb1⟩;have hZ:=hZ0.step hb1;obtain ⟨qz,fz⟩:=hZ.rules;have tz:=hZ.lt;replace hb1:=hbZ.trans (hb1.mono hbZ.size))
    | (go_at_call 79
       refine (cE _ p.buf K _ ((E.step (zif _ _).drew).get m0)).mono ?_;rintro e w1 ⟨A9,c9,rfl,own9,hb1⟩;replace hb1:=(zif w2.heap.size w2).drew.trans hb1))
  all_goals go_wp2_with fail
  all_goals go_meet
  · exact ⟨w1.heap.size,A9,c9,rfl,hb1.size,Blk.new _ _ _ rfl,aO (own9.alloc _) (zic _),hb1.alloc hb1.size _⟩
  · obtain ⟨hb6,ht6⟩:=zfs hZ (.int .i64 1) (.int .i64 p.zone) (.int .i64 p.h.epoch) (.int .i64 0) (.int .i64 0) (.slice A9 p.buf.length c9)
    exact ⟨w2.heap.size,A9,c9,rfl,zic _,hb6,aO (aH own9 ht6 (by simp)) (by simp),aV hb1 ht6 (zic _) hb1.size⟩
 case rest=>
  obtain ⟨bx,A9,c9,rfl,hbx,hBx,own9,hbc⟩:=hcut;have E5:=E.step hbc;have hs2:=HS2.out;have hbxl:=hBx.lt;obtain ⟨qb,fb,tb⟩:=E5.rules m2;have hbx3:w.heap.size+1+1+1≤bx:=by omega
  have hne5:bx≠w.heap.size:=by omega
  go_upto_region 6 with fail;have T5:aA wc (((wc.setCell ⟨w.heap.size,5,none⟩ (.int .i64 (p.at_+p.buf.length))).setCell ⟨w.heap.size,6,none⟩ (.slice none 0 0)).setCell ⟨w.heap.size,7,none⟩ (.slice none 0 0)) (· = w.heap.size):=(((aA.refl wc (· = w.heap.size)).set (g:=w.heap.size) rfl 5 _).set (g:=w.heap.size) rfl 6 _).set (g:=w.heap.size) rfl 7 _;have C0:Blk (((wc.setCell ⟨w.heap.size,5,none⟩ (.int .i64 (p.at_+p.buf.length))).setCell ⟨w.heap.size,6,none⟩ (.slice none 0 0)).setCell ⟨w.heap.size,7,none⟩ (.slice none 0 0)) w.heap.size 34 #[.int .i64 p.h.host,.int .i64 p.h.epoch,.int .i64 p.h.seq,.int .i64 p.zone,.int .i64 p.cap,.int .i64 (p.at_+p.buf.length),.slice none 0 0,.slice none 0 0]:=(((E5.at_ m2).set_ 5 (.int .i64 (p.at_+p.buf.length))).set_ 6 (.slice none 0 0)).set_ 7 (.slice none 0 0);have C1:Blk (((wc.setCell ⟨w.heap.size,5,none⟩ (.int .i64 (p.at_+p.buf.length))).setCell ⟨w.heap.size,6,none⟩ (.slice none 0 0)).setCell ⟨w.heap.size,7,none⟩ (.slice none 0 0)) (w.heap.size+1) 80 #[.int .i64 0,.int .i64 0,.int .i64 0,.int .i64 0,.int .i64 0,.slice none 0 0]:=(((E5.at_ m1).far (p:=⟨w.heap.size,5,none⟩) (by simp) _).far (p:=⟨w.heap.size,6,none⟩) (by simp) _).far (p:=⟨w.heap.size,7,none⟩) (by simp) _
  have C2:Blk (((wc.setCell ⟨w.heap.size,5,none⟩ (.int .i64 (p.at_+p.buf.length))).setCell ⟨w.heap.size,6,none⟩ (.slice none 0 0)).setCell ⟨w.heap.size,7,none⟩ (.slice none 0 0)) (w.heap.size+1+1) 34 #[.int .i64 0,.int .i64 0,.int .i64 0,.int .i64 0,.int .i64 0,.int .i64 0,.slice none 0 0,.slice none 0 0]:=(((E5.at_ m0).far (p:=⟨w.heap.size,5,none⟩) (by simp;omega) _).far (p:=⟨w.heap.size,6,none⟩) (by simp;omega) _).far (p:=⟨w.heap.size,7,none⟩) (by simp;omega) _
  have Cx:Blk (((wc.setCell ⟨w.heap.size,5,none⟩ (.int .i64 (p.at_+p.buf.length))).setCell ⟨w.heap.size,6,none⟩ (.slice none 0 0)).setCell ⟨w.heap.size,7,none⟩ (.slice none 0 0)) bx 80 #[.int .i64 1,.int .i64 p.zone,.int .i64 p.h.epoch,.int .i64 0,.int .i64 0,.slice A9 p.buf.length c9]:=((hBx.far (p:=⟨w.heap.size,5,none⟩) hne5 _).far (p:=⟨w.heap.size,6,none⟩) hne5 _).far (p:=⟨w.heap.size,7,none⟩) hne5 _;have own5:=aH own9 T5 (by omega)
  have hbd:=aV E5.below T5 (zic _) E5.below.size;have hszT:=T5.size;clear E E5 hBx own9 qa fa qb fb;generalize ((wc.setCell ⟨w.heap.size,5,none⟩ (.int .i64 (p.at_+p.buf.length))).setCell ⟨w.heap.size,6,none⟩ (.slice none 0 0)).setCell ⟨w.heap.size,7,none⟩ (.slice none 0 0)=w5 at T5 C0 C1 C2 Cx own5 hbd hszT ⊢;clear T5 hs2;obtain ⟨q1,f1⟩:=C1.rules;obtain ⟨q2,f2⟩:=C2.rules;have t1:=C1.lt;have t2:=C2.lt;have hlx:=Cx.lt;have hl0:=C0.lt;have HT:Hid (∀ W,aA w5 W (fun k=>k=w.heap.size+1∨k=w.heap.size+1+1)→((∀ o,W.cell? ⟨bx,o,none⟩=(#[.int .i64 1,.int .i64 p.zone,.int .i64 p.h.epoch,.int .i64 0,.int .i64 0,.slice A9 p.buf.length c9]:Array Value)[o]?)∧(∀ o,W.cell? ⟨w.heap.size,o,none⟩=(#[.int .i64 p.h.host,.int .i64 p.h.epoch,.int .i64 p.h.seq,.int .i64 p.zone,.int .i64 p.cap,.int .i64 (p.at_+p.buf.length),.slice none 0 0,.slice none 0 0]:Array Value)[o]?))):=zia fun W h=>
   ⟨fun o=>by rw [zjg (h.block bx hlx (by omega))];exact Cx.cell o,fun o=>by rw [zjg (h.block w.heap.size hl0 (by omega))];exact C0.cell o⟩
  have T6:∀ W,aA w5 W (fun k=>k=w.heap.size+1∨k=w.heap.size+1+1)→aA w5 ((((((W.setCell ⟨w.heap.size+1,0,none⟩ (.int .i64 1)).setCell ⟨w.heap.size+1,1,none⟩ (.int .i64 p.zone)).setCell ⟨w.heap.size+1,2,none⟩ (.int .i64 p.h.epoch)).setCell ⟨w.heap.size+1,3,none⟩ (.int .i64 0)).setCell ⟨w.heap.size+1,4,none⟩ (.int .i64 0)).setCell ⟨w.heap.size+1,5,none⟩ (.slice A9 p.buf.length c9)) (fun k=>k=w.heap.size+1∨k=w.heap.size+1+1):=fun W h=>(((((h.set (g:=w.heap.size+1) (.inl rfl) 0 _).set (g:=w.heap.size+1) (.inl rfl) 1 _).set (g:=w.heap.size+1) (.inl rfl) 2 _).set (g:=w.heap.size+1) (.inl rfl) 3 _).set (g:=w.heap.size+1) (.inl rfl) 4 _).set (g:=w.heap.size+1) (.inl rfl) 5 _
  have T8:∀ W,aA w5 W (fun k=>k=w.heap.size+1∨k=w.heap.size+1+1)→aA w5 ((((((((W.setCell ⟨w.heap.size+1+1,0,none⟩ (.int .i64 p.h.host)).setCell ⟨w.heap.size+1+1,1,none⟩ (.int .i64 p.h.epoch)).setCell ⟨w.heap.size+1+1,2,none⟩ (.int .i64 p.h.seq)).setCell ⟨w.heap.size+1+1,3,none⟩ (.int .i64 p.zone)).setCell ⟨w.heap.size+1+1,4,none⟩ (.int .i64 p.cap)).setCell ⟨w.heap.size+1+1,5,none⟩ (.int .i64 (p.at_+p.buf.length))).setCell ⟨w.heap.size+1+1,6,none⟩ (.slice none 0 0)).setCell ⟨w.heap.size+1+1,7,none⟩ (.slice none 0 0)) (fun k=>k=w.heap.size+1∨k=w.heap.size+1+1):=fun W h=>(((((((h.set (g:=w.heap.size+1+1) (.inr rfl) 0 _).set (g:=w.heap.size+1+1) (.inr rfl) 1 _).set (g:=w.heap.size+1+1) (.inr rfl) 2 _).set (g:=w.heap.size+1+1) (.inr rfl) 3 _).set (g:=w.heap.size+1+1) (.inr rfl) 4 _).set (g:=w.heap.size+1+1) (.inr rfl) 5 _).set (g:=w.heap.size+1+1) (.inr rfl) 6 _).set (g:=w.heap.size+1+1) (.inr rfl) 7 _
  have T00:aA w5 w5 (fun k=>k=w.heap.size+1∨k=w.heap.size+1+1):=aA.refl _ _
  have T0:aA w5 w5.drew (fun k=>k=w.heap.size+1∨k=w.heap.size+1+1):=aA.of (zif _ _).drew
  have HS0:Hid ((∀ o,w5.drew.cell? ⟨bx,o,none⟩=(#[.int .i64 1,.int .i64 p.zone,.int .i64 p.h.epoch,.int .i64 0,.int .i64 0,.slice A9 p.buf.length c9]:Array Value)[o]?)∧(∀ o,w5.drew.cell? ⟨w.heap.size,o,none⟩=(#[.int .i64 p.h.host,.int .i64 p.h.epoch,.int .i64 p.h.seq,.int .i64 p.zone,.int .i64 p.cap,.int .i64 (p.at_+p.buf.length),.slice none 0 0,.slice none 0 0]:Array Value)[o]?)):=zia (HT.out _ T0);have HS6:Hid (∀ W,aA w5 W (fun k=>k=w.heap.size+1∨k=w.heap.size+1+1)→((∀ o,((((((W.setCell ⟨w.heap.size+1,0,none⟩ (.int .i64 1)).setCell ⟨w.heap.size+1,1,none⟩ (.int .i64 p.zone)).setCell ⟨w.heap.size+1,2,none⟩ (.int .i64 p.h.epoch)).setCell ⟨w.heap.size+1,3,none⟩ (.int .i64 0)).setCell ⟨w.heap.size+1,4,none⟩ (.int .i64 0)).setCell ⟨w.heap.size+1,5,none⟩ (.slice A9 p.buf.length c9)).drew.cell? ⟨bx,o,none⟩=(#[.int .i64 1,.int .i64 p.zone,.int .i64 p.h.epoch,.int .i64 0,.int .i64 0,.slice A9 p.buf.length c9]:Array Value)[o]?)∧(∀ o,((((((W.setCell ⟨w.heap.size+1,0,none⟩ (.int .i64 1)).setCell ⟨w.heap.size+1,1,none⟩ (.int .i64 p.zone)).setCell ⟨w.heap.size+1,2,none⟩ (.int .i64 p.h.epoch)).setCell ⟨w.heap.size+1,3,none⟩ (.int .i64 0)).setCell ⟨w.heap.size+1,4,none⟩ (.int .i64 0)).setCell ⟨w.heap.size+1,5,none⟩ (.slice A9 p.buf.length c9)).drew.cell? ⟨w.heap.size,o,none⟩=(#[.int .i64 p.h.host,.int .i64 p.h.epoch,.int .i64 p.h.seq,.int .i64 p.zone,.int .i64 p.cap,.int .i64 (p.at_+p.buf.length),.slice none 0 0,.slice none 0 0]:Array Value)[o]?))):=zia fun W h=>HT.out _ (T6 W h).drew
  have HS8:Hid (∀ W,aA w5 W (fun k=>k=w.heap.size+1∨k=w.heap.size+1+1)→((∀ o,((((((((W.setCell ⟨w.heap.size+1+1,0,none⟩ (.int .i64 p.h.host)).setCell ⟨w.heap.size+1+1,1,none⟩ (.int .i64 p.h.epoch)).setCell ⟨w.heap.size+1+1,2,none⟩ (.int .i64 p.h.seq)).setCell ⟨w.heap.size+1+1,3,none⟩ (.int .i64 p.zone)).setCell ⟨w.heap.size+1+1,4,none⟩ (.int .i64 p.cap)).setCell ⟨w.heap.size+1+1,5,none⟩ (.int .i64 (p.at_+p.buf.length))).setCell ⟨w.heap.size+1+1,6,none⟩ (.slice none 0 0)).setCell ⟨w.heap.size+1+1,7,none⟩ (.slice none 0 0)).drew.cell? ⟨bx,o,none⟩=(#[.int .i64 1,.int .i64 p.zone,.int .i64 p.h.epoch,.int .i64 0,.int .i64 0,.slice A9 p.buf.length c9]:Array Value)[o]?)∧(∀ o,((((((((W.setCell ⟨w.heap.size+1+1,0,none⟩ (.int .i64 p.h.host)).setCell ⟨w.heap.size+1+1,1,none⟩ (.int .i64 p.h.epoch)).setCell ⟨w.heap.size+1+1,2,none⟩ (.int .i64 p.h.seq)).setCell ⟨w.heap.size+1+1,3,none⟩ (.int .i64 p.zone)).setCell ⟨w.heap.size+1+1,4,none⟩ (.int .i64 p.cap)).setCell ⟨w.heap.size+1+1,5,none⟩ (.int .i64 (p.at_+p.buf.length))).setCell ⟨w.heap.size+1+1,6,none⟩ (.slice none 0 0)).setCell ⟨w.heap.size+1+1,7,none⟩ (.slice none 0 0)).drew.cell? ⟨w.heap.size,o,none⟩=(#[.int .i64 p.h.host,.int .i64 p.h.epoch,.int .i64 p.h.seq,.int .i64 p.zone,.int .i64 p.cap,.int .i64 (p.at_+p.buf.length),.slice none 0 0,.slice none 0 0]:Array Value)[o]?))):=zia fun W h=>HT.out _ (T8 W h).drew
  go_region_held3 (fun W:World=>(∀ o,W.cell? ⟨bx,o,none⟩=(#[.int .i64 1,.int .i64 p.zone,.int .i64 p.h.epoch,.int .i64 0,.int .i64 0,.slice A9 p.buf.length c9]:Array Value)[o]?)∧(∀ o,W.cell? ⟨w.heap.size,o,none⟩=(#[.int .i64 p.h.host,.int .i64 p.h.epoch,.int .i64 p.h.seq,.int .i64 p.zone,.int .i64 p.cap,.int .i64 (p.at_+p.buf.length),.slice none 0 0,.slice none 0 0]:Array Value)[o]?))
   (first | with_reducible exact HS8.out _ (T6 _ T00) | with_reducible exact HS6.out _ (T8 _ T00) | with_reducible exact HS8.out _ T00 | with_reducible exact HS6.out _ T00 | with_reducible exact HS0.out) (fail)
  go_wp2_with fail;obtain ⟨hB6,hT6⟩:=zfs C1 (.int .i64 1) (.int .i64 p.zone) (.int .i64 p.h.epoch) (.int .i64 0) (.int .i64 0) (.slice A9 p.buf.length c9);obtain ⟨hB8,hT8⟩:=fK (C2.turned hT6 (by omega)) (.int .i64 p.h.host) (.int .i64 p.h.epoch) (.int .i64 p.h.seq) (.int .i64 p.zone) (.int .i64 p.cap) (.int .i64 (p.at_+p.buf.length)) (.slice none 0 0) (.slice none 0 0)
  unfold st8 at hB8 hT8;have hB6':=hB6.turned hT8 (by omega)
  have own8:=aH (aH own5 hT6 (by have:=HS2.out;omega)) hT8 (by have:=HS2.out;omega)
  have hbe:=aV (aV hbd hT6 (by omega) (by omega)) hT8 (by omega) (by have:=hT6.size;omega)
  generalize ((((((((((((((w5.setCell ⟨w.heap.size+1,0,none⟩ (.int .i64 1)).setCell ⟨w.heap.size+1,1,none⟩ (.int .i64 p.zone)).setCell ⟨w.heap.size+1,2,none⟩ (.int .i64 p.h.epoch)).setCell ⟨w.heap.size+1,3,none⟩ (.int .i64 0)).setCell ⟨w.heap.size+1,4,none⟩ (.int .i64 0)).setCell ⟨w.heap.size+1,5,none⟩ (.slice A9 p.buf.length c9)).setCell ⟨w.heap.size+1+1,0,none⟩ (.int .i64 p.h.host)).setCell ⟨w.heap.size+1+1,1,none⟩ (.int .i64 p.h.epoch)).setCell ⟨w.heap.size+1+1,2,none⟩ (.int .i64 p.h.seq)).setCell ⟨w.heap.size+1+1,3,none⟩ (.int .i64 p.zone)).setCell ⟨w.heap.size+1+1,4,none⟩ (.int .i64 p.cap)).setCell ⟨w.heap.size+1+1,5,none⟩ (.int .i64 (p.at_+p.buf.length))).setCell ⟨w.heap.size+1+1,6,none⟩ (.slice none 0 0)).setCell ⟨w.heap.size+1+1,7,none⟩ (.slice none 0 0))=w9 at hB6' hB8 own8 hbe ⊢;obtain ⟨q8,f8⟩:=hB6'.drew.rules;obtain ⟨q9,f9⟩:=hB8.drew.rules;refine zik (v:=.tuple #[.agg #[.int .i64 1,.int .i64 p.zone,.int .i64 p.h.epoch,.int .i64 0,.int .i64 0,.slice A9 p.buf.length c9],.agg #[.int .i64 p.h.host,.int .i64 p.h.epoch,.int .i64 p.h.seq,.int .i64 p.zone,.int .i64 p.cap,.int .i64 (p.at_+p.buf.length),.slice none 0 0,.slice none 0 0],.bool true]) (by simp [results,Tryz.results154,go_sem,q8,q9]) rfl ⟨A9,c9,rfl,aO (aD own8 (zif _ _).drew (zic _)) (by have:=HS2.out;omega),hbe.drew⟩
