/- A part of the proof. -/
import Derived.Test.YtfhpolidjmbjoaaGreatScanMid
set_option maxHeartbeats 8000000
set_option maxRecDepth 100000
namespace Go.Proofs.YtfhpolidjmbjoaaGreat
open Go.RowKit
abbrev fdC (f:Fd) (vl va:Value):Array Value:=#[.bool f.head,.int .i64 f.h.host,.int .i64 f.h.epoch,.int .i64 f.h.seq,vl,va,.int .i64 f.used]
structure ScInv (w wr:World) (b:List UInt8) (g b3:Nat) (f:Fd) (A4:Option Addr) (c4:Nat) (A5:Option Addr) (c5:Nat):Prop where
 way:OnWay b f
 lens:f.at_.length=f.l.length∧f.l.length*5≤f.used
 i63:I63 f.at_
 blk:Blk wr w.heap.size 148 (fdC f (.slice A4 f.l.length c4) (.slice A5 f.at_.length c5))
 frm:Blk wr b3 203 #[.pointer (some ⟨g,0,none⟩)]
 tab:TabOk wr g
 recs:OwnR Rp.rc wr (b3+1) 106 (fun k=>b3<k∧some k≠(Value.slice A5 f.at_.length c5).ownBlock) (.slice A4 f.l.length c4) f.l
 ats:wr.ownsRow (b3+1) 3 1 (.slice A5 f.at_.length c5) f.at_.length (f.at_.map I64)
 below:Below w.heap.size w wr
def ScRel (w wr:World) (b:List UInt8) (g b3:Nat):Prop:=∃ f A4 c4 A5 c5,ScInv w wr b g b3 f A4 c4 A5 c5
def usedOf (w:World) (g:Nat):Nat:=match w.cell? ⟨g,6,none⟩ with | some (.int _ n)=>n.toNat | _=>0
theorem ScInv.used {w wr:World} {b:List UInt8} {g b3:Nat} {f:Fd} {A4:Option Addr} {c4:Nat} {A5:Option Addr} {c5:Nat} (h:ScInv w wr b g b3 f A4 c4 A5 c5):usedOf wr w.heap.size=f.used:=by
 unfold usedOf;rw [h.blk.cell 6];rfl
theorem recordL_len (x:List UInt8):(recordL x).1.data.length≤65536:=by
 unfold recordL;by_cases h1:(takeNumsL x 6).2.2=0
 · rw [if_neg (by simp [h1])]
   dsimp only;obtain ⟨y,hy⟩:∃ y,takeVecL (x.drop (takeNumsL x 6).2.1.toNat)=y:=⟨_,rfl⟩;rw [hy];obtain ⟨v,k,e⟩:=y;by_cases h2:e≠0∨(takeNumsL x 6).2.1+k<x.length
   · rw [if_pos h2];simp [r0c]
   · rw [if_neg h2]
     have he:e=0:=Decidable.not_not.1 fun h=>h2 (.inl h)
     subst he;obtain ⟨j,_,_,_,_,h5⟩:=takeVec_one hy;exact h5
 · rw [if_pos h1];simp [r0c]
theorem own_turned2 {w w':World} {base:Nat} {e:TypeId} {size:Nat} {v:Value} {n:Nat} {xs:List Value} {S:Nat→Prop} (h:w.ownsRow base e size v n xs) (ht:Turned w w' S) (hB:∀ b,base≤b→¬S b):w'.ownsRow base e size v n xs:=by
 refine ⟨h.1,?_⟩;rcases h.2 with h3 | ⟨g,cap,cur,hv,hg,hh,r⟩
 · exact .inl h3
 · exact .inr ⟨g,cap,cur,hv,hg,by rw [ht.block g (lt_of_heap hh) (hB g hg)];exact hh,r⟩
theorem ScInv.step {w wr:World} {b:List UInt8} {g b3:Nat} {f:Fd} {A4:Option Addr} {c4:Nat} {A5:Option Addr} {c5:Nat} (h:ScInv w wr b g b3 f A4 c4 A5 c5) {w':World} (hb:Below wr.heap.size wr w') (hw:w.heap.size≤wr.heap.size):ScInv w w' b g b3 f A4 c4 A5 c5:=
 ⟨h.way,h.lens,h.i63,h.blk.step hb,h.frm.step hb,h.tab.step hb,h.recs.step hb,own_below h.ats hb (Nat.le_refl _),h.below.trans (hb.mono hw)⟩
theorem ScInv.take {w wr:World} {b:List UInt8} {g b3:Nat} {f:Fd} {A4:Option Addr} {c4:Nat} {A5:Option Addr} {c5:Nat} (h:ScInv w wr b g b3 f A4 c4 A5 c5) {w':World} (ht:Turned wr w' (· = g)) (hT:TabOk w' g) (h1:w.heap.size<g) (h2:g<b3):ScInv w w' b g b3 f A4 c4 A5 c5:=
 ⟨h.way,h.lens,h.i63,h.blk.turned ht (by omega),h.frm.turned ht (by omega),hT,OwnR.turned h.recs ht (fun b hb=>by omega) (fun b hb=>by omega),own_turned2 h.ats ht (fun b hb=>by omega),h.below.trans (ht.below (fun k hk=>by omega) h.below.size)⟩
theorem ScInv.put {w wr:World} {b:List UInt8} {g b3:Nat} {f:Fd} {A4:Option Addr} {c4:Nat} {A5:Option Addr} {c5:Nat} (h:ScInv w wr b g b3 f A4 c4 A5 c5) {w':World} {hd:Hd} {u:Nat} (hg:w.heap.size<g) (hb3:g<b3) (ht:Turned wr w' (fun k=>k=w.heap.size)) (hb:Blk w' w.heap.size 148 (fdC ⟨true,hd,f.l,f.at_,u⟩ (.slice A4 f.l.length c4) (.slice A5 f.at_.length c5))) (hw:OnWay b ⟨true,hd,f.l,f.at_,u⟩) (hu:f.used≤u) :
 ScInv w w' b g b3 ⟨true,hd,f.l,f.at_,u⟩ A4 c4 A5 c5:=
 ⟨hw,⟨h.lens.1,by have:=h.lens.2;simp only;omega⟩,h.i63,hb,h.frm.turned ht (by omega),h.tab.turned ht (by omega),OwnR.turned h.recs ht (fun b hb=>by omega) (fun b hb=>by omega),own_turned2 h.ats ht (fun b hb=>by omega),h.below.trans (ht.below (fun k hk=>by omega) h.below.size)⟩
theorem ScInv.ret {w wr:World} {b:List UInt8} {g b3:Nat} {f:Fd} {A4:Option Addr} {c4:Nat} {A5:Option Addr} {c5:Nat} (h:ScInv w wr b g b3 f A4 c4 A5 c5) (hb3:w.heap.size≤b3) (hu:f.used≤1000000000) :
 Blk (((((((wr.setCell ⟨w.heap.size,0,none⟩ (.bool f.head)).setCell ⟨w.heap.size,1,none⟩ (.int .i64 f.h.host)).setCell ⟨w.heap.size,2,none⟩ (.int .i64 f.h.epoch)).setCell ⟨w.heap.size,3,none⟩ (.int .i64 f.h.seq)).setCell ⟨w.heap.size,4,none⟩ (.slice A4 f.l.length c4)).setCell ⟨w.heap.size,5,none⟩ (.slice A5 f.at_.length c5)).setCell ⟨w.heap.size,6,none⟩ (.int .i64 f.used)) w.heap.size 148 #[.bool f.head,.int .i64 f.h.host,.int .i64 f.h.epoch,.int .i64 f.h.seq,.slice A4 f.l.length c4,.slice A5 f.at_.length c5,.int .i64 f.used]∧IsL Rp.rc (((((((wr.setCell ⟨w.heap.size,0,none⟩ (.bool f.head)).setCell ⟨w.heap.size,1,none⟩ (.int .i64 f.h.host)).setCell ⟨w.heap.size,2,none⟩ (.int .i64 f.h.epoch)).setCell ⟨w.heap.size,3,none⟩ (.int .i64 f.h.seq)).setCell ⟨w.heap.size,4,none⟩ (.slice A4 f.l.length c4)).setCell ⟨w.heap.size,5,none⟩ (.slice A5 f.at_.length c5)).setCell ⟨w.heap.size,6,none⟩ (.int .i64 f.used)) (fun k=>w.heap.size≤k) (.slice A4 f.l.length c4) f.l ∧
 IsL Rp.int (((((((wr.setCell ⟨w.heap.size,0,none⟩ (.bool f.head)).setCell ⟨w.heap.size,1,none⟩ (.int .i64 f.h.host)).setCell ⟨w.heap.size,2,none⟩ (.int .i64 f.h.epoch)).setCell ⟨w.heap.size,3,none⟩ (.int .i64 f.h.seq)).setCell ⟨w.heap.size,4,none⟩ (.slice A4 f.l.length c4)).setCell ⟨w.heap.size,5,none⟩ (.slice A5 f.at_.length c5)).setCell ⟨w.heap.size,6,none⟩ (.int .i64 f.used)) (fun k=>w.heap.size≤k) (.slice A5 f.at_.length c5) f.at_∧Below w.heap.size w (((((((wr.setCell ⟨w.heap.size,0,none⟩ (.bool f.head)).setCell ⟨w.heap.size,1,none⟩ (.int .i64 f.h.host)).setCell ⟨w.heap.size,2,none⟩ (.int .i64 f.h.epoch)).setCell ⟨w.heap.size,3,none⟩ (.int .i64 f.h.seq)).setCell ⟨w.heap.size,4,none⟩ (.slice A4 f.l.length c4)).setCell ⟨w.heap.size,5,none⟩ (.slice A5 f.at_.length c5)).setCell ⟨w.heap.size,6,none⟩ (.int .i64 f.used)):=by
 obtain ⟨h7,t7⟩:=b7_all h.blk (.bool f.head) (.int .i64 f.h.host) (.int .i64 f.h.epoch) (.int .i64 f.h.seq) (.slice A4 f.l.length c4) (.slice A5 f.at_.length c5) (.int .i64 f.used);have hl:=h.lens;have o1:=OwnR.turned h.recs t7 (fun b hb=>by omega) (fun b hb=>by omega)
 have o2:=own_turned2 h.ats t7 (fun b hb=>by omega)
 refine ⟨h7,o1.isL (by omega) (fun b hb=>by omega) (fun b hb=>by omega),?_,h.below.trans (t7.below (fun k hk=>by omega) h.below.size)⟩
 exact ⟨A5,c5,_,rfl,(Reads.of_own_ge o2).more (fun b hb=>by omega),cells_ints h.i63,own_cap o2,own_cap63 o2,by omega⟩
theorem scan_any (v:Value) (b:List UInt8) (K:Nat→Prop) (w:World) (hv:IsB w K v b) (hlen:b.length≤1000000000) :
 Calls Tryz.prog 130 #[v] w fun e w'=>∃ A4 c4 A5 c5,e=.returned (.agg (fdC (scanL b) (.slice A4 (scanL b).l.length c4) (.slice A5 (scanL b).at_.length c5))) ∧
  IsL Rp.rc w' (fun k=>w.heap.size≤k) (.slice A4 (scanL b).l.length c4) (scanL b).l∧IsL Rp.int w' (fun k=>w.heap.size≤k) (.slice A5 (scanL b).at_.length c5) (scanL b).at_∧Below w.heap.size w w':=by
 have hv0:=hv.lt;obtain ⟨A,c,rfl,hl47⟩:=isB_form hv;have hlc:b.length≤c:=(IsB.open_ hv0).2.2.1;go_enter Tryz.func130,Tryz.ntmps130
 go_wp2_with fail;refine (begin_any _).mono ?_;rintro e w1 ⟨g,rfl,hg,hT1,hb1⟩;rw [World.size_alloc] at hg;have E:=(((Kn.start w).push 148 #[.bool false,.int .i64 0,.int .i64 0,.int .i64 0,.slice none 0 0,.slice none 0 0,.int .i64 0]).step hb1).push 203 #[.pointer (some ⟨g,0,none⟩)];have hgl:=hT1.lt;go_wp2_with fail;go_loopw [] (fun wr=>ScRel w wr b g w1.heap.size) (fun wr=>b.length+1-usedOf wr w.heap.size)
 case atStart=>
  exact ⟨f0d,none,0,none,0,OnWay.start b,⟨rfl,by simp [f0d]⟩,by intro n hn;simp [f0d] at hn,E.at_ m1,E.at_ m0,hT1.step ((Below.refl _ _).alloc (Nat.le_refl _) _),OwnR.nil_ _ _ _ _,World.ownsRow_nil _ _ _ _,E.below⟩
 case round=>
  obtain ⟨f,A4,c4,A5,c5,G⟩:=hrel;have hu0:=G.used;have hway:=G.way;have hub:=hway.1;have hsz:=G.below.size;have hlo:=(G.blk).lt;have hlf:=(G.frm).lt;have hlg:=G.tab.lt;have hgo:g≠w.heap.size:=by omega
  have hbr:=hv0.step G.below;have hcut:=cut_bytes hbr hub;obtain ⟨A3,hA3⟩:∃ A3,(if c=f.used then A else A.map (fun x=>x.add f.used))=A3:=⟨_,rfl⟩
  rw [hA3] at hcut;have hcutB:IsB wr (fun k=>K k∧k<w.heap.size) (.slice A3 (b.length-f.used) (c-f.used)) (b.drop f.used):=⟨A3,c-f.used,by rw [List.length_drop],by rw [List.length_drop];exact hcut,by rw [List.length_drop];omega,by have:=(IsB.open_ hbr).2.2.2.1;omega,by rw [List.length_drop];omega⟩
  have hjc:(f.used:Int)≤(c:Int):=by omega
  have hjx:(f.used:Int)≤(b.length:Int):=by omega
  obtain ⟨t,ht⟩:∃ t,takeF (b.drop f.used)=t:=⟨_,rfl⟩;have HT:=Lib.hid ht;have hcall:=fun W h1 h2=>takeF_any g (.slice A3 (b.length-f.used) (c-f.used)) (b.drop f.used) (fun k=>K k∧k<w.heap.size) W h1 h2
  rw [ht] at hcall;have HC:=Lib.hid hcall;clear hcall ht hcut hway;have HK:Hid (∀ W,Turned wr W (· = g)→(∀ o,W.cell? ⟨w.heap.size,o,none⟩=(#[.bool f.head,.int .i64 f.h.host,.int .i64 f.h.epoch,.int .i64 f.h.seq,.slice A4 f.l.length c4,.slice A5 f.at_.length c5,.int .i64 f.used]:Array Value)[o]?)∧(∀ o,W.cell? ⟨w1.heap.size,o,none⟩=(#[.pointer (some ⟨g,0,none⟩)]:Array Value)[o]?)):=Lib.hid fun W h=>⟨(G.blk.turned h (by omega)).cell,(G.frm.turned h (by omega)).cell⟩
  have hTd:TabOk wr.drew g:=G.tab.step (Below.refl _ _).drew;have hcd:IsB wr.drew (fun k=>K k∧k<w.heap.size) (.slice A3 (b.length-f.used) (c-f.used)) (b.drop f.used):=hcutB.step (Below.refl _ _).drew
  have hTr:Turned wr wr.drew (· = g):=Turned.of (Below.refl _ _).drew;go_upto_region 2 with fail;go_cut [4,5,6] (fun s4 s5 s6 wx=>∃ A6 c6,s4=.slice A6 t.1.length c6∧s5=.int .i64 t.2.1∧s6=.bool t.2.2∧wx.ownsRow wr.heap.size 5 1 (.slice A6 t.1.length c6) t.1.length (cells8 t.1)∧TabOk wx g∧Turned wr wx (· = g))
  case first=>
   go_region_held3 (fun W:World=>(∀ o,W.cell? ⟨w.heap.size,o,none⟩=(#[.bool f.head,.int .i64 f.h.host,.int .i64 f.h.epoch,.int .i64 f.h.seq,.slice A4 f.l.length c4,.slice A5 f.at_.length c5,.int .i64 f.used]:Array Value)[o]?)∧(∀ o,W.cell? ⟨w1.heap.size,o,none⟩=(#[.pointer (some ⟨g,0,none⟩)]:Array Value)[o]?))
    (first | with_reducible exact HK.out _ htx | with_reducible exact HK.out _ hTr)
    (first | (go_at_call 156;refine (HC.out _ hTd hcd).mono ?_;rintro e w5 ⟨A6,c6,rfl,own6,hT6,ht6⟩;have htx:=hTr.trans ht6))
   go_wp2_with fail;go_meet;exact ⟨A6,c6,rfl,rfl,rfl,own6,hT6,htx⟩
  case rest=>
   obtain ⟨A6,c6,rfl,rfl,rfl,own6,hT6,ht6⟩:=hcut;replace G:=G.take ht6 hT6 (by omega) (by omega)
   have hszc:=ht6.size;clear HK HC hTd hcd hTr hA3 hjc hjx hcutB hbr ht6 hlo hlf hlg;obtain ⟨x,n,ok⟩:=t;simp only at own6 ⊢;have hsz2:=G.below.size;have hul:f.used≤1000000000:=by omega
   cases ok with
   | false=>
     have hst:stepS b f=none:=by unfold stepS;rw [HT.out];simp
     have hsc:=G.way.stop hst;obtain ⟨h7,h8,h9,h10⟩:=G.ret (by omega) hul
     obtain ⟨q0,f0⟩:=G.blk.rules;have t0:=G.blk.lt;have HSC:=Lib.hid hsc;clear hst hsc G hT6 own6;go_wp2_with fail;generalize (((((((wc.setCell ⟨w.heap.size,0,none⟩ (.bool f.head)).setCell ⟨w.heap.size,1,none⟩ (.int .i64 f.h.host)).setCell ⟨w.heap.size,2,none⟩ (.int .i64 f.h.epoch)).setCell ⟨w.heap.size,3,none⟩ (.int .i64 f.h.seq)).setCell ⟨w.heap.size,4,none⟩ (.slice A4 f.l.length c4)).setCell ⟨w.heap.size,5,none⟩ (.slice A5 f.at_.length c5)).setCell ⟨w.heap.size,6,none⟩ (.int .i64 f.used))=w9 at h7 h8 h9 h10 ⊢;obtain ⟨q9,f9⟩:=h7.rules;refine bodyPost_ret (v:=.agg #[.bool f.head,.int .i64 f.h.host,.int .i64 f.h.epoch,.int .i64 f.h.seq,.slice A4 f.l.length c4,.slice A5 f.at_.length c5,.int .i64 f.used]) (by simp [results,Tryz.results130,go_sem,q9]) rfl ?_
     rw [HSC.out];exact ⟨A4,c4,A5,c5,rfl,h8,h9,h10⟩
   | true=>
     obtain ⟨j,rfl,hj1,hj2,_,hx⟩:=takeF_inv HT.out;rw [List.length_drop] at hj2;have hxB:IsB wc (fun k=>wr.heap.size≤k) (.slice A6 x.length c6) x:=IsB.of_own own6 (by omega)
     cases hh:f.head with
     | false=>
       have hB0:=G.blk;unfold fdC at hB0;rw [hh] at hB0;obtain ⟨y,hy⟩:∃ y,headerL x=y:=⟨_,rfl⟩;have hcall:=header_any (.slice A6 x.length c6) x _ wc hxB hx;unfold hdV at hcall;rw [hy] at hcall;obtain ⟨hd,ok2⟩:=y;have hstep:stepS b f=if ok2=false then none else some ⟨true,hd,f.l,f.at_,f.used+j⟩:=by unfold stepS;rw [HT.out];simp [hh,hy]
       simp only at hcall;have HC:=Lib.hid hcall;have HH:=Lib.hid hh;obtain ⟨q0,f0⟩:=hB0.rules;have t0:=hB0.lt;clear hcall hy hh;go_wp2_with fail;refine HC.out.mono ?_;rintro e w2 ⟨rfl,hb2⟩;have hB1:=(hB0.step hb2).alloc (.cells #[.int .i64 hd.host,.int .i64 hd.epoch,.int .i64 hd.seq] 91);have hs2:=hb2.size;replace G:=(G.step hb2 hsz2).step ((Below.refl _ _).alloc (Nat.le_refl _) (.cells #[.int .i64 hd.host,.int .i64 hd.epoch,.int .i64 hd.seq] 91)) (by omega)
       clear q0 f0 t0;obtain ⟨q0,f0⟩:=hB1.rules;have t0:=hB1.lt;cases ok2 with
       | false=>
         have hst:stepS b f=none:=by rw [hstep];rfl
         clear hstep;have hsc:=G.way.stop hst;obtain ⟨h7,h8,h9,h10⟩:=G.ret (by omega) hul
         rw [HH.out] at h7 h8 h9 h10;have HSC:=Lib.hid hsc;clear hst hsc G;go_wp2_with fail;generalize ((((((((w2.alloc (.cells #[.int .i64 hd.host,.int .i64 hd.epoch,.int .i64 hd.seq] 91)).setCell ⟨w.heap.size,0,none⟩ (.bool false)).setCell ⟨w.heap.size,1,none⟩ (.int .i64 f.h.host)).setCell ⟨w.heap.size,2,none⟩ (.int .i64 f.h.epoch)).setCell ⟨w.heap.size,3,none⟩ (.int .i64 f.h.seq)).setCell ⟨w.heap.size,4,none⟩ (.slice A4 f.l.length c4)).setCell ⟨w.heap.size,5,none⟩ (.slice A5 f.at_.length c5)).setCell ⟨w.heap.size,6,none⟩ (.int .i64 f.used))=w9 at h7 h8 h9 h10 ⊢;obtain ⟨q9,f9⟩:=h7.rules;refine bodyPost_ret (v:=.agg #[.bool false,.int .i64 f.h.host,.int .i64 f.h.epoch,.int .i64 f.h.seq,.slice A4 f.l.length c4,.slice A5 f.at_.length c5,.int .i64 f.used]) (by simp [results,Tryz.results130,go_sem,q9]) rfl ?_
         rw [HSC.out];exact ⟨A4,c4,A5,c5,by unfold fdC;rw [HH.out],h8,h9,h10⟩
       | true=>
         rw [if_neg (by simp)] at hstep
         obtain ⟨hw9,hu9⟩:=G.way.next hstep;have HST:=Lib.hid hstep;clear hstep;go_upto_region 9 with fail;obtain ⟨w3,hw3⟩:∃ w3,(w2.alloc (.cells #[.int .i64 hd.host,.int .i64 hd.epoch,.int .i64 hd.seq] 91))=w3:=⟨_,rfl⟩;have hbh:Blk w3 w2.heap.size 91 #[.int .i64 hd.host,.int .i64 hd.epoch,.int .i64 hd.seq]:=by rw [←hw3];exact Blk.new _ _ _ rfl
         rw [hw3] at hB1 G q0 f0 t0 ⊢;clear hw3;have hltc:=hB0.lt;have hne:w2.heap.size≠w.heap.size:=by omega
         have hne':w.heap.size≠w2.heap.size:=by omega
         have q1:=hbh.cell;have f1':=hbh.frozen;have t1':=hbh.lt;go_cut [] (fun wx=>Blk wx w.heap.size 148 #[.bool true,.int .i64 hd.host,.int .i64 hd.epoch,.int .i64 hd.seq,.slice A4 f.l.length c4,.slice A5 f.at_.length c5,.int .i64 f.used]∧Turned w3 wx (fun k=>k=w.heap.size))
         case first=>
          go_region_with (fail)
          all_goals go_wp2_with fail
          all_goals go_meet
          all_goals exact ⟨((((hB1.set_ 0 (.bool true)).set_ 1 (.int .i64 hd.host)).set_ 2 (.int .i64 hd.epoch)).set_ 3 (.int .i64 hd.seq)).drew,((((((Turned.refl w3 (fun k=>k=w.heap.size)).set (g:=w.heap.size) rfl 0 _).set (g:=w.heap.size) rfl 1 _).set (g:=w.heap.size) rfl 2 _).set (g:=w.heap.size) rfl 3 _)).drew⟩
         case rest=>
          obtain ⟨hBx,htx⟩:=hcut;have q3:=hBx.cell;have f3:=hBx.frozen;have t3:=hBx.lt;have G2:=G.put (u:=f.used+j) (hd:=hd) (by omega) (by omega) (htx.set (g:=w.heap.size) rfl 6 (.int .i64 (f.used+j:Nat))) (hBx.set_ 6 (.int .i64 (f.used+j:Nat))) hw9 (by omega)
          have hu2:=G2.used;have hcast:((f.used+j:Nat):Int)=(f.used:Int)+(j:Int):=by omega
          rw [hcast] at G2 hu2;clear hcast hw9 G htx hBx q0 f0 t0 q1 f1' t1' hbh hB1;go_wp2_with fail;refine ⟨⟨_,_,_,_,_,G2⟩,?_⟩;rw [hu2,hu0];simp only;omega
     | true=>
       have hB0:=G.blk;unfold fdC at hB0;rw [hh] at hB0;have hrd:=recordL_len x;obtain ⟨y,hy⟩:∃ y,recordL x=y:=⟨_,rfl⟩;rw [hy] at hrd;have hcall:=record_any (.slice A6 x.length c6) x _ wc hxB hx;unfold rcV at hcall;rw [hy] at hcall;obtain ⟨r,ok2⟩:=y;have hstep:stepS b f=if ok2=false then none else some ⟨true,f.h,f.l++[r],f.at_++[(f.used:Int)],f.used+j⟩:=by unfold stepS;rw [HT.out];simp [hh,hy]
       simp only at hcall;have HC:=Lib.hid hcall;have HH:=Lib.hid hh;obtain ⟨q0,f0⟩:=hB0.rules;have t0:=hB0.lt;clear hcall hy hh;go_wp2_with fail;refine HC.out.mono ?_;rintro e w2 ⟨A7,c7,rfl,own7,hokr,hb2⟩;have hB1:=(hB0.step hb2).alloc (.cells #[.int .i64 r.kind,.int .i64 r.lba,.int .i64 r.n,.int .i64 r.ver,.int .i64 r.zone,.int .i64 r.off,.slice A7 r.data.length c7] 106);have hs2:=hb2.size;have hltc:=hB0.lt;have hRlt:=G.recs.lt;have hAlt:=G.ats.lt;have hflt:=G.frm.lt;replace G:=(G.step hb2 hsz2).step ((Below.refl _ _).alloc (Nat.le_refl _) (.cells #[.int .i64 r.kind,.int .i64 r.lba,.int .i64 r.n,.int .i64 r.ver,.int .i64 r.zone,.int .i64 r.off,.slice A7 r.data.length c7] 106)) (by omega)
       clear q0 f0 t0;obtain ⟨q0,f0⟩:=hB1.rules;have t0:=hB1.lt;cases ok2 with
       | false=>
         have hst:stepS b f=none:=by rw [hstep];rfl
         clear hstep;have hsc:=G.way.stop hst;obtain ⟨h7,h8,h9,h10⟩:=G.ret (by omega) hul
         rw [HH.out] at h7 h8 h9 h10;have HSC:=Lib.hid hsc;clear hst hsc G;go_wp2_with fail;generalize ((((((((w2.alloc (.cells #[.int .i64 r.kind,.int .i64 r.lba,.int .i64 r.n,.int .i64 r.ver,.int .i64 r.zone,.int .i64 r.off,.slice A7 r.data.length c7] 106)).setCell ⟨w.heap.size,0,none⟩ (.bool true)).setCell ⟨w.heap.size,1,none⟩ (.int .i64 f.h.host)).setCell ⟨w.heap.size,2,none⟩ (.int .i64 f.h.epoch)).setCell ⟨w.heap.size,3,none⟩ (.int .i64 f.h.seq)).setCell ⟨w.heap.size,4,none⟩ (.slice A4 f.l.length c4)).setCell ⟨w.heap.size,5,none⟩ (.slice A5 f.at_.length c5)).setCell ⟨w.heap.size,6,none⟩ (.int .i64 f.used))=w9 at h7 h8 h9 h10 ⊢;obtain ⟨q9,f9⟩:=h7.rules;refine bodyPost_ret (v:=.agg #[.bool true,.int .i64 f.h.host,.int .i64 f.h.epoch,.int .i64 f.h.seq,.slice A4 f.l.length c4,.slice A5 f.at_.length c5,.int .i64 f.used]) (by simp [results,Tryz.results130,go_sem,q9]) rfl ?_
         rw [HSC.out];exact ⟨A4,c4,A5,c5,by unfold fdC;rw [HH.out],h8,h9,h10⟩
       | true=>
         rw [if_neg (by simp)] at hstep
         obtain ⟨hw9,hu9⟩:=G.way.next hstep;have HST:=Lib.hid hstep;clear hstep;go_upto_region 13 with fail;obtain ⟨w3,hw3⟩:∃ w3,(w2.alloc (.cells #[.int .i64 r.kind,.int .i64 r.lba,.int .i64 r.n,.int .i64 r.ver,.int .i64 r.zone,.int .i64 r.off,.slice A7 r.data.length c7] 106))=w3:=⟨_,rfl⟩;have hbr:Blk w3 w2.heap.size 106 #[.int .i64 r.kind,.int .i64 r.lba,.int .i64 r.n,.int .i64 r.ver,.int .i64 r.zone,.int .i64 r.off,.slice A7 r.data.length c7]:=by rw [←hw3];exact Blk.new _ _ _ rfl
         have own8:w3.ownsRow wc.heap.size 5 1 (.slice A7 r.data.length c7) r.data.length (cells8 r.data):=by rw [←hw3];exact own7.alloc _
         rw [hw3] at hB1 G q0 f0 t0 ⊢;clear hw3 own7;have hd47:r.data.length≤140737488355328:=by omega
         have hdr:=(Below.refl w3.heap.size w3).drew;replace G:=G.step hdr (by have:=G.below.size;omega)
         replace hB1:=hB1.step hdr;replace hbr:=hbr.step hdr;replace own8:=own_below own8 hdr (Nat.le_refl _);go_cut [] (fun wx=>∃ A8 c8 A9 c9,OwnR Rp.rc wx (w1.heap.size+1) 106 (fun k=>w1.heap.size<k∧some k≠(Value.slice A9 (f.at_.length+1) c9).ownBlock) (.slice A8 (f.l.length+1) c8) (f.l++[r])∧wx.ownsRow (w1.heap.size+1) 3 1 (.slice A9 (f.at_.length+1) c9) (f.at_.length+1) (f.at_.map I64++[I64 f.used])∧Blk wx w.heap.size 148 #[.bool true,.int .i64 f.h.host,.int .i64 f.h.epoch,.int .i64 f.h.seq,.slice A8 (f.l.length+1) c8,.slice A9 (f.at_.length+1) c9,.int .i64 f.used]∧Blk wx w1.heap.size 203 #[.pointer (some ⟨g,0,none⟩)]∧TabOk wx g∧Below w.heap.size w wx)
         case rest=>
          obtain ⟨A8,c8,A9,c9,recsX,atsX,blkX,frmX,tabX,bwX⟩:=hcut;have hi63:=G.i63;have hln:=G.lens;clear G hB1 hbr q0 f0 t0;obtain ⟨q0,f0⟩:=blkX.rules;have t0:=blkX.lt;have hcast:((f.used+j:Nat):Int)=(f.used:Int)+(j:Int):=by omega
          have tX:=(Turned.refl wc (fun k=>k=w.heap.size)).set (g:=w.heap.size) rfl 6 (.int .i64 ((f.used:Int)+(j:Int)))
          have hbX:=blkX.set_ 6 (.int .i64 ((f.used:Int)+(j:Int)));have G2:ScInv w (wc.setCell ⟨w.heap.size,6,none⟩ (.int .i64 ((f.used:Int)+(j:Int)))) b g w1.heap.size ⟨true,f.h,f.l++[r],f.at_++[(f.used:Int)],f.used+j⟩ A8 c8 A9 c9:=by
           have e1:(f.l++[r]).length=f.l.length+1:=by simp
           have e2:(f.at_++[(f.used:Int)]).length=f.at_.length+1:=by simp
           refine ⟨hw9,⟨by simp only [e1,e2];omega,by simp only [e1];omega⟩,?_,?_,frmX.turned tX (by omega),tabX.turned tX (by omega),?_,?_,bwX.trans (tX.below (fun k hk=>by omega) bwX.size)⟩
           · intro m hm
             rcases List.mem_append.1 hm with h | h
             · exact hi63 m h
             · rw [List.mem_singleton] at h;omega
           · unfold fdC;simp only [e1,e2];rw [hcast];exact hbX
           · simp only [e1,e2];exact OwnR.turned recsX tX (fun b hb=>by omega) (fun b hb=>by omega)
           · simp only [e2];rw [List.map_append];exact own_turned2 atsX tX (fun b hb=>by omega)
          have hu2:=G2.used;clear hcast hw9 tX hbX blkX recsX atsX frmX tabX hi63 hln;go_wp2_with fail;refine ⟨⟨_,_,_,_,_,G2⟩,?_⟩;rw [hu2,hu0];simp only;omega
         case first=>
          refine wp_region_D (S:=(fun (L:Array Bool) (W:World)=>(L.getD 12 false=true∨W.cell? ⟨w.heap.size,4,none⟩=some (.slice A4 f.l.length c4))∧(L.getD 14 false=true∨W.cell? ⟨w.heap.size,5,none⟩=some (.slice A5 f.at_.length c5))∧W.cell? ⟨w.heap.size,6,none⟩=some (.int .i64 f.used)∧(∀ o,W.cell? ⟨w2.heap.size,o,none⟩=(#[.int .i64 r.kind,.int .i64 r.lba,.int .i64 r.n,.int .i64 r.ver,.int .i64 r.zone,.int .i64 r.off,.slice A7 r.data.length c7]:Array Value)[o]?))) (by kernel_rfl) ⟨.inr (hB1.cell 4),.inr (hB1.cell 5),hB1.cell 6,hbr.cell⟩ (fun hDn hSn=>?_)
          clear hdr q0 f0 t0;generalize w3.drew=w4 at hB1 G hbr own8 hSn ⊢;refine wpAnyD_take (i:=0) (oi:=⟨some 47,_,_,_,_,_⟩) (v:=?_) (Si:=fun _=>True) rfl (by kernel_rfl) (by kernel_rfl) (by kernel_rfl) (fun _ _ _ h=>h) (fun _ _ _ _ _=>trivial) (fun L W=>by simp only [getD_set_ne false (show (0:Nat)≠12 by omega),getD_set_ne false (show (0:Nat)≠14 by omega)]) (Or.inl ⟨by rfl,?hy⟩) (by assumption) (by assumption) (fun hDn hSn=>?_)
          case hy=>intro w hSw;(try dsimp only at hSw);go_simp;with_reducible rfl
          try simp only [pu,List.set]
          refine wpAnyD_take (i:=1) (oi:=⟨some 48,_,_,_,_,_⟩) (v:=?_) (Si:=fun W=>W.cell? ⟨w.heap.size,4,none⟩=some (.slice A4 f.l.length c4)) rfl (by kernel_rfl) (by kernel_rfl) (by kernel_rfl) (fun _ _ _ h=>h) (fun L W hD hu hS=>hS.1.resolve_left (fun h=>by have h1:=hD.2 12 _ rfl h ⟨4,.data⟩ (by simp) rfl;have h2:=hD.2 4 _ rfl h1 ⟨1,.data⟩ (by simp) rfl;rw [hu] at h2;cases h2)) (fun L W=>by simp only [getD_set_ne false (show (1:Nat)≠12 by omega),getD_set_ne false (show (1:Nat)≠14 by omega)]) (Or.inl ⟨by rfl,?hy⟩) (by assumption) (by assumption) (fun hDn hSn=>?_)
          case hy=>intro w hSw;(try dsimp only at hSw);go_simp;with_reducible rfl
          try simp only [pu,List.set]
          refine wpAnyD_take (i:=2) (oi:=⟨some 49,_,_,_,_,_⟩) (v:=?_) (Si:=fun W=>(∀ o,W.cell? ⟨w2.heap.size,o,none⟩=(#[.int .i64 r.kind,.int .i64 r.lba,.int .i64 r.n,.int .i64 r.ver,.int .i64 r.zone,.int .i64 r.off,.slice A7 r.data.length c7]:Array Value)[o]?)) rfl (by kernel_rfl) (by kernel_rfl) (by kernel_rfl) (fun _ _ _ h=>h) (fun L W _ _ hS=>hS.2.2.2) (fun L W=>by simp only [getD_set_ne false (show (2:Nat)≠12 by omega),getD_set_ne false (show (2:Nat)≠14 by omega)]) (Or.inl ⟨by rfl,?hy⟩) (by assumption) (by assumption) (fun hDn hSn=>?_)
          case hy=>intro w hSw;(try dsimp only at hSw);go_simp;with_reducible rfl
          try simp only [pu,List.set]
          refine wpAnyD_take (i:=5) (oi:=⟨some 52,_,_,_,_,_⟩) (v:=?_) (Si:=fun _=>True) rfl (by kernel_rfl) (by kernel_rfl) (by kernel_rfl) (fun _ _ _ h=>h) (fun _ _ _ _ _=>trivial) (fun L W=>by simp only [getD_set_ne false (show (5:Nat)≠12 by omega),getD_set_ne false (show (5:Nat)≠14 by omega)]) (Or.inl ⟨by rfl,?hy⟩) (by assumption) (by assumption) (fun hDn hSn=>?_)
          case hy=>intro w hSw;(try dsimp only at hSw);go_simp;with_reducible rfl
          try simp only [pu,List.set]
          refine wpAnyD_take (i:=6) (oi:=⟨some 53,_,_,_,_,_⟩) (v:=?_) (Si:=fun W=>W.cell? ⟨w.heap.size,5,none⟩=some (.slice A5 f.at_.length c5)) rfl (by kernel_rfl) (by kernel_rfl) (by kernel_rfl) (fun _ _ _ h=>h) (fun L W hD hu hS=>hS.2.1.resolve_left (fun h=>by have h1:=hD.2 14 _ rfl h ⟨10,.data⟩ (by simp) rfl;have h2:=hD.2 10 _ rfl h1 ⟨6,.data⟩ (by simp) rfl;rw [hu] at h2;cases h2)) (fun L W=>by simp only [getD_set_ne false (show (6:Nat)≠12 by omega),getD_set_ne false (show (6:Nat)≠14 by omega)]) (Or.inl ⟨by rfl,?hy⟩) (by assumption) (by assumption) (fun hDn hSn=>?_)
          case hy=>intro w hSw;(try dsimp only at hSw);go_simp;with_reducible rfl
          try simp only [pu,List.set]
          refine wpAnyD_take (i:=7) (oi:=⟨some 54,_,_,_,_,_⟩) (v:=?_) (Si:=fun _=>True) rfl (by kernel_rfl) (by kernel_rfl) (by kernel_rfl) (fun _ _ _ h=>h) (fun _ _ _ _ _=>trivial) (fun L W=>by simp only [getD_set_ne false (show (7:Nat)≠12 by omega),getD_set_ne false (show (7:Nat)≠14 by omega)]) (Or.inl ⟨by rfl,?hy⟩) (by assumption) (by assumption) (fun hDn hSn=>?_)
          case hy=>intro w hSw;(try dsimp only at hSw);go_simp;with_reducible rfl
          try simp only [pu,List.set]
          refine wpAnyD_take (i:=8) (oi:=⟨some 55,_,_,_,_,_⟩) (v:=?_) (Si:=fun W=>W.cell? ⟨w.heap.size,6,none⟩=some (.int .i64 f.used)) rfl (by kernel_rfl) (by kernel_rfl) (by kernel_rfl) (fun _ _ _ h=>h) (fun L W _ _ hS=>hS.2.2.1) (fun L W=>by simp only [getD_set_ne false (show (8:Nat)≠12 by omega),getD_set_ne false (show (8:Nat)≠14 by omega)]) (Or.inl ⟨by rfl,?hy⟩) (by assumption) (by assumption) (fun hDn hSn=>?_)
          case hy=>intro w hSw;(try dsimp only at hSw);go_simp;with_reducible rfl
          try simp only [pu,List.set]
          have hbrl:=hbr.lt;have hszG:=G.below.size;obtain ⟨i7,hi7,hx0,hx1,hx2⟩:=info_parts Tryz.infR;obtain ⟨i1,hi1,hy0,hy1,hy2⟩:=info_parts Tryz.infInt;have HSW:∀ W,Below w4.heap.size w4 W→Blk W w.heap.size 148 #[.bool true,.int .i64 f.h.host,.int .i64 f.h.epoch,.int .i64 f.h.seq,.slice A4 f.l.length c4,.slice A5 f.at_.length c5,.int .i64 f.used]∧Blk W w2.heap.size 106 #[.int .i64 r.kind,.int .i64 r.lba,.int .i64 r.n,.int .i64 r.ver,.int .i64 r.zone,.int .i64 r.off,.slice A7 r.data.length c7]:=fun W h=>⟨hB1.step h,hbr.step h⟩
          have hneb:w2.heap.size≠w.heap.size:=by omega
          have hd7:IsB w4 (fun k=>(w1.heap.size<k∧some k≠(Value.slice A5 f.at_.length c5).ownBlock)∧some k≠(Value.slice A4 f.l.length c4).ownBlock) (.slice A7 r.data.length c7) r.data:=(IsB.of_own own8 hd47).more (fun k hk=>⟨⟨by omega,fun e=>by have:=(hAlt k e.symm).2;omega⟩,fun e=>by have:=(hRlt k e.symm).2;omega⟩)
          have M:Mid w w4 w1.heap.size g w2.heap.size #[.bool true,.int .i64 f.h.host,.int .i64 f.h.epoch,.int .i64 f.h.seq,.slice A4 f.l.length c4,.slice A5 f.at_.length c5,.int .i64 f.used] r (.slice A7 r.data.length c7) (.slice A4 f.l.length c4) f.l (.slice A5 f.at_.length c5) f.at_:=⟨G.recs,G.ats,hB1,G.frm,G.tab,hbr,(fun k h=>by have:=(hRlt k h).2;omega),hd7.more (fun k hk=>hk.1.1),G.below⟩
          have hla9:f.at_.length≤1000000000:=by have:=G.lens;omega
          have hll9:f.l.length≤1000000000:=by have:=G.lens;omega
          refine wpAnyD_two (i:=3) (j:=9) (o:=⟨some 50,_,_,_,_,_⟩) (o':=⟨some 56,_,_,_,_,_⟩) (by kernel_rfl) rfl rfl (by assumption) (fun K hK=>?_) (fun K hK=>?_)
          · go_simp
            have h5:Below w4.heap.size w4 (w4.alloc (.cells #[.int .i64 r.kind,.int .i64 r.lba,.int .i64 r.n,.int .i64 r.ver,.int .i64 r.zone,.int .i64 r.off,.slice A7 r.data.length c7] 106)):=(Below.refl _ _).alloc (Nat.le_refl _) _;obtain ⟨BB,RR⟩:=HSW _ h5;refine hK.out _ _ ⟨.inr (BB.cell 4),.inr (BB.cell 5),BB.cell 6,RR.cell⟩ (fun hDn hSn=>?_)
            clear hK K;try simp only [pu,List.set]
            refine wpAnyD_two (i:=4) (j:=9) (o:=⟨some 51,_,_,_,_,_⟩) (o':=⟨some 56,_,_,_,_,_⟩) (by kernel_rfl) rfl rfl (by assumption) (fun K hK=>?_) (fun K hK=>?_)
            · have RR0:Reads (w4.alloc (.cells #[.int .i64 r.kind,.int .i64 r.lba,.int .i64 r.n,.int .i64 r.ver,.int .i64 r.zone,.int .i64 r.off,.slice A7 r.data.length c7] 106)) (fun k=>k=w4.heap.size) 7 (some ⟨w4.heap.size,0,none⟩) 1 (rcC r (.slice A7 r.data.length c7)).toList:=Reads.new rfl rfl rfl
              obtain ⟨cs,hown,hnext⟩:=(M.step h5).pushR hokr (by omega) (by omega) (hd7.step h5)
              have hrR:Reads (w4.alloc (.cells #[.int .i64 r.kind,.int .i64 r.lba,.int .i64 r.n,.int .i64 r.ver,.int .i64 r.zone,.int .i64 r.off,.slice A7 r.data.length c7] 106)) (fun k=>k=w4.heap.size) 7 (some ⟨w4.heap.size,0,none⟩) 1 (rcC r (.slice A7 r.data.length c7)).toList:=RR0
              refine step_appN rfl _ _ _ rfl (w1.heap.size+1) 106 i7 _ 7 72 Tryz.underlying92 hi7 hx0 hx1 hx2 rfl (by omega) rfl hown rfl hrR (by simp [Value.oneCell']) (by simp only [maxLen];omega) (by omega) (by have:=(h5).size;omega) ?_
              intro A8 c8 wA oA gA;obtain ⟨recsA,atsA,blkA,frmA,tabA,rbA,bwA⟩:=hnext A8 c8 wA oA gA;refine hK.out _ _ ⟨.inr (blkA.cell 4),.inr (blkA.cell 5),blkA.cell 6,rbA.cell⟩ (fun hDn hSn=>?_)
              clear hK K;try simp only [pu,List.set]
              refine wpAnyD_take (i:=11) (oi:=⟨some 58,_,_,_,_,_⟩) (v:=?_) (Si:=fun _=>True) rfl (by kernel_rfl) (by kernel_rfl) (by kernel_rfl) (fun _ _ _ h=>h) (fun _ _ _ _ _=>trivial) (fun L W=>by simp only [getD_set_ne false (show (11:Nat)≠12 by omega),getD_set_ne false (show (11:Nat)≠14 by omega)]) (Or.inl ⟨by rfl,?hy⟩) (by assumption) (by assumption) (fun hDn hSn=>?_)
              case hy=>intro w hSw;(try dsimp only at hSw);go_simp;with_reducible rfl
              try simp only [pu,List.set]
              refine wpAnyD_one (i:=9) (o:=⟨some 56,_,_,_,_,_⟩) (by kernel_rfl) rfl (by assumption) (fun K hK=>?_)
              go_simp;have h6:Below wA.heap.size wA (wA.alloc (.cells #[.int .i64 f.used] 3)):=(Below.refl _ _).alloc (Nat.le_refl _) _;refine hK.out _ _ ⟨.inr ((blkA.step h6).cell 4),.inr ((blkA.step h6).cell 5),(blkA.step h6).cell 6,(rbA.step h6).cell⟩ (fun hDn hSn=>?_)
              clear hK K;try simp only [pu,List.set]
              refine wpAnyD_one (i:=10) (o:=⟨some 57,_,_,_,_,_⟩) (by kernel_rfl) rfl (by assumption) (fun K hK=>?_)
              have hrI:Reads (wA.alloc (.cells #[.int .i64 f.used] 3)) (fun k=>k=wA.heap.size) 1 (some ⟨wA.heap.size,0,none⟩) 1 [I64 f.used]:=Reads.new rfl rfl rfl
              refine step_appN rfl _ _ _ rfl (w1.heap.size+1) 3 i1 _ 1 8 Tryz.underlying23 hi1 hy0 hy1 hy2 rfl (by omega) rfl (own_below atsA h6 (Nat.le_refl _)) rfl hrI (by simp [I64,Value.oneCell']) (by simp only [maxLen];omega) (by omega) (by have:=(frmA.step h6).lt;omega) ?_
              intro A9 c9 wB oB gB;obtain ⟨recsB,blkB,frmB,tabB,rbB,bwB⟩:=Mid.pushI (recsA.step h6) (own_below atsA h6 (Nat.le_refl _)) (blkA.step h6) (frmA.step h6) (tabA.step h6) (rbA.step h6) (bwA.trans (h6.mono bwA.size)) (by omega) (by omega) gB
              refine hK.out _ _ ⟨.inr (blkB.cell 4),.inr (blkB.cell 5),blkB.cell 6,rbB.cell⟩ (fun hDn hSn=>?_)
              clear hK K;try simp only [pu,List.set]
              obtain ⟨q0,f0⟩:=blkB.rules;have t0:=blkB.lt;refine wpAnyD_one (i:=12) (o:=⟨none,_,_,_,_,_⟩) (by kernel_rfl) rfl (by assumption) (fun K hK=>?_)
              go_simp;have blkC:=blkB.set_ 4 (.slice A8 (f.l.length+1) c8);have rbC:=rbB.far (p:=⟨w.heap.size,4,none⟩) hneb (.slice A8 (f.l.length+1) c8);refine hK.out _ _ ⟨.inl (by kernel_rfl),.inr (blkC.cell 5),blkC.cell 6,rbC.cell⟩ (fun hDn hSn=>?_)
              clear hK K;try simp only [pu,List.set]
              refine wpAnyD_take (i:=13) (oi:=⟨some 59,_,_,_,_,_⟩) (v:=?_) (Si:=fun _=>True) rfl (by kernel_rfl) (by kernel_rfl) (by kernel_rfl) (fun _ _ _ h=>h) (fun _ _ _ _ _=>trivial) (fun L W=>by simp only [getD_set_ne false (show (13:Nat)≠12 by omega),getD_set_ne false (show (13:Nat)≠14 by omega)]) (Or.inl ⟨by rfl,?hy⟩) (by assumption) (by assumption) (fun hDn hSn=>?_)
              case hy=>intro w hSw;(try dsimp only at hSw);go_simp;with_reducible rfl
              try simp only [pu,List.set]
              refine wpAnyD_one (i:=14) (o:=⟨none,_,_,_,_,_⟩) (by kernel_rfl) rfl (by assumption) (fun K hK=>?_)
              go_simp;have blkD:=blkC.set_ 5 (.slice A9 (f.at_.length+1) c9);have rbD:=rbC.far (p:=⟨w.heap.size,5,none⟩) hneb (.slice A9 (f.at_.length+1) c9);refine hK.out _ _ ⟨.inl (by kernel_rfl),.inl (by kernel_rfl),blkD.cell 6,rbD.cell⟩ (fun hDn hSn=>?_)
              clear hK K;try simp only [pu,List.set]
              refine wpAnyD_done (by kernel_rfl) ?_ _
              go_wp2_with fail;go_meet;have tD:=((Turned.refl wB (fun k=>k=w.heap.size)).set (g:=w.heap.size) rfl 4 (.slice A8 (f.l.length+1) c8)).set (g:=w.heap.size) rfl 5 (.slice A9 (f.at_.length+1) c9)
              exact ⟨A8,c8,A9,c9,OwnR.turned recsB tD (fun b hb=>by omega) (fun b hb=>by omega),own_turned2 oB tD (fun b hb=>by omega),blkD,frmB.turned tD (by omega),tabB.turned tD (by omega),bwB.trans (tD.below (fun k hk=>by omega) bwB.size)⟩
            · go_simp
              have h6:Below w4.heap.size w4 ((w4.alloc (.cells #[.int .i64 r.kind,.int .i64 r.lba,.int .i64 r.n,.int .i64 r.ver,.int .i64 r.zone,.int .i64 r.off,.slice A7 r.data.length c7] 106)).alloc (.cells #[.int .i64 f.used] 3)):=h5.alloc h5.size _;obtain ⟨BC,RC⟩:=HSW _ h6;refine hK.out _ _ ⟨.inr (BC.cell 4),.inr (BC.cell 5),BC.cell 6,RC.cell⟩ (fun hDn hSn=>?_)
              clear hK K;try simp only [pu,List.set]
              refine wpAnyD_one (i:=4) (o:=⟨some 51,_,_,_,_,_⟩) (by kernel_rfl) rfl (by assumption) (fun K hK=>?_)
              have RR0:Reads ((w4.alloc (.cells #[.int .i64 r.kind,.int .i64 r.lba,.int .i64 r.n,.int .i64 r.ver,.int .i64 r.zone,.int .i64 r.off,.slice A7 r.data.length c7] 106)).alloc (.cells #[.int .i64 f.used] 3)) (fun k=>k=w4.heap.size) 7 (some ⟨w4.heap.size,0,none⟩) 1 (rcC r (.slice A7 r.data.length c7)).toList:=(Reads.new rfl rfl rfl).alloc _
              obtain ⟨cs,hown,hnext⟩:=(M.step h6).pushR hokr (by omega) (by omega) (hd7.step h6)
              have hrR:Reads ((w4.alloc (.cells #[.int .i64 r.kind,.int .i64 r.lba,.int .i64 r.n,.int .i64 r.ver,.int .i64 r.zone,.int .i64 r.off,.slice A7 r.data.length c7] 106)).alloc (.cells #[.int .i64 f.used] 3)) (fun k=>k=w4.heap.size) 7 (some ⟨w4.heap.size,0,none⟩) 1 (rcC r (.slice A7 r.data.length c7)).toList:=RR0
              refine step_appN rfl _ _ _ rfl (w1.heap.size+1) 106 i7 _ 7 72 Tryz.underlying92 hi7 hx0 hx1 hx2 rfl (by omega) rfl hown rfl hrR (by simp [Value.oneCell']) (by simp only [maxLen];omega) (by omega) (by have:=(h6).size;omega) ?_
              intro A8 c8 wA oA gA;obtain ⟨recsA,atsA,blkA,frmA,tabA,rbA,bwA⟩:=hnext A8 c8 wA oA gA;refine hK.out _ _ ⟨.inr (blkA.cell 4),.inr (blkA.cell 5),blkA.cell 6,rbA.cell⟩ (fun hDn hSn=>?_)
              clear hK K;try simp only [pu,List.set]
              refine wpAnyD_take (i:=11) (oi:=⟨some 58,_,_,_,_,_⟩) (v:=?_) (Si:=fun _=>True) rfl (by kernel_rfl) (by kernel_rfl) (by kernel_rfl) (fun _ _ _ h=>h) (fun _ _ _ _ _=>trivial) (fun L W=>by simp only [getD_set_ne false (show (11:Nat)≠12 by omega),getD_set_ne false (show (11:Nat)≠14 by omega)]) (Or.inl ⟨by rfl,?hy⟩) (by assumption) (by assumption) (fun hDn hSn=>?_)
              case hy=>intro w hSw;(try dsimp only at hSw);go_simp;with_reducible rfl
              try simp only [pu,List.set]
              refine wpAnyD_one (i:=10) (o:=⟨some 57,_,_,_,_,_⟩) (by kernel_rfl) rfl (by assumption) (fun K hK=>?_)
              have hrI0:Reads ((w4.alloc (.cells #[.int .i64 r.kind,.int .i64 r.lba,.int .i64 r.n,.int .i64 r.ver,.int .i64 r.zone,.int .i64 r.off,.slice A7 r.data.length c7] 106)).alloc (.cells #[.int .i64 f.used] 3)) (fun k=>k=w4.heap.size+1) 1 (some ⟨w4.heap.size+1,0,none⟩) 1 [I64 f.used]:=Reads.new (by simp) rfl rfl
              have hrI:Reads wA (fun k=>k=w4.heap.size+1) 1 (some ⟨w4.heap.size+1,0,none⟩) 1 [I64 f.used]:=hrI0.keep (fun q hq hl=>World.cell?_of_block (gA.grown.block _ hl (fun e=>by have:=(hRlt _ e.symm).2;omega)))
              refine step_appN rfl _ _ _ rfl (w1.heap.size+1) 3 i1 _ 1 8 Tryz.underlying23 hi1 hy0 hy1 hy2 rfl (by omega) rfl atsA rfl hrI (by simp [I64,Value.oneCell']) (by simp only [maxLen];omega) (by omega) (by have:=frmA.lt;omega) ?_
              intro A9 c9 wB oB gB;obtain ⟨recsB,blkB,frmB,tabB,rbB,bwB⟩:=Mid.pushI recsA atsA blkA frmA tabA rbA bwA (by omega) (by omega) gB
              refine hK.out _ _ ⟨.inr (blkB.cell 4),.inr (blkB.cell 5),blkB.cell 6,rbB.cell⟩ (fun hDn hSn=>?_)
              clear hK K;try simp only [pu,List.set]
              obtain ⟨q0,f0⟩:=blkB.rules;have t0:=blkB.lt;refine wpAnyD_one (i:=12) (o:=⟨none,_,_,_,_,_⟩) (by kernel_rfl) rfl (by assumption) (fun K hK=>?_)
              go_simp;have blkC:=blkB.set_ 4 (.slice A8 (f.l.length+1) c8);have rbC:=rbB.far (p:=⟨w.heap.size,4,none⟩) hneb (.slice A8 (f.l.length+1) c8);refine hK.out _ _ ⟨.inl (by kernel_rfl),.inr (blkC.cell 5),blkC.cell 6,rbC.cell⟩ (fun hDn hSn=>?_)
              clear hK K;try simp only [pu,List.set]
              refine wpAnyD_take (i:=13) (oi:=⟨some 59,_,_,_,_,_⟩) (v:=?_) (Si:=fun _=>True) rfl (by kernel_rfl) (by kernel_rfl) (by kernel_rfl) (fun _ _ _ h=>h) (fun _ _ _ _ _=>trivial) (fun L W=>by simp only [getD_set_ne false (show (13:Nat)≠12 by omega),getD_set_ne false (show (13:Nat)≠14 by omega)]) (Or.inl ⟨by rfl,?hy⟩) (by assumption) (by assumption) (fun hDn hSn=>?_)
              case hy=>intro w hSw;(try dsimp only at hSw);go_simp;with_reducible rfl
              try simp only [pu,List.set]
              refine wpAnyD_one (i:=14) (o:=⟨none,_,_,_,_,_⟩) (by kernel_rfl) rfl (by assumption) (fun K hK=>?_)
              go_simp;have blkD:=blkC.set_ 5 (.slice A9 (f.at_.length+1) c9);have rbD:=rbC.far (p:=⟨w.heap.size,5,none⟩) hneb (.slice A9 (f.at_.length+1) c9);refine hK.out _ _ ⟨.inl (by kernel_rfl),.inl (by kernel_rfl),blkD.cell 6,rbD.cell⟩ (fun hDn hSn=>?_)
              clear hK K;try simp only [pu,List.set]
              refine wpAnyD_done (by kernel_rfl) ?_ _
              go_wp2_with fail;go_meet;have tD:=((Turned.refl wB (fun k=>k=w.heap.size)).set (g:=w.heap.size) rfl 4 (.slice A8 (f.l.length+1) c8)).set (g:=w.heap.size) rfl 5 (.slice A9 (f.at_.length+1) c9)
              exact ⟨A8,c8,A9,c9,OwnR.turned recsB tD (fun b hb=>by omega) (fun b hb=>by omega),own_turned2 oB tD (fun b hb=>by omega),blkD,frmB.turned tD (by omega),tabB.turned tD (by omega),bwB.trans (tD.below (fun k hk=>by omega) bwB.size)⟩
          · go_simp
            have h5:Below w4.heap.size w4 (w4.alloc (.cells #[.int .i64 f.used] 3)):=(Below.refl _ _).alloc (Nat.le_refl _) _;obtain ⟨BB,RR⟩:=HSW _ h5;refine hK.out _ _ ⟨.inr (BB.cell 4),.inr (BB.cell 5),BB.cell 6,RR.cell⟩ (fun hDn hSn=>?_)
            clear hK K;try simp only [pu,List.set]
            refine wpAnyD_one (i:=3) (o:=⟨some 50,_,_,_,_,_⟩) (by kernel_rfl) rfl (by assumption) (fun K hK=>?_)
            go_simp;have h6:Below w4.heap.size w4 ((w4.alloc (.cells #[.int .i64 f.used] 3)).alloc (.cells #[.int .i64 r.kind,.int .i64 r.lba,.int .i64 r.n,.int .i64 r.ver,.int .i64 r.zone,.int .i64 r.off,.slice A7 r.data.length c7] 106)):=h5.alloc h5.size _;obtain ⟨BC,RC⟩:=HSW _ h6;refine hK.out _ _ ⟨.inr (BC.cell 4),.inr (BC.cell 5),BC.cell 6,RC.cell⟩ (fun hDn hSn=>?_)
            clear hK K;try simp only [pu,List.set]
            refine wpAnyD_one (i:=4) (o:=⟨some 51,_,_,_,_,_⟩) (by kernel_rfl) rfl (by assumption) (fun K hK=>?_)
            have RR0:Reads ((w4.alloc (.cells #[.int .i64 f.used] 3)).alloc (.cells #[.int .i64 r.kind,.int .i64 r.lba,.int .i64 r.n,.int .i64 r.ver,.int .i64 r.zone,.int .i64 r.off,.slice A7 r.data.length c7] 106)) (fun k=>k=w4.heap.size+1) 7 (some ⟨w4.heap.size+1,0,none⟩) 1 (rcC r (.slice A7 r.data.length c7)).toList:=Reads.new (by simp) rfl rfl
            obtain ⟨cs,hown,hnext⟩:=(M.step h6).pushR hokr (by omega) (by omega) (hd7.step h6)
            have hrR:Reads ((w4.alloc (.cells #[.int .i64 f.used] 3)).alloc (.cells #[.int .i64 r.kind,.int .i64 r.lba,.int .i64 r.n,.int .i64 r.ver,.int .i64 r.zone,.int .i64 r.off,.slice A7 r.data.length c7] 106)) (fun k=>k=w4.heap.size+1) 7 (some ⟨w4.heap.size+1,0,none⟩) 1 (rcC r (.slice A7 r.data.length c7)).toList:=RR0
            refine step_appN rfl _ _ _ rfl (w1.heap.size+1) 106 i7 _ 7 72 Tryz.underlying92 hi7 hx0 hx1 hx2 rfl (by omega) rfl hown rfl hrR (by simp [Value.oneCell']) (by simp only [maxLen];omega) (by omega) (by have:=(h6).size;omega) ?_
            intro A8 c8 wA oA gA;obtain ⟨recsA,atsA,blkA,frmA,tabA,rbA,bwA⟩:=hnext A8 c8 wA oA gA;refine hK.out _ _ ⟨.inr (blkA.cell 4),.inr (blkA.cell 5),blkA.cell 6,rbA.cell⟩ (fun hDn hSn=>?_)
            clear hK K;try simp only [pu,List.set]
            refine wpAnyD_take (i:=11) (oi:=⟨some 58,_,_,_,_,_⟩) (v:=?_) (Si:=fun _=>True) rfl (by kernel_rfl) (by kernel_rfl) (by kernel_rfl) (fun _ _ _ h=>h) (fun _ _ _ _ _=>trivial) (fun L W=>by simp only [getD_set_ne false (show (11:Nat)≠12 by omega),getD_set_ne false (show (11:Nat)≠14 by omega)]) (Or.inl ⟨by rfl,?hy⟩) (by assumption) (by assumption) (fun hDn hSn=>?_)
            case hy=>intro w hSw;(try dsimp only at hSw);go_simp;with_reducible rfl
            try simp only [pu,List.set]
            refine wpAnyD_one (i:=10) (o:=⟨some 57,_,_,_,_,_⟩) (by kernel_rfl) rfl (by assumption) (fun K hK=>?_)
            have hrI0:Reads ((w4.alloc (.cells #[.int .i64 f.used] 3)).alloc (.cells #[.int .i64 r.kind,.int .i64 r.lba,.int .i64 r.n,.int .i64 r.ver,.int .i64 r.zone,.int .i64 r.off,.slice A7 r.data.length c7] 106)) (fun k=>k=w4.heap.size) 1 (some ⟨w4.heap.size,0,none⟩) 1 [I64 f.used]:=(Reads.new rfl rfl rfl).alloc _
            have hrI:Reads wA (fun k=>k=w4.heap.size) 1 (some ⟨w4.heap.size,0,none⟩) 1 [I64 f.used]:=hrI0.keep (fun q hq hl=>World.cell?_of_block (gA.grown.block _ hl (fun e=>by have:=(hRlt _ e.symm).2;omega)))
            refine step_appN rfl _ _ _ rfl (w1.heap.size+1) 3 i1 _ 1 8 Tryz.underlying23 hi1 hy0 hy1 hy2 rfl (by omega) rfl atsA rfl hrI (by simp [I64,Value.oneCell']) (by simp only [maxLen];omega) (by omega) (by have:=frmA.lt;omega) ?_
            intro A9 c9 wB oB gB;obtain ⟨recsB,blkB,frmB,tabB,rbB,bwB⟩:=Mid.pushI recsA atsA blkA frmA tabA rbA bwA (by omega) (by omega) gB
            refine hK.out _ _ ⟨.inr (blkB.cell 4),.inr (blkB.cell 5),blkB.cell 6,rbB.cell⟩ (fun hDn hSn=>?_)
            clear hK K;try simp only [pu,List.set]
            obtain ⟨q0,f0⟩:=blkB.rules;have t0:=blkB.lt;refine wpAnyD_one (i:=12) (o:=⟨none,_,_,_,_,_⟩) (by kernel_rfl) rfl (by assumption) (fun K hK=>?_)
            go_simp;have blkC:=blkB.set_ 4 (.slice A8 (f.l.length+1) c8);have rbC:=rbB.far (p:=⟨w.heap.size,4,none⟩) hneb (.slice A8 (f.l.length+1) c8);refine hK.out _ _ ⟨.inl (by kernel_rfl),.inr (blkC.cell 5),blkC.cell 6,rbC.cell⟩ (fun hDn hSn=>?_)
            clear hK K;try simp only [pu,List.set]
            refine wpAnyD_take (i:=13) (oi:=⟨some 59,_,_,_,_,_⟩) (v:=?_) (Si:=fun _=>True) rfl (by kernel_rfl) (by kernel_rfl) (by kernel_rfl) (fun _ _ _ h=>h) (fun _ _ _ _ _=>trivial) (fun L W=>by simp only [getD_set_ne false (show (13:Nat)≠12 by omega),getD_set_ne false (show (13:Nat)≠14 by omega)]) (Or.inl ⟨by rfl,?hy⟩) (by assumption) (by assumption) (fun hDn hSn=>?_)
            case hy=>intro w hSw;(try dsimp only at hSw);go_simp;with_reducible rfl
            try simp only [pu,List.set]
            refine wpAnyD_one (i:=14) (o:=⟨none,_,_,_,_,_⟩) (by kernel_rfl) rfl (by assumption) (fun K hK=>?_)
            go_simp;have blkD:=blkC.set_ 5 (.slice A9 (f.at_.length+1) c9);have rbD:=rbC.far (p:=⟨w.heap.size,5,none⟩) hneb (.slice A9 (f.at_.length+1) c9);refine hK.out _ _ ⟨.inl (by kernel_rfl),.inl (by kernel_rfl),blkD.cell 6,rbD.cell⟩ (fun hDn hSn=>?_)
            clear hK K;try simp only [pu,List.set]
            refine wpAnyD_done (by kernel_rfl) ?_ _
            go_wp2_with fail;go_meet;have tD:=((Turned.refl wB (fun k=>k=w.heap.size)).set (g:=w.heap.size) rfl 4 (.slice A8 (f.l.length+1) c8)).set (g:=w.heap.size) rfl 5 (.slice A9 (f.at_.length+1) c9)
            exact ⟨A8,c8,A9,c9,OwnR.turned recsB tD (fun b hb=>by omega) (fun b hb=>by omega),own_turned2 oB tD (fun b hb=>by omega),blkD,frmB.turned tD (by omega),tabB.turned tD (by omega),bwB.trans (tD.below (fun k hk=>by omega) bwB.size)⟩
end Go.Proofs.YtfhpolidjmbjoaaGreat
