/- A part of the proof. -/
import Derived.Test.YtcapmeefiglfjaaGreatDeskAppend
set_option linter.unusedSimpArgs false
set_option maxHeartbeats 16000000
set_option maxRecDepth 100000
namespace Go.Proofs.YtcapmeefiglfjaaGreat
open Go.RowKit Go.MapKept Go.ChangeMaps
def zbD:List (Int × Value)→Nat→List MapEntry
 | [],_=>[]
 | p::l,i=>⟨.int .i64 p.1,p.2,i⟩::zbD l (i+1)
def zhz (l:List (Int × Value)):Obj:=.map (zbD l 0).toArray l.length
def pS (z:Value):List (Int × Value)→Int→Value
 | [],_=>z
 | p::l,k=>if k=p.1 then p.2 else pS z l k
theorem zcS (l:List (Int × Value)) (p:Int × Value) (i:Nat):zbD (l++[p]) i=zbD l i++[⟨.int .i64 p.1,p.2,i+l.length⟩]:=by
 induction l generalizing i with
 | nil=>rfl
 | cons q l ih=>simp only [List.cons_append,zbD,ih,List.length_cons];rw [show i+1+l.length=i+(l.length+1) by omega]
theorem tJ (key:Int):∀ (l:List (Int × Value)) (i j:Nat),(∀ p∈l,p.1≠key)→Instr.findNow (.int .i64) (.int .i64 key) (zbD l i) j=some none
 | [],_,_,_=>rfl
 | p::l,i,j,h=>by
   have h1:(key == p.1)=false:=by simpa using fun e=>h p (zih ..) e.symm
   simp only [zbD,Instr.findNow,Instr.sameNow,zkh,h1];exact tJ key l _ _ fun q hq=>h q (zii _ hq)
theorem zhh (z:Value) (key:Int):∀ (l:List (Int × Value)) (i j:Nat),∃ r,Instr.findNow (.int .i64) (.int .i64 key) (zbD l i) j=some r∧(match r with | some x=>x.2 | none=>z)=pS z l key
 | [],_,_=>⟨none,rfl,rfl⟩
 | p::l,i,j=>by
   by_cases h:key=p.1
   · refine ⟨some (j,p.2),?_,by simp [pS,h]⟩
     have h1:(key == p.1)=true:=by simpa using h
     simp only [zbD,Instr.findNow,Instr.sameNow,zkh,h1]
   · have h1:(key == p.1)=false:=by simpa using h
     obtain ⟨r,e,hr⟩:=zhh z key l (i+1) (j+1);exact ⟨r,by simp only [zbD,Instr.findNow,Instr.sameNow,zkh,h1,e],by rw [hr];simp [pS,h]⟩
theorem rN {P:Program} (w:World) {t:TypeId} {ps rs:Array TypeId} {b:Bool} (f:Fn) (xs ys:Array Value) (ht:P.underlying t=some (.func ps rs b)) :
 (binOp .eql t (.func f xs ys) .nilFunc).run P w=.ok (.bool false) w:=by
 have h:∀ d:Nat,(Op.equalIn (d+1) t (.func f xs ys) .nilFunc).run P w=.ok false w:=fun d=>by
  simp [Op.equalIn,ziK ht]
 simp only [binOp];simp [Op.equal,Op.maxDepth,h 9999]
theorem rV {P:Program} (w:World) {t:TypeId} {ps rs:Array TypeId} {b:Bool} (ht:P.underlying t=some (.func ps rs b)) :
 (binOp .eql t .nilFunc .nilFunc).run P w=.ok (.bool true) w:=by
 have h:∀ d:Nat,(Op.equalIn (d+1) t .nilFunc .nilFunc).run P w=.ok true w:=fun d=>by
  simp [Op.equalIn,ziK ht]
 simp only [binOp];simp [Op.equal,Op.maxDepth,h 9999]
structure zey (B:Nat) (w0 w:World) (b:Nat) (l:List (Int × Value)):Prop where
 heap:w.heap[b]?=some (zhz l)
 below:Below B w0 w
 base:B≤b
section
variable {B b:Nat} {w0 w w':World} {l:List (Int × Value)} {P:Program}
theorem zey.made (h:Below B w0 w) (hB:B≤w.heap.size):zey B w0 (w.alloc (.map #[] 0)) w.heap.size []:=
 ⟨(MapKept.heap_alloc w _).1,h.alloc hB _,hB⟩
theorem jZ {ops:Array Oper} {rest:List Oper} {o:Oper} {a:Act} {Q:Exit→Act→World→Prop}
 (hg:o.guard=none) (m x v:Operand) (t:TypeId) (hop:o.op=Op.insert t m x v)
 (k e:TypeId) (ht:P.underlying t=some (.map k e)) (hk:P.underlying k=some (.int .i64))
 (hm:a.eval m=.map (some b)) (hM:zey B w0 w b l) (key:Int) (val:Value) (hx:a.eval x=.int .i64 key) (hv:a.eval v=val) (hnew:∀ p∈l,p.1≠key)
 (hK:∀ w',zey B w0 w' b (l++[(key,val)])→wpList P ops Q rest (a.put o.dst undef) w') :
 wpList P ops Q (o::rest) a w:=by
 refine zkf hg fun K' hK'=>?_
 have hrun:(Instr.mapUpdate t (.map (some b)) (.int .i64 key) val).run P w=.ok () (setBlock w b (zhz (l++[(key,val)]))):=by
  have e1:(zbD (l++[(key,val)]) 0).toArray=(zbD l 0).toArray.push ⟨.int .i64 key,val,l.length⟩:=by rw [zcS];simp
  have hb:=hM.heap;unfold zhz at hb;have hf:=run_findKey (P:=P) (w:=w) hk (tJ key l 0 0 hnew);simp [Instr.mapUpdate,ziK ht,MapKept.run_getObj_map hb,run_checkKey hk (show IsKey (.int .i64) (.int .i64 key) from rfl),hf,MapKept.run_setObj_map _ hb,Result.andThen,setBlock,zhz,e1]
 unfold Oper.wp;simp [execOp,hop,hm,hx,hv,hrun,Result.andThen];refine hK' _ _ (hK _ ⟨?_,?_,hM.base⟩)
 · exact heap_setBlock_same hM.heap _
 · refine ⟨hM.below.os,hM.below.tape,hM.below.output,by simpa [setBlock] using hM.below.size,fun i hi=>?_⟩
   have hne:i≠b:=by have:=hM.base;omega
   exact (heap_setBlock_other hM.heap _ hne).trans (hM.below.block i hi)
theorem fO {ops:Array Oper} {rest:List Oper} {o:Oper} {a:Act} {Q:Exit→Act→World→Prop}
 (hg:o.guard=none) (m x:Operand) (t:TypeId) (hop:o.op=Op.lookup t m x false)
 (k e:TypeId) (ht:P.underlying t=some (.map k e)) (hk:P.underlying k=some (.int .i64)) (z:Value) (hz:(zeroValue e).run P w=.ok z w)
 (hm:a.eval m=.map (some b)) (hM:zey B w0 w b l) (key:Int) (hx:a.eval x=.int .i64 key)
 (hK:wpList P ops Q rest (a.put o.dst (pS z l key)) w) :
 wpList P ops Q (o::rest) a w:=by
 refine zkf hg fun K' hK'=>?_
 have hrun:(Instr.lookup t (.map (some b)) (.int .i64 key) false).run P w=.ok (pS z l key) w:=by
  obtain ⟨r,hr,hv⟩:=zhh z key l 0 0;have hb:=hM.heap;unfold zhz at hb;have hf:=run_findKey (P:=P) (w:=w) hk hr;rcases r with _ | ⟨j,y⟩
  · have hv':z=pS z l key:=hv
    simp [Instr.lookup,ziK ht,MapKept.run_getObj_map hb,run_checkKey hk (show IsKey (.int .i64) (.int .i64 key) from rfl),hf,hz,Result.andThen];exact hv'
  · have hv':y=pS z l key:=hv
    simp [Instr.lookup,ziK ht,MapKept.run_getObj_map hb,run_checkKey hk (show IsKey (.int .i64) (.int .i64 key) from rfl),hf,Result.andThen];exact hv'
 unfold Oper.wp;simp [execOp,hop,hm,hx,hrun,Result.andThen];exact hK' _ _ hK
end
end Go.Proofs.YtcapmeefiglfjaaGreat
namespace Go.Proofs.YtcapmeefiglfjaaGreat
open Go.RowKit
def zhK (w:World) (K:Nat→Prop) (base:Nat) (v:Value) (d:Zd):Prop:=
 ∃ A c,v=.agg #[.int .i64 d.cap,.int .i64 d.opn,.int .i64 d.act,.slice A d.z.length c]∧IsL Rp.zone w (fun b=>K b∨base≤b) (.slice A d.z.length c) d.z∧(0<d.z.length→∃ ad,A=some ad∧base≤ad.block)
def zhe (K:Nat→Prop) (w:World) (r:Zd × Dn) (e:Ending) (w':World):Prop:=∃ v1 v2,e=.returned (.tuple #[v1,v2])∧zhK w' K w.heap.size v1 r.1∧zhZ w' v2 r.2∧Below w.heap.size w w'
abbrev mB (g:Nat):List (Int × Value):=[(1,.func (.func 45) #[.pointer (some ⟨g,0,none⟩)] #[]),(2,.func (.func 46) #[.pointer (some ⟨g,0,none⟩)] #[]),(3,.func (.func 47) #[.pointer (some ⟨g,0,none⟩)] #[]),(4,.func (.func 48) #[.pointer (some ⟨g,0,none⟩)] #[]),
 (5,.func (.func 49) #[.pointer (some ⟨g,0,none⟩)] #[]),(6,.func (.func 50) #[.pointer (some ⟨g,0,none⟩)] #[]),(7,.func (.func 51) #[.pointer (some ⟨g,0,none⟩)] #[]),(8,.func (.func 52) #[.pointer (some ⟨g,0,none⟩)] #[])]
abbrev st7 (w:World) (a b:Nat) (x0 x1 x2 x3 y0 y1 y2:Value):World:=((((((w.setCell ⟨a,0,none⟩ x0).setCell ⟨a,1,none⟩ x1).setCell ⟨a,2,none⟩ x2).setCell ⟨a,3,none⟩ x3).setCell ⟨b,0,none⟩ y0).setCell ⟨b,1,none⟩ y1).setCell ⟨b,2,none⟩ y2
theorem iL {w:World} {a b:Nat} {ta tb:TypeId} {u0 u1 u2 u3 z0 z1 z2:Value} (hA:Blk w a ta #[u0,u1,u2,u3]) (hB:Blk w b tb #[z0,z1,z2]) (hne:a≠b) (x0 x1 x2 x3 y0 y1 y2:Value) :
 Blk (st7 w a b x0 x1 x2 x3 y0 y1 y2) a ta #[x0,x1,x2,x3]∧Blk (st7 w a b x0 x1 x2 x3 y0 y1 y2) b tb #[y0,y1,y2]∧aA w (st7 w a b x0 x1 x2 x3 y0 y1 y2) (fun k=>k=a∨k=b):=by
 refine ⟨?_,?_,?_⟩
 · exact ((((((hA.set_ 0 x0).set_ 1 x1).set_ 2 x2).set_ 3 x3).far (p:=⟨b,0,none⟩) hne y0).far (p:=⟨b,1,none⟩) hne y1).far (p:=⟨b,2,none⟩) hne y2
 · exact ((((((hB.far (p:=⟨a,0,none⟩) hne.symm x0).far (p:=⟨a,1,none⟩) hne.symm x1).far (p:=⟨a,2,none⟩) hne.symm x2).far (p:=⟨a,3,none⟩) hne.symm x3).set_ 0 y0).set_ 1 y1).set_ 2 y2
 · have h0:=aA.refl w (fun k=>k=a∨k=b)
   exact ((((((h0.set (g:=a) (.inl rfl) 0 x0).set (g:=a) (.inl rfl) 1 x1).set (g:=a) (.inl rfl) 2 x2).set (g:=a) (.inl rfl) 3 x3).set (g:=b) (.inr rfl) 0 y0).set (g:=b) (.inr rfl) 1 y1).set (g:=b) (.inr rfl) 2 y2
def zg9 (d:Zd) (e:Int):Zd × Dn:=(d,⟨e,0,[]⟩)
abbrev doW (w:World) (d:Zd) (A:Option Addr) (k:Nat) (c:Cm) (Ac:Option Addr) (kc:Nat):World:=
 (((w.alloc (.cells #[.int .i64 d.cap,.int .i64 d.opn,.int .i64 d.act,.slice A d.z.length k] 26)).alloc (.cells #[.int .i64 c.op,.int .i64 c.zone,.int .i64 c.epoch,.int .i64 c.off,.int .i64 c.n,.slice Ac c.data.length kc] 80)).alloc (.cells #[.int .i64 0,.int .i64 0,.int .i64 0,.slice none 0 0] 26)).alloc (.cells #[.int .i64 0,.int .i64 0,.slice none 0 0] 76)
theorem zca (d:Zd) (c:Cm) (A:Option Addr) (k:Nat) (Ac:Option Addr) (kc:Nat) (K:Nat→Prop) (w:World) (hLt:IsL Rp.zone w K (.slice A d.z.length k) d.z) (hlt:∀ b,K b→b<w.heap.size) (hB:IsB w K (.slice Ac c.data.length kc) c.data) (hn:d.z.length*40≤140737488355328) (hoff:c.off≤9223372036854775807) :
 Calls Tryz.prog 20 #[.agg #[.int .i64 d.cap,.int .i64 d.opn,.int .i64 d.act,.slice A d.z.length k],.agg #[.int .i64 c.op,.int .i64 c.zone,.int .i64 c.epoch,.int .i64 c.off,.int .i64 c.n,.slice Ac c.data.length kc]] w (zhe K w (doZ d c)):=by
 obtain ⟨res,hres⟩:∃ res,doZ d c=res:=⟨_,rfl⟩;rw [hres];have HRES:=zia hres;clear hres;have E:=(((((Kn.start w).give aB.list hLt).give aB.bytes hB).push 26 #[.int .i64 d.cap,.int .i64 d.opn,.int .i64 d.act,.slice A d.z.length k]).push 80 #[.int .i64 c.op,.int .i64 c.zone,.int .i64 c.epoch,.int .i64 c.off,.int .i64 c.n,.slice Ac c.data.length kc]).push 26 #[.int .i64 0,.int .i64 0,.int .i64 0,.slice none 0 0] |>.push 76 #[.int .i64 0,.int .i64 0,.slice none 0 0]
 have hwB:(doW w d A k c Ac kc).heap.size=w.heap.size+4:=by simp [zid]
 go_enter Tryz.func20,Tryz.ntmps20
 go_upto_region 1 with fail;unfold doW at hwB;simp only [zid] at E;generalize hwA:(((w.alloc (.cells #[.int .i64 d.cap,.int .i64 d.opn,.int .i64 d.act,.slice A d.z.length k] 26)).alloc (.cells #[.int .i64 c.op,.int .i64 c.zone,.int .i64 c.epoch,.int .i64 c.off,.int .i64 c.n,.slice Ac c.data.length kc] 80)).alloc (.cells #[.int .i64 0,.int .i64 0,.int .i64 0,.slice none 0 0] 26)).alloc (.cells #[.int .i64 0,.int .i64 0,.slice none 0 0] 76)=wB at E hwB ⊢;clear hwA hB;go_cut [6] (fun s6 wx=>∃ g,s6=.pointer (some ⟨g,0,none⟩)∧wB.heap.size≤g∧Below wB.heap.size wB wx∧(0<d.z.length→∃ gz,wB.heap.size≤gz∧bG (fun b=>K b∨wB.heap.size≤b) wx g gz d c dn0))
 case first=>
  have HK:Hid (∀ W,Below wB.heap.size wB W→(∀ o,W.cell? ⟨w.heap.size,o,none⟩=(#[.int .i64 d.cap,.int .i64 d.opn,.int .i64 d.act,.slice A d.z.length k]:Array Value)[o]?)∧(∀ o,W.cell? ⟨w.heap.size+1,o,none⟩=(#[.int .i64 c.op,.int .i64 c.zone,.int .i64 c.epoch,.int .i64 c.off,.int .i64 c.n,.slice Ac c.data.length kc]:Array Value)[o]?)):=zia fun W h=>⟨((E.step h).rules m3).1,((E.step h).rules m2).1⟩
  go_region_held3 (fun W=>(∀ o,W.cell? ⟨w.heap.size,o,none⟩=(#[.int .i64 d.cap,.int .i64 d.opn,.int .i64 d.act,.slice A d.z.length k]:Array Value)[o]?)∧(∀ o,W.cell? ⟨w.heap.size+1,o,none⟩=(#[.int .i64 c.op,.int .i64 c.zone,.int .i64 c.epoch,.int .i64 c.off,.int .i64 c.n,.slice Ac c.data.length kc]:Array Value)[o]?))
   (first | with_reducible exact HK.out _ (zif _ _).drew | with_reducible exact HK.out _ hb3 | with_reducible exact HK.out _ (hb3.alloc hb3.size _))
   (first
    | (go_at_call 44
       refine (dA d _ _ _ (((E.step (zif _ _).drew).get m1)) hn (fun b hb=>by rw [World.size_drew,hwB];have:=hlt b hb;omega)).mono ?_
       rintro e w3 ⟨v',rfl,⟨A3,c3,rfl,hL3,hR3⟩,hb3⟩;replace hb3:=(zif wB.heap.size wB).drew.trans hb3))
  go_wp2_with fail;go_meet;refine ⟨w3.heap.size,rfl,hb3.size,hb3.alloc hb3.size _,fun hpos=>?_⟩
  obtain ⟨gz,rfl,hgz,hR⟩:=hR3 hpos;rw [World.size_drew] at hgz;obtain ⟨_,_,e3,hlc,hcc⟩:=hL3.form;injection e3 with e31 e32 e33;have hgl:=hR.lt;refine ⟨gz,hgz,c3,Ac,kc,none,0,Blk.new w3 _ _ rfl,(hR.blt.step (zBA)).more fun b hb=>⟨by have:=hb.2;omega,hb.1.2,hb.1.1⟩,((E.step hb3).get m0 |>.alloc _).more (fun b hb=>?_),IsB.nil_ _ _,by omega,by omega,by omega⟩
  have hbl:=hlt b hb;have hb3s:=hb3.size;exact ⟨by omega,by omega,.inl hb⟩
 case rest=>
  obtain ⟨g,rfl,hg,hbc,hdesk⟩:=hcut;replace E:=E.step hbc;clear hbc;go_upto_region 2 with fail;have hM:=zey.made (zif wc.heap.size wc) (zic _);have hmm:=@run_makeMap Tryz.prog;go_cut [7] (fun s7 wx=>∃ mb,s7=.map (some mb)∧zey wc.heap.size wc wx mb (mB g))
  case first=>
   go_wp2_with (refine jZ rfl _ _ _ _ rfl 3 131 Tryz.underlying132 Tryz.underlying3 rfl hM _ _ rfl rfl (by simp) ?_;intro w9 hM)
   go_meet;exact ⟨_,rfl,hM⟩
  case rest=>
   clear hM;obtain ⟨mb,rfl,hM⟩:=hcut;replace E:=(E.give (f:=fun W=>0<d.z.length→∃ gz,wB.heap.size≤gz∧bG (fun b=>K b∨wB.heap.size≤b) W g gz d c dn0) (fun _ _ h hb hp=>let ⟨gz,h1,h2⟩:=h hp;⟨gz,h1,h2.step hb⟩) hdesk).step hM.below
   clear hdesk;obtain ⟨q2,f2,t2⟩:=E.rules m2;go_upto_region 4 with (refine fO rfl _ _ _ rfl 3 131 Tryz.underlying132 Tryz.underlying3 .nilFunc (by kernel_rfl) rfl hM c.op rfl ?_)
   clear hM;by_cases hop:1≤c.op∧c.op≤8
   · obtain ⟨fn,hfv⟩:∃ fn,pS .nilFunc (mB g) c.op=.func fn #[.pointer (some ⟨g,0,none⟩)] #[]:=by
      unfold mB;simp only [pS];repeat' split
      all_goals first | exact ⟨_,rfl⟩ | (exfalso;omega)
     have heq:=fun w xs ys=>rN (P:=Tryz.prog) w fn xs ys Tryz.underlying131
     have HFV:=zia hfv;rw [hfv];have HOP:=zia hop;clear hfv hop;obtain ⟨q3,f3,t3⟩:=E.rules m3;go_wp2_with fail;refine (jG d _ _ _ (E.get m2)).mono ?_;rintro e w2 ⟨rfl,hb2⟩;replace E:=E.step hb2;clear q2 f2 t2 q3 f3 t3;obtain ⟨q2,f2,t2⟩:=E.rules m2;obtain ⟨q3,f3,t3⟩:=E.rules m3;by_cases hok:okD d
     · have hck:oH d=0:=zij hok
       rw [hck];clear hck;have HOK:=zia hok;clear hok;by_cases hz0:c.zone<0
       · have hr1:res=zg9 d 1:=by rw [←HRES.out,doZ,zij (.inr (.inr (fun h=>by omega)))];rfl
         subst hr1;clear HRES HOP HOK;go_wp2_with fail;have hbX:=(E.rules m0).2.2;refine (dA d _ _ _ (E.get m2) hn (fun b hb=>ziE (hlt b hb) E.below.size)).mono ?_
         rintro e w5 ⟨v',rfl,⟨A5,c5,rfl,hL5,hR5⟩,hb5⟩;have hsz:=E.below.size;replace E:=E.step hb5;have h7:=iL (E.at_ m1) (E.at_ m0) (by omega) (.int .i64 d.cap) (.int .i64 d.opn) (.int .i64 d.act) (.slice A5 d.z.length c5) (.int .i64 1) (.int .i64 0) (.slice none 0 0)
         obtain ⟨q5,f5,t5⟩:=E.rules m1;obtain ⟨q6,f6,t6⟩:=E.rules m0;have hb0:=E.below;clear E;go_wp2;obtain ⟨hA7,hB7,ht7⟩:=h7;unfold st7 at hA7 hB7 ht7;generalize ((((((w5.setCell ⟨w.heap.size+1+1,0,none⟩ (.int .i64 d.cap)).setCell ⟨w.heap.size+1+1,1,none⟩ (.int .i64 d.opn)).setCell ⟨w.heap.size+1+1,2,none⟩ (.int .i64 d.act)).setCell ⟨w.heap.size+1+1,3,none⟩ (.slice A5 d.z.length c5)).setCell ⟨w.heap.size+1+1+1,0,none⟩ (.int .i64 1)).setCell ⟨w.heap.size+1+1+1,1,none⟩ (.int .i64 0)).setCell ⟨w.heap.size+1+1+1,2,none⟩ (.slice none 0 0)=w9 at hA7 hB7 ht7 ⊢;obtain ⟨q7,f7⟩:=hA7.rules;obtain ⟨q8,f8⟩:=hB7.rules;refine zik (v:=.tuple #[.agg #[.int .i64 d.cap,.int .i64 d.opn,.int .i64 d.act,.slice A5 d.z.length c5],.agg #[.int .i64 1,.int .i64 0,.slice none 0 0]]) (by simp [results,Tryz.results20,go_sem,q7,q8]) rfl ⟨_,_,rfl,⟨A5,c5,rfl,?_,fun hp=>let ⟨gz5,e5,hg5,_⟩:=hR5 hp;⟨_,e5,zit hsz hg5⟩⟩,⟨none,0,rfl,IsB.nil_ _ _⟩,?_⟩
         · exact (hL5.turned ht7 (fun b hb=>by rcases hb with h | h;have:=hlt b h;omega;omega)).more fun b hb=>hb.imp id (fun h=>zit hsz h)
         · exact hb0.trans (ht7.below (fun b hb=>by rcases hb with h | h <;> omega) hb0.size)
       · by_cases hz1:(d.z.length:Int)≤c.zone
         · have hr1:res=zg9 d 1:=by rw [←HRES.out,doZ,zij (.inr (.inr (fun h=>by omega)))];rfl
           subst hr1;clear HRES HOP HOK;go_wp2_with fail;have hbX:=(E.rules m0).2.2;refine (dA d _ _ _ (E.get m2) hn (fun b hb=>ziE (hlt b hb) E.below.size)).mono ?_
           rintro e w5 ⟨v',rfl,⟨A5,c5,rfl,hL5,hR5⟩,hb5⟩;have hsz:=E.below.size;replace E:=E.step hb5;have h7:=iL (E.at_ m1) (E.at_ m0) (by omega) (.int .i64 d.cap) (.int .i64 d.opn) (.int .i64 d.act) (.slice A5 d.z.length c5) (.int .i64 1) (.int .i64 0) (.slice none 0 0)
           obtain ⟨q5,f5,t5⟩:=E.rules m1;obtain ⟨q6,f6,t6⟩:=E.rules m0;have hb0:=E.below;clear E;go_wp2;obtain ⟨hA7,hB7,ht7⟩:=h7;unfold st7 at hA7 hB7 ht7;generalize ((((((w5.setCell ⟨w.heap.size+1+1,0,none⟩ (.int .i64 d.cap)).setCell ⟨w.heap.size+1+1,1,none⟩ (.int .i64 d.opn)).setCell ⟨w.heap.size+1+1,2,none⟩ (.int .i64 d.act)).setCell ⟨w.heap.size+1+1,3,none⟩ (.slice A5 d.z.length c5)).setCell ⟨w.heap.size+1+1+1,0,none⟩ (.int .i64 1)).setCell ⟨w.heap.size+1+1+1,1,none⟩ (.int .i64 0)).setCell ⟨w.heap.size+1+1+1,2,none⟩ (.slice none 0 0)=w9 at hA7 hB7 ht7 ⊢;obtain ⟨q7,f7⟩:=hA7.rules;obtain ⟨q8,f8⟩:=hB7.rules;refine zik (v:=.tuple #[.agg #[.int .i64 d.cap,.int .i64 d.opn,.int .i64 d.act,.slice A5 d.z.length c5],.agg #[.int .i64 1,.int .i64 0,.slice none 0 0]]) (by simp [results,Tryz.results20,go_sem,q7,q8]) rfl ⟨_,_,rfl,⟨A5,c5,rfl,?_,fun hp=>let ⟨gz5,e5,hg5,_⟩:=hR5 hp;⟨_,e5,zit hsz hg5⟩⟩,⟨none,0,rfl,IsB.nil_ _ _⟩,?_⟩
           · exact (hL5.turned ht7 (fun b hb=>by rcases hb with h | h;have:=hlt b h;omega;omega)).more fun b hb=>hb.imp id (fun h=>zit hsz h)
           · exact hb0.trans (ht7.below (fun b hb=>by rcases hb with h | h <;> omega) hb0.size)
         · go_upto_region 7 with fail
           have hwl:w.heap.size+4≤wB.heap.size:=by omega
           clear heq hwB hmm;have hl:c.zone.toNat<d.z.length:=by omega
           obtain ⟨z,hz⟩:∃ z,d.z[c.zone.toNat]?=some z:=⟨_,zib hl⟩;obtain ⟨ad,Bz,cz,rfl,hadb,_,_,hc0,hc1,hc2⟩:=IsL.zone_at (E.get m2) hz;obtain ⟨r,hr⟩:∃ r:Bool,decide (c.op=7∨c.epoch=z.fe)=r:=⟨_,rfl⟩;have HR:=zia hr;have HZ:=zia hz;clear hr hz;go_cut [74] (fun s wx=>s=.bool r∧Below w2.heap.size w2 wx)
           case first=>
            by_cases h7:c.op=7
            · have e7:(c.op == 7)=true:=by simpa using h7
              go_quiet (fail);go_wp2_with fail;go_meet;exact ⟨zjj Value.bool (by rw [←HR.out,zjB];simp [h7]),aS (zif _ _) _⟩
            · have e7:(c.op == 7)=false:=by simpa using h7
              go_quiet (fail);go_wp2_with fail;go_meet;exact ⟨zjj Value.bool (by rw [←HR.out,zjB];simp [h7]),aS (zif _ _) _⟩
           case rest=>
            obtain ⟨rfl,hbc⟩:=hcut;replace E:=E.step hbc;clear hbc hb2 hc0 hc1 hc2 hadb q2 f2 t2 q3 f3 t3;obtain ⟨q3,f3,t3⟩:=E.rules m3;cases r with
            | false=>
              have hr1:res=zg9 d 42:=by
               have h:=of_decide_eq_false HR.out;have hg:d.z.getD c.zone.toNat z0=z:=by rw [ziF,HZ.out];rfl
               rw [←HRES.out,doZ,zig (fun hh=>by rcases hh with hh | hh | hh;exact hh HOP.out;exact hh HOK.out;omega),zij ⟨fun h7=>h (.inl h7),fun he=>h (.inr (he.trans (by rw [hg])))⟩];rfl
              subst hr1;clear HRES HOP HOK HR HZ;go_wp2_with fail;have hbX:=(E.rules m0).2.2;refine (dA d _ _ _ (E.get m2) hn (fun b hb=>ziE (hlt b hb) E.below.size)).mono ?_
              rintro e w5 ⟨v',rfl,⟨A5,c5,rfl,hL5,hR5⟩,hb5⟩;have hsz:=E.below.size;replace E:=E.step hb5;have h7:=iL (E.at_ m1) (E.at_ m0) (by omega) (.int .i64 d.cap) (.int .i64 d.opn) (.int .i64 d.act) (.slice A5 d.z.length c5) (.int .i64 42) (.int .i64 0) (.slice none 0 0)
              obtain ⟨q5,f5,t5⟩:=E.rules m1;obtain ⟨q6,f6,t6⟩:=E.rules m0;have hb0:=E.below;clear E;go_wp2;obtain ⟨hA7,hB7,ht7⟩:=h7;unfold st7 at hA7 hB7 ht7;generalize ((((((w5.setCell ⟨w.heap.size+1+1,0,none⟩ (.int .i64 d.cap)).setCell ⟨w.heap.size+1+1,1,none⟩ (.int .i64 d.opn)).setCell ⟨w.heap.size+1+1,2,none⟩ (.int .i64 d.act)).setCell ⟨w.heap.size+1+1,3,none⟩ (.slice A5 d.z.length c5)).setCell ⟨w.heap.size+1+1+1,0,none⟩ (.int .i64 42)).setCell ⟨w.heap.size+1+1+1,1,none⟩ (.int .i64 0)).setCell ⟨w.heap.size+1+1+1,2,none⟩ (.slice none 0 0)=w9 at hA7 hB7 ht7 ⊢;obtain ⟨q7,f7⟩:=hA7.rules;obtain ⟨q8,f8⟩:=hB7.rules;refine zik (v:=.tuple #[.agg #[.int .i64 d.cap,.int .i64 d.opn,.int .i64 d.act,.slice A5 d.z.length c5],.agg #[.int .i64 42,.int .i64 0,.slice none 0 0]]) (by simp [results,Tryz.results20,go_sem,q7,q8]) rfl ⟨_,_,rfl,⟨A5,c5,rfl,?_,fun hp=>let ⟨gz5,e5,hg5,_⟩:=hR5 hp;⟨_,e5,zit hsz hg5⟩⟩,⟨none,0,rfl,IsB.nil_ _ _⟩,?_⟩
              · exact (hL5.turned ht7 (fun b hb=>by rcases hb with h | h;have:=hlt b h;omega;omega)).more fun b hb=>hb.imp id (fun h=>zit hsz h)
              · exact hb0.trans (ht7.below (fun b hb=>by rcases hb with h | h <;> omega) hb0.size)
            | true=>
              obtain ⟨k9,hk9⟩:∃ k9,doK d c.zone.toNat c=k9:=⟨_,rfl⟩;have hr9:res=if k9.1≠0 then (d,⟨k9.1,0,[]⟩) else if c.op=8∧c.n=0 then (d,dn0) else (⟨d.cap,d.opn,d.act,k9.2.1⟩,k9.2.2):=by
               have h:=zjJ HR.out;have hg:d.z.getD c.zone.toNat z0=z:=by rw [ziF,HZ.out];rfl
               rw [←HRES.out,doZ,zig (fun hh=>by rcases hh with hh | hh | hh;exact hh HOP.out;exact hh HOK.out;omega),zig (fun hh=>by rw [hg] at hh;rcases h with h | h;exact hh.1 h;exact hh.2 h)]
               simp only [hk9]
              have HK9:=zia hk9;have HR9:=zia hr9;clear HRES HR HZ hk9 hr9;go_upto_if 74 with fail
              go_cut [9] (fun s9 wx=>∃ gz,s9=.int .i64 k9.1∧wB.heap.size≤gz∧bG (fun b=>K b∨wB.heap.size≤b) wx g gz (d.with k9.2.1) c k9.2.2∧aA wc wx (fun b=>b=g∨b=gz))
              case first=>
               have hop:=HOP.out;have hfv:=HFV.out;obtain ⟨gz,hgz,hd⟩:=E.get m0 (by omega)
               have hi:c.zone=(c.zone.toNat:Int):=by omega
               have hl47:d.z.length≤140737488355328:=by omega
               have hX:∀ b,g<b→(K b∨wB.heap.size≤b):=fun b hb=>.inr (by omega)
               have hcap:d.cap≤65536:=HOK.out.1.2.2.2.1;have hk:=HK9.out;unfold doK at hk;have hc8:c.op=1∨c.op=2∨c.op=3∨c.op=4∨c.op=5∨c.op=6∨c.op=7∨c.op=8:=by omega
               clear HFV HOP HOK HR9 HK9;rcases hc8 with h | h | h | h | h | h | h | h
               · have hf:fn=.func 45:=by
                  rw [h] at hfv;simp only [mB,pS,reduceIte,reduceCtorEq] at hfv;injection hfv with hfv;exact hfv.symm
                 rw [zij h] at hk;subst hf;have H8:=zia h;have HK9:=zia hk;have HIZ:=zia hi;clear h hk hfv hop hi;go_wp2_with fail;have hi:=HIZ.out;refine (oZ g gz c.zone.toNat hX d c wc hd hi hl hl47 hcap).mono ?_;rw [HK9.out];rintro e w4 ⟨rfl,hd4,ht4⟩;clear hi;go_wp2_with fail;go_meet;exact ⟨gz,rfl,hgz,hd4,ht4⟩
               · have hf:fn=.func 46:=by
                  rw [h] at hfv;simp only [mB,pS,reduceIte,reduceCtorEq] at hfv;injection hfv with hfv;exact hfv.symm
                 rw [zig (by omega),zij h] at hk
                 subst hf;have H8:=zia h;have HK9:=zia hk;have HIZ:=zia hi;clear h hk hfv hop hi;go_wp2_with fail;have hi:=HIZ.out;refine (zbQ g gz c.zone.toNat hX d c wc hd hi hl hoff).mono ?_;rw [HK9.out];rintro e w4 ⟨rfl,hd4,ht4⟩;clear hi;go_wp2_with fail;go_meet;exact ⟨gz,rfl,hgz,hd4,ht4⟩
               · have hf:fn=.func 47:=by
                  rw [h] at hfv;simp only [mB,pS,reduceIte,reduceCtorEq] at hfv;injection hfv with hfv;exact hfv.symm
                 rw [zig (by omega),zig (by omega),zij h] at hk
                 subst hf;have H8:=zia h;have HK9:=zia hk;have HIZ:=zia hi;clear h hk hfv hop hi;go_wp2_with fail;have hi:=HIZ.out;refine (zb7 g gz c.zone.toNat hX d c wc hd hi hl).mono ?_;rw [HK9.out];rintro e w4 ⟨rfl,hd4,ht4⟩;clear hi;go_wp2_with fail;go_meet;exact ⟨gz,rfl,hgz,hd4,ht4⟩
               · have hf:fn=.func 48:=by
                  rw [h] at hfv;simp only [mB,pS,reduceIte,reduceCtorEq] at hfv;injection hfv with hfv;exact hfv.symm
                 rw [zig (by omega),zig (by omega),zig (by omega),zij h] at hk
                 subst hf;have H8:=zia h;have HK9:=zia hk;have HIZ:=zia hi;clear h hk hfv hop hi;go_wp2_with fail;have hi:=HIZ.out;refine (yI g gz c.zone.toNat hX d c wc hd hi hl).mono ?_;rw [HK9.out];rintro e w4 ⟨rfl,hd4,ht4⟩;clear hi;go_wp2_with fail;go_meet;exact ⟨gz,rfl,hgz,hd4,ht4⟩
               · have hf:fn=.func 49:=by
                  rw [h] at hfv;simp only [mB,pS,reduceIte,reduceCtorEq] at hfv;injection hfv with hfv;exact hfv.symm
                 rw [zig (by omega),zig (by omega),zig (by omega),zig (by omega),zij h] at hk
                 subst hf;have H8:=zia h;have HK9:=zia hk;have HIZ:=zia hi;clear h hk hfv hop hi;go_wp2_with fail;have hi:=HIZ.out;refine (zdG g gz c.zone.toNat hX d c wc hd hi hl hl47).mono ?_;rw [HK9.out];rintro e w4 ⟨rfl,hd4,ht4⟩;clear hi;go_wp2_with fail;go_meet;exact ⟨gz,rfl,hgz,hd4,ht4⟩
               · have hf:fn=.func 50:=by
                  rw [h] at hfv;simp only [mB,pS,reduceIte,reduceCtorEq] at hfv;injection hfv with hfv;exact hfv.symm
                 rw [zig (by omega),zig (by omega),zig (by omega),zig (by omega),zig (by omega),zij h] at hk
                 subst hf;have H8:=zia h;have HK9:=zia hk;have HIZ:=zia hi;clear h hk hfv hop hi;go_wp2_with fail;have hi:=HIZ.out;refine (zbj g gz c.zone.toNat hX d c wc hd hi hl).mono ?_;rw [HK9.out];rintro e w4 ⟨rfl,hd4,ht4⟩;clear hi;go_wp2_with fail;go_meet;exact ⟨gz,rfl,hgz,hd4,ht4⟩
               · have hf:fn=.func 51:=by
                  rw [h] at hfv;simp only [mB,pS,reduceIte,reduceCtorEq] at hfv;injection hfv with hfv;exact hfv.symm
                 rw [zig (by omega),zig (by omega),zig (by omega),zig (by omega),zig (by omega),zig (by omega),zij h] at hk
                 subst hf;have H8:=zia h;have HK9:=zia hk;have HIZ:=zia hi;clear h hk hfv hop hi;go_wp2_with fail;have hi:=HIZ.out;refine (zbh g gz c.zone.toNat d c wc hd hi hl).mono ?_;rw [HK9.out];rintro e w4 ⟨rfl,hd4,ht4⟩;clear hi;go_wp2_with fail;go_meet;exact ⟨gz,rfl,hgz,hd4,ht4⟩
               · have hf:fn=.func 52:=by
                  rw [h] at hfv;simp only [mB,pS,reduceIte,reduceCtorEq] at hfv;injection hfv with hfv;exact hfv.symm
                 rw [zig (by omega),zig (by omega),zig (by omega),zig (by omega),zig (by omega),zig (by omega),zig (by omega)] at hk
                 subst hf;have H8:=zia h;have HK9:=zia hk;have HIZ:=zia hi;clear h hk hfv hop hi;go_wp2_with fail;have hi:=HIZ.out;refine (zbJ g gz c.zone.toNat hX d c wc hd hi hl hl47 hcap).mono ?_;rw [HK9.out];rintro e w4 ⟨rfl,hd4,ht4⟩;clear hi;go_wp2_with fail;go_meet;exact ⟨gz,rfl,hgz,hd4,ht4⟩
              case rest=>
               obtain ⟨gz,rfl,hgz,hd4,ht4⟩:=hcut;have hbs:=E.below.size;have hbW:=E.below.trans (ht4.below (B:=w.heap.size) (fun b hb=>by rcases hb with h | h <;> omega) hbs)
               have E2:=((((((Kn.from_ hbW hbW.size).know ((E.at_ m3).turned ht4 (by omega))).know ((E.at_ m2).turned ht4 (by omega))).know ((E.at_ m1).turned ht4 (by omega))).know ((E.at_ m0).turned ht4 (by omega))).give aB.list ((E.get m2).turned ht4 (fun b hb=>by have:=hlt b hb;omega))).give aB.desk hd4
               clear E ht4 hbW q3 f3 t3 hLt hd4;have E:=E2;clear E2;obtain ⟨q3,f3,t3⟩:=E.rules m3;obtain ⟨q2,f2,t2⟩:=E.rules m2;have hr9:=HR9.out;have HLEN:Hid (k9.2.1.length=d.z.length):=zia (by rw [←HK9.out];exact zcy _ _ _)
               clear HFV HOP HOK HK9 HR9;by_cases h0:k9.1=0
               · rw [zig (by simpa using h0)] at hr9
                 rw [h0];have H0:=zia h0;clear h0;go_upto_region 11 with fail;go_cut [84] (fun s9 wx=>s9=.bool (decide (c.op=8∧c.n=0))∧wx=wc)
                 case first=>
                  by_cases h8:c.op=8
                  · have e8:(c.op == 8)=true:=by simpa using h8
                    have H8:=zia h8;clear h8;go_wp2;all_goals go_meet
                    all_goals refine ⟨zjj Value.bool ?_,rfl⟩
                    all_goals rw [zjB]
                    all_goals simp [H8.out]
                  · have e8:(c.op == 8)=false:=by simpa using h8
                    have H8:=zia h8;clear h8;go_wp2;all_goals go_meet
                    all_goals refine ⟨zjj Value.bool ?_,rfl⟩
                    all_goals rw [zjB]
                    all_goals simp [H8.out]
                 case rest=>
                  obtain ⟨rfl,rfl⟩:=hcut;by_cases h8:c.op=8∧c.n=0
                  · rw [zij h8] at hr9
                    have hr1:res=zg9 d 0:=hr9;subst hr1;clear hr9;rw [ziu h8];clear h8;go_wp2_with fail;have hbX:=(E.rules m0).2.2;refine (dA d _ _ _ (E.get m1) hn (fun b hb=>ziE (hlt b hb) E.below.size)).mono ?_
                    rintro e w5 ⟨v',rfl,⟨A5,c5,rfl,hL5,hR5⟩,hb5⟩;have hsz:=E.below.size;replace E:=E.step hb5;have h7:=iL (E.at_ m1) (E.at_ m0) (by omega) (.int .i64 d.cap) (.int .i64 d.opn) (.int .i64 d.act) (.slice A5 d.z.length c5) (.int .i64 0) (.int .i64 0) (.slice none 0 0)
                    obtain ⟨q5,f5,t5⟩:=E.rules m1;obtain ⟨q6,f6,t6⟩:=E.rules m0;have hb0:=E.below;clear E;go_wp2;obtain ⟨hA7,hB7,ht7⟩:=h7;unfold st7 at hA7 hB7 ht7;generalize ((((((w5.setCell ⟨w.heap.size+1+1,0,none⟩ (.int .i64 d.cap)).setCell ⟨w.heap.size+1+1,1,none⟩ (.int .i64 d.opn)).setCell ⟨w.heap.size+1+1,2,none⟩ (.int .i64 d.act)).setCell ⟨w.heap.size+1+1,3,none⟩ (.slice A5 d.z.length c5)).setCell ⟨w.heap.size+1+1+1,0,none⟩ (.int .i64 0)).setCell ⟨w.heap.size+1+1+1,1,none⟩ (.int .i64 0)).setCell ⟨w.heap.size+1+1+1,2,none⟩ (.slice none 0 0)=w9 at hA7 hB7 ht7 ⊢;obtain ⟨q7,f7⟩:=hA7.rules;obtain ⟨q8,f8⟩:=hB7.rules;refine zik (v:=.tuple #[.agg #[.int .i64 d.cap,.int .i64 d.opn,.int .i64 d.act,.slice A5 d.z.length c5],.agg #[.int .i64 0,.int .i64 0,.slice none 0 0]]) (by simp [results,Tryz.results20,go_sem,q7,q8]) rfl ⟨_,_,rfl,⟨A5,c5,rfl,?_,fun hp=>let ⟨gz5,e5,hg5,_⟩:=hR5 hp;⟨_,e5,zit hsz hg5⟩⟩,⟨none,0,rfl,IsB.nil_ _ _⟩,?_⟩
                    · exact (hL5.turned ht7 (fun b hb=>by rcases hb with h | h;have:=hlt b h;omega;omega)).more fun b hb=>hb.imp id (fun h=>zit hsz h)
                    · exact hb0.trans (ht7.below (fun b hb=>by rcases hb with h | h <;> omega) hb0.size)
                  · rw [zig h8] at hr9
                    subst hr9;rw [ziv h8];clear h8;go_upto_region 13 with fail;obtain ⟨cz9,A9,c9,A8,c8,hBg,hRz,_,hB8,hcz1,hcz2,hne⟩:=E.get m0;have hG:Blk wc g 130 #[.int .i64 d.cap,.int .i64 d.opn,.int .i64 d.act,.slice (some ⟨gz,0,none⟩) k9.2.1.length cz9,.int .i64 c.op,.int .i64 c.zone,.int .i64 c.epoch,.int .i64 c.off,.int .i64 c.n,.slice A9 c.data.length c9,.int .i64 k9.2.2.e,.int .i64 k9.2.2.at_,.slice A8 k9.2.2.data.length c8]:=hBg;clear hBg;have HG7:Hid (∀ u0 u1 u2 u3 v0 v1 v2:Value,∀ o,((((((((wc).setCell ⟨w.heap.size+1+1,0,none⟩ u0).setCell ⟨w.heap.size+1+1,1,none⟩ u1).setCell ⟨w.heap.size+1+1,2,none⟩ u2).setCell ⟨w.heap.size+1+1,3,none⟩ u3).setCell ⟨w.heap.size+1+1+1,0,none⟩ v0).setCell ⟨w.heap.size+1+1+1,1,none⟩ v1).setCell ⟨w.heap.size+1+1+1,2,none⟩ v2).drew.cell? ⟨g,o,none⟩=(#[.int .i64 d.cap,.int .i64 d.opn,.int .i64 d.act,.slice (some ⟨gz,0,none⟩) k9.2.1.length cz9,.int .i64 c.op,.int .i64 c.zone,.int .i64 c.epoch,.int .i64 c.off,.int .i64 c.n,.slice A9 c.data.length c9,.int .i64 k9.2.2.e,.int .i64 k9.2.2.at_,.slice A8 k9.2.2.data.length c8]:Array Value)[o]?):=zia fun u0 u1 u2 u3 v0 v1 v2=>((((((((hG).far (p:=⟨w.heap.size+1+1,0,none⟩) (show g≠w.heap.size+1+1 by omega) u0).far (p:=⟨w.heap.size+1+1,1,none⟩) (show g≠w.heap.size+1+1 by omega) u1).far (p:=⟨w.heap.size+1+1,2,none⟩) (show g≠w.heap.size+1+1 by omega) u2).far (p:=⟨w.heap.size+1+1,3,none⟩) (show g≠w.heap.size+1+1 by omega) u3).far (p:=⟨w.heap.size+1+1+1,0,none⟩) (show g≠w.heap.size+1+1+1 by omega) v0).far (p:=⟨w.heap.size+1+1+1,1,none⟩) (show g≠w.heap.size+1+1+1 by omega) v1).far (p:=⟨w.heap.size+1+1+1,2,none⟩) (show g≠w.heap.size+1+1+1 by omega) v2).drew.cell
                    have HG7b:Hid (∀ v0 v1 v2 u0 u1 u2 u3:Value,∀ o,((((((((wc).setCell ⟨w.heap.size+1+1+1,0,none⟩ v0).setCell ⟨w.heap.size+1+1+1,1,none⟩ v1).setCell ⟨w.heap.size+1+1+1,2,none⟩ v2).setCell ⟨w.heap.size+1+1,0,none⟩ u0).setCell ⟨w.heap.size+1+1,1,none⟩ u1).setCell ⟨w.heap.size+1+1,2,none⟩ u2).setCell ⟨w.heap.size+1+1,3,none⟩ u3).drew.cell? ⟨g,o,none⟩=(#[.int .i64 d.cap,.int .i64 d.opn,.int .i64 d.act,.slice (some ⟨gz,0,none⟩) k9.2.1.length cz9,.int .i64 c.op,.int .i64 c.zone,.int .i64 c.epoch,.int .i64 c.off,.int .i64 c.n,.slice A9 c.data.length c9,.int .i64 k9.2.2.e,.int .i64 k9.2.2.at_,.slice A8 k9.2.2.data.length c8]:Array Value)[o]?):=zia fun v0 v1 v2 u0 u1 u2 u3=>((((((((hG).far (p:=⟨w.heap.size+1+1+1,0,none⟩) (show g≠w.heap.size+1+1+1 by omega) v0).far (p:=⟨w.heap.size+1+1+1,1,none⟩) (show g≠w.heap.size+1+1+1 by omega) v1).far (p:=⟨w.heap.size+1+1+1,2,none⟩) (show g≠w.heap.size+1+1+1 by omega) v2).far (p:=⟨w.heap.size+1+1,0,none⟩) (show g≠w.heap.size+1+1 by omega) u0).far (p:=⟨w.heap.size+1+1,1,none⟩) (show g≠w.heap.size+1+1 by omega) u1).far (p:=⟨w.heap.size+1+1,2,none⟩) (show g≠w.heap.size+1+1 by omega) u2).far (p:=⟨w.heap.size+1+1,3,none⟩) (show g≠w.heap.size+1+1 by omega) u3).drew.cell
                    have HG4:Hid (∀ u0 u1 u2 u3:Value,∀ o,(((((wc).setCell ⟨w.heap.size+1+1,0,none⟩ u0).setCell ⟨w.heap.size+1+1,1,none⟩ u1).setCell ⟨w.heap.size+1+1,2,none⟩ u2).setCell ⟨w.heap.size+1+1,3,none⟩ u3).drew.cell? ⟨g,o,none⟩=(#[.int .i64 d.cap,.int .i64 d.opn,.int .i64 d.act,.slice (some ⟨gz,0,none⟩) k9.2.1.length cz9,.int .i64 c.op,.int .i64 c.zone,.int .i64 c.epoch,.int .i64 c.off,.int .i64 c.n,.slice A9 c.data.length c9,.int .i64 k9.2.2.e,.int .i64 k9.2.2.at_,.slice A8 k9.2.2.data.length c8]:Array Value)[o]?):=zia fun u0 u1 u2 u3=>(((((hG).far (p:=⟨w.heap.size+1+1,0,none⟩) (show g≠w.heap.size+1+1 by omega) u0).far (p:=⟨w.heap.size+1+1,1,none⟩) (show g≠w.heap.size+1+1 by omega) u1).far (p:=⟨w.heap.size+1+1,2,none⟩) (show g≠w.heap.size+1+1 by omega) u2).far (p:=⟨w.heap.size+1+1,3,none⟩) (show g≠w.heap.size+1+1 by omega) u3).drew.cell
                    have HG3:Hid (∀ v0 v1 v2:Value,∀ o,((((wc).setCell ⟨w.heap.size+1+1+1,0,none⟩ v0).setCell ⟨w.heap.size+1+1+1,1,none⟩ v1).setCell ⟨w.heap.size+1+1+1,2,none⟩ v2).drew.cell? ⟨g,o,none⟩=(#[.int .i64 d.cap,.int .i64 d.opn,.int .i64 d.act,.slice (some ⟨gz,0,none⟩) k9.2.1.length cz9,.int .i64 c.op,.int .i64 c.zone,.int .i64 c.epoch,.int .i64 c.off,.int .i64 c.n,.slice A9 c.data.length c9,.int .i64 k9.2.2.e,.int .i64 k9.2.2.at_,.slice A8 k9.2.2.data.length c8]:Array Value)[o]?):=zia fun v0 v1 v2=>((((hG).far (p:=⟨w.heap.size+1+1+1,0,none⟩) (show g≠w.heap.size+1+1+1 by omega) v0).far (p:=⟨w.heap.size+1+1+1,1,none⟩) (show g≠w.heap.size+1+1+1 by omega) v1).far (p:=⟨w.heap.size+1+1+1,2,none⟩) (show g≠w.heap.size+1+1+1 by omega) v2).drew.cell
                    have HG0:Hid (∀ o,wc.drew.cell? ⟨g,o,none⟩=(#[.int .i64 d.cap,.int .i64 d.opn,.int .i64 d.act,.slice (some ⟨gz,0,none⟩) k9.2.1.length cz9,.int .i64 c.op,.int .i64 c.zone,.int .i64 c.epoch,.int .i64 c.off,.int .i64 c.n,.slice A9 c.data.length c9,.int .i64 k9.2.2.e,.int .i64 k9.2.2.at_,.slice A8 k9.2.2.data.length c8]:Array Value)[o]?):=zia hG.drew.cell;obtain ⟨q5,f5,t5⟩:=E.rules m1;obtain ⟨q6,f6,t6⟩:=E.rules m0;have hgl:=hG.lt;go_cut [96] (fun s9 wx=>(∃ u,s9=u)∧Blk wx (w.heap.size+1+1) 26 #[.int .i64 d.cap,.int .i64 d.opn,.int .i64 d.act,.slice (some ⟨gz,0,none⟩) k9.2.1.length cz9]∧Blk wx (w.heap.size+1+1+1) 76 #[.int .i64 k9.2.2.e,.int .i64 k9.2.2.at_,.slice A8 k9.2.2.data.length c8]∧aA wc wx (fun b=>b=w.heap.size+1+1∨b=w.heap.size+1+1+1))
                    case first=>
                     go_region_held3 (fun W=>∀ o,W.cell? ⟨g,o,none⟩=(#[.int .i64 d.cap,.int .i64 d.opn,.int .i64 d.act,.slice (some ⟨gz,0,none⟩) k9.2.1.length cz9,.int .i64 c.op,.int .i64 c.zone,.int .i64 c.epoch,.int .i64 c.off,.int .i64 c.n,.slice A9 c.data.length c9,.int .i64 k9.2.2.e,.int .i64 k9.2.2.at_,.slice A8 k9.2.2.data.length c8]:Array Value)[o]?) (first | with_reducible exact HG7.out _ _ _ _ _ _ _ | with_reducible exact HG7b.out _ _ _ _ _ _ _ | with_reducible exact HG4.out _ _ _ _ | with_reducible exact HG3.out _ _ _ | with_reducible exact HG0.out) (fail)
                     go_wp2_with fail;go_meet;have h7:=iL (E.at_ m1) (E.at_ m0) (by omega) (.int .i64 d.cap) (.int .i64 d.opn) (.int .i64 d.act) (.slice (some ⟨gz,0,none⟩) k9.2.1.length cz9) (.int .i64 k9.2.2.e) (.int .i64 k9.2.2.at_) (.slice A8 k9.2.2.data.length c8)
                     exact ⟨⟨_,rfl⟩,h7.1.drew,h7.2.1.drew,h7.2.2.drew⟩
                    case rest=>
                     obtain ⟨⟨u9,rfl⟩,hA7,hB7,ht7⟩:=hcut;obtain ⟨q7,f7⟩:=hA7.rules;obtain ⟨q8,f8⟩:=hB7.rules;have hb0:=E.below;clear HG7 HG7b HG4 HG3 HG0 q2 f2 t2 q3 f3 t3 q5 f5 t5 q6 f6 t6;go_wp2;refine zik (v:=.tuple #[.agg #[.int .i64 d.cap,.int .i64 d.opn,.int .i64 d.act,.slice (some ⟨gz,0,none⟩) k9.2.1.length cz9],.agg #[.int .i64 k9.2.2.e,.int .i64 k9.2.2.at_,.slice A8 k9.2.2.data.length c8]]) (by simp [results,Tryz.results20,go_sem,q7,q8]) rfl ⟨_,_,rfl,⟨_,_,rfl,?_,fun _=>⟨_,rfl,by show w.heap.size≤gz;omega⟩⟩,⟨_,_,rfl,?_⟩,?_⟩
                     · have hR9:=((hRz.away (E.at_ m1) nb4).away (E.at_ m0) nb3).turned ht7 (by omega) (fun b hb h=>by rcases h with h | h;exact hb.1.2 h;exact hb.2 h)
                       have hzl:k9.2.1.length≤140737488355328:=by rw [HLEN.out];omega
                       exact (hR9.isL hcz1 hcz2 hzl).more fun b hb=>by rcases hb with rfl | hb;exact .inr (by omega);exact hb.1.1.2.2.imp id (fun h=>by omega)
                     · exact (((hB8.away (E.at_ m1) nb4).away (E.at_ m0) nb3).turned ht7 (fun b hb h=>by rcases h with h | h;exact hb.1.2 h;exact hb.2 h)).more fun _ _=>trivial
                     · exact hb0.trans (ht7.below (fun b hb=>by rcases hb with h | h <;> omega) hb0.size)
               · rw [zij h0] at hr9
                 have hr1:res=zg9 d k9.1:=hr9;subst hr1;clear hr9;have hkb:(k9.1 == 0)=false:=by simpa using h0
                 go_wp2_with fail;have hbX:=(E.rules m0).2.2;refine (dA d _ _ _ (E.get m1) hn (fun b hb=>ziE (hlt b hb) E.below.size)).mono ?_
                 rintro e w5 ⟨v',rfl,⟨A5,c5,rfl,hL5,hR5⟩,hb5⟩;have hsz:=E.below.size;replace E:=E.step hb5;have h7:=iL (E.at_ m1) (E.at_ m0) (by omega) (.int .i64 d.cap) (.int .i64 d.opn) (.int .i64 d.act) (.slice A5 d.z.length c5) (.int .i64 k9.1) (.int .i64 0) (.slice none 0 0)
                 obtain ⟨q5,f5,t5⟩:=E.rules m1;obtain ⟨q6,f6,t6⟩:=E.rules m0;have hb0:=E.below;clear E;go_wp2;obtain ⟨hA7,hB7,ht7⟩:=h7;unfold st7 at hA7 hB7 ht7;generalize ((((((w5.setCell ⟨w.heap.size+1+1,0,none⟩ (.int .i64 d.cap)).setCell ⟨w.heap.size+1+1,1,none⟩ (.int .i64 d.opn)).setCell ⟨w.heap.size+1+1,2,none⟩ (.int .i64 d.act)).setCell ⟨w.heap.size+1+1,3,none⟩ (.slice A5 d.z.length c5)).setCell ⟨w.heap.size+1+1+1,0,none⟩ (.int .i64 k9.1)).setCell ⟨w.heap.size+1+1+1,1,none⟩ (.int .i64 0)).setCell ⟨w.heap.size+1+1+1,2,none⟩ (.slice none 0 0)=w9 at hA7 hB7 ht7 ⊢;obtain ⟨q7,f7⟩:=hA7.rules;obtain ⟨q8,f8⟩:=hB7.rules;refine zik (v:=.tuple #[.agg #[.int .i64 d.cap,.int .i64 d.opn,.int .i64 d.act,.slice A5 d.z.length c5],.agg #[.int .i64 k9.1,.int .i64 0,.slice none 0 0]]) (by simp [results,Tryz.results20,go_sem,q7,q8]) rfl ⟨_,_,rfl,⟨A5,c5,rfl,?_,fun hp=>let ⟨gz5,e5,hg5,_⟩:=hR5 hp;⟨_,e5,zit hsz hg5⟩⟩,⟨none,0,rfl,IsB.nil_ _ _⟩,?_⟩
                 · exact (hL5.turned ht7 (fun b hb=>by rcases hb with h | h;have:=hlt b h;omega;omega)).more fun b hb=>hb.imp id (fun h=>zit hsz h)
                 · exact hb0.trans (ht7.below (fun b hb=>by rcases hb with h | h <;> omega) hb0.size)
     · have hck:oH d=1:=zig hok
       rw [hck];have hr1:res=zg9 d 1:=by rw [←HRES.out,doZ,zij (.inr (.inl hok))];rfl
       subst hr1;clear hck HRES HOP hok;go_wp2_with fail;have hbX:=(E.rules m0).2.2;refine (dA d _ _ _ (E.get m2) hn (fun b hb=>ziE (hlt b hb) E.below.size)).mono ?_
       rintro e w5 ⟨v',rfl,⟨A5,c5,rfl,hL5,hR5⟩,hb5⟩;have hsz:=E.below.size;replace E:=E.step hb5;have h7:=iL (E.at_ m1) (E.at_ m0) (by omega) (.int .i64 d.cap) (.int .i64 d.opn) (.int .i64 d.act) (.slice A5 d.z.length c5) (.int .i64 1) (.int .i64 0) (.slice none 0 0)
       obtain ⟨q5,f5,t5⟩:=E.rules m1;obtain ⟨q6,f6,t6⟩:=E.rules m0;have hb0:=E.below;clear E;go_wp2;obtain ⟨hA7,hB7,ht7⟩:=h7;unfold st7 at hA7 hB7 ht7;generalize ((((((w5.setCell ⟨w.heap.size+1+1,0,none⟩ (.int .i64 d.cap)).setCell ⟨w.heap.size+1+1,1,none⟩ (.int .i64 d.opn)).setCell ⟨w.heap.size+1+1,2,none⟩ (.int .i64 d.act)).setCell ⟨w.heap.size+1+1,3,none⟩ (.slice A5 d.z.length c5)).setCell ⟨w.heap.size+1+1+1,0,none⟩ (.int .i64 1)).setCell ⟨w.heap.size+1+1+1,1,none⟩ (.int .i64 0)).setCell ⟨w.heap.size+1+1+1,2,none⟩ (.slice none 0 0)=w9 at hA7 hB7 ht7 ⊢;obtain ⟨q7,f7⟩:=hA7.rules;obtain ⟨q8,f8⟩:=hB7.rules;refine zik (v:=.tuple #[.agg #[.int .i64 d.cap,.int .i64 d.opn,.int .i64 d.act,.slice A5 d.z.length c5],.agg #[.int .i64 1,.int .i64 0,.slice none 0 0]]) (by simp [results,Tryz.results20,go_sem,q7,q8]) rfl ⟨_,_,rfl,⟨A5,c5,rfl,?_,fun hp=>let ⟨gz5,e5,hg5,_⟩:=hR5 hp;⟨_,e5,zit hsz hg5⟩⟩,⟨none,0,rfl,IsB.nil_ _ _⟩,?_⟩
       · exact (hL5.turned ht7 (fun b hb=>by rcases hb with h | h;have:=hlt b h;omega;omega)).more fun b hb=>hb.imp id (fun h=>zit hsz h)
       · exact hb0.trans (ht7.below (fun b hb=>by rcases hb with h | h <;> omega) hb0.size)
   · have hfv:pS .nilFunc (mB g) c.op=.nilFunc:=by
      unfold mB;simp only [pS];repeat rw [zig (by omega)]
     rw [hfv];have hr1:res=zg9 d 1:=by rw [←HRES.out,doZ,zij (.inl hop)];rfl
     subst hr1;clear hfv hop HRES q2 f2 t2;have heq:=fun w=>rV (P:=Tryz.prog) w Tryz.underlying131
     obtain ⟨q2,f2,t2⟩:=E.rules m3;go_wp2_with fail;have hbX:=(E.rules m0).2.2;refine (dA d _ _ _ (E.get m2) hn (fun b hb=>ziE (hlt b hb) E.below.size)).mono ?_
     rintro e w5 ⟨v',rfl,⟨A5,c5,rfl,hL5,hR5⟩,hb5⟩;have hsz:=E.below.size;replace E:=E.step hb5;have h7:=iL (E.at_ m1) (E.at_ m0) (by omega) (.int .i64 d.cap) (.int .i64 d.opn) (.int .i64 d.act) (.slice A5 d.z.length c5) (.int .i64 1) (.int .i64 0) (.slice none 0 0)
     obtain ⟨q5,f5,t5⟩:=E.rules m1;obtain ⟨q6,f6,t6⟩:=E.rules m0;have hb0:=E.below;clear E;go_wp2;obtain ⟨hA7,hB7,ht7⟩:=h7;unfold st7 at hA7 hB7 ht7;generalize ((((((w5.setCell ⟨w.heap.size+1+1,0,none⟩ (.int .i64 d.cap)).setCell ⟨w.heap.size+1+1,1,none⟩ (.int .i64 d.opn)).setCell ⟨w.heap.size+1+1,2,none⟩ (.int .i64 d.act)).setCell ⟨w.heap.size+1+1,3,none⟩ (.slice A5 d.z.length c5)).setCell ⟨w.heap.size+1+1+1,0,none⟩ (.int .i64 1)).setCell ⟨w.heap.size+1+1+1,1,none⟩ (.int .i64 0)).setCell ⟨w.heap.size+1+1+1,2,none⟩ (.slice none 0 0)=w9 at hA7 hB7 ht7 ⊢;obtain ⟨q7,f7⟩:=hA7.rules;obtain ⟨q8,f8⟩:=hB7.rules;refine zik (v:=.tuple #[.agg #[.int .i64 d.cap,.int .i64 d.opn,.int .i64 d.act,.slice A5 d.z.length c5],.agg #[.int .i64 1,.int .i64 0,.slice none 0 0]]) (by simp [results,Tryz.results20,go_sem,q7,q8]) rfl ⟨_,_,rfl,⟨A5,c5,rfl,?_,fun hp=>let ⟨gz5,e5,hg5,_⟩:=hR5 hp;⟨_,e5,zit hsz hg5⟩⟩,⟨none,0,rfl,IsB.nil_ _ _⟩,?_⟩
     · exact (hL5.turned ht7 (fun b hb=>by rcases hb with h | h;have:=hlt b h;omega;omega)).more fun b hb=>hb.imp id (fun h=>zit hsz h)
     · exact hb0.trans (ht7.below (fun b hb=>by rcases hb with h | h <;> omega) hb0.size)
end Go.Proofs.YtcapmeefiglfjaaGreat
namespace Go.Proofs.YtcapmeefiglfjaaGreat
open Go.RowKit Go.MapKept Go.ChangeMaps
