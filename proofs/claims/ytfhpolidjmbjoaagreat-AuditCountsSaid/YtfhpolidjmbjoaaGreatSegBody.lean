/- A part of the proof. -/
import Derived.Test.YtfhpolidjmbjoaaGreatSegFrame
namespace Go.Proofs.YtfhpolidjmbjoaaGreat
def headN (h:Hd):List Int:=[0,h.host,h.epoch,h.seq]
def recN (r:Rc):List Int:=[r.kind,r.lba,r.n,r.ver,r.zone,r.off]
def checkL (r:Rc):Int:=
 if r.kind<1∨5<r.kind then 1
 else if r.lba<0∨r.n<0∨r.ver<0∨r.zone<0∨r.off<0 then 1
 else if ¬(r.kind=3∨r.kind=5)∧(r.zone≠0∨r.off≠0) then 1
 else if r.kind=4 then (if r.lba≠0∨r.n≠0 then 1 else if 32768<r.data.length then 2 else 0)
 else if r.n<1∨1099511627776<r.n∨1099511627776-r.n<r.lba then 1
 else if r.kind=1∨r.kind=5 then (if 256<r.n∨(r.data.length:Int)≠r.n*16 then 1 else 0)
 else if 0<r.data.length then 1 else 0
def recL (r:Rc):List UInt8 × Int:=
 if checkL r≠0 then ([],checkL r)
 else if (numsL (recN r)).2≠0 then ([],(numsL (recN r)).2)
 else if (vecL r.data).2≠0 then ([],(vecL r.data).2)
 else frameL ((numsL (recN r)).1++(vecL r.data).1)
def headerL (x:List UInt8):Hd × Bool:=
 if (takeNumsL x 4).2.2≠0 then (⟨0,0,0⟩,false)
 else if (takeNumsL x 4).2.1≠x.length∨(takeNumsL x 4).1.getD 0 0≠0 then (⟨0,0,0⟩,false)
 else (⟨(takeNumsL x 4).1.getD 1 0,(takeNumsL x 4).1.getD 2 0,(takeNumsL x 4).1.getD 3 0⟩,true)
def r0c:Rc:=⟨0,0,0,0,0,0,[]⟩
def recordL (x:List UInt8):Rc × Bool:=
 if (takeNumsL x 6).2.2≠0 then (r0c,false)
 else
  let l:=(takeNumsL x 6).1
  let y:=takeVecL (x.drop (takeNumsL x 6).2.1.toNat)
  if y.2.2≠0∨(takeNumsL x 6).2.1+y.2.1<x.length then (r0c,false)
  else
   let r:Rc:=⟨l.getD 0 0,l.getD 1 0,l.getD 2 0,l.getD 3 0,l.getD 4 0,l.getD 5 0,y.1⟩
   (r,decide (checkL r=0))
structure Fd where
 head:Bool
 h:Hd
 l:List Rc
 at_:List Int
 used:Nat
def f0d:Fd:=⟨false,⟨0,0,0⟩,[],[],0⟩
def stepS (b:List UInt8) (f:Fd):Option Fd:=
 let t:=takeF (b.drop f.used)
 if t.2.2=false then none
 else if f.head=false then
  if (headerL t.1).2=false then none else some ⟨true,(headerL t.1).1,f.l,f.at_,f.used+t.2.1.toNat⟩
 else if (recordL t.1).2=false then none
 else some ⟨true,f.h,f.l++[(recordL t.1).1],f.at_++[(f.used:Int)],f.used+t.2.1.toNat⟩
def iterS (b:List UInt8):Nat→Fd→Fd
 | 0,f=>f
 | n+1,f=>match stepS b f with
   | none=>f
   | some g=>iterS b n g
def scanL (b:List UInt8):Fd:=iterS b (b.length+1) f0d
theorem takeF_inv {b x:List UInt8} {n:Int} (h:takeF b=(x,n,true)):∃ j:Nat,n=j∧5≤j∧j≤b.length∧frameL x=(b.take j,0)∧x.length≤65536:=by
 unfold takeF at h;split at h
 · simp at h
 · rename_i h0
   obtain ⟨y,hy⟩:∃ y,takeVecL b=y:=⟨_,rfl⟩;obtain ⟨x',n',e'⟩:=y;simp only [hy] at h h0;have he:e'=0:=Decidable.not_not.1 h0;subst he;obtain ⟨j,rfl,h1,h2,h3,h4⟩:=takeVec_one hy;simp only [Prod.mk.injEq,Bool.and_eq_true,decide_eq_true_eq,Int.toNat_natCast] at h;obtain ⟨rfl,rfl,h5,h6⟩:=h;have h7:4≤(b.drop j).length:=by
    rcases Nat.lt_or_ge (b.drop j).length 4 with h | h
    · rw [takeFL_short h] at h5;simp at h5
    · exact h
   obtain ⟨h8,_,_⟩:=fix_take h7;rw [List.length_drop] at h7;refine ⟨j+4,by omega,by omega,by omega,?_,h4⟩
   unfold frameL;rw [h3];simp only [ne_eq,not_true_eq_false,if_false,Prod.mk.injEq,and_true];rw [←h6,h8,List.take_add]
theorem stepS_used {b:List UInt8} {f g:Fd} (hf:f.used≤b.length) (h:stepS b f=some g):f.used+5≤g.used∧g.used≤b.length:=by
 unfold stepS at h;obtain ⟨t,ht⟩:∃ t,takeF (b.drop f.used)=t:=⟨_,rfl⟩;obtain ⟨x,n,ok⟩:=t;simp only [ht] at h;cases ok with
 | false=>simp at h
 | true=>
   obtain ⟨j,rfl,h1,h2,_⟩:=takeF_inv ht;rw [List.length_drop] at h2;simp only [Int.toNat_natCast,Bool.true_eq_false,if_false] at h;split at h
   · split at h
     · cases h
     · cases h;constructor <;> (simp only;omega)
   · split at h
     · cases h
     · cases h;constructor <;> (simp only;omega)
theorem iterS_fuel {b:List UInt8}:∀ (n m:Nat) (f:Fd),f.used≤b.length→b.length+1≤n+f.used→b.length+1≤m+f.used→iterS b n f=iterS b m f
 | 0,_,f,h,h1,_=>by omega
 | _,0,f,h,_,h2=>by omega
 | n+1,m+1,f,h,h1,h2=>by
   unfold iterS;cases hs:stepS b f with
   | none=>rfl
   | some g=>
     have hu:=stepS_used h hs;exact iterS_fuel n m g hu.2 (by omega) (by omega)
def OnWay (b:List UInt8) (f:Fd):Prop:=f.used≤b.length∧iterS b (b.length+1) f=scanL b
theorem OnWay.start (b:List UInt8):OnWay b f0d:=⟨Nat.zero_le _,rfl⟩
theorem OnWay.next {b:List UInt8} {f g:Fd} (h:OnWay b f) (hs:stepS b f=some g):OnWay b g∧f.used+5≤g.used:=by
 have hu:=stepS_used h.1 hs;refine ⟨⟨hu.2,?_⟩,hu.1⟩;rw [←h.2];have e:iterS b (b.length+1) f=iterS b b.length g:=by
  conv=>lhs;unfold iterS
  rw [hs]
 rw [e];exact iterS_fuel _ _ _ hu.2 (by omega) (by omega)
theorem OnWay.stop {b:List UInt8} {f:Fd} (h:OnWay b f) (hs:stepS b f=none):scanL b=f:=by
 rw [←h.2];unfold iterS;rw [hs]
end Go.Proofs.YtfhpolidjmbjoaaGreat
namespace Go.Proofs.YtfhpolidjmbjoaaGreat
open Go.RowKit
theorem isL_ints {w:World} {l:List Int} {cs:Array Value} {n:Nat} (hI:I63 l) (t:TypeId) (hcs:cs.toList=l.map I64) (hn:l.length=n) (h47:n≤1000) :
 IsL Rp.int (w.alloc (.cells cs t)) (fun b=>b=w.heap.size) (.slice (some ⟨w.heap.size,0,none⟩) n n) l:=by
 subst hn;exact ⟨_,_,l.map I64,rfl,Reads.new (n:=l.length) (size:=1) rfl hcs (by have:=congrArg List.length hcs;simpa using this),cells_ints hI,Nat.le_refl _,by omega,by omega⟩
def hdV (h:Hd):Value:=.agg #[.int .i64 h.host,.int .i64 h.epoch,.int .i64 h.seq]
def OkHd (h:Hd):Prop:=(-9223372036854775808≤h.host∧h.host≤9223372036854775807)∧(-9223372036854775808≤h.epoch∧h.epoch≤9223372036854775807)∧(-9223372036854775808≤h.seq∧h.seq≤9223372036854775807)
theorem OkHd.i63 {h:Hd} (hh:OkHd h):I63 (headN h):=by
 obtain ⟨h1,h2,h3⟩:=hh;intro n hn;simp only [headN,List.mem_cons,List.not_mem_nil,or_false] at hn;rcases hn with rfl | rfl | rfl | rfl <;> omega
def OkRc (r:Rc):Prop:=I63 (recN r)
theorem checkL_ok {r:Rc} (h:checkL r=0):r.data.length≤32768∧∀ n∈recN r,0≤n:=by
 have h1:r.data.length≤32768:=by
  unfold checkL at h
  (repeat' split at h) <;> first | omega | (exfalso;omega)
 refine ⟨h1,fun n hn=>?_⟩
 have h2:0≤r.kind∧0≤r.lba∧0≤r.n∧0≤r.ver∧0≤r.zone∧0≤r.off:=by
  unfold checkL at h
  (repeat' split at h) <;> first | omega | (exfalso;omega)
 simp only [recN,List.mem_cons,List.not_mem_nil,or_false] at hn;rcases hn with rfl | rfl | rfl | rfl | rfl | rfl <;> omega
def bodyR (r:Rc):List UInt8:=flatN (recN r)++(putL r.data.length++r.data)
def frB (x:List UInt8):List UInt8:=putL x.length++x++fixL (crcL x)
theorem frameL_ok {x:List UInt8} (h:x.length≤65536):frameL x=(frB x,0):=by
 unfold frameL vecL frB;rw [if_pos h];simp
theorem bodyR_le {r:Rc} (hr:OkRc r) (h:checkL r=0):(bodyR r).length≤40000:=by
 have h1:=(checkL_ok h).1;have h2:=flatN_len hr;have h3:(recN r).length=6:=rfl;have h4:=putL_len10 (n:=r.data.length) (by omega)
 unfold bodyR;simp only [List.length_append];omega
theorem recL_ok {r:Rc} (hr:OkRc r) (h:checkL r=0):recL r=(frB (bodyR r),0):=by
 have h1:=checkL_ok h;have hn:numsL (recN r)=(flatN (recN r),0):=if_pos h1.2;have hv:vecL r.data=(putL r.data.length++r.data,0):=if_pos (by omega)
 unfold recL;rw [if_neg (by simp [h]),hn,hv]
 simp only [ne_eq,not_true_eq_false,if_false];exact frameL_ok (by have:=bodyR_le hr h;unfold bodyR at this;omega)
theorem recL_no {r:Rc} (h:checkL r≠0):recL r=([],checkL r):=by unfold recL;rw [if_pos h]
theorem frB_len (x:List UInt8):(frB x).length=(putL x.length).length+x.length+4:=by simp [frB,fixL];omega
end Go.Proofs.YtfhpolidjmbjoaaGreat
