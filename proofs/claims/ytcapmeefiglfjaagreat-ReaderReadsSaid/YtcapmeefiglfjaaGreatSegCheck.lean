/- A part of the proof. -/
import Derived.Test.YtcapmeefiglfjaaGreatCrc
import Derived.Test.YtcapmeefiglfjaaGreatFixPut
import Derived.Test.YtcapmeefiglfjaaGreatLawsN
set_option maxHeartbeats 4000000
set_option maxRecDepth 100000
namespace Go.Proofs.YtcapmeefiglfjaaGreat
open Go.RowKit
def eS (x:List UInt8):List UInt8 × Int:=if (mZ x).2≠0 then ([],(mZ x).2) else ((mZ x).1++fixL (rR x),0)
def yN (b:List UInt8):List UInt8 × Int × Bool:=
 if (dV b).2.2≠0 then ([],0,false)
 else ((dV b).1,(dV b).2.1+4,decide ((mS (b.drop (dV b).2.1.toNat)).2=0) && decide ((mS (b.drop (dV b).2.1.toNat)).1=rR (dV b).1))
theorem lG.turned {w w':World} {g:Nat} {n s:Int} {t:Nat→Nat} {u:Int} {S:Nat→Prop} (h:lG w g n s t u) (hb:aA w w' S) (hS:¬S g):lG w' g n s t u:=by
 have hc:∀ o,w'.cell? ⟨g,o,none⟩=w.cell? ⟨g,o,none⟩:=fun o=>zjg (hb.block g h.lt hS)
 have hf:∀ o,w'.frozen? ⟨g,o,none⟩=w.frozen? ⟨g,o,none⟩:=fun o=>World.frozen?_of_block (hb.block g h.lt hS)
 exact ⟨ziE h.lt hb.size,fun o=>(hf o).trans (h.free o),(hc _).trans h.done,(hc _).trans h.lock,fun i hi=>(hc _).trans (h.tab i hi),(hc _).trans h.used⟩
theorem fA.turned {w w':World} {g:Nat} {S:Nat→Prop} (h:fA w g) (hb:aA w w' S) (hS:¬S g):fA w' g:=by
 obtain ⟨n,t,u,h1,h2⟩:=h;exact ⟨n,t,u,h1.turned hb hS,h2⟩
theorem fA.below {w w':World} {g B:Nat} (h:fA w g) (hb:Below B w w') (hg:g<B):fA w' g:=
 h.turned (S:=fun k=>B≤k) ⟨hb.os,hb.tape,hb.output,hb.size,fun k _ hn=>hb.block k (by omega)⟩ (by omega)
theorem aA.later {w w' w'':World} {S:Nat→Prop} {B:Nat} (h:aA w w' S) (hb:Below B w' w'') (hB:w.heap.size≤B):aA w w'' S:=
 ⟨hb.os.trans h.os,hb.tape.trans h.tape,hb.output.trans h.output,zit h.size hb.size,fun k hk hn=>(hb.block k (by omega)).trans (h.block k hk hn)⟩
theorem aH {w w':World} {base g:Nat} {e:TypeId} {size:Nat} {v:Value} {n:Nat} {xs:List Value} (h:w.ownsRow base e size v n xs) (ht:aA w w' (· = g)) (hg:g<base):w'.ownsRow base e size v n xs:=
 h.kept (row:=some g) ⟨ht.os,ht.tape,ht.output,ht.size,fun k hk hn=>ht.block k hk (fun e=>hn (by rw [e]))⟩ (.inr (fun e=>by have:=jW h g e;omega))
theorem zb2 {w:World} {K:Nat→Prop} {v:Value} {x:List UInt8} (h:IsB w K v x) (t:TypeId):IsL Rp.bytes (w.alloc (.cells #[v] t)) (fun b=>b=w.heap.size∨K b) (.slice (some ⟨w.heap.size,0,none⟩) 1 1) [x]:=
 ⟨_,_,[v],rfl,(aG.new (n:=1) (size:=1) rfl rfl rfl).more (fun _ h=>.inl h),⟨[v],[],rfl,⟨v,rfl,(h.alloc _).more (fun _ h=>.inr h)⟩,rfl⟩,zic _,by omega,by simp⟩
theorem tA (x:List UInt8):(eS x).1.length≤65560:=by
 unfold eS mZ;by_cases h:x.length≤65536
 · have:=dR (n:=x.length) (by omega)
   simp [h,fixL];omega
 · simp [h]
theorem oF (w:World):Calls Tryz.prog 147 #[] w fun e w'=>∃ g,e=.returned (.agg #[.pointer (some ⟨g,0,none⟩)])∧w.heap.size≤g∧fA w' g∧Below w.heap.size w w':=by
 go_enter Tryz.func147,Tryz.ntmps147
 go_wp2_with (go_at_call 199;refine (zgb _).mono ?_;rintro e w1 ⟨rfl,hT1,hb1⟩;obtain ⟨r1,r2⟩:=((Blk.new w 235 #[.pointer none] rfl).step hb1).rules;have hlw:=((Blk.new w 235 #[.pointer none] rfl).step hb1).lt);have hs1:=hb1.size;simp only [zid] at hs1 hT1;refine zik (v:=.agg #[.pointer (some ⟨w.heap.size+1,0,none⟩)]) (by simp [results,Tryz.results147,go_sem,r1,World.cell?_setCell_same]) rfl ⟨_,rfl,by omega,hT1.turned (S:=(· = w.heap.size)) ((aA.refl w1 (· = w.heap.size)).set rfl 0 _) (by omega),Below.setCell ?_ (by dsimp only;omega) _⟩
 exact (zBA).trans (hb1.mono (by simp))
theorem vM (g:Nat) (v:Value) (x:List UInt8) (K:Nat→Prop) (w:World) (hT:fA w g) (hv:IsB w K v x) (hK:∀ k,K k→k≠g) :
 Calls Tryz.prog 148 #[.agg #[.pointer (some ⟨g,0,none⟩)],v] w fun e w'=>∃ A' c',e=.returned (.tuple #[.slice A' (eS x).1.length c',.int .i64 (eS x).2]) ∧
  w'.ownsRow w.heap.size 5 1 (.slice A' (eS x).1.length c') (eS x).1.length (aE (eS x).1)∧fA w' g∧aA w w' (· = g):=by
 obtain ⟨i0,hi,hz0,hz1,hz2⟩:=ziH Tryz.info5;have hlen:=tA x;have hgl:=hT.lt;unfold eS at hlen ⊢;have hv0:=hv;obtain ⟨A,c,rfl,hlc0⟩:=hv;by_cases he:(mZ x).2=0
 · rw [zig (by omega)] at hlen ⊢
   have hcl:=zgU x;have hfl:(fixL (rR x)).length=4:=rfl;have HF:=zia hfl;clear hfl;have hf1:=aW (fixL (rR x));have happ:aE ((mZ x).1++fixL (rR x))=aE (mZ x).1++aE (fixL (rR x)):=by simp [aE]
   have HAP:=zia happ;clear happ;have hl2:((mZ x).1++fixL (rR x)).length=(mZ x).1.length+4:=by rw [zie,HF.out]
   rw [hl2,HAP.out];rw [hl2] at hlen;have hfx:=fun W=>zcm (rR x) W hcl
   generalize fixL (rR x)=fx at hfx hf1 hl2;generalize hcx:rR x=cx at hfx hcl;generalize hvx:mZ x=vx at he hlen hl2;obtain ⟨vb,ve⟩:=vx;simp only at he hlen hl2 ⊢;subst he;have HV:=zia hvx;have HC:=zia hcx;clear hvx hcx HF hl2;go_enter Tryz.func148,Tryz.ntmps148
   go_wp2_with fail;refine (rP _ x K _ (hv0.alloc _)).mono ?_;rintro e w1 ⟨A1,c1,rfl,own1,hb1⟩;rw [HV.out] at own1 ⊢;simp only [zid] at own1 ⊢;have hB:=(Blk.new w 235 #[.pointer (some ⟨g,0,none⟩)] rfl).step hb1;obtain ⟨r1,r2⟩:=hB.rules;have hs1:=hb1.size;simp only [zid] at hs1;go_wp2_with fail;have hv2:=zb2 (hv0.step ((zBA).trans (hb1.mono (by simp)))) 31
   have hb2:Below w.heap.size w (w1.alloc (.cells #[.slice A x.length c] 31)):=((zBA).trans (hb1.mono (by simp))).alloc (by omega) _
   refine (zgT g _ [x] _ _ (hT.step hb2) hv2 (fun k hk=>by rcases hk with h | h;omega;exact hK k h)).mono ?_
   rintro e w3 ⟨rfl,hT3,hb3⟩;have own3:=aH (own1.alloc (.cells #[.slice A x.length c] 31)) hb3 (by omega)
   have hs3:=hb3.size;simp only [zid] at hs3;rw [List.flatten_singleton,HC.out];have hT5:∀ W,Below w3.heap.size w3 W→fA W g:=fun W h=>hT3.step h
   go_wp2_with fail;refine (hfx _).mono ?_;rintro e w4 ⟨A5,c5,rfl,own5,hb5⟩;have hs5:=hb5.size;have own4:=aD own3 hb5 (zic _);have hr5:=aG.of_own own5;go_wp2_with (at_builtin;refine aF rfl _ _ _ rfl (w.heap.size+1) 5 i0 _ 1 1 Tryz.underlying31 hi hz0 hz1 hz2 rfl (by omega) rfl own4 rfl hr5 hf1 (by simp only [maxLen];omega) (by omega) (by omega) ?_;intro A7 c7 w7 own7 hg7)
   have hg7b:=hg7.below;go_ret2;exact ⟨A7,c7,rfl,aO own7 (by omega),(hT3.step hb5).below hg7b (by omega),(((aA.of hb2).trans hb3).step hb5).later hg7b (by omega)⟩
 · rw [zij he]
   generalize hvx:mZ x=vx at he hlen;obtain ⟨vb,ve⟩:=vx;simp only at he ⊢;have HV:=zia hvx;clear hvx hlen;have he':((ve:Int) != 0)=true:=by simp [he]
   go_enter Tryz.func148,Tryz.ntmps148
   go_wp2_with fail;refine (rP _ x K _ (hv0.alloc _)).mono ?_;rintro e w1 ⟨A1,c1,rfl,own1,hb1⟩;rw [HV.out] at own1 ⊢;simp only at own1 ⊢;have hb2:Below w.heap.size w w1:=(zBA).trans (hb1.mono (by simp))
   go_wp2;go_ret2;exact ⟨none,0,rfl,zin _ _ _ _,hT.step hb2,aA.of hb2⟩
end Go.Proofs.YtcapmeefiglfjaaGreat
namespace Go.Proofs.YtcapmeefiglfjaaGreat
open Go.RowKit Go.WideShapes Go.ChangeShapes Go.Deep
structure Hd where
 host:Int
 epoch:Int
 seq:Int
deriving DecidableEq
structure Rc where
 kind:Int
 lba:Int
 n:Int
 ver:Int
 zone:Int
 off:Int
 data:List UInt8
deriving DecidableEq
def Rp.hd:Rp Hd:=⟨3,fun _ _ cs o=>cs=[.int .i64 o.host,.int .i64 o.epoch,.int .i64 o.seq]∧(-9223372036854775808≤o.host∧o.host≤9223372036854775807)∧(-9223372036854775808≤o.epoch∧o.epoch≤9223372036854775807)∧(-9223372036854775808≤o.seq∧o.seq≤9223372036854775807),
 by rintro _ _ _ _ ⟨rfl,r0,r1,r2⟩;rfl,
 fun h _=>h,
 fun h _=>h,
 by
  rintro _ _ _ _ ⟨rfl,r0,r1,r2⟩ u hu;simp only [zim,ziJ,zju] at hu;rcases hu with rfl | rfl | rfl <;> first | rfl | assumption⟩
def Rp.rc:Rp Rc:=⟨7,fun w K cs o=>∃ v_data,cs=[.int .i64 o.kind,.int .i64 o.lba,.int .i64 o.n,.int .i64 o.ver,.int .i64 o.zone,.int .i64 o.off,v_data]∧IsB w K v_data o.data∧(-9223372036854775808≤o.kind∧o.kind≤9223372036854775807)∧(-9223372036854775808≤o.lba∧o.lba≤9223372036854775807)∧(-9223372036854775808≤o.n∧o.n≤9223372036854775807)∧(-9223372036854775808≤o.ver∧o.ver≤9223372036854775807)∧(-9223372036854775808≤o.zone∧o.zone≤9223372036854775807)∧(-9223372036854775808≤o.off∧o.off≤9223372036854775807),
 by rintro _ _ _ _ ⟨v_data,rfl,h_data,r0,r1,r2,r3,r4,r5⟩;rfl,
 by rintro _ _ _ _ _ ⟨v_data,e,h_data,r0,r1,r2,r3,r4,r5⟩ hk;exact ⟨v_data,e,h_data.keep hk,r0,r1,r2,r3,r4,r5⟩,
 by rintro _ _ _ _ _ ⟨v_data,e,h_data,r0,r1,r2,r3,r4,r5⟩ hk;exact ⟨v_data,e,h_data.more hk,r0,r1,r2,r3,r4,r5⟩,
 by
  rintro _ _ _ _ ⟨v_data,rfl,h_data,r0,r1,r2,r3,r4,r5⟩ u hu;have o_data:=IsB.one h_data;simp only [zim,ziJ,zju] at hu;rcases hu with rfl | rfl | rfl | rfl | rfl | rfl | rfl <;> first | rfl | assumption⟩
end Go.Proofs.YtcapmeefiglfjaaGreat
namespace Go.Proofs.YtcapmeefiglfjaaGreat
def jV (h:Hd):List Int:=[0,h.host,h.epoch,h.seq]
def kE (r:Rc):List Int:=[r.kind,r.lba,r.n,r.ver,r.zone,r.off]
def fQ (h:Hd):List UInt8 × Int:=if (fP (jV h)).2≠0 then ([],(fP (jV h)).2) else eS (fP (jV h)).1
def checkL (r:Rc):Int:=
 if r.kind<1∨5<r.kind then 1
 else if r.lba<0∨r.n<0∨r.ver<0∨r.zone<0∨r.off<0 then 1
 else if ¬(r.kind=3∨r.kind=5)∧(r.zone≠0∨r.off≠0) then 1
 else if r.kind=4 then (if r.lba≠0∨r.n≠0 then 1 else if 32768<r.data.length then 2 else 0)
 else if r.n<1∨1099511627776<r.n∨1099511627776-r.n<r.lba then 1
 else if r.kind=1∨r.kind=5 then (if 256<r.n∨(r.data.length:Int)≠r.n*16 then 1 else 0)
 else if 0<r.data.length then 1 else 0
def recL (r:Rc):List UInt8 × Int:=
 if checkL r≠0 then ([],checkL r)
 else if (fP (kE r)).2≠0 then ([],(fP (kE r)).2)
 else if (mZ r.data).2≠0 then ([],(mZ r.data).2)
 else eS ((fP (kE r)).1++(mZ r.data).1)
def zd5 (x:List UInt8):Hd × Bool:=
 if (cR x 4).2.2≠0 then (⟨0,0,0⟩,false)
 else if (cR x 4).2.1≠x.length∨(cR x 4).1.getD 0 0≠0 then (⟨0,0,0⟩,false)
 else (⟨(cR x 4).1.getD 1 0,(cR x 4).1.getD 2 0,(cR x 4).1.getD 3 0⟩,true)
def r0c:Rc:=⟨0,0,0,0,0,0,[]⟩
def zcx (x:List UInt8):Rc × Bool:=
 if (cR x 6).2.2≠0 then (r0c,false)
 else
  let l:=(cR x 6).1
  let y:=dV (x.drop (cR x 6).2.1.toNat)
  if y.2.2≠0∨(cR x 6).2.1+y.2.1<x.length then (r0c,false)
  else
   let r:Rc:=⟨l.getD 0 0,l.getD 1 0,l.getD 2 0,l.getD 3 0,l.getD 4 0,l.getD 5 0,y.1⟩
   (r,decide (checkL r=0))
structure Fd where
 head:Bool
 h:Hd
 l:List Rc
 at_:List Int
 used:Nat
def f0d:Fd:=⟨false,⟨0,0,0⟩,[],[],0⟩
def zgz (b:List UInt8) (f:Fd):Option Fd:=
 let t:=yN (b.drop f.used)
 if t.2.2=false then none
 else if f.head=false then
  if (zd5 t.1).2=false then none else some ⟨true,(zd5 t.1).1,f.l,f.at_,f.used+t.2.1.toNat⟩
 else if (zcx t.1).2=false then none
 else some ⟨true,f.h,f.l++[(zcx t.1).1],f.at_++[(f.used:Int)],f.used+t.2.1.toNat⟩
def zea (b:List UInt8):Nat→Fd→Fd
 | 0,f=>f
 | n+1,f=>match zgz b f with
   | none=>f
   | some g=>zea b n g
def scanL (b:List UInt8):Fd:=zea b (b.length+1) f0d
theorem zdE {b x:List UInt8} {n:Int} (h:yN b=(x,n,true)):∃ j:Nat,n=j∧5≤j∧j≤b.length∧eS x=(b.take j,0)∧x.length≤65536:=by
 unfold yN at h;split at h
 · simp at h
 · rename_i h0
   obtain ⟨y,hy⟩:∃ y,dV b=y:=⟨_,rfl⟩;obtain ⟨x',n',e'⟩:=y;simp only [hy] at h h0;have he:e'=0:=ziT.1 h0;subst he;obtain ⟨j,rfl,h1,h2,h3,h4⟩:=zC hy;simp only [zj4,zjC,ziM,Int.toNat_natCast] at h;obtain ⟨rfl,rfl,h5,h6⟩:=h;have h7:4≤(b.drop j).length:=by
    rcases zjb (b.drop j).length 4 with h | h
    · rw [xI h] at h5;simp at h5
    · exact h
   obtain ⟨h8,_,_⟩:=zeS h7;rw [ziG] at h7;refine ⟨j+4,by omega,by omega,by omega,?_,h4⟩
   unfold eS;rw [h3];simp only [ne_eq,zk3,zjG,zj4,zks];rw [←h6,h8,List.take_add]
end Go.Proofs.YtcapmeefiglfjaaGreat
namespace Go.Proofs.YtcapmeefiglfjaaGreat
open Go.RowKit
theorem nM {w:World} {l:List Int} {cs:Array Value} {n:Nat} (hI:I63 l) (t:TypeId) (hcs:cs.toList=l.map I64) (hn:l.length=n) (h47:n≤1000) :
 IsL Rp.int (w.alloc (.cells cs t)) (fun b=>b=w.heap.size) (.slice (some ⟨w.heap.size,0,none⟩) n n) l:=by
 subst hn;exact ⟨_,_,l.map I64,rfl,aG.new (n:=l.length) (size:=1) rfl hcs (by have:=zjj List.length hcs;simpa using this),rI hI,zic _,by omega,by omega⟩
def hdV (h:Hd):Value:=.agg #[.int .i64 h.host,.int .i64 h.epoch,.int .i64 h.seq]
def yA (h:Hd):Prop:=(-9223372036854775808≤h.host∧h.host≤9223372036854775807)∧(-9223372036854775808≤h.epoch∧h.epoch≤9223372036854775807)∧(-9223372036854775808≤h.seq∧h.seq≤9223372036854775807)
theorem yA.i63 {h:Hd} (hh:yA h):I63 (jV h):=by
 obtain ⟨h1,h2,h3⟩:=hh;intro n hn;simp only [jV,zim,ziJ,zju] at hn;rcases hn with rfl | rfl | rfl | rfl <;> omega
theorem zf7 (h:Hd) (w:World) (hh:yA h) :
 Calls Tryz.prog 202 #[hdV h] w fun e w'=>∃ A c,e=.returned (.tuple #[.slice A (fQ h).1.length c,.int .i64 (fQ h).2]) ∧
  w'.ownsRow w.heap.size 5 1 (.slice A (fQ h).1.length c) (fQ h).1.length (aE (fQ h).1)∧Below w.heap.size w w':=by
 have hI:=hh.i63;have hcs:(#[.int .i64 0,.int .i64 h.host,.int .i64 h.epoch,.int .i64 h.seq]:Array Value).toList=(jV h).map I64:=rfl;have hcalls:=fun W=>oD _ (jV h) _ _ (nM (w:=W) (n:=4) hI 3 hcs rfl (by omega)) (by show 4≤_;omega)
 have hlen4:(jV h).length=4:=rfl;unfold fQ hdV;obtain ⟨nb,hnb⟩:∃ nb,fP (jV h)=nb:=⟨_,rfl⟩;have hnl:=fZ hI;have hnl2:nb.1.length≤40:=by
  rw [←hnb];unfold fP;split
  · rw [hlen4] at hnl;exact hnl
  · simp
 simp only [hnb] at hcalls ⊢;obtain ⟨nb,ne⟩:=nb;simp only at hcalls hnl2 ⊢;replace hcalls:=hcalls (w.alloc (.cells #[.int .i64 h.host,.int .i64 h.epoch,.int .i64 h.seq] 30));simp only [zid] at hcalls;have HC:=zia hcalls;clear hcalls hcs hnl hlen4;by_cases he:ne=0
 · subst he
   simp only [ne_eq,zk3,zjG];obtain ⟨fr,hfr⟩:∃ fr,eS nb=fr:=⟨_,rfl⟩;rw [hfr];have HF:=zia hfr;clear hfr;go_enter Tryz.func202,Tryz.ntmps202
   go_wp2_with fail;refine HC.out.mono ?_;rintro e w1 ⟨A1,c1,rfl,own1,hb1⟩;have hb2:Below w.heap.size w w1:=((zBA).alloc (by simp) _).trans (hb1.mono (by omega))
   go_wp2_with fail;refine (oF _).mono ?_;rintro e w2 ⟨g,rfl,hg,hT2,hb3⟩;have own2:=aD own1 hb3 (zic _);have hs2:=hb2.size;have hs3:=hb3.size;have hlt:=own1.lt;have hxB:IsB w2 (fun k=>k<w1.heap.size) (.slice A1 nb.length c1) nb:=⟨A1,c1,rfl,(aG.of_own own2).more (fun b hb=>(own1.lt b hb.symm).2),cD own2,bF own2,by omega⟩
   go_wp2_with fail;refine (vM g _ nb _ _ hT2 hxB (fun k hk=>by omega)).mono ?_
   rintro e w3 ⟨A5,c5,rfl,own5,hT5,hb5⟩;rw [HF.out] at own5 ⊢;have hb6:Below w.heap.size w w3:=(hb2.trans (hb3.mono hs2)).trans (hb5.below (fun k hk=>by omega) (by omega))
   go_wp2;go_ret2;exact ⟨A5,c5,rfl,aO own5 (by omega),hb6⟩
 · simp only [ne_eq,he,not_false_eq_true,zkh]
   have he':((ne:Int) != 0)=true:=by simp [he]
   go_enter Tryz.func202,Tryz.ntmps202
   go_wp2_with fail;refine HC.out.mono ?_;rintro e w1 ⟨A1,c1,rfl,own1,hb1⟩;have hb2:Below w.heap.size w w1:=((zBA).alloc (by simp) _).trans (hb1.mono (by omega))
   go_wp2;go_ret2;exact ⟨none,0,rfl,zin _ _ _ _,hb2⟩
def lZ (r:Rc):Prop:=I63 (kE r)
theorem oG {r:Rc} (h:checkL r=0):r.data.length≤32768∧∀ n∈kE r,0≤n:=by
 have h1:r.data.length≤32768:=by
  unfold checkL at h
  (repeat' split at h) <;> first | omega | (exfalso;omega)
 refine ⟨h1,fun n hn=>?_⟩
 have h2:0≤r.kind∧0≤r.lba∧0≤r.n∧0≤r.ver∧0≤r.zone∧0≤r.off:=by
  unfold checkL at h
  (repeat' split at h) <;> first | omega | (exfalso;omega)
 simp only [kE,zim,ziJ,zju] at hn;rcases hn with rfl | rfl | rfl | rfl | rfl | rfl <;> omega
def jB (r:Rc):List UInt8:=flatN (kE r)++(putL r.data.length++r.data)
def frB (x:List UInt8):List UInt8:=putL x.length++x++fixL (rR x)
theorem nZ {x:List UInt8} (h:x.length≤65536):eS x=(frB x,0):=by
 unfold eS mZ frB;rw [zij h];simp
theorem rQ {r:Rc} (hr:lZ r) (h:checkL r=0):(jB r).length≤40000:=by
 have h1:=(oG h).1;have h2:=fZ hr;have h3:(kE r).length=6:=rfl;have h4:=dR (n:=r.data.length) (by omega)
 unfold jB;simp only [zie];omega
theorem mD {r:Rc} (hr:lZ r) (h:checkL r=0):recL r=(frB (jB r),0):=by
 have h1:=oG h;have hn:fP (kE r)=(flatN (kE r),0):=zij h1.2;have hv:mZ r.data=(putL r.data.length++r.data,0):=zij (by omega)
 unfold recL;rw [zig (by simp [h]),hn,hv]
 simp only [ne_eq,zk3,zjG];exact nZ (by have:=rQ hr h;unfold jB at this;omega)
theorem zcH {r:Rc} (h:checkL r≠0):recL r=([],checkL r):=by unfold recL;rw [zij h]
theorem zcZ (x:List UInt8):(frB x).length=(putL x.length).length+x.length+4:=by simp [frB,fixL];omega
theorem zaT (a b:Nat) (ha:a<9223372036854775808) (hb:b<9223372036854775808):bits .or .i64 (a:Int) (b:Int)=((a ||| b:Nat):Int):=by
 have hx:a ||| b<2 ^ 63:=Nat.or_lt_two_pow (by omega) (by omega)
 show IntKind.i64.wrap ((BitVec.ofInt 64 (a:Int) ||| BitVec.ofInt 64 (b:Int)).toNat:Int)=_
 rw [BitVec.toNat_or,ofInt_u64 a (by omega),ofInt_u64 b (by omega),zk8]
 omega
theorem zfz {a b:Int} (ha:0≤a) (ha2:a≤9223372036854775807) (hb:0≤b) (hb2:b≤9223372036854775807):(bits .or .i64 a b != 0)=decide (a≠0∨b≠0):=by
 obtain ⟨A,rfl⟩:=Int.eq_ofNat_of_zero_le ha;obtain ⟨B,rfl⟩:=Int.eq_ofNat_of_zero_le hb;rw [zaT A B (by omega) (by omega)]
 by_cases h:A=0∧B=0
 · obtain ⟨rfl,rfl⟩:=h;rfl
 · have:A ||| B≠0:=fun h'=>h (Nat.or_eq_zero_iff.1 h')
   have h1:(((A ||| B:Nat):Int) != 0)=true:=by simp;exact fun a b=>h ⟨a,b⟩
   rw [h1];symm
   simp;omega
theorem zgP (v:Value) (l:List Int) (K:Nat→Prop) (w:World) (hv:IsL Rp.int w K v l) (hl:1≤l.length) :
 Calls Tryz.prog 156 #[v] w fun e w'=>∃ m:Int,e=.returned (.int .i64 m)∧(m<0↔∃ n∈l,n<0)∧w'=w:=by
 have hv0:=hv;obtain ⟨A,c,rfl,hlc,hcc⟩:=hv.form;have hl47:=hv.len;obtain ⟨ad0,es0,hA,hK0,he0,hc0⟩:=hv0.at_ (i:=0) (x:=l[0]) (zib (by omega))
 obtain ⟨rfl,hr0⟩:=he0;have hcell0:=hc0 0 _ rfl;rw [cW,zjZ,cW] at hcell0;have h1:((l.length:Int)<1)=False:=by simp;omega
 subst hA;go_enter Tryz.func156,Tryz.ntmps156
 go_wp2;go_loopw [3,4] (fun x i wr=>∃ (j:Nat) (m:Int),x=.int .i64 m∧i=.int .i64 j∧1≤j∧j≤l.length∧(m<0↔∃ n∈l.take j,n<0)∧wr=w) (fun _ i _=>l.length-(intOf i).toNat)
 case atStart=>
  refine ⟨1,l[0],rfl,rfl,by omega,by omega,?_,rfl⟩
  have:l.take 1=[l[0]]:=by
   match l,hl with
   | a::r,_=>rfl
  rw [this];simp
 case round=>
  obtain ⟨j,m,rfl,rfl,hj1,hj,hm,rfl⟩:=hrel;have HM:=zia hm;clear hm;by_cases hlt:j<l.length
  · obtain ⟨ad,es,hA,hK1,he1,hc1⟩:=hv0.at_ (i:=j) (x:=l[j]) (zib hlt)
    obtain ⟨rfl,hr1⟩:=he1;injection hA with hA';subst hA';have hcell:=hc1 0 _ rfl;have hsz1:Rp.int.size=1:=rfl;rw [cW,hsz1,zk0] at hcell;have htk:l.take (j+1)=l.take j++[l[j]]:=by rw [zjQ,zib hlt];rfl
    have HTK:=zia htk;clear htk hc1 hc0 hsz1;generalize hy:l[j]=y at *;clear hy;go_wp2;refine ⟨⟨j+1,min m y,rfl,by go_num,by omega,by omega,?_,trivial⟩,by simp [intOf];omega⟩
    rw [HTK.out];have h:=HM.out;have h2:min m y<0↔m<0∨y<0:=by omega
    rw [h2,h];simp only [ziA,ziw,or_and_right,exists_or,exists_eq_left]
  · obtain rfl:j=l.length:=by omega
    go_wp2;go_ret;have:=HM.out;rw [ziQ] at this;exact ⟨m,rfl,this,rfl⟩
def rcV (r:Rc) (vd:Value):Value:=.agg #[.int .i64 r.kind,.int .i64 r.lba,.int .i64 r.n,.int .i64 r.ver,.int .i64 r.zone,.int .i64 r.off,vd]
theorem tV (r:Rc) (A:Option Addr) (c:Nat) (w:World) (hr:lZ r) (hl47:r.data.length≤140737488355328) :
 Calls Tryz.prog 88 #[rcV r (.slice A r.data.length c)] w fun e w'=>e=.returned (.int .i64 (checkL r))∧Below w.heap.size w w':=by
 obtain ⟨kind,lba,n,ver,zone,off,data⟩:=r;have hI:I63 [lba,n,ver,zone,off]:=fun x hx=>hr x (zii _ hx)
 have hk:=hr kind (zih ..);have hb1:=hI lba (by simp)
 have hb2:=hI n (by simp)
 have hb4:=hI zone (by simp)
 have hb5:=hI off (by simp)
 clear hr;unfold rcV;simp only at hl47 ⊢;have hmin:∀ W:World,Calls Tryz.prog 156 #[.slice (some ⟨W.heap.size,0,none⟩) 5 5] (W.alloc (.cells #[.int .i64 lba,.int .i64 n,.int .i64 ver,.int .i64 zone,.int .i64 off] 3)) fun e w'=>∃ m:Int,e=.returned (.int .i64 m)∧(m<0↔(lba<0∨n<0∨ver<0∨zone<0∨off<0))∧w'=W.alloc (.cells #[.int .i64 lba,.int .i64 n,.int .i64 ver,.int .i64 zone,.int .i64 off] 3):=fun W=>
  (zgP _ _ _ _ (nM (w:=W) (n:=5) hI 3 rfl rfl (by omega)) (by simp)).mono fun e w' ⟨m,h1,h2,h3⟩=>⟨m,h1,by rw [h2];simp,h3⟩
 replace hmin:=hmin (w.alloc (.cells #[.int .i64 kind,.int .i64 lba,.int .i64 n,.int .i64 ver,.int .i64 zone,.int .i64 off,.slice A data.length c] 117));simp only [zid] at hmin;have hmin':=fun (_:Unit)=>hmin
 have HMIN:=zia hmin';clear hmin hmin' hI;have hbl:Below w.heap.size w ((w.alloc (.cells #[.int .i64 kind,.int .i64 lba,.int .i64 n,.int .i64 ver,.int .i64 zone,.int .i64 off,.slice A data.length c] 117)).alloc (.cells #[.int .i64 lba,.int .i64 n,.int .i64 ver,.int .i64 zone,.int .i64 off] 3)):=(zBA).alloc (by simp) _
 by_cases h1:kind<1∨5<kind
 · have e1:(kind == 1)=false:=by simp;omega
   have e2:(kind == 2)=false:=by simp;omega
   have e3:(kind == 3)=false:=by simp;omega
   have e4:(kind == 4)=false:=by simp;omega
   have e5:(kind == 5)=false:=by simp;omega
   have hcv:checkL ⟨kind,lba,n,ver,zone,off,data⟩=1:=by unfold checkL;dsimp only;rw [zij h1]
   rw [hcv];clear hcv;go_enter Tryz.func88,Tryz.ntmps88
   go_wp2;go_ret;exact ⟨rfl,hbl⟩
 have hkk:kind=1∨kind=2∨kind=3∨kind=4∨kind=5:=by omega
 clear h1 hk;by_cases hneg:lba<0∨n<0∨ver<0∨zone<0∨off<0
 · rcases hkk with rfl | rfl | rfl | rfl | rfl
   · have hcv:checkL ⟨1,lba,n,ver,zone,off,data⟩=1:=by unfold checkL;dsimp only;(repeat' split) <;> first | rfl | (exfalso;omega)
     rw [hcv];clear hcv;go_enter Tryz.func88,Tryz.ntmps88
     go_wp2_with (go_at_call 156;refine (HMIN.out ()).mono ?_;rintro e w1 ⟨m,rfl,hm,rfl⟩;have hm1:m<0:=hm.2 hneg;clear hm);go_ret;exact ⟨rfl,hbl⟩
   · have hcv:checkL ⟨2,lba,n,ver,zone,off,data⟩=1:=by unfold checkL;dsimp only;(repeat' split) <;> first | rfl | (exfalso;omega)
     rw [hcv];clear hcv;go_enter Tryz.func88,Tryz.ntmps88
     go_wp2_with (go_at_call 156;refine (HMIN.out ()).mono ?_;rintro e w1 ⟨m,rfl,hm,rfl⟩;have hm1:m<0:=hm.2 hneg;clear hm);go_ret;exact ⟨rfl,hbl⟩
   · have hcv:checkL ⟨3,lba,n,ver,zone,off,data⟩=1:=by unfold checkL;dsimp only;(repeat' split) <;> first | rfl | (exfalso;omega)
     rw [hcv];clear hcv;go_enter Tryz.func88,Tryz.ntmps88
     go_wp2_with (go_at_call 156;refine (HMIN.out ()).mono ?_;rintro e w1 ⟨m,rfl,hm,rfl⟩;have hm1:m<0:=hm.2 hneg;clear hm);go_ret;exact ⟨rfl,hbl⟩
   · have hcv:checkL ⟨4,lba,n,ver,zone,off,data⟩=1:=by unfold checkL;dsimp only;(repeat' split) <;> first | rfl | (exfalso;omega)
     rw [hcv];clear hcv;go_enter Tryz.func88,Tryz.ntmps88
     go_wp2_with (go_at_call 156;refine (HMIN.out ()).mono ?_;rintro e w1 ⟨m,rfl,hm,rfl⟩;have hm1:m<0:=hm.2 hneg;clear hm);go_ret;exact ⟨rfl,hbl⟩
   · have hcv:checkL ⟨5,lba,n,ver,zone,off,data⟩=1:=by unfold checkL;dsimp only;(repeat' split) <;> first | rfl | (exfalso;omega)
     rw [hcv];clear hcv;go_enter Tryz.func88,Tryz.ntmps88
     go_wp2_with (go_at_call 156;refine (HMIN.out ()).mono ?_;rintro e w1 ⟨m,rfl,hm,rfl⟩;have hm1:m<0:=hm.2 hneg;clear hm);go_ret;exact ⟨rfl,hbl⟩
 have hz0:0≤zone:=by omega
 have ho0:0≤off:=by omega
 have hl0:0≤lba:=by omega
 have hn0:0≤n:=by omega
 have hor:=zfz hz0 hb4.2 ho0 hb5.2;have hor2:=zfz hl0 hb1.2 hn0 hb2.2;rcases hkk with rfl | rfl | rfl | rfl | rfl
 · by_cases hzo:zone≠0∨off≠0
   · rw [ziu hzo] at hor
     have hcv:checkL ⟨1,lba,n,ver,zone,off,data⟩=1:=by unfold checkL;dsimp only;(repeat' split) <;> first | rfl | (exfalso;omega)
     rw [hcv];clear hcv;go_enter Tryz.func88,Tryz.ntmps88
     go_wp2_with (go_at_call 156;refine (HMIN.out ()).mono ?_;rintro e w1 ⟨m,rfl,hm,rfl⟩;have hm1:¬m<0:=fun h=>hneg (hm.1 h);clear hm)
     go_ret;exact ⟨rfl,hbl⟩
   rw [ziv hzo] at hor;by_cases hn1:n<1
   · have hcv:checkL ⟨1,lba,n,ver,zone,off,data⟩=1:=by unfold checkL;dsimp only;(repeat' split) <;> first | rfl | (exfalso;omega)
     rw [hcv];clear hcv;go_enter Tryz.func88,Tryz.ntmps88
     go_wp2_with (go_at_call 156;refine (HMIN.out ()).mono ?_;rintro e w1 ⟨m,rfl,hm,rfl⟩;have hm1:¬m<0:=fun h=>hneg (hm.1 h);clear hm)
     go_ret;exact ⟨rfl,hbl⟩
   by_cases hn2:1099511627776<n
   · have hcv:checkL ⟨1,lba,n,ver,zone,off,data⟩=1:=by unfold checkL;dsimp only;(repeat' split) <;> first | rfl | (exfalso;omega)
     rw [hcv];clear hcv;go_enter Tryz.func88,Tryz.ntmps88
     go_wp2_with (go_at_call 156;refine (HMIN.out ()).mono ?_;rintro e w1 ⟨m,rfl,hm,rfl⟩;have hm1:¬m<0:=fun h=>hneg (hm.1 h);clear hm)
     go_ret;exact ⟨rfl,hbl⟩
   by_cases hn3:1099511627776-n<lba
   · have hcv:checkL ⟨1,lba,n,ver,zone,off,data⟩=1:=by unfold checkL;dsimp only;(repeat' split) <;> first | rfl | (exfalso;omega)
     rw [hcv];clear hcv;go_enter Tryz.func88,Tryz.ntmps88
     go_wp2_with (go_at_call 156;refine (HMIN.out ()).mono ?_;rintro e w1 ⟨m,rfl,hm,rfl⟩;have hm1:¬m<0:=fun h=>hneg (hm.1 h);clear hm)
     go_ret;exact ⟨rfl,hbl⟩
   by_cases hn4:256<n
   · have hcv:checkL ⟨1,lba,n,ver,zone,off,data⟩=1:=by unfold checkL;dsimp only;(repeat' split) <;> first | rfl | (exfalso;omega)
     rw [hcv];clear hcv;go_enter Tryz.func88,Tryz.ntmps88
     go_wp2_with (go_at_call 156;refine (HMIN.out ()).mono ?_;rintro e w1 ⟨m,rfl,hm,rfl⟩;have hm1:¬m<0:=fun h=>hneg (hm.1 h);clear hm)
     go_ret;exact ⟨rfl,hbl⟩
   by_cases hd:(data.length:Int)≠n*16
   · have hd':((data.length:Int) != n*16)=true:=by simpa using hd
     have hcv:checkL ⟨1,lba,n,ver,zone,off,data⟩=1:=by unfold checkL;dsimp only;(repeat' split) <;> first | rfl | (exfalso;omega)
     rw [hcv];clear hcv;go_enter Tryz.func88,Tryz.ntmps88
     go_wp2_with (go_at_call 156;refine (HMIN.out ()).mono ?_;rintro e w1 ⟨m,rfl,hm,rfl⟩;have hm1:¬m<0:=fun h=>hneg (hm.1 h);clear hm)
     go_ret;exact ⟨rfl,hbl⟩
   have hd':((data.length:Int) != n*16)=false:=by simpa using hd
   have hcv:checkL ⟨1,lba,n,ver,zone,off,data⟩=0:=by unfold checkL;dsimp only;(repeat' split) <;> first | rfl | (exfalso;omega)
   rw [hcv];clear hcv;go_enter Tryz.func88,Tryz.ntmps88
   go_wp2_with (go_at_call 156;refine (HMIN.out ()).mono ?_;rintro e w1 ⟨m,rfl,hm,rfl⟩;have hm1:¬m<0:=fun h=>hneg (hm.1 h);clear hm)
   go_ret;exact ⟨rfl,hbl⟩
 · by_cases hzo:zone≠0∨off≠0
   · rw [ziu hzo] at hor
     have hcv:checkL ⟨2,lba,n,ver,zone,off,data⟩=1:=by unfold checkL;dsimp only;(repeat' split) <;> first | rfl | (exfalso;omega)
     rw [hcv];clear hcv;go_enter Tryz.func88,Tryz.ntmps88
     go_wp2_with (go_at_call 156;refine (HMIN.out ()).mono ?_;rintro e w1 ⟨m,rfl,hm,rfl⟩;have hm1:¬m<0:=fun h=>hneg (hm.1 h);clear hm)
     go_ret;exact ⟨rfl,hbl⟩
   rw [ziv hzo] at hor;by_cases hn1:n<1
   · have hcv:checkL ⟨2,lba,n,ver,zone,off,data⟩=1:=by unfold checkL;dsimp only;(repeat' split) <;> first | rfl | (exfalso;omega)
     rw [hcv];clear hcv;go_enter Tryz.func88,Tryz.ntmps88
     go_wp2_with (go_at_call 156;refine (HMIN.out ()).mono ?_;rintro e w1 ⟨m,rfl,hm,rfl⟩;have hm1:¬m<0:=fun h=>hneg (hm.1 h);clear hm)
     go_ret;exact ⟨rfl,hbl⟩
   by_cases hn2:1099511627776<n
   · have hcv:checkL ⟨2,lba,n,ver,zone,off,data⟩=1:=by unfold checkL;dsimp only;(repeat' split) <;> first | rfl | (exfalso;omega)
     rw [hcv];clear hcv;go_enter Tryz.func88,Tryz.ntmps88
     go_wp2_with (go_at_call 156;refine (HMIN.out ()).mono ?_;rintro e w1 ⟨m,rfl,hm,rfl⟩;have hm1:¬m<0:=fun h=>hneg (hm.1 h);clear hm)
     go_ret;exact ⟨rfl,hbl⟩
   by_cases hn3:1099511627776-n<lba
   · have hcv:checkL ⟨2,lba,n,ver,zone,off,data⟩=1:=by unfold checkL;dsimp only;(repeat' split) <;> first | rfl | (exfalso;omega)
     rw [hcv];clear hcv;go_enter Tryz.func88,Tryz.ntmps88
     go_wp2_with (go_at_call 156;refine (HMIN.out ()).mono ?_;rintro e w1 ⟨m,rfl,hm,rfl⟩;have hm1:¬m<0:=fun h=>hneg (hm.1 h);clear hm)
     go_ret;exact ⟨rfl,hbl⟩
   by_cases hd:0<(data.length:Int)
   · have hcv:checkL ⟨2,lba,n,ver,zone,off,data⟩=1:=by unfold checkL;dsimp only;(repeat' split) <;> first | rfl | (exfalso;omega)
     rw [hcv];clear hcv;go_enter Tryz.func88,Tryz.ntmps88
     go_wp2_with (go_at_call 156;refine (HMIN.out ()).mono ?_;rintro e w1 ⟨m,rfl,hm,rfl⟩;have hm1:¬m<0:=fun h=>hneg (hm.1 h);clear hm)
     go_ret;exact ⟨rfl,hbl⟩
   have hcv:checkL ⟨2,lba,n,ver,zone,off,data⟩=0:=by unfold checkL;dsimp only;(repeat' split) <;> first | rfl | (exfalso;omega)
   rw [hcv];clear hcv;go_enter Tryz.func88,Tryz.ntmps88
   go_wp2_with (go_at_call 156;refine (HMIN.out ()).mono ?_;rintro e w1 ⟨m,rfl,hm,rfl⟩;have hm1:¬m<0:=fun h=>hneg (hm.1 h);clear hm)
   go_ret;exact ⟨rfl,hbl⟩
 · by_cases hn1:n<1
   · have hcv:checkL ⟨3,lba,n,ver,zone,off,data⟩=1:=by unfold checkL;dsimp only;(repeat' split) <;> first | rfl | (exfalso;omega)
     rw [hcv];clear hcv;go_enter Tryz.func88,Tryz.ntmps88
     go_wp2_with (go_at_call 156;refine (HMIN.out ()).mono ?_;rintro e w1 ⟨m,rfl,hm,rfl⟩;have hm1:¬m<0:=fun h=>hneg (hm.1 h);clear hm)
     go_ret;exact ⟨rfl,hbl⟩
   by_cases hn2:1099511627776<n
   · have hcv:checkL ⟨3,lba,n,ver,zone,off,data⟩=1:=by unfold checkL;dsimp only;(repeat' split) <;> first | rfl | (exfalso;omega)
     rw [hcv];clear hcv;go_enter Tryz.func88,Tryz.ntmps88
     go_wp2_with (go_at_call 156;refine (HMIN.out ()).mono ?_;rintro e w1 ⟨m,rfl,hm,rfl⟩;have hm1:¬m<0:=fun h=>hneg (hm.1 h);clear hm)
     go_ret;exact ⟨rfl,hbl⟩
   by_cases hn3:1099511627776-n<lba
   · have hcv:checkL ⟨3,lba,n,ver,zone,off,data⟩=1:=by unfold checkL;dsimp only;(repeat' split) <;> first | rfl | (exfalso;omega)
     rw [hcv];clear hcv;go_enter Tryz.func88,Tryz.ntmps88
     go_wp2_with (go_at_call 156;refine (HMIN.out ()).mono ?_;rintro e w1 ⟨m,rfl,hm,rfl⟩;have hm1:¬m<0:=fun h=>hneg (hm.1 h);clear hm)
     go_ret;exact ⟨rfl,hbl⟩
   by_cases hd:0<(data.length:Int)
   · have hcv:checkL ⟨3,lba,n,ver,zone,off,data⟩=1:=by unfold checkL;dsimp only;(repeat' split) <;> first | rfl | (exfalso;omega)
     rw [hcv];clear hcv;go_enter Tryz.func88,Tryz.ntmps88
     go_wp2_with (go_at_call 156;refine (HMIN.out ()).mono ?_;rintro e w1 ⟨m,rfl,hm,rfl⟩;have hm1:¬m<0:=fun h=>hneg (hm.1 h);clear hm)
     go_ret;exact ⟨rfl,hbl⟩
   have hcv:checkL ⟨3,lba,n,ver,zone,off,data⟩=0:=by unfold checkL;dsimp only;(repeat' split) <;> first | rfl | (exfalso;omega)
   rw [hcv];clear hcv;go_enter Tryz.func88,Tryz.ntmps88
   go_wp2_with (go_at_call 156;refine (HMIN.out ()).mono ?_;rintro e w1 ⟨m,rfl,hm,rfl⟩;have hm1:¬m<0:=fun h=>hneg (hm.1 h);clear hm)
   go_ret;exact ⟨rfl,hbl⟩
 · by_cases hzo:zone≠0∨off≠0
   · rw [ziu hzo] at hor
     have hcv:checkL ⟨4,lba,n,ver,zone,off,data⟩=1:=by unfold checkL;dsimp only;(repeat' split) <;> first | rfl | (exfalso;omega)
     rw [hcv];clear hcv;go_enter Tryz.func88,Tryz.ntmps88
     go_wp2_with (go_at_call 156;refine (HMIN.out ()).mono ?_;rintro e w1 ⟨m,rfl,hm,rfl⟩;have hm1:¬m<0:=fun h=>hneg (hm.1 h);clear hm)
     go_ret;exact ⟨rfl,hbl⟩
   rw [ziv hzo] at hor;by_cases hln:lba≠0∨n≠0
   · rw [ziu hln] at hor2
     have hcv:checkL ⟨4,lba,n,ver,zone,off,data⟩=1:=by unfold checkL;dsimp only;(repeat' split) <;> first | rfl | (exfalso;omega)
     rw [hcv];clear hcv;go_enter Tryz.func88,Tryz.ntmps88
     go_wp2_with (go_at_call 156;refine (HMIN.out ()).mono ?_;rintro e w1 ⟨m,rfl,hm,rfl⟩;have hm1:¬m<0:=fun h=>hneg (hm.1 h);clear hm)
     go_ret;exact ⟨rfl,hbl⟩
   rw [ziv hln] at hor2;by_cases hd:32768<(data.length:Int)
   · have hcv:checkL ⟨4,lba,n,ver,zone,off,data⟩=2:=by unfold checkL;dsimp only;(repeat' split) <;> first | rfl | (exfalso;omega)
     rw [hcv];clear hcv;go_enter Tryz.func88,Tryz.ntmps88
     go_wp2_with (go_at_call 156;refine (HMIN.out ()).mono ?_;rintro e w1 ⟨m,rfl,hm,rfl⟩;have hm1:¬m<0:=fun h=>hneg (hm.1 h);clear hm)
     go_ret;exact ⟨rfl,hbl⟩
   have hcv:checkL ⟨4,lba,n,ver,zone,off,data⟩=0:=by unfold checkL;dsimp only;(repeat' split) <;> first | rfl | (exfalso;omega)
   rw [hcv];clear hcv;go_enter Tryz.func88,Tryz.ntmps88
   go_wp2_with (go_at_call 156;refine (HMIN.out ()).mono ?_;rintro e w1 ⟨m,rfl,hm,rfl⟩;have hm1:¬m<0:=fun h=>hneg (hm.1 h);clear hm)
   go_ret;exact ⟨rfl,hbl⟩
 · by_cases hn1:n<1
   · have hcv:checkL ⟨5,lba,n,ver,zone,off,data⟩=1:=by unfold checkL;dsimp only;(repeat' split) <;> first | rfl | (exfalso;omega)
     rw [hcv];clear hcv;go_enter Tryz.func88,Tryz.ntmps88
     go_wp2_with (go_at_call 156;refine (HMIN.out ()).mono ?_;rintro e w1 ⟨m,rfl,hm,rfl⟩;have hm1:¬m<0:=fun h=>hneg (hm.1 h);clear hm)
     go_ret;exact ⟨rfl,hbl⟩
   by_cases hn2:1099511627776<n
   · have hcv:checkL ⟨5,lba,n,ver,zone,off,data⟩=1:=by unfold checkL;dsimp only;(repeat' split) <;> first | rfl | (exfalso;omega)
     rw [hcv];clear hcv;go_enter Tryz.func88,Tryz.ntmps88
     go_wp2_with (go_at_call 156;refine (HMIN.out ()).mono ?_;rintro e w1 ⟨m,rfl,hm,rfl⟩;have hm1:¬m<0:=fun h=>hneg (hm.1 h);clear hm)
     go_ret;exact ⟨rfl,hbl⟩
   by_cases hn3:1099511627776-n<lba
   · have hcv:checkL ⟨5,lba,n,ver,zone,off,data⟩=1:=by unfold checkL;dsimp only;(repeat' split) <;> first | rfl | (exfalso;omega)
     rw [hcv];clear hcv;go_enter Tryz.func88,Tryz.ntmps88
     go_wp2_with (go_at_call 156;refine (HMIN.out ()).mono ?_;rintro e w1 ⟨m,rfl,hm,rfl⟩;have hm1:¬m<0:=fun h=>hneg (hm.1 h);clear hm)
     go_ret;exact ⟨rfl,hbl⟩
   by_cases hn4:256<n
   · have hcv:checkL ⟨5,lba,n,ver,zone,off,data⟩=1:=by unfold checkL;dsimp only;(repeat' split) <;> first | rfl | (exfalso;omega)
     rw [hcv];clear hcv;go_enter Tryz.func88,Tryz.ntmps88
     go_wp2_with (go_at_call 156;refine (HMIN.out ()).mono ?_;rintro e w1 ⟨m,rfl,hm,rfl⟩;have hm1:¬m<0:=fun h=>hneg (hm.1 h);clear hm)
     go_ret;exact ⟨rfl,hbl⟩
   by_cases hd:(data.length:Int)≠n*16
   · have hd':((data.length:Int) != n*16)=true:=by simpa using hd
     have hcv:checkL ⟨5,lba,n,ver,zone,off,data⟩=1:=by unfold checkL;dsimp only;(repeat' split) <;> first | rfl | (exfalso;omega)
     rw [hcv];clear hcv;go_enter Tryz.func88,Tryz.ntmps88
     go_wp2_with (go_at_call 156;refine (HMIN.out ()).mono ?_;rintro e w1 ⟨m,rfl,hm,rfl⟩;have hm1:¬m<0:=fun h=>hneg (hm.1 h);clear hm)
     go_ret;exact ⟨rfl,hbl⟩
   have hd':((data.length:Int) != n*16)=false:=by simpa using hd
   have hcv:checkL ⟨5,lba,n,ver,zone,off,data⟩=0:=by unfold checkL;dsimp only;(repeat' split) <;> first | rfl | (exfalso;omega)
   rw [hcv];clear hcv;go_enter Tryz.func88,Tryz.ntmps88
   go_wp2_with (go_at_call 156;refine (HMIN.out ()).mono ?_;rintro e w1 ⟨m,rfl,hm,rfl⟩;have hm1:¬m<0:=fun h=>hneg (hm.1 h);clear hm)
   go_ret;exact ⟨rfl,hbl⟩
