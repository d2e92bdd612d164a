/- A part of the proof. -/
import Derived.RangeFuncNested
import Derived.RangeFuncBound
import Derived.Shelf.RegionOpen
import Derived.Test.YtcapmeefiglfjaaGreatWriteM
set_option maxHeartbeats 4000000
set_option maxRecDepth 100000
namespace Go.Proofs.YtcapmeefiglfjaaGreat
open Go.RowKit Go.Shelf
attribute [local go_sem] Oper.semAt_some
def KpS (gm:Nat) (A B:World):Prop:=A.heap.size≤B.heap.size∧∀ (p:Addr) (v:Value),p.block≠gm→A.cell? p=some v→B.cell? p=some v
theorem KpS.refl (gm:Nat) (A:World):KpS gm A A:=⟨zic _,fun _ _ _ h=>h⟩
theorem KpS.trans {gm:Nat} {A B C:World} (h:KpS gm A B) (k:KpS gm B C):KpS gm A C:=⟨zit h.1 k.1,fun p v hp hv=>k.2 p v hp (h.2 p v hp hv)⟩
theorem KpS.of {gm:Nat} {A B:World} (h:Below A.heap.size A B):KpS gm A B:=⟨h.size,fun p _ _ hv=>(h.cell (ziB A p hv)).trans hv⟩
theorem KpS.alloc {gm:Nat} {A B:World} (h:KpS gm A B) (o:Obj):KpS gm A (B.alloc o):=h.trans (KpS.of (zBA))
theorem KpS.set {gm:Nat} {A B:World} (h:KpS gm A B) (i:Nat) (u:Value):KpS gm A (B.setCell ⟨gm,i,none⟩ u):=
 h.trans ⟨by simp,fun p v hp hv=>by rw [zjH _ _ _ _ (fun e=>hp (by rw [←e]))];exact hv⟩
theorem KpS.put {gm:Nat} (W:World) (l:Nat) (o o':Obj) (hl:W.heap[l]?=some o) (ho:o.isCells=false):KpS gm W (W.putObj l o'):=by
 refine ⟨by simp,fun p v _ hv=>?_⟩
 have hne:p.block≠l:=by
  intro e;have:W.cell? p=none:=by
   unfold World.cell?;rw [e,hl];cases o <;> first | rfl | cases ho
  rw [this] at hv;cases hv
 rw [zjg (World.putObj_heap_other hne)];exact hv
theorem aG.keepS {w w':World} {K:Nat→Prop} {size n g:Nat} {A:Option Addr} {xs:List Value} (h:aG w K size A n xs) (hk:KpS g w w') (hK:∀ b,K b→b≠g):aG w' K size A n xs:=
 ⟨h.1,fun hn=>by
  obtain ⟨ad,e,hb,hc⟩:=h.2 hn;exact ⟨ad,e,hb,fun j u hu=>hk.2 _ _ (by rw [bR];exact hK _ hb) (hc j u hu)⟩⟩
theorem IsB.keepS {w w':World} {K:Nat→Prop} {g:Nat} {v:Value} {l:List UInt8} (h:IsB w K v l) (hk:KpS g w w') (hK:∀ b,K b→b≠g):IsB w' K v l:=by
 obtain ⟨A,c,e,hr,h1⟩:=h;exact ⟨A,c,e,hr.keepS hk hK,h1⟩
theorem aI.keepG {α:Type} {R:Rp α} {w w':World} {K:Nat→Prop} (hR:∀ cs x,R.is w K cs x→R.is w' K cs x):∀ {cs:List Value} {l:List α},aI R w K cs l→aI R w' K cs l
 | _,[],h=>h
 | _,_::_,⟨a,b,e,h1,h2⟩=>⟨a,b,e,hR a _ h1,aI.keepG hR h2⟩
theorem IsL.keepG {α:Type} {R:Rp α} {w w':World} {K:Nat→Prop} {g:Nat} {v:Value} {l:List α} (hR:∀ cs x,R.is w K cs x→R.is w' K cs x) (h:IsL R w K v l) (hk:KpS g w w') (hK:∀ b,K b→b≠g):IsL R w' K v l:=by
 obtain ⟨A,c,cs,e,h1,h2,h3⟩:=h;exact ⟨A,c,cs,e,h1.keepS hk hK,h2.keepG hR,h3⟩
theorem IsL.keepC {w w':World} {K:Nat→Prop} {g:Nat} {v:Value} {l:List Rc} (h:IsL Rp.rc w K v l) (hk:KpS g w w') (hK:∀ b,K b→b≠g):IsL Rp.rc w' K v l:=
 h.keepG (fun _ _ hx=>by obtain ⟨vd,e,hB,r⟩:=hx;exact ⟨vd,e,hB.keepS hk hK,r⟩) hk hK
theorem IsL.keepI {w w':World} {K:Nat→Prop} {g:Nat} {v:Value} {l:List Int} (h:IsL Rp.int w K v l) (hk:KpS g w w') (hK:∀ b,K b→b≠g):IsL Rp.int w' K v l:=
 IsL.keepG (R:=Rp.int) (w:=w) (w':=w') (fun _ _ hx=>hx) h hk hK
theorem IsL.keepF {w w':World} {K:Nat→Prop} {g:Nat} {v:Value} {l:List Fd} (h:IsL Rp.fd w K v l) (hk:KpS g w w') (hK:∀ b,K b→b≠g):IsL Rp.fd w' K v l:=
 h.keepG (fun _ _ hx=>by obtain ⟨vl,va,e,h1,h2⟩:=hx;exact ⟨vl,va,e,h1.keepC hk hK,h2.keepI hk hK⟩) hk hK
theorem lO {w:World} {K:Nat→Prop}:∀ {cs:List Value} {l:List Int},aI Rp.int w K cs l→cs=l.map I64
 | _,[],h=>h
 | _,a::l,⟨c1,c2,e,h1,h2⟩=>by
   obtain ⟨h3,_⟩:=h1;rw [e,h3,lO h2];rfl
theorem IsL.readsI {w:World} {K:Nat→Prop} {A:Option Addr} {n c:Nat} {l:List Int} (h:IsL Rp.int w K (.slice A n c) l):aG w K 1 A n (l.map I64):=by
 obtain ⟨A',c',cs,e,h1,h2,_⟩:=h;injection e with e1 e2 e3;subst e1;subst e2;rw [←lO h2];exact h1
def zh1 (zl:List Int) (i:Nat):Bool:=decide (zl=[]) || decide ((i:Int)∈zl)
def dL (fs:List Fd) (zl:List Int) (i:Nat):List (Rc × Int × Int):=(List.range i).flatMap fun k=>if zh1 zl k then pK k (fs.getD k f0d) else []
theorem qE (fs:List Fd) (zl:List Int) (i:Nat):dL fs zl (i+1)=dL fs zl i++(if zh1 zl i then pK i (fs.getD i f0d) else []):=by
 unfold dL;rw [zjU,ziS];simp
theorem tT {fs:List Fd} {zl:List Int} {i n:Nat} (h:i≤n):(dL fs zl i).length≤(dL fs zl n).length:=by
 induction n with
 | zero=>
   have h0:i=0:=by omega
   rw [h0];exact zic _
 | succ n ih=>
   by_cases hi:i=n+1
   · subst hi;exact zic _
   · have:=ih (by omega)
     rw [qE,zie];omega
theorem qJ {f:Fd} {i k:Nat} (hl:k<f.l.length) (ha:k<f.at_.length):(pK i f).take (k+1)=(pK i f).take k++[(f.l[k],(i:Int),f.at_[k]+sO f.l[k])]:=by
 refine gG (r:=(f.l[k],(i:Int),f.at_[k]+sO f.l[k])) _ ?_;unfold pK;rw [List.getElem?_zipWith,zib hl,zib ha]
theorem lN {f:Fd} {i:Nat} (h:f.at_.length=f.l.length):(pK i f).length=f.l.length:=by
 unfold pK;rw [List.length_zipWith,h,Nat.min_self]
theorem vZ {fs:List Fd} {zl:List Int} {x:Rc × Int × Int} {i n:Nat} (h:x∈dL fs zl i) (hin:i≤n):x∈dL fs zl n:=by
 unfold dL at h ⊢;obtain ⟨k,hk,hx⟩:=zkB.1 h;exact zkB.2 ⟨k,zjO.2 (by have:=zjO.1 hk;omega),hx⟩
abbrev PlX:={ x:(Rc × Int × Int) × (Option Addr × Nat) // kF 10000 x.1 }
def PlX.e (x:PlX):Rc × Int × Int:=x.1.1
def plV (x:PlX):Value:=.agg #[.int .i64 x.1.1.1.kind,.int .i64 x.1.1.1.lba,.int .i64 x.1.1.1.n,.int .i64 x.1.1.1.ver,.int .i64 x.1.1.1.zone,.int .i64 x.1.1.1.off,.slice x.1.2.1 x.1.1.1.data.length x.1.2.2,.int .i64 x.1.1.2.1,.int .i64 x.1.1.2.2]
theorem zbd (n gm:Nat) (hn:1≤n) (d:Zd) (A:Option Addr) (c:Nat) (zl:List Int) (Az:Option Addr) (cz:Nat) (K Kz:Nat→Prop) (Bd Bz l:Nat) (hd:okD d) (hS:∀ z∈d.z,vS z.d)
 (hgood:∀ x∈dL (bA d.z) zl d.z.length,kF 10000 x) (hat:∀ f∈bA d.z,f.at_.length=f.l.length∧f.l.length≤1000000000) (J Jx:List PlX→World→Prop) (W:World) (hJ:AbidesFrom W.heap.size J)
 (hY:∀ pre x W1,J pre W1→pre.length<(dL (bA d.z) zl d.z.length).length→YieldAt Fence.wide (n-1) Tryz.prog l #[plV x] W1 fun e W'=>
  (e=.returned (.bool true)∧J (pre++[x]) W'∧KpS gm W1 W')∨(e=.returned (.bool false)∧Jx (pre++[x]) W'))
 (hv:IsL Rp.zone W K (.slice A d.z.length c) d.z) (hz:IsL Rp.int W Kz (.slice Az zl.length cz) zl) (hKz:∀ b,Kz b→b≠gm) (hgm:gm<W.heap.size)
 (hBd:∀ o,W.cell? ⟨Bd,o,none⟩=(#[.int .i64 d.cap,.int .i64 d.opn,.int .i64 d.act,.slice A d.z.length c]:Array Value)[o]?) (hBz:W.cell? ⟨Bz,0,none⟩=some (.slice Az zl.length cz)) (hBzg:Bz≠gm) (h0:J [] W) :
 CallsIn Fence.wide n Tryz.prog 166 #[.func (.yield l) #[] #[],.pointer (some ⟨Bd,0,none⟩),.pointer (some ⟨Bz,0,none⟩)] W fun e W'=>(∃ v,e=.returned v) ∧
  ((∃ ys,ys.map PlX.e=dL (bA d.z) zl d.z.length∧J ys W')∨(∃ pre,True∧Jx pre W')):=by
 have hmx:Tryz.prog.follows .mixedOrders=true:=by kernel_rfl
 have hJb:∀ {s:List PlX} {X Y:World},J s X→Below X.heap.size X Y→J s Y:=fun hs hb=>hJ _ _ _ none hs ⟨hb.os,hb.tape,hb.output,hb.size,fun k hk _=>hb.block k hk⟩ (fun r e=>by cases e)
 have hfo:=fun W h=>xX d A c K W h hd hS
 have hfl:(bA d.z).length=d.z.length:=by unfold bA;rw [zjr]
 have hn64:=hd.1.2.1;obtain ⟨N,hN⟩:∃ N,d.z.length=N:=⟨_,rfl⟩;obtain ⟨fs,hfs⟩:∃ fs,bA d.z=fs:=⟨_,rfl⟩;rw [hfs] at hfl hfo hat hgood hY ⊢;rw [hN] at hv hfo hfl hn64 hBd hgood hY ⊢;obtain ⟨zn,hzn⟩:∃ zn,zl.length=zn:=⟨_,rfl⟩;rw [hzn] at hz hBz;have hzn2:=hz.len;rw [hzn] at hzn2;have HZN:=zia hzn;have HFL:=zia hfl;have HAT:=zia hat;have HG:=zia hgood;clear hzn hfl hat hgood hd hfs hN;refine callsIn_of_wp Tryz.func166 rfl trivial ?_ rfl;simp only [Tryz.ntmps166,ziO,List.length_cons,List.length_nil,Nat.reduceAdd,Nat.reduceSub,Array.replicate_succ,Array.replicate_zero,List.push_toArray,List.append_toArray,List.nil_append,List.cons_append];gi_wp2_with (refine ⟨trivial,?_⟩;gi_at_call 104;refine (zkk.2 (hfo _ hv)).mono ?_;rintro e W2 ⟨Ao,co,rfl,hfd,hb2⟩)
 have hgm2:gm<W2.heap.size:=ziE hgm hb2.size;have hKF:∀ b,W.heap.size≤b→b≠gm:=fun b hb e=>by omega
 have hz2:=hz.step hb2;have hBz2:=(KpS.of hb2).2 _ _ hBzg hBz;have hJ2:=hJb h0 hb2;clear hfo hv hz hBd hBz h0;gi_loopw [4,5,6,7,8,9,13,35] (fun x4 x5 x6 x7 x8 x9 x13 x35 wr=>∃ (j:Nat) (pre:List PlX),x13=.int .i64 j∧j≤N∧Hid (pre.map PlX.e=dL fs zl j)∧J pre wr∧KpS gm W2 wr∧(∃ y,x4=y)∧(∃ y,x5=y)∧(∃ y,x6=y)∧(∃ y,x7=y)∧(∃ y,x8=y)∧(∃ y,x9=y)∧∃ y,x35=y)
  (fun _ _ _ _ _ _ x13 _ _=>N-(intOf x13).toNat)
 case atStart=>exact ⟨0,[],rfl,zir _,zia rfl,hJ2,KpS.refl _ _,⟨_,rfl⟩,⟨_,rfl⟩,⟨_,rfl⟩,⟨_,rfl⟩,⟨_,rfl⟩,⟨_,rfl⟩,_,rfl⟩
 case round=>
  obtain ⟨j,pre,rfl,hj,hpre,hJr,hk,⟨y4,rfl⟩,⟨y5,rfl⟩,⟨y6,rfl⟩,⟨y7,rfl⟩,⟨y8,rfl⟩,⟨y9,rfl⟩,y35,rfl⟩:=hrel;by_cases hlt:j<N
  case neg=>
   obtain rfl:j=N:=by omega
   gi_wp2
   go_end0;exact ⟨⟨_,rfl⟩,.inl ⟨_,hpre.out,hJr⟩⟩
  have hlt':j<fs.length:=by rw [HFL.out];exact hlt
  have hfdr:=hfd.keepF hk hKF;have hzr:=hz2.keepI hk hKz;have hBzr:=hk.2 _ _ hBzg hBz2;have hBlt:=ziB wr _ hBzr;have hgr:gm<wr.heap.size:=ziE hgm2 hk.1;obtain ⟨ad,A1,c1,A2,c2,rfl,hKa,hl,hat,k0,k1,k2,k3,k4,k5,k6⟩:=IsL.fd_at hfdr (zib hlt');have HSU:=zia (qE fs zl j);rw [show fs.getD j f0d=fs[j] from by rw [ziF,zib hlt'];rfl] at HSU
  obtain ⟨ha1,ha2⟩:=HAT.out _ (ziD hlt');generalize fs[j]=f at HSU hl hat ha1 ha2 k0 k1 k2 k3 k4 k5 k6;obtain ⟨fn,hfn⟩:∃ fn,f.l.length=fn:=⟨_,rfl⟩;rw [ha1] at hat k5;rw [hfn] at hl hat ha2 k4 k5;have HFN:=zia hfn;have HA1:=zia ha1;clear hfn ha1;have j1:(j:Int)<(N:Int):=by omega
  have j0:(0:Int)≤(j:Int):=by omega
  by_cases hsel:zh1 zl j=true
  case neg=>
   have hse:zl≠[]∧¬(j:Int)∈zl:=by unfold zh1 at hsel;simpa using hsel
   have hz0:(0:Int)<(zn:Int):=by have:=zjR.2 hse.1;rw [HZN.out] at this;omega
   have hde:decide ((j:Int)∈zl)=false:=by simpa using hse.2
   have HDE:=zia hde;rw [zig hsel,ziz] at HSU;clear hde hse hsel;gi_wp2_with (refine ⟨trivial,?_⟩;gi_at_call 167;refine (zkk.2 (fE Az zn cz zl j Kz _ HZN.out (by omega) (hzr.alloc _).readsI)).mono ?_;rw [HDE.out];rintro e w1 ⟨rfl,rfl⟩)
   go_roundw
   case rel=>exact ⟨j+1,pre,by go_num,by omega,zia (by rw [HSU.out];exact hpre.out),hJb hJr (zBA),hk.alloc _,⟨_,rfl⟩,⟨_,rfl⟩,⟨_,rfl⟩,⟨_,rfl⟩,⟨_,rfl⟩,⟨_,rfl⟩,_,rfl⟩
   case measure=>simp [intOf];omega
  rw [zij hsel] at HSU;have hcase:zn=0∨(0<zn∧(j:Int)∈zl):=by
   unfold zh1 at hsel;simp only [Bool.or_eq_true,ziM] at hsel;rcases hsel with h | h
   · left;rw [←HZN.out,h];rfl
   · by_cases h0:zn=0
     · exact .inl h0
     · exact .inr ⟨by omega,h⟩
  clear hsel;have hJo:=hJb hJr ((zif _ _).alloc (zic _) (.cells #[.bool f.head,.int .i64 f.h.host,.int .i64 f.h.epoch,.int .i64 f.h.seq,.slice A1 fn c1,.slice A2 fn c2,.int .i64 f.used] 192));have hko:=hk.alloc (.cells #[.bool f.head,.int .i64 f.h.host,.int .i64 f.h.epoch,.int .i64 f.h.seq,.slice A1 fn c1,.slice A2 fn c2,.int .i64 f.used] 192);have hlo:=hl.alloc (.cells #[.bool f.head,.int .i64 f.h.host,.int .i64 f.h.epoch,.int .i64 f.h.seq,.slice A1 fn c1,.slice A2 fn c2,.int .i64 f.used] 192);have hato:=hat.alloc (.cells #[.bool f.head,.int .i64 f.h.host,.int .i64 f.h.epoch,.int .i64 f.h.seq,.slice A1 fn c1,.slice A2 fn c2,.int .i64 f.used] 192);have b5:=((Blk.new wr 192 #[.bool f.head,.int .i64 f.h.host,.int .i64 f.h.epoch,.int .i64 f.h.seq,.slice A1 fn c1,.slice A2 fn c2,.int .i64 f.used] rfl).rules.1 5);have hgo:gm<(wr.alloc (.cells #[.bool f.head,.int .i64 f.h.host,.int .i64 f.h.epoch,.int .i64 f.h.seq,.slice A1 fn c1,.slice A2 fn c2,.int .i64 f.used] 192)).heap.size:=by rw [zid];omega
  have hg5:wr.heap.size≠gm:=by omega
  replace b5:(wr.alloc (.cells #[.bool f.head,.int .i64 f.h.host,.int .i64 f.h.epoch,.int .i64 f.h.seq,.slice A1 fn c1,.slice A2 fn c2,.int .i64 f.used] 192)).cell? ⟨wr.heap.size,5,none⟩=some (.slice A2 fn c2):=b5;rcases hcase with hz0 | ⟨hz0,hin⟩
  · subst hz0
    gi_wp2
    refine ⟨trivial,?_⟩;gi_wp2
    clear hJr hk hl hat hfdr hzr hBzr hBlt hgr k0 k1 k2 k3 k4 k5 k6;generalize wr.alloc (.cells #[.bool f.head,.int .i64 f.h.host,.int .i64 f.h.epoch,.int .i64 f.h.seq,.slice A1 fn c1,.slice A2 fn c2,.int .i64 f.used] 192)=wo at hJo hko hlo hato b5 hgo ⊢;generalize wr.heap.size=g5 at hg5 b5 ⊢;clear wr;gi_loopw [6,7,8,9,30,35] (fun x6 x7 x8 x9 x30 x35 wr=>∃ (k:Nat) (pre':List PlX),x30=.int .i64 k∧k≤fn∧Hid (pre'.map PlX.e=dL fs zl j++(pK j f).take k)∧J pre' wr∧KpS gm wo wr∧(∃ y,x6=y)∧(∃ y,x7=y)∧(∃ y,x8=y)∧(∃ y,x9=y)∧∃ y,x35=y)
     (fun _ _ _ _ x30 _ _=>fn-(intOf x30).toNat)
    case atStart=>exact ⟨0,pre,rfl,zir _,zia (by rw [List.take_zero,ziz];exact hpre.out),hJo,KpS.refl _ _,⟨_,rfl⟩,⟨_,rfl⟩,⟨_,rfl⟩,⟨_,rfl⟩,_,rfl⟩
    case round=>
     obtain ⟨k,pre',rfl,hkf,hpre',hJr,hk,⟨y6,rfl⟩,⟨y7,rfl⟩,⟨y8,rfl⟩,⟨y9,rfl⟩,y35,rfl⟩:=hrel;by_cases hkl:k<fn
     case neg=>
      obtain rfl:k=fn:=by omega
      gi_wp2
      go_roundw
      case rel=>exact ⟨j+1,pre',by go_num,by omega,zia (by rw [HSU.out,hpre'.out,zip (by rw [lN HA1.out,HFN.out];exact zic _)]),hJr,hko.trans hk,⟨_,rfl⟩,⟨_,rfl⟩,⟨_,rfl⟩,⟨_,rfl⟩,⟨_,rfl⟩,⟨_,rfl⟩,_,rfl⟩
      case measure=>simp [intOf];omega
     have hkl':k<f.l.length:=by rw [HFN.out];exact hkl
     have hka':k<f.at_.length:=by rw [HA1.out];exact hkl'
     have hlr:=hlo.keepC hk hKF;have hatr:=hato.keepI hk hKF;have b5r:=hk.2 _ _ hg5 b5;have b5l:=ziB wr _ b5r;have hgr:gm<wr.heap.size:=ziE hgo hk.1;obtain ⟨adr,Ad,cd,rfl,hKr,hB,hok,e0,e1,e2,e3,e4,e5,e6⟩:=zbs hlr (zib hkl');obtain ⟨ada,es,hAa,hKi,hes,hcell⟩:=hatr.at_ (zib hka');have HTK:=zia (qJ (i:=j) hkl' hka');have hlen:pre'.length<(dL fs zl N).length:=by
      have h1:=zjj List.length hpre'.out;have h2:=zjj List.length HSU.out;have h3:=tT (fs:=fs) (zl:=zl) (i:=j+1) (n:=N) (by omega)
      have h4:=lN (i:=j) HA1.out;rw [zjr,zie,zio] at h1;rw [zie] at h2;rw [h4,HFN.out] at h1 h2;omega
     have hxg:kF 10000 (f.l[k],(j:Int),f.at_[k]+sO f.l[k]):=by
      refine HG.out _ (vZ (i:=j+1) ?_ (by omega))
      rw [HSU.out];refine ziR _ (zjh (i:=k+1) ?_);rw [HTK.out];exact ziR _ (ziw.2 rfl)
     obtain ⟨rfl,hab⟩:=hes;have hcl:wr.cell? (ada.add k)=some (.int .i64 f.at_[k]):=by
      have:=hcell 0 _ rfl;rwa [cW,show k*Rp.int.size=k from zk0 k] at this
     generalize f.l[k]=r at hxg HTK hB hok e0 e1 e2 e3 e4 e5 e6;generalize f.at_[k]=av at hxg HTK hab hcl;have hpd:=fun Y h=>xT r (.slice Ad r.data.length cd) _ Y hok (h:IsB Y (fun k=>W.heap.size≤k) (.slice Ad r.data.length cd) r.data)
     unfold rcV at hpd;generalize hdv:sO r=dv at hxg HTK hpd;clear hdv;have hoff:=hxg.2.2;simp only at hoff;subst hAa;have hclt:=ziB wr _ hcl;rw [bR] at hclt;have i1:(k:Int)<(fn:Int):=by omega
     have i0:(0:Int)≤(k:Int):=by omega
     gi_wp2_with (refine ⟨trivial,?_⟩;gi_at_call 168;refine (zkk.2 (hpd _ (hB.alloc _))).mono ?_;rintro e w4 ⟨rfl,hb4⟩)
     have hbb:Below wr.heap.size wr w4:=((zif _ _).alloc (zic _) (.cells #[.int .i64 r.kind,.int .i64 r.lba,.int .i64 r.n,.int .i64 r.ver,.int .i64 r.zone,.int .i64 r.off,.slice Ad r.data.length cd] 117)).trans (hb4.mono (by rw [zid];omega))
     obtain ⟨q0,f0⟩:=((Blk.new wr 117 #[.int .i64 r.kind,.int .i64 r.lba,.int .i64 r.n,.int .i64 r.ver,.int .i64 r.zone,.int .i64 r.off,.slice Ad r.data.length cd] rfl).step hb4).rules;have g5:=((KpS.of (gm:=gm) hbb).2 _ _ hg5 b5r);have gat:=((KpS.of (gm:=gm) hbb).2 _ _ (by rw [bR];exact hKF _ hKi) hcl)
     have g5l:=ziB w4 _ g5;have hJ5:=hJb (hJb hJr hbb) (zif _ w4).drew;have hYx:=(hY pre' ⟨((r,(j:Int),av+dv),(Ad,cd)),hxg⟩ w4.drew hJ5 hlen).mono (R':=fun e W'=>∃ b,e=.returned (.bool b)∧Hid ((b=true∧J (pre'++[⟨((r,(j:Int),av+dv),(Ad,cd)),hxg⟩]) W'∧KpS gm w4.drew W')∨(b=false∧Jx (pre'++[⟨((r,(j:Int),av+dv),(Ad,cd)),hxg⟩]) W'))) (by
      rintro e W' (⟨rfl,h⟩ | ⟨rfl,h⟩)
      · exact ⟨true,rfl,zia (.inl ⟨rfl,h⟩)⟩
      · exact ⟨false,rfl,zia (.inr ⟨rfl,h⟩)⟩)
     obtain ⟨fn',tmps',assign',body',hy,hR⟩:=hYx;dsimp only [plV] at hy;clear e0 e1 e2 e3 e4 e5 e6 hB hlr hatr hJr b5r hY hJ5 hcell hcl hpd;have hwrap:IntKind.i64.wrap (av+dv)=av+dv:=ziI _ (by omega)
     have HW:=zia (((hk.trans (KpS.of hbb)).trans (KpS.of (zif _ w4).drew)));have HPX:Hid ((pre'++[(⟨((r,(j:Int),av+dv),(Ad,cd)),hxg⟩:PlX)]).map PlX.e=dL fs zl j++(pK j f).take (k+1)):=zia (by rw [ziZ,hpre'.out,HTK.out,ziq];rfl)
     gi_region_with_o (refine hR.mono ?_;rintro e W3 ⟨b,rfl,hh⟩)
     all_goals
      rcases hh.out with ⟨rfl,hJn,hkn⟩ | ⟨rfl,hJx⟩
      · gi_wp2
        go_roundw
        case rel=>exact ⟨k+1,_,by go_num,by omega,HPX,hJn,HW.out.trans hkn,⟨_,rfl⟩,⟨_,rfl⟩,⟨_,rfl⟩,⟨_,rfl⟩,_,rfl⟩
        case measure=>simp [intOf];omega
      · gi_wp2
        refine zik (zk5 rfl _ _ _) rfl ?_;exact ⟨⟨_,rfl⟩,.inr ⟨_,hJx⟩⟩
  · have hde:decide ((j:Int)∈zl)=true:=by simpa using hin
    have HDE:=zia hde;clear hde hin;have hz1:(0:Int)<(zn:Int):=by omega
    gi_wp2_with (refine ⟨trivial,?_⟩;gi_at_call 167;refine (zkk.2 (fE Az zn cz zl j Kz _ HZN.out (by omega) (hzr.alloc _).readsI)).mono ?_;rw [HDE.out];rintro e w1 ⟨rfl,rfl⟩)
    clear hJr hk hl hat hfdr hzr hBzr hBlt hgr k0 k1 k2 k3 k4 k5 k6;generalize wr.alloc (.cells #[.bool f.head,.int .i64 f.h.host,.int .i64 f.h.epoch,.int .i64 f.h.seq,.slice A1 fn c1,.slice A2 fn c2,.int .i64 f.used] 192)=wo at hJo hko hlo hato b5 hgo ⊢;generalize wr.heap.size=g5 at hg5 b5 ⊢;clear wr;gi_loopw [6,7,8,9,30,35] (fun x6 x7 x8 x9 x30 x35 wr=>∃ (k:Nat) (pre':List PlX),x30=.int .i64 k∧k≤fn∧Hid (pre'.map PlX.e=dL fs zl j++(pK j f).take k)∧J pre' wr∧KpS gm wo wr∧(∃ y,x6=y)∧(∃ y,x7=y)∧(∃ y,x8=y)∧(∃ y,x9=y)∧∃ y,x35=y)
     (fun _ _ _ _ x30 _ _=>fn-(intOf x30).toNat)
    case atStart=>exact ⟨0,pre,rfl,zir _,zia (by rw [List.take_zero,ziz];exact hpre.out),hJo,KpS.refl _ _,⟨_,rfl⟩,⟨_,rfl⟩,⟨_,rfl⟩,⟨_,rfl⟩,_,rfl⟩
    case round=>
     obtain ⟨k,pre',rfl,hkf,hpre',hJr,hk,⟨y6,rfl⟩,⟨y7,rfl⟩,⟨y8,rfl⟩,⟨y9,rfl⟩,y35,rfl⟩:=hrel;by_cases hkl:k<fn
     case neg=>
      obtain rfl:k=fn:=by omega
      gi_wp2
      go_roundw
      case rel=>exact ⟨j+1,pre',by go_num,by omega,zia (by rw [HSU.out,hpre'.out,zip (by rw [lN HA1.out,HFN.out];exact zic _)]),hJr,hko.trans hk,⟨_,rfl⟩,⟨_,rfl⟩,⟨_,rfl⟩,⟨_,rfl⟩,⟨_,rfl⟩,⟨_,rfl⟩,_,rfl⟩
      case measure=>simp [intOf];omega
     have hkl':k<f.l.length:=by rw [HFN.out];exact hkl
     have hka':k<f.at_.length:=by rw [HA1.out];exact hkl'
     have hlr:=hlo.keepC hk hKF;have hatr:=hato.keepI hk hKF;have b5r:=hk.2 _ _ hg5 b5;have b5l:=ziB wr _ b5r;have hgr:gm<wr.heap.size:=ziE hgo hk.1;obtain ⟨adr,Ad,cd,rfl,hKr,hB,hok,e0,e1,e2,e3,e4,e5,e6⟩:=zbs hlr (zib hkl');obtain ⟨ada,es,hAa,hKi,hes,hcell⟩:=hatr.at_ (zib hka');have HTK:=zia (qJ (i:=j) hkl' hka');have hlen:pre'.length<(dL fs zl N).length:=by
      have h1:=zjj List.length hpre'.out;have h2:=zjj List.length HSU.out;have h3:=tT (fs:=fs) (zl:=zl) (i:=j+1) (n:=N) (by omega)
      have h4:=lN (i:=j) HA1.out;rw [zjr,zie,zio] at h1;rw [zie] at h2;rw [h4,HFN.out] at h1 h2;omega
     have hxg:kF 10000 (f.l[k],(j:Int),f.at_[k]+sO f.l[k]):=by
      refine HG.out _ (vZ (i:=j+1) ?_ (by omega))
      rw [HSU.out];refine ziR _ (zjh (i:=k+1) ?_);rw [HTK.out];exact ziR _ (ziw.2 rfl)
     obtain ⟨rfl,hab⟩:=hes;have hcl:wr.cell? (ada.add k)=some (.int .i64 f.at_[k]):=by
      have:=hcell 0 _ rfl;rwa [cW,show k*Rp.int.size=k from zk0 k] at this
     generalize f.l[k]=r at hxg HTK hB hok e0 e1 e2 e3 e4 e5 e6;generalize f.at_[k]=av at hxg HTK hab hcl;have hpd:=fun Y h=>xT r (.slice Ad r.data.length cd) _ Y hok (h:IsB Y (fun k=>W.heap.size≤k) (.slice Ad r.data.length cd) r.data)
     unfold rcV at hpd;generalize hdv:sO r=dv at hxg HTK hpd;clear hdv;have hoff:=hxg.2.2;simp only at hoff;subst hAa;have hclt:=ziB wr _ hcl;rw [bR] at hclt;have i1:(k:Int)<(fn:Int):=by omega
     have i0:(0:Int)≤(k:Int):=by omega
     gi_wp2_with (refine ⟨trivial,?_⟩;gi_at_call 168;refine (zkk.2 (hpd _ (hB.alloc _))).mono ?_;rintro e w4 ⟨rfl,hb4⟩)
     have hbb:Below wr.heap.size wr w4:=((zif _ _).alloc (zic _) (.cells #[.int .i64 r.kind,.int .i64 r.lba,.int .i64 r.n,.int .i64 r.ver,.int .i64 r.zone,.int .i64 r.off,.slice Ad r.data.length cd] 117)).trans (hb4.mono (by rw [zid];omega))
     obtain ⟨q0,f0⟩:=((Blk.new wr 117 #[.int .i64 r.kind,.int .i64 r.lba,.int .i64 r.n,.int .i64 r.ver,.int .i64 r.zone,.int .i64 r.off,.slice Ad r.data.length cd] rfl).step hb4).rules;have g5:=((KpS.of (gm:=gm) hbb).2 _ _ hg5 b5r);have gat:=((KpS.of (gm:=gm) hbb).2 _ _ (by rw [bR];exact hKF _ hKi) hcl)
     have g5l:=ziB w4 _ g5;have hJ5:=hJb (hJb hJr hbb) (zif _ w4).drew;have hYx:=(hY pre' ⟨((r,(j:Int),av+dv),(Ad,cd)),hxg⟩ w4.drew hJ5 hlen).mono (R':=fun e W'=>∃ b,e=.returned (.bool b)∧Hid ((b=true∧J (pre'++[⟨((r,(j:Int),av+dv),(Ad,cd)),hxg⟩]) W'∧KpS gm w4.drew W')∨(b=false∧Jx (pre'++[⟨((r,(j:Int),av+dv),(Ad,cd)),hxg⟩]) W'))) (by
      rintro e W' (⟨rfl,h⟩ | ⟨rfl,h⟩)
      · exact ⟨true,rfl,zia (.inl ⟨rfl,h⟩)⟩
      · exact ⟨false,rfl,zia (.inr ⟨rfl,h⟩)⟩)
     obtain ⟨fn',tmps',assign',body',hy,hR⟩:=hYx;dsimp only [plV] at hy;clear e0 e1 e2 e3 e4 e5 e6 hB hlr hatr hJr b5r hY hJ5 hcell hcl hpd;have hwrap:IntKind.i64.wrap (av+dv)=av+dv:=ziI _ (by omega)
     have HW:=zia (((hk.trans (KpS.of hbb)).trans (KpS.of (zif _ w4).drew)));have HPX:Hid ((pre'++[(⟨((r,(j:Int),av+dv),(Ad,cd)),hxg⟩:PlX)]).map PlX.e=dL fs zl j++(pK j f).take (k+1)):=zia (by rw [ziZ,hpre'.out,HTK.out,ziq];rfl)
     gi_region_with_o (refine hR.mono ?_;rintro e W3 ⟨b,rfl,hh⟩)
     all_goals
      rcases hh.out with ⟨rfl,hJn,hkn⟩ | ⟨rfl,hJx⟩
      · gi_wp2
        go_roundw
        case rel=>exact ⟨k+1,_,by go_num,by omega,HPX,hJn,HW.out.trans hkn,⟨_,rfl⟩,⟨_,rfl⟩,⟨_,rfl⟩,⟨_,rfl⟩,_,rfl⟩
        case measure=>simp [intOf];omega
      · gi_wp2
        refine zik (zk5 rfl _ _ _) rfl ?_;exact ⟨⟨_,rfl⟩,.inr ⟨_,hJx⟩⟩
attribute [local go_sem] Oper.semAt_some
theorem zck (B:Nat) (t:TypeId) (d:Zd) (A:Option Addr) (c:Nat) (z:Int) (w:World) (hB:Blk w B t #[.int .i64 d.cap,.int .i64 d.opn,.int .i64 d.act,.slice A d.z.length c]) (hz:0≤z∧z<d.z.length) :
 Calls Tryz.prog 102 #[.int .i64 z,.pointer (some ⟨B,0,none⟩)] w fun e w'=>e=.returned (.bool false)∧Below w.heap.size w w':=by
 obtain ⟨q0,f0⟩:=hB.rules;have t0:=hB.lt;obtain ⟨h1,h2⟩:=hz;obtain ⟨n,hn⟩:∃ n,d.z.length=n:=⟨_,rfl⟩;rw [hn] at q0 h2;clear hB hn;go_enter Tryz.func102,Tryz.ntmps102
 have d1:decide (z<0)=false:=by simp only [zjM];omega
 have d2:decide ((n:Int)≤z)=false:=by simp only [zjM];omega
 go_wp2;go_ret;exact ⟨rfl,zif _ _⟩
theorem zeV (B:Nat) (t:TypeId) (d:Zd) (A:Option Addr) (c:Nat) (l:List Int) (Az:Option Addr) (cz:Nat) (K:Nat→Prop) (w:World) (hB:Blk w B t #[.int .i64 d.cap,.int .i64 d.opn,.int .i64 d.act,.slice A d.z.length c])
 (hv:IsL Rp.int w K (.slice Az l.length cz) l) (hz:∀ z∈l,0≤z∧z<(d.z.length:Int)) :
 Calls Tryz.prog 165 #[.slice Az l.length cz,.func (.func 102) #[] #[.pointer (some ⟨B,0,none⟩)]] w fun e w'=>e=.returned (.int .i64 (-1))∧Below w.heap.size w w':=by
 have hlen:=hv.len;obtain ⟨n,hn⟩:∃ n,l.length=n:=⟨_,rfl⟩;rw [hn] at hv hlen ⊢;have HN:=zia hn;clear hn;have E:=((Kn.start w).give aB.list hv).know hB;go_enter Tryz.func165,Tryz.ntmps165
 go_wp2_with fail;go_loopw [5,8] (fun x i wr=>∃ j:Nat,i=.int .i64 j∧j≤n∧Below w.heap.size w wr∧(∃ y,x=y)) (fun _ i _=>n-(intOf i).toNat)
 case atStart=>exact ⟨0,rfl,zir _,zif _ _,_,rfl⟩
 case round=>
  obtain ⟨j,rfl,hj,hb,y,rfl⟩:=hrel;have hsz:=hb.size;have F:=E.step hb;by_cases hlt:j<n
  · have hlt':j<l.length:=by rw [HN.out];exact hlt
    obtain ⟨ad,es,rfl,-,hes,hcell⟩:=(F.get m0).at_ (zib hlt');have hem:=hz _ (ziD hlt');generalize l[j]=e at hes hcell hem;obtain ⟨rfl,hab⟩:=hes;have hcl:wr.cell? (ad.add j)=some (.int .i64 e):=by
     have:=hcell 0 _ rfl;rwa [cW,show j*Rp.int.size=j from zk0 j] at this
    clear hcell;have j1:(j:Int)<(n:Int):=by omega
    have j0:(0:Int)≤(j:Int):=by omega
    have hm1:=zck B t d A c e wr (F.at_ m0) hem;go_wp2_with fail;refine hm1.mono ?_;rintro x w2 ⟨rfl,hb2⟩;clear hcl hm1;go_wp2;go_roundw
    case rel=>exact ⟨j+1,by go_num,by omega,hb.trans (hb2.mono hsz),_,rfl⟩
    case measure=>simp [intOf];omega
  · obtain rfl:j=n:=by omega
    go_wp2;go_ret;exact ⟨rfl,hb⟩
theorem zcB (B:Nat) (t:TypeId) (d:Zd) (A:Option Addr) (c:Nat) (l:List Int) (Az:Option Addr) (cz:Nat) (K:Nat→Prop) (w:World) (hB:Blk w B t #[.int .i64 d.cap,.int .i64 d.opn,.int .i64 d.act,.slice A d.z.length c])
 (hv:IsL Rp.int w K (.slice Az l.length cz) l) (hz:∀ z∈l,0≤z∧z<(d.z.length:Int)) :
 Calls Tryz.prog 101 #[.slice Az l.length cz,.func (.func 102) #[] #[.pointer (some ⟨B,0,none⟩)]] w fun e w'=>e=.returned (.bool false)∧Below w.heap.size w w':=by
 have hi:=zeV B t d A c l Az cz K w hB hv hz;go_enter Tryz.func101,Tryz.ntmps101
 go_wp2_with fail;refine hi.mono ?_;rintro x w2 ⟨rfl,hb2⟩;go_wp2;go_ret;exact ⟨rfl,hb2⟩
theorem zbZ (n:Nat) (d:Zd) (A:Option Addr) (m c:Nat) (Az:Option Addr) (zn cz:Nat) (w:World) :
 CallsIn Fence.wide n Tryz.prog 103 #[.agg #[.int .i64 d.cap,.int .i64 d.opn,.int .i64 d.act,.slice A m c],.slice Az zn cz] w fun e w'=>
  e=.returned (.func (.func 166) #[] #[.pointer (some ⟨w.heap.size,0,none⟩),.pointer (some ⟨w.heap.size+1,0,none⟩)]) ∧
  w'=(w.alloc (.cells #[.int .i64 d.cap,.int .i64 d.opn,.int .i64 d.act,.slice A m c] 26)).alloc (.cells #[.slice Az zn cz] 113):=by
 refine callsIn_of_wp Tryz.func103 rfl trivial ?_ rfl;simp only [Tryz.ntmps103,ziO,List.length_cons,List.length_nil,Nat.reduceAdd,Nat.reduceSub,Array.replicate_succ,Array.replicate_zero,List.push_toArray,List.append_toArray,List.nil_append,List.cons_append];gi_wp2
 go_ret;exact ⟨rfl,rfl⟩
attribute [local go_sem] Oper.semAt_some
theorem KeepsFrom.of_below {B:Nat} {W W':World} (h:Below W.heap.size W W'):KeepsFrom B W W':=
 ⟨h.size,fun k _ _ hk _=>(h.block k (zjF.1 hk).1).trans hk⟩
theorem Blk.own {W W':World} {row:Option Nat} {g:Nat} {t:TypeId} {cs:Array Value} (h:Blk W g t cs) (hg:W.grownBy W' row) (hr:∀ r,row=some r→∃ o:Obj,W.heap[r]?=some o∧o.isCells=false):Blk W' g t cs:=
 (hg.block g h.lt (fun e=>by
  obtain ⟨o,ho,hc⟩:=hr g e.symm;rw [show W.heap[g]?=_ from h] at ho;cases ho
  cases hc)).trans h
theorem lU.len {B:Int} {r:Rc} (h:lU B r):r.data.length≤4096:=by
 rcases h.kind with hk | hk
 · have:=h.data hk
   have:=h.n;omega
 · rw [h.trim hk];simp
theorem KpS.grown {gm:Nat} {W W':World} {row:Option Nat} (hg:W.grownBy W' row) (hr:∀ r,row=some r→∃ o:Obj,W.heap[r]?=some o∧o.isCells=false):KpS gm W W':=by
 refine ⟨hg.size,fun p v _ hv=>?_⟩
 have hlt:=ziB W p hv;have hne:some p.block≠row:=by
  intro e;obtain ⟨o,ho,hc⟩:=hr p.block e.symm;have:W.cell? p=none:=by
   unfold World.cell?;rw [ho];cases o <;> first | rfl | cases hc
  rw [this] at hv;cases hv
 rw [zjg (hg.block p.block hlt hne)];exact hv
theorem IsL.keepX {w w':World} {K:Nat→Prop} {g:Nat} {v:Value} {l:List Ex} (h:IsL Rp.ex w K v l) (hk:KpS g w w') (hK:∀ b,K b→b≠g):IsL Rp.ex w' K v l:=
 IsL.keepG (R:=Rp.ex) (w:=w) (w':=w') (fun _ _ hx=>hx) h hk hK
def zhv (B gm g4 g5:Nat) (pre:List PlX) (W:World):Prop:=∃ (mm:List Ex) (Am:Option Addr) (cm:Nat),Hid (fB (pre.map PlX.e) []=(mm,0)∧aC 0 mm∧mm.length≤10000) ∧
 Boxed W gm 35 (.slice Am mm.length cm)∧Boxed W g4 35 (.slice none 0 0)∧Boxed W g5 52 (.int .i64 0)∧IsL Rp.ex W (fun b=>B≤b∧b≠gm) (.slice Am mm.length cm) mm
theorem zhv.own (D B gm g4 g5:Nat):OwnFrom D (zhv B gm g4 g5):=by
 rintro s W W' row ⟨mm,Am,cm,h1,h2,h3,h4,h5⟩ hg hr;have hbx:∀ {g:Nat} {t:TypeId} {v:Value},Boxed W g t v→Boxed W' g t v:=fun {g t v} h=>h.kept hg (fun e=>by
  obtain ⟨_,o,ho,hc⟩:=hr g e.symm;rw [show W.heap[g]?=_ from h] at ho;cases ho
  cases hc)
 exact ⟨mm,Am,cm,h1,hbx h2,hbx h3,hbx h4,h5.keepX (KpS.grown (gm:=gm) hg fun r e=>(hr r e).2) fun b hb=>hb.2⟩
theorem zeY {pre:List PlX} {x:PlX} {mm:List Ex} (h:fB (pre.map PlX.e) []=(mm,0)) (hc:aC 0 mm) (hl:mm.length≤10000) :
 bO (eF x.1.1)∧(joinE mm).length≤10000∧(bC mm (eF x.1.1)).length≤10000∧aC 0 (bC mm (eF x.1.1))∧fB ((pre++[x]).map PlX.e) []=(bC mm (eF x.1.1),0):=by
 have hmay:=x.2.may (by omega)
 obtain ⟨o1,_,_⟩:=lC hc hmay;have hj:=(gO hc).2.2;obtain ⟨m2,n1,n2,n3,n4⟩:=mE (B:=10000) (by omega) ((pre++[x]).map PlX.e) [] [] (fun y hy=>by
  obtain ⟨p,hp,rfl⟩:=zja.1 hy;exact p.2) trivial (fun b=>by simp [zed,gN]) (by simp)
 have hs:fB ((pre++[x]).map PlX.e) []=fB [x.1.1] mm:=by
  rw [ziZ];exact vK h
 have h2:iC mm x.1.1.1 x.1.1.2.1 x.1.1.2.2=(bC mm (eF x.1.1),0)∨(iC mm x.1.1.1 x.1.1.2.1 x.1.1.2.2).2≠0:=by
  have hcc:dZ mm=0:=by unfold dZ;rw [zij hc]
  obtain ⟨g1,g2,g3⟩:=x.2;unfold iC;rw [zig (by rw [hcc,g1.check (by omega)];omega),zig (fun h=>h hmay)]
  by_cases hf:10000<(bC mm (fR x.1.1.1 x.1.1.2.1 x.1.1.2.2)).length
  · rw [zij hf];right;simp
  · rw [zig hf];left;rfl
 have hm:fB [x.1.1] mm=(bC mm (eF x.1.1),0):=by
  rcases h2 with h2 | h2
  · rw [jL,h2];rfl
  · rw [hs,jL,zij h2] at n1
    injection n1 with _ n1;exact absurd n1 h2
 have h3:(bC mm (eF x.1.1)).length≤10000:=by
  rw [hs,hm] at n1;injection n1 with n1 _;rw [n1];simp only [List.length_nil] at n4;omega
 exact ⟨hmay,by omega,h3,o1,by rw [hs,hm]⟩
theorem zee (d:Zd) (A:Option Addr) (c:Nat) (zl:List Int) (Az:Option Addr) (cz:Nat) (K Kz:Nat→Prop) (w:World) (hd:okD d) (hS:∀ z∈d.z,vS z.d) (hv:IsL Rp.zone w K (.slice A d.z.length c) d.z) (hz:IsL Rp.int w Kz (.slice Az zl.length cz) zl) (hzr:∀ z∈zl,0≤z∧z<(d.z.length:Int))
 (hgood:∀ x∈dL (bA d.z) zl d.z.length,kF 10000 x) (hat:∀ f∈bA d.z,f.at_.length=f.l.length∧f.l.length≤1000000000) :
 Calls Tryz.prog 40 #[.agg #[.int .i64 d.cap,.int .i64 d.opn,.int .i64 d.act,.slice A d.z.length c],.slice Az zl.length cz] w fun e w'=>∃ mm Am cm,e=.returned (.tuple #[.slice Am mm.length cm,.int .i64 0]) ∧
  fB (dL (bA d.z) zl d.z.length) []=(mm,0)∧aC 0 mm∧mm.length≤10000∧IsL Rp.ex w' (fun b=>w.heap.size≤b) (.slice Am mm.length cm) mm∧Below w.heap.size w w':=by
 refine (zkk (n:=5)).1 ?_;have hc0:oH d=0:=by unfold oH;rw [zij hd]
 have hcc:=fun w v hv=>jG d v K w hv
 rw [hc0] at hcc;have hz0:=hz.ltI;refine callsIn_of_wp_marks Tryz.func40 rfl trivial ?_ rfl;simp only [Tryz.ntmps40,ziO,List.length_cons,List.length_nil,Nat.reduceAdd,Nat.reduceSub,Array.replicate_succ,Array.replicate_zero,List.push_toArray,List.append_toArray,List.nil_append,List.cons_append];have E:=((((((Kn.start w).give aB.list hv).give aB.list hz0).push 26 #[.int .i64 d.cap,.int .i64 d.opn,.int .i64 d.act,.slice A d.z.length c]).push 35 #[.slice none 0 0]).push 52 #[.int .i64 0]);rw [zid,zid] at E;gi_wp2_with (first
  | (refine ⟨trivial,?_⟩;gi_at_call 39;refine (zkk.2 (hcc _ _ (E.get m1))).mono ?_;rintro e w1 ⟨rfl,hb1⟩)
  | (refine ⟨trivial,?_⟩;gi_at_call 101;refine (zkk.2 (zcB _ _ d A c zl Az cz _ w1 ((E.step hb1).at_ m2) ((E.step hb1).get m0) hzr)).mono ?_;rintro e w2 ⟨rfl,hb2⟩;replace E:=(E.step hb1).step hb2;obtain ⟨q0,f0,t0⟩:=E.rules m2)
  | (refine ⟨trivial,?_⟩;gi_at_call 103;refine (zbZ _ d A d.z.length c Az zl.length cz _).mono ?_;rintro e w3 ⟨rfl,rfl⟩))
 have E2:=(((E.push 35 #[.slice none 0 0]).push 26 #[.int .i64 d.cap,.int .i64 d.opn,.int .i64 d.act,.slice A d.z.length c]).push 113 #[.slice Az zl.length cz]);rw [zid,zid] at E2;have hs0:((((w2.alloc (.cells #[.slice none 0 0] 35)).alloc (.cells #[.int .i64 d.cap,.int .i64 d.opn,.int .i64 d.act,.slice A d.z.length c] 26)).alloc (.cells #[.slice Az zl.length cz] 113))).heap.size=w2.heap.size+3:=by simp
 generalize (((w2.alloc (.cells #[.slice none 0 0] 35)).alloc (.cells #[.int .i64 d.cap,.int .i64 d.opn,.int .i64 d.act,.slice A d.z.length c] 26)).alloc (.cells #[.slice Az zl.length cz] 113))=wl at E2 hs0 ⊢;have e4:=(E.rules m0).2.2;have hst:SeqStopsK Fence.wide (5-1) Tryz.prog 166 #[.pointer (some ⟨w2.heap.size+1,0,none⟩),.pointer (some ⟨w2.heap.size+1+1,0,none⟩)] (fun x:PlX=>#[plV x]) (KpS w2.heap.size)
  (fun ys=>ys.map PlX.e=dL (bA d.z) zl d.z.length) (fun _=>True) (dL (bA d.z) zl d.z.length).length wl:=fun l J Jx W hW hJ _ hY h0=>by
  have F:=E2.step hW;have hsz:=hW.size;have hB:=(F.at_ m0).rules.1 0;exact zbd (5-1) w2.heap.size (by omega) d A c zl Az cz K _ _ _ l hd hS hgood hat J Jx W hJ hY (F.get m1) (F.get m0) (fun b hb e=>by omega) (by omega) (F.at_ m1).rules.1 hB (by omega) h0
 have hlw:w.heap.size<wl.heap.size:=by omega
 refine wpIn_rangeFunc_ownH rfl (by omega) (gf:=166) (lb:=#[.pointer (some ⟨w2.heap.size+1,0,none⟩),.pointer (some ⟨w2.heap.size+1+1,0,none⟩)]) rfl trivial (enters_of Tryz.func166 (by kernel_rfl) rfl)
  hst KpS.trans (fun W l o o' _ h2 h3 _=>KpS.put W l o o' h2 h3) (zif _ _) (fun _=>rfl)
  (fun pre W=>zhv (w.heap.size+3) w2.heap.size (w.heap.size+1) (w.heap.size+1+1) pre W∧Below w.heap.size w W) (fun _ _ _=>False)
  (OwnFrom.and (zhv.own _ _ _ _ _) (ownFrom_below (zic _) (by omega)))
  (fun _ _ _ _ _ hs _ _=>hs)
  ⟨⟨[],none,0,zia ⟨rfl,trivial,by simp⟩,E2.at_ m2,E2.at_ m4,E2.at_ m3,IsL.nil_ _ _⟩,E2.below⟩
  (fun x a' W=>∃ Bx,w2.heap.size<Bx∧Blk W Bx 188 #[.int .i64 x.1.1.1.kind,.int .i64 x.1.1.1.lba,.int .i64 x.1.1.1.n,.int .i64 x.1.1.1.ver,.int .i64 x.1.1.1.zone,.int .i64 x.1.1.1.off,.slice x.1.2.1 x.1.1.1.data.length x.1.2.2,.int .i64 x.1.1.2.1,.int .i64 x.1.1.2.2] ∧
   a'={ tmps:=#[.agg #[.int .i64 d.cap,.int .i64 d.opn,.int .i64 d.act,.slice A d.z.length c],.slice Az zl.length cz,.pointer (some ⟨w.heap.size,0,none⟩),undef,.pointer (some ⟨w.heap.size+1,0,none⟩),.pointer (some ⟨w.heap.size+1+1,0,none⟩),.pointer (some ⟨w2.heap.size,0,none⟩),.pointer (some ⟨Bx,0,none⟩),undef,undef,.agg #[.int .i64 d.cap,.int .i64 d.opn,.int .i64 d.act,.slice A d.z.length c],.int .i64 0,.bool false,.bool false,.slice Az zl.length cz,.func (.func 102) #[] #[.pointer (some ⟨w.heap.size,0,none⟩)],.bool false,.bool false,.agg #[.int .i64 d.cap,.int .i64 d.opn,.int .i64 d.act,.slice A d.z.length c],.slice Az zl.length cz,.func (.func 166) #[] #[.pointer (some ⟨w2.heap.size+1,0,none⟩),.pointer (some ⟨w2.heap.size+1+1,0,none⟩)],plV x,undef,undef,undef,undef,undef,undef,undef,undef,undef,undef,undef,undef,undef,undef,undef,undef,undef,undef,undef,undef,undef,undef,undef,undef,undef,undef],defers:=[] })
  (fun x a'=>by rintro _ W W' row ⟨Bx,h1,h2,h3⟩ hg hr;exact ⟨Bx,h1,h2.own hg fun r e=>(hr r e).2,h3⟩) ?assign ?body ?done ?stop
 case assign=>
  rintro l pre x W KK ⟨hi,hB⟩ hK;have hsW:=hB.size;have hgl:w2.heap.size<W.heap.size:=by obtain ⟨_,_,_,_,h,_⟩:=hi;exact h.lt
  dsimp only [plV];gi_wp2
  exact hK _ _ ((KeepsOthers.alloc _ _).from _) ((KpS.refl _ _).alloc _) ⟨(zhv.own 0 _ _ _ _).alloc _ hi,hB.alloc hsW _⟩ ⟨W.heap.size,hgl,Blk.new _ _ _ rfl,rfl⟩
 case body=>
  rintro l pre x a' W hl ⟨rr,hrr⟩ ⟨⟨mm,Am,cm,hm,b1,b2,b3,hx⟩,hB⟩ ⟨Bx,hBx,bX,rfl⟩ hlt;obtain ⟨hmg,hch,hml⟩:=hm.out;obtain ⟨p1,p2,p3,p4,p5⟩:=zeY (x:=x) hmg hch hml;obtain ⟨⟨⟨r,zone,off⟩,⟨Ad,cd⟩⟩,hg⟩:=x;simp only at p1 p2 p3 p4 bX;have hg':=hg;obtain ⟨g1,g2,g3⟩:=hg';simp only at g1 g2 g3;unfold eF at p1 p3 p4 p5;simp only at p1 p3 p4;have hva:=fun Y h=>qT Am cm mm r Ad cd zone off (fun b=>w.heap.size+3≤b∧b≠w2.heap.size) Y h hch (g1.ok (by omega)) (by have:=g1.len;omega) (g1.check (by omega)) (by have:=g1.kind;omega) g2.1 (by omega) p1 ⟨p2,p3⟩
  unfold rcV at hva;generalize hof:bC mm (fR r zone off)=om at hva p3 p4 p5;have HP5:=zia p5;clear p1 p2 p5 hof hmg hch hml hm g1 g2 g3 hst E E2;obtain ⟨q1,f1⟩:=Blk.rules b1;have t1:=Blk.lt b1;obtain ⟨q2,f2⟩:=bX.rules;have hsW:=hB.size;clear q0 f0 t0;dsimp only [plV];gi_wp2_with (refine ⟨trivial,?_⟩;gi_at_call 38;refine (CallsIn.inRound l (zkk.2 (hva _ hx))).mono ?_;rintro e w6 ⟨Ao,co,rfl,hx6,hb6⟩;obtain ⟨q3,f3⟩:=(Blk.step b1 hb6).rules)
  have hsz6:=hb6.size;refine ⟨(KeepsFrom.of_below hb6).trans ((KeepsOthers.setCell _ _ _).from _),(KpS.of hb6).set 0 _,⟨om,Ao,co,zia ⟨HP5.out,p4,p3⟩,(Blk.step b1 hb6).set_ 0 _,(Blk.step b2 hb6).far (by show w.heap.size+1≠w2.heap.size;omega) _,(Blk.step b3 hb6).far (by show w.heap.size+1+1≠w2.heap.size;omega) _,(hx6.more (fun b hb=>⟨by have:=Blk.lt b3;omega,by omega⟩)).far (fun h=>h.2 rfl) _ _⟩,?_⟩
  exact (hB.trans (hb6.mono hsW)).setCell (by show w.heap.size≤w2.heap.size;omega) _
 case done=>
  rintro D ys W hD hS ⟨⟨mm,Am,cm,hm,b1,b2,b3,hx⟩,hB⟩ hK;obtain ⟨hmg,hch,hml⟩:=hm.out;obtain ⟨q1,f1⟩:=Blk.rules b1;obtain ⟨q2,f2⟩:=Blk.rules b2;obtain ⟨q3,f3⟩:=Blk.rules b3;have hsW:=hB.size;clear q0 f0 t0 hst E E2;gi_wp2
  have hKo:KeepsOthers W ((W.setCell ⟨w.heap.size+1,0,none⟩ (.slice Am mm.length cm)).setCell ⟨w.heap.size+1+1,0,none⟩ (.int .i64 0)):=(KeepsOthers.setCell _ _ _).trans (KeepsOthers.setCell _ _ _);have hK2:=hKo.same D _ hK rfl;have B2:Blk ((W.setCell ⟨w.heap.size+1,0,none⟩ (.slice Am mm.length cm)).setCell ⟨w.heap.size+1+1,0,none⟩ (.int .i64 0)) (w.heap.size+1) 35 #[.slice Am mm.length cm]:=(Blk.set_ b2 0 (.slice Am mm.length cm)).far (by show w.heap.size+1≠w.heap.size+1+1;omega) _
  have B3:Blk ((W.setCell ⟨w.heap.size+1,0,none⟩ (.slice Am mm.length cm)).setCell ⟨w.heap.size+1+1,0,none⟩ (.int .i64 0)) (w.heap.size+1+1) 52 #[.int .i64 0]:=((Blk.far b3 (p:=⟨w.heap.size+1,0,none⟩) (by show w.heap.size+1+1≠w.heap.size+1;omega) (.slice Am mm.length cm))).set_ 0 _
  have hx5:=(hx.far (g:=w.heap.size+1) (fun h=>by have:=h.1;omega) 0 (.slice Am mm.length cm)).far (g:=w.heap.size+1+1) (fun h=>by have:=h.1;omega) 0 (.int .i64 0)
  have hB5:=(hB.setCell (p:=⟨w.heap.size+1,0,none⟩) (by show w.heap.size≤w.heap.size+1;omega) (.slice Am mm.length cm)).setCell (p:=⟨w.heap.size+1+1,0,none⟩) (by show w.heap.size≤w.heap.size+1+1;omega) (.int .i64 0)
  generalize ((W.setCell ⟨w.heap.size+1,0,none⟩ (.slice Am mm.length cm)).setCell ⟨w.heap.size+1+1,0,none⟩ (.int .i64 0))=W5 at hK2 B2 B3 hx5 hB5 ⊢;refine ⟨by simp,.inl ⟨_,_,rfl,run_takeDeferred hK2,?_⟩⟩
  have hgp:=grownBy_putObj' W5 D (.deferred none);have hrp:∀ r,some D=some r→∃ o:Obj,W5.heap[r]?=some o∧o.isCells=false:=fun r e=>by cases e;exact ⟨_,hK2,rfl⟩
  replace B2:=Blk.own B2 hgp hrp;replace B3:=Blk.own B3 hgp hrp;have hx6:=hx5.keepX (KpS.grown (gm:=w2.heap.size) hgp hrp) (fun b hb=>hb.2)
  have hB6:=hB5.trans (belowK_b (w:=w) (zic _) W5 D _ (.deferred none) (by omega) hK2 rfl rfl)
  generalize W5.putObj D (.deferred none)=W6 at B2 B3 hx6 hB6 ⊢;obtain ⟨u2,v2⟩:=B2.rules;obtain ⟨u3,v3⟩:=B3.rules;rw [hS] at hmg;refine ⟨.tuple #[.slice Am mm.length cm,.int .i64 0],by simp [results,Tryz.results40,go_sem,u2,u3],mm,Am,cm,rfl,hmg,hch,hml,hx6.more (fun b hb=>by have:=hb.1;omega),hB6⟩
 case stop=>
  rintro D cc pre W _ _ h _;exact h.elim
