/- A part of the proof. -/
import Derived.Test.YtcapmeefiglfjaaGreatHostCopy
import Derived.Deep.WholeRow
set_option linter.unusedSimpArgs false
set_option maxHeartbeats 8000000
set_option maxRecDepth 100000
namespace Go.Proofs.YtcapmeefiglfjaaGreat
open Go.RowKit
end Go.Proofs.YtcapmeefiglfjaaGreat
namespace Go.Proofs.YtcapmeefiglfjaaGreat
open Go.RowKit Go.WideShapes Go.ChangeShapes Go.Deep Go.Joins
end Go.Proofs.YtcapmeefiglfjaaGreat
namespace Go.Proofs.YtcapmeefiglfjaaGreat
open Go.RowKit
theorem xT (r:Rc) (v:Value) (K:Nat→Prop) (w:World) (hr:lZ r) (hv:IsB w K v r.data) :
 Calls Tryz.prog 168 #[rcV r v] w fun e w'=>e=.returned (.tuple #[.int .i64 (sO r),.int .i64 (recL r).2])∧Below w.heap.size w w':=by
 have hv0:=hv;obtain ⟨A,c,rfl,hl47⟩:=aK hv;have hrec:=fun W h=>yL r (.slice A r.data.length c) K W hr h
 have hln:=kU hr;unfold sO;generalize recL r=y at hrec hln ⊢;obtain ⟨fb,fe⟩:=y;simp only at hrec hln ⊢;unfold rcV at hrec ⊢;have E:=((Kn.start w).give aB.bytes hv0).push 117 #[.int .i64 r.kind,.int .i64 r.lba,.int .i64 r.n,.int .i64 r.ver,.int .i64 r.zone,.int .i64 r.off,.slice A r.data.length c];obtain ⟨h1,h2⟩:=hln;by_cases hfe:fe=0
 · subst hfe
   have h3:=h2 rfl;rw [zig (by simp)]
   clear h2;go_enter Tryz.func168,Tryz.ntmps168
   go_wp2_with fail;refine (hrec _ (E.get m0)).mono ?_;rintro e w1 ⟨A4,c4,rfl,own4,hb4⟩;replace E:=E.step hb4;obtain ⟨q0,f0,t0⟩:=E.rules m0;go_wp2;refine zik (v:=.tuple #[.int .i64 (fb.length-4-r.data.length),.int .i64 0]) (by simp [results,Tryz.results168,go_sem]) rfl ⟨rfl,E.below⟩
 · rw [zij hfe]
   have hf2:(fe != 0)=true:=by simpa using hfe
   clear h2 hfe;go_enter Tryz.func168,Tryz.ntmps168
   go_wp2_with fail;refine (hrec _ (E.get m0)).mono ?_;rintro e w1 ⟨A4,c4,rfl,own4,hb4⟩;replace E:=E.step hb4;obtain ⟨q0,f0,t0⟩:=E.rules m0;go_wp2;refine zik (v:=.tuple #[.int .i64 0,.int .i64 fe]) (by simp [results,Tryz.results168,go_sem]) rfl ⟨rfl,E.below⟩
theorem IsL.fd_at {w:World} {K:Nat→Prop} {A:Option Addr} {n c:Nat} {l:List Fd} (h:IsL Rp.fd w K (.slice A n c) l) {j:Nat} {f:Fd} (hj:l[j]?=some f) :
 ∃ ad A1 c1 A2 c2,A=some ad∧K ad.block∧IsL Rp.rc w K (.slice A1 f.l.length c1) f.l∧IsL Rp.int w K (.slice A2 f.at_.length c2) f.at_ ∧
   w.cell? (ad.add (j*7))=some (.bool f.head)∧w.cell? ⟨(ad.add (j*7)).block,(ad.add (j*7)).off+1,none⟩=some (.int .i64 f.h.host)∧w.cell? ⟨(ad.add (j*7)).block,(ad.add (j*7)).off+2,none⟩=some (.int .i64 f.h.epoch) ∧
   w.cell? ⟨(ad.add (j*7)).block,(ad.add (j*7)).off+3,none⟩=some (.int .i64 f.h.seq)∧w.cell? ⟨(ad.add (j*7)).block,(ad.add (j*7)).off+4,none⟩=some (.slice A1 f.l.length c1)∧w.cell? ⟨(ad.add (j*7)).block,(ad.add (j*7)).off+5,none⟩=some (.slice A2 f.at_.length c2) ∧
   w.cell? ⟨(ad.add (j*7)).block,(ad.add (j*7)).off+6,none⟩=some (.int .i64 f.used):=by
 obtain ⟨ad,es,hA,hKad,hes,hcell⟩:=h.at_ hj;obtain ⟨vl,va,rfl,h1,h2⟩:=hes;obtain ⟨A1,c1,rfl,_⟩:=h1.form;obtain ⟨A2,c2,rfl,_⟩:=h2.form;have hsz7:Rp.fd.size=7:=rfl;rw [hsz7] at hcell;refine ⟨ad,A1,c1,A2,c2,hA,hKad,h1,h2,?_,?_,?_,?_,?_,?_,?_⟩
 · rw [←cW (ad.add (j*7))];exact hcell 0 _ rfl
 · rw [←bT _ 1 (by decide)];exact hcell 1 _ rfl
 · rw [←bT _ 2 (by decide)];exact hcell 2 _ rfl
 · rw [←bT _ 3 (by decide)];exact hcell 3 _ rfl
 · rw [←bT _ 4 (by decide)];exact hcell 4 _ rfl
 · rw [←bT _ 5 (by decide)];exact hcell 5 _ rfl
 · rw [←bT _ 6 (by decide)];exact hcell 6 _ rfl
def newR (n:Int) (l:List Rc):Int:=l.foldl (fun n r=>max n r.ver) n
def newF (n:Int) (l:List Fd):Int:=l.foldl (fun n f=>newR n f.l) n
theorem zdg {l:List Rc} {j:Nat} (n:Int) (hj:j<l.length):newR n (l.take (j+1))=max (newR n (l.take j)) l[j].ver:=by
 unfold newR;rw [gG (r:=l[j]) _ (zib hj),zjp];rfl
theorem zdt {l:List Fd} {j:Nat} (n:Int) (hj:j<l.length):newF n (l.take (j+1))=newR (newF n (l.take j)) l[j].l:=by
 unfold newF;rw [gG (r:=l[j]) _ (zib hj),zjp];rfl
theorem yP (d:Zd) (A:Option Addr) (c:Nat) (K:Nat→Prop) (w:World) (hv:IsL Rp.zone w K (.slice A d.z.length c) d.z) (hd:okD d) (hS:∀ z∈d.z,vS z.d) :
 Calls Tryz.prog 41 #[.agg #[.int .i64 d.cap,.int .i64 d.opn,.int .i64 d.act,.slice A d.z.length c]] w fun e w'=>e=.returned (.int .i64 (newF 0 (bA d.z)))∧Below w.heap.size w w':=by
 have hfo:=fun W h=>xX d A c K W h hd hS
 have hfl:(bA d.z).length=d.z.length:=by unfold bA;rw [zjr]
 have E:=((Kn.start w).give aB.list hv).push 26 #[.int .i64 d.cap,.int .i64 d.opn,.int .i64 d.act,.slice A d.z.length c];obtain ⟨n,hn⟩:∃ n,d.z.length=n:=⟨_,rfl⟩;have hn64:=hd.1.2.1;obtain ⟨fs,hfs⟩:∃ fs,bA d.z=fs:=⟨_,rfl⟩;rw [hfs] at hfl hfo ⊢;rw [hn] at hfo hfl hn64 E hv ⊢;have HFL:=zia hfl;clear hfl hn hd hfs;go_enter Tryz.func41,Tryz.ntmps41
 go_wp2_with fail;refine (hfo _ (E.get m0)).mono ?_;rintro x w2 ⟨Ao,co,rfl,hfd,hb2⟩;replace E:=(E.step hb2).give aB.list hfd;clear hfo hv hb2;have hE:=E.below.size;go_wp2_with fail;go_loopw [3,5,7,11] (fun x3 x5 x7 x11 wr=>∃ j:Nat,x11=.int .i64 j∧j≤n∧x3=.int .i64 (newF 0 (fs.take j))∧Below w2.heap.size w2 wr∧(∃ y,x5=y)∧∃ y,x7=y) (fun _ _ _ x11 _=>n-(intOf x11).toNat)
 case atStart=>exact ⟨0,rfl,zir _,rfl,zif _ _,⟨_,rfl⟩,_,rfl⟩
 case round=>
  obtain ⟨j,rfl,hj,rfl,hb,⟨y,rfl⟩,y7,rfl⟩:=hrel;have F:=E.step hb;by_cases hlt:j<n
  case neg=>
   obtain rfl:j=n:=by omega
   rw [zip (by rw [HFL.out];exact zic _)]
   clear E;go_wp2;go_ret;exact ⟨rfl,F.below⟩
  have hlt':j<fs.length:=by rw [HFL.out];exact hlt
  have HN:=zia (zdt 0 hlt');obtain ⟨ad,A1,c1,A2,c2,rfl,hK,hl,-,k0,k1,k2,k3,k4,k5,k6⟩:=IsL.fd_at (F.get m0) (zib hlt');generalize fs[j]=f at hl HN k0 k1 k2 k3 k4 k5 k6;generalize newF 0 (fs.take j)=N0 at HN ⊢;have j1:(j:Int)<(n:Int):=by omega
  have j0:(0:Int)≤(j:Int):=by omega
  obtain ⟨fn,hfn⟩:∃ fn,f.l.length=fn:=⟨_,rfl⟩;have hfn2:=hl.len;rw [hfn] at hl k4 hfn2;have HFN:=zia hfn;clear hfn;go_wp2_with fail;replace F:=(F.give aB.list hl).push 192 #[.bool f.head,.int .i64 f.h.host,.int .i64 f.h.epoch,.int .i64 f.h.seq,.slice A1 fn c1,.slice A2 f.at_.length c2,.int .i64 f.used];clear k0 k1 k2 k3 k4 k5 k6 E;have hbo:=hb.alloc hb.size (.cells #[.bool f.head,.int .i64 f.h.host,.int .i64 f.h.epoch,.int .i64 f.h.seq,.slice A1 fn c1,.slice A2 f.at_.length c2,.int .i64 f.used] 192);clear hl hb;generalize wr.alloc (.cells #[.bool f.head,.int .i64 f.h.host,.int .i64 f.h.epoch,.int .i64 f.h.seq,.slice A1 fn c1,.slice A2 f.at_.length c2,.int .i64 f.used] 192)=wo at F hbo ⊢;generalize wr.heap.size=go at F ⊢;clear wr;go_loopw [3,7,18] (fun x3 x7 x18 wr=>∃ i:Nat,x18=.int .i64 i∧i≤fn∧x3=.int .i64 (newR N0 (f.l.take i))∧Below wo.heap.size wo wr∧∃ y,x7=y) (fun _ _ x18 _=>fn-(intOf x18).toNat)
  case atStart=>exact ⟨0,rfl,zir _,rfl,zif _ _,_,rfl⟩
  case round=>
   obtain ⟨i,rfl,hi,rfl,hb,y,rfl⟩:=hrel;have G:=F.step hb;by_cases hilt:i<fn
   case neg=>
    obtain rfl:i=fn:=by omega
    rw [zip (by rw [HFN.out];exact zic _)]
    clear F;go_wp2_with fail;go_roundw
    case rel=>exact ⟨j+1,by go_num,by omega,by rw [HN.out],hbo.trans (hb.mono hbo.size),⟨_,rfl⟩,_,rfl⟩
    case measure=>simp [intOf];omega
   have hilt':i<f.l.length:=by rw [HFN.out];exact hilt
   have HR:=zia (zdg N0 hilt');obtain ⟨ad',Ad,cd,rfl,hKa,-,-,k0,k1,k2,k3,k4,k5,k6⟩:=zbs (G.get m0) (zib hilt');generalize f.l[i]=r at HR k0 k1 k2 k3 k4 k5 k6;generalize newR N0 (f.l.take i)=N1 at HR ⊢;have i1:(i:Int)<(fn:Int):=by omega
   have i0:(0:Int)≤(i:Int):=by omega
   go_wp2_with fail;go_roundw
   case rel=>exact ⟨i+1,by go_num,by omega,by rw [HR.out,Int.max_comm],hb.alloc hb.size _,_,rfl⟩
   case measure=>simp [intOf];omega
def leftS (s:Sp) (a:Int):Sp:=⟨s.from_,min s.till a,s.owner,s.epoch⟩
def rightS (s:Sp) (z:Int):Sp:=⟨max s.from_ z,s.till,s.owner,s.epoch⟩
def okS (s:Sp):Bool:=decide (s.from_<s.till)
def mX (a z:Int) (o:List Sp × Nat) (s:Sp):List Sp × Nat:=
 ((o.1++if okS (leftS s a)=true then [leftS s a] else [])++if okS (rightS s z)=true then [rightS s z] else [],
  if okS (leftS s a)=true∧(leftS s a).from_<a then o.1.length+1 else o.2)
theorem zeP {a z:Int} (o:List Sp × Nat) (s:Sp) (h:okS (leftS s a)=true→(leftS s a).from_<a) :
 mX a z o s=((o.1++if okS (leftS s a)=true then [leftS s a] else [])++if okS (rightS s z)=true then [rightS s z] else [],if okS (leftS s a)=true then o.1.length+1 else o.2):=by
 unfold mX;by_cases h1:okS (leftS s a)=true
 · simp [h1,h h1]
 · simp [h1]
theorem lL (s:Sp):∀ u∈kO s,u.oneCell'=true:=by
 intro u hu;simp only [kO,zim,ziJ,zju] at hu;rcases hu with rfl | rfl | rfl | rfl <;> rfl
def withoutS (a z:Int) (l:List Sp):List Sp × Nat:=l.foldl (mX a z) ([],0)
theorem tZ {a z:Int} {l:List Sp} {j:Nat} (hj:j<l.length):withoutS a z (l.take (j+1))=mX a z (withoutS a z (l.take j)) l[j]:=by
 unfold withoutS;rw [ziy hj,zjp];rfl
theorem kI (a z:Int):∀ (l:List Sp) (o:List Sp × Nat),(l.foldl (mX a z) o).1.length≤o.1.length+2*l.length
 | [],o=>by simp
 | s::l,o=>by
   have ih:=kI a z l (mX a z o s);have h1:(mX a z o s).1.length≤o.1.length+2:=by
    unfold mX;simp only [zie];split <;> split <;> simp
   rw [List.foldl_cons,List.length_cons];omega
theorem vR (A:Option Addr) (c:Nat) (l:List Sp) (a z:Int) (K:Nat→Prop) (w:World) (hv:IsL Rp.sp w K (.slice A l.length c) l) (haz:a<z) (hl:l.length≤1000000) :
 Calls Tryz.prog 42 #[.slice A l.length c,.int .i64 a,.int .i64 z] w fun e w'=>∃ Ao co,e=.returned (.tuple #[.slice Ao (withoutS a z l).1.length co,.int .i64 (withoutS a z l).2]) ∧
  w'.ownsRow w.heap.size 126 4 (.slice Ao (withoutS a z l).1.length co) (withoutS a z l).1.length ((withoutS a z l).1.flatMap kO)∧Below w.heap.size w w':=by
 have E:=(Kn.start w).give aB.list hv;obtain ⟨n,hn⟩:∃ n,l.length=n:=⟨_,rfl⟩;rw [hn] at E hl ⊢;have HN:=zia hn;have HWL:=zia fun j=>kI a z (l.take j) ([],0)
 clear hn hv;obtain ⟨i0,hi,hz0,hz1,hz2⟩:=ziH Tryz.infS;go_enter Tryz.func42,Tryz.ntmps42
 go_upto_region 2 with fail;go_loopw [6,7,9,10,11,14] (fun x6 x7 x9 x10 x11 x14 wr=>∃ (j:Nat) (o:List Sp) (t at_:Nat) (Ao:Option Addr) (co:Nat),x14=.int .i64 j∧j≤n∧Hid ((o,at_)=withoutS a z (l.take j))∧Hid (o.length=t)∧t≤2*j∧x6=.slice Ao t co∧x7=.int .i64 at_∧wr.ownsRow w.heap.size 126 4 (.slice Ao t co) t (o.flatMap kO)∧Below w.heap.size w wr∧(∃ y,x9=y)∧(∃ y,x10=y)∧∃ y,x11=y) (fun _ _ _ _ _ x14 _=>n-(intOf x14).toNat)
 case atStart=>exact ⟨0,[],0,0,none,0,rfl,zir _,zia rfl,zia rfl,by omega,rfl,rfl,zin _ _ _ _,zif _ _,⟨_,rfl⟩,⟨_,rfl⟩,_,rfl⟩
 case round=>
  obtain ⟨j,o,t,at_,Ao,co,rfl,hj,ho,hto,htj,rfl,rfl,own,hb,⟨y9,rfl⟩,⟨y10,rfl⟩,y11,rfl⟩:=hrel;have F:=E.step hb;by_cases hlt:j<n
  case neg=>
   obtain rfl:j=n:=by omega
   have hw:=ho.out;rw [zip (by rw [HN.out];exact zic _)] at hw
   have HW:=zia hw;clear hw E;go_wp2;refine zik (v:=.tuple #[.slice Ao t co,.int .i64 at_]) (by simp [results,Tryz.results42,go_sem]) rfl ?_
   rw [←HW.out];simp only [hto.out];exact ⟨Ao,co,rfl,own,F.below⟩
  have hlt':j<l.length:=by rw [HN.out];exact hlt
  have HT:=zia (tZ (a:=a) (z:=z) hlt');obtain ⟨ad,rfl,-,c0,c1,c2,c3⟩:=zfM (F.get m0) (zib hlt');generalize l[j]=s at HT c0 c1 c2 c3;have j1:(j:Int)<(n:Int):=by omega
  have j0:(0:Int)≤(j:Int):=by omega
  go_upto_region 4 with fail;have HK0:Blk (wr.alloc (.cells #[.int .i64 s.from_,.int .i64 s.till,.int .i64 s.owner,.int .i64 s.epoch] 126)) wr.heap.size 126 #[.int .i64 s.from_,.int .i64 s.till,.int .i64 s.owner,.int .i64 s.epoch]:=Blk.new _ _ _ rfl;have hb1:=hb.alloc hb.size (.cells #[.int .i64 s.from_,.int .i64 s.till,.int .i64 s.owner,.int .i64 s.epoch] 126);have own1:=aD own ((zif wr.heap.size wr).alloc (zic _) (.cells #[.int .i64 s.from_,.int .i64 s.till,.int .i64 s.owner,.int .i64 s.epoch] 126)) (zic _);clear c0 c1 c2 c3 own F;generalize wr.alloc (.cells #[.int .i64 s.from_,.int .i64 s.till,.int .i64 s.owner,.int .i64 s.epoch] 126)=wb at HK0 hb1 own1 ⊢;generalize wr.heap.size=gs at HK0 ⊢;go_cut [10,11] (fun x10 x11 wx=>∃ gl gr,x10=.pointer (some ⟨gl,0,none⟩)∧x11=.pointer (some ⟨gr,0,none⟩)∧gl≠gr∧wb.heap.size≤gl∧wb.heap.size≤gr∧Blk wx gl 126 #[.int .i64 s.from_,.int .i64 s.till,.int .i64 s.owner,.int .i64 s.epoch]∧Blk wx gr 126 #[.int .i64 s.from_,.int .i64 s.till,.int .i64 s.owner,.int .i64 s.epoch]∧Below wb.heap.size wb wx)
  case first=>
   have HK:Hid (∀ W,Below wb.heap.size wb W→∀ o,W.cell? ⟨gs,o,none⟩=(#[.int .i64 s.from_,.int .i64 s.till,.int .i64 s.owner,.int .i64 s.epoch]:Array Value)[o]?):=zia fun W hb=>(HK0.step hb).rules.1
   have hbx:Below wb.heap.size wb wb.drew:=(zif _ _).drew;refine wp_region_held_drew (S:=fun W=>∀ o,W.cell? ⟨gs,o,none⟩=(#[.int .i64 s.from_,.int .i64 s.till,.int .i64 s.owner,.int .i64 s.epoch]:Array Value)[o]?) (by kernel_rfl) (HK.out _ hbx) (fun hHeld=>?_)
   generalize wb.drew=wx at hbx hHeld ⊢;refine wT 0 18 ?_;refine wT 1 19 ?_;refine wpAnyH_ready (rs:=[2,3]) (by kernel_rfl) (by simp) ?_
   refine AllReadyH.cons (o:=⟨some 10,_,_,_,_,_⟩) rfl (fun K hK=>?_) ?_
   · obtain ⟨gl,hgl⟩:∃ gl,wx.heap.size=gl:=⟨_,rfl⟩
     go_simp;try rw [hgl]
     refine bD (K:=K _) ?_;intro wx hby hBl;rw [hgl] at hBl;have hll:wb.heap.size≤gl:=by rw [←hgl];exact hbx.size
     first | (have hne:gl≠gr:=by have:=hBr.lt;omega) | skip
     first | replace hBr:=hBr.step hby | skip
     replace hbx:=hbx.trans (hby.mono hbx.size);refine hK.out _ _ (HK.out _ hbx) (fun hHeld=>?_)
     clear hK K;try simp only [pu,List.set]
     refine wR 3 11 (fun K hK=>?_)
     obtain ⟨gr,hgr⟩:∃ gr,wx.heap.size=gr:=⟨_,rfl⟩;go_simp;try rw [hgr]
     refine bD (K:=K _) ?_;intro wx hby hBr;rw [hgr] at hBr;have hlr:wb.heap.size≤gr:=by rw [←hgr];exact hbx.size
     first | (have hne:gl≠gr:=by have:=hBl.lt;omega) | skip
     first | replace hBl:=hBl.step hby | skip
     replace hbx:=hbx.trans (hby.mono hbx.size);refine hK.out _ _ (HK.out _ hbx) (fun hHeld=>?_)
     clear hK K;try simp only [pu,List.set]
     refine wRn 4 (fun K hK=>?_)
     obtain ⟨q0,f0⟩:=hBl.rules;have t0:=hBl.lt;go_simp;refine dI (K:=K _) hBl _ _ _ _ ?_;intro wx hsx htx hBl';replace hBr:=hBr.turned htx (by first | exact hne | exact hne.symm)
     replace hbx:=aA.upon hbx htx hll (zic _);clear q0 f0 t0 hBl;have hBl:=hBl';refine hK.out _ _ (HK.out _ hbx) (fun hHeld=>?_)
     clear hK K;try simp only [pu,List.set]
     refine wRn 5 (fun K hK=>?_)
     obtain ⟨q0,f0⟩:=hBr.rules;have t0:=hBr.lt;go_simp;refine dI (K:=K _) hBr _ _ _ _ ?_;intro wx hsx htx hBr';replace hBl:=hBl.turned htx (by first | exact hne | exact hne.symm)
     replace hbx:=aA.upon hbx htx hlr (zic _);clear q0 f0 t0 hBr;have hBr:=hBr';refine hK.out _ _ (HK.out _ hbx) (fun hHeld=>?_)
     clear hK K;try simp only [pu,List.set]
     refine wpAnyH_done (by kernel_rfl) ?_ _
     go_wp2_with fail;go_meet;exact ⟨gl,gr,rfl,rfl,hne,hll,hlr,hBl,hBr,hbx⟩
   refine AllReadyH.cons (o:=⟨some 11,_,_,_,_,_⟩) rfl (fun K hK=>?_) ?_
   · obtain ⟨gr,hgr⟩:∃ gr,wx.heap.size=gr:=⟨_,rfl⟩
     go_simp;try rw [hgr]
     refine bD (K:=K _) ?_;intro wx hby hBr;rw [hgr] at hBr;have hlr:wb.heap.size≤gr:=by rw [←hgr];exact hbx.size
     first | (have hne:gl≠gr:=by have:=hBl.lt;omega) | skip
     first | replace hBl:=hBl.step hby | skip
     replace hbx:=hbx.trans (hby.mono hbx.size);refine hK.out _ _ (HK.out _ hbx) (fun hHeld=>?_)
     clear hK K;try simp only [pu,List.set]
     refine wR 2 10 (fun K hK=>?_)
     obtain ⟨gl,hgl⟩:∃ gl,wx.heap.size=gl:=⟨_,rfl⟩;go_simp;try rw [hgl]
     refine bD (K:=K _) ?_;intro wx hby hBl;rw [hgl] at hBl;have hll:wb.heap.size≤gl:=by rw [←hgl];exact hbx.size
     first | (have hne:gl≠gr:=by have:=hBr.lt;omega) | skip
     first | replace hBr:=hBr.step hby | skip
     replace hbx:=hbx.trans (hby.mono hbx.size);refine hK.out _ _ (HK.out _ hbx) (fun hHeld=>?_)
     clear hK K;try simp only [pu,List.set]
     refine wRn 4 (fun K hK=>?_)
     obtain ⟨q0,f0⟩:=hBl.rules;have t0:=hBl.lt;go_simp;refine dI (K:=K _) hBl _ _ _ _ ?_;intro wx hsx htx hBl';replace hBr:=hBr.turned htx (by first | exact hne | exact hne.symm)
     replace hbx:=aA.upon hbx htx hll (zic _);clear q0 f0 t0 hBl;have hBl:=hBl';refine hK.out _ _ (HK.out _ hbx) (fun hHeld=>?_)
     clear hK K;try simp only [pu,List.set]
     refine wRn 5 (fun K hK=>?_)
     obtain ⟨q0,f0⟩:=hBr.rules;have t0:=hBr.lt;go_simp;refine dI (K:=K _) hBr _ _ _ _ ?_;intro wx hsx htx hBr';replace hBl:=hBl.turned htx (by first | exact hne | exact hne.symm)
     replace hbx:=aA.upon hbx htx hlr (zic _);clear q0 f0 t0 hBr;have hBr:=hBr';refine hK.out _ _ (HK.out _ hbx) (fun hHeld=>?_)
     clear hK K;try simp only [pu,List.set]
     refine wpAnyH_done (by kernel_rfl) ?_ _
     go_wp2_with fail;go_meet;exact ⟨gl,gr,rfl,rfl,hne,hll,hlr,hBl,hBr,hbx⟩
   exact AllReadyH.nil
  case rest=>
   obtain ⟨gl,gr,rfl,rfl,hne,hll,hlr,hBl,hBr,hbx⟩:=hcut;have HKc:Hid (∀ W,Below wb.heap.size wb W→∀ o,W.cell? ⟨gs,o,none⟩=(#[.int .i64 s.from_,.int .i64 s.till,.int .i64 s.owner,.int .i64 s.epoch]:Array Value)[o]?):=zia fun W hb=>(HK0.step hb).rules.1
   go_upto_region 6 with fail;have hbx2:Below wc.heap.size wc wc.drew:=(zif _ _).drew;replace hBl:=hBl.step hbx2;replace hBr:=hBr.step hbx2;replace hbx:=hbx.trans (hbx2.mono hbx.size);refine wp_region_held_drew (S:=fun W=>∀ o,W.cell? ⟨gs,o,none⟩=(#[.int .i64 s.from_,.int .i64 s.till,.int .i64 s.owner,.int .i64 s.epoch]:Array Value)[o]?) (by kernel_rfl) (HKc.out _ hbx) (fun hHeld=>?_)
   generalize wc.drew=wx at hbx hBl hBr hHeld ⊢;clear hbx2;refine wT 0 23 ?_;refine wT 1 24 ?_;refine wT 2 25 ?_;refine wT 3 26 ?_;refine wT 4 27 ?_;refine wT 5 28 ?_;refine wT 6 29 ?_;refine wT 7 30 ?_;refine wT 8 31 ?_;refine wRn 9 (fun K hK=>?_)
   obtain ⟨q0,f0⟩:=hBl.rules;have t0:=hBl.lt;go_simp;refine cF (K:=K _) hBl 1 _ ?_;intro wy hsx htx hBl';replace hBr:=hBr.turned htx hne.symm;replace hbx:=aA.upon hbx htx hll (zic _);clear q0 f0 t0 hBl;refine hK.out _ _ (HKc.out _ hbx) (fun hHeld=>?_)
   clear hK K;refine wT 10 32 ?_;refine wRn 11 (fun K hK=>?_)
   obtain ⟨q0,f0⟩:=hBr.rules;have t0:=hBr.lt;go_simp;refine cF (K:=K _) hBr 0 _ ?_;intro wz hsz htz hBr';replace hBl':=hBl'.turned htz hne;replace hbx:=aA.upon hbx htz hlr (zic _);clear q0 f0 t0 hBr;refine hK.out _ _ (HKc.out _ hbx) (fun hHeld=>?_)
   clear hK K;try simp only [pu,List.set]
   refine wpAnyH_done (by kernel_rfl) ?_ _
   have hBl2:Blk wz gl 126 #[.int .i64 (leftS s a).from_,.int .i64 (leftS s a).till,.int .i64 (leftS s a).owner,.int .i64 (leftS s a).epoch]:=hBl';have hBr2:Blk wz gr 126 #[.int .i64 (rightS s z).from_,.int .i64 (rightS s z).till,.int .i64 (rightS s z).owner,.int .i64 (rightS s z).epoch]:=hBr';have own2:=aD own1 hbx (zic _);have hrow:∀ k,(Value.slice Ao t co).ownBlock=some k→k<wb.heap.size:=fun k hk=>(own1.lt k hk).2
   have hbw:=hb1.trans (hbx.mono hb1.size);have hwz:=hbw.size;have hla:okS (leftS s a)=true→(leftS s a).from_<a:=fun h=>by unfold okS leftS at h;simp only [ziM] at h;unfold leftS;simp only;omega
   have HST:=zeP (a:=a) (z:=z) (o,at_) s hla;simp only at HST;generalize leftS s a=L at HST hla hBl2;generalize rightS s z=R at HST hBr2;have HS:=zia HST;clear HST hBl' hBr' HK0 HKc own1 hb1 hsx hsz htx htz;obtain ⟨q0,f0⟩:=hBl2.rules;obtain ⟨q1,f1⟩:=hBr2.rules;by_cases hL:L.from_<L.till
   · have hLa:L.from_<a:=hla (ziu hL)
     have HL:=zia (show okS L=true from ziu hL);go_upto_region 12 with (at_builtin;refine aF rfl _ _ _ rfl w.heap.size 126 i0 _ 4 32 Tryz.underlying28 hi hz0 hz1 hz2 rfl (by omega) rfl (own2.alloc _) rfl (aG.new (xs:=kO L) (n:=1) rfl rfl rfl) (lL L) (by simp only [maxLen];omega) (by omega) (by rw [zid];omega) ?_;intro A8 c8 w8 own8 hg8;have hBl3:=((hBl2.alloc (.cells (kO L).toArray 126)).grown hg8.grown (fun e=>by have:=hrow gl e.symm;omega));obtain ⟨q2,f2⟩:=hBl3.rules)
     have hBr3:=((hBr2.alloc (.cells (kO L).toArray 126)).grown hg8.grown (fun e=>by have:=hrow gr e.symm;omega))
     have own9:w8.ownsRow w.heap.size 126 4 (.slice A8 (t+1) c8) (t+1) ((o++[L]).flatMap kO):=by rw [ziS];simpa using own8
     have hb8:=(hbw.alloc hwz (.cells (kO L).toArray 126)).trans hg8.below;have hw8:=hb8.size;clear q0 f0 q1 f1 own8 hBr2 hBl2 own2;obtain ⟨q1,f1⟩:=hBr3.rules;by_cases hR:R.from_<R.till
     · have HR:=zia (show okS R=true from ziu hR)
       go_upto_region 14 with (at_builtin;refine aF rfl _ _ _ rfl w.heap.size 126 i0 _ 4 32 Tryz.underlying28 hi hz0 hz1 hz2 rfl (by omega) rfl (own9.alloc _) rfl (aG.new (xs:=kO R) (n:=1) rfl rfl rfl) (lL R) (by simp only [maxLen];omega) (by omega) (by rw [zid];omega) ?_;intro A10 c10 w10 own10 hg10)
       have own11:w10.ownsRow w.heap.size 126 4 (.slice A10 (t+1+1) c10) (t+1+1) (((o++[L])++[R]).flatMap kO):=by rw [ziS];simpa using own10
       have hb10:=(hb8.alloc hw8 (.cells (kO R).toArray 126)).trans hg10.below;go_wp2_with fail;go_roundw
       case rel=>exact ⟨j+1,((o++[L])++[R]),(t+1+1),(t+1),A10,c10,by go_num,by omega,zia (by rw [HT.out,←ho.out];exact by rw [HS.out,zij HL.out,zij HR.out,zij HL.out,hto.out]),zia (by rw [zie,zie,hto.out];rfl),by omega,rfl,by go_num,by exact own11,hb10,⟨_,rfl⟩,⟨_,rfl⟩,_,rfl⟩
       case measure=>simp [intOf];omega
     · have HR:=zia (show ¬okS R=true from fun h=>hR (zjJ h))
       go_wp2_with fail;go_roundw
       case rel=>exact ⟨j+1,(o++[L]),(t+1),(t+1),A8,c8,by go_num,by omega,zia (by rw [HT.out,←ho.out];exact by rw [HS.out,zij HL.out,zig HR.out,zij HL.out,hto.out,ziz]),zia (by rw [zie,hto.out];rfl),by omega,rfl,by go_num,by exact own9,hb8,⟨_,rfl⟩,⟨_,rfl⟩,_,rfl⟩
       case measure=>simp [intOf];omega
   · have HL:=zia (show ¬okS L=true from fun h=>hL (zjJ h))
     by_cases hR:R.from_<R.till
     · have HR:=zia (show okS R=true from ziu hR)
       go_upto_region 14 with (at_builtin;refine aF rfl _ _ _ rfl w.heap.size 126 i0 _ 4 32 Tryz.underlying28 hi hz0 hz1 hz2 rfl (by omega) rfl (own2.alloc _) rfl (aG.new (xs:=kO R) (n:=1) rfl rfl rfl) (lL R) (by simp only [maxLen];omega) (by omega) (by rw [zid];omega) ?_;intro A10 c10 w10 own10 hg10)
       have own11:w10.ownsRow w.heap.size 126 4 (.slice A10 (t+1) c10) (t+1) ((o++[R]).flatMap kO):=by rw [ziS];simpa using own10
       have hb10:=(hbw.alloc hwz (.cells (kO R).toArray 126)).trans hg10.below;go_wp2_with fail;go_roundw
       case rel=>exact ⟨j+1,(o++[R]),(t+1),at_,A10,c10,by go_num,by omega,zia (by rw [HT.out,←ho.out];exact by rw [HS.out,zig HL.out,zij HR.out,zig HL.out,ziz]),zia (by rw [zie,hto.out];rfl),by omega,rfl,by go_num,by exact own11,hb10,⟨_,rfl⟩,⟨_,rfl⟩,_,rfl⟩
       case measure=>simp [intOf];omega
     · have HR:=zia (show ¬okS R=true from fun h=>hR (zjJ h))
       go_wp2_with fail;go_roundw
       case rel=>exact ⟨j+1,o,t,at_,Ao,co,by go_num,by omega,zia (by rw [HT.out,←ho.out];exact by rw [HS.out,zig HL.out,zig HR.out,zig HL.out,ziz,ziz]),zia (by exact hto.out),by omega,rfl,by go_num,by exact own2,hbw,⟨_,rfl⟩,⟨_,rfl⟩,_,rfl⟩
       case measure=>simp [intOf];omega
theorem kJ:(Tryz.prog.info? 37).map (·.size)=some 15:=by kernel_rfl
theorem nG:∃ d,Tryz.prog.underlying 37=some d∧d.isRow=true:=⟨_,Tryz.underlying37,rfl⟩
theorem dU {W:World} {g:Nat} {cs:Array Value} {o:Oper} {x:Operand} {a:Act} (hS:∀ o,W.cell? ⟨g,o,none⟩=cs[o]?) (hn:cs.size=15) (ho:o.op=.load 37 x) (hx:a.eval x=.pointer (some ⟨g,0,none⟩)) :
 (execOp a.eval o).run Tryz.prog W=.ok (.value (.agg cs)) W:=by
 obtain ⟨d,hu,hd⟩:=nG;have hr:W.rangeAt g 0 cs.toList:=fun j v hv=>by rw [zj5,hS j,←hv,ziU]
 have:=run_loadVar_mid (P:=Tryz.prog) W g 0 37 cs.toList d hr hu hd (by rw [kJ,Array.length_toList,hn])
 unfold execOp;simp only [ho,hx,Instr.loadAt,Instr.sureAddr,zkg,Sem.run_pure,Result.andThen_ok,this,Array.toArray_toList]
section
variable {ops:Array Oper} {rest:List Oper} {o:Oper} {a:Act} {w:World} {Q:Exit→Act→World→Prop} {x y:Operand} {g:Nat} {t:TypeId} {cs cs':Array Value}
theorem eG (hB:Blk w g t cs) (hn:cs.size=15) (hgd:o.guard=none) (ho:o.op=.load 37 x) (hx:a.eval x=.pointer (some ⟨g,0,none⟩))
 (h:wpList Tryz.prog ops Q rest (a.put o.dst (.agg cs)) w):wpList Tryz.prog ops Q (o::rest) a w:=by
 obtain ⟨d,hu,hd⟩:=nG;exact wpList_load_row hgd _ x ho g hx t cs (0,0) d hB hu (by cases d <;> simp_all [TypeDesc.isRow]) (by rw [kJ,hn]) h
theorem aT (hB:Blk w g t cs):(w.setRow g cs').heap.size=w.heap.size∧aA w (w.setRow g cs') (fun b=>b=g)∧Blk (w.setRow g cs') g t cs':=by
 refine ⟨by simp [World.setRow],⟨rfl,rfl,rfl,by simp [World.setRow],fun k hk hn=>?_⟩,zjT w g cs cs' t (0,0) hB⟩
 unfold World.setRow;simp only [zjW];rw [zig (fun e=>hn e.symm)]
theorem jT (hB:Blk w g t cs) (hn:cs.size=15) (hgd:o.guard=none) (ho:o.op=.store 37 x y) (hx:a.eval x=.pointer (some ⟨g,0,none⟩)) (hy:a.eval y=.agg cs') (hn':cs'.size=15) (h1:cs'.toList.all (·.oneCell')=true)
 (h:∀ w',w'.heap.size=w.heap.size→aA w w' (fun b=>b=g)→Blk w' g t cs'→wpList Tryz.prog ops Q rest (a.put o.dst undef) w'):wpList Tryz.prog ops Q (o::rest) a w:=
 wpList_store_row hgd _ x y ho g cs' hx hy t cs hB (by rw [kJ,hn']) (by rw [hn,hn']) (by rw [←zkC];exact h1) (h _ (aT hB).1 (aT hB).2.1 (aT hB).2.2)
theorem sD:(Tryz.prog.info? 26).map (·.size)=some 4:=by kernel_rfl
theorem eU (hB:Blk w g t cs) (hn:cs.size=4) (hgd:o.guard=none) (ho:o.op=.store 26 x y) (hx:a.eval x=.pointer (some ⟨g,0,none⟩)) (hy:a.eval y=.agg cs') (hn':cs'.size=4) (h1:cs'.toList.all (·.oneCell')=true)
 (h:∀ w',w'.heap.size=w.heap.size→aA w w' (fun b=>b=g)→Blk w' g t cs'→wpList Tryz.prog ops Q rest (a.put o.dst undef) w'):wpList Tryz.prog ops Q (o::rest) a w:=
 wpList_store_row hgd _ x y ho g cs' hx hy t cs hB (by rw [sD,hn']) (by rw [hn,hn']) (by rw [←zkC];exact h1) (h _ (aT hB).1 (aT hB).2.1 (aT hB).2.2)
theorem iI (hgd:o.guard=none) (ho:o.op=.store 37 x y) (hx:a.eval x=.pointer (some ⟨w.heap.size,0,none⟩)) (hy:a.eval y=.agg cs') (hn:cs.size=15) (hn':cs'.size=15) (h1:cs'.toList.all (·.oneCell')=true)
 (h:wpList Tryz.prog ops Q rest (a.put o.dst undef) (w.alloc (.cells cs' t))):wpList Tryz.prog ops Q (o::rest) a (w.alloc (.cells cs t)):=by
 refine wpList_store_row hgd _ x y ho w.heap.size cs' hx hy t cs (Blk.new w t cs rfl) (by rw [kJ,hn']) (by rw [hn,hn']) (by rw [←zkC];exact h1) ?_
 rw [World.setRow_alloc_new];exact h
end
theorem qY (by_:UInt8) (n:Nat) (w:World) (hn:n≤65536) :
 Calls Tryz.prog 16 #[.int .u8 (by_.toNat:Int),.int .i64 n] w fun e w'=>∃ A c,e=.returned (.slice A n c)∧w'.ownsRow w.heap.size 5 1 (.slice A n c) n (aE (List.replicate n by_))∧Below w.heap.size w w':=by
 obtain ⟨i0,hi,hz0,hz1,hz2⟩:=ziH Tryz.info5;go_enter Tryz.func16,Tryz.ntmps16
 go_wp2_with (at_make;refine wpList_make_full _ rfl _ _ 31 rfl w.heap.size 5 i0 _ 1 Tryz.underlying31 hi hz0 hz1 _ _ _ _ n rfl rfl rfl rfl (by rw [hz2];omega) (by unfold maxLen;omega) (zic _) ?_;intro w1 how hg1)
 have hb1:Below w.heap.size w w1:=(zif _ _).grown hg1 (zic _) (fun k hk=>by cases hk)
 rw [zk0,show (Value.int .u8 0).cells=#[.int .u8 0] from rfl,zcl] at how;clear hg1;go_wp2_with fail;go_loopw [6,11] (fun x6 x11 wr=>∃ j m:Nat,j+m=n∧x11=.int .i64 j∧wr.ownsRow w.heap.size 5 1 (.slice (some ⟨w.heap.size,0,none⟩) n n) n (aE (List.replicate j by_++List.replicate m 0))∧Below w.heap.size w wr∧∃ y,x6=y) (fun _ x11 _=>n-(intOf x11).toNat)
 case atStart=>exact ⟨0,n,by omega,rfl,how,hb1,_,rfl⟩
 case round=>
  obtain ⟨j,m,hjm,rfl,hown,hb,y,rfl⟩:=hrel;rcases m with _ | m
  · obtain rfl:j=n:=by omega
    rw [List.replicate_zero,ziz] at hown;go_wp2;go_ret;exact ⟨_,_,rfl,hown,hb⟩
  · have hlt:j<n:=by omega
    obtain ⟨hg6,hgl,hfz,hcs⟩:=zgn hown;have hc8:=hcs j (.int .u8 0) (by unfold aE;rw [zj1,zjt (by simp),ziC,Nat.sub_self];rfl)
    have own8:=zgD hown j (.int .u8 (by_.toNat:Int));rw [zeI] at own8;have hb8:=hb.setCell (p:=⟨w.heap.size,j,none⟩) (zic _) (.int .u8 (by_.toNat:Int));have hfz8:=hfz j;have hbl:=by_.toNat_lt;have j1:(j:Int)<(n:Int):=by omega
    have j0:(0:Int)≤(j:Int):=by omega
    clear hfz hcs hown hb1 how;go_wp2;go_roundw
    case rel=>exact ⟨j+1,m,by omega,by go_num,own8,hb8,_,rfl⟩
    case measure=>simp [intOf];omega
