/- A part of the proof. -/
import Derived.Test.YtcapmeefiglfjaaGreatRef09
import Derived.BigQuiet
set_option maxHeartbeats 8000000
set_option maxRecDepth 100000
namespace Go.Proofs.YtcapmeefiglfjaaGreat
open Go.RowKit
theorem IsL.cut1 {α:Type} {R:Rp α} {w:World} {K:Nat→Prop} {ad:Addr} {n c:Nat} {x:α} {l:List α} (h:IsL R w K (.slice (some ad) n c) (x::l)):IsL R w K (.slice (if c=1 then some ad else some (ad.add R.size)) l.length (c-1)) l:=by
 obtain ⟨rfl,⟨cs,h1,h2⟩,h3,h4,h5⟩:=h.open_;simp only [List.length_cons] at h1 h3 h5;have e:=h1.cut (k:=1) (by omega) h3
 have h2':=h2.drop 1;rw [zkG] at e h2';exact ⟨_,c-1,cs.drop R.size,rfl,e,h2',by omega,by omega,by omega⟩
def mrg:List Ex→List Ex→List Ex
 | [],g=>g
 | x::p,[]=>x::p
 | x::p,y::g=>if x.lba<y.lba then x::mrg p (y::g) else y::mrg (x::p) g
termination_by p g=>p.length+g.length
theorem zbP (P:List Ex):mrg P []=P:=by cases P <;> simp [mrg]
theorem zaq {x:Ex} {p g:List Ex} (h:∀ y,g.head?=some y→x.lba<y.lba):mrg (x::p) g=x::mrg p g:=by
 cases g with
 | nil=>simp [zbP]
 | cons y g=>rw [mrg,zij (h y rfl)]
theorem tQ {P g:List Ex} {y:Ex} (h:∀ x,P.head?=some x→¬x.lba<y.lba):mrg P (y::g)=y::mrg P g:=by
 cases P with
 | nil=>simp [mrg]
 | cons x p=>rw [mrg,zig (h x rfl)]
theorem tB:∀ {l:List Ex} {a z:Int},(∀ e∈l,a≤e.lba∧0<e.n)→aC a l→∀ y,(gapsE a l z).head?=some y→a≤y.lba
 | [],a,z,_,_,y,h=>by
   unfold gapsE gK at h;split at h
   · simp at h;rw [←h];exact zj7 _
   · simp at h
 | x::l,a,z,hm,hc,y,h=>by
   unfold gapsE gK at h;split at h
   · simp at h;rw [←h];exact zj7 _
   · rw [List.nil_append] at h
     have h0:=hm x (zih ..);obtain ⟨h1,h2,h3⟩:=hc;have:=tB (fun e he=>by have:=aM h3 e he;exact ⟨this.2,this.1.pos.1⟩) h3 y h
     unfold aL at this;omega
theorem zaz:∀ (l:List Ex) (a z:Int),aC a l→mrg l (gapsE a l z)=dG a l z
 | [],a,z,_=>by simp [gapsE,dG,mrg]
 | x::l,a,z,hc=>by
   have hx:=hc.1.pos;have hle:a≤x.lba:=hc.2.1;have h3:=hc.2.2;have ih:=zaz l (aL x) z h3;have hh:mrg (x::l) (gapsE (aL x) l z)=x::dG (aL x) l z:=by
    rw [←ih];refine zaq fun y hy=>?_
    have:=tB (fun e he=>by have:=aM h3 e he;exact ⟨this.2,this.1.pos.1⟩) h3 y hy
    unfold aL at this;omega
   unfold gapsE dG gK;split
   · rw [List.cons_append,List.nil_append,tQ fun y hy=>by simp at hy;subst hy;simp only;omega,hh]
     rfl
   · rw [List.nil_append,hh,List.nil_append]
def lenOf:Value→Nat
 | .slice _ n _=>n
 | _=>0
theorem zel (A:Option Addr) (c:Nat) (l:List Ex) (lba n:Int) (K:Nat→Prop) (w:World) (hv:IsL Rp.ex w K (.slice A l.length c) l) (hch:aC 0 l) (hb:aJ lba n) :
 Calls Tryz.prog 77 #[.slice A l.length c,.int .i64 lba,.int .i64 n] w fun x w'=>
  ∃ Ao co,x=.returned (.tuple #[.slice Ao (lookE l lba n).length co,.int .i64 0]) ∧
    w'.ownsRow w.heap.size 90 5 (.slice Ao (lookE l lba n).length co) (lookE l lba n).length (bB (lookE l lba n))∧Below w.heap.size w w':=by
 obtain ⟨i0,hi,hz0,hz1,hz2⟩:=ziH Tryz.infX;have hpt:=fun w' h=>zak A c l lba n K w' h hch hb
 have hgt:=fun w' h=>zf5 A c l lba n K w' h hch hb
 obtain ⟨g1,g2,_⟩:=dH hch hb;have hpl:=cI g1;have hmg:=zaz _ _ (lba+n) g1;have hgl:=zdr (partE l lba n++[⟨lba+n,0,0,0,0⟩]) lba;rw [zI,zie,List.length_singleton] at hgl;unfold lookE;rw [←hmg];obtain ⟨b1,b2,b3,b4⟩:=hb;generalize gapsE lba (partE l lba n) (lba+n)=G0 at *;generalize partE l lba n=P0 at *;have hk40:P0.length≤1099511627776:=by omega
 clear hmg g1 g2 hpl hch;obtain ⟨ln,hln⟩:∃ ln,l.length=ln:=⟨_,rfl⟩;rw [hln] at hv hpt hgt ⊢;clear hln;obtain ⟨pn,hpn⟩:∃ pn,P0.length=pn:=⟨_,rfl⟩;obtain ⟨gn,hgn⟩:∃ gn,G0.length=gn:=⟨_,rfl⟩;rw [hpn] at hpt hgl hk40;rw [hgn] at hgt hgl;obtain ⟨R0,hR0⟩:∃ R0,mrg P0 G0=R0:=⟨_,rfl⟩;rw [hR0];have HR0:=zia hR0;have HPN:=zia hpn;have HGN:=zia hgn;go_enter Tryz.func77,Tryz.ntmps77
 go_wp2_with fail;refine (hpt _ hv).mono ?_;rintro x w2 ⟨A2,c2,rfl,own2,hb2⟩;have hs2:=hb2.size;go_wp2_with fail;refine (hgt _ (hv.step hb2)).mono ?_;rintro x w3 ⟨A3,c3,rfl,own3,hb3⟩;have hP:=(bI own2 hpn (by omega)).step hb3
 have hG:=bI own3 hgn (by omega)
 replace hb3:=hb2.trans (hb3.mono hs2);have hs3:=hb3.size;replace hG:=hG.more (K':=fun b=>w.heap.size≤b) fun b hb=>zit hs2 hb
 clear own2 own3 hb2 hpt hgt hv;go_upto_region 6 with fail;clear hR0 hpn hgn;go_loopw [8,10,12] (fun x8 x10 x12 wr=>∃ (P G O:List Ex) (Ap Ag Ao:Option Addr) (p g t cp cg co:Nat),x8=.slice Ap p cp∧x10=.slice Ag g cg∧x12=.slice Ao t co∧Hid (P.length=p∧G.length=g∧O.length=t∧O++mrg P G=R0)∧p+g+t≤3000000000000 ∧
  IsL Rp.ex w3 (fun b=>w.heap.size≤b) x8 P∧IsL Rp.ex w3 (fun b=>w.heap.size≤b) x10 G∧wr.ownsRow w3.heap.size 90 5 (.slice Ao t co) t (bB O)∧Below w3.heap.size w3 wr) (fun x8 x10 _ _=>lenOf x8+lenOf x10)
 case atStart=>exact ⟨P0,G0,[],A2,A3,none,pn,gn,0,c2,c3,0,rfl,rfl,rfl,zia ⟨HPN.out,HGN.out,rfl,HR0.out⟩,by omega,hP,hG,zin _ _ _ _,zif _ _⟩
 case round=>
  obtain ⟨P,G,O,Ap,Ag,Ao,p,g,t,cp,cg,co,rfl,rfl,rfl,hh,hle,hp,hg,hown,hb⟩:=hrel;have hsz:=hb.size;have hrow:∀ g,(Value.slice Ao t co).ownBlock=some g→g<wr.heap.size:=fun g hk=>(hown.lt g hk).2
  by_cases hend:p+g=0
  · obtain rfl:p=0:=by omega
    obtain rfl:g=0:=by omega
    have hO:Hid (O=R0):=zia (by
     obtain ⟨h1,h2,h3,h4⟩:=hh.out;rw [zis h1,zis h2,zbP,ziz] at h4;exact h4)
    have hT:Hid (O.length=t):=zia hh.out.2.2.1;clear hh hp hg hP hG;go_wp2;go_ret2;refine ⟨Ao,co,by rw [←hO.out,hT.out];rfl,by rw [←hO.out,hT.out];exact aO hown hs3,hb3.trans (hb.mono hs3)⟩
  have hpos:(0:Int)<(p:Int)+(g:Int):=by omega
  by_cases hleft:0<p∧∀ y,G.head?=some y→∀ x,P.head?=some x→x.lba<y.lba
  · obtain ⟨hp0,hlt⟩:=hleft
    obtain ⟨x,P',rfl⟩:∃ x P',P=x::P':=by cases P with | nil=>have:=hh.out.1;simp at this;omega | cons x P'=>exact ⟨x,P',rfl⟩
    obtain ⟨ap,rfl,-,c0,c1,c2',c3',c4⟩:=bY (hp.step hb) (j:=0) rfl;have hcut:=hp.cut1;have hpl:P'.length=p-1:=by have:=hh.out.1;simp at this;omega
    rw [hpl] at hcut;have HL:=zia (zaq (x:=x) (p:=P') (g:=G) fun y hy=>hlt y hy x rfl)
    have hpI:(0:Int)<(p:Int):=by omega
    rw [zjZ,cW] at c0 c1 c2' c3' c4;cases hG':G with
    | nil=>
      obtain rfl:g=0:=by rw [←hh.out.2.1,hG'];rfl
      go_upto_region 7 with fail;go_quiet (fail);go_upto_region 8 with fail;have hb5:Below w3.heap.size w3 (wr.drewN nq):=aS hb _;replace hown:(wr.drewN nq).ownsRow w3.heap.size 90 5 (.slice Ao t co) t (bB O):=aD hown (aS (zif _ _) _) (zic _);generalize wr.drewN nq=w5 at hb5 hown ⊢;clear hb hsz c0 c1 c2' c3' c4;have hs5:=hb5.size;obtain ⟨ap',e9,-,c0,c1,c2',c3',c4⟩:=bY (hp.step hb5) (j:=0) rfl;injection e9 with e9;subst e9;rw [zjZ,cW] at c0 c1 c2' c3' c4;go_wp2_with (at_builtin;refine aF rfl _ _ _ rfl w3.heap.size 90 i0 _ 5 40 Tryz.underlying35 hi hz0 hz1 hz2 rfl (by omega) rfl (hown.alloc _) rfl (aG.new (xs:=dM x) (n:=1) rfl rfl rfl) (by intro u hu;exact aU [x] u (by simpa [bB] using hu)) (by simp only [maxLen];omega) (by omega) (by simp;omega) ?_;intro A8 c8 w6 own8 hg8)
      go_roundw
      case rel=>exact ⟨P',G,O++[x],_,_,A8,p-1,_,t+1,cp-1,cg,c8,rfl,rfl,rfl,zia ⟨hpl,hh.out.2.1,by rw [zie,hh.out.2.2.1];rfl,by have h9:=hh.out.2.2.2;rw [HL.out] at h9;rw [ziq];exact h9⟩,by omega,hcut,by first | exact hg | (rw [hG'];exact hg),by rw [bM];exact own8,(hb5.alloc hs5 _).trans (hg8.below.mono (zic _))⟩
      case measure=>simp [lenOf];omega
    | cons y G'=>
      rw [hG'] at hg;obtain ⟨ag,rfl,-,d0,-⟩:=bY (hg.step hb) (j:=0) rfl;rw [zjZ,cW] at d0;have hlt':x.lba<y.lba:=hlt y (by rw [hG'];rfl) x rfl
      have hgI:(0:Int)<(g:Int):=by have:=hh.out.2.1;rw [hG'] at this;simp at this;omega
      have hg0:((g:Int) == 0)=false:=ziN.2 (by omega)
      go_upto_region 7 with fail;go_quiet (fail);go_upto_region 8 with fail;have hb5:Below w3.heap.size w3 (wr.drewN nq):=aS hb _;replace hown:(wr.drewN nq).ownsRow w3.heap.size 90 5 (.slice Ao t co) t (bB O):=aD hown (aS (zif _ _) _) (zic _);generalize wr.drewN nq=w5 at hb5 hown ⊢;clear hb hsz c0 c1 c2' c3' c4;have hs5:=hb5.size;obtain ⟨ap',e9,-,c0,c1,c2',c3',c4⟩:=bY (hp.step hb5) (j:=0) rfl;injection e9 with e9;subst e9;rw [zjZ,cW] at c0 c1 c2' c3' c4;go_wp2_with (at_builtin;refine aF rfl _ _ _ rfl w3.heap.size 90 i0 _ 5 40 Tryz.underlying35 hi hz0 hz1 hz2 rfl (by omega) rfl (hown.alloc _) rfl (aG.new (xs:=dM x) (n:=1) rfl rfl rfl) (by intro u hu;exact aU [x] u (by simpa [bB] using hu)) (by simp only [maxLen];omega) (by omega) (by simp;omega) ?_;intro A8 c8 w6 own8 hg8)
      go_roundw
      case rel=>exact ⟨P',G,O++[x],_,_,A8,p-1,_,t+1,cp-1,cg,c8,rfl,rfl,rfl,zia ⟨hpl,hh.out.2.1,by rw [zie,hh.out.2.2.1];rfl,by have h9:=hh.out.2.2.2;rw [HL.out] at h9;rw [ziq];exact h9⟩,by omega,hcut,by first | exact hg | (rw [hG'];exact hg),by rw [bM];exact own8,(hb5.alloc hs5 _).trans (hg8.below.mono (zic _))⟩
      case measure=>simp [lenOf];omega
  · obtain ⟨y,G',rfl⟩:∃ y G',G=y::G':=by
     cases G with
     | nil=>exact absurd ⟨by have:=hh.out.2.1;simp at this;omega,fun y hy=>by cases hy⟩ hleft
     | cons y G'=>exact ⟨y,G',rfl⟩
    have hno:∀ x,P.head?=some x→¬x.lba<y.lba:=fun x hx h9=>hleft ⟨by
     have:=hh.out.1;cases P with
     | nil=>cases hx
     | cons a b=>simp at this;omega,fun y' hy' x' hx'=>by
     injection hy' with hy';rw [hx] at hx';injection hx' with hx';rw [←hy',←hx'];exact h9⟩
    obtain ⟨ag,rfl,-,d0,-⟩:=bY (hg.step hb) (j:=0) rfl;have hcut:=hg.cut1;have hgl':G'.length=g-1:=by have:=hh.out.2.1;simp at this;omega
    have hg1:0<g:=by have:=hh.out.2.1;simp at this;omega
    rw [hgl'] at hcut;have HL:=zia (tQ (P:=P) (y:=y) (g:=G') hno);have hgI:(0:Int)<(g:Int):=by omega
    have hg0:((g:Int) == 0)=false:=ziN.2 (by omega)
    rw [zjZ,cW] at d0;cases hP':P with
    | nil=>
      obtain rfl:p=0:=by rw [←hh.out.1,hP'];rfl
      go_upto_region 7 with fail;go_quiet (fail);go_upto_region 10 with fail;have hb5:Below w3.heap.size w3 (wr.drewN nq):=aS hb _;replace hown:(wr.drewN nq).ownsRow w3.heap.size 90 5 (.slice Ao t co) t (bB O):=aD hown (aS (zif _ _) _) (zic _);generalize wr.drewN nq=w5 at hb5 hown ⊢;clear hb hsz d0;have hs5:=hb5.size;obtain ⟨ag',e9,-,d0,d1,d2,d3,d4⟩:=bY (hg.step hb5) (j:=0) rfl;injection e9 with e9;subst e9;rw [zjZ,cW] at d0 d1 d2 d3 d4;go_wp2_with (at_builtin;refine aF rfl _ _ _ rfl w3.heap.size 90 i0 _ 5 40 Tryz.underlying35 hi hz0 hz1 hz2 rfl (by omega) rfl (hown.alloc _) rfl (aG.new (xs:=dM y) (n:=1) rfl rfl rfl) (by intro u hu;exact aU [y] u (by simpa [bB] using hu)) (by simp only [maxLen];omega) (by omega) (by simp;omega) ?_;intro A8 c8 w6 own8 hg8)
      go_roundw
      case rel=>exact ⟨P,G',O++[y],_,_,A8,_,g-1,t+1,cp,cg-1,c8,rfl,rfl,rfl,zia ⟨hh.out.1,hgl',by rw [zie,hh.out.2.2.1];rfl,by have h9:=hh.out.2.2.2;rw [HL.out] at h9;rw [ziq];exact h9⟩,by omega,by first | exact hp | (rw [hP'];exact hp),hcut,by rw [bM];exact own8,(hb5.alloc hs5 _).trans (hg8.below.mono (zic _))⟩
      case measure=>simp [lenOf];omega
    | cons x P'=>
      rw [hP'] at hp;obtain ⟨ap,rfl,-,c0,-⟩:=bY (hp.step hb) (j:=0) rfl;rw [zjZ,cW] at c0;have hlt':decide (x.lba<y.lba)=false:=ziv (hno x (by rw [hP'];rfl))
      have hp0:0<p:=by have:=hh.out.1;rw [hP'] at this;simp at this;omega
      have hpI:(0:Int)<(p:Int):=by omega
      go_upto_region 7 with fail;go_quiet (fail);go_upto_region 10 with fail;have hb5:Below w3.heap.size w3 (wr.drewN nq):=aS hb _;replace hown:(wr.drewN nq).ownsRow w3.heap.size 90 5 (.slice Ao t co) t (bB O):=aD hown (aS (zif _ _) _) (zic _);generalize wr.drewN nq=w5 at hb5 hown ⊢;clear hb hsz d0 c0;have hs5:=hb5.size;obtain ⟨ag',e9,-,d0,d1,d2,d3,d4⟩:=bY (hg.step hb5) (j:=0) rfl;injection e9 with e9;subst e9;rw [zjZ,cW] at d0 d1 d2 d3 d4;go_wp2_with (at_builtin;refine aF rfl _ _ _ rfl w3.heap.size 90 i0 _ 5 40 Tryz.underlying35 hi hz0 hz1 hz2 rfl (by omega) rfl (hown.alloc _) rfl (aG.new (xs:=dM y) (n:=1) rfl rfl rfl) (by intro u hu;exact aU [y] u (by simpa [bB] using hu)) (by simp only [maxLen];omega) (by omega) (by simp;omega) ?_;intro A8 c8 w6 own8 hg8)
      go_roundw
      case rel=>exact ⟨P,G',O++[y],_,_,A8,_,g-1,t+1,cp,cg-1,c8,rfl,rfl,rfl,zia ⟨hh.out.1,hgl',by rw [zie,hh.out.2.2.1];rfl,by have h9:=hh.out.2.2.2;rw [HL.out] at h9;rw [ziq];exact h9⟩,by omega,by first | exact hp | (rw [hP'];exact hp),hcut,by rw [bM];exact own8,(hb5.alloc hs5 _).trans (hg8.below.mono (zic _))⟩
      case measure=>simp [lenOf];omega
