/- A part of the proof. -/
import Derived.Test.YtcapmeefiglfjaaGreatRing
import Derived.Deep.DrawnRows
import Derived.Deep.RegionHeld3
import Derived.Deep.DeepCutAuto
import Derived.Test.YtcapmeefiglfjaaGreatRgn
set_option maxHeartbeats 8000000
set_option maxRecDepth 100000
namespace Go.Proofs.YtcapmeefiglfjaaGreat
open Go.RowKit
def Rp.ex:Rp Ex:=⟨5,fun _ _ cs o=>cs=[.int .i64 o.lba,.int .i64 o.n,.int .i64 o.ver,.int .i64 o.zone,.int .i64 o.off],
 by rintro _ _ _ _ rfl;rfl,
 fun h _=>h,
 fun h _=>h,
 by
  rintro _ _ _ _ rfl u hu;simp only [zim,ziJ,zju] at hu;rcases hu with rfl | rfl | rfl | rfl | rfl <;> first | rfl | assumption⟩
abbrev exV (e:Ex):Value:=.agg #[.int .i64 e.lba,.int .i64 e.n,.int .i64 e.ver,.int .i64 e.zone,.int .i64 e.off]
abbrev exC (e:Ex):Array Value:=#[.int .i64 e.lba,.int .i64 e.n,.int .i64 e.ver,.int .i64 e.zone,.int .i64 e.off]
theorem bW (lba n:Int) (w:World) :
 Calls Tryz.prog 134 #[.int .i64 lba,.int .i64 n] w fun e w'=>e=.returned (.bool (decide (aJ lba n)))∧w'=w:=by
 by_cases h1:0≤lba <;> by_cases h2:0<n <;> by_cases h3:n≤1099511627776 <;> by_cases h4:lba≤1099511627776-n <;>
  (first | rw [show decide (aJ lba n)=true from ziu ⟨h1,h2,h3,h4⟩] | rw [show decide (aJ lba n)=false from ziv (fun h:aJ lba n=>by unfold aJ at h;omega)]) <;>
  (go_enter Tryz.func134,Tryz.ntmps134
   go_wp2;go_ret;exact ⟨rfl,rfl⟩)
theorem zev (e:Ex):bO e↔aJ e.lba e.n∧0≤e.ver∧-1≤e.zone∧e.zone≤1099511627776∧0≤e.off∧(if e.zone = -1 then e.off=0 else e.off≤1125899906842624-16*e.n):=by
 unfold bO;split <;> simp [*]
theorem nK (e:Ex) (w:World) :
 Calls Tryz.prog 155 #[exV e] w fun x w'=>x=.returned (.bool (decide (bO e)))∧Below w.heap.size w w':=by
 have hT:bO e→decide (bO e)=true:=ziu;have hF:¬bO e→decide (bO e)=false:=ziv;have hI:=zev e;obtain ⟨r,hr⟩:∃ r,decide (bO e)=r:=⟨_,rfl⟩;rw [hr] at hT hF ⊢;clear hr;have E:=(Kn.start w).push 90 (exC e);obtain ⟨q0,f0,t0⟩:=E.rules m0;by_cases hb:aJ e.lba e.n
 case neg=>
  have:r=false:=hF fun h=>hb (hI.1 h).1
  subst this;clear hT hF hI;have hb1:decide (aJ e.lba e.n)=false:=ziv hb;go_enter Tryz.func155,Tryz.ntmps155
  go_wp2_with fail;refine (bW e.lba e.n _).mono ?_;rintro x w1 ⟨rfl,rfl⟩;rw [hb1];go_wp2;go_ret;exact ⟨rfl,zBA⟩
 have hb1:decide (aJ e.lba e.n)=true:=ziu hb;have hbn:=hb.2;by_cases h1:e.ver<0∨e.zone < -1∨1099511627776<e.zone∨e.off<0
 · have:r=false:=hF fun h=>by have:=hI.1 h;omega
   subst this;clear hT hF hI;by_cases g1:e.ver<0
   · go_enter Tryz.func155,Tryz.ntmps155
     go_wp2_with fail;refine (bW e.lba e.n _).mono ?_;rintro x w1 ⟨rfl,rfl⟩;rw [hb1];go_wp2;go_ret;exact ⟨rfl,zBA⟩
   by_cases g2:e.zone < -1
   · go_enter Tryz.func155,Tryz.ntmps155
     go_wp2_with fail;refine (bW e.lba e.n _).mono ?_;rintro x w1 ⟨rfl,rfl⟩;rw [hb1];go_wp2;go_ret;exact ⟨rfl,zBA⟩
   by_cases g3:1099511627776<e.zone
   · go_enter Tryz.func155,Tryz.ntmps155
     go_wp2_with fail;refine (bW e.lba e.n _).mono ?_;rintro x w1 ⟨rfl,rfl⟩;rw [hb1];go_wp2;go_ret;exact ⟨rfl,zBA⟩
   have g4:e.off<0:=by omega
   go_enter Tryz.func155,Tryz.ntmps155
   go_wp2_with fail;refine (bW e.lba e.n _).mono ?_;rintro x w1 ⟨rfl,rfl⟩;rw [hb1];go_wp2;go_ret;exact ⟨rfl,zBA⟩
 simp only [not_or,Int.not_lt] at h1;obtain ⟨g1,g2,g3,g4⟩:=h1;by_cases hz:e.zone = -1
 · by_cases ho:e.off=0
   · have:r=true:=hT (hI.2 ⟨hb,by omega,g2,g3,g4,by rw [zij hz];exact ho⟩)
     subst this;clear hT hF hI;go_enter Tryz.func155,Tryz.ntmps155
     go_wp2_with fail;refine (bW e.lba e.n _).mono ?_;rintro x w1 ⟨rfl,rfl⟩;rw [hb1];go_wp2;go_ret;exact ⟨rfl,zBA⟩
   · have:r=false:=hF fun h=>by have:=(hI.1 h).2.2.2.2.2;rw [zij hz] at this;exact ho this
     subst this;have ho2:(e.off == 0)=false:=ziN.2 ho;clear hT hF hI;go_enter Tryz.func155,Tryz.ntmps155
     go_wp2_with fail;refine (bW e.lba e.n _).mono ?_;rintro x w1 ⟨rfl,rfl⟩;rw [hb1];go_wp2;go_ret;exact ⟨rfl,zBA⟩
 · by_cases ho:e.off≤1125899906842624-16*e.n
   · have:r=true:=hT (hI.2 ⟨hb,by omega,g2,g3,g4,by rw [zig hz];exact ho⟩)
     subst this;clear hT hF hI;go_enter Tryz.func155,Tryz.ntmps155
     go_wp2_with fail;refine (bW e.lba e.n _).mono ?_;rintro x w1 ⟨rfl,rfl⟩;rw [hb1];go_wp2;go_ret;exact ⟨rfl,zBA⟩
   · have:r=false:=hF fun h=>by have:=(hI.1 h).2.2.2.2.2;rw [zig hz] at this;exact ho this
     subst this;have ho2:decide (e.off≤1125899906842624-16*e.n)=false:=ziv ho;clear hT hF hI;go_enter Tryz.func155,Tryz.ntmps155
     go_wp2_with fail;refine (bW e.lba e.n _).mono ?_;rintro x w1 ⟨rfl,rfl⟩;rw [hb1];go_wp2;go_ret;exact ⟨rfl,zBA⟩
theorem lE (e:Ex) (w:World) (h:-9223372036854775808≤e.lba+e.n∧e.lba+e.n≤9223372036854775807) :
 Calls Tryz.prog 137 #[exV e] w fun x w'=>x=.returned (.int .i64 (aL e))∧Below w.heap.size w w':=by
 have E:=(Kn.start w).push 90 (exC e);obtain ⟨q0,f0,t0⟩:=E.rules m0;unfold aL;go_enter Tryz.func137,Tryz.ntmps137
 go_wp2;go_ret;exact ⟨rfl,E.below⟩
theorem bY {w:World} {K:Nat→Prop} {A:Option Addr} {n c:Nat} {l:List Ex} (h:IsL Rp.ex w K (.slice A n c) l) {j:Nat} {e:Ex} (hj:l[j]?=some e) :
 ∃ ad,A=some ad∧K ad.block∧w.cell? (ad.add (j*5))=some (.int .i64 e.lba)∧w.cell? ⟨(ad.add (j*5)).block,(ad.add (j*5)).off+1,none⟩=some (.int .i64 e.n)∧w.cell? ⟨(ad.add (j*5)).block,(ad.add (j*5)).off+2,none⟩=some (.int .i64 e.ver) ∧
   w.cell? ⟨(ad.add (j*5)).block,(ad.add (j*5)).off+3,none⟩=some (.int .i64 e.zone)∧w.cell? ⟨(ad.add (j*5)).block,(ad.add (j*5)).off+4,none⟩=some (.int .i64 e.off):=by
 obtain ⟨ad,es,hA,hKad,hes,hcell⟩:=h.at_ hj;obtain rfl:es=_:=hes;have hsz:Rp.ex.size=5:=rfl;rw [hsz] at hcell;refine ⟨ad,hA,hKad,?_,?_,?_,?_,?_⟩
 · rw [←cW (ad.add (j*5))];exact hcell 0 _ rfl
 · rw [←bT _ 1 (by decide)];exact hcell 1 _ rfl
 · rw [←bT _ 2 (by decide)];exact hcell 2 _ rfl
 · rw [←bT _ 3 (by decide)];exact hcell 3 _ rfl
 · rw [←bT _ 4 (by decide)];exact hcell 4 _ rfl
theorem gG {α:Type} (l:List α) {j:Nat} {r:α} (h:l[j]?=some r):l.take (j+1)=l.take j++[r]:=by
 obtain ⟨h1,rfl⟩:=zil.1 h;exact ziy h1
theorem eO {l:List Ex} {j:Nat} {e:Ex} (hj:l[j]?=some e):aC 0 (l.take (j+1))↔aC 0 (l.take j)∧bO e∧lastE 0 (l.take j)≤e.lba:=by
 rw [gG l hj,aQ];simp [aC]
theorem vP {l:List Ex} {j:Nat} {e:Ex} (hj:l[j]?=some e):lastE 0 (l.take (j+1))=aL e:=by
 rw [gG l hj,dY];rfl
theorem iW {l:List Ex} {c:Int} (k:Nat) (h:aC c l):aC c (l.take k):=by
 rw [←ziP k l,aQ] at h;exact h.1
theorem cS (v:Value) (l:List Ex) (K:Nat→Prop) (w:World) (hv:IsL Rp.ex w K v l) :
 Calls Tryz.prog 87 #[v] w fun x w'=>x=.returned (.int .i64 (dZ l))∧Below w.heap.size w w':=by
 have hres0:∀ k,¬aC 0 (l.take k)→dZ l=1:=fun k h=>by unfold dZ;rw [zig fun h2=>h (iW k h2)]
 have hres1:aC 0 (l.take l.length)→dZ l=0:=fun h=>by unfold dZ;rw [ziQ] at h;rw [zij h]
 obtain ⟨res,hres⟩:∃ res,dZ l=res:=⟨_,rfl⟩;rw [hres] at hres0 hres1 ⊢;clear hres;have HR0:=zia hres0;have HR1:=zia hres1;clear hres0 hres1;have hv0:=hv;obtain ⟨A,c,rfl,hlc,hcc⟩:=hv.form;have hlen:=hv.len;go_enter Tryz.func87,Tryz.ntmps87
 go_wp2_with fail;go_loopw [3,4,7] (fun x3 x4 i wr=>∃ j:Nat,i=.int .i64 j∧j≤l.length∧aC 0 (l.take j)∧Below w.heap.size w wr∧(∃ y,x3=y)∧(∃ y,x4=y)) (fun _ _ i _=>l.length-(intOf i).toNat)
 case atStart=>exact ⟨0,rfl,zir _,trivial,zif _ _,⟨_,rfl⟩,_,rfl⟩
 case round=>
  obtain ⟨j,rfl,hj,hch,hb,⟨y3,rfl⟩,y4,rfl⟩:=hrel;have hsz:=hb.size;by_cases hlt:j<l.length
  case neg=>
   obtain rfl:j=l.length:=by omega
   have:=HR1.out hch;subst this;clear HR0 HR1 hch hv hv0;go_wp2;go_ret;exact ⟨rfl,hb⟩
  have hje:=zib hlt;generalize l[j]=e at hje;obtain ⟨ad,rfl,-,c0,c1,c2,c3,c4⟩:=bY (hv0.step hb) hje;have j0:(0:Int)≤(j:Int):=by omega
  have j1:(j:Int)<(l.length:Int):=by omega
  have HCH:=zia hch;clear hch;go_upto_region 4 with fail;have E:=((Kn.from_ hb hsz).give aB.list (hv0.step hb)).push 90 (exC e);clear c0 c1 c2 c3 c4;generalize hw1:wr.alloc (.cells #[.int .i64 e.lba,.int .i64 e.n,.int .i64 e.ver,.int .i64 e.zone,.int .i64 e.off] 90)=w1 at E ⊢;clear hw1;have hb0:Below w1.heap.size w1 w1.drew:=(zif _ _).drew;by_cases hm:bO e
  case neg=>
   have:=HR0.out (j+1) fun h=>hm ((eO hje).1 h).2.1
   subst this;have hd:decide (bO e)=false:=ziv hm;have HK:Hid (∀ W,Below w1.heap.size w1 W→∀ o,W.cell? ⟨wr.heap.size,o,none⟩=(exC e)[o]?):=zia fun W h=>((E.step h).rules m0).1
   clear HR0 HR1 HCH hm;refine wp_region_held_drew (S:=fun W=>∀ o,W.cell? ⟨wr.heap.size,o,none⟩=(exC e)[o]?) (by kernel_rfl) (HK.out _ hb0) (fun hHeld=>?_)
   refine wT 0 12 ?_;refine wR 1 13 (fun K hK=>?_)
   go_simp;refine (nK e _).mono ?_;rintro x w2 ⟨rfl,hb2⟩;replace hb2:=hb0.trans (hb2.mono hb0.size);rw [hd];go_wp2_with fail;refine hK.out _ _ (HK.out _ hb2) (fun hHeld=>?_)
   clear hK K;refine wT 2 14 ?_;refine wT 3 15 ?_;refine wU 4 16 ?_;refine wU 5 17 ?_;refine wU 6 18 ?_;refine wU 7 19 ?_;refine wU 8 20 ?_;refine wU 9 21 ?_;refine wU 10 22 ?_;refine wU 11 23 ?_;refine wU 12 24 ?_;refine wU 13 25 ?_;refine wU 14 26 ?_;refine wU 15 27 ?_;refine wU 16 28 ?_;refine wT 17 29 ?_;refine wpAnyH_done (by kernel_rfl) ?_ _
   go_wp2;go_ret;exact ⟨rfl,(E.step hb2).below⟩
  have hd:decide (bO e)=true:=ziu hm;by_cases hj0:j=0
  · subst hj0
    have HK:Hid (∀ W,Below w1.heap.size w1 W→∀ o,W.cell? ⟨wr.heap.size,o,none⟩=(exC e)[o]?):=zia fun W h=>((E.step h).rules m0).1
    have HN:Hid (aC 0 (l.take (0+1))):=zia ((eO hje).2 ⟨trivial,hm,hm.pos.2⟩);clear HCH;refine wp_region_held_drew (S:=fun W=>∀ o,W.cell? ⟨wr.heap.size,o,none⟩=(exC e)[o]?) (by kernel_rfl) (HK.out _ hb0) (fun hHeld=>?_)
    refine wT 0 12 ?_;refine wR 1 13 (fun K hK=>?_)
    go_simp;refine (nK e _).mono ?_;rintro x w2 ⟨rfl,hb2⟩;replace hb2:=hb0.trans (hb2.mono hb0.size);rw [hd];go_wp2_with fail;refine hK.out _ _ (HK.out _ hb2) (fun hHeld=>?_)
    clear hK K;refine wT 2 14 ?_;refine wT 3 15 ?_;refine wT 4 16 ?_;refine wT 5 17 ?_;refine wT 6 18 ?_;refine wU 7 19 ?_;refine wU 8 20 ?_;refine wU 9 21 ?_;refine wU 10 22 ?_;refine wU 11 23 ?_;refine wU 12 24 ?_;refine wU 13 25 ?_;refine wU 14 26 ?_;refine wU 15 27 ?_;refine wT 16 28 ?_;refine wT 17 29 ?_;refine wpAnyH_done (by kernel_rfl) ?_ _
    go_wp2;go_roundw
    case rel=>exact ⟨0+1,by go_num,by omega,HN.out,(E.step hb2).below,⟨_,rfl⟩,_,rfl⟩
    case measure=>simp [intOf];omega
  obtain ⟨k,rfl⟩:∃ k,j=k+1:=⟨j-1,by omega⟩
  obtain ⟨p,hp⟩:∃ p,l[k]?=some p:=⟨_,zib (by omega)⟩
  have hpm:bO p:=((eO hp).1 HCH.out).2.1;have hpe:=vP hp;have hov:-9223372036854775808≤p.lba+p.n∧p.lba+p.n≤9223372036854775807:=by have:=hpm.1;unfold aJ at this;omega
  have HK:Hid (∀ W,Below w1.heap.size w1 W→(∀ o,W.cell? ⟨wr.heap.size,o,none⟩=(exC e)[o]?)∧W.cell? (ad.add (k*5))=some (.int .i64 p.lba)∧W.cell? ⟨(ad.add (k*5)).block,(ad.add (k*5)).off+1,none⟩=some (.int .i64 p.n)∧W.cell? ⟨(ad.add (k*5)).block,(ad.add (k*5)).off+2,none⟩=some (.int .i64 p.ver) ∧
   W.cell? ⟨(ad.add (k*5)).block,(ad.add (k*5)).off+3,none⟩=some (.int .i64 p.zone)∧W.cell? ⟨(ad.add (k*5)).block,(ad.add (k*5)).off+4,none⟩=some (.int .i64 p.off)):=zia fun W h=>by
   obtain ⟨a,ha,_,c0,c1,c2,c3,c4⟩:=bY ((E.step h).get m0) hp;injection ha with ha;subst ha;exact ⟨((E.step h).rules m0).1,c0,c1,c2,c3,c4⟩
  have k0:(0:Int)≤(k:Int):=by omega
  have k1:(k:Int)<(l.length:Int):=by omega
  have HPE:=zia hpe;have HNX:Hid (aL p≤e.lba→aC 0 (l.take (k+1+1))):=zia fun h=>(eO hje).2 ⟨HCH.out,hm,by rw [hpe];exact h⟩
  have HNO:Hid (e.lba<aL p→res=1):=zia fun h=>HR0.out (k+1+1) fun h2=>by have:=((eO hje).1 h2).2.2;rw [hpe] at this;omega
  clear hpe HCH hp hpm hj0;have hwk:IntKind.i64.wrap (k:Int)=k:=ziI _ (by omega)
  refine wp_region_held_drew (S:=fun W=>(∀ o,W.cell? ⟨wr.heap.size,o,none⟩=(exC e)[o]?)∧W.cell? (ad.add (k*5))=some (.int .i64 p.lba)∧W.cell? ⟨(ad.add (k*5)).block,(ad.add (k*5)).off+1,none⟩=some (.int .i64 p.n)∧W.cell? ⟨(ad.add (k*5)).block,(ad.add (k*5)).off+2,none⟩=some (.int .i64 p.ver) ∧
   W.cell? ⟨(ad.add (k*5)).block,(ad.add (k*5)).off+3,none⟩=some (.int .i64 p.zone)∧W.cell? ⟨(ad.add (k*5)).block,(ad.add (k*5)).off+4,none⟩=some (.int .i64 p.off)) (by kernel_rfl) (HK.out _ hb0) (fun hHeld=>?_)
  refine wT 0 12 ?_;refine wR 1 13 (fun K hK=>?_)
  go_simp;refine (nK e _).mono ?_;rintro x w2 ⟨rfl,hb2⟩;replace hb2:=hb0.trans (hb2.mono hb0.size);rw [hd];go_wp2_with fail;refine hK.out _ _ (HK.out _ hb2) (fun hHeld=>?_)
  clear hK K;refine wT 2 14 ?_;refine wT 3 15 ?_;refine wT 4 16 ?_;refine wT 5 17 ?_;refine wT 6 18 ?_;refine wT 7 19 ?_;refine wT 8 20 ?_;refine wT 9 21 ?_;refine wT 10 22 ?_;refine wT 11 23 ?_;refine wT 12 24 ?_;refine wT 13 25 ?_;refine wR 14 26 (fun K hK=>?_)
  go_simp;refine (lE p _ hov).mono ?_;rintro x w3 ⟨rfl,hb3⟩;replace hb3:=hb2.trans (hb3.mono hb2.size);go_wp2_with fail;refine hK.out _ _ (HK.out _ hb3) (fun hHeld=>?_)
  clear hK K;refine wT 15 27 ?_;refine wT 16 28 ?_;refine wT 17 29 ?_;refine wpAnyH_done (by kernel_rfl) ?_ _
  by_cases hlt2:e.lba<aL p
  · have:=HNO.out hlt2
    subst this;go_wp2;go_ret;exact ⟨rfl,(E.step hb3).below⟩
  · go_wp2
    go_roundw
    case rel=>exact ⟨k+1+1,by go_num,by omega,HNX.out (by omega),(E.step hb3).below,⟨_,rfl⟩,_,rfl⟩
    case measure=>simp [intOf];omega
def OkE (e:Ex):Prop:=(0≤e.lba∧e.lba≤2199023255552)∧(0≤e.n∧e.n≤4398046511104)∧(0≤e.off∧e.off≤2251799813685248)
theorem bO.ok {e:Ex} (h:bO e):OkE e:=by
 obtain ⟨⟨a,b,c,d⟩,h1,h2,h3,h4,h5,h6⟩:=h;refine ⟨by omega,by omega,h4,?_⟩
 by_cases hz:e.zone = -1
 · have:=h5 hz;omega
 · have:=h6 hz;omega
theorem xK (e:Ex) (k:Int) (w:World) (h:OkE e) (hk:-4398046511104≤k∧k≤4398046511104) :
 Calls Tryz.prog 183 #[exV e,.int .i64 k] w fun x w'=>x=.returned (exV (uptoE e k))∧Below w.heap.size w w':=by
 obtain ⟨h1,h2,h3⟩:=h;unfold uptoE;by_cases hm:e.n≤k-e.lba
 · rw [Int.min_eq_left hm]
   go_enter Tryz.func183,Tryz.ntmps183
   go_wp2;refine zik (v:=.agg #[.int .i64 e.lba,.int .i64 e.n,.int .i64 e.ver,.int .i64 e.zone,.int .i64 e.off]) (by simp [results,Tryz.results183,go_sem]) rfl ⟨rfl,(zBA).alloc (by simp) _⟩
 · rw [Int.min_eq_right (by omega)]
   go_enter Tryz.func183,Tryz.ntmps183
   go_wp2;refine zik (v:=.agg #[.int .i64 e.lba,.int .i64 (k-e.lba),.int .i64 e.ver,.int .i64 e.zone,.int .i64 e.off]) (by simp [results,Tryz.results183,go_sem]) rfl ⟨rfl,(zBA).alloc (by simp) _⟩
theorem pQ (e:Ex) (k:Int) (w:World) (h:OkE e) (hk:-4398046511104≤k∧k≤4398046511104) :
 Calls Tryz.prog 184 #[exV e,.int .i64 k] w fun x w'=>x=.returned (exV (fromE e k))∧Below w.heap.size w w':=by
 obtain ⟨h1,h2,h3⟩:=h;unfold fromE;by_cases hp:0<k-e.lba
 · rw [zij hp]
   by_cases hz:e.zone = -1
   · rw [zig (by omega)]
     have hz2:(e.zone != -1)=false:=by simpa using hz
     clear hz;go_enter Tryz.func184,Tryz.ntmps184
     go_wp2;refine zik (v:=.agg #[.int .i64 k,.int .i64 (e.n-(k-e.lba)),.int .i64 e.ver,.int .i64 e.zone,.int .i64 e.off]) (by simp [results,Tryz.results184,go_sem]) rfl ⟨rfl,(zBA).alloc (by simp) _⟩
   · rw [zij hz]
     have hz2:(e.zone != -1)=true:=by simpa using hz
     clear hz;go_enter Tryz.func184,Tryz.ntmps184
     go_wp2;refine zik (v:=.agg #[.int .i64 k,.int .i64 (e.n-(k-e.lba)),.int .i64 e.ver,.int .i64 e.zone,.int .i64 (e.off+(k-e.lba)*16)]) (by simp [results,Tryz.results184,go_sem]) rfl ⟨rfl,(zBA).alloc (by simp) _⟩
 · rw [zig hp]
   go_enter Tryz.func184,Tryz.ntmps184
   go_wp2;refine zik (v:=.agg #[.int .i64 e.lba,.int .i64 e.n,.int .i64 e.ver,.int .i64 e.zone,.int .i64 e.off]) (by simp [results,Tryz.results184,go_sem]) rfl ⟨rfl,(zBA).alloc (by simp) _⟩
theorem zb5 {c:Int} {l:List Ex} (h:aC c l):l.Pairwise (fun a b=>aL a≤b.lba):=by
 induction l generalizing c with
 | nil=>exact List.Pairwise.nil
 | cons e l ih=>exact List.pairwise_cons.2 ⟨fun x hx=>(aM h.2.2 x hx).2,ih h.2.2⟩
theorem zbi {c:Int} {l:List Ex} (h:aC c l) {i j:Nat} {a b:Ex} (hi:l[i]?=some a) (hj:l[j]?=some b) (hij:i≤j):aL a≤aL b:=by
 obtain ⟨h1,rfl⟩:=zil.1 hi;obtain ⟨h2,rfl⟩:=zil.1 hj;rcases zjb i j with h3 | h3
 · have:=zjy.1 (zb5 h) i j h1 h2 h3
   have hp:=(aM h _ (ziD h2)).1.pos;unfold aL at this ⊢;omega
 · have:i=j:=by omega
   subst this;exact zj7 _
theorem nN (e:Ex) (lba:Int) (w:World) (h:OkE e) :
 Calls Tryz.prog 219 #[exV e,.int .i64 lba] w fun x w'=>x=.returned (.int .i64 (if aL e≤lba then -1 else 1))∧Below w.heap.size w w':=by
 have E:=(Kn.start w).push 90 (exC e);obtain ⟨q0,f0,t0⟩:=E.rules m0;obtain ⟨h1,h2,h3⟩:=h;obtain ⟨r,hr⟩:∃ r:Int,(if aL e≤lba then -1 else 1)=r:=⟨_,rfl⟩;rw [hr];have HR:=zia hr;clear hr;go_enter Tryz.func219,Tryz.ntmps219
 go_wp2_with fail;refine (lE e _ (by omega)).mono ?_
 rintro x w2 ⟨rfl,hb2⟩;by_cases hl:aL e≤lba
 · have:=HR.out
   rw [zij hl] at this;subst this;clear HR;go_wp2;go_ret;exact ⟨rfl,(E.step hb2).below⟩
 · have:=HR.out
   rw [zig hl] at this;subst this;clear HR;go_wp2;go_ret;exact ⟨rfl,(E.step hb2).below⟩
theorem ze7 {l:List Ex} {lba:Int} {i:Nat} (hi:i≤l.length) (h1:∀ k e,k<i→l[k]?=some e→aL e≤lba) (h2:∀ e,l[i]?=some e→lba<aL e):firstE l lba=i:=by
 unfold firstE;rcases zjb i l.length with h | h
 · rw [zk4 h]
   refine ⟨by simpa using h2 _ (zib h),fun k hk=>?_⟩
   have:=h1 k _ hk (zib (by omega))
   simpa using this
 · have:i=l.length:=by omega
   subst this;rw [List.findIdx_eq_length];intro e he;obtain ⟨k,hk,rfl⟩:=zkm he;have:=h1 k _ hk (zib hk);simpa using this
theorem zg7 (A:Option Addr) (c:Nat) (l:List Ex) (lba:Int) (K:Nat→Prop) (w:World) (hv:IsL Rp.ex w K (.slice A l.length c) l) (hch:aC 0 l) :
 Calls Tryz.prog 218 #[.slice A l.length c,.int .i64 lba,.func (.func 219) #[] #[]] w fun x w'=>
  ∃ b,x=.returned (.tuple #[.int .i64 (firstE l lba),.bool b])∧Below w.heap.size w w':=by
 have hlen:=hv.len;obtain ⟨ln,hln⟩:∃ ln,l.length=ln:=⟨_,rfl⟩;rw [hln] at hlen;have hv0:=hv;rw [hln] at hv;rw [hln];have HLN:=zia hln;have HCH:=zia hch;clear hln hch;go_enter Tryz.func218,Tryz.ntmps218
 go_wp2_with fail;go_loopw [9,10,11] (fun x9 x10 x11 wr=>∃ i j:Nat,x9=.int .i64 i∧x10=.int .i64 j∧i≤j∧j≤ln∧Hid ((∀ k e,k<i→l[k]?=some e→aL e≤lba)∧(∀ e,l[j]?=some e→lba<aL e))∧Below w.heap.size w wr∧∃ y,x11=y) (fun i j _ _=>(intOf j-intOf i).toNat)
 case atStart=>exact ⟨0,ln,rfl,rfl,zir _,zic _,zia ⟨fun k e hk=>by omega,fun e he=>by rw [←HLN.out,ziX (zic _)] at he;cases he⟩,zif _ _,_,rfl⟩
 case round=>
  obtain ⟨i,j,rfl,rfl,hij,hjl,HI,hb,y,rfl⟩:=hrel;have hsz:=hb.size;by_cases hlt:i<j
  case neg=>
   obtain rfl:i=j:=by omega
   obtain ⟨h1,h2⟩:=HI.out;have hfi:=ze7 (by rw [HLN.out];exact hjl) h1 h2
   clear HI;by_cases hin:i<ln
   · obtain ⟨e,he⟩:∃ e,l[i]?=some e:=⟨_,zib (by rw [HLN.out];exact hin)⟩
     have hem:OkE e:=(aM HCH.out e (zix he)).1.ok;obtain ⟨ad,rfl,-,c0,c1,c2,c3,c4⟩:=bY (hv0.step hb) he;have i0:(0:Int)≤(i:Int):=by omega
     have i1:(i:Int)<(ln:Int):=by omega
     have HFI:=zia hfi;have HE:=zia h2;have HL:=zia he;clear hfi h1 h2 he;go_wp2_with fail;refine (nN e lba _ hem).mono ?_;rintro x w3 ⟨rfl,hb3⟩;clear c0 c1 c2 c3 c4;rw [zig (by have:=HE.out e HL.out;omega)]
     go_wp2;go_ret2;exact ⟨false,by rw [HFI.out];rfl,hb.trans (hb3.mono hsz)⟩
   · have HFI:=zia hfi
     clear hfi h1 h2;go_wp2;go_ret2;exact ⟨false,by rw [HFI.out];rfl,hb⟩
  obtain ⟨h,hh⟩:∃ h,(i+j) / 2=h:=⟨_,rfl⟩;go_upto_region 5 with fail;rw [show ((i:Int)+(j:Int)) / 2=(h:Int) by omega]
  have h0:(0:Int)≤(h:Int):=by omega
  have h1:(h:Int)<(ln:Int):=by omega
  have h2:i≤h∧h<j:=by omega
  obtain ⟨e,he⟩:∃ e,l[h]?=some e:=⟨_,zib (by rw [HLN.out];omega)⟩
  have hem:OkE e:=(aM HCH.out e (zix he)).1.ok;obtain ⟨ad,rfl,-,c0,c1,c2,c3,c4⟩:=bY (hv0.step hb) he;have HE:=zia he;clear he hh;go_wp2_with fail;refine (nN e lba _ hem).mono ?_;rintro x w3 ⟨rfl,hb3⟩;clear c0 c1 c2 c3 c4;replace hb3:=hb.trans (hb3.mono hsz);by_cases hl:aL e≤lba
  · rw [zij hl]
    have HI2:Hid ((∀ k e,k<h+1→l[k]?=some e→aL e≤lba)∧(∀ e,l[j]?=some e→lba<aL e)):=zia ⟨fun k x hk hx=>Int.le_trans (zbi HCH.out hx HE.out (by omega)) hl,HI.out.2⟩
    clear hl;go_wp2;go_roundw
    case rel=>exact ⟨h+1,j,by go_num,rfl,by omega,by omega,HI2,hb3,_,rfl⟩
    case measure=>simp [intOf];omega
  · rw [zig hl]
    have HI2:Hid ((∀ k e,k<i→l[k]?=some e→aL e≤lba)∧(∀ e,l[h]?=some e→lba<aL e)):=zia ⟨HI.out.1,fun x hx=>by rw [HE.out] at hx;injection hx with hx;subst hx;omega⟩
    clear hl;go_wp2;go_roundw
    case rel=>exact ⟨i,h,rfl,rfl,by omega,by omega,HI2,hb3,_,rfl⟩
    case measure=>simp [intOf];omega
def dM (e:Ex):List Value:=[.int .i64 e.lba,.int .i64 e.n,.int .i64 e.ver,.int .i64 e.zone,.int .i64 e.off]
def bB:List Ex→List Value
 | []=>[]
 | e::l=>dM e++bB l
theorem cV (l m:List Ex):bB (l++m)=bB l++bB m:=by
 induction l with
 | nil=>rfl
 | cons e l ih=>simp [bB,ih]
theorem bM (l:List Ex) (e:Ex):bB (l++[e])=bB l++dM e:=by rw [cV];simp [bB]
theorem aU (l:List Ex):∀ u∈bB l,u.oneCell'=true:=by
 induction l with
 | nil=>simp [bB]
 | cons e l ih=>
   intro u hu;rcases ziA.1 hu with hu | hu
   · simp only [dM,zim,ziJ,zju] at hu
     rcases hu with rfl | rfl | rfl | rfl | rfl <;> rfl
   · exact ih u hu
theorem eN {w:World} {K:Nat→Prop} {cs:List Value} {l:List Ex}:aI Rp.ex w K cs l↔cs=bB l:=by
 induction l generalizing cs with
 | nil=>exact ⟨fun h=>zis (by have:=h.len;simpa using this),fun h=>by subst h;rfl⟩
 | cons e l ih=>
   constructor
   · rintro ⟨a,b,rfl,ha,hb⟩
     rw [ih.1 hb,show a=dM e from ha];rfl
   · rintro rfl
     exact ⟨dM e,bB l,rfl,rfl,ih.2 rfl⟩
theorem bI {w:World} {base:Nat} {A:Option Addr} {n c:Nat} {l:List Ex} (h:w.ownsRow base 90 5 (.slice A n c) n (bB l)) (hn:l.length=n) (hl:n≤140737488355328):IsL Rp.ex w (fun b=>base≤b) (.slice A n c) l:=by
 subst hn;exact ⟨A,c,bB l,rfl,aG.of_own_ge h,eN.2 rfl,cD h,bF h,hl⟩
theorem iH {w:World} {K:Nat→Prop} {A:Option Addr} {n c:Nat} {l:List Ex} (h:IsL Rp.ex w K (.slice A n c) l):aG w K 5 A n (bB l):=by
 obtain ⟨hn,⟨cs,hr,hc⟩,_⟩:=h.open_;rw [eN.1 hc] at hr;rw [hn];exact hr
theorem Tryz.infX:(Tryz.prog.info? 90).map (fun i=>(i.zero,i.size,i.bytes))=some (some (.agg #[.int .i64 0,.int .i64 0,.int .i64 0,.int .i64 0,.int .i64 0]),5,40):=by kernel_rfl
theorem zcU {α:Type} (p:α→Bool):∀ (m:List α) (t:Nat),t≤(m.takeWhile p).length→(∀ e,m[t]?=some e→p e=true→t+1≤(m.takeWhile p).length∧(m.takeWhile p)[t]?=some e)∧((∀ e,m[t]?=some e→p e=false)→t=(m.takeWhile p).length)
 | [],t,h=>⟨fun e he=>by simp at he,fun _=>by simpa using h⟩
 | a::m,t,h=>by
   rw [zkl] at h ⊢;by_cases ha:p a=true
   · rw [zij ha] at h ⊢
     cases t with
     | zero=>exact ⟨fun e he _=>by simp at he;subst he;simp,fun h2=>by have:=h2 a rfl;rw [ha] at this;cases this⟩
     | succ t=>
       simp only [List.length_cons,Nat.add_le_add_iff_right,List.getElem?_cons_succ] at h ⊢;obtain ⟨i1,i2⟩:=zcU p m t h;exact ⟨fun e he hp=>i1 e he hp,fun h2=>by rw [i2 h2]⟩
   · rw [zig ha] at h ⊢
     have h0:t=0:=by simpa using h
     subst h0;exact ⟨fun e he hp=>by simp at he;subst he;exact absurd hp ha,fun _=>rfl⟩
theorem zaQ (A:Option Addr) (c:Nat) (l:List Ex) (lba:Int) (K:Nat→Prop) (w:World) (hv:IsL Rp.ex w K (.slice A l.length c) l) (hch:aC 0 l) :
 Calls Tryz.prog 182 #[.slice A l.length c,.int .i64 lba] w fun x w'=>x=.returned (.int .i64 (firstE l lba))∧Below w.heap.size w w':=by
 go_enter Tryz.func182,Tryz.ntmps182
 go_wp2_with fail;refine (zg7 A c l lba K _ hv hch).mono ?_;rintro x w2 ⟨b,rfl,hb2⟩;go_wp2;go_ret;exact ⟨rfl,hb2⟩
theorem zeq (l:List Ex) (lba:Int):firstE l lba≤l.length:=List.findIdx_le_length
theorem zfw (l:List Ex) (lba n:Int):firstE l lba+(midE l lba n).length≤l.length:=by
 have h1:(midE l lba n).length≤(l.drop (firstE l lba)).length:=(List.takeWhile_sublist _).length_le;have h2:=zeq l lba;rw [ziG] at h1;omega
theorem zdj (l:List Ex) (lba n:Int) {t:Nat} (ht:t≤(midE l lba n).length) :
 (∀ e,l[firstE l lba+t]?=some e→e.lba<lba+n→t+1≤(midE l lba n).length∧(partE l lba n).take (t+1)=(partE l lba n).take t++[uptoE (fromE e lba) (lba+n)]∧(e∈midE l lba n)) ∧
  ((∀ e,l[firstE l lba+t]?=some e→¬e.lba<lba+n)→t=(midE l lba n).length):=by
 obtain ⟨h1,h2⟩:=zcU (fun e:Ex=>decide (e.lba<lba+n)) (l.drop (firstE l lba)) t ht
 simp only [zk9] at h1 h2;constructor
 · intro e he hlt
   obtain ⟨h3,h4⟩:=h1 e he (by simpa using hlt)
   refine ⟨h3,gG _ ?_,zix h4⟩;unfold partE;rw [zj1];unfold midE;rw [h4];rfl
 · intro h
   exact h2 fun e he=>by simpa using h e he
theorem oU (A:Option Addr) (c:Nat) (l:List Ex) (lba n:Int) (K:Nat→Prop) (w:World) (hv:IsL Rp.ex w K (.slice A l.length c) l) (hch:aC 0 l) (hb:aJ lba n) :
 Calls Tryz.prog 135 #[.slice A l.length c,.int .i64 lba,.int .i64 n] w fun x w'=>
  ∃ Ao co,x=.returned (.tuple #[.slice Ao (partE l lba n).length co,.int .i64 (firstE l lba),.int .i64 ((firstE l lba+(midE l lba n).length:Nat):Int)]) ∧
    w'.ownsRow w.heap.size 90 5 (.slice Ao (partE l lba n).length co) (partE l lba n).length (bB (partE l lba n))∧Below w.heap.size w w':=by
 have hlen:=hv.len;obtain ⟨i0,hi,hz0,hz1,hz2⟩:=ziH Tryz.infX;have HV:=zia hv;have hst:=fun t ht=>zdj l lba n (t:=t) ht
 have hup:=gF hch lba n;have hfc:=fun w=>zaQ A c l lba K w
 have hmem:=aM hch;have hpl:(partE l lba n).length=(midE l lba n).length:=by unfold partE;rw [zjr]
 have hle:=zfw l lba n;have hm40:(midE l lba n).length≤1099511627776:=by
  obtain ⟨p1,p2,_⟩:=dH hch hb;have p3:=cI p1;rw [hpl] at p3;have:=hb.2.2.1;omega
 generalize firstE l lba=f at *;generalize midE l lba n=mid at *;generalize partE l lba n=pt at *;obtain ⟨m,hm⟩:∃ m,mid.length=m:=⟨_,rfl⟩;rw [hm] at hle hpl hm40;simp only [hm] at hst;rw [hm,hpl];have HST:=zia hst;have HUP:=zia hup;have HMEM:=zia hmem;have HPL:=zia hpl;have HFC:=zia (fun w hv=>hfc w hv hch)
 clear hst hup hmem hpl hm hfc hch;obtain ⟨ln,hln⟩:∃ ln,l.length=ln:=⟨_,rfl⟩;rw [hln] at hlen hv hle HFC ⊢;have HLN:=zia hln;clear hln;obtain ⟨b1,b2,b3,b4⟩:=hb;go_enter Tryz.func135,Tryz.ntmps135
 go_wp2_with fail;refine (HFC.out _ hv).mono ?_;rintro x w2 ⟨rfl,hb2⟩;go_wp2_with fail;go_loopw [6,8] (fun x6 x8 wr=>∃ (t:Nat) (Ao:Option Addr) (co:Nat),x6=.slice Ao t co∧x8=.int .i64 ((f+t:Nat):Int)∧t≤m∧wr.ownsRow w.heap.size 90 5 (.slice Ao t co) t (bB (pt.take t))∧Below w.heap.size w wr) (fun _ x8 _=>ln+1-(intOf x8).toNat)
 case atStart=>exact ⟨0,none,0,rfl,by simp,zir _,zin _ _ _ _,hb2⟩
 case round=>
  obtain ⟨t,Ao,co,rfl,rfl,htm,hown,hbr⟩:=hrel;have hsz:=hbr.size;obtain ⟨k,hk⟩:∃ k,f+t=k:=⟨_,rfl⟩;rw [hk];have hkl:k≤ln:=by omega
  by_cases hlt:k<ln
  case neg=>
   have htm2:t=m:=(HST.out t htm).2 fun e he=>by rw [hk,ziX (by rw [HLN.out];omega)] at he;cases he
   have HT:=zia htm2;clear htm2;have HK:=zia hk;clear hk;go_wp2;go_ret3
   refine ⟨Ao,co,?_,?_,hbr⟩
   · have e1:((f:Int)+(t:Int))=(k:Int):=by have:=HK.out;omega
     rw [←HT.out];first | (rw [HK.out];rfl) | (rw [e1];rfl)
   · rw [←HT.out]
     have:=hown;rw [HT.out,zip (by rw [HPL.out];exact zic _)] at this
     rw [HT.out];exact this
  obtain ⟨e,he⟩:∃ e,l[k]?=some e:=⟨_,zib (by rw [HLN.out];exact hlt)⟩
  obtain ⟨ad,rfl,-,c0,c1,c2,c3,c4⟩:=bY (HV.out.step hbr) he;have k0:(0:Int)≤(k:Int):=by omega
  have k1:(k:Int)<(ln:Int):=by omega
  have HE:=zia he;have HK:=zia hk;clear he hk;by_cases hin:e.lba<lba+n
  case neg=>
   have htm2:t=m:=(HST.out t htm).2 fun e' he=>by rw [HK.out,HE.out] at he;injection he with he;subst he;omega
   have HT:=zia htm2;clear htm2;go_wp2;go_ret3
   refine ⟨Ao,co,?_,?_,hbr⟩
   · have e1:((f:Int)+(t:Int))=(k:Int):=by have:=HK.out;omega
     rw [←HT.out];first | (rw [HK.out];rfl) | (rw [e1];rfl)
   · have:=hown
     rw [HT.out,zip (by rw [HPL.out];exact zic _)] at this
     exact this
  obtain ⟨g1,g2,g3⟩:=(HST.out t htm).1 e (by rw [HK.out];exact HE.out) hin
  have hem:bO e:=(HMEM.out e (zix HE.out)).1;have hup:=HUP.out e g3;have hfm:=rW hem hup.1;have HG:=zia g2;clear g2 g3 hup;go_wp2_with fail;refine (pQ e lba _ hem.ok (by omega)).mono ?_
  rintro x w3 ⟨rfl,hb3⟩;clear c0 c1 c2 c3 c4;go_wp2_with fail;refine (xK (fromE e lba) (lba+n) _ hfm.ok (by omega)).mono ?_
  rintro x w4 ⟨rfl,hb4⟩;replace hb4:=hb3.trans (hb4.mono hb3.size);generalize uptoE (fromE e lba) (lba+n)=y at HG ⊢;have own4:=aD hown hb4 (zic _);have hs4:=hb4.size;clear hown hfm;go_wp2_with (at_builtin;(refine aF rfl _ _ _ rfl w.heap.size 90 i0 _ 5 40 Tryz.underlying35 hi hz0 hz1 hz2 rfl (by omega) rfl (own4.alloc _) rfl (aG.new (xs:=dM y) (n:=1) rfl rfl rfl) (by intro u hu;exact aU [y] u (by simpa [bB] using hu)) (by simp only [maxLen];omega) (by omega) (by simp;omega) ?_;intro A8 c8 w6 own8 hg8))
  go_roundw
  case rel=>
   refine ⟨t+1,A8,c8,rfl,?_,g1,?_,?_⟩
   · rw [←HK.out];go_num
   · rw [HG.out,bM];exact own8
   · have:=(hbr.trans (hb4.mono hsz)).alloc (by omega) (.cells (exC y) 90)
     exact this.trans (hg8.below.mono (zic _))
  case measure=>simp [intOf];omega
theorem oC (A:Option Addr) (c:Nat) (l:List Ex) (lba n:Int) (K:Nat→Prop) (w:World) (hv:IsL Rp.ex w K (.slice A l.length c) l) (hch:aC 0 l) (hb:aJ lba n) :
 Calls Tryz.prog 66 #[.slice A l.length c,.int .i64 lba,.int .i64 n] w fun x w'=>
  ∃ Ao co,x=.returned (.tuple #[.slice Ao (partE l lba n).length co,.int .i64 0]) ∧
    w'.ownsRow w.heap.size 90 5 (.slice Ao (partE l lba n).length co) (partE l lba n).length (bB (partE l lba n))∧Below w.heap.size w w':=by
 have hc:dZ l=0:=by unfold dZ;rw [zij hch]
 have hd:decide (aJ lba n)=true:=ziu hb;go_enter Tryz.func66,Tryz.ntmps66
 go_wp2_with fail;refine (cS _ l K _ hv).mono ?_;rintro x w2 ⟨rfl,hb2⟩;rw [hc];go_wp2_with fail;refine (bW lba n _).mono ?_;rintro x w3 ⟨rfl,rfl⟩;rw [hd];go_wp2_with fail;refine (oU A c l lba n K _ (hv.step hb2) hch hb).mono ?_;rintro x w4 ⟨Ao,co,rfl,hown,hb4⟩;go_wp2;go_ret2;exact ⟨Ao,co,rfl,aO hown hb2.size,hb2.trans (hb4.mono hb2.size)⟩
theorem jH {B g:Nat} {a w:World} {x0 x1 x2 x3 x4:Value} (h:Below B a w) (hg:B≤g):Below B a (((((w.setCell ⟨g,0,none⟩ x0).setCell ⟨g,1,none⟩ x1).setCell ⟨g,2,none⟩ x2).setCell ⟨g,3,none⟩ x3).setCell ⟨g,4,none⟩ x4):=
 ((((h.setCell (p:=⟨g,0,none⟩) hg _).setCell (p:=⟨g,1,none⟩) hg _).setCell (p:=⟨g,2,none⟩) hg _).setCell (p:=⟨g,3,none⟩) hg _).setCell (p:=⟨g,4,none⟩) hg _
def atE (l:List Ex) (b:Int):Ex × Bool:=match see l b with
 | none=>(⟨0,0,0,0,0⟩,false)
 | some t=>(⟨b,1,t.1,t.2.1,t.2.2⟩,true)
theorem zfT (A:Option Addr) (c:Nat) (l:List Ex) (b:Int) (K:Nat→Prop) (w:World) (hv:IsL Rp.ex w K (.slice A l.length c) l) (hch:aC 0 l) (hb:aJ b 1) :
 Calls Tryz.prog 159 #[.slice A l.length c,.int .i64 b] w fun x w'=>
  x=.returned (.tuple #[exV (atE l b).1,.bool (atE l b).2])∧Below w.heap.size w w':=by
 have hc:dZ l=0:=by unfold dZ;rw [zij hch]
 have hd:decide (aJ b 1)=true:=ziu hb;have hp:=zf4 hch hb;have hcp:=fun w hv=>oU A c l b 1 K w hv hch hb
 generalize partE l b 1=pt at hp hcp;obtain ⟨r,hr⟩:∃ r,atE l b=r:=⟨_,rfl⟩;rw [hr];have HR:=zia hr;have HP:=zia hp;clear hr hp;have E:=(Kn.start w).push 90 #[.int .i64 0,.int .i64 0,.int .i64 0,.int .i64 0,.int .i64 0];go_enter Tryz.func159,Tryz.ntmps159
 go_wp2_with fail;refine (cS _ l K _ (hv.alloc _)).mono ?_;rintro x w2 ⟨rfl,hb2⟩;replace E:=E.step hb2;rw [hc];go_wp2_with fail;refine (bW b 1 _).mono ?_;rintro x w3 ⟨rfl,rfl⟩;rw [hd];go_wp2_with fail;refine (hcp _ ((hv.alloc _).step hb2)).mono ?_;rintro x w4 ⟨Ao,co,rfl,hown,hb4⟩;replace E:=E.step hb4;have hr:=HR.out;have hp:=HP.out;clear HR HP;unfold atE at hr;cases hs:see l b with
 | none=>
   rw [hs] at hp hr;subst hp hr;obtain ⟨q0,f0,t0⟩:=E.rules m0;clear hs;go_wp2;refine zik (v:=.tuple #[.agg #[.int .i64 0,.int .i64 0,.int .i64 0,.int .i64 0,.int .i64 0],.bool false]) (by simp [results,Tryz.results159,go_sem,q0]) rfl ⟨rfl,jH E.below (zic _)⟩
 | some t=>
   rw [hs] at hp hr;subst hp hr;obtain ⟨q0,f0,t0⟩:=E.rules m0;clear hs;have hL:=bI hown rfl (by simp)
   obtain ⟨ad,rfl,-,c0,c1,c2,c3,c4⟩:=bY hL (j:=0) rfl;rw [zjZ,cW] at c0 c1 c2 c3 c4;clear hcp;go_wp2;refine zik (v:=.tuple #[.agg #[.int .i64 b,.int .i64 1,.int .i64 t.1,.int .i64 t.2.1,.int .i64 t.2.2],.bool true]) (by simp [results,Tryz.results159,go_sem,q0]) rfl ⟨rfl,jH E.below (zic _)⟩
theorem zfv (f b:Ex) (w:World):(binOp .eql 90 (exV f) (exV b)).run Tryz.prog w=.ok (.bool (decide (f=b))) w:=by
 obtain ⟨f0,f1,f2,f3,f4⟩:=f;obtain ⟨b0,b1,b2,b3,b4⟩:=b;simp only [Ex.mk.injEq];go_simp;repeat' split
 all_goals simp_all
theorem zdx (a b:Ex) (w:World) (ha:bO a) (hb:bO b) :
 Calls Tryz.prog 206 #[exV a,exV b] w fun x w'=>x=.returned (.bool (pO a b))∧Below w.heap.size w w':=by
 have oka:=ha.ok;have okb:=hb.ok;obtain ⟨a1,a2,a3⟩:=oka;obtain ⟨b1,b2,b3⟩:=okb;have okc:OkE ⟨a.lba,a.n+b.n,a.ver,a.zone,a.off⟩:=by
  have p1:=ha.1;have p2:=hb.1;unfold aJ at p1 p2;exact ⟨a1,by simp only;omega,a3⟩
 have hcf:=fun w=>pQ ⟨a.lba,a.n+b.n,a.ver,a.zone,a.off⟩ b.lba w okc (by omega)
 have hend:=fun w=>lE a w (by omega)
 obtain ⟨f,hf⟩:∃ f,fromE ⟨a.lba,a.n+b.n,a.ver,a.zone,a.off⟩ b.lba=f:=⟨_,rfl⟩;obtain ⟨e,he⟩:∃ e,aL a=e:=⟨_,rfl⟩;have hg:pO a b=(decide (b.lba=e) && decide (f=b)):=by
  unfold pO;rw [hf,he,Bool.decide_and]
 rw [hf] at hcf;rw [he] at hend;rw [hg];have HCF:=zia hcf;have HEND:=zia hend;clear hg hf he hcf hend okc ha hb;obtain ⟨r,hr⟩:∃ r,(decide (b.lba=e) && decide (f=b))=r:=⟨_,rfl⟩;rw [hr];have HR:=zia hr;clear hr;have E:=((Kn.start w).push 90 (exC a)).push 90 (exC b);obtain ⟨q0,f0,t0⟩:=E.rules m0;obtain ⟨q1,f1,t1⟩:=E.rules m1;go_enter Tryz.func206,Tryz.ntmps206
 go_wp2_with fail;refine (HCF.out _).mono ?_;rintro x w2 ⟨rfl,hb2⟩;clear q0 f0 t0 q1 f1 t1;replace E:=E.step hb2;replace E:=E.push 90 (exC f);rw [zid] at E;go_upto_region 2 with fail;generalize hw1:w2.alloc (.cells #[.int .i64 f.lba,.int .i64 f.n,.int .i64 f.ver,.int .i64 f.zone,.int .i64 f.off] 90)=w1 at E ⊢;clear hw1 hb2;have hb0:Below w1.heap.size w1 w1.drew:=(zif _ _).drew;have HK:Hid (∀ W,Below w1.heap.size w1 W→(∀ o,W.cell? ⟨w2.heap.size,o,none⟩=(exC f)[o]?)∧(∀ o,W.cell? ⟨w.heap.size+1,o,none⟩=(exC b)[o]?)∧(∀ o,W.cell? ⟨w.heap.size,o,none⟩=(exC a)[o]?)):=zia fun W h=>⟨((E.step h).rules m0).1,((E.step h).rules m1).1,((E.step h).rules m2).1⟩
 by_cases hbe:b.lba=e
 case neg=>
  have hd:(b.lba == e)=false:=ziN.2 hbe;have:=HR.out;rw [ziv hbe,Bool.false_and] at this;subst this;clear HR hbe;refine wp_region_held_drew (S:=fun W=>(∀ o,W.cell? ⟨w2.heap.size,o,none⟩=(exC f)[o]?)∧(∀ o,W.cell? ⟨w.heap.size+1,o,none⟩=(exC b)[o]?)∧(∀ o,W.cell? ⟨w.heap.size,o,none⟩=(exC a)[o]?)) (by kernel_rfl) (HK.out _ hb0) (fun hHeld=>?_)
  refine wT 0 23 ?_;refine wT 1 24 ?_;refine wT 2 25 ?_;refine wR 3 26 (fun K hK=>?_)
  go_simp;refine (HEND.out _).mono ?_;rintro x w3 ⟨rfl,hb3⟩;replace hb3:=hb0.trans (hb3.mono hb0.size);go_wp2_with fail;refine hK.out _ _ (HK.out _ hb3) (fun hHeld=>?_)
  clear hK K;refine wT 4 27 ?_;refine wT 5 28 ?_;refine wU 6 29 ?_;refine wU 7 30 ?_;refine wU 8 31 ?_;refine wT 9 32 ?_;refine wT 10 4 ?_;refine wpAnyH_done (by kernel_rfl) ?_ _
  go_wp2;go_ret;exact ⟨rfl,(E.step hb3).below⟩
 have hd:(b.lba == e)=true:=zkb.2 hbe;have:=HR.out;rw [ziu hbe,zku] at this;clear HR hbe;have heq:∀ w:World,(binOp .eql 90 (exV f) (exV b)).run Tryz.prog w=.ok (.bool r) w:=fun w=>by rw [zfv,this]
 clear this;refine wp_region_held_drew (S:=fun W=>(∀ o,W.cell? ⟨w2.heap.size,o,none⟩=(exC f)[o]?)∧(∀ o,W.cell? ⟨w.heap.size+1,o,none⟩=(exC b)[o]?)∧(∀ o,W.cell? ⟨w.heap.size,o,none⟩=(exC a)[o]?)) (by kernel_rfl) (HK.out _ hb0) (fun hHeld=>?_)
 refine wT 0 23 ?_;refine wT 1 24 ?_;refine wT 2 25 ?_;refine wR 3 26 (fun K hK=>?_)
 go_simp;refine (HEND.out _).mono ?_;rintro x w3 ⟨rfl,hb3⟩;replace hb3:=hb0.trans (hb3.mono hb0.size);go_wp2_with fail;refine hK.out _ _ (HK.out _ hb3) (fun hHeld=>?_)
 clear hK K;refine wT 4 27 ?_;refine wT 5 28 ?_;refine wT 6 29 ?_;refine wT 7 30 ?_;refine wT 8 31 ?_;refine wT 9 32 ?_;refine wT 10 4 ?_;refine wpAnyH_done (by kernel_rfl) ?_ _
 go_wp2;go_ret;exact ⟨rfl,(E.step hb3).below⟩
theorem gV {w:World} {base g:Nat} {e:TypeId} {size n c:Nat} {xs:List Value} (h:w.ownsRow base e size (.slice (some ⟨g,0,none⟩) n c) n xs) (i:Nat) (u:Value) :
 (w.setCell ⟨g,i,none⟩ u).ownsRow base e size (.slice (some ⟨g,0,none⟩) n c) n (xs.set i u):=by
 refine ⟨by rw [zjs];exact h.1,?_⟩
 rcases h.2 with ⟨h2,_⟩ | ⟨g',cap,cur,hv,hg,hh,h3,h4,h5,h6⟩
 · cases h2
 · injection hv with e1 e2 e3
   injection e1 with e1;injection e1 with e1 _ _;subst e1 e3;refine .inr ⟨g,c,cur.setIfInBounds i u,rfl,hg,?_,h3,h4,by simpa using h5,?_⟩
   · simp [World.setCell,zjW,hh]
   · rw [←h6,Array.toList_setIfInBounds]
     rw [List.take_set]
theorem gM {w:World} {base:Nat} {e:TypeId} {size n c:Nat} {A:Option Addr} {xs:List Value} (h:w.ownsRow base e size (.slice A n c) n xs) (hn:0<n) :
 ∃ g cur,A=some ⟨g,0,none⟩∧base≤g∧Blk w g e cur∧∀ (j:Nat) u,xs[j]?=some u→cur[j]?=some u:=by
 rcases h.2 with ⟨_,h2⟩ | ⟨g,cap,cur,hv,hg,hh,h3,h4,h5,h6⟩
 · omega
 · injection hv with e1 e2 e3
   refine ⟨g,cur,e1,hg,hh,fun j u hu=>?_⟩
   rw [←h6,zjd] at hu;split at hu
   · simpa using hu
   · cases hu
theorem eH (l:List Ex):(bB l).length=l.length*5:=by
 induction l with
 | nil=>rfl
 | cons e l ih=>simp only [bB,zie,ih,List.length_cons,dM,List.length_nil];omega
theorem zbR {l:List Ex} {j:Nat} {e:Ex} (h:l[j]?=some e) (i:Nat) (hi:i<5):(bB l)[j*5+i]?=(dM e)[i]?:=by
 induction l generalizing j with
 | nil=>simp at h
 | cons x l ih=>
   unfold bB;cases j with
   | zero=>
     simp only [List.getElem?_cons_zero,ziL] at h;subst h;rw [zjx (by simp [dM];omega)]
     simp
   | succ j=>
     simp only [List.getElem?_cons_succ] at h;rw [zjt (by simp [dM];omega)]
     rw [←ih h];congr 1
     simp [dM];omega
theorem zc2 (pre:List Ex) (x:Ex) (v:Int) {i:Nat} (hi:i=pre.length*5+1):(bB (pre++[x])).set i (.int .i64 v)=bB (pre++[⟨x.lba,v,x.ver,x.zone,x.off⟩]):=by
 rw [bM,bM,zkd _ _ (by rw [eH];omega),eH,hi,show pre.length*5+1-pre.length*5=1 by omega]
 rfl
def tI (out:List Ex) (e:Ex):List Ex:=match out.getLast? with
 | none=>[e]
 | some x=>if pO x e=true then out.dropLast++[⟨x.lba,x.n+e.n,x.ver,x.zone,x.off⟩] else out++[e]
theorem xE:∀ (l:List Ex) (x:Ex),eE x l≠[]
 | [],x=>by simp [eE]
 | a::l,x=>by
   unfold eE;split
   · exact xE l _
   · simp
theorem zaI (x e:Ex) {m:List Ex} (hm:m≠[]):tI (x::m) e=x::tI m e:=by
 unfold tI;obtain ⟨y,r,rfl⟩:=List.exists_cons_of_ne_nil hm;rw [List.getLast?_cons_cons];cases h:(y::r).getLast? with
 | none=>simp at h
 | some z=>
   simp only;split
   · rw [List.dropLast_cons_of_ne_nil (by simp)];rfl
   · rfl
theorem kH (e:Ex):∀ (l:List Ex) (x:Ex),eE x (l++[e])=tI (eE x l) e
 | [],x=>by
   rw [List.nil_append];unfold eE tI;simp only [eE,List.getLast?_singleton];split <;> simp
 | a::l,x=>by
   rw [List.cons_append];unfold eE;split
   · exact kH e l _
   · rw [kH e l a,zaI _ _ (xE l a)]
theorem zbM (l:List Ex) (e:Ex):joinE (l++[e])=tI (joinE l) e:=by
 cases l with
 | nil=>rfl
 | cons x l=>exact kH e l x
theorem eP {l:List Ex} (h:aC 0 l):l.length≤1099511627776:=by
 have h1:=cI h;have h2:lastE 0 l≤1099511627776:=nE (by omega) fun e he=>by
  have:=(aM h e he).1.1;unfold aJ at this;unfold aL;omega
 omega
theorem pB (A:Option Addr) (c:Nat) (l:List Ex) (K:Nat→Prop) (w:World) (hv:IsL Rp.ex w K (.slice A l.length c) l) (hch:aC 0 l) :
 Calls Tryz.prog 158 #[.slice A l.length c] w fun x w'=>
  ∃ Ao co,x=.returned (.slice Ao (joinE l).length co)∧w'.ownsRow w.heap.size 90 5 (.slice Ao (joinE l).length co) (joinE l).length (bB (joinE l))∧Below w.heap.size w w':=by
 have hlen:=eP hch;obtain ⟨i0,hi,hz0,hz1,hz2⟩:=ziH Tryz.infX;have HV:=zia hv;have hc:dZ l=0:=by unfold dZ;rw [zij hch]
 have hck:=fun w hv=>cS (.slice A l.length c) l K w hv
 rw [hc] at hck;have HCK:=zia hck;have HCH:=zia hch;clear hck hc hch;obtain ⟨ln,hln⟩:∃ ln,l.length=ln:=⟨_,rfl⟩;have hJ:∀ k,k=ln→joinE (l.take k)=joinE l:=fun k hk=>by rw [hk,←hln,ziQ]
 have HJ:=zia hJ;clear hJ;rw [hln] at hlen hv HCK ⊢;have HLN:=zia hln;clear hln;go_enter Tryz.func158,Tryz.ntmps158
 go_wp2_with fail;refine (HCK.out _ hv).mono ?_;rintro x w2 ⟨rfl,hb2⟩;go_wp2_with fail;go_loopw [3,5,6,12] (fun x3 x5 x6 x12 wr=>∃ (j t:Nat) (Ao:Option Addr) (co:Nat),x3=.slice Ao t co∧x12=.int .i64 j∧j≤ln∧Hid ((joinE (l.take j)).length=t)∧wr.ownsRow w.heap.size 90 5 (.slice Ao t co) t (bB (joinE (l.take j)))∧Below w.heap.size w wr∧(∃ y,x5=y)∧∃ y,x6=y) (fun _ _ _ x12 _=>ln-(intOf x12).toNat)
 case atStart=>exact ⟨0,0,none,0,rfl,rfl,zir _,zia rfl,zin _ _ _ _,hb2,⟨_,rfl⟩,_,rfl⟩
 case round=>
  obtain ⟨j,t,Ao,co,rfl,rfl,hj,HT,hown,hbr,⟨y5,rfl⟩,y6,rfl⟩:=hrel;have hsz:=hbr.size;by_cases hlt:j<ln
  case neg=>
   have e1:=HJ.out j (by omega)
   rw [e1] at hown HT;have HT2:=HT.out;clear HJ e1 HT;have HT:=zia HT2;clear HT2;go_wp2;go_ret;refine ⟨Ao,co,?_,?_,hbr⟩
   · rw [HT.out];rfl
   · rw [HT.out];exact hown
  obtain ⟨e,he⟩:∃ e,l[j]?=some e:=⟨_,zib (by rw [HLN.out];exact hlt)⟩
  obtain ⟨ad,rfl,-,c0,c1,c2,c3,c4⟩:=bY (HV.out.step hbr) he;have k0:(0:Int)≤(j:Int):=by omega
  have k1:(j:Int)<(ln:Int):=by omega
  have hem:bO e:=(aM HCH.out e (zix he)).1;obtain ⟨jc,_,jl⟩:=gO (iW j HCH.out);have hsn:=zbM (l.take j) e;rw [←gG l he] at hsn;have hjm:=aM jc;have htj:t≤j:=by
   have:=HT.out;rw [zio] at jl;omega
  have HE:=zia he;clear he jc jl;generalize hout:joinE (l.take j)=out at *;have HSN:=zia hsn;have HJM:=zia hjm;clear hsn hjm hout;go_upto_region 8 with fail;have E:=((Kn.from_ hbr hsz).push 90 (exC e)).give (f:=fun W=>W.ownsRow w.heap.size 90 5 (.slice Ao t co) t (bB out)) (fun _ _ h hb=>aD h hb (zic _)) (hown.alloc _)
  clear c0 c1 c2 c3 c4;have hrow:∀ b,(Value.slice Ao t co).ownBlock=some b→b<wr.heap.size:=fun b hb=>(hown.lt b hb).2
  have hbw:=hbr.alloc hsz (.cells (exC e) 90);generalize hw1:wr.alloc (.cells #[.int .i64 e.lba,.int .i64 e.n,.int .i64 e.ver,.int .i64 e.zone,.int .i64 e.off] 90)=w1 at E hbw ⊢;clear hw1 hown;have hb0:Below w1.heap.size w1 w1.drew:=(zif _ _).drew;cases t with
  | zero=>
    have hnil:out=[]:=zis HT.out;subst hnil;have HK:Hid (∀ W,Below w1.heap.size w1 W→(∀ o,W.cell? ⟨wr.heap.size,o,none⟩=(exC e)[o]?)):=zia fun W h=>((E.step h).rules m0).1
    refine wp_region_held_drew (S:=fun W=>(∀ o,W.cell? ⟨wr.heap.size,o,none⟩=(exC e)[o]?)) (by kernel_rfl) (HK.out _ hb0) (fun hHeld=>?_)
    refine wT 0 19 ?_;refine wT 1 20 ?_;refine wT 2 21 ?_;refine wU 3 22 ?_;refine wU 4 23 ?_;refine wU 5 24 ?_;refine wU 6 25 ?_;refine wU 7 26 ?_;refine wU 8 27 ?_;refine wT 9 28 ?_;refine wpAnyH_done (by kernel_rfl) ?_ _
    obtain ⟨q0,f0,t0⟩:=(E.step hb0).rules m0;have own4:=(E.step hb0).get m0;have hs4:=(E.step hb0).below.size;have hbw4:=hbw.trans (hb0.mono hbw.size);generalize hw4:w1.drew=w4 at *;clear hw4 HK hb0 hHeld;go_wp2_with (at_builtin;refine aF rfl _ _ _ rfl w.heap.size 90 i0 _ 5 40 Tryz.underlying35 hi hz0 hz1 hz2 rfl (by omega) rfl (own4.alloc _) rfl (aG.new (xs:=dM e) (n:=1) rfl rfl rfl) (by intro u hu;exact aU [e] u (by simpa [bB] using hu)) (by simp only [maxLen];omega) (by omega) (by simp;omega) ?_;intro A8 c8 w6 own8 hg8)
    go_roundw
    case rel=>
     refine ⟨j+1,1,A8,c8,rfl,by go_num,by omega,?_,?_,?_,⟨_,rfl⟩,_,rfl⟩
     · rw [HSN.out];exact zia rfl
     · rw [HSN.out];exact own8
     · have:=hbw4.alloc hbw4.size (.cells (exC e) 90)
       exact this.trans (hg8.below.mono (zic _))
    case measure=>simp [intOf];omega
  | succ k=>
    obtain ⟨pre,x,hpx⟩:∃ pre x,out=pre++[x]:=by
     rcases List.eq_nil_or_concat out with h | ⟨p,y,h⟩
     · have:=HT.out;rw [h] at this;simp at this
     · exact ⟨p,y,by rw [h,List.concat_eq_append]⟩
    have hpl:pre.length=k:=by have:=HT.out;rw [hpx,zie] at this;simpa using this
    have hxk:out[k]?=some x:=by rw [hpx,zjt (by omega),hpl];simp
    have hxm:bO x:=(HJM.out x (zix hxk)).1;have hjs:tI out e=if pO x e=true then pre++[⟨x.lba,x.n+e.n,x.ver,x.zone,x.off⟩] else out++[e]:=by
     unfold tI;rw [hpx,List.getLast?_append];simp only [List.getLast?_singleton,Option.some_or,zkj]
    have HPX:=zia hpx;have HPL:=zia hpl;have HXK:=zia hxk;have HJS:=zia hjs;clear hpx hpl hxk hjs;obtain ⟨g,cur,rfl,hgb,-,-⟩:=gM (E.get m0) (Nat.succ_pos k);obtain ⟨ad2,had⟩:∃ ad2:Addr,(⟨g,0,none⟩:Addr)=ad2:=⟨_,rfl⟩;have HAD:=zia had;rw [had] at E ⊢;clear had;have HK:Hid (∀ W,Below w1.heap.size w1 W→(∀ o,W.cell? ⟨wr.heap.size,o,none⟩=(exC e)[o]?)∧W.cell? (ad2.add (k*5))=some (.int .i64 x.lba)∧W.cell? ⟨(ad2.add (k*5)).block,(ad2.add (k*5)).off+1,none⟩=some (.int .i64 x.n)∧W.cell? ⟨(ad2.add (k*5)).block,(ad2.add (k*5)).off+2,none⟩=some (.int .i64 x.ver) ∧
     W.cell? ⟨(ad2.add (k*5)).block,(ad2.add (k*5)).off+3,none⟩=some (.int .i64 x.zone)∧W.cell? ⟨(ad2.add (k*5)).block,(ad2.add (k*5)).off+4,none⟩=some (.int .i64 x.off)):=zia fun W h=>by
     have hL:=bI ((E.step h).get m0) HT.out (by omega)
     obtain ⟨a,ha,_,c0,c1,c2,c3,c4⟩:=bY hL HXK.out;injection ha with ha;subst ha;exact ⟨((E.step h).rules m0).1,c0,c1,c2,c3,c4⟩
    have i0':(0:Int)≤(k:Int):=by omega
    have i1':(k:Int)<(k:Int)+1:=by omega
    have hcg:=fun w=>zdx x e w hxm hem
    obtain ⟨r,hr⟩:∃ r,pO x e=r:=⟨_,rfl⟩;rw [hr] at hcg;have HCG:=zia hcg;have HR:=zia hr;clear hcg hr;refine wp_region_held_drew (S:=fun W=>(∀ o,W.cell? ⟨wr.heap.size,o,none⟩=(exC e)[o]?)∧W.cell? (ad2.add (k*5))=some (.int .i64 x.lba)∧W.cell? ⟨(ad2.add (k*5)).block,(ad2.add (k*5)).off+1,none⟩=some (.int .i64 x.n)∧W.cell? ⟨(ad2.add (k*5)).block,(ad2.add (k*5)).off+2,none⟩=some (.int .i64 x.ver) ∧
     W.cell? ⟨(ad2.add (k*5)).block,(ad2.add (k*5)).off+3,none⟩=some (.int .i64 x.zone)∧W.cell? ⟨(ad2.add (k*5)).block,(ad2.add (k*5)).off+4,none⟩=some (.int .i64 x.off)) (by kernel_rfl) (HK.out _ hb0) (fun hHeld=>?_)
    refine wT 0 19 ?_;refine wT 1 20 ?_;refine wT 2 21 ?_;refine wT 3 22 ?_;refine wT 4 23 ?_;refine wT 5 24 ?_;refine wT 6 25 ?_;refine wT 7 26 ?_;refine wR 8 27 (fun K hK=>?_)
    go_simp;refine (HCG.out _).mono ?_;rintro x w3 ⟨rfl,hb3⟩;replace hb3:=hb0.trans (hb3.mono hb0.size);go_wp2_with fail;refine hK.out _ _ (HK.out _ hb3) (fun hHeld=>?_)
    clear hK K;refine wT 9 28 ?_;refine wpAnyH_done (by kernel_rfl) ?_ _
    obtain ⟨q0,f0,t0⟩:=(E.step hb3).rules m0;have own4:=(E.step hb3).get m0;have hs4:=(E.step hb3).below.size;have hbw4:=hbw.trans (hb3.mono hbw.size);have hE3:=E.step hb3;clear HK hb0 hHeld hb3 E;cases r with
    | false=>
      go_wp2_with (at_builtin;refine aF rfl _ _ _ rfl w.heap.size 90 i0 _ 5 40 Tryz.underlying35 hi hz0 hz1 hz2 rfl (by omega) rfl (own4.alloc _) rfl (aG.new (xs:=dM e) (n:=1) rfl rfl rfl) (by intro u hu;exact aU [e] u (by simpa [bB] using hu)) (by simp only [maxLen];omega) (by omega) (by simp;omega) ?_;intro A8 c8 w6 own8 hg8)
      go_roundw
      case rel=>
       refine ⟨j+1,k+1+1,A8,c8,rfl,by go_num,by omega,?_,?_,?_,⟨_,rfl⟩,_,rfl⟩
       · rw [HSN.out,HJS.out,HR.out,zig (by simp)];exact zia (by rw [zie,HT.out];rfl)
       · rw [HSN.out,HJS.out,HR.out,zig (by simp),bM];exact own8
       · have:=hbw4.alloc hbw4.size (.cells (exC e) 90)
         exact this.trans (hg8.below.mono (zic _))
      case measure=>simp [intOf];omega
    | true=>
      have hgl:g<wr.heap.size:=hrow g rfl;go_upto_region 9 with fail;generalize hw5:w3.drew=w5;have hb5:Below w3.heap.size w3 w5:=by rw [←hw5];exact (zif _ _).drew
      have own5:=aD own4 hb5 (zic _);replace hE3:=hE3.step hb5;have hadd:∀ i,ad2.add i=⟨g,i,none⟩:=fun i=>by rw [←HAD.out];unfold Addr.add;split <;> simp_all
      have c1:w5.cell? ⟨(ad2.add (k*5)).block,(ad2.add (k*5)).off+1,none⟩=some (.int .i64 x.n):=by
       obtain ⟨a,ha,_,_,h,_⟩:=bY (bI own5 HT.out (by omega)) HXK.out
       injection ha with ha;subst ha;exact h
      obtain ⟨g',cur',hg',-,hgB,-⟩:=gM own5 (Nat.succ_pos k);have hgg:g'=g:=by
       injection hg' with hg';have:=HAD.out;rw [hg'] at this;injection this with this;exact this.symm
      subst hgg;have hfr:w5.frozen? ⟨g',k*5+1,none⟩=false:=hgB.frozen _;rw [hadd] at c1;replace c1:w5.cell? ⟨g',k*5+1,none⟩=some (.int .i64 x.n):=c1;injection hg' with hg';subst hg';have hwrap:IntKind.i64.wrap (x.n+e.n)=x.n+e.n:=ziI _ (by have p1:=hxm.1;have p2:=hem.1;unfold aJ at p1 p2;omega)
      have HQ0:Hid (∀ o,w5.cell? ⟨wr.heap.size,o,none⟩=(exC e)[o]?):=zia (hE3.rules m0).1;clear hadd q0 f0 t0;refine wp_region_held_drew (S:=fun W=>(∀ o,W.cell? ⟨wr.heap.size,o,none⟩=(exC e)[o]?) ) (by kernel_rfl) (by rw [hw5];exact HQ0.out) (fun hHeld=>?_)
      rw [hw5] at hHeld ⊢;clear hw5;refine wT 0 29 ?_;refine wT 1 30 ?_;refine wT 2 31 ?_;refine wT 3 32 ?_;refine wT 5 34 ?_;refine wT 6 35 ?_;refine wR 4 33 (fun K hK=>?_)
      go_simp;refine hK.out _ _ HQ0.out (fun hHeld=>?_)
      clear hK K;refine wT 7 36 ?_;refine wT 8 37 ?_;refine wT 9 38 ?_;refine wRn 10 (fun K hK=>?_)
      go_simp;refine hK.out _ _ ?_ (fun hHeld=>?_)
      · intro o
        rw [zjH _ _ _ _ (fun h=>by have:=zjj Addr.block h;simp only at this;omega)]
        exact HQ0.out o
      clear hK K;try simp only [pu,List.set]
      refine wpAnyH_done (by kernel_rfl) ?_ _
      go_wp2;go_roundw
      case rel=>
       refine ⟨j+1,k+1,some ⟨g',0,none⟩,co,rfl,by go_num,by omega,?_,?_,?_,⟨_,rfl⟩,_,rfl⟩
       · rw [HSN.out,HJS.out,HR.out,zij rfl];exact zia (by rw [zie,HPL.out];rfl)
       · rw [HSN.out,HJS.out,HR.out,zij rfl,←zc2 pre x (x.n+e.n) (i:=k*5+1) (by rw [HPL.out]),←HPX.out]
         exact gV own5 _ _
       · exact (hbw4.trans (hb5.mono hbw4.size)).setCell hgb _
      case measure=>simp [intOf];omega
theorem zfZ (e:Ex) (w:World) (h:bO e):Calls Tryz.prog 142 #[exV e] w fun x w'=>x=.returned (.bool true)∧Below w.heap.size w w':=by
 obtain ⟨⟨a1,a2,a3,a4⟩,a5,a6,a7,a8,a9,a10⟩:=h;have a2':¬e.n<1:=by omega
 have E:=(Kn.start w).push 90 (exC e);obtain ⟨q0,f0,t0⟩:=E.rules m0;have z0:e.zone≤1099511627776:=a7;by_cases hz:e.zone = -1
 · have b:=a9 hz
   clear a9 a10;go_enter Tryz.func142,Tryz.ntmps142
   go_wp2;go_ret;exact ⟨rfl,zBA⟩
 · have b:=a10 hz
   have hz1:(e.zone == -1)=false:=ziN.2 hz;have hz0:0≤e.zone:=by omega
   clear a9 a10;go_enter Tryz.func142,Tryz.ntmps142
   go_wp2;go_ret;exact ⟨rfl,E.below⟩
theorem zci (v:Value) (l:List Ex) (K:Nat→Prop) (w:World) (hv:IsL Rp.ex w K v l) (hch:aC 0 l) :
 Calls Tryz.prog 73 #[v] w fun x w'=>x=.returned (.int .i64 0)∧Below w.heap.size w w':=by
 obtain ⟨A,c,rfl,hlc,hcc⟩:=hv.form;have hlen:=hv.len;obtain ⟨ln,hln⟩:∃ ln,l.length=ln:=⟨_,rfl⟩;rw [hln] at hlen hv ⊢;have HLN:=zia hln;clear hln hlc;go_enter Tryz.func73,Tryz.ntmps73
 go_wp2_with fail;go_loopw [3,5,8] (fun x3 x5 i wr=>∃ j:Nat,i=.int .i64 j∧j≤ln∧x3=.int .i64 (lastE 0 (l.take j))∧Below w.heap.size w wr∧∃ y,x5=y) (fun _ _ i _=>ln-(intOf i).toNat)
 case atStart=>exact ⟨0,rfl,zir _,rfl,zif _ _,_,rfl⟩
 case round=>
  obtain ⟨j,rfl,hj,rfl,hb,y,rfl⟩:=hrel;have hsz:=hb.size;by_cases hlt:j<ln
  case neg=>
   obtain rfl:j=ln:=by omega
   generalize lastE 0 (l.take j)=la;clear hv hch;go_wp2;go_ret;exact ⟨rfl,hb⟩
  have hlt':j<l.length:=by rw [HLN.out];exact hlt
  have hje:=zib hlt';have hct:=(eO hje).1 (iW (j+1) hch);have hla:=zia (vP hje);generalize l[j]=e at hje hct hla;obtain ⟨-,hm,hle⟩:=hct;generalize lastE 0 (l.take j)=la at hle ⊢;obtain ⟨ad,rfl,-,c0,c1,c2,c3,c4⟩:=bY (hv.step hb) hje;have j0:(0:Int)≤(j:Int):=by omega
  have j1:(j:Int)<(ln:Int):=by omega
  have hov:0≤e.lba∧e.lba≤1099511627776∧0≤e.n∧e.n≤1099511627776:=by have:=hm.1;unfold aJ at this;omega
  have hla':¬e.lba<la:=by omega
  have E:=(Kn.from_ hb hsz).push 90 (exC e);go_wp2_with fail;refine (zfZ e _ hm).mono ?_;rintro x w2 ⟨rfl,hb2⟩;replace E:=E.step hb2;obtain ⟨q0,f0,t0⟩:=E.rules m0;go_wp2;go_roundw
  case rel=>exact ⟨j+1,by go_num,by omega,by rw [hla.out];rfl,E.below,_,rfl⟩
  case measure=>simp [intOf];omega
theorem zfJ (v:Value) (l:List Ex) (lba n:Int) (K:Nat→Prop) (w:World) (hv:IsL Rp.ex w K v l) (hch:aC 0 l) (hb:aJ lba n) :
 Calls Tryz.prog 196 #[v,.int .i64 lba,.int .i64 n] w fun x w'=>x=.returned (.bool false)∧Below w.heap.size w w':=by
 obtain ⟨b1,b2,b3,b4⟩:=hb;have d1:decide (lba<0)=false:=ziv (by omega)
 have d2:decide (n<1)=false:=ziv (by omega)
 have d3:decide (1099511627776<n)=false:=ziv (by omega)
 have d4:decide (1099511627776-n<lba)=false:=ziv (by omega)
 have hk:=zci v l K w hv hch;obtain ⟨A,c,rfl,-⟩:=hv.form;clear hv hch;go_enter Tryz.func196,Tryz.ntmps196
 go_wp2_with fail;refine hk.mono ?_;rintro x w2 ⟨rfl,hb2⟩;go_wp2;go_ret;exact ⟨rfl,hb2⟩
def clipE (e:Ex) (a b:Int):Option Ex:=if min (aL e) b≤max e.lba a then none else some ⟨max e.lba a,min (aL e) b-max e.lba a,e.ver,e.zone,if 0≤e.zone then e.off+16*(max e.lba a-e.lba) else 0⟩
abbrev e00:Ex:=⟨0,0,0,0,0⟩
theorem nL {e:Ex} (h:bO e) {a b:Int} (hab:a<b):clipE e a b=if a<aL e∧e.lba<b then some (uptoE (fromE e a) b) else none:=by
 obtain ⟨⟨a1,a2,a3,a4⟩,a5,a6,a7,a8,a9,a10⟩:=h;obtain ⟨l,n,v,z,o⟩:=e;unfold clipE uptoE fromE aL at *;simp only at *;by_cases h1:a<l+n∧l<b
 · rw [zij h1,zig (by omega)]
   by_cases h2:0<a-l
   · rw [zij h2]
     simp only [ziL,Ex.mk.injEq,zkn];refine ⟨by omega,by omega,?_⟩
     by_cases hz:z = -1
     · have:=a9 hz;subst hz;simp;omega
     · rw [zij (by omega),zij hz];omega
   · rw [zig h2]
     simp only [ziL,Ex.mk.injEq,zkn];refine ⟨by omega,by omega,?_⟩
     by_cases hz:z = -1
     · have:=a9 hz;subst hz;simp;omega
     · rw [zij (by omega)];omega
 · rw [zig h1,zij (by omega)]
theorem zao (e:Ex) (a b:Int) (w:World) (h:bO e) (ha:0≤a∧a≤1099511627776) (hb:0≤b∧b≤1099511627776) :
 Calls Tryz.prog 74 #[exV e,.int .i64 a,.int .i64 b] w fun x w'=>x=.returned (.tuple #[exV ((clipE e a b).getD e00),.bool (clipE e a b).isSome])∧Below w.heap.size w w':=by
 obtain ⟨⟨a1,a2,a3,a4⟩,a5,a6,a7,a8,a9,a10⟩:=h;have hoff:e.off≤1125899906842624:=by
  by_cases hz:e.zone = -1
  · have:=a9 hz;omega
  · have:=a10 hz;omega
 clear a9 a10;obtain ⟨res,hres⟩:∃ res,clipE e a b=res:=⟨_,rfl⟩;rw [hres];unfold clipE aL at hres;have E:=((Kn.start w).push 90 (exC e)).push 90 (exC e00);rw [zid] at E;obtain ⟨M,hM⟩:∃ M,max e.lba a=M:=⟨_,rfl⟩;obtain ⟨m,hm⟩:∃ m,min (e.lba+e.n) b=m:=⟨_,rfl⟩;rw [hM,hm] at hres;have hM':0≤M∧M≤1099511627776∧e.lba≤M:=by omega
 have hm':0≤m∧m≤1099511627776:=by omega
 have c1:∀ w,(Builtin.max_ #[3,3] 3 #[.int .i64 e.lba,.int .i64 a]).run Tryz.prog w=.ok (.int .i64 M) w:=fun w=>by
  subst hM;by_cases h:e.lba≤a
  · rw [Int.max_eq_right h];simp [go_sem];try omega
  · rw [Int.max_eq_left (by omega)];simp [go_sem];try omega
 have c2:∀ w,(Builtin.min_ #[3,3] 3 #[.int .i64 (e.lba+e.n),.int .i64 b]).run Tryz.prog w=.ok (.int .i64 m) w:=fun w=>by
  subst hm;by_cases h:e.lba+e.n≤b
  · rw [Int.min_eq_left h];simp [go_sem];try omega
  · rw [Int.min_eq_right (by omega)];simp [go_sem];try omega
 clear hM hm;obtain ⟨q0,f0,t0⟩:=E.rules m0;obtain ⟨q1,f1,t1⟩:=E.rules m1;go_enter Tryz.func74,Tryz.ntmps74
 by_cases hle:m≤M
 · rw [zij hle] at hres
   subst hres;go_wp2;refine zik (v:=.tuple #[exV e00,.bool false]) (by simp [results,Tryz.results74,go_sem]) rfl ⟨rfl,(zBA).alloc (by simp) _⟩
 · rw [zig hle] at hres
   by_cases hz:0≤e.zone
   · rw [zij hz] at hres
     subst hres;go_wp2;refine zik (v:=.tuple #[exV ⟨M,m-M,e.ver,e.zone,e.off+16*(M-e.lba)⟩,.bool true]) (by simp [results,Tryz.results74,go_sem]) rfl ⟨rfl,((zBA).alloc (by simp) _).alloc (by simp;omega) _⟩
   · rw [zig hz] at hres
     subst hres;go_wp2;refine zik (v:=.tuple #[exV ⟨M,m-M,e.ver,e.zone,0⟩,.bool true]) (by simp [results,Tryz.results74,go_sem]) rfl ⟨rfl,((zBA).alloc (by simp) _).alloc (by simp;omega) _⟩
theorem zaV {l:List Ex} {lba n:Int} (h:aC 0 l) (hb:aJ lba n):l.filterMap (clipE · lba (lba+n))=partE l lba n:=by
 have hm:=aM h;have hlt:lba<lba+n:=by have:=hb.2.1;omega
 have hs:=gU l lba n;have h1:=jO l lba;have h2:=gF h lba n;have h3:=aM (gX h lba n);unfold partE;generalize l.take (firstE l lba)=A at hs h1;generalize l.drop (firstE l lba+(midE l lba n).length)=C at hs h3;generalize midE l lba n=B at hs h2 ⊢;subst hs;rw [List.filterMap_append,List.filterMap_append,List.filterMap_eq_nil_iff.2 fun e he=>?_,List.filterMap_eq_nil_iff (l:=C).2 fun e he=>?_,List.nil_append,ziz,←List.filterMap_eq_map]
 · have hm':∀ e∈B,bO e:=fun e he=>(hm e (by simp [he])).1
   clear h1 h3 hm h hlt;induction B with
   | nil=>rfl
   | cons e B ih=>
     have hc:clipE e lba (lba+n)=some (uptoE (fromE e lba) (lba+n)):=by rw [nL (hm' e (zih ..)) (by have:=hb.2.1;omega),zij (h2 e (zih ..))]
     rw [List.filterMap_cons,List.filterMap_cons,hc,ih (fun x hx=>h2 x (zii _ hx)) (fun x hx=>hm' x (zii _ hx))]
     rfl
 · rw [nL (h3 e he).1 hlt,zig fun h9=>by have:=(h3 e he).2;omega]
 · rw [nL (hm e (by simp [he])).1 hlt,zig fun h9=>by have:=h1 e he;omega]
theorem zak (A:Option Addr) (c:Nat) (l:List Ex) (lba n:Int) (K:Nat→Prop) (w:World) (hv:IsL Rp.ex w K (.slice A l.length c) l) (hch:aC 0 l) (hb:aJ lba n) :
 Calls Tryz.prog 143 #[.slice A l.length c,.int .i64 lba,.int .i64 n] w fun x w'=>
  ∃ Ao co,x=.returned (.tuple #[.slice Ao (partE l lba n).length co,.int .i64 0]) ∧
    w'.ownsRow w.heap.size 90 5 (.slice Ao (partE l lba n).length co) (partE l lba n).length (bB (partE l lba n))∧Below w.heap.size w w':=by
 obtain ⟨i0,hi,hz0,hz1,hz2⟩:=ziH Tryz.infX;have hbd:=fun w' h=>zfJ (.slice A l.length c) l lba n K w' h hch hb
 have hpl:=zaV hch hb;have hm:=aM hch;have hll:l.length≤1099511627776:=by
  have h1:=cI hch;have h2:=nE (l:=l) (c:=0) (k:=1099511627776) (by decide) fun e he=>by have:=(hm e he).1.1;unfold aJ at this;unfold aL;omega
  omega
 rw [←hpl];clear hpl hch;obtain ⟨b1,b2,b3,b4⟩:=hb;have hlen:=hv.len;have HV:=zia hv;obtain ⟨ln,hln⟩:∃ ln,l.length=ln:=⟨_,rfl⟩;rw [hln] at hlen hv hbd hll ⊢;have HLN:=zia hln;clear hln;obtain ⟨pl,hpl⟩:∃ pl:Nat→List Ex,pl=fun j=>(l.take j).filterMap (clipE · lba (lba+n)):=⟨_,rfl⟩
 have hp0:pl 0=[]:=by rw [hpl];rfl
 have hpe:l.filterMap (clipE · lba (lba+n))=pl ln:=by rw [hpl,←HLN.out];simp only;rw [ziQ]
 have hps:∀ j e,l[j]?=some e→pl (j+1)=pl j++(clipE e lba (lba+n)).toList:=fun j e he=>by
  rw [hpl];simp only;rw [gG l he,List.filterMap_append,List.filterMap_cons,List.filterMap_nil];cases clipE e lba (lba+n) <;> rfl
 have hpn:∀ j,(pl j).length≤ln:=fun j=>by
  rw [hpl,←HLN.out];exact zit (List.length_filterMap_le _ _) (by rw [zio];omega)
 rw [hpe];have HPS:=zia hps;have HPN:=zia hpn;have HM:=zia hm;have HP0:=zia hp0;clear hpl hpe hps hpn hm hp0;go_enter Tryz.func143,Tryz.ntmps143
 go_wp2_with fail;refine (hbd _ hv).mono ?_;rintro x w2 ⟨rfl,hb2⟩;clear hbd;go_upto_region 5 with fail;go_loopw [8,10,11,12,19] (fun x8 x10 x11 x12 x19 wr=>∃ (j t:Nat) (Ao:Option Addr) (co:Nat),x19=.int .i64 j∧j≤ln∧x8=.slice Ao t co∧Hid ((pl j).length=t)∧t≤ln∧wr.ownsRow w.heap.size 90 5 (.slice Ao t co) t (bB (pl j))∧Below w.heap.size w wr∧(∃ y,x10=y)∧(∃ y,x11=y)∧∃ y,x12=y) (fun _ _ _ _ x19 _=>ln-(intOf x19).toNat)
 case atStart=>exact ⟨0,0,none,0,rfl,zir _,rfl,zia (by rw [HP0.out];rfl),zir _,by rw [HP0.out];exact zin _ _ _ _,hb2,⟨_,rfl⟩,⟨_,rfl⟩,_,rfl⟩
 case round=>
  obtain ⟨j,t,Ao,co,rfl,hj,rfl,ht,htn,hown,hb,⟨y,rfl⟩,⟨y',rfl⟩,y'',rfl⟩:=hrel;have hsz:=hb.size;by_cases hlt:j<ln
  case neg=>
   obtain rfl:j=ln:=by omega
   clear hv;go_wp2;go_ret2;exact ⟨Ao,co,by rw [ht.out];rfl,by rw [ht.out];exact hown,hb⟩
  obtain ⟨e,he⟩:∃ e,l[j]?=some e:=⟨_,zib (by rw [HLN.out];exact hlt)⟩
  have hem:=(HM.out e (zix he)).1;obtain ⟨ad,rfl,-,c0,c1,c2,c3,c4⟩:=bY (hv.step hb) he;have HN:=zia (HPS.out j e he);have hnl:=HPN.out (j+1);have j0:(0:Int)≤(j:Int):=by omega
  have j1:(j:Int)<(ln:Int):=by omega
  clear he;have hcl:=fun w'=>zao e lba (lba+n) w' hem (by omega) (by omega)
  rw [HN.out,zie,ht.out] at hnl;generalize clipE e lba (lba+n)=o at hcl HN hnl;go_wp2_with fail;refine (hcl _).mono ?_;rintro x w3 ⟨rfl,hb3⟩;clear hcl c0 c1 c2 c3 c4;have own3:=aD (hown.alloc _) hb3 (zic _);replace hb3:=(hb.alloc hsz _).trans (hb3.mono (by rw [zid];omega))
  have hs3:=hb3.size;cases o with
  | none=>
    go_wp2;go_roundw
    case rel=>exact ⟨j+1,t,Ao,co,by go_num,by omega,rfl,zia (by rw [HN.out,zie,ht.out];rfl),htn,by rw [HN.out,Option.toList_none,ziz];exact own3.alloc _,hb3.alloc hs3 _,⟨_,rfl⟩,⟨_,rfl⟩,_,rfl⟩
    case measure=>simp [intOf];omega
  | some x=>
    go_wp2_with (at_builtin;refine aF rfl _ _ _ rfl w.heap.size 90 i0 _ 5 40 Tryz.underlying35 hi hz0 hz1 hz2 rfl (by omega) rfl ((own3.alloc _).alloc _) rfl (aG.new (xs:=dM x) (n:=1) (zid ..) rfl rfl) (by intro u hu;exact aU [x] u (by simpa [bB] using hu)) (by simp only [maxLen];omega) (by omega) (by simp;omega) ?_;intro A8 c8 w6 own8 hg8)
    go_roundw
    case rel=>exact ⟨j+1,t+1,A8,c8,by go_num,by omega,rfl,zia (by rw [HN.out,zie,ht.out];rfl),hnl,by rw [HN.out,Option.toList_some,bM];exact own8,((hb3.alloc hs3 _).alloc (by rw [zid];omega) _).trans (hg8.below.mono (zic _)),⟨_,rfl⟩,⟨_,rfl⟩,_,rfl⟩
    case measure=>simp [intOf];omega
def gp:Int→List Ex→List Ex
 | _,[]=>[]
 | a,x::l=>gK a x.lba++gp (aL x) l
theorem zcs (x:Ex):∀ (l:List Ex) (a:Int),gp a (l++[x])=gp a l++gK (lastE a l) x.lba
 | [],a=>by simp [gp,lastE]
 | y::l,a=>by
   rw [List.cons_append,gp,gp,zcs x l,ziq];rfl
theorem zI (z:Int):∀ (l:List Ex) (a:Int),gp a (l++[⟨z,0,0,0,0⟩])=gapsE a l z
 | [],a=>by simp [gp,gapsE]
 | y::l,a=>by
   rw [List.cons_append,gp,zI z l];rfl
theorem zdr:∀ (l:List Ex) (a:Int),(gp a l).length≤l.length
 | [],_=>zic _
 | y::l,a=>by
   rw [gp,zie];have:=zdr l (aL y);have:(gK a y.lba).length≤1:=by unfold gK;split <;> simp
   simp only [List.length_cons];omega
theorem zf5 (A:Option Addr) (c:Nat) (l:List Ex) (lba n:Int) (K:Nat→Prop) (w:World) (hv:IsL Rp.ex w K (.slice A l.length c) l) (hch:aC 0 l) (hb:aJ lba n) :
 Calls Tryz.prog 144 #[.slice A l.length c,.int .i64 lba,.int .i64 n] w fun x w'=>
  ∃ Ao co,x=.returned (.tuple #[.slice Ao (gapsE lba (partE l lba n) (lba+n)).length co,.int .i64 0]) ∧
    w'.ownsRow w.heap.size 90 5 (.slice Ao (gapsE lba (partE l lba n) (lba+n)).length co) (gapsE lba (partE l lba n) (lba+n)).length (bB (gapsE lba (partE l lba n) (lba+n)))∧Below w.heap.size w w':=by
 obtain ⟨i0,hi,hz0,hz1,hz2⟩:=ziH Tryz.infX;have hpt:=fun w' h=>zak A c l lba n K w' h hch hb
 obtain ⟨g1,g2,_⟩:=dH hch hb;have hpl:=cI g1;have hpm:=aM g1;obtain ⟨b1,b2,b3,b4⟩:=hb;rw [←zI];generalize partE l lba n=pt at hpt g1 g2 hpl hpm ⊢;have hL:∀ x∈pt++[(⟨lba+n,0,0,0,0⟩:Ex)],0≤x.lba∧x.lba≤1099511627776∧0≤x.n∧x.n≤1099511627776:=fun x hx=>by
  rcases ziA.1 hx with h | h
  · have:=(hpm x h).1.1;unfold aJ at this;omega
  · rw [ziw.1 h];simp only;omega
 obtain ⟨k,hk⟩:∃ k,pt.length=k:=⟨_,rfl⟩;have hk40:k≤1099511627776:=by omega
 obtain ⟨L,hLL⟩:∃ L,pt++[(⟨lba+n,0,0,0,0⟩:Ex)]=L:=⟨_,rfl⟩;have hLn:L.length=k+1:=by rw [←hLL,zie,hk];rfl
 have hLx:bB pt++dM ⟨lba+n,0,0,0,0⟩=bB L:=by rw [←hLL,bM]
 rw [hLL] at hL ⊢;rw [hk] at hpt;have HLN:=zia hLn;have HLX:=zia hLx;have HL:=zia hL;clear hLL hLn hLx hL g1 g2 hpl hpm hk hch;obtain ⟨ln,hln⟩:∃ ln,l.length=ln:=⟨_,rfl⟩;rw [hln] at hv hpt ⊢;clear hln;go_enter Tryz.func144,Tryz.ntmps144
 go_wp2_with fail;refine (hpt _ hv).mono ?_;rintro x w2 ⟨A2,c2,rfl,own2,hb2⟩;clear hpt hv;have hs2:=hb2.size;go_wp2_with (at_builtin;refine aF rfl _ _ _ rfl w.heap.size 90 i0 _ 5 40 Tryz.underlying35 hi hz0 hz1 hz2 rfl (by omega) rfl (own2.alloc _) rfl (aG.new (xs:=dM ⟨lba+n,0,0,0,0⟩) (n:=1) rfl rfl rfl) (by intro u hu;exact aU [⟨lba+n,0,0,0,0⟩] u (by simpa [bB] using hu)) (by simp only [maxLen];omega) (by omega) (by simp;omega) ?_;intro A8 c8 w6 own8 hg8)
 have hb6:Below w.heap.size w w6:=(hb2.alloc hs2 _).trans (hg8.below.mono (zic _));rw [HLX.out] at own8;have hv6:=bI own8 HLN.out (by omega)
 have hs6:=hb6.size;clear own8 own2 hg8 hb2;go_loopw [10,11,13,33] (fun x10 x11 x13 x33 wr=>∃ (j t:Nat) (Ao:Option Addr) (co:Nat),x33=.int .i64 j∧j≤k+1∧x10=.slice Ao t co∧x11=.int .i64 (lastE lba (L.take j))∧(0≤lastE lba (L.take j)∧lastE lba (L.take j)≤2199023255552)∧Hid ((gp lba (L.take j)).length=t)∧wr.ownsRow w6.heap.size 90 5 (.slice Ao t co) t (bB (gp lba (L.take j)))∧Below w6.heap.size w6 wr∧∃ y,x13=y) (fun _ _ _ x33 _=>k+1-(intOf x33).toNat)
 case atStart=>exact ⟨0,0,none,0,rfl,zir _,rfl,rfl,⟨b1,by show lba≤_;omega⟩,zia rfl,zin _ _ _ _,zif _ _,_,rfl⟩
 case round=>
  obtain ⟨j,t,Ao,co,rfl,hj,rfl,rfl,hla,ht,hown,hb,y,rfl⟩:=hrel;have hsz:=hb.size;by_cases hlt:j<k+1
  case neg=>
   obtain rfl:j=k+1:=by omega
   have e1:L.take (k+1)=L:=zip (by rw [HLN.out];exact zic _)
   rw [e1] at ht hown;generalize lastE lba (L.take (k+1))=la;have E1:=zia e1;clear hv6 e1;go_wp2;go_ret2;exact ⟨Ao,co,by rw [ht.out];rfl,by rw [ht.out];exact aO hown hs6,hb6.trans (hb.mono hs6)⟩
  have hlt':j<L.length:=by rw [HLN.out];exact hlt
  obtain ⟨e,he⟩:∃ e,L[j]?=some e:=⟨_,zib hlt'⟩;obtain ⟨e1,e2,e3,e4⟩:=HL.out e (zix he);obtain ⟨ad,rfl,-,c0,c1,c2,c3,c4⟩:=bY (hv6.step hb) he;have HT:=zia (gG L he);have htl:t≤k:=by
   have:=zdr (L.take j) lba;rw [ht.out,zio] at this;omega
  have j0:(0:Int)≤(j:Int):=by omega
  have j1:(j:Int)<((k+1:Nat):Int):=by omega
  clear he hlt';generalize hla2:lastE lba (L.take j)=la at hla ⊢;have hrow:∀ g,(Value.slice Ao t co).ownBlock=some g→g<wr.heap.size:=fun g hk=>(hown.lt g hk).2
  have hBe:=Blk.new wr 90 (exC e) rfl;have hln:=zia (show lastE lba (L.take (j+1))=aL e by rw [HT.out,dY];rfl)
  have hgn:=zia (show gp lba (L.take (j+1))=gp lba (L.take j)++gK la e.lba by rw [HT.out,zcs,hla2])
  have hre:(0≤lastE lba (L.take (j+1))∧lastE lba (L.take (j+1))≤2199023255552):=by rw [hln.out];unfold aL;omega
  have HRE:=zia hre;clear hla2 hre;by_cases hgt:la<e.lba
  · have hgt':e.lba > la:=hgt
    go_upto_region 10 with fail;go_wp2_with (at_builtin;refine aF rfl _ _ _ rfl w6.heap.size 90 i0 _ 5 40 Tryz.underlying35 hi hz0 hz1 hz2 rfl (by omega) rfl ((hown.alloc _).alloc _) rfl (aG.new (xs:=dM ⟨la,e.lba-la,0,-1,0⟩) (n:=1) (zid ..) rfl rfl) (by intro u hu;exact aU [⟨la,e.lba-la,0,-1,0⟩] u (by simpa [bB] using hu)) (by simp only [maxLen];omega) (by omega) (by simp;omega) ?_;intro A9 c9 w9 own9 hg9;have hB9:=(hBe.alloc (.cells (exC ⟨la,e.lba-la,0,-1,0⟩) 90)).grown hg9.grown (fun e=>by have:=hrow _ e.symm;omega);obtain ⟨q0,f0⟩:=hB9.rules)
    go_roundw
    case rel=>exact ⟨j+1,t+1,A9,c9,by go_num,by omega,rfl,by rw [hln.out];rfl,HRE.out,zia (by rw [hgn.out,zie,ht.out];unfold gK;rw [zij hgt];rfl),by rw [hgn.out,show gK la e.lba=[⟨la,e.lba-la,0,-1,0⟩] from zij hgt,bM];exact own9,((hb.alloc hsz _).alloc (by rw [zid];omega) _).trans (hg9.below.mono (zic _)),_,rfl⟩
    case measure=>simp [intOf];omega
  · have hgt':¬e.lba > la:=hgt
    go_wp2;go_roundw
    case rel=>exact ⟨j+1,t,Ao,co,by go_num,by omega,rfl,by rw [hln.out];rfl,HRE.out,zia (by rw [hgn.out,zie,ht.out];unfold gK;rw [zig hgt];rfl),by rw [hgn.out,show gK la e.lba=[] from zig hgt,ziz];exact hown.alloc _,hb.alloc hsz _,_,rfl⟩
    case measure=>simp [intOf];omega
