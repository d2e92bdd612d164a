/- A part of the proof. -/
import Derived.Test.YthblkdnijhphhaaGreatExtPlain
import Derived.Deep.DrawnRows
import Derived.Deep.RegionHeld3
import Derived.Deep.DeepCutAuto
import Derived.Test.YthblkdnijhphhaaGreatRgn
set_option maxHeartbeats 4000000
set_option maxRecDepth 100000
namespace Go.Proofs.YthblkdnijhphhaaGreat
open Go.RowKit
def Rp.ex:Rp Ex:=⟨5,fun _ _ cs o=>cs=[.int .i64 o.lba,.int .i64 o.n,.int .i64 o.ver,.int .i64 o.zone,.int .i64 o.off],
 by rintro _ _ _ _ rfl;rfl,
 fun h _=>h,
 fun h _=>h,
 by
  rintro _ _ _ _ rfl u hu;simp only [List.mem_cons,List.not_mem_nil,or_false] at hu;rcases hu with rfl | rfl | rfl | rfl | rfl <;> first | rfl | assumption⟩
abbrev exV (e:Ex):Value:=.agg #[.int .i64 e.lba,.int .i64 e.n,.int .i64 e.ver,.int .i64 e.zone,.int .i64 e.off]
abbrev exC (e:Ex):Array Value:=#[.int .i64 e.lba,.int .i64 e.n,.int .i64 e.ver,.int .i64 e.zone,.int .i64 e.off]
theorem zaE (lba n:Int) (w:World) :
 Calls Tryz.prog 120 #[.int .i64 lba,.int .i64 n] w fun e w'=>e=.returned (.bool (decide (za9 lba n)))∧w'=w:=by
 by_cases h1:0≤lba <;> by_cases h2:0<n <;> by_cases h3:n≤1099511627776 <;> by_cases h4:lba≤1099511627776-n <;>
  (first | rw [show decide (za9 lba n)=true from decide_eq_true ⟨h1,h2,h3,h4⟩] | rw [show decide (za9 lba n)=false from decide_eq_false (fun h:za9 lba n=>by unfold za9 at h;omega)]) <;>
  (go_enter Tryz.func120,Tryz.ntmps120
   go_wp2;go_ret;exact ⟨rfl,rfl⟩)
theorem zmG (e:Ex):mayE e↔za9 e.lba e.n∧0≤e.ver∧-1≤e.zone∧e.zone≤1099511627776∧0≤e.off∧(if e.zone = -1 then e.off=0 else e.off≤1125899906842624-16*e.n):=by
 unfold mayE;split <;> simp [*]
theorem zet (e:Ex) (w:World) :
 Calls Tryz.prog 139 #[exV e] w fun x w'=>x=.returned (.bool (decide (mayE e)))∧Below w.heap.size w w':=by
 have hT:mayE e→decide (mayE e)=true:=decide_eq_true;have hF:¬mayE e→decide (mayE e)=false:=decide_eq_false;have hI:=zmG e;obtain ⟨r,hr⟩:∃ r,decide (mayE e)=r:=⟨_,rfl⟩;rw [hr] at hT hF ⊢;clear hr;have E:=(Kn.start w).push 85 (exC e);obtain ⟨q0,f0,t0⟩:=E.rules m0;by_cases hb:za9 e.lba e.n
 case neg=>
  have:r=false:=hF fun h=>hb (hI.1 h).1
  subst this;clear hT hF hI;have hb1:decide (za9 e.lba e.n)=false:=decide_eq_false hb;go_enter Tryz.func139,Tryz.ntmps139
  go_wp2_with fail;refine (zaE e.lba e.n _).mono ?_;rintro x w1 ⟨rfl,rfl⟩;rw [hb1];go_wp2;go_ret;exact ⟨rfl,(Below.refl _ _).alloc (Nat.le_refl _) _⟩
 have hb1:decide (za9 e.lba e.n)=true:=decide_eq_true hb;have hbn:=hb.2;by_cases h1:e.ver<0∨e.zone < -1∨1099511627776<e.zone∨e.off<0
 · have:r=false:=hF fun h=>by have:=hI.1 h;omega
   subst this;clear hT hF hI;by_cases g1:e.ver<0
   · go_enter Tryz.func139,Tryz.ntmps139
     go_wp2_with fail;refine (zaE e.lba e.n _).mono ?_;rintro x w1 ⟨rfl,rfl⟩;rw [hb1];go_wp2;go_ret;exact ⟨rfl,(Below.refl _ _).alloc (Nat.le_refl _) _⟩
   by_cases g2:e.zone < -1
   · go_enter Tryz.func139,Tryz.ntmps139
     go_wp2_with fail;refine (zaE e.lba e.n _).mono ?_;rintro x w1 ⟨rfl,rfl⟩;rw [hb1];go_wp2;go_ret;exact ⟨rfl,(Below.refl _ _).alloc (Nat.le_refl _) _⟩
   by_cases g3:1099511627776<e.zone
   · go_enter Tryz.func139,Tryz.ntmps139
     go_wp2_with fail;refine (zaE e.lba e.n _).mono ?_;rintro x w1 ⟨rfl,rfl⟩;rw [hb1];go_wp2;go_ret;exact ⟨rfl,(Below.refl _ _).alloc (Nat.le_refl _) _⟩
   have g4:e.off<0:=by omega
   go_enter Tryz.func139,Tryz.ntmps139
   go_wp2_with fail;refine (zaE e.lba e.n _).mono ?_;rintro x w1 ⟨rfl,rfl⟩;rw [hb1];go_wp2;go_ret;exact ⟨rfl,(Below.refl _ _).alloc (Nat.le_refl _) _⟩
 simp only [not_or,Int.not_lt] at h1;obtain ⟨g1,g2,g3,g4⟩:=h1;by_cases hz:e.zone = -1
 · by_cases ho:e.off=0
   · have:r=true:=hT (hI.2 ⟨hb,by omega,g2,g3,g4,by rw [if_pos hz];exact ho⟩)
     subst this;clear hT hF hI;go_enter Tryz.func139,Tryz.ntmps139
     go_wp2_with fail;refine (zaE e.lba e.n _).mono ?_;rintro x w1 ⟨rfl,rfl⟩;rw [hb1];go_wp2;go_ret;exact ⟨rfl,(Below.refl _ _).alloc (Nat.le_refl _) _⟩
   · have:r=false:=hF fun h=>by have:=(hI.1 h).2.2.2.2.2;rw [if_pos hz] at this;exact ho this
     subst this;have ho2:(e.off == 0)=false:=beq_eq_false_iff_ne.2 ho;clear hT hF hI;go_enter Tryz.func139,Tryz.ntmps139
     go_wp2_with fail;refine (zaE e.lba e.n _).mono ?_;rintro x w1 ⟨rfl,rfl⟩;rw [hb1];go_wp2;go_ret;exact ⟨rfl,(Below.refl _ _).alloc (Nat.le_refl _) _⟩
 · by_cases ho:e.off≤1125899906842624-16*e.n
   · have:r=true:=hT (hI.2 ⟨hb,by omega,g2,g3,g4,by rw [if_neg hz];exact ho⟩)
     subst this;clear hT hF hI;go_enter Tryz.func139,Tryz.ntmps139
     go_wp2_with fail;refine (zaE e.lba e.n _).mono ?_;rintro x w1 ⟨rfl,rfl⟩;rw [hb1];go_wp2;go_ret;exact ⟨rfl,(Below.refl _ _).alloc (Nat.le_refl _) _⟩
   · have:r=false:=hF fun h=>by have:=(hI.1 h).2.2.2.2.2;rw [if_neg hz] at this;exact ho this
     subst this;have ho2:decide (e.off≤1125899906842624-16*e.n)=false:=decide_eq_false ho;clear hT hF hI;go_enter Tryz.func139,Tryz.ntmps139
     go_wp2_with fail;refine (zaE e.lba e.n _).mono ?_;rintro x w1 ⟨rfl,rfl⟩;rw [hb1];go_wp2;go_ret;exact ⟨rfl,(Below.refl _ _).alloc (Nat.le_refl _) _⟩
theorem zdH (e:Ex) (w:World) (h:-9223372036854775808≤e.lba+e.n∧e.lba+e.n≤9223372036854775807) :
 Calls Tryz.prog 123 #[exV e] w fun x w'=>x=.returned (.int .i64 (endE e))∧Below w.heap.size w w':=by
 have E:=(Kn.start w).push 85 (exC e);obtain ⟨q0,f0,t0⟩:=E.rules m0;unfold endE;go_enter Tryz.func123,Tryz.ntmps123
 go_wp2;go_ret;exact ⟨rfl,E.below⟩
theorem zb9 {w:World} {K:Nat→Prop} {A:Option Addr} {n c:Nat} {l:List Ex} (h:IsL Rp.ex w K (.slice A n c) l) {j:Nat} {e:Ex} (hj:l[j]?=some e) :
 ∃ ad,A=some ad∧K ad.block∧w.cell? (ad.add (j*5))=some (.int .i64 e.lba)∧w.cell? ⟨(ad.add (j*5)).block,(ad.add (j*5)).off+1,none⟩=some (.int .i64 e.n)∧w.cell? ⟨(ad.add (j*5)).block,(ad.add (j*5)).off+2,none⟩=some (.int .i64 e.ver) ∧
   w.cell? ⟨(ad.add (j*5)).block,(ad.add (j*5)).off+3,none⟩=some (.int .i64 e.zone)∧w.cell? ⟨(ad.add (j*5)).block,(ad.add (j*5)).off+4,none⟩=some (.int .i64 e.off):=by
 obtain ⟨ad,es,hA,hKad,hes,hcell⟩:=h.at_ hj;obtain rfl:es=_:=hes;have hsz:Rp.ex.size=5:=rfl;rw [hsz] at hcell;refine ⟨ad,hA,hKad,?_,?_,?_,?_,?_⟩
 · rw [←zbN (ad.add (j*5))];exact hcell 0 _ rfl
 · rw [←zaD _ 1 (by decide)];exact hcell 1 _ rfl
 · rw [←zaD _ 2 (by decide)];exact hcell 2 _ rfl
 · rw [←zaD _ 3 (by decide)];exact hcell 3 _ rfl
 · rw [←zaD _ 4 (by decide)];exact hcell 4 _ rfl
theorem zdo {α:Type} (l:List α) {j:Nat} {r:α} (h:l[j]?=some r):l.take (j+1)=l.take j++[r]:=by
 obtain ⟨h1,rfl⟩:=List.getElem?_eq_some_iff.1 h;exact List.take_succ_eq_append_getElem h1
theorem zc6 {l:List Ex} {j:Nat} {e:Ex} (hj:l[j]?=some e):za2 0 (l.take (j+1))↔za2 0 (l.take j)∧mayE e∧lastE 0 (l.take j)≤e.lba:=by
 rw [zdo l hj,zae];simp [za2]
theorem zlL {l:List Ex} {j:Nat} {e:Ex} (hj:l[j]?=some e):lastE 0 (l.take (j+1))=endE e:=by
 rw [zdo l hj,zbR];rfl
theorem zdL {l:List Ex} {c:Int} (k:Nat) (h:za2 c l):za2 c (l.take k):=by
 rw [←List.take_append_drop k l,zae] at h;exact h.1
theorem zaV (v:Value) (l:List Ex) (K:Nat→Prop) (w:World) (hv:IsL Rp.ex w K v l) :
 Calls Tryz.prog 74 #[v] w fun x w'=>x=.returned (.int .i64 (chkE l))∧Below w.heap.size w w':=by
 have hres0:∀ k,¬za2 0 (l.take k)→chkE l=1:=fun k h=>by unfold chkE;rw [if_neg fun h2=>h (zdL k h2)]
 have hres1:za2 0 (l.take l.length)→chkE l=0:=fun h=>by unfold chkE;rw [List.take_length] at h;rw [if_pos h]
 obtain ⟨res,hres⟩:∃ res,chkE l=res:=⟨_,rfl⟩;rw [hres] at hres0 hres1 ⊢;clear hres;have HR0:=Lib.hid hres0;have HR1:=Lib.hid hres1;clear hres0 hres1;have hv0:=hv;obtain ⟨A,c,rfl,hlc,hcc⟩:=hv.form;have hlen:=hv.len;go_enter Tryz.func74,Tryz.ntmps74
 go_wp2_with fail;go_loopw [3,4,7] (fun x3 x4 i wr=>∃ j:Nat,i=.int .i64 j∧j≤l.length∧za2 0 (l.take j)∧Below w.heap.size w wr∧(∃ y,x3=y)∧(∃ y,x4=y)) (fun _ _ i _=>l.length-(intOf i).toNat)
 case atStart=>exact ⟨0,rfl,Nat.zero_le _,trivial,Below.refl _ _,⟨_,rfl⟩,_,rfl⟩
 case round=>
  obtain ⟨j,rfl,hj,hch,hb,⟨y3,rfl⟩,y4,rfl⟩:=hrel;have hsz:=hb.size;by_cases hlt:j<l.length
  case neg=>
   obtain rfl:j=l.length:=by omega
   have:=HR1.out hch;subst this;clear HR0 HR1 hch hv hv0;go_wp2;go_ret;exact ⟨rfl,hb⟩
  have hje:=List.getElem?_eq_getElem hlt;generalize l[j]=e at hje;obtain ⟨ad,rfl,-,c0,c1,c2,c3,c4⟩:=zb9 (hv0.step hb) hje;have j0:(0:Int)≤(j:Int):=by omega
  have j1:(j:Int)<(l.length:Int):=by omega
  have HCH:=Lib.hid hch;clear hch;go_upto_region 4 with fail;have E:=((Kn.from_ hb hsz).give za1.list (hv0.step hb)).push 85 (exC e);clear c0 c1 c2 c3 c4;generalize hw1:wr.alloc (.cells #[.int .i64 e.lba,.int .i64 e.n,.int .i64 e.ver,.int .i64 e.zone,.int .i64 e.off] 85)=w1 at E ⊢;clear hw1;have hb0:Below w1.heap.size w1 w1.drew:=(Below.refl _ _).drew;by_cases hm:mayE e
  case neg=>
   have:=HR0.out (j+1) fun h=>hm ((zc6 hje).1 h).2.1
   subst this;have hd:decide (mayE e)=false:=decide_eq_false hm;have HK:Hid (∀ W,Below w1.heap.size w1 W→∀ o,W.cell? ⟨wr.heap.size,o,none⟩=(exC e)[o]?):=Lib.hid fun W h=>((E.step h).rules m0).1
   clear HR0 HR1 HCH hm;refine wp_region_held_drew (S:=fun W=>∀ o,W.cell? ⟨wr.heap.size,o,none⟩=(exC e)[o]?) (by kernel_rfl) (HK.out _ hb0) (fun hHeld=>?_)
   refine wT 0 12 ?_;refine wR 1 13 (fun K hK=>?_)
   go_simp;refine (zet e _).mono ?_;rintro x w2 ⟨rfl,hb2⟩;replace hb2:=hb0.trans (hb2.mono hb0.size);rw [hd];go_wp2_with fail;refine hK.out _ _ (HK.out _ hb2) (fun hHeld=>?_)
   clear hK K;refine wT 2 14 ?_;refine wT 3 15 ?_;refine wU 4 16 ?_;refine wU 5 17 ?_;refine wU 6 18 ?_;refine wU 7 19 ?_;refine wU 8 20 ?_;refine wU 9 21 ?_;refine wU 10 22 ?_;refine wU 11 23 ?_;refine wU 12 24 ?_;refine wU 13 25 ?_;refine wU 14 26 ?_;refine wU 15 27 ?_;refine wU 16 28 ?_;refine wT 17 29 ?_;refine wpAnyH_done (by kernel_rfl) ?_ _
   go_wp2;go_ret;exact ⟨rfl,(E.step hb2).below⟩
  have hd:decide (mayE e)=true:=decide_eq_true hm;by_cases hj0:j=0
  · subst hj0
    have HK:Hid (∀ W,Below w1.heap.size w1 W→∀ o,W.cell? ⟨wr.heap.size,o,none⟩=(exC e)[o]?):=Lib.hid fun W h=>((E.step h).rules m0).1
    have HN:Hid (za2 0 (l.take (0+1))):=Lib.hid ((zc6 hje).2 ⟨trivial,hm,hm.pos.2⟩);clear HCH;refine wp_region_held_drew (S:=fun W=>∀ o,W.cell? ⟨wr.heap.size,o,none⟩=(exC e)[o]?) (by kernel_rfl) (HK.out _ hb0) (fun hHeld=>?_)
    refine wT 0 12 ?_;refine wR 1 13 (fun K hK=>?_)
    go_simp;refine (zet e _).mono ?_;rintro x w2 ⟨rfl,hb2⟩;replace hb2:=hb0.trans (hb2.mono hb0.size);rw [hd];go_wp2_with fail;refine hK.out _ _ (HK.out _ hb2) (fun hHeld=>?_)
    clear hK K;refine wT 2 14 ?_;refine wT 3 15 ?_;refine wT 4 16 ?_;refine wT 5 17 ?_;refine wT 6 18 ?_;refine wU 7 19 ?_;refine wU 8 20 ?_;refine wU 9 21 ?_;refine wU 10 22 ?_;refine wU 11 23 ?_;refine wU 12 24 ?_;refine wU 13 25 ?_;refine wU 14 26 ?_;refine wU 15 27 ?_;refine wT 16 28 ?_;refine wT 17 29 ?_;refine wpAnyH_done (by kernel_rfl) ?_ _
    go_wp2;go_roundw
    case rel=>exact ⟨0+1,by go_num,by omega,HN.out,(E.step hb2).below,⟨_,rfl⟩,_,rfl⟩
    case measure=>simp [intOf];omega
  obtain ⟨k,rfl⟩:∃ k,j=k+1:=⟨j-1,by omega⟩
  obtain ⟨p,hp⟩:∃ p,l[k]?=some p:=⟨_,List.getElem?_eq_getElem (by omega)⟩
  have hpm:mayE p:=((zc6 hp).1 HCH.out).2.1;have hpe:=zlL hp;have hov:-9223372036854775808≤p.lba+p.n∧p.lba+p.n≤9223372036854775807:=by have:=hpm.1;unfold za9 at this;omega
  have HK:Hid (∀ W,Below w1.heap.size w1 W→(∀ o,W.cell? ⟨wr.heap.size,o,none⟩=(exC e)[o]?)∧W.cell? (ad.add (k*5))=some (.int .i64 p.lba)∧W.cell? ⟨(ad.add (k*5)).block,(ad.add (k*5)).off+1,none⟩=some (.int .i64 p.n)∧W.cell? ⟨(ad.add (k*5)).block,(ad.add (k*5)).off+2,none⟩=some (.int .i64 p.ver) ∧
   W.cell? ⟨(ad.add (k*5)).block,(ad.add (k*5)).off+3,none⟩=some (.int .i64 p.zone)∧W.cell? ⟨(ad.add (k*5)).block,(ad.add (k*5)).off+4,none⟩=some (.int .i64 p.off)):=Lib.hid fun W h=>by
   obtain ⟨a,ha,_,c0,c1,c2,c3,c4⟩:=zb9 ((E.step h).get m0) hp;injection ha with ha;subst ha;exact ⟨((E.step h).rules m0).1,c0,c1,c2,c3,c4⟩
  have k0:(0:Int)≤(k:Int):=by omega
  have k1:(k:Int)<(l.length:Int):=by omega
  have HPE:=Lib.hid hpe;have HNX:Hid (endE p≤e.lba→za2 0 (l.take (k+1+1))):=Lib.hid fun h=>(zc6 hje).2 ⟨HCH.out,hm,by rw [hpe];exact h⟩
  have HNO:Hid (e.lba<endE p→res=1):=Lib.hid fun h=>HR0.out (k+1+1) fun h2=>by have:=((zc6 hje).1 h2).2.2;rw [hpe] at this;omega
  clear hpe HCH hp hpm hj0;have hwk:IntKind.i64.wrap (k:Int)=k:=IntWalk.i64_in _ (by omega)
  refine wp_region_held_drew (S:=fun W=>(∀ o,W.cell? ⟨wr.heap.size,o,none⟩=(exC e)[o]?)∧W.cell? (ad.add (k*5))=some (.int .i64 p.lba)∧W.cell? ⟨(ad.add (k*5)).block,(ad.add (k*5)).off+1,none⟩=some (.int .i64 p.n)∧W.cell? ⟨(ad.add (k*5)).block,(ad.add (k*5)).off+2,none⟩=some (.int .i64 p.ver) ∧
   W.cell? ⟨(ad.add (k*5)).block,(ad.add (k*5)).off+3,none⟩=some (.int .i64 p.zone)∧W.cell? ⟨(ad.add (k*5)).block,(ad.add (k*5)).off+4,none⟩=some (.int .i64 p.off)) (by kernel_rfl) (HK.out _ hb0) (fun hHeld=>?_)
  refine wT 0 12 ?_;refine wR 1 13 (fun K hK=>?_)
  go_simp;refine (zet e _).mono ?_;rintro x w2 ⟨rfl,hb2⟩;replace hb2:=hb0.trans (hb2.mono hb0.size);rw [hd];go_wp2_with fail;refine hK.out _ _ (HK.out _ hb2) (fun hHeld=>?_)
  clear hK K;refine wT 2 14 ?_;refine wT 3 15 ?_;refine wT 4 16 ?_;refine wT 5 17 ?_;refine wT 6 18 ?_;refine wT 7 19 ?_;refine wT 8 20 ?_;refine wT 9 21 ?_;refine wT 10 22 ?_;refine wT 11 23 ?_;refine wT 12 24 ?_;refine wT 13 25 ?_;refine wR 14 26 (fun K hK=>?_)
  go_simp;refine (zdH p _ hov).mono ?_;rintro x w3 ⟨rfl,hb3⟩;replace hb3:=hb2.trans (hb3.mono hb2.size);go_wp2_with fail;refine hK.out _ _ (HK.out _ hb3) (fun hHeld=>?_)
  clear hK K;refine wT 15 27 ?_;refine wT 16 28 ?_;refine wT 17 29 ?_;refine wpAnyH_done (by kernel_rfl) ?_ _
  by_cases hlt2:e.lba<endE p
  · have:=HNO.out hlt2
    subst this;go_wp2;go_ret;exact ⟨rfl,(E.step hb3).below⟩
  · go_wp2
    go_roundw
    case rel=>exact ⟨k+1+1,by go_num,by omega,HNX.out (by omega),(E.step hb3).below,⟨_,rfl⟩,_,rfl⟩
    case measure=>simp [intOf];omega
def OkE (e:Ex):Prop:=(0≤e.lba∧e.lba≤2199023255552)∧(0≤e.n∧e.n≤4398046511104)∧(0≤e.off∧e.off≤2251799813685248)
theorem mayE.ok {e:Ex} (h:mayE e):OkE e:=by
 obtain ⟨⟨a,b,c,d⟩,h1,h2,h3,h4,h5,h6⟩:=h;refine ⟨by omega,by omega,h4,?_⟩
 by_cases hz:e.zone = -1
 · have:=h5 hz;omega
 · have:=h6 hz;omega
theorem zhI (e:Ex) (k:Int) (w:World) (h:OkE e) (hk:-4398046511104≤k∧k≤4398046511104) :
 Calls Tryz.prog 167 #[exV e,.int .i64 k] w fun x w'=>x=.returned (exV (uptoE e k))∧Below w.heap.size w w':=by
 obtain ⟨h1,h2,h3⟩:=h;unfold uptoE;by_cases hm:e.n≤k-e.lba
 · rw [Int.min_eq_left hm]
   go_enter Tryz.func167,Tryz.ntmps167
   go_wp2;refine bodyPost_ret (v:=.agg #[.int .i64 e.lba,.int .i64 e.n,.int .i64 e.ver,.int .i64 e.zone,.int .i64 e.off]) (by simp [results,Tryz.results167,go_sem]) rfl ⟨rfl,((Below.refl _ _).alloc (Nat.le_refl _) _).alloc (by simp) _⟩
 · rw [Int.min_eq_right (by omega)]
   go_enter Tryz.func167,Tryz.ntmps167
   go_wp2;refine bodyPost_ret (v:=.agg #[.int .i64 e.lba,.int .i64 (k-e.lba),.int .i64 e.ver,.int .i64 e.zone,.int .i64 e.off]) (by simp [results,Tryz.results167,go_sem]) rfl ⟨rfl,((Below.refl _ _).alloc (Nat.le_refl _) _).alloc (by simp) _⟩
theorem zff (e:Ex) (k:Int) (w:World) (h:OkE e) (hk:-4398046511104≤k∧k≤4398046511104) :
 Calls Tryz.prog 168 #[exV e,.int .i64 k] w fun x w'=>x=.returned (exV (fromE e k))∧Below w.heap.size w w':=by
 obtain ⟨h1,h2,h3⟩:=h;unfold fromE;by_cases hp:0<k-e.lba
 · rw [if_pos hp]
   by_cases hz:e.zone = -1
   · rw [if_neg (by omega)]
     have hz2:(e.zone != -1)=false:=by simpa using hz
     clear hz;go_enter Tryz.func168,Tryz.ntmps168
     go_wp2;refine bodyPost_ret (v:=.agg #[.int .i64 k,.int .i64 (e.n-(k-e.lba)),.int .i64 e.ver,.int .i64 e.zone,.int .i64 e.off]) (by simp [results,Tryz.results168,go_sem]) rfl ⟨rfl,((Below.refl _ _).alloc (Nat.le_refl _) _).alloc (by simp) _⟩
   · rw [if_pos hz]
     have hz2:(e.zone != -1)=true:=by simpa using hz
     clear hz;go_enter Tryz.func168,Tryz.ntmps168
     go_wp2;refine bodyPost_ret (v:=.agg #[.int .i64 k,.int .i64 (e.n-(k-e.lba)),.int .i64 e.ver,.int .i64 e.zone,.int .i64 (e.off+(k-e.lba)*16)]) (by simp [results,Tryz.results168,go_sem]) rfl ⟨rfl,((Below.refl _ _).alloc (Nat.le_refl _) _).alloc (by simp) _⟩
 · rw [if_neg hp]
   go_enter Tryz.func168,Tryz.ntmps168
   go_wp2;refine bodyPost_ret (v:=.agg #[.int .i64 e.lba,.int .i64 e.n,.int .i64 e.ver,.int .i64 e.zone,.int .i64 e.off]) (by simp [results,Tryz.results168,go_sem]) rfl ⟨rfl,((Below.refl _ _).alloc (Nat.le_refl _) _).alloc (by simp) _⟩
theorem zjm {c:Int} {l:List Ex} (h:za2 c l):l.Pairwise (fun a b=>endE a≤b.lba):=by
 induction l generalizing c with
 | nil=>exact List.Pairwise.nil
 | cons e l ih=>exact List.pairwise_cons.2 ⟨fun x hx=>(zai h.2.2 x hx).2,ih h.2.2⟩
theorem zjZ {c:Int} {l:List Ex} (h:za2 c l) {i j:Nat} {a b:Ex} (hi:l[i]?=some a) (hj:l[j]?=some b) (hij:i≤j):endE a≤endE b:=by
 obtain ⟨h1,rfl⟩:=List.getElem?_eq_some_iff.1 hi;obtain ⟨h2,rfl⟩:=List.getElem?_eq_some_iff.1 hj;rcases Nat.lt_or_ge i j with h3 | h3
 · have:=List.pairwise_iff_getElem.1 (zjm h) i j h1 h2 h3
   have hp:=(zai h _ (List.getElem_mem h2)).1.pos;unfold endE at this ⊢;omega
 · have:i=j:=by omega
   subst this;exact Int.le_refl _
theorem zfj (e:Ex) (lba:Int) (w:World) (h:OkE e) :
 Calls Tryz.prog 202 #[exV e,.int .i64 lba] w fun x w'=>x=.returned (.int .i64 (if endE e≤lba then -1 else 1))∧Below w.heap.size w w':=by
 have E:=(Kn.start w).push 85 (exC e);obtain ⟨q0,f0,t0⟩:=E.rules m0;obtain ⟨h1,h2,h3⟩:=h;obtain ⟨r,hr⟩:∃ r:Int,(if endE e≤lba then -1 else 1)=r:=⟨_,rfl⟩;rw [hr];have HR:=Lib.hid hr;clear hr;go_enter Tryz.func202,Tryz.ntmps202
 go_wp2_with fail;refine (zdH e _ (by omega)).mono ?_
 rintro x w2 ⟨rfl,hb2⟩;by_cases hl:endE e≤lba
 · have:=HR.out
   rw [if_pos hl] at this;subst this;clear HR;go_wp2;go_ret;exact ⟨rfl,(E.step hb2).below⟩
 · have:=HR.out
   rw [if_neg hl] at this;subst this;clear HR;go_wp2;go_ret;exact ⟨rfl,(E.step hb2).below⟩
theorem zme {l:List Ex} {lba:Int} {i:Nat} (hi:i≤l.length) (h1:∀ k e,k<i→l[k]?=some e→endE e≤lba) (h2:∀ e,l[i]?=some e→lba<endE e):firstE l lba=i:=by
 unfold firstE;rcases Nat.lt_or_ge i l.length with h | h
 · rw [List.findIdx_eq h]
   refine ⟨by simpa using h2 _ (List.getElem?_eq_getElem h),fun k hk=>?_⟩
   have:=h1 k _ hk (List.getElem?_eq_getElem (by omega))
   simpa using this
 · have:i=l.length:=by omega
   subst this;rw [List.findIdx_eq_length];intro e he;obtain ⟨k,hk,rfl⟩:=List.getElem_of_mem he;have:=h1 k _ hk (List.getElem?_eq_getElem hk);simpa using this
theorem zoy (A:Option Addr) (c:Nat) (l:List Ex) (lba:Int) (K:Nat→Prop) (w:World) (hv:IsL Rp.ex w K (.slice A l.length c) l) (hch:za2 0 l) :
 Calls Tryz.prog 201 #[.slice A l.length c,.int .i64 lba,.func (.func 202) #[] #[]] w fun x w'=>
  ∃ b,x=.returned (.tuple #[.int .i64 (firstE l lba),.bool b])∧Below w.heap.size w w':=by
 have hlen:=hv.len;obtain ⟨ln,hln⟩:∃ ln,l.length=ln:=⟨_,rfl⟩;rw [hln] at hlen;have hv0:=hv;rw [hln] at hv;rw [hln];have HLN:=Lib.hid hln;have HCH:=Lib.hid hch;clear hln hch;go_enter Tryz.func201,Tryz.ntmps201
 go_wp2_with fail;go_loopw [9,10,11] (fun x9 x10 x11 wr=>∃ i j:Nat,x9=.int .i64 i∧x10=.int .i64 j∧i≤j∧j≤ln∧Hid ((∀ k e,k<i→l[k]?=some e→endE e≤lba)∧(∀ e,l[j]?=some e→lba<endE e))∧Below w.heap.size w wr∧∃ y,x11=y) (fun i j _ _=>(intOf j-intOf i).toNat)
 case atStart=>exact ⟨0,ln,rfl,rfl,Nat.zero_le _,Nat.le_refl _,Lib.hid ⟨fun k e hk=>by omega,fun e he=>by rw [←HLN.out,List.getElem?_eq_none (Nat.le_refl _)] at he;cases he⟩,Below.refl _ _,_,rfl⟩
 case round=>
  obtain ⟨i,j,rfl,rfl,hij,hjl,HI,hb,y,rfl⟩:=hrel;have hsz:=hb.size;by_cases hlt:i<j
  case neg=>
   obtain rfl:i=j:=by omega
   obtain ⟨h1,h2⟩:=HI.out;have hfi:=zme (by rw [HLN.out];exact hjl) h1 h2
   clear HI;by_cases hin:i<ln
   · obtain ⟨e,he⟩:∃ e,l[i]?=some e:=⟨_,List.getElem?_eq_getElem (by rw [HLN.out];exact hin)⟩
     have hem:OkE e:=(zai HCH.out e (List.mem_of_getElem? he)).1.ok;obtain ⟨ad,rfl,-,c0,c1,c2,c3,c4⟩:=zb9 (hv0.step hb) he;have i0:(0:Int)≤(i:Int):=by omega
     have i1:(i:Int)<(ln:Int):=by omega
     have HFI:=Lib.hid hfi;have HE:=Lib.hid h2;have HL:=Lib.hid he;clear hfi h1 h2 he;go_wp2_with fail;refine (zfj e lba _ hem).mono ?_;rintro x w3 ⟨rfl,hb3⟩;clear c0 c1 c2 c3 c4;rw [if_neg (by have:=HE.out e HL.out;omega)]
     go_wp2;go_ret2;exact ⟨false,by rw [HFI.out];rfl,hb.trans (hb3.mono hsz)⟩
   · have HFI:=Lib.hid hfi
     clear hfi h1 h2;go_wp2;go_ret2;exact ⟨false,by rw [HFI.out];rfl,hb⟩
  obtain ⟨h,hh⟩:∃ h,(i+j) / 2=h:=⟨_,rfl⟩;go_upto_region 5 with fail;rw [show ((i:Int)+(j:Int)) / 2=(h:Int) by omega]
  have h0:(0:Int)≤(h:Int):=by omega
  have h1:(h:Int)<(ln:Int):=by omega
  have h2:i≤h∧h<j:=by omega
  obtain ⟨e,he⟩:∃ e,l[h]?=some e:=⟨_,List.getElem?_eq_getElem (by rw [HLN.out];omega)⟩
  have hem:OkE e:=(zai HCH.out e (List.mem_of_getElem? he)).1.ok;obtain ⟨ad,rfl,-,c0,c1,c2,c3,c4⟩:=zb9 (hv0.step hb) he;have HE:=Lib.hid he;clear he hh;go_wp2_with fail;refine (zfj e lba _ hem).mono ?_;rintro x w3 ⟨rfl,hb3⟩;clear c0 c1 c2 c3 c4;replace hb3:=hb.trans (hb3.mono hsz);by_cases hl:endE e≤lba
  · rw [if_pos hl]
    have HI2:Hid ((∀ k e,k<h+1→l[k]?=some e→endE e≤lba)∧(∀ e,l[j]?=some e→lba<endE e)):=Lib.hid ⟨fun k x hk hx=>Int.le_trans (zjZ HCH.out hx HE.out (by omega)) hl,HI.out.2⟩
    clear hl;go_wp2;go_roundw
    case rel=>exact ⟨h+1,j,by go_num,rfl,by omega,by omega,HI2,hb3,_,rfl⟩
    case measure=>simp [intOf];omega
  · rw [if_neg hl]
    have HI2:Hid ((∀ k e,k<i→l[k]?=some e→endE e≤lba)∧(∀ e,l[h]?=some e→lba<endE e)):=Lib.hid ⟨HI.out.1,fun x hx=>by rw [HE.out] at hx;injection hx with hx;subst hx;omega⟩
    clear hl;go_wp2;go_roundw
    case rel=>exact ⟨i,h,rfl,rfl,by omega,by omega,HI2,hb3,_,rfl⟩
    case measure=>simp [intOf];omega
def exCs (e:Ex):List Value:=[.int .i64 e.lba,.int .i64 e.n,.int .i64 e.ver,.int .i64 e.zone,.int .i64 e.off]
def exLs:List Ex→List Value
 | []=>[]
 | e::l=>exCs e++exLs l
theorem zaX (l m:List Ex):exLs (l++m)=exLs l++exLs m:=by
 induction l with
 | nil=>rfl
 | cons e l ih=>simp [exLs,ih]
theorem zbl (l:List Ex) (e:Ex):exLs (l++[e])=exLs l++exCs e:=by rw [zaX];simp [exLs]
theorem zav (l:List Ex):∀ u∈exLs l,u.oneCell'=true:=by
 induction l with
 | nil=>simp [exLs]
 | cons e l ih=>
   intro u hu;rcases List.mem_append.1 hu with hu | hu
   · simp only [exCs,List.mem_cons,List.not_mem_nil,or_false] at hu
     rcases hu with rfl | rfl | rfl | rfl | rfl <;> rfl
   · exact ih u hu
theorem zbv {w:World} {K:Nat→Prop} {cs:List Value} {l:List Ex}:za8 Rp.ex w K cs l↔cs=exLs l:=by
 induction l generalizing cs with
 | nil=>exact ⟨fun h=>List.eq_nil_of_length_eq_zero (by have:=h.len;simpa using this),fun h=>by subst h;rfl⟩
 | cons e l ih=>
   constructor
   · rintro ⟨a,b,rfl,ha,hb⟩
     rw [ih.1 hb,show a=exCs e from ha];rfl
   · rintro rfl
     exact ⟨exCs e,exLs l,rfl,rfl,ih.2 rfl⟩
theorem zaA {w:World} {base:Nat} {A:Option Addr} {n c:Nat} {l:List Ex} (h:w.ownsRow base 85 5 (.slice A n c) n (exLs l)) (hn:l.length=n) (hl:n≤140737488355328):IsL Rp.ex w (fun b=>base≤b) (.slice A n c) l:=by
 subst hn;exact ⟨A,c,exLs l,rfl,za6.of_own_ge h,zbv.2 rfl,zaJ h,zar h,hl⟩
theorem zcA {w:World} {K:Nat→Prop} {A:Option Addr} {n c:Nat} {l:List Ex} (h:IsL Rp.ex w K (.slice A n c) l):za6 w K 5 A n (exLs l):=by
 obtain ⟨hn,⟨cs,hr,hc⟩,_⟩:=h.open_;rw [zbv.1 hc] at hr;rw [hn];exact hr
theorem Tryz.infX:(Tryz.prog.info? 85).map (fun i=>(i.zero,i.size,i.bytes))=some (some (.agg #[.int .i64 0,.int .i64 0,.int .i64 0,.int .i64 0,.int .i64 0]),5,40):=by kernel_rfl
theorem zks {α:Type} (p:α→Bool):∀ (m:List α) (t:Nat),t≤(m.takeWhile p).length→(∀ e,m[t]?=some e→p e=true→t+1≤(m.takeWhile p).length∧(m.takeWhile p)[t]?=some e)∧((∀ e,m[t]?=some e→p e=false)→t=(m.takeWhile p).length)
 | [],t,h=>⟨fun e he=>by simp at he,fun _=>by simpa using h⟩
 | a::m,t,h=>by
   rw [List.takeWhile_cons] at h ⊢;by_cases ha:p a=true
   · rw [if_pos ha] at h ⊢
     cases t with
     | zero=>exact ⟨fun e he _=>by simp at he;subst he;simp,fun h2=>by have:=h2 a rfl;rw [ha] at this;cases this⟩
     | succ t=>
       simp only [List.length_cons,Nat.add_le_add_iff_right,List.getElem?_cons_succ] at h ⊢;obtain ⟨i1,i2⟩:=zks p m t h;exact ⟨fun e he hp=>i1 e he hp,fun h2=>by rw [i2 h2]⟩
   · rw [if_neg ha] at h ⊢
     have h0:t=0:=by simpa using h
     subst h0;exact ⟨fun e he hp=>by simp at he;subst he;exact absurd hp ha,fun _=>rfl⟩
theorem zjN (A:Option Addr) (c:Nat) (l:List Ex) (lba:Int) (K:Nat→Prop) (w:World) (hv:IsL Rp.ex w K (.slice A l.length c) l) (hch:za2 0 l) :
 Calls Tryz.prog 166 #[.slice A l.length c,.int .i64 lba] w fun x w'=>x=.returned (.int .i64 (firstE l lba))∧Below w.heap.size w w':=by
 go_enter Tryz.func166,Tryz.ntmps166
 go_wp2_with fail;refine (zoy A c l lba K _ hv hch).mono ?_;rintro x w2 ⟨b,rfl,hb2⟩;go_wp2;go_ret;exact ⟨rfl,hb2⟩
theorem zmo (l:List Ex) (lba:Int):firstE l lba≤l.length:=List.findIdx_le_length
theorem znv (l:List Ex) (lba n:Int):firstE l lba+(midE l lba n).length≤l.length:=by
 have h1:(midE l lba n).length≤(l.drop (firstE l lba)).length:=(List.takeWhile_sublist _).length_le;have h2:=zmo l lba;rw [List.length_drop] at h1;omega
theorem zl5 (l:List Ex) (lba n:Int) {t:Nat} (ht:t≤(midE l lba n).length) :
 (∀ e,l[firstE l lba+t]?=some e→e.lba<lba+n→t+1≤(midE l lba n).length∧(partE l lba n).take (t+1)=(partE l lba n).take t++[uptoE (fromE e lba) (lba+n)]∧(e∈midE l lba n)) ∧
  ((∀ e,l[firstE l lba+t]?=some e→¬e.lba<lba+n)→t=(midE l lba n).length):=by
 obtain ⟨h1,h2⟩:=zks (fun e:Ex=>decide (e.lba<lba+n)) (l.drop (firstE l lba)) t ht
 simp only [List.getElem?_drop] at h1 h2;constructor
 · intro e he hlt
   obtain ⟨h3,h4⟩:=h1 e he (by simpa using hlt)
   refine ⟨h3,zdo _ ?_,List.mem_of_getElem? h4⟩;unfold partE;rw [List.getElem?_map];unfold midE;rw [h4];rfl
 · intro h
   exact h2 fun e he=>by simpa using h e he
theorem zf7 (A:Option Addr) (c:Nat) (l:List Ex) (lba n:Int) (K:Nat→Prop) (w:World) (hv:IsL Rp.ex w K (.slice A l.length c) l) (hch:za2 0 l) (hb:za9 lba n) :
 Calls Tryz.prog 121 #[.slice A l.length c,.int .i64 lba,.int .i64 n] w fun x w'=>
  ∃ Ao co,x=.returned (.tuple #[.slice Ao (partE l lba n).length co,.int .i64 (firstE l lba),.int .i64 ((firstE l lba+(midE l lba n).length:Nat):Int)]) ∧
    w'.ownsRow w.heap.size 85 5 (.slice Ao (partE l lba n).length co) (partE l lba n).length (exLs (partE l lba n))∧Below w.heap.size w w':=by
 have hlen:=hv.len;obtain ⟨i0,hi,hz0,hz1,hz2⟩:=info_parts Tryz.infX;have HV:=Lib.hid hv;have hst:=fun t ht=>zl5 l lba n (t:=t) ht
 have hup:=zcL hch lba n;have hfc:=fun w=>zjN A c l lba K w
 have hmem:=zai hch;have hpl:(partE l lba n).length=(midE l lba n).length:=by unfold partE;rw [List.length_map]
 have hle:=znv l lba n;have hm40:(midE l lba n).length≤1099511627776:=by
  obtain ⟨p1,p2,_⟩:=zbJ hch hb;have p3:=zbj p1;rw [hpl] at p3;have:=hb.2.2.1;omega
 generalize firstE l lba=f at *;generalize midE l lba n=mid at *;generalize partE l lba n=pt at *;obtain ⟨m,hm⟩:∃ m,mid.length=m:=⟨_,rfl⟩;rw [hm] at hle hpl hm40;simp only [hm] at hst;rw [hm,hpl];have HST:=Lib.hid hst;have HUP:=Lib.hid hup;have HMEM:=Lib.hid hmem;have HPL:=Lib.hid hpl;have HFC:=Lib.hid (fun w hv=>hfc w hv hch)
 clear hst hup hmem hpl hm hfc hch;obtain ⟨ln,hln⟩:∃ ln,l.length=ln:=⟨_,rfl⟩;rw [hln] at hlen hv hle HFC ⊢;have HLN:=Lib.hid hln;clear hln;obtain ⟨b1,b2,b3,b4⟩:=hb;go_enter Tryz.func121,Tryz.ntmps121
 go_wp2_with fail;refine (HFC.out _ hv).mono ?_;rintro x w2 ⟨rfl,hb2⟩;go_wp2_with fail;go_loopw [6,8] (fun x6 x8 wr=>∃ (t:Nat) (Ao:Option Addr) (co:Nat),x6=.slice Ao t co∧x8=.int .i64 ((f+t:Nat):Int)∧t≤m∧wr.ownsRow w.heap.size 85 5 (.slice Ao t co) t (exLs (pt.take t))∧Below w.heap.size w wr) (fun _ x8 _=>ln+1-(intOf x8).toNat)
 case atStart=>exact ⟨0,none,0,rfl,by simp,Nat.zero_le _,World.ownsRow_nil _ _ _ _,hb2⟩
 case round=>
  obtain ⟨t,Ao,co,rfl,rfl,htm,hown,hbr⟩:=hrel;have hsz:=hbr.size;obtain ⟨k,hk⟩:∃ k,f+t=k:=⟨_,rfl⟩;rw [hk];have hkl:k≤ln:=by omega
  by_cases hlt:k<ln
  case neg=>
   have htm2:t=m:=(HST.out t htm).2 fun e he=>by rw [hk,List.getElem?_eq_none (by rw [HLN.out];omega)] at he;cases he
   have HT:=Lib.hid htm2;clear htm2;have HK:=Lib.hid hk;clear hk;go_wp2;go_ret3
   refine ⟨Ao,co,?_,?_,hbr⟩
   · have e1:((f:Int)+(t:Int))=(k:Int):=by have:=HK.out;omega
     rw [←HT.out];first | (rw [HK.out];rfl) | (rw [e1];rfl)
   · rw [←HT.out]
     have:=hown;rw [HT.out,List.take_of_length_le (by rw [HPL.out];exact Nat.le_refl _)] at this
     rw [HT.out];exact this
  obtain ⟨e,he⟩:∃ e,l[k]?=some e:=⟨_,List.getElem?_eq_getElem (by rw [HLN.out];exact hlt)⟩
  obtain ⟨ad,rfl,-,c0,c1,c2,c3,c4⟩:=zb9 (HV.out.step hbr) he;have k0:(0:Int)≤(k:Int):=by omega
  have k1:(k:Int)<(ln:Int):=by omega
  have HE:=Lib.hid he;have HK:=Lib.hid hk;clear he hk;by_cases hin:e.lba<lba+n
  case neg=>
   have htm2:t=m:=(HST.out t htm).2 fun e' he=>by rw [HK.out,HE.out] at he;injection he with he;subst he;omega
   have HT:=Lib.hid htm2;clear htm2;go_wp2;go_ret3
   refine ⟨Ao,co,?_,?_,hbr⟩
   · have e1:((f:Int)+(t:Int))=(k:Int):=by have:=HK.out;omega
     rw [←HT.out];first | (rw [HK.out];rfl) | (rw [e1];rfl)
   · have:=hown
     rw [HT.out,List.take_of_length_le (by rw [HPL.out];exact Nat.le_refl _)] at this
     exact this
  obtain ⟨g1,g2,g3⟩:=(HST.out t htm).1 e (by rw [HK.out];exact HE.out) hin
  have hem:mayE e:=(HMEM.out e (List.mem_of_getElem? HE.out)).1;have hup:=HUP.out e g3;have hfm:=zgh hem hup.1;have HG:=Lib.hid g2;clear g2 g3 hup;go_wp2_with fail;refine (zff e lba _ hem.ok (by omega)).mono ?_
  rintro x w3 ⟨rfl,hb3⟩;clear c0 c1 c2 c3 c4;go_wp2_with fail;refine (zhI (fromE e lba) (lba+n) _ hfm.ok (by omega)).mono ?_
  rintro x w4 ⟨rfl,hb4⟩;replace hb4:=hb3.trans (hb4.mono hb3.size);generalize uptoE (fromE e lba) (lba+n)=y at HG ⊢;have own4:=za4 hown hb4 (Nat.le_refl _);have hs4:=hb4.size;clear hown hfm;go_wp2_with (at_builtin;(refine za5 rfl _ _ _ rfl w.heap.size 85 i0 _ 5 40 Tryz.underlying36 hi hz0 hz1 hz2 rfl (by omega) rfl (own4.alloc _) rfl (za6.new (xs:=exCs y) (n:=1) rfl rfl rfl) (by intro u hu;exact zav [y] u (by simpa [exLs] using hu)) (by simp only [maxLen];omega) (by omega) (by simp;omega) ?_;intro A8 c8 w6 own8 hg8))
  go_roundw
  case rel=>
   refine ⟨t+1,A8,c8,rfl,?_,g1,?_,?_⟩
   · rw [←HK.out];go_num
   · rw [HG.out,zbl];exact own8
   · have:=(hbr.trans (hb4.mono hsz)).alloc (by omega) (.cells (exC y) 85)
     exact this.trans (hg8.below.mono (Nat.le_refl _))
  case measure=>simp [intOf];omega
theorem zeY (A:Option Addr) (c:Nat) (l:List Ex) (lba n:Int) (K:Nat→Prop) (w:World) (hv:IsL Rp.ex w K (.slice A l.length c) l) (hch:za2 0 l) (hb:za9 lba n) :
 Calls Tryz.prog 57 #[.slice A l.length c,.int .i64 lba,.int .i64 n] w fun x w'=>
  ∃ Ao co,x=.returned (.tuple #[.slice Ao (partE l lba n).length co,.int .i64 0]) ∧
    w'.ownsRow w.heap.size 85 5 (.slice Ao (partE l lba n).length co) (partE l lba n).length (exLs (partE l lba n))∧Below w.heap.size w w':=by
 have hc:chkE l=0:=by unfold chkE;rw [if_pos hch]
 have hd:decide (za9 lba n)=true:=decide_eq_true hb;go_enter Tryz.func57,Tryz.ntmps57
 go_wp2_with fail;refine (zaV _ l K _ hv).mono ?_;rintro x w2 ⟨rfl,hb2⟩;rw [hc];go_wp2_with fail;refine (zaE lba n _).mono ?_;rintro x w3 ⟨rfl,rfl⟩;rw [hd];go_wp2_with fail;refine (zf7 A c l lba n K _ (hv.step hb2) hch hb).mono ?_;rintro x w4 ⟨Ao,co,rfl,hown,hb4⟩;go_wp2;go_ret2;exact ⟨Ao,co,rfl,zac hown hb2.size,hb2.trans (hb4.mono hb2.size)⟩
theorem zfL {B g:Nat} {a w:World} {x0 x1 x2 x3 x4:Value} (h:Below B a w) (hg:B≤g):Below B a (((((w.setCell ⟨g,0,none⟩ x0).setCell ⟨g,1,none⟩ x1).setCell ⟨g,2,none⟩ x2).setCell ⟨g,3,none⟩ x3).setCell ⟨g,4,none⟩ x4):=
 ((((h.setCell (p:=⟨g,0,none⟩) hg _).setCell (p:=⟨g,1,none⟩) hg _).setCell (p:=⟨g,2,none⟩) hg _).setCell (p:=⟨g,3,none⟩) hg _).setCell (p:=⟨g,4,none⟩) hg _
def atE (l:List Ex) (b:Int):Ex × Bool:=match see l b with
 | none=>(⟨0,0,0,0,0⟩,false)
 | some t=>(⟨b,1,t.1,t.2.1,t.2.2⟩,true)
theorem zoe (A:Option Addr) (c:Nat) (l:List Ex) (b:Int) (K:Nat→Prop) (w:World) (hv:IsL Rp.ex w K (.slice A l.length c) l) (hch:za2 0 l) (hb:za9 b 1) :
 Calls Tryz.prog 143 #[.slice A l.length c,.int .i64 b] w fun x w'=>
  x=.returned (.tuple #[exV (atE l b).1,.bool (atE l b).2])∧Below w.heap.size w w':=by
 have hc:chkE l=0:=by unfold chkE;rw [if_pos hch]
 have hd:decide (za9 b 1)=true:=decide_eq_true hb;have hp:=zn5 hch hb;have hcp:=fun w hv=>zf7 A c l b 1 K w hv hch hb
 generalize partE l b 1=pt at hp hcp;obtain ⟨r,hr⟩:∃ r,atE l b=r:=⟨_,rfl⟩;rw [hr];have HR:=Lib.hid hr;have HP:=Lib.hid hp;clear hr hp;have E:=(Kn.start w).push 85 #[.int .i64 0,.int .i64 0,.int .i64 0,.int .i64 0,.int .i64 0];go_enter Tryz.func143,Tryz.ntmps143
 go_wp2_with fail;refine (zaV _ l K _ (hv.alloc _)).mono ?_;rintro x w2 ⟨rfl,hb2⟩;replace E:=E.step hb2;rw [hc];go_wp2_with fail;refine (zaE b 1 _).mono ?_;rintro x w3 ⟨rfl,rfl⟩;rw [hd];go_wp2_with fail;refine (hcp _ ((hv.alloc _).step hb2)).mono ?_;rintro x w4 ⟨Ao,co,rfl,hown,hb4⟩;replace E:=E.step hb4;have hr:=HR.out;have hp:=HP.out;clear HR HP;unfold atE at hr;cases hs:see l b with
 | none=>
   rw [hs] at hp hr;subst hp hr;obtain ⟨q0,f0,t0⟩:=E.rules m0;clear hs;go_wp2;refine bodyPost_ret (v:=.tuple #[.agg #[.int .i64 0,.int .i64 0,.int .i64 0,.int .i64 0,.int .i64 0],.bool false]) (by simp [results,Tryz.results143,go_sem,q0]) rfl ⟨rfl,zfL E.below (Nat.le_refl _)⟩
 | some t=>
   rw [hs] at hp hr;subst hp hr;obtain ⟨q0,f0,t0⟩:=E.rules m0;clear hs;have hL:=zaA hown rfl (by simp)
   obtain ⟨ad,rfl,-,c0,c1,c2,c3,c4⟩:=zb9 hL (j:=0) rfl;rw [Nat.zero_mul,zbN] at c0 c1 c2 c3 c4;clear hcp;go_wp2;refine bodyPost_ret (v:=.tuple #[.agg #[.int .i64 b,.int .i64 1,.int .i64 t.1,.int .i64 t.2.1,.int .i64 t.2.2],.bool true]) (by simp [results,Tryz.results143,go_sem,q0]) rfl ⟨rfl,zfL E.below (Nat.le_refl _)⟩
theorem znr (f b:Ex) (w:World):(binOp .eql 85 (exV f) (exV b)).run Tryz.prog w=.ok (.bool (decide (f=b))) w:=by
 obtain ⟨f0,f1,f2,f3,f4⟩:=f;obtain ⟨b0,b1,b2,b3,b4⟩:=b;simp only [Ex.mk.injEq];go_simp;repeat' split
 all_goals simp_all
theorem zkb (a b:Ex) (w:World) (ha:mayE a) (hb:mayE b) :
 Calls Tryz.prog 189 #[exV a,exV b] w fun x w'=>x=.returned (.bool (zf6 a b))∧Below w.heap.size w w':=by
 have oka:=ha.ok;have okb:=hb.ok;obtain ⟨a1,a2,a3⟩:=oka;obtain ⟨b1,b2,b3⟩:=okb;have okc:OkE ⟨a.lba,a.n+b.n,a.ver,a.zone,a.off⟩:=by
  have p1:=ha.1;have p2:=hb.1;unfold za9 at p1 p2;exact ⟨a1,by simp only;omega,a3⟩
 have hcf:=fun w=>zff ⟨a.lba,a.n+b.n,a.ver,a.zone,a.off⟩ b.lba w okc (by omega)
 have hend:=fun w=>zdH a w (by omega)
 obtain ⟨f,hf⟩:∃ f,fromE ⟨a.lba,a.n+b.n,a.ver,a.zone,a.off⟩ b.lba=f:=⟨_,rfl⟩;obtain ⟨e,he⟩:∃ e,endE a=e:=⟨_,rfl⟩;have hg:zf6 a b=(decide (b.lba=e) && decide (f=b)):=by
  unfold zf6;rw [hf,he,Bool.decide_and]
 rw [hf] at hcf;rw [he] at hend;rw [hg];have HCF:=Lib.hid hcf;have HEND:=Lib.hid hend;clear hg hf he hcf hend okc ha hb;obtain ⟨r,hr⟩:∃ r,(decide (b.lba=e) && decide (f=b))=r:=⟨_,rfl⟩;rw [hr];have HR:=Lib.hid hr;clear hr;have E:=((Kn.start w).push 85 (exC a)).push 85 (exC b);obtain ⟨q0,f0,t0⟩:=E.rules m0;obtain ⟨q1,f1,t1⟩:=E.rules m1;go_enter Tryz.func189,Tryz.ntmps189
 go_wp2_with fail;refine (HCF.out _).mono ?_;rintro x w2 ⟨rfl,hb2⟩;clear q0 f0 t0 q1 f1 t1;replace E:=E.step hb2;replace E:=E.push 85 (exC f);rw [World.size_alloc] at E;go_upto_region 2 with fail;generalize hw1:w2.alloc (.cells #[.int .i64 f.lba,.int .i64 f.n,.int .i64 f.ver,.int .i64 f.zone,.int .i64 f.off] 85)=w1 at E ⊢;clear hw1 hb2;have hb0:Below w1.heap.size w1 w1.drew:=(Below.refl _ _).drew;have HK:Hid (∀ W,Below w1.heap.size w1 W→(∀ o,W.cell? ⟨w2.heap.size,o,none⟩=(exC f)[o]?)∧(∀ o,W.cell? ⟨w.heap.size+1,o,none⟩=(exC b)[o]?)∧(∀ o,W.cell? ⟨w.heap.size,o,none⟩=(exC a)[o]?)):=Lib.hid fun W h=>⟨((E.step h).rules m0).1,((E.step h).rules m1).1,((E.step h).rules m2).1⟩
 by_cases hbe:b.lba=e
 case neg=>
  have hd:(b.lba == e)=false:=beq_eq_false_iff_ne.2 hbe;have:=HR.out;rw [decide_eq_false hbe,Bool.false_and] at this;subst this;clear HR hbe;refine wp_region_held_drew (S:=fun W=>(∀ o,W.cell? ⟨w2.heap.size,o,none⟩=(exC f)[o]?)∧(∀ o,W.cell? ⟨w.heap.size+1,o,none⟩=(exC b)[o]?)∧(∀ o,W.cell? ⟨w.heap.size,o,none⟩=(exC a)[o]?)) (by kernel_rfl) (HK.out _ hb0) (fun hHeld=>?_)
  refine wT 0 23 ?_;refine wT 1 24 ?_;refine wT 2 25 ?_;refine wR 3 26 (fun K hK=>?_)
  go_simp;refine (HEND.out _).mono ?_;rintro x w3 ⟨rfl,hb3⟩;replace hb3:=hb0.trans (hb3.mono hb0.size);go_wp2_with fail;refine hK.out _ _ (HK.out _ hb3) (fun hHeld=>?_)
  clear hK K;refine wT 4 27 ?_;refine wT 5 28 ?_;refine wU 6 29 ?_;refine wU 7 30 ?_;refine wU 8 31 ?_;refine wT 9 32 ?_;refine wT 10 4 ?_;refine wpAnyH_done (by kernel_rfl) ?_ _
  go_wp2;go_ret;exact ⟨rfl,(E.step hb3).below⟩
 have hd:(b.lba == e)=true:=beq_iff_eq.2 hbe;have:=HR.out;rw [decide_eq_true hbe,Bool.true_and] at this;clear HR hbe;have heq:∀ w:World,(binOp .eql 85 (exV f) (exV b)).run Tryz.prog w=.ok (.bool r) w:=fun w=>by rw [znr,this]
 clear this;refine wp_region_held_drew (S:=fun W=>(∀ o,W.cell? ⟨w2.heap.size,o,none⟩=(exC f)[o]?)∧(∀ o,W.cell? ⟨w.heap.size+1,o,none⟩=(exC b)[o]?)∧(∀ o,W.cell? ⟨w.heap.size,o,none⟩=(exC a)[o]?)) (by kernel_rfl) (HK.out _ hb0) (fun hHeld=>?_)
 refine wT 0 23 ?_;refine wT 1 24 ?_;refine wT 2 25 ?_;refine wR 3 26 (fun K hK=>?_)
 go_simp;refine (HEND.out _).mono ?_;rintro x w3 ⟨rfl,hb3⟩;replace hb3:=hb0.trans (hb3.mono hb0.size);go_wp2_with fail;refine hK.out _ _ (HK.out _ hb3) (fun hHeld=>?_)
 clear hK K;refine wT 4 27 ?_;refine wT 5 28 ?_;refine wT 6 29 ?_;refine wT 7 30 ?_;refine wT 8 31 ?_;refine wT 9 32 ?_;refine wT 10 4 ?_;refine wpAnyH_done (by kernel_rfl) ?_ _
 go_wp2;go_ret;exact ⟨rfl,(E.step hb3).below⟩
theorem zcq {w:World} {base g:Nat} {e:TypeId} {size n c:Nat} {xs:List Value} (h:w.ownsRow base e size (.slice (some ⟨g,0,none⟩) n c) n xs) (i:Nat) (u:Value) :
 (w.setCell ⟨g,i,none⟩ u).ownsRow base e size (.slice (some ⟨g,0,none⟩) n c) n (xs.set i u):=by
 refine ⟨by rw [List.length_set];exact h.1,?_⟩
 rcases h.2 with ⟨h2,_⟩ | ⟨g',cap,cur,hv,hg,hh,h3,h4,h5,h6⟩
 · cases h2
 · injection hv with e1 e2 e3
   injection e1 with e1;injection e1 with e1 _ _;subst e1 e3;refine .inr ⟨g,c,cur.setIfInBounds i u,rfl,hg,?_,h3,h4,by simpa using h5,?_⟩
   · simp [World.setCell,Array.getElem?_modify,hh]
   · rw [←h6,Array.toList_setIfInBounds]
     rw [List.take_set]
theorem zch {w:World} {base:Nat} {e:TypeId} {size n c:Nat} {A:Option Addr} {xs:List Value} (h:w.ownsRow base e size (.slice A n c) n xs) (hn:0<n) :
 ∃ g cur,A=some ⟨g,0,none⟩∧base≤g∧Blk w g e cur∧∀ (j:Nat) u,xs[j]?=some u→cur[j]?=some u:=by
 rcases h.2 with ⟨_,h2⟩ | ⟨g,cap,cur,hv,hg,hh,h3,h4,h5,h6⟩
 · omega
 · injection hv with e1 e2 e3
   refine ⟨g,cur,e1,hg,hh,fun j u hu=>?_⟩
   rw [←h6,List.getElem?_take] at hu;split at hu
   · simpa using hu
   · cases hu
theorem zbw (l:List Ex):(exLs l).length=l.length*5:=by
 induction l with
 | nil=>rfl
 | cons e l ih=>simp only [exLs,List.length_append,ih,List.length_cons,exCs,List.length_nil];omega
theorem zkB {l:List Ex} {j:Nat} {e:Ex} (h:l[j]?=some e) (i:Nat) (hi:i<5):(exLs l)[j*5+i]?=(exCs e)[i]?:=by
 induction l generalizing j with
 | nil=>simp at h
 | cons x l ih=>
   unfold exLs;cases j with
   | zero=>
     simp only [List.getElem?_cons_zero,Option.some.injEq] at h;subst h;rw [List.getElem?_append_left (by simp [exCs];omega)]
     simp
   | succ j=>
     simp only [List.getElem?_cons_succ] at h;rw [List.getElem?_append_right (by simp [exCs];omega)]
     rw [←ih h];congr 1
     simp [exCs];omega
theorem zlF (pre:List Ex) (x:Ex) (v:Int) {i:Nat} (hi:i=pre.length*5+1):(exLs (pre++[x])).set i (.int .i64 v)=exLs (pre++[⟨x.lba,v,x.ver,x.zone,x.off⟩]):=by
 rw [zbl,zbl,List.set_append_right _ _ (by rw [zbw];omega),zbw,hi,show pre.length*5+1-pre.length*5=1 by omega]
 rfl
def zhc (out:List Ex) (e:Ex):List Ex:=match out.getLast? with
 | none=>[e]
 | some x=>if zf6 x e=true then out.dropLast++[⟨x.lba,x.n+e.n,x.ver,x.zone,x.off⟩] else out++[e]
theorem zhn:∀ (l:List Ex) (x:Ex),zbn x l≠[]
 | [],x=>by simp [zbn]
 | a::l,x=>by
   unfold zbn;split
   · exact zhn l _
   · simp
theorem zjX (x e:Ex) {m:List Ex} (hm:m≠[]):zhc (x::m) e=x::zhc m e:=by
 unfold zhc;obtain ⟨y,r,rfl⟩:=List.exists_cons_of_ne_nil hm;rw [List.getLast?_cons_cons];cases h:(y::r).getLast? with
 | none=>simp at h
 | some z=>
   simp only;split
   · rw [List.dropLast_cons_of_ne_nil (by simp)];rfl
   · rfl
theorem zdm (e:Ex):∀ (l:List Ex) (x:Ex),zbn x (l++[e])=zhc (zbn x l) e
 | [],x=>by
   rw [List.nil_append];unfold zbn zhc;simp only [zbn,List.getLast?_singleton];split <;> simp
 | a::l,x=>by
   rw [List.cons_append];unfold zbn;split
   · exact zdm e l _
   · rw [zdm e l a,zjX _ _ (zhn l a)]
theorem zm2 (l:List Ex) (e:Ex):joinE (l++[e])=zhc (joinE l) e:=by
 cases l with
 | nil=>rfl
 | cons x l=>exact zdm e l x
theorem zby {l:List Ex} (h:za2 0 l):l.length≤1099511627776:=by
 have h1:=zbj h;have h2:lastE 0 l≤1099511627776:=zgj (by omega) fun e he=>by
  have:=(zai h e he).1.1;unfold za9 at this;unfold endE;omega
 omega
theorem zeJ (A:Option Addr) (c:Nat) (l:List Ex) (K:Nat→Prop) (w:World) (hv:IsL Rp.ex w K (.slice A l.length c) l) (hch:za2 0 l) :
 Calls Tryz.prog 142 #[.slice A l.length c] w fun x w'=>
  ∃ Ao co,x=.returned (.slice Ao (joinE l).length co)∧w'.ownsRow w.heap.size 85 5 (.slice Ao (joinE l).length co) (joinE l).length (exLs (joinE l))∧Below w.heap.size w w':=by
 have hlen:=zby hch;obtain ⟨i0,hi,hz0,hz1,hz2⟩:=info_parts Tryz.infX;have HV:=Lib.hid hv;have hc:chkE l=0:=by unfold chkE;rw [if_pos hch]
 have hck:=fun w hv=>zaV (.slice A l.length c) l K w hv
 rw [hc] at hck;have HCK:=Lib.hid hck;have HCH:=Lib.hid hch;clear hck hc hch;obtain ⟨ln,hln⟩:∃ ln,l.length=ln:=⟨_,rfl⟩;have hJ:∀ k,k=ln→joinE (l.take k)=joinE l:=fun k hk=>by rw [hk,←hln,List.take_length]
 have HJ:=Lib.hid hJ;clear hJ;rw [hln] at hlen hv HCK ⊢;have HLN:=Lib.hid hln;clear hln;go_enter Tryz.func142,Tryz.ntmps142
 go_wp2_with fail;refine (HCK.out _ hv).mono ?_;rintro x w2 ⟨rfl,hb2⟩;go_wp2_with fail;go_loopw [3,5,6,12] (fun x3 x5 x6 x12 wr=>∃ (j t:Nat) (Ao:Option Addr) (co:Nat),x3=.slice Ao t co∧x12=.int .i64 j∧j≤ln∧Hid ((joinE (l.take j)).length=t)∧wr.ownsRow w.heap.size 85 5 (.slice Ao t co) t (exLs (joinE (l.take j)))∧Below w.heap.size w wr∧(∃ y,x5=y)∧∃ y,x6=y) (fun _ _ _ x12 _=>ln-(intOf x12).toNat)
 case atStart=>exact ⟨0,0,none,0,rfl,rfl,Nat.zero_le _,Lib.hid rfl,World.ownsRow_nil _ _ _ _,hb2,⟨_,rfl⟩,_,rfl⟩
 case round=>
  obtain ⟨j,t,Ao,co,rfl,rfl,hj,HT,hown,hbr,⟨y5,rfl⟩,y6,rfl⟩:=hrel;have hsz:=hbr.size;by_cases hlt:j<ln
  case neg=>
   have e1:=HJ.out j (by omega)
   rw [e1] at hown HT;have HT2:=HT.out;clear HJ e1 HT;have HT:=Lib.hid HT2;clear HT2;go_wp2;go_ret;refine ⟨Ao,co,?_,?_,hbr⟩
   · rw [HT.out];rfl
   · rw [HT.out];exact hown
  obtain ⟨e,he⟩:∃ e,l[j]?=some e:=⟨_,List.getElem?_eq_getElem (by rw [HLN.out];exact hlt)⟩
  obtain ⟨ad,rfl,-,c0,c1,c2,c3,c4⟩:=zb9 (HV.out.step hbr) he;have k0:(0:Int)≤(j:Int):=by omega
  have k1:(j:Int)<(ln:Int):=by omega
  have hem:mayE e:=(zai HCH.out e (List.mem_of_getElem? he)).1;obtain ⟨jc,_,jl⟩:=zck (zdL j HCH.out);have hsn:=zm2 (l.take j) e;rw [←zdo l he] at hsn;have hjm:=zai jc;have htj:t≤j:=by
   have:=HT.out;rw [List.length_take] at jl;omega
  have HE:=Lib.hid he;clear he jc jl;generalize hout:joinE (l.take j)=out at *;have HSN:=Lib.hid hsn;have HJM:=Lib.hid hjm;clear hsn hjm hout;go_upto_region 8 with fail;have E:=((Kn.from_ hbr hsz).push 85 (exC e)).give (f:=fun W=>W.ownsRow w.heap.size 85 5 (.slice Ao t co) t (exLs out)) (fun _ _ h hb=>za4 h hb (Nat.le_refl _)) (hown.alloc _)
  clear c0 c1 c2 c3 c4;have hrow:∀ b,(Value.slice Ao t co).ownBlock=some b→b<wr.heap.size:=fun b hb=>(hown.lt b hb).2
  have hbw:=hbr.alloc hsz (.cells (exC e) 85);generalize hw1:wr.alloc (.cells #[.int .i64 e.lba,.int .i64 e.n,.int .i64 e.ver,.int .i64 e.zone,.int .i64 e.off] 85)=w1 at E hbw ⊢;clear hw1 hown;have hb0:Below w1.heap.size w1 w1.drew:=(Below.refl _ _).drew;cases t with
  | zero=>
    have hnil:out=[]:=List.eq_nil_of_length_eq_zero HT.out;subst hnil;have HK:Hid (∀ W,Below w1.heap.size w1 W→(∀ o,W.cell? ⟨wr.heap.size,o,none⟩=(exC e)[o]?)):=Lib.hid fun W h=>((E.step h).rules m0).1
    refine wp_region_held_drew (S:=fun W=>(∀ o,W.cell? ⟨wr.heap.size,o,none⟩=(exC e)[o]?)) (by kernel_rfl) (HK.out _ hb0) (fun hHeld=>?_)
    refine wT 0 19 ?_;refine wT 1 20 ?_;refine wT 2 21 ?_;refine wU 3 22 ?_;refine wU 4 23 ?_;refine wU 5 24 ?_;refine wU 6 25 ?_;refine wU 7 26 ?_;refine wU 8 27 ?_;refine wT 9 28 ?_;refine wpAnyH_done (by kernel_rfl) ?_ _
    obtain ⟨q0,f0,t0⟩:=(E.step hb0).rules m0;have own4:=(E.step hb0).get m0;have hs4:=(E.step hb0).below.size;have hbw4:=hbw.trans (hb0.mono hbw.size);generalize hw4:w1.drew=w4 at *;clear hw4 HK hb0 hHeld;go_wp2_with (at_builtin;refine za5 rfl _ _ _ rfl w.heap.size 85 i0 _ 5 40 Tryz.underlying36 hi hz0 hz1 hz2 rfl (by omega) rfl (own4.alloc _) rfl (za6.new (xs:=exCs e) (n:=1) rfl rfl rfl) (by intro u hu;exact zav [e] u (by simpa [exLs] using hu)) (by simp only [maxLen];omega) (by omega) (by simp;omega) ?_;intro A8 c8 w6 own8 hg8)
    go_roundw
    case rel=>
     refine ⟨j+1,1,A8,c8,rfl,by go_num,by omega,?_,?_,?_,⟨_,rfl⟩,_,rfl⟩
     · rw [HSN.out];exact Lib.hid rfl
     · rw [HSN.out];exact own8
     · have:=hbw4.alloc hbw4.size (.cells (exC e) 85)
       exact this.trans (hg8.below.mono (Nat.le_refl _))
    case measure=>simp [intOf];omega
  | succ k=>
    obtain ⟨pre,x,hpx⟩:∃ pre x,out=pre++[x]:=by
     rcases List.eq_nil_or_concat out with h | ⟨p,y,h⟩
     · have:=HT.out;rw [h] at this;simp at this
     · exact ⟨p,y,by rw [h,List.concat_eq_append]⟩
    have hpl:pre.length=k:=by have:=HT.out;rw [hpx,List.length_append] at this;simpa using this
    have hxk:out[k]?=some x:=by rw [hpx,List.getElem?_append_right (by omega),hpl];simp
    have hxm:mayE x:=(HJM.out x (List.mem_of_getElem? hxk)).1;have hjs:zhc out e=if zf6 x e=true then pre++[⟨x.lba,x.n+e.n,x.ver,x.zone,x.off⟩] else out++[e]:=by
     unfold zhc;rw [hpx,List.getLast?_append];simp only [List.getLast?_singleton,Option.some_or,List.dropLast_concat]
    have HPX:=Lib.hid hpx;have HPL:=Lib.hid hpl;have HXK:=Lib.hid hxk;have HJS:=Lib.hid hjs;clear hpx hpl hxk hjs;obtain ⟨g,cur,rfl,hgb,-,-⟩:=zch (E.get m0) (Nat.succ_pos k);obtain ⟨ad2,had⟩:∃ ad2:Addr,(⟨g,0,none⟩:Addr)=ad2:=⟨_,rfl⟩;have HAD:=Lib.hid had;rw [had] at E ⊢;clear had;have HK:Hid (∀ W,Below w1.heap.size w1 W→(∀ o,W.cell? ⟨wr.heap.size,o,none⟩=(exC e)[o]?)∧W.cell? (ad2.add (k*5))=some (.int .i64 x.lba)∧W.cell? ⟨(ad2.add (k*5)).block,(ad2.add (k*5)).off+1,none⟩=some (.int .i64 x.n)∧W.cell? ⟨(ad2.add (k*5)).block,(ad2.add (k*5)).off+2,none⟩=some (.int .i64 x.ver) ∧
     W.cell? ⟨(ad2.add (k*5)).block,(ad2.add (k*5)).off+3,none⟩=some (.int .i64 x.zone)∧W.cell? ⟨(ad2.add (k*5)).block,(ad2.add (k*5)).off+4,none⟩=some (.int .i64 x.off)):=Lib.hid fun W h=>by
     have hL:=zaA ((E.step h).get m0) HT.out (by omega)
     obtain ⟨a,ha,_,c0,c1,c2,c3,c4⟩:=zb9 hL HXK.out;injection ha with ha;subst ha;exact ⟨((E.step h).rules m0).1,c0,c1,c2,c3,c4⟩
    have i0':(0:Int)≤(k:Int):=by omega
    have i1':(k:Int)<(k:Int)+1:=by omega
    have hcg:=fun w=>zkb x e w hxm hem
    obtain ⟨r,hr⟩:∃ r,zf6 x e=r:=⟨_,rfl⟩;rw [hr] at hcg;have HCG:=Lib.hid hcg;have HR:=Lib.hid hr;clear hcg hr;refine wp_region_held_drew (S:=fun W=>(∀ o,W.cell? ⟨wr.heap.size,o,none⟩=(exC e)[o]?)∧W.cell? (ad2.add (k*5))=some (.int .i64 x.lba)∧W.cell? ⟨(ad2.add (k*5)).block,(ad2.add (k*5)).off+1,none⟩=some (.int .i64 x.n)∧W.cell? ⟨(ad2.add (k*5)).block,(ad2.add (k*5)).off+2,none⟩=some (.int .i64 x.ver) ∧
     W.cell? ⟨(ad2.add (k*5)).block,(ad2.add (k*5)).off+3,none⟩=some (.int .i64 x.zone)∧W.cell? ⟨(ad2.add (k*5)).block,(ad2.add (k*5)).off+4,none⟩=some (.int .i64 x.off)) (by kernel_rfl) (HK.out _ hb0) (fun hHeld=>?_)
    refine wT 0 19 ?_;refine wT 1 20 ?_;refine wT 2 21 ?_;refine wT 3 22 ?_;refine wT 4 23 ?_;refine wT 5 24 ?_;refine wT 6 25 ?_;refine wT 7 26 ?_;refine wR 8 27 (fun K hK=>?_)
    go_simp;refine (HCG.out _).mono ?_;rintro x w3 ⟨rfl,hb3⟩;replace hb3:=hb0.trans (hb3.mono hb0.size);go_wp2_with fail;refine hK.out _ _ (HK.out _ hb3) (fun hHeld=>?_)
    clear hK K;refine wT 9 28 ?_;refine wpAnyH_done (by kernel_rfl) ?_ _
    obtain ⟨q0,f0,t0⟩:=(E.step hb3).rules m0;have own4:=(E.step hb3).get m0;have hs4:=(E.step hb3).below.size;have hbw4:=hbw.trans (hb3.mono hbw.size);have hE3:=E.step hb3;clear HK hb0 hHeld hb3 E;cases r with
    | false=>
      go_wp2_with (at_builtin;refine za5 rfl _ _ _ rfl w.heap.size 85 i0 _ 5 40 Tryz.underlying36 hi hz0 hz1 hz2 rfl (by omega) rfl (own4.alloc _) rfl (za6.new (xs:=exCs e) (n:=1) rfl rfl rfl) (by intro u hu;exact zav [e] u (by simpa [exLs] using hu)) (by simp only [maxLen];omega) (by omega) (by simp;omega) ?_;intro A8 c8 w6 own8 hg8)
      go_roundw
      case rel=>
       refine ⟨j+1,k+1+1,A8,c8,rfl,by go_num,by omega,?_,?_,?_,⟨_,rfl⟩,_,rfl⟩
       · rw [HSN.out,HJS.out,HR.out,if_neg (by simp)];exact Lib.hid (by rw [List.length_append,HT.out];rfl)
       · rw [HSN.out,HJS.out,HR.out,if_neg (by simp),zbl];exact own8
       · have:=hbw4.alloc hbw4.size (.cells (exC e) 85)
         exact this.trans (hg8.below.mono (Nat.le_refl _))
      case measure=>simp [intOf];omega
    | true=>
      have hgl:g<wr.heap.size:=hrow g rfl;go_upto_region 9 with fail;generalize hw5:w3.drew=w5;have hb5:Below w3.heap.size w3 w5:=by rw [←hw5];exact (Below.refl _ _).drew
      have own5:=za4 own4 hb5 (Nat.le_refl _);replace hE3:=hE3.step hb5;have hadd:∀ i,ad2.add i=⟨g,i,none⟩:=fun i=>by rw [←HAD.out];unfold Addr.add;split <;> simp_all
      have c1:w5.cell? ⟨(ad2.add (k*5)).block,(ad2.add (k*5)).off+1,none⟩=some (.int .i64 x.n):=by
       obtain ⟨a,ha,_,_,h,_⟩:=zb9 (zaA own5 HT.out (by omega)) HXK.out
       injection ha with ha;subst ha;exact h
      obtain ⟨g',cur',hg',-,hgB,-⟩:=zch own5 (Nat.succ_pos k);have hgg:g'=g:=by
       injection hg' with hg';have:=HAD.out;rw [hg'] at this;injection this with this;exact this.symm
      subst hgg;have hfr:w5.frozen? ⟨g',k*5+1,none⟩=false:=hgB.frozen _;rw [hadd] at c1;replace c1:w5.cell? ⟨g',k*5+1,none⟩=some (.int .i64 x.n):=c1;injection hg' with hg';subst hg';have hwrap:IntKind.i64.wrap (x.n+e.n)=x.n+e.n:=IntWalk.i64_in _ (by have p1:=hxm.1;have p2:=hem.1;unfold za9 at p1 p2;omega)
      have HQ0:Hid (∀ o,w5.cell? ⟨wr.heap.size,o,none⟩=(exC e)[o]?):=Lib.hid (hE3.rules m0).1;clear hadd q0 f0 t0;refine wp_region_held_drew (S:=fun W=>(∀ o,W.cell? ⟨wr.heap.size,o,none⟩=(exC e)[o]?) ) (by kernel_rfl) (by rw [hw5];exact HQ0.out) (fun hHeld=>?_)
      rw [hw5] at hHeld ⊢;clear hw5;refine wT 0 29 ?_;refine wT 1 30 ?_;refine wT 2 31 ?_;refine wT 3 32 ?_;refine wT 5 34 ?_;refine wT 6 35 ?_;refine wR 4 33 (fun K hK=>?_)
      go_simp;refine hK.out _ _ HQ0.out (fun hHeld=>?_)
      clear hK K;refine wT 7 36 ?_;refine wT 8 37 ?_;refine wT 9 38 ?_;refine wRn 10 (fun K hK=>?_)
      go_simp;refine hK.out _ _ ?_ (fun hHeld=>?_)
      · intro o
        rw [World.cell?_setCell_other _ _ _ _ (fun h=>by have:=congrArg Addr.block h;simp only at this;omega)]
        exact HQ0.out o
      clear hK K;try simp only [pu,List.set]
      refine wpAnyH_done (by kernel_rfl) ?_ _
      go_wp2;go_roundw
      case rel=>
       refine ⟨j+1,k+1,some ⟨g',0,none⟩,co,rfl,by go_num,by omega,?_,?_,?_,⟨_,rfl⟩,_,rfl⟩
       · rw [HSN.out,HJS.out,HR.out,if_pos rfl];exact Lib.hid (by rw [List.length_append,HPL.out];rfl)
       · rw [HSN.out,HJS.out,HR.out,if_pos rfl,←zlF pre x (x.n+e.n) (i:=k*5+1) (by rw [HPL.out]),←HPX.out]
         exact zcq own5 _ _
       · exact (hbw4.trans (hb5.mono hbw4.size)).setCell hgb _
      case measure=>simp [intOf];omega
end Go.Proofs.YthblkdnijhphhaaGreat
