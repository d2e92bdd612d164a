/- A part of the proof. -/
import Derived.Test.YtcapmeefiglfjaaGreatMapP
import Derived.Test.YtcapmeefiglfjaaGreatSlS
set_option maxHeartbeats 1600000
set_option maxRecDepth 100000
namespace Go.Proofs.YtcapmeefiglfjaaGreat
open Go.RowKit
structure Zn where
 st:Int
 fe:Int
 d:List UInt8
def zv (z:Zn) (A:Option Addr) (c:Nat):Value:=.agg #[.int .i64 z.st,.int .i64 z.fe,.slice A z.d.length c]
def z0:Zn:=⟨0,0,[]⟩
def IsZ (w:World) (K:Nat→Prop) (v:Value) (z:Zn):Prop:=∃ A c,v=zv z A c∧IsB w K (.slice A z.d.length c) z.d
def yC (w:World) (base:Nat) (v:Value) (z:Zn):Prop:=∃ A c,v=zv z A c∧w.ownsRow base 5 1 (.slice A z.d.length c) z.d.length (aE z.d)
theorem IsZ.step {w w':World} {K:Nat→Prop} {v:Value} {z:Zn} (h:IsZ w K v z) (hb:Below w.heap.size w w'):IsZ w' K v z:=by
 obtain ⟨A,c,rfl,hr⟩:=h;exact ⟨A,c,rfl,hr.step hb⟩
theorem IsZ.alloc {w:World} {K:Nat→Prop} {v:Value} {z:Zn} (h:IsZ w K v z) (o:Obj):IsZ (w.alloc o) K v z:=by
 obtain ⟨A,c,rfl,hr⟩:=h;exact ⟨A,c,rfl,hr.alloc o⟩
theorem IsZ.drew {w:World} {K:Nat→Prop} {v:Value} {z:Zn} (h:IsZ w K v z):IsZ w.drew K v z:=h
theorem yC.zero (w:World) (base:Nat):yC w base (.agg #[.int .i64 0,.int .i64 0,.slice none 0 0]) z0:=⟨none,0,rfl,zin _ _ _ _⟩
def okZ (z:Zn) (most:Int):Prop:=
 1≤most∧most≤65536∧0≤z.fe∧((z.st=0∧z.d.length=0)∨((z.st=1∨z.st=3)∧0<z.d.length∧(z.d.length:Int)<most)∨(z.st=2∧(z.d.length:Int)<most)∨(z.st=4∧(z.d.length:Int)≤most))
instance (z:Zn) (most:Int):Decidable (okZ z most):=inferInstanceAs (Decidable (_∧_))
def zfk (z:Zn) (most:Int):Int:=if okZ z most then 0 else 1
def zfq (st most:Int):Int × Int:=
 if st=0 then (0,0) else if st=1∨st=3 then (1,most-1) else if st=2 then (0,most-1) else if st=4 then (0,most) else (0,-1)
theorem zgl (z:Zn) (most:Int):okZ z most↔(1≤most∧most≤65536∧0≤z.fe∧(zfq z.st most).1≤z.d.length∧(z.d.length:Int)≤(zfq z.st most).2):=by
 unfold okZ zfq;repeat' split
 all_goals (simp only;omega)
def dO (z:Zn) (most:Int) (b:List UInt8):Int:=
 if ¬okZ z most∨b.length=0 then 1 else if z.st=4 then 41 else if (z.d.length:Int)+b.length≤most then 0 else 40
def iB (z:Zn) (most:Int) (b:List UInt8):Zn:=
 ⟨if (z.d.length:Int)+b.length=most then 4 else if b.length=0 then z.st else if z.st=2 then 2 else 1,z.fe,z.d++b⟩
theorem jK {z:Zn} {most:Int} {b:List UInt8} (h:dO z most b=0):okZ z most∧0<b.length∧z.st≠4∧(z.d.length:Int)+b.length≤most:=by
 unfold dO at h;split at h
 · cases h
 · rename_i h1
   split at h
   · cases h
   · rename_i h2
     split at h
     · rename_i h3
       exact ⟨ziT.1 (fun hh=>h1 (.inl hh)),Nat.pos_of_ne_zero (fun hh=>h1 (.inr hh)),h2,h3⟩
     · cases h
def zdN (z:Zn) (most:Int) (b:List UInt8):Zn × Int × Int:=
 if dO z most b=0 then (iB z most b,z.d.length,0) else (z0,0,dO z most b)
def zT (z:Zn) (most:Int) (b:List UInt8) (keep:Int):Zn × Int:=
 if dO z most b≠0 then (z0,dO z most b) else if 0≤keep∧keep≤b.length then (iB z most (b.take keep.toNat),0) else (z0,1)
def yE (z:Zn) (most:Int):Zn × Int:=if ¬okZ z most then (z0,1) else if z.st=4 then (z0,41) else (⟨2,z.fe,z.d⟩,0)
def eX (z:Zn):Zn × Int:=if z.st=0∨z.st=4 then (z0,41) else (⟨if z.d.length=0 then 0 else 3,z.fe,z.d⟩,0)
def zdO (z:Zn):Zn:=⟨4,z.fe,z.d⟩
def sZ (z:Zn):Zn:=⟨0,z.fe,[]⟩
def yZ (z:Zn) (off n:Int):List UInt8 × Int:=
 if 0≤off∧0≤n∧off+n≤z.d.length then ((z.d.drop off.toNat).take n.toNat,0) else ([],1)
instance:Inhabited Zn:=⟨z0⟩
def yD (w:World) (K:Nat→Prop) (SA:Option Addr) (zs:List Zn):Prop:=
 0<zs.length→∃ ad,SA=some ad∧K ad.block∧∀ (i:Nat) z,zs[i]?=some z→∃ A c,w.cell? (ad.add (i*3))=some (.int .i64 z.st)∧w.cell? ⟨(ad.add (i*3)).block,(ad.add (i*3)).off+1,none⟩=some (.int .i64 z.fe) ∧
   w.cell? ⟨(ad.add (i*3)).block,(ad.add (i*3)).off+2,none⟩=some (.slice A z.d.length c)∧IsB w K (.slice A z.d.length c) z.d
theorem yD.step {w w':World} {K:Nat→Prop} {SA:Option Addr} {zs:List Zn} (h:yD w K SA zs) (hb:Below w.heap.size w w'):yD w' K SA zs:=by
 intro hn;obtain ⟨ad,h1,h2,h3⟩:=h hn;refine ⟨ad,h1,h2,fun i z hz=>?_⟩
 obtain ⟨A,c,c0,c1,c2,hB⟩:=h3 i z hz;exact ⟨A,c,(hb.cell (ziB w _ c0)).trans c0,(hb.cell (ziB w _ c1)).trans c1,(hb.cell (ziB w _ c2)).trans c2,hB.step hb⟩
theorem zcE (A:Option Addr) (n c:Nat) (l:List Int) (x:Int) (K:Nat→Prop) (w:World) (hn:l.length=n) (hn63:n≤9223372036854775807) (hr:aG w K 1 A n (l.map I64)) :
 Calls Tryz.prog 210 #[.slice A n c,.int .i64 x] w fun e w'=>(∃ r:Int,e=.returned (.int .i64 r)∧(0≤r↔x∈l))∧w=w':=by
 subst hn;go_enter Tryz.func210,Tryz.ntmps210
 go_wp2;go_loop [5,8] (fun _ i=>∃ j:Nat,j≤l.length∧i=.int .i64 j∧x∉l.take j) (fun _ i=>l.length-(intOf i).toNat)
 case atStart=>exact ⟨0,zir _,rfl,by simp⟩
 case round=>
  obtain ⟨j,hj,rfl,hx⟩:=hrel;have HX:=zia hx;clear hx;by_cases hlt:j<l.length
  · obtain ⟨ad,u,rfl,_,hu,hc⟩:=hr.at_ hlt
    simp only [zj1,zib hlt,Option.map_some,ziL] at hu;subst hu;unfold I64 at hc;have hmem:l[j]∈l:=ziD hlt;have htk:l.take (j+1)=l.take j++[l[j]]:=ziy hlt;generalize hy:l[j]=y at hc hmem htk;have HM:=zia hmem;clear hmem;have HT:=zia htk;clear htk;have HY:=zia hy;clear hy;by_cases hxy:x=y
    · have hb:(x == y)=true:=zkb.2 hxy
      have HXY:=zia hxy;clear hxy;go_wp2;go_ret;exact ⟨⟨j,rfl,⟨fun _=>by rw [HXY.out];exact HM.out,fun _=>by omega⟩⟩,rfl⟩
    · have hb:(x == y)=false:=ziN.2 hxy
      have HXY:=zia hxy;clear hxy;go_wp2;go_round
      case rel=>exact ⟨j+1,by omega,by go_num,by rw [HT.out,ziA,ziw];rintro (h | h);exact HX.out h;exact HXY.out h⟩
      case measure=>simp [intOf];omega
  · go_wp2
    go_ret;refine ⟨⟨-1,rfl,⟨fun h=>absurd h (by omega),fun h=>absurd ?_ HX.out⟩⟩,rfl⟩
    rw [zip (by omega)]
    exact h
theorem fE (A:Option Addr) (n c:Nat) (l:List Int) (x:Int) (K:Nat→Prop) (w:World) (hn:l.length=n) (hn63:n≤9223372036854775807) (hr:aG w K 1 A n (l.map I64)) :
 Calls Tryz.prog 167 #[.slice A n c,.int .i64 x] w fun e w'=>e=.returned (.bool (decide (x∈l)))∧w=w':=by
 go_enter Tryz.func167,Tryz.ntmps167
 go_wp2_with fail;refine (zcE A n c l x K w hn hn63 hr).mono ?_;rintro e w' ⟨⟨r,rfl,hr0⟩,rfl⟩;have hd:decide (0≤r)=decide (x∈l):=zkA.2 hr0;have HD:=zia hd;clear hd hr0;go_wp2;go_ret;exact ⟨zjj (fun b=>Ending.returned (.bool b)) HD.out,rfl⟩
def cntZ (states:List Int) (zs:List Zn):Nat:=(zs.filter fun z=>decide (z.st∈states)).length
theorem zfc (states:List Int) (zs:List Zn) {j:Nat} (h:j<zs.length):cntZ states (zs.take (j+1))=cntZ states (zs.take j)+if zs[j].st∈states then 1 else 0:=by
 unfold cntZ;rw [ziy h,zj8,zie];congr 1
 by_cases hm:zs[j].st∈states <;> simp [hm]
theorem zhm (states:List Int) (zs:List Zn) (j:Nat):cntZ states (zs.take j)≤j:=by
 unfold cntZ;have h1:=zj3 (fun z:Zn=>decide (z.st∈states)) (zs.take j)
 have h2:=List.length_take_le j zs;omega
theorem vT (SA SB:Option Addr) (c k cb:Nat) (zs:List Zn) (states:List Int) (K K':Nat→Prop) (w:World) (hz:yD w K SA zs) (hk:states.length=k) (hk63:k≤9223372036854775807) (hs:aG w K' 1 SB k (states.map I64)) (hn:zs.length≤9223372036854775807) :
 Calls Tryz.prog 162 #[.slice SA zs.length c,.slice SB k cb] w fun e w'=>e=.returned (.int .i64 (cntZ states zs))∧Below w.heap.size w w':=by
 go_enter Tryz.func162,Tryz.ntmps162
 go_wp2;go_loopw [5,10] (fun n i wr=>∃ j:Nat,j≤zs.length∧i=.int .i64 j∧n=.int .i64 (cntZ states (zs.take j))∧Below w.heap.size w wr) (fun _ i _=>zs.length-(intOf i).toNat)
 case atStart=>exact ⟨0,zir _,rfl,rfl,zif _ _⟩
 case round=>
  obtain ⟨j,hj,rfl,rfl,hb⟩:=hrel;have hle:=zhm states zs j;by_cases hlt:j<zs.length
  · obtain ⟨ad,rfl,_,hel⟩:=(hz.step hb) (by omega)
    obtain ⟨A,ca,c0,c1,c2,hB⟩:=hel j zs[j] (zib hlt);have hsn:=zfc states zs hlt;generalize hzz:zs[j]=z at c0 c1 c2 hB hsn;have HSN:=zia hsn;clear hsn;have HZ:=zia hzz;clear hzz;generalize hcc:cntZ states (zs.take j)=C at hle HSN ⊢;clear hcc;by_cases hm:z.st∈states
    · have hd:Hid (decide (z.st∈states)=true):=zia (ziu hm)
      have HE:Hid (cntZ states (zs.take (j+1))=C+1):=zia (by rw [HSN.out,zij hm])
      clear hm;go_wp2_with (go_at_call 167;refine (fE SB k cb states z.st K' _ hk hk63 ((hs.step hb).alloc _)).mono ?_;rw [hd.out];rintro e w1 ⟨rfl,rfl⟩);go_roundw
      case rel=>exact ⟨j+1,by omega,by go_num,by rw [HE.out];go_num,hb.alloc hb.size _⟩
      case measure=>simp [intOf];omega
    · have hd:Hid (decide (z.st∈states)=false):=zia (ziv hm)
      have HE:Hid (cntZ states (zs.take (j+1))=C):=zia (by rw [HSN.out,zig hm];rfl)
      clear hm;go_wp2_with (go_at_call 167;refine (fE SB k cb states z.st K' _ hk hk63 ((hs.step hb).alloc _)).mono ?_;rw [hd.out];rintro e w1 ⟨rfl,rfl⟩);go_roundw
      case rel=>exact ⟨j+1,by omega,by go_num,by rw [HE.out],hb.alloc hb.size _⟩
      case measure=>simp [intOf];omega
  · obtain rfl:j=zs.length:=by omega
    rw [ziQ];go_wp2;go_ret;exact ⟨rfl,hb⟩
def lM:List Int:=[1,2]
def cP:List Int:=[1,2,3]
theorem gD (SA:Option Addr) (c:Nat) (zs:List Zn) (K:Nat→Prop) (w:World) (hz:yD w K SA zs) (hn:zs.length≤9223372036854775807) :
 Calls Tryz.prog 96 #[.slice SA zs.length c] w fun e w'=>e=.returned (.int .i64 (cntZ lM zs))∧Below w.heap.size w w':=by
 go_enter Tryz.func96,Tryz.ntmps96
 go_wp2_with fail;refine (vT SA _ c 2 2 zs lM K (fun _=>True) _ (hz.step (zBA)) rfl (by omega) ((aG.new rfl rfl rfl).more (fun _ _=>trivial)) hn).mono ?_
 rintro e w1 ⟨rfl,hb⟩;go_wp2;go_ret;exact ⟨rfl,(zBA).trans (hb.mono (by simp))⟩
theorem jI (SA:Option Addr) (c:Nat) (zs:List Zn) (K:Nat→Prop) (w:World) (hz:yD w K SA zs) (hn:zs.length≤9223372036854775807) :
 Calls Tryz.prog 97 #[.slice SA zs.length c] w fun e w'=>e=.returned (.int .i64 (cntZ cP zs))∧Below w.heap.size w w':=by
 go_enter Tryz.func97,Tryz.ntmps97
 go_wp2_with fail;refine (vT SA _ c 3 3 zs cP K (fun _=>True) _ (hz.step (zBA)) rfl (by omega) ((aG.new rfl rfl rfl).more (fun _ _=>trivial)) hn).mono ?_
 rintro e w1 ⟨rfl,hb⟩;go_wp2;go_ret;exact ⟨rfl,(zBA).trans (hb.mono (by simp))⟩
end Go.Proofs.YtcapmeefiglfjaaGreat
namespace Go.Proofs.YtcapmeefiglfjaaGreat
open Go.RowKit Go.WideShapes Go.ChangeShapes Go.Deep
def Rp.zone:Rp Zn:=⟨3,fun w K cs o=>∃ v_d,cs=[.int .i64 o.st,.int .i64 o.fe,v_d]∧IsB w K v_d o.d,
 by rintro _ _ _ _ ⟨v_d,rfl,h_d⟩;rfl,
 by rintro _ _ _ _ _ ⟨v_d,e,h_d⟩ hk;exact ⟨v_d,e,h_d.keep hk⟩,
 by rintro _ _ _ _ _ ⟨v_d,e,h_d⟩ hk;exact ⟨v_d,e,h_d.more hk⟩,
 by
  rintro _ _ _ _ ⟨v_d,rfl,h_d⟩ u hu;have o_d:=IsB.one h_d;simp only [zim,ziJ,zju] at hu;rcases hu with rfl | rfl | rfl <;> first | rfl | assumption⟩
structure Zd where
 cap:Int
 opn:Int
 act:Int
 z:List Zn
structure Cm where
 op:Int
 zone:Int
 epoch:Int
 off:Int
 n:Int
 data:List UInt8
def iS (z:Zn) (A:Option Addr) (c:Nat):List Value:=[.int .i64 z.st,.int .i64 z.fe,.slice A z.d.length c]
theorem zaj {w:World} {K:Nat→Prop} {cs:List Value} {z:Zn} (h:Rp.zone.is w K cs z):∃ A c,cs=iS z A c∧IsB w K (.slice A z.d.length c) z.d:=by
 obtain ⟨v,rfl,h1⟩:=h;have h0:=h1;obtain ⟨A,c,rfl,_⟩:=h1;exact ⟨A,c,rfl,h0⟩
theorem zah {w:World} {K:Nat→Prop} {A:Option Addr} {c:Nat} {z:Zn} (h:IsB w K (.slice A z.d.length c) z.d):Rp.zone.is w K (iS z A c) z:=⟨_,rfl,h⟩
abbrev rC (W:World) (a:Addr) (z:Zn) (A:Option Addr) (c:Nat):Prop:=
 W.cell? a=some (.int .i64 z.st)∧W.cell? ⟨a.block,a.off+1,none⟩=some (.int .i64 z.fe)∧W.cell? ⟨a.block,a.off+2,none⟩=some (.slice A z.d.length c)
theorem rC.step {w W:World} {a:Addr} {z:Zn} {A:Option Addr} {c:Nat} (h:rC w a z A c) (hb:Below w.heap.size w W):rC W a z A c:=by
 obtain ⟨h0,h1,h2⟩:=h;exact ⟨(hb.cell (ziB w _ h0)).trans h0,(hb.cell (ziB w _ h1)).trans h1,(hb.cell (ziB w _ h2)).trans h2⟩
theorem IsL.zone_at {w:World} {K:Nat→Prop} {A:Option Addr} {n c:Nat} {l:List Zn} (h:IsL Rp.zone w K (.slice A n c) l) {j:Nat} {z:Zn} (hz:l[j]?=some z) :
 ∃ ad B d,A=some ad∧ad.block<w.heap.size∧K ad.block∧IsB w K (.slice B z.d.length d) z.d∧rC w (ad.add (j*3)) z B d:=by
 obtain ⟨ad,es,rfl,hK,hes,hcell⟩:=h.at_ hz;obtain ⟨B,d,rfl,hB⟩:=zaj hes;unfold iS at hcell;have h0:w.cell? (ad.add (j*3))=some (.int .i64 z.st):=by rw [←cW (ad.add (j*3))];exact hcell 0 _ rfl
 have hlt:=ziB w _ h0;rw [bR] at hlt;refine ⟨ad,B,d,rfl,hlt,hK,hB,h0,?_,?_⟩
 · rw [←bT _ 1 (by decide)];exact hcell 1 _ rfl
 · rw [←bT _ 2 (by decide)];exact hcell 2 _ rfl
theorem yD.of {w:World} {K:Nat→Prop} {A:Option Addr} {n c:Nat} {l:List Zn} (h:IsL Rp.zone w K (.slice A n c) l):yD w K A l:=by
 intro hn;obtain ⟨ad,B,d,rfl,_,hK,_⟩:=h.zone_at (zib hn);refine ⟨ad,rfl,hK,fun i z hz=>?_⟩
 obtain ⟨ad',B,d,e,_,_,hB,h0,h1,h2⟩:=h.zone_at hz;injection e with e;subst e;exact ⟨B,d,h0,h1,h2,hB⟩
theorem aI.set {α:Type} {R:Rp α} {w:World} {K:Nat→Prop} {cs es:List Value} {l:List α} {a:α} {i:Nat} (h:aI R w K cs l) (ha:R.is w K es a) (hi:i<l.length):aI R w K (cs.take (i*R.size)++es++cs.drop ((i+1)*R.size)) (l.set i a):=by
 rw [List.set_eq_take_append_cons_drop,zij hi];have:=((h.take i).snoc ha).append (h.drop (i+1));simpa using this
theorem zM (l:List Value) (o:Nat) (x0 x1 x2:Value) (h:o+3≤l.length):((l.set o x0).set (o+1) x1).set (o+2) x2=l.take o++[x0,x1,x2]++l.drop (o+3):=by
 have e:l=l.take o++l.drop o:=(ziP o l).symm;have hd:l.drop o=[l[o],l[o+1],l[o+2]]++l.drop (o+3):=by
  rw [zjk (by omega),zjk (by omega),zjk (by omega)]
  rfl
 have hl:(l.take o).length=o:=by rw [zio];omega
 generalize l.take o=a at e hl ⊢;generalize l.drop (o+3)=b at hd ⊢;rw [hd] at e;generalize l[o]=y0 at e;generalize l[o+1]=y1 at e;generalize l[o+2]=y2 at e;clear hd h;subst e hl;simp
abbrev zht (W:World) (g o:Nat):Prop:=W.frozen? ⟨g,o,none⟩=false∧W.frozen? ⟨g,o+1,none⟩=false∧W.frozen? ⟨g,o+2,none⟩=false
abbrev zgF (W:World) (g o:Nat) (z:Zn) (A:Option Addr) (c:Nat):Prop:=
 W.cell? ⟨g,o,none⟩=some (.int .i64 z.st)∧W.cell? ⟨g,o+1,none⟩=some (.int .i64 z.fe)∧W.cell? ⟨g,o+2,none⟩=some (.slice A z.d.length c)
def fU (w:World) (g:Nat) (t:TypeId) (K:Nat→Prop) (l:List Zn):Prop:=∃ cs sp,Blk w g t (cs++sp).toArray∧aI Rp.zone w K cs l
theorem fU.of {w:World} {base:Nat} {t:TypeId} {K:Nat→Prop} {g n c:Nat} {cs:List Value} {l:List Zn} (h:w.ownsRow base t 3 (.slice (some ⟨g,0,none⟩) n c) n cs) (hcl:aI Rp.zone w K cs l):fU w g t K l:=by
 rcases h.2 with ⟨h2,_⟩ | ⟨g',cap,cur,hv,hg,hh,h3,h4,h5,h6⟩
 · cases h2
 · injection hv with e1 e2 e3
   injection e1 with e1;injection e1 with e1;subst e1 e3;refine ⟨cs,cur.toList.drop (n*3),?_,hcl⟩;unfold Blk;rw [hh,←h6,ziP]
section
variable {w w':World} {g:Nat} {t:TypeId} {K K':Nat→Prop} {l:List Zn} {z:Zn} {S:Nat→Prop}
theorem fU.lt (h:fU w g t K l):g<w.heap.size:=by obtain ⟨cs,sp,h1,_⟩:=h;exact h1.lt
theorem fU.step (h:fU w g t K l) (hb:Below w.heap.size w w'):fU w' g t K l:=by
 obtain ⟨cs,sp,h1,h2⟩:=h;exact ⟨cs,sp,h1.step hb,h2.step hb⟩
theorem fU.more (h:fU w g t K l) (hK:∀ b,K b→K' b):fU w g t K' l:=by obtain ⟨cs,sp,h1,h2⟩:=h;exact ⟨cs,sp,h1,h2.more hK⟩
theorem fU.turned (h:fU w g t K l) (ht:aA w w' S) (hg:¬S g) (hK:∀ b,K b→¬S b):fU w' g t K l:=by
 obtain ⟨cs,sp,h1,h2⟩:=h;exact ⟨cs,sp,h1.turned ht hg,h2.turned ht hK⟩
theorem fU.far (h:fU w g t K l) {g':Nat} (hg:g≠g') (hK:¬K g') (i:Nat) (u:Value):fU (w.setCell ⟨g',i,none⟩ u) g t K l:=
 h.turned (S:=fun b=>b=g') (aA.set (S:=fun b=>b=g') (g:=g') (aA.refl w _) rfl i u) hg (fun b hb e=>hK (by rw [←e];exact hb))
theorem zhD (g o:Nat):((⟨g,0,none⟩:Addr).add o)=⟨g,o,none⟩:=by unfold Addr.add;split <;> simp_all
theorem fU.at_ (h:fU w g t K l) {j:Nat} (hz:l[j]?=some z):∃ A c,IsB w K (.slice A z.d.length c) z.d∧zgF w g (j*3) z A c∧zht w g (j*3):=by
 obtain ⟨cs,sp,h1,h2⟩:=h;obtain ⟨es,hes,hcell⟩:=h2.at_ hz;obtain ⟨A,c,rfl,hB⟩:=zaj hes;have hc:∀ (k:Nat) u,(iS z A c)[k]?=some u→w.cell? ⟨g,j*3+k,none⟩=some u:=fun k u hu=>by
  rw [h1.cell];have:=hcell k u hu;have e:Rp.zone.size=3:=rfl;rw [e] at this;simp only [zjD];rw [zjx (zil.1 this).1];exact this
 unfold iS at hc;exact ⟨A,c,hB,⟨hc 0 _ rfl,hc 1 _ rfl,hc 2 _ rfl⟩,h1.frozen _,h1.frozen _,h1.frozen _⟩
abbrev zhJ (w:World) (g o:Nat) (z:Zn) (A:Option Addr) (c:Nat):World:=((w.setCell ⟨g,o,none⟩ (.int .i64 z.st)).setCell ⟨g,o+1,none⟩ (.int .i64 z.fe)).setCell ⟨g,o+2,none⟩ (.slice A z.d.length c)
theorem lI {w0:World} (h:aA w0 w S) (hg:S g) (o:Nat) (z:Zn) (A:Option Addr) (c:Nat):aA w0 (zhJ w g o z A c) S:=((h.set hg _ _).set hg _ _).set hg _ _
theorem fU.put (h:fU w g t K l) {i:Nat} (hi:i<l.length) {A:Option Addr} {c:Nat} (hB:IsB w K (.slice A z.d.length c) z.d) (hK:∀ b,K b→b≠g):fU (zhJ w g (i*3) z A c) g t K (l.set i z):=by
 have ht:=lI (S:=fun b=>b=g) (aA.refl w _) rfl (i*3) z A c
 obtain ⟨cs,sp,h1,h2⟩:=h;have hlen:cs.length=l.length*3:=h2.len;have hs:=(h2.set (zah hB) hi).turned ht hK;refine ⟨_,sp,?_,hs⟩;have hb:=(((h1.set_ (i*3) (.int .i64 z.st)).set_ (i*3+1) (.int .i64 z.fe)).set_ (i*3+2) (.slice A z.d.length c));have hfit:i*3+3≤(cs++sp).length:=by rw [zie];omega
 have e:=zM (cs++sp) (i*3) (.int .i64 z.st) (.int .i64 z.fe) (.slice A z.d.length c) hfit;simp only [ziY] at hb;rw [e] at hb;rw [ziW (by omega),zjw (by omega)] at hb
 have e2:(i+1)*Rp.zone.size=i*3+3:=by show (i+1)*3=_;omega
 rw [e2];have e3:Rp.zone.size=3:=rfl;rw [e3];simpa [iS] using hb
theorem fU.isL (h:fU w g t K l) {c:Nat} (hkc:l.length≤c) (hc:c≤9223372036854775807) (hl:l.length≤140737488355328):IsL Rp.zone w (fun b=>b=g∨K b) (.slice (some ⟨g,0,none⟩) l.length c) l:=by
 obtain ⟨cs,sp,h1,h2⟩:=h;have hlen:cs.length=l.length*3:=h2.len;refine ⟨_,c,cs,rfl,⟨hlen,fun _=>⟨_,rfl,.inl rfl,fun j u hu=>?_⟩⟩,h2.more fun b hb=>.inr hb,hkc,hc,hl⟩
 rw [zhD,h1.cell];simp only [zjD];rw [zjx (zil.1 hu).1];exact hu
end
end Go.Proofs.YtcapmeefiglfjaaGreat
namespace Go.Proofs.YtcapmeefiglfjaaGreat
open Go.RowKit
structure Dn where
 e:Int
 at_:Int
 data:List UInt8
def dn0:Dn:=⟨0,0,[]⟩
def okD (d:Zd):Prop:=
 (1≤d.z.length∧d.z.length≤64∧1≤d.cap∧d.cap≤65536∧1≤d.opn∧d.opn≤d.act∧d.act≤d.z.length)∧(cntZ lM d.z:Int)≤d.opn∧(cntZ cP d.z:Int)≤d.act∧∀ z∈d.z,okZ z d.cap
instance (d:Zd):Decidable (okD d):=inferInstanceAs (Decidable (_∧_))
def oH (d:Zd):Int:=if okD d then 0 else 1
def impl? (zs:List Zn):Nat:=zs.findIdx (fun z=>z.st == 1)
def roomK (d:Zd) (i:Nat):Int × List Zn:=
 if (d.z.getD i z0).st∈lM then (0,d.z)
 else if ¬(d.z.getD i z0).st∈cP∧d.act≤(cntZ cP d.z:Int) then (44,d.z)
 else if (cntZ lM d.z:Int)<d.opn then (0,d.z)
 else if impl? d.z<d.z.length then (0,d.z.set (impl? d.z) (eX (d.z.getD (impl? d.z) z0)).1) else (43,d.z)
def cU (d:Zd) (i:Nat) (c:Cm):Int × List Zn × Dn:=
 let r:=zdN (d.z.getD i z0) d.cap c.data
 if r.2.2≠0 then (r.2.2,d.z,dn0)
 else if (roomK d i).1≠0 then ((roomK d i).1,(roomK d i).2,dn0) else (0,(roomK d i).2.set i r.1,⟨0,r.2.1,[]⟩)
def zdQ (d:Zd) (i:Nat) (c:Cm):Int × List Zn × Dn:=
 let r:=cU d i c
 if r.1≠0 then (r.1,r.2.1,dn0)
 else let t:=zT (d.z.getD i z0) d.cap c.data c.n
  if t.2=0 then (0,r.2.1.set i t.1,dn0) else (t.2,r.2.1,dn0)
def zeK (d:Zd) (i:Nat):Int × List Zn × Dn:=
 let r:=yE (d.z.getD i z0) d.cap
 if r.2≠0 then (r.2,d.z,dn0)
 else if (roomK d i).1≠0 then ((roomK d i).1,(roomK d i).2,dn0) else (0,(roomK d i).2.set i r.1,dn0)
def zal (d:Zd) (i:Nat):Int × List Zn × Dn:=
 let r:=eX (d.z.getD i z0)
 if r.2=0 then (0,d.z.set i r.1,dn0) else (r.2,d.z,dn0)
def zdX (d:Zd) (i:Nat) (c:Cm):Int × List Zn × Dn:=
 let r:=yZ (d.z.getD i z0) c.off c.n
 (r.2,d.z,⟨0,0,r.1⟩)
def pI (d:Zd) (i:Nat) (c:Cm):Int × List Zn × Dn:=
 if c.epoch≤(d.z.getD i z0).fe then (42,d.z,dn0) else (0,d.z.set i ⟨(d.z.getD i z0).st,c.epoch,(d.z.getD i z0).d⟩,dn0)
def doK (d:Zd) (i:Nat) (c:Cm):Int × List Zn × Dn:=
 if c.op=1 then cU d i c else if c.op=2 then zdX d i c else if c.op=3 then (0,d.z.set i (sZ (d.z.getD i z0)),dn0) else if c.op=4 then (0,d.z.set i (zdO (d.z.getD i z0)),dn0)
 else if c.op=5 then zeK d i else if c.op=6 then zal d i else if c.op=7 then pI d i c else zdQ d i c
def doZ (d:Zd) (c:Cm):Zd × Dn:=
 if ¬(1≤c.op∧c.op≤8)∨¬okD d∨¬(0≤c.zone∧c.zone<d.z.length) then (d,⟨1,0,[]⟩)
 else if c.op≠7∧c.epoch≠(d.z.getD c.zone.toNat z0).fe then (d,⟨42,0,[]⟩)
 else
  let r:=doK d c.zone.toNat c
  if r.1≠0 then (d,⟨r.1,0,[]⟩) else if c.op=8∧c.n=0 then (d,dn0) else (⟨d.cap,d.opn,d.act,r.2.1⟩,r.2.2)
theorem Tryz.infZ:(Tryz.prog.info? 134).map (fun i=>(i.zero,i.size,i.bytes))=some (some (.agg #[.int .i64 0,.int .i64 0,.slice none 0 0]),3,40):=by kernel_rfl
theorem zbo (A:Option Addr) (n c:Nat) (K:Nat→Prop) (xs:List Value) (w:World) (hr:aG w K 3 A n xs) (h1:∀ u∈xs,u.oneCell'=true) (hn:n*40≤140737488355328) :
 Calls Tryz.prog 107 #[.slice A n c] w fun e w'=>∃ A' c',e=.returned (.slice A' n c')∧w'.ownsRow w.heap.size 134 3 (.slice A' n c') n xs∧Below w.heap.size w w':=by
 obtain ⟨i0,hi,hz0,hz1,hz2⟩:=ziH Tryz.infZ;rcases A with _ | ad
 · have hn0:n=0:=by
    rcases ziV n with h | h
    · exact h
    · obtain ⟨_,h2,_⟩:=hr.2 h;cases h2
   subst hn0;have hx:xs=[]:=zis (by simpa using hr.1)
   subst hx;have heq:=fun w=>zj6 (P:=Tryz.prog) w 24 134 none 0 c 0 0 Tryz.underlying24
   go_enter Tryz.func107,Tryz.ntmps107
   go_wp2;go_ret;exact ⟨none,0,rfl,zin _ _ _ _,zif _ _⟩
 · have heq:=fun w=>zj6 (P:=Tryz.prog) w 24 134 (some ad) n c 0 0 Tryz.underlying24
   have hr':=hr.alloc (.cells #[] 134);go_enter Tryz.func107,Tryz.ntmps107
   go_wp2_with (at_builtin;refine aF rfl _ _ _ rfl w.heap.size 134 i0 _ 3 40 Tryz.underlying24 hi hz0 hz1 hz2 rfl (by omega) rfl (fV _ _ _ _) rfl hr' h1 (by simp only [maxLen];omega) (by omega) (by simp) ?_;intro A' c' w1 hown1 hg1)
   go_ret;simp only [zj5,List.nil_append] at hown1 ⊢;exact ⟨A',c',rfl,hown1,(zBA).trans hg1.below⟩
end Go.Proofs.YtcapmeefiglfjaaGreat
namespace Go.Proofs.YtcapmeefiglfjaaGreat
def stepC (r:Nat):Nat:=(r / 2) ^^^ (if r % 2=1 then 2197175160 else 0)
def zbF (i:Nat):Nat:=stepC (stepC (stepC (stepC (stepC (stepC (stepC (stepC i)))))))
def goC (r:Nat) (x:UInt8):Nat:=(r / 256) ^^^ zbF ((r % 256) ^^^ x.toNat)
def rR (b:List UInt8):Nat:=4294967295 ^^^ b.foldl goC 4294967295
theorem eI {r:Nat} (h:r<4294967296):stepC r<4294967296:=by
 unfold stepC;have:(4294967296:Nat)=2 ^ 32:=rfl;rw [this] at h ⊢;refine Nat.xor_lt_two_pow (by omega) ?_
 split <;> omega
theorem zcX {r:Nat} (h:r<4294967296):zbF r<4294967296:=by
 unfold zbF;exact eI (eI (eI (eI (eI (eI (eI (eI h)))))))
theorem zfu (r:Nat) (x:UInt8):(r % 256) ^^^ x.toNat<256:=by
 have:(256:Nat)=2 ^ 8:=rfl;have hx:=x.toNat_lt;rw [this];exact Nat.xor_lt_two_pow (by omega) (by omega)
theorem zhy {r:Nat} (x:UInt8) (h:r<4294967296):goC r x<4294967296:=by
 have h1:=zfu r x;have h2:zbF ((r % 256) ^^^ x.toNat)<4294967296:=zcX (by omega)
 have:(4294967296:Nat)=2 ^ 32:=rfl;unfold goC;rw [this] at h2 ⊢;exact Nat.xor_lt_two_pow (by omega) h2
theorem sM (b:List UInt8):∀ r,r<4294967296→b.foldl goC r<4294967296:=by
 induction b with
 | nil=>intro r h;exact h
 | cons x b ih=>intro r h;exact ih _ (zhy x h)
theorem zgU (b:List UInt8):rR b<4294967296:=by
 have h:=sM b 4294967295 (by omega)
 have:(4294967296:Nat)=2 ^ 32:=rfl;unfold rR;rw [this] at h ⊢;exact Nat.xor_lt_two_pow (by omega) h
end Go.Proofs.YtcapmeefiglfjaaGreat
namespace Go.Proofs.YtcapmeefiglfjaaGreat
open Go.RowKit
structure lG (w:World) (g:Nat) (n s:Int) (t:Nat→Nat) (u:Int):Prop where
 lt:g<w.heap.size
 free:∀ o,w.frozen? ⟨g,o,none⟩=false
 done:w.cell? ⟨g,0,none⟩=some (.int .u32 n)
 lock:w.cell? ⟨g,1,none⟩=some (.int .i32 s)
 tab:∀ i,i<256→w.cell? ⟨g,3+i,none⟩=some (.int .u32 (t i))
 used:w.cell? ⟨g,259,none⟩=some (.int .i64 u)
section
variable {w w':World} {g:Nat} {n s:Int} {t:Nat→Nat} {u:Int}
theorem bV (w:World) (g i o:Nat) (x:Value) {y:Value} (hy:w.cell? ⟨g,o,none⟩=some y):(w.setCell ⟨g,i,none⟩ x).cell? ⟨g,o,none⟩=some (if o=i then x else y):=by
 by_cases h:o=i
 · subst h;rw [zij rfl];exact World.cell?_setCell_same w _ _ hy
 · rw [zig h];exact (zjH _ ⟨g,i,none⟩ ⟨g,o,none⟩ _ (by simp;try omega)).trans hy
theorem lG.drew (h:lG w g n s t u):lG w.drew g n s t u:=⟨h.lt,h.free,h.done,h.lock,h.tab,h.used⟩
theorem lG.setT (h:lG w g n s t u) {i:Nat} (hi:i<256) (x:Nat):lG (w.setCell ⟨g,3+i,none⟩ (.int .u32 x)) g n s (fun k=>if k=i then x else t k) u:=
 ⟨by simpa using h.lt,fun o=>by simpa using h.free o,by simpa [show ¬(0=3+i) by omega] using bV w g (3+i) 0 (.int .u32 x) h.done,by simpa [show ¬(1=3+i) by omega] using bV w g (3+i) 1 (.int .u32 x) h.lock,
  fun k hk=>by
   have:=bV w g (3+i) (3+k) (.int .u32 x) (h.tab k hk);by_cases hki:k=i
   · subst hki;simpa using this
   · rw [zig (by omega)] at this;rw [this];simp [hki],
  by simpa [show ¬(259=3+i) by omega] using bV w g (3+i) 259 (.int .u32 x) h.used⟩
theorem lG.setN (h:lG w g n s t u) (x:Int):lG (w.setCell ⟨g,0,none⟩ (.int .u32 x)) g x s t u:=
 ⟨by simpa using h.lt,fun o=>by simpa using h.free o,by simpa using bV w g 0 0 (.int .u32 x) h.done,by simpa using bV w g 0 1 (.int .u32 x) h.lock,
  fun k hk=>by simpa [show ¬(3+k=0) by omega] using bV w g 0 (3+k) (.int .u32 x) (h.tab k hk),by simpa using bV w g 0 259 (.int .u32 x) h.used⟩
theorem lG.setS (h:lG w g n s t u) (x:Int):lG (w.setCell ⟨g,1,none⟩ (.int .i32 x)) g n x t u:=
 ⟨by simpa using h.lt,fun o=>by simpa using h.free o,by simpa using bV w g 1 0 (.int .i32 x) h.done,by simpa using bV w g 1 1 (.int .i32 x) h.lock,
  fun k hk=>by simpa [show ¬(3+k=1) by omega] using bV w g 1 (3+k) (.int .i32 x) (h.tab k hk),by simpa using bV w g 1 259 (.int .i32 x) h.used⟩
theorem lG.setU (h:lG w g n s t u) (x:Int):lG (w.setCell ⟨g,259,none⟩ (.int .i64 x)) g n s t x:=
 ⟨by simpa using h.lt,fun o=>by simpa using h.free o,by simpa using bV w g 259 0 (.int .i64 x) h.done,by simpa using bV w g 259 1 (.int .i64 x) h.lock,
  fun k hk=>by simpa [show ¬(3+k=259) by omega] using bV w g 259 (3+k) (.int .i64 x) (h.tab k hk),by simpa using bV w g 259 259 (.int .i64 x) h.used⟩
end
def stepsC:Nat→Nat→Nat
 | 0,r=>r
 | k+1,r=>stepC (stepsC k r)
theorem ze1 (r:Nat):stepsC 8 r=zbF r:=rfl
theorem vA {r:Nat} (h:r<4294967296):∀ k,stepsC k r<4294967296
 | 0=>h
 | k+1=>eI (vA h k)
theorem zaZ (r:Nat) (h:r<4294967296):bits BinOp.xor IntKind.u32 ((r:Int) / 2) (bits BinOp.and IntKind.u32 2197175160 (-bits BinOp.and IntKind.u32 (r:Int) 1 % 4294967296))=((stepC r:Nat):Int):=by
 have h1:bits BinOp.and IntKind.u32 (r:Int) 1=((r % 2:Nat):Int):=by rw [show (1:Int)=((1:Nat):Int) from rfl,u32_and_nat _ _ h (by omega),Nat.and_one_is_mod]
 have h2:(-((r % 2:Nat):Int)) % 4294967296=((if r % 2=1 then 4294967295 else 0:Nat):Int):=by split <;> omega
 have h3:2197175160 &&& (if r % 2=1 then 4294967295 else 0:Nat)=(if r % 2=1 then 2197175160 else 0:Nat):=by split <;> decide
 rw [h1,h2,show (2197175160:Int)=((2197175160:Nat):Int) from rfl,u32_and_nat _ _ (by omega) (by split <;> omega),h3,show (r:Int) / 2=((r / 2:Nat):Int) by omega,u32_xor_nat _ _ (by omega) (by split <;> omega)]
 rfl
theorem zdW (g:Nat) (n s:Int) (t:Nat→Nat) (u:Int) (w:World) (hT:lG w g n s t u) :
 Calls Tryz.prog 234 #[.pointer (some ⟨g,0,none⟩)] w fun e w'=>e=.returned (.tuple #[])∧lG w' g n s zbF u∧aA w w' (· = g):=by
 go_enter Tryz.func234,Tryz.ntmps234
 go_wp2;go_loopw [4] (fun i wr=>∃ (j:Nat) (t:Nat→Nat),i=.int .i64 j∧j≤256∧(∀ k,k<j→t k=zbF k)∧lG wr g n s t u∧aA w wr (· = g)) (fun i _=>256-(intOf i).toNat)
 case atStart=>exact ⟨0,t,rfl,by omega,fun k hk=>by omega,hT,aA.refl _ _⟩
 case round=>
  obtain ⟨j,t1,rfl,hj,ht,hT1,hb⟩:=hrel;by_cases hlt:j<256
  · obtain ⟨wo,rfl⟩:∃ wo:World,wo=wr:=⟨_,rfl⟩
    go_wp2;go_loopw [3,9] (fun r k wx=>∃ (c:Nat),r=.int .u32 (stepsC c j:Nat)∧k=.int .i64 c∧c≤8∧wx=wo) (fun _ k _=>8-(intOf k).toNat)
    case atStart=>exact ⟨0,by go_num,rfl,by omega,rfl⟩
    case round=>
     obtain ⟨c,rfl,rfl,hc,rfl⟩:=hrel;have hr:=vA (r:=j) (by omega) c
     by_cases hc8:c<8
     · go_wp2
       go_roundw
       case rel=>
        refine ⟨c+1,?_,by go_num,by omega,trivial⟩
        rw [zaZ _ hr];rfl
       case measure=>simp [intOf];omega
     · obtain rfl:c=8:=by omega
       have hcell:=hT1.tab j hlt;have hfr:=hT1.free;go_wp2;refine ⟨⟨j+1,_,by go_num,by omega,?_,hT1.setT hlt _,hb.set rfl _ _⟩,by simp [intOf];omega⟩
       intro k hk;by_cases hkj:k=j
       · rw [zij hkj,hkj];exact ze1 j
       · rw [zig hkj];exact ht k (by omega)
  · go_wp2
    obtain rfl:j=256:=by omega
    go_end0;refine ⟨rfl,?_,hb⟩;refine ⟨hT1.lt,hT1.free,hT1.done,hT1.lock,fun i hi=>?_,hT1.used⟩
    rw [←ht i hi];exact hT1.tab i hi
end Go.Proofs.YtcapmeefiglfjaaGreat
namespace Go.Proofs.YtcapmeefiglfjaaGreat
theorem pE (w:World):(callFunc 254 #[]).run Tryz.prog w=.ok (.value (.tuple #[])) w:=run_call_mark0 Tryz.func254 (by kernel_rfl) (by kernel_rfl) (by kernel_rfl) .disable (by kernel_rfl) w
theorem qW (w:World):(callFunc 256 #[]).run Tryz.prog w=.ok (.value (.tuple #[])) w:=run_call_mark0 Tryz.func256 (by kernel_rfl) (by kernel_rfl) (by kernel_rfl) .enable (by kernel_rfl) w
theorem za1 (a:Addr) (w:World):(callFunc 257 #[.pointer (some a)]).run Tryz.prog w=.ok (.value (.tuple #[])) w:=run_call_marked Tryz.func257 (by kernel_rfl) (by kernel_rfl) (by kernel_rfl) .acquire (by kernel_rfl) a w
theorem nD (a:Addr) (w:World):(callFunc 259 #[.pointer (some a)]).run Tryz.prog w=.ok (.value (.tuple #[])) w:=run_call_marked Tryz.func259 (by kernel_rfl) (by kernel_rfl) (by kernel_rfl) .releaseMerge (by kernel_rfl) a w
theorem pU (a:Addr) (x:Value) (u:FrameMode) (w:World) (hc:w.cell? a=some x) (hz:w.frozen? a=false) :
 CallsD Tryz.prog 247 #[.pointer (some a),.bool true] u w fun e u' w'=>u'=u∧(e=.returned (.tuple #[])∧w'=w.drew.setCell a (.int .u32 1)):=by
 have hc':w.drew.cell? a=some x:=by go_simp
 have hz':w.drew.frozen? a=false:=by go_simp
 have hst:=run_call_store (P:=Tryz.prog) Tryz.func252 (by kernel_rfl) (by kernel_rfl) (by kernel_rfl) (by kernel_rfl) (k:=.u32) (y:=1) hc' hz'
 go_enter_d Tryz.func247,Tryz.ntmps247
 go_wp2;go_region_calls
 all_goals (go_end0;exact ⟨rfl,rfl⟩)
theorem zd6 (a:Addr) (w:World) (hc:w.cell? a=some (.int .i32 1)) (hz:w.frozen? a=false) :
 Calls Tryz.prog 251 #[.pointer (some a)] w fun e w'=>e=.returned (.tuple #[])∧w'=w.setCell a (.int .i32 0):=by
 have hd:=pE;have he:=qW;have hr:=nD;have hadd:=run_call_add (P:=Tryz.prog) Tryz.func260 (by kernel_rfl) (by kernel_rfl) (by kernel_rfl) .i32 (by kernel_rfl) (y:=-1) (s:=0) hc hz (by simp [go_sem];rfl)
 have hcv:=run_convert_to_unsafe (P:=Tryz.prog) (src:=354) (dst:=358) Tryz.underlying354 Tryz.underlying358 (by kernel_rfl) hc
 go_enter Tryz.func251,Tryz.ntmps251
 go_wp2;go_end0;exact ⟨rfl,rfl⟩
theorem oA (a:Addr) (u:FrameMode) (w:World) (hc:w.cell? a=some (.int .i32 1)) (hz:w.frozen? a=false) :
 CallsD Tryz.prog 246 #[.pointer (some a)] u w fun e u' w'=>u'=u∧(e=.returned (.tuple #[])∧w'=w.setCell a (.int .i32 0)):=by
 go_enter_d Tryz.func246,Tryz.ntmps246
 go_wp2_with (go_at_call 251;refine (zd6 a _ hc hz).mono ?_;rintro e w' ⟨rfl,rfl⟩);go_end0;exact ⟨rfl,rfl⟩
theorem zg5 (a:Addr) (w:World) (hc:w.cell? a=some (.int .i32 0)) (hz:w.frozen? a=false) :
 Calls Tryz.prog 250 #[.pointer (some a)] w fun e w'=>e=.returned (.tuple #[])∧w'=w.setCell a (.int .i32 1):=by
 have hd:=pE;have he:=qW;have ha:=za1;have hcas:=run_call_cas_hit (P:=Tryz.prog) Tryz.func255 (by kernel_rfl) (by kernel_rfl) (by kernel_rfl) .i32 (by kernel_rfl) (y:=1) hc hz
 have hc':(w.setCell a (.int .i32 1)).cell? a=some (.int .i32 1):=World.cell?_setCell_same w a _ hc;have hcv:=run_convert_to_unsafe (P:=Tryz.prog) (src:=354) (dst:=358) Tryz.underlying354 Tryz.underlying358 (by kernel_rfl) hc'
 go_enter Tryz.func250,Tryz.ntmps250
 go_wp2;first | go_end0 | (simp only [Exit.inBlock,Exit.then];refine zik (zk5 rfl _ _ _) rfl ?_) | refine zik (zk5 rfl _ _ _) rfl ?_
 exact ⟨rfl,rfl⟩
theorem zd1 (a:Addr) (w:World) (hc:w.cell? a=some (.int .i32 0)) (hz:w.frozen? a=false) :
 Calls Tryz.prog 245 #[.pointer (some a)] w fun e w'=>e=.returned (.tuple #[])∧w'=w.setCell a (.int .i32 1):=by
 go_enter Tryz.func245,Tryz.ntmps245
 go_wp2_with (go_at_call 250;refine (zg5 a _ hc hz).mono ?_;rintro e w' ⟨rfl,rfl⟩);go_end0;exact ⟨rfl,rfl⟩
theorem oI (a:Addr) (d:Int) (w:World) (hc:w.cell? a=some (.int .u32 d)) :
 Calls Tryz.prog 239 #[.pointer (some a)] w fun e w'=>e=.returned (.bool (d != 0))∧w'=w:=by
 have hl:=run_call_load (P:=Tryz.prog) Tryz.func244 (by kernel_rfl) (by kernel_rfl) (by kernel_rfl) .u32 (by kernel_rfl) hc
 go_enter Tryz.func239,Tryz.ntmps239
 go_wp2;go_ret;exact ⟨rfl,rfl⟩
theorem ze5 (g:Nat) (t:Nat→Nat) (u:Int) (w:World) (hT:lG w g 0 0 t u) :
 Calls Tryz.prog 240 #[.pointer (some ⟨g,0,none⟩),.func (.func 234) #[.pointer (some ⟨g,0,none⟩)] #[]] w fun e w'=>e=.returned (.tuple #[])∧lG w' g 1 0 zbF u∧aA w w' (· = g):=by
 have hnot:∀ (x:Bool) (w:World),(Op.unary .not (.bool x)).run Tryz.prog w=.ok (.bool (!x)) w:=fun _ _=>rfl
 have hT1:=hT.setS 1;go_enter_defers Tryz.func240,Tryz.ntmps240
 go_wp2_with (first
  | (go_at_call 245;refine (zd1 ⟨g,1,none⟩ _ hT.lock (hT.free 1)).mono ?_;rintro e w' ⟨rfl,rfl⟩)
  | (go_at_call 239;refine (oI ⟨g,0,none⟩ 0 _ hT1.done).mono ?_;rintro e w' ⟨rfl,rfl⟩)
  | (go_at_call 234;refine (zdW g 0 1 t u _ hT1).mono ?_;rintro e w5 ⟨rfl,hT5,hb5⟩))
 refine leaves_cons (f:=247) (args:=#[.pointer (some ⟨g,0,none⟩),.bool true]) (by simp) (by simp [go_sem]) ?_
 refine (pU ⟨g,0,none⟩ _ .returning _ hT5.done (hT5.free 0)).mono ?_;rintro e u' w'' ⟨rfl,rfl,rfl⟩;have hT6:=hT5.drew.setN 1;refine leaves_cons (f:=246) (args:=#[.pointer (some ⟨g,1,none⟩)]) (by simp [settle]) (by simp [go_sem]) ?_
 refine (oA ⟨g,1,none⟩ _ _ hT6.lock (hT6.free 1)).mono ?_;rintro e u' w'' ⟨rfl,rfl,rfl⟩;have hT7:=hT6.setS 0;have hb:aA w (((w5.drew.setCell ⟨g,0,none⟩ (.int .u32 1))).setCell ⟨g,1,none⟩ (.int .i32 0)) (· = g):=
  (((((aA.refl w (· = g)).set rfl 1 (.int .i32 1)).trans hb5).drew).set rfl _ _).set rfl _ _
 simp only [Leaves,settle,results,Tryz.results240];simp;exact ⟨hT7,hb⟩
theorem zf9 (g:Nat) (n:Int) (t:Nat→Nat) (u:Int) (w:World) (hT:lG w g n 0 t u) (hn:n=0∨n=1∧∀ i,i<256→t i=zbF i) :
 Calls Tryz.prog 233 #[.pointer (some ⟨g,0,none⟩),.func (.func 234) #[.pointer (some ⟨g,0,none⟩)] #[]] w fun e w'=>e=.returned (.tuple #[])∧lG w' g 1 0 zbF u∧aA w w' (· = g):=by
 have hnot:∀ (x:Bool) (w:World),(Op.unary .not (.bool x)).run Tryz.prog w=.ok (.bool (!x)) w:=fun _ _=>rfl
 rcases hn with rfl | ⟨rfl,ht⟩
 · go_enter Tryz.func233,Tryz.ntmps233
   go_wp2_with (first
    | (go_at_call 239;refine (oI ⟨g,0,none⟩ 0 _ hT.done).mono ?_;rintro e w' ⟨rfl,rfl⟩)
    | (go_at_call 240;refine (ze5 g t u _ hT).mono ?_;rintro e w5 ⟨rfl,hT5,hb5⟩))
   go_end0;exact ⟨rfl,hT5,hb5⟩
 · go_enter Tryz.func233,Tryz.ntmps233
   go_wp2_with (first
    | (go_at_call 239;refine (oI ⟨g,0,none⟩ 1 _ hT.done).mono ?_;rintro e w' ⟨rfl,rfl⟩))
   go_end0;exact ⟨rfl,⟨hT.lt,hT.free,hT.done,hT.lock,fun i hi=>by rw [←ht i hi];exact hT.tab i hi,hT.used⟩,aA.refl _ _⟩
end Go.Proofs.YtcapmeefiglfjaaGreat
namespace Go.Proofs.YtcapmeefiglfjaaGreat
open Go.RowKit
def fA (w:World) (g:Nat):Prop:=∃ n t u,lG w g n 0 t u∧(n=0∨n=1∧∀ i,i<256→t i=zbF i)
theorem lG.step {w w':World} {g:Nat} {n s:Int} {t:Nat→Nat} {u:Int} (h:lG w g n s t u) (hb:Below w.heap.size w w'):lG w' g n s t u:=by
 have hc:∀ o,w'.cell? ⟨g,o,none⟩=w.cell? ⟨g,o,none⟩:=fun o=>hb.cell h.lt
 have hf:∀ o,w'.frozen? ⟨g,o,none⟩=w.frozen? ⟨g,o,none⟩:=fun o=>World.frozen?_of_block (hb.block g h.lt)
 exact ⟨ziE h.lt hb.size,fun o=>(hf o).trans (h.free o),(hc _).trans h.done,(hc _).trans h.lock,fun i hi=>(hc _).trans (h.tab i hi),(hc _).trans h.used⟩
theorem fA.step {w w':World} {g:Nat} (h:fA w g) (hb:Below w.heap.size w w'):fA w' g:=by
 obtain ⟨n,t,u,h1,h2⟩:=h;exact ⟨n,t,u,h1.step hb,h2⟩
theorem fA.lt {w:World} {g:Nat} (h:fA w g):g<w.heap.size:=by obtain ⟨n,t,u,h1,h2⟩:=h;exact h1.lt
def zfX:Option Value→Bool
 | some (.int .u32 n)=>n == 0
 | _=>false
theorem zeT {o:Option Value} (h:zfX o=true):o=some (.int .u32 0):=by
 unfold zfX at h;split at h
 · rename_i n;rw [eq_of_beq h]
 · cases h
theorem zeN:(List.range 256).all (fun i=>zfX (Tryz.zeroCells322[3+i]?))=true:=by kernel_rfl
theorem zgb (w:World):Calls Tryz.prog 199 #[] w fun e w'=>e=.returned (.pointer (some ⟨w.heap.size,0,none⟩))∧fA w' w.heap.size∧Below w.heap.size w w':=by
 go_enter Tryz.func199,Tryz.ntmps199
 go_wp2;go_ret;have hB:=Blk.new w 322 Tryz.zeroCells322 rfl;refine ⟨rfl,⟨0,fun _=>0,0,⟨hB.lt,hB.frozen,(hB.cell 0).trans (by kernel_rfl),(hB.cell 1).trans (by kernel_rfl),fun i hi=>(hB.cell _).trans (zeT (List.all_eq_true.1 zeN i (zjO.2 hi))),(hB.cell 259).trans (by kernel_rfl)⟩,.inl rfl⟩,zBA⟩
theorem zfV (g:Nat) (r0:Nat) (v:Value) (b:List UInt8) (K:Nat→Prop) (w:World) (hT:fA w g) (hv:IsB w K v b) (hK:∀ k,K k→k≠g) (hr:r0<4294967296) :
 Calls Tryz.prog 226 #[.pointer (some ⟨g,0,none⟩),.int .u32 r0,v] w fun e w'=>e=.returned (.int .u32 (b.foldl goC r0:Nat))∧fA w' g∧aA w w' (· = g):=by
 have hmf:∀ (fn:Fn) (first cap:Array Value) (w:World),(Instr.makeFunc fn first cap).run Tryz.prog w=.ok (.func fn first cap) w:=fun _ _ _ _=>rfl
 obtain ⟨n,t,u,hT1,hn⟩:=hT;have hv0:=hv;obtain ⟨A,c,rfl,hrd,hlc,hcc,hl47⟩:=hv;go_enter Tryz.func226,Tryz.ntmps226
 go_wp2_with (go_at_call 233;refine (zf9 g n t u _ hT1 hn).mono ?_;rintro e w1 ⟨rfl,hT2,hb2⟩);have hv1:=hv0.turned hb2 hK;go_wp2;go_loopw [1,17] (fun r i wr=>∃ (j:Nat),r=.int .u32 ((b.take j).foldl goC r0:Nat)∧i=.int .i64 j∧j≤b.length∧wr=w1) (fun _ i _=>b.length-(intOf i).toNat)
 case atStart=>exact ⟨0,by simp,rfl,by omega,rfl⟩
 case round=>
  obtain ⟨j,rfl,rfl,hj,rfl⟩:=hrel;by_cases hlt:j<b.length
  · have hlow:=sM (b.take j) r0 hr
    obtain ⟨A',c',hA',hrd1,_⟩:=hv1;injection hA' with e1 e2 e3;subst e1;obtain ⟨ad,x,rfl,hbB,hu,hc⟩:=hrd1.at_ hlt;simp only [aE,zj1,zib hlt,Option.map_some,ziL] at hu;subst hu;unfold B8 at hc;have hx2:(b[j].toNat)<256:=UInt8.toNat_lt _;have htk:b.take (j+1)=b.take j++[b[j]]:=by rw [zjQ,zib hlt];rfl
    have hgo:(b.take (j+1)).foldl goC r0=goC ((b.take j).foldl goC r0) b[j]:=by rw [htk,zjp];rfl
    generalize (b.take j).foldl goC r0=r at hlow hgo;have hix:=zfu r b[j];have hcell:=hT2.tab _ hix;have hix2:bits BinOp.xor IntKind.u8 ((r:Int) % 256) (b[j].toNat:Int)=(((r % 256) ^^^ b[j].toNat:Nat):Int):=by
     rw [show (r:Int) % 256=((r % 256:Nat):Int) by omega,u8_xor_nat _ _ (by omega) hx2]
    generalize hxi:(r % 256) ^^^ b[j].toNat=xi at hix hcell hix2;have HGO:=zia hgo;have HXI:=zia hxi;clear hgo hxi htk;go_wp2;refine ⟨⟨j+1,?_,by go_num,by omega,trivial⟩,by simp [intOf];omega⟩
    rw [HGO.out];unfold goC;rw [HXI.out,show (r:Int) / 256=((r / 256:Nat):Int) by omega,u32_xor_nat _ _ (by omega) (zcX (by omega))]
  · go_wp2
    obtain rfl:j=b.length:=by omega
    go_ret;rw [ziQ];exact ⟨rfl,⟨1,zbF,u,hT2,.inr ⟨rfl,fun _ _=>rfl⟩⟩,hb2⟩
theorem ze9 (a:Addr) (u:Int) (w:World) (hc:w.cell? a=some (.int .i64 u)) (hz:w.frozen? a=false) :
 Calls Tryz.prog 140 #[.pointer (some a),.int .i64 1] w fun e w'=>∃ u',e=.returned (.int .i64 u')∧w'=w.setCell a (.int .i64 u'):=by
 have hadd:=run_call_add (P:=Tryz.prog) Tryz.func195 (by kernel_rfl) (by kernel_rfl) (by kernel_rfl) .i64 (by kernel_rfl) (y:=1) (s:=IntKind.i64.wrap (u+1)) hc hz (by simp [go_sem];try rfl)
 go_enter Tryz.func140,Tryz.ntmps140
 go_wp2;go_ret;exact ⟨_,rfl,rfl⟩
theorem zgT (g:Nat) (v:Value) (l:List (List UInt8)) (K:Nat→Prop) (w:World) (hT:fA w g) (hv:IsL Rp.bytes w K v l) (hK:∀ k,K k→k≠g) :
 Calls Tryz.prog 201 #[.pointer (some ⟨g,0,none⟩),v] w fun e w'=>e=.returned (.int .u32 (rR l.flatten:Nat))∧fA w' g∧aA w w' (· = g):=by
 obtain ⟨n,t,u,hT1,hn⟩:=hT;have hv0:=hv;obtain ⟨A,c,rfl,hlc,hcc⟩:=hv.form;have hl47:=hv.len;have hb1:∀ u',aA w (w.setCell ⟨g,259,none⟩ (.int .i64 u')) (· = g):=fun u'=>(aA.refl w (· = g)).set rfl _ _
 go_enter Tryz.func201,Tryz.ntmps201
 go_wp2_with (go_at_call 140;refine (ze9 ⟨g,259,none⟩ u _ hT1.used (hT1.free 259)).mono ?_;rintro e w1 ⟨u1,rfl,rfl⟩);have hT2:=hT1.setU u1;have hv2:=hv0.turned (hb1 u1) hK;generalize hw1:w.setCell ⟨g,259,none⟩ (.int .i64 u1)=w1 at *;go_loopw [5,14] (fun r i wr=>∃ (j:Nat),r=.int .u32 ((l.take j).flatten.foldl goC 4294967295:Nat)∧i=.int .i64 j∧j≤l.length∧fA wr g∧aA w wr (· = g)) (fun _ i _=>l.length-(intOf i).toNat)
 case atStart=>exact ⟨0,by simp,rfl,by omega,⟨n,t,u1,hT2,hn⟩,by have:=hb1 u1;rw [hw1] at this;exact this⟩
 case round=>
  obtain ⟨j,rfl,rfl,hj,hT3,hb3⟩:=hrel;by_cases hlt:j<l.length
  · have hv3:=hv0.turned hb3 hK
    obtain ⟨ad,es,rfl,hKb,⟨v',rfl,hvb⟩,hcs⟩:=hv3.at_ (i:=j) (x:=l[j]) (zib hlt);have hcell:=hcs 0 _ rfl;have hsz1:Rp.bytes.size=1:=rfl;rw [cW,hsz1,zk0] at hcell;have htk:(l.take (j+1)).flatten.foldl goC 4294967295=l[j].foldl goC ((l.take j).flatten.foldl goC 4294967295):=by
     rw [zjQ,zib hlt,Option.toList_some,List.flatten_append,zjp];simp
    have hr:=sM (l.take j).flatten 4294967295 (by omega)
    generalize (l.take j).flatten.foldl goC 4294967295=r at htk hr;have HTK:=zia htk;clear htk hcs;go_wp2_with (go_at_call 226;refine (zfV g r v' l[j] K _ hT3 hvb hK hr).mono ?_;rintro e w4 ⟨rfl,hT4,hb4⟩);go_roundw
    case rel=>exact ⟨j+1,by rw [HTK.out],by go_num,by omega,hT4,hb3.trans hb4⟩
    case measure=>simp [intOf];omega
  · obtain rfl:j=l.length:=by omega
    rw [ziQ] at *;have hr:=sM l.flatten 4294967295 (by omega)
    generalize hrr:l.flatten.foldl goC 4294967295=r at *;go_wp2;go_ret;refine ⟨?_,hT3,hb3⟩;unfold rR;rw [hrr];simp;exact u32_xor_nat 4294967295 r (by omega) hr
