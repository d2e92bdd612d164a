/- A part of the proof. -/
import Derived.Test.YthblkdnijhphhaaGreatMapP
import Derived.Lib.AppendZerosOnto
import Derived.Lib.Walk
set_option maxHeartbeats 1000000
set_option maxRecDepth 100000
namespace Go.Proofs.YthblkdnijhphhaaGreat
open Go.RowKit
structure Zn where
 st:Int
 fe:Int
 d:List UInt8
def zv (z:Zn) (A:Option Addr) (c:Nat):Value:=.agg #[.int .i64 z.st,.int .i64 z.fe,.slice A z.d.length c]
def z0:Zn:=⟨0,0,[]⟩
def IsZ (w:World) (K:Nat→Prop) (v:Value) (z:Zn):Prop:=∃ A c,v=zv z A c∧IsB w K (.slice A z.d.length c) z.d
def OwnZ (w:World) (base:Nat) (v:Value) (z:Zn):Prop:=∃ A c,v=zv z A c∧w.ownsRow base 5 1 (.slice A z.d.length c) z.d.length (za3 z.d)
theorem IsZ.step {w w':World} {K:Nat→Prop} {v:Value} {z:Zn} (h:IsZ w K v z) (hb:Below w.heap.size w w'):IsZ w' K v z:=by
 obtain ⟨A,c,rfl,hr⟩:=h;exact ⟨A,c,rfl,hr.step hb⟩
theorem IsZ.alloc {w:World} {K:Nat→Prop} {v:Value} {z:Zn} (h:IsZ w K v z) (o:Obj):IsZ (w.alloc o) K v z:=by
 obtain ⟨A,c,rfl,hr⟩:=h;exact ⟨A,c,rfl,hr.alloc o⟩
theorem IsZ.drew {w:World} {K:Nat→Prop} {v:Value} {z:Zn} (h:IsZ w K v z):IsZ w.drew K v z:=h
theorem OwnZ.zero (w:World) (base:Nat):OwnZ w base (.agg #[.int .i64 0,.int .i64 0,.slice none 0 0]) z0:=⟨none,0,rfl,World.ownsRow_nil _ _ _ _⟩
def okZ (z:Zn) (most:Int):Prop:=
 1≤most∧most≤65536∧0≤z.fe∧((z.st=0∧z.d.length=0)∨((z.st=1∨z.st=3)∧0<z.d.length∧(z.d.length:Int)<most)∨(z.st=2∧(z.d.length:Int)<most)∨(z.st=4∧(z.d.length:Int)≤most))
instance (z:Zn) (most:Int):Decidable (okZ z most):=inferInstanceAs (Decidable (_∧_))
def chkZ (z:Zn) (most:Int):Int:=if okZ z most then 0 else 1
def bndZ (st most:Int):Int × Int:=
 if st=0 then (0,0) else if st=1∨st=3 then (1,most-1) else if st=2 then (0,most-1) else if st=4 then (0,most) else (0,-1)
theorem zoB (z:Zn) (most:Int):okZ z most↔(1≤most∧most≤65536∧0≤z.fe∧(bndZ z.st most).1≤z.d.length∧(z.d.length:Int)≤(bndZ z.st most).2):=by
 unfold okZ bndZ;repeat' split
 all_goals (simp only;omega)
def zbh (z:Zn) (most:Int) (b:List UInt8):Int:=
 if ¬okZ z most∨b.length=0 then 1 else if z.st=4 then 41 else if (z.d.length:Int)+b.length≤most then 0 else 40
def zcv (z:Zn) (most:Int) (b:List UInt8):Zn:=
 ⟨if (z.d.length:Int)+b.length=most then 4 else if b.length=0 then z.st else if z.st=2 then 2 else 1,z.fe,z.d++b⟩
theorem zcU {z:Zn} {most:Int} {b:List UInt8} (h:zbh z most b=0):okZ z most∧0<b.length∧z.st≠4∧(z.d.length:Int)+b.length≤most:=by
 unfold zbh at h;split at h
 · cases h
 · rename_i h1
   split at h
   · cases h
   · rename_i h2
     split at h
     · rename_i h3
       exact ⟨Decidable.not_not.1 (fun hh=>h1 (.inl hh)),Nat.pos_of_ne_zero (fun hh=>h1 (.inr hh)),h2,h3⟩
     · cases h
def appZ (z:Zn) (most:Int) (b:List UInt8):Zn × Int × Int:=
 if zbh z most b=0 then (zcv z most b,z.d.length,0) else (z0,0,zbh z most b)
def zhO (z:Zn) (most:Int) (b:List UInt8) (keep:Int):Zn × Int:=
 if zbh z most b≠0 then (z0,zbh z most b) else if 0≤keep∧keep≤b.length then (zcv z most (b.take keep.toNat),0) else (z0,1)
def zhX (z:Zn) (most:Int):Zn × Int:=if ¬okZ z most then (z0,1) else if z.st=4 then (z0,41) else (⟨2,z.fe,z.d⟩,0)
def zbH (z:Zn):Zn × Int:=if z.st=0∨z.st=4 then (z0,41) else (⟨if z.d.length=0 then 0 else 3,z.fe,z.d⟩,0)
def finZ (z:Zn):Zn:=⟨4,z.fe,z.d⟩
def rstZ (z:Zn):Zn:=⟨0,z.fe,[]⟩
def zii (z:Zn) (off n:Int):List UInt8 × Int:=
 if 0≤off∧0≤n∧off+n≤z.d.length then ((z.d.drop off.toNat).take n.toNat,0) else ([],1)
instance:Inhabited Zn:=⟨z0⟩
def IsZs (w:World) (K:Nat→Prop) (SA:Option Addr) (zs:List Zn):Prop:=
 0<zs.length→∃ ad,SA=some ad∧K ad.block∧∀ (i:Nat) z,zs[i]?=some z→∃ A c,w.cell? (ad.add (i*3))=some (.int .i64 z.st)∧w.cell? ⟨(ad.add (i*3)).block,(ad.add (i*3)).off+1,none⟩=some (.int .i64 z.fe) ∧
   w.cell? ⟨(ad.add (i*3)).block,(ad.add (i*3)).off+2,none⟩=some (.slice A z.d.length c)∧IsB w K (.slice A z.d.length c) z.d
theorem IsZs.step {w w':World} {K:Nat→Prop} {SA:Option Addr} {zs:List Zn} (h:IsZs w K SA zs) (hb:Below w.heap.size w w'):IsZs w' K SA zs:=by
 intro hn;obtain ⟨ad,h1,h2,h3⟩:=h hn;refine ⟨ad,h1,h2,fun i z hz=>?_⟩
 obtain ⟨A,c,c0,c1,c2,hB⟩:=h3 i z hz;exact ⟨A,c,(hb.cell (World.block_lt_of_cell? w _ c0)).trans c0,(hb.cell (World.block_lt_of_cell? w _ c1)).trans c1,(hb.cell (World.block_lt_of_cell? w _ c2)).trans c2,hB.step hb⟩
theorem zkX (A:Option Addr) (n c:Nat) (l:List Int) (x:Int) (K:Nat→Prop) (w:World) (hn:l.length=n) (hn63:n≤9223372036854775807) (hr:za6 w K 1 A n (l.map I64)) :
 Calls Tryz.prog 193 #[.slice A n c,.int .i64 x] w fun e w'=>(∃ r:Int,e=.returned (.int .i64 r)∧(0≤r↔x∈l))∧w=w':=by
 subst hn;go_enter Tryz.func193,Tryz.ntmps193
 go_wp2;go_loop [5,8] (fun _ i=>∃ j:Nat,j≤l.length∧i=.int .i64 j∧x∉l.take j) (fun _ i=>l.length-(intOf i).toNat)
 case atStart=>exact ⟨0,Nat.zero_le _,rfl,by simp⟩
 case round=>
  obtain ⟨j,hj,rfl,hx⟩:=hrel;have HX:=Lib.hid hx;clear hx;by_cases hlt:j<l.length
  · obtain ⟨ad,u,rfl,_,hu,hc⟩:=hr.at_ hlt
    simp only [List.getElem?_map,List.getElem?_eq_getElem hlt,Option.map_some,Option.some.injEq] at hu;subst hu;unfold I64 at hc;have hmem:l[j]∈l:=List.getElem_mem hlt;have htk:l.take (j+1)=l.take j++[l[j]]:=List.take_succ_eq_append_getElem hlt;generalize hy:l[j]=y at hc hmem htk;have HM:=Lib.hid hmem;clear hmem;have HT:=Lib.hid htk;clear htk;have HY:=Lib.hid hy;clear hy;by_cases hxy:x=y
    · have hb:(x == y)=true:=beq_iff_eq.2 hxy
      have HXY:=Lib.hid hxy;clear hxy;go_wp2;go_ret;exact ⟨⟨j,rfl,⟨fun _=>by rw [HXY.out];exact HM.out,fun _=>by omega⟩⟩,rfl⟩
    · have hb:(x == y)=false:=beq_eq_false_iff_ne.2 hxy
      have HXY:=Lib.hid hxy;clear hxy;go_wp2;go_round
      case rel=>exact ⟨j+1,by omega,by go_num,by rw [HT.out,List.mem_append,List.mem_singleton];rintro (h | h);exact HX.out h;exact HXY.out h⟩
      case measure=>simp [intOf];omega
  · go_wp2
    go_ret;refine ⟨⟨-1,rfl,⟨fun h=>absurd h (by omega),fun h=>absurd ?_ HX.out⟩⟩,rfl⟩
    rw [List.take_of_length_le (by omega)]
    exact h
theorem zbU (A:Option Addr) (n c:Nat) (l:List Int) (x:Int) (K:Nat→Prop) (w:World) (hn:l.length=n) (hn63:n≤9223372036854775807) (hr:za6 w K 1 A n (l.map I64)) :
 Calls Tryz.prog 151 #[.slice A n c,.int .i64 x] w fun e w'=>e=.returned (.bool (decide (x∈l)))∧w=w':=by
 go_enter Tryz.func151,Tryz.ntmps151
 go_wp2_with fail;refine (zkX A n c l x K w hn hn63 hr).mono ?_;rintro e w' ⟨⟨r,rfl,hr0⟩,rfl⟩;have hd:decide (0≤r)=decide (x∈l):=decide_eq_decide.2 hr0;have HD:=Lib.hid hd;clear hd hr0;go_wp2;go_ret;exact ⟨congrArg (fun b=>Ending.returned (.bool b)) HD.out,rfl⟩
def cntZ (states:List Int) (zs:List Zn):Nat:=(zs.filter fun z=>decide (z.st∈states)).length
theorem zmO (states:List Int) (zs:List Zn) {j:Nat} (h:j<zs.length):cntZ states (zs.take (j+1))=cntZ states (zs.take j)+if zs[j].st∈states then 1 else 0:=by
 unfold cntZ;rw [List.take_succ_eq_append_getElem h,List.filter_append,List.length_append];congr 1
 by_cases hm:zs[j].st∈states <;> simp [hm]
theorem zoU (states:List Int) (zs:List Zn) (j:Nat):cntZ states (zs.take j)≤j:=by
 unfold cntZ;have h1:=List.length_filter_le (fun z:Zn=>decide (z.st∈states)) (zs.take j)
 have h2:=List.length_take_le j zs;omega
theorem zhs (SA SB:Option Addr) (c k cb:Nat) (zs:List Zn) (states:List Int) (K K':Nat→Prop) (w:World) (hz:IsZs w K SA zs) (hk:states.length=k) (hk63:k≤9223372036854775807) (hs:za6 w K' 1 SB k (states.map I64)) (hn:zs.length≤9223372036854775807) :
 Calls Tryz.prog 146 #[.slice SA zs.length c,.slice SB k cb] w fun e w'=>e=.returned (.int .i64 (cntZ states zs))∧Below w.heap.size w w':=by
 go_enter Tryz.func146,Tryz.ntmps146
 go_wp2;go_loopw [5,10] (fun n i wr=>∃ j:Nat,j≤zs.length∧i=.int .i64 j∧n=.int .i64 (cntZ states (zs.take j))∧Below w.heap.size w wr) (fun _ i _=>zs.length-(intOf i).toNat)
 case atStart=>exact ⟨0,Nat.zero_le _,rfl,rfl,Below.refl _ _⟩
 case round=>
  obtain ⟨j,hj,rfl,rfl,hb⟩:=hrel;have hle:=zoU states zs j;by_cases hlt:j<zs.length
  · obtain ⟨ad,rfl,_,hel⟩:=(hz.step hb) (by omega)
    obtain ⟨A,ca,c0,c1,c2,hB⟩:=hel j zs[j] (List.getElem?_eq_getElem hlt);have hsn:=zmO states zs hlt;generalize hzz:zs[j]=z at c0 c1 c2 hB hsn;have HSN:=Lib.hid hsn;clear hsn;have HZ:=Lib.hid hzz;clear hzz;generalize hcc:cntZ states (zs.take j)=C at hle HSN ⊢;clear hcc;by_cases hm:z.st∈states
    · have hd:Hid (decide (z.st∈states)=true):=Lib.hid (decide_eq_true hm)
      have HE:Hid (cntZ states (zs.take (j+1))=C+1):=Lib.hid (by rw [HSN.out,if_pos hm])
      clear hm;go_wp2_with (go_at_call 151;refine (zbU SB k cb states z.st K' _ hk hk63 ((hs.step hb).alloc _)).mono ?_;rw [hd.out];rintro e w1 ⟨rfl,rfl⟩);go_roundw
      case rel=>exact ⟨j+1,by omega,by go_num,by rw [HE.out];go_num,hb.alloc hb.size _⟩
      case measure=>simp [intOf];omega
    · have hd:Hid (decide (z.st∈states)=false):=Lib.hid (decide_eq_false hm)
      have HE:Hid (cntZ states (zs.take (j+1))=C):=Lib.hid (by rw [HSN.out,if_neg hm];rfl)
      clear hm;go_wp2_with (go_at_call 151;refine (zbU SB k cb states z.st K' _ hk hk63 ((hs.step hb).alloc _)).mono ?_;rw [hd.out];rintro e w1 ⟨rfl,rfl⟩);go_roundw
      case rel=>exact ⟨j+1,by omega,by go_num,by rw [HE.out],hb.alloc hb.size _⟩
      case measure=>simp [intOf];omega
  · obtain rfl:j=zs.length:=by omega
    rw [List.take_length];go_wp2;go_ret;exact ⟨rfl,hb⟩
def zdM:List Int:=[1,2]
def zaQ:List Int:=[1,2,3]
theorem zcf (SA:Option Addr) (c:Nat) (zs:List Zn) (K:Nat→Prop) (w:World) (hz:IsZs w K SA zs) (hn:zs.length≤9223372036854775807) :
 Calls Tryz.prog 83 #[.slice SA zs.length c] w fun e w'=>e=.returned (.int .i64 (cntZ zdM zs))∧Below w.heap.size w w':=by
 go_enter Tryz.func83,Tryz.ntmps83
 go_wp2_with fail;refine (zhs SA _ c 2 2 zs zdM K (fun _=>True) _ (hz.step ((Below.refl _ _).alloc (Nat.le_refl _) _)) rfl (by omega) ((za6.new rfl rfl rfl).more (fun _ _=>trivial)) hn).mono ?_
 rintro e w1 ⟨rfl,hb⟩;go_wp2;go_ret;exact ⟨rfl,((Below.refl _ _).alloc (Nat.le_refl _) _).trans (hb.mono (by simp))⟩
theorem zcZ (SA:Option Addr) (c:Nat) (zs:List Zn) (K:Nat→Prop) (w:World) (hz:IsZs w K SA zs) (hn:zs.length≤9223372036854775807) :
 Calls Tryz.prog 84 #[.slice SA zs.length c] w fun e w'=>e=.returned (.int .i64 (cntZ zaQ zs))∧Below w.heap.size w w':=by
 go_enter Tryz.func84,Tryz.ntmps84
 go_wp2_with fail;refine (zhs SA _ c 3 3 zs zaQ K (fun _=>True) _ (hz.step ((Below.refl _ _).alloc (Nat.le_refl _) _)) rfl (by omega) ((za6.new rfl rfl rfl).more (fun _ _=>trivial)) hn).mono ?_
 rintro e w1 ⟨rfl,hb⟩;go_wp2;go_ret;exact ⟨rfl,((Below.refl _ _).alloc (Nat.le_refl _) _).trans (hb.mono (by simp))⟩
end Go.Proofs.YthblkdnijhphhaaGreat
namespace Go.Proofs.YthblkdnijhphhaaGreat
open Go.RowKit Go.WideShapes Go.ChangeShapes Go.Deep
def Rp.zone:Rp Zn:=⟨3,fun w K cs o=>∃ v_d,cs=[.int .i64 o.st,.int .i64 o.fe,v_d]∧IsB w K v_d o.d,
 by rintro _ _ _ _ ⟨v_d,rfl,h_d⟩;rfl,
 by rintro _ _ _ _ _ ⟨v_d,e,h_d⟩ hk;exact ⟨v_d,e,h_d.keep hk⟩,
 by rintro _ _ _ _ _ ⟨v_d,e,h_d⟩ hk;exact ⟨v_d,e,h_d.more hk⟩,
 by
  rintro _ _ _ _ ⟨v_d,rfl,h_d⟩ u hu;have o_d:=IsB.one h_d;simp only [List.mem_cons,List.not_mem_nil,or_false] at hu;rcases hu with rfl | rfl | rfl <;> first | rfl | assumption⟩
structure Zd where
 cap:Int
 opn:Int
 act:Int
 z:List Zn
structure Cm where
 op:Int
 zone:Int
 epoch:Int
 off:Int
 n:Int
 data:List UInt8
def zcx (z:Zn) (A:Option Addr) (c:Nat):List Value:=[.int .i64 z.st,.int .i64 z.fe,.slice A z.d.length c]
theorem ziG {w:World} {K:Nat→Prop} {cs:List Value} {z:Zn} (h:Rp.zone.is w K cs z):∃ A c,cs=zcx z A c∧IsB w K (.slice A z.d.length c) z.d:=by
 obtain ⟨v,rfl,h1⟩:=h;have h0:=h1;obtain ⟨A,c,rfl,_⟩:=h1;exact ⟨A,c,rfl,h0⟩
theorem ziX {w:World} {K:Nat→Prop} {A:Option Addr} {c:Nat} {z:Zn} (h:IsB w K (.slice A z.d.length c) z.d):Rp.zone.is w K (zcx z A c) z:=⟨_,rfl,h⟩
abbrev zhb (W:World) (a:Addr) (z:Zn) (A:Option Addr) (c:Nat):Prop:=
 W.cell? a=some (.int .i64 z.st)∧W.cell? ⟨a.block,a.off+1,none⟩=some (.int .i64 z.fe)∧W.cell? ⟨a.block,a.off+2,none⟩=some (.slice A z.d.length c)
theorem zhb.step {w W:World} {a:Addr} {z:Zn} {A:Option Addr} {c:Nat} (h:zhb w a z A c) (hb:Below w.heap.size w W):zhb W a z A c:=by
 obtain ⟨h0,h1,h2⟩:=h;exact ⟨(hb.cell (World.block_lt_of_cell? w _ h0)).trans h0,(hb.cell (World.block_lt_of_cell? w _ h1)).trans h1,(hb.cell (World.block_lt_of_cell? w _ h2)).trans h2⟩
theorem IsL.zone_at {w:World} {K:Nat→Prop} {A:Option Addr} {n c:Nat} {l:List Zn} (h:IsL Rp.zone w K (.slice A n c) l) {j:Nat} {z:Zn} (hz:l[j]?=some z) :
 ∃ ad B d,A=some ad∧ad.block<w.heap.size∧K ad.block∧IsB w K (.slice B z.d.length d) z.d∧zhb w (ad.add (j*3)) z B d:=by
 obtain ⟨ad,es,rfl,hK,hes,hcell⟩:=h.at_ hz;obtain ⟨B,d,rfl,hB⟩:=ziG hes;unfold zcx at hcell;have h0:w.cell? (ad.add (j*3))=some (.int .i64 z.st):=by rw [←zbN (ad.add (j*3))];exact hcell 0 _ rfl
 have hlt:=World.block_lt_of_cell? w _ h0;rw [zal] at hlt;refine ⟨ad,B,d,rfl,hlt,hK,hB,h0,?_,?_⟩
 · rw [←zaD _ 1 (by decide)];exact hcell 1 _ rfl
 · rw [←zaD _ 2 (by decide)];exact hcell 2 _ rfl
theorem IsZs.of {w:World} {K:Nat→Prop} {A:Option Addr} {n c:Nat} {l:List Zn} (h:IsL Rp.zone w K (.slice A n c) l):IsZs w K A l:=by
 intro hn;obtain ⟨ad,B,d,rfl,_,hK,_⟩:=h.zone_at (List.getElem?_eq_getElem hn);refine ⟨ad,rfl,hK,fun i z hz=>?_⟩
 obtain ⟨ad',B,d,e,_,_,hB,h0,h1,h2⟩:=h.zone_at hz;injection e with e;subst e;exact ⟨B,d,h0,h1,h2,hB⟩
theorem za8.set {α:Type} {R:Rp α} {w:World} {K:Nat→Prop} {cs es:List Value} {l:List α} {a:α} {i:Nat} (h:za8 R w K cs l) (ha:R.is w K es a) (hi:i<l.length):za8 R w K (cs.take (i*R.size)++es++cs.drop ((i+1)*R.size)) (l.set i a):=by
 rw [List.set_eq_take_append_cons_drop,if_pos hi];have:=((h.take i).snoc ha).append (h.drop (i+1));simpa using this
theorem zhW (l:List Value) (o:Nat) (x0 x1 x2:Value) (h:o+3≤l.length):((l.set o x0).set (o+1) x1).set (o+2) x2=l.take o++[x0,x1,x2]++l.drop (o+3):=by
 have e:l=l.take o++l.drop o:=(List.take_append_drop o l).symm;have hd:l.drop o=[l[o],l[o+1],l[o+2]]++l.drop (o+3):=by
  rw [List.drop_eq_getElem_cons (by omega),List.drop_eq_getElem_cons (by omega),List.drop_eq_getElem_cons (by omega)]
  rfl
 have hl:(l.take o).length=o:=by rw [List.length_take];omega
 generalize l.take o=a at e hl ⊢;generalize l.drop (o+3)=b at hd ⊢;rw [hd] at e;generalize l[o]=y0 at e;generalize l[o+1]=y1 at e;generalize l[o+2]=y2 at e;clear hd h;subst e hl;simp
abbrev zoS (W:World) (g o:Nat):Prop:=W.frozen? ⟨g,o,none⟩=false∧W.frozen? ⟨g,o+1,none⟩=false∧W.frozen? ⟨g,o+2,none⟩=false
abbrev zoo (W:World) (g o:Nat) (z:Zn) (A:Option Addr) (c:Nat):Prop:=
 W.cell? ⟨g,o,none⟩=some (.int .i64 z.st)∧W.cell? ⟨g,o+1,none⟩=some (.int .i64 z.fe)∧W.cell? ⟨g,o+2,none⟩=some (.slice A z.d.length c)
def RowZ (w:World) (g:Nat) (t:TypeId) (K:Nat→Prop) (l:List Zn):Prop:=∃ cs sp,Blk w g t (cs++sp).toArray∧za8 Rp.zone w K cs l
theorem RowZ.of {w:World} {base:Nat} {t:TypeId} {K:Nat→Prop} {g n c:Nat} {cs:List Value} {l:List Zn} (h:w.ownsRow base t 3 (.slice (some ⟨g,0,none⟩) n c) n cs) (hcl:za8 Rp.zone w K cs l):RowZ w g t K l:=by
 rcases h.2 with ⟨h2,_⟩ | ⟨g',cap,cur,hv,hg,hh,h3,h4,h5,h6⟩
 · cases h2
 · injection hv with e1 e2 e3
   injection e1 with e1;injection e1 with e1;subst e1 e3;refine ⟨cs,cur.toList.drop (n*3),?_,hcl⟩;unfold Blk;rw [hh,←h6,List.take_append_drop]
section
variable {w w':World} {g:Nat} {t:TypeId} {K K':Nat→Prop} {l:List Zn} {z:Zn} {S:Nat→Prop}
theorem RowZ.lt (h:RowZ w g t K l):g<w.heap.size:=by obtain ⟨cs,sp,h1,_⟩:=h;exact h1.lt
theorem RowZ.step (h:RowZ w g t K l) (hb:Below w.heap.size w w'):RowZ w' g t K l:=by
 obtain ⟨cs,sp,h1,h2⟩:=h;exact ⟨cs,sp,h1.step hb,h2.step hb⟩
theorem RowZ.more (h:RowZ w g t K l) (hK:∀ b,K b→K' b):RowZ w g t K' l:=by obtain ⟨cs,sp,h1,h2⟩:=h;exact ⟨cs,sp,h1,h2.more hK⟩
theorem RowZ.turned (h:RowZ w g t K l) (ht:za0 w w' S) (hg:¬S g) (hK:∀ b,K b→¬S b):RowZ w' g t K l:=by
 obtain ⟨cs,sp,h1,h2⟩:=h;exact ⟨cs,sp,h1.turned ht hg,h2.turned ht hK⟩
theorem RowZ.far (h:RowZ w g t K l) {g':Nat} (hg:g≠g') (hK:¬K g') (i:Nat) (u:Value):RowZ (w.setCell ⟨g',i,none⟩ u) g t K l:=
 h.turned (S:=fun b=>b=g') (za0.set (S:=fun b=>b=g') (g:=g') (za0.refl w _) rfl i u) hg (fun b hb e=>hK (by rw [←e];exact hb))
theorem addG (g o:Nat):((⟨g,0,none⟩:Addr).add o)=⟨g,o,none⟩:=by unfold Addr.add;split <;> simp_all
theorem RowZ.at_ (h:RowZ w g t K l) {j:Nat} (hz:l[j]?=some z):∃ A c,IsB w K (.slice A z.d.length c) z.d∧zoo w g (j*3) z A c∧zoS w g (j*3):=by
 obtain ⟨cs,sp,h1,h2⟩:=h;obtain ⟨es,hes,hcell⟩:=h2.at_ hz;obtain ⟨A,c,rfl,hB⟩:=ziG hes;have hc:∀ (k:Nat) u,(zcx z A c)[k]?=some u→w.cell? ⟨g,j*3+k,none⟩=some u:=fun k u hu=>by
  rw [h1.cell];have:=hcell k u hu;have e:Rp.zone.size=3:=rfl;rw [e] at this;simp only [List.getElem?_toArray];rw [List.getElem?_append_left (List.getElem?_eq_some_iff.1 this).1];exact this
 unfold zcx at hc;exact ⟨A,c,hB,⟨hc 0 _ rfl,hc 1 _ rfl,hc 2 _ rfl⟩,h1.frozen _,h1.frozen _,h1.frozen _⟩
abbrev setZ (w:World) (g o:Nat) (z:Zn) (A:Option Addr) (c:Nat):World:=((w.setCell ⟨g,o,none⟩ (.int .i64 z.st)).setCell ⟨g,o+1,none⟩ (.int .i64 z.fe)).setCell ⟨g,o+2,none⟩ (.slice A z.d.length c)
theorem zdB {w0:World} (h:za0 w0 w S) (hg:S g) (o:Nat) (z:Zn) (A:Option Addr) (c:Nat):za0 w0 (setZ w g o z A c) S:=((h.set hg _ _).set hg _ _).set hg _ _
theorem RowZ.put (h:RowZ w g t K l) {i:Nat} (hi:i<l.length) {A:Option Addr} {c:Nat} (hB:IsB w K (.slice A z.d.length c) z.d) (hK:∀ b,K b→b≠g):RowZ (setZ w g (i*3) z A c) g t K (l.set i z):=by
 have ht:=zdB (S:=fun b=>b=g) (za0.refl w _) rfl (i*3) z A c
 obtain ⟨cs,sp,h1,h2⟩:=h;have hlen:cs.length=l.length*3:=h2.len;have hs:=(h2.set (ziX hB) hi).turned ht hK;refine ⟨_,sp,?_,hs⟩;have hb:=(((h1.set_ (i*3) (.int .i64 z.st)).set_ (i*3+1) (.int .i64 z.fe)).set_ (i*3+2) (.slice A z.d.length c));have hfit:i*3+3≤(cs++sp).length:=by rw [List.length_append];omega
 have e:=zhW (cs++sp) (i*3) (.int .i64 z.st) (.int .i64 z.fe) (.slice A z.d.length c) hfit;simp only [List.setIfInBounds_toArray] at hb;rw [e] at hb;rw [List.take_append_of_le_length (by omega),List.drop_append_of_le_length (by omega)] at hb
 have e2:(i+1)*Rp.zone.size=i*3+3:=by show (i+1)*3=_;omega
 rw [e2];have e3:Rp.zone.size=3:=rfl;rw [e3];simpa [zcx] using hb
theorem RowZ.isL (h:RowZ w g t K l) {c:Nat} (hkc:l.length≤c) (hc:c≤9223372036854775807) (hl:l.length≤140737488355328):IsL Rp.zone w (fun b=>b=g∨K b) (.slice (some ⟨g,0,none⟩) l.length c) l:=by
 obtain ⟨cs,sp,h1,h2⟩:=h;have hlen:cs.length=l.length*3:=h2.len;refine ⟨_,c,cs,rfl,⟨hlen,fun _=>⟨_,rfl,.inl rfl,fun j u hu=>?_⟩⟩,h2.more fun b hb=>.inr hb,hkc,hc,hl⟩
 rw [addG,h1.cell];simp only [List.getElem?_toArray];rw [List.getElem?_append_left (List.getElem?_eq_some_iff.1 hu).1];exact hu
end
end Go.Proofs.YthblkdnijhphhaaGreat
namespace Go.Proofs.YthblkdnijhphhaaGreat
open Go.RowKit
structure Dn where
 e:Int
 at_:Int
 data:List UInt8
def dn0:Dn:=⟨0,0,[]⟩
def okD (d:Zd):Prop:=
 (1≤d.z.length∧d.z.length≤64∧1≤d.cap∧d.cap≤65536∧1≤d.opn∧d.opn≤d.act∧d.act≤d.z.length)∧(cntZ zdM d.z:Int)≤d.opn∧(cntZ zaQ d.z:Int)≤d.act∧∀ z∈d.z,okZ z d.cap
instance (d:Zd):Decidable (okD d):=inferInstanceAs (Decidable (_∧_))
def chkD (d:Zd):Int:=if okD d then 0 else 1
def impl? (zs:List Zn):Nat:=zs.findIdx (fun z=>z.st == 1)
def roomK (d:Zd) (i:Nat):Int × List Zn:=
 if (d.z.getD i z0).st∈zdM then (0,d.z)
 else if ¬(d.z.getD i z0).st∈zaQ∧d.act≤(cntZ zaQ d.z:Int) then (44,d.z)
 else if (cntZ zdM d.z:Int)<d.opn then (0,d.z)
 else if impl? d.z<d.z.length then (0,d.z.set (impl? d.z) (zbH (d.z.getD (impl? d.z) z0)).1) else (43,d.z)
def zaZ (d:Zd) (i:Nat) (c:Cm):Int × List Zn × Dn:=
 let r:=appZ (d.z.getD i z0) d.cap c.data
 if r.2.2≠0 then (r.2.2,d.z,dn0)
 else if (roomK d i).1≠0 then ((roomK d i).1,(roomK d i).2,dn0) else (0,(roomK d i).2.set i r.1,⟨0,r.2.1,[]⟩)
def zmU (d:Zd) (i:Nat) (c:Cm):Int × List Zn × Dn:=
 let r:=zaZ d i c
 if r.1≠0 then (r.1,r.2.1,dn0)
 else let t:=zhO (d.z.getD i z0) d.cap c.data c.n
  if t.2=0 then (0,r.2.1.set i t.1,dn0) else (t.2,r.2.1,dn0)
def zmn (d:Zd) (i:Nat):Int × List Zn × Dn:=
 let r:=zhX (d.z.getD i z0) d.cap
 if r.2≠0 then (r.2,d.z,dn0)
 else if (roomK d i).1≠0 then ((roomK d i).1,(roomK d i).2,dn0) else (0,(roomK d i).2.set i r.1,dn0)
def ziB (d:Zd) (i:Nat):Int × List Zn × Dn:=
 let r:=zbH (d.z.getD i z0)
 if r.2=0 then (0,d.z.set i r.1,dn0) else (r.2,d.z,dn0)
def zmZ (d:Zd) (i:Nat) (c:Cm):Int × List Zn × Dn:=
 let r:=zii (d.z.getD i z0) c.off c.n
 (r.2,d.z,⟨0,0,r.1⟩)
def zf4 (d:Zd) (i:Nat) (c:Cm):Int × List Zn × Dn:=
 if c.epoch≤(d.z.getD i z0).fe then (42,d.z,dn0) else (0,d.z.set i ⟨(d.z.getD i z0).st,c.epoch,(d.z.getD i z0).d⟩,dn0)
def doK (d:Zd) (i:Nat) (c:Cm):Int × List Zn × Dn:=
 if c.op=1 then zaZ d i c else if c.op=2 then zmZ d i c else if c.op=3 then (0,d.z.set i (rstZ (d.z.getD i z0)),dn0) else if c.op=4 then (0,d.z.set i (finZ (d.z.getD i z0)),dn0)
 else if c.op=5 then zmn d i else if c.op=6 then ziB d i else if c.op=7 then zf4 d i c else zmU d i c
def doZ (d:Zd) (c:Cm):Zd × Dn:=
 if ¬(1≤c.op∧c.op≤8)∨¬okD d∨¬(0≤c.zone∧c.zone<d.z.length) then (d,⟨1,0,[]⟩)
 else if c.op≠7∧c.epoch≠(d.z.getD c.zone.toNat z0).fe then (d,⟨42,0,[]⟩)
 else
  let r:=doK d c.zone.toNat c
  if r.1≠0 then (d,⟨r.1,0,[]⟩) else if c.op=8∧c.n=0 then (d,dn0) else (⟨d.cap,d.opn,d.act,r.2.1⟩,r.2.2)
theorem Tryz.infZ:(Tryz.prog.info? 126).map (fun i=>(i.zero,i.size,i.bytes))=some (some (.agg #[.int .i64 0,.int .i64 0,.slice none 0 0]),3,40):=by kernel_rfl
theorem zjk (A:Option Addr) (n c:Nat) (K:Nat→Prop) (xs:List Value) (w:World) (hr:za6 w K 3 A n xs) (h1:∀ u∈xs,u.oneCell'=true) (hn:n*40≤140737488355328) :
 Calls Tryz.prog 94 #[.slice A n c] w fun e w'=>∃ A' c',e=.returned (.slice A' n c')∧w'.ownsRow w.heap.size 126 3 (.slice A' n c') n xs∧Below w.heap.size w w':=by
 obtain ⟨i0,hi,hz0,hz1,hz2⟩:=info_parts Tryz.infZ;rcases A with _ | ad
 · have hn0:n=0:=by
    rcases Nat.eq_zero_or_pos n with h | h
    · exact h
    · obtain ⟨_,h2,_⟩:=hr.2 h;cases h2
   subst hn0;have hx:xs=[]:=List.eq_nil_of_length_eq_zero (by simpa using hr.1)
   subst hx;have heq:=fun w=>Lib.run_eql_slice_nil (P:=Tryz.prog) w 25 126 none 0 c 0 0 Tryz.underlying25
   go_enter Tryz.func94,Tryz.ntmps94
   go_wp2;go_ret;exact ⟨none,0,rfl,World.ownsRow_nil _ _ _ _,Below.refl _ _⟩
 · have heq:=fun w=>Lib.run_eql_slice_nil (P:=Tryz.prog) w 25 126 (some ad) n c 0 0 Tryz.underlying25
   have hr':=hr.alloc (.cells #[] 126);go_enter Tryz.func94,Tryz.ntmps94
   go_wp2_with (at_builtin;refine za5 rfl _ _ _ rfl w.heap.size 126 i0 _ 3 40 Tryz.underlying25 hi hz0 hz1 hz2 rfl (by omega) rfl (zce _ _ _ _) rfl hr' h1 (by simp only [maxLen];omega) (by omega) (by simp) ?_;intro A' c' w1 hown1 hg1)
   go_ret;simp only [Nat.zero_add,List.nil_append] at hown1 ⊢;exact ⟨A',c',rfl,hown1,((Below.refl _ _).alloc (Nat.le_refl _) _).trans hg1.below⟩
end Go.Proofs.YthblkdnijhphhaaGreat
