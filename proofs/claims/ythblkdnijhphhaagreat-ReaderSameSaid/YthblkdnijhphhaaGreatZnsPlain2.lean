/- A part of the proof. -/
import Derived.Test.YthblkdnijhphhaaGreatDesk
set_option linter.unusedSimpArgs false
set_option maxHeartbeats 8000000
set_option maxRecDepth 100000
namespace Go.Proofs.YthblkdnijhphhaaGreat
open Go.RowKit
theorem zml (z:Zn) (off n:Int) {N:Nat} (h:z.d.length≤N):(zii z off n).1.length≤N:=by
 unfold zii;split
 · exact Nat.le_trans (by rw [List.length_take,List.length_drop];omega) h
 · exact Nat.zero_le _
theorem zaq.setData {w:World} {X:Nat→Prop} {g gz:Nat} {d:Zd} {c:Cm} {dn:Dn} (h:zaq X w g gz d c dn) {A:Option Addr} {l:List UInt8} {cc:Nat} (hl:IsB w (fun b=>b≠g∧b≠gz∧X b) (.slice A l.length cc) l):zaq X (w.setCell ⟨g,12,none⟩ (.slice A l.length cc)) g gz d c ⟨dn.e,dn.at_,l⟩:=by
 obtain ⟨cz,A1,c1,A2,c2,h1,h2,h3,h4,h5,h6,h7⟩:=h;have ht:=(za0.refl w (fun b=>b=g)).set (g:=g) rfl 12 (.slice A l.length cc)
 exact ⟨cz,A1,c1,A,cc,h1.set_ 12 _,h2.turned ht (fun e=>h7 e.symm) (fun b hb=>hb.1),h3.turned ht (fun b hb=>hb.1),hl.turned ht (fun b hb=>hb.1),h5,h6,h7⟩
theorem zkn (g gz i:Nat) {X:Nat→Prop} (hX:∀ b,g<b→X b) (d:Zd) (c:Cm) (w:World) (hd:zaq X w g gz d c dn0) (hi:c.zone=(i:Int)) (hl:i<d.z.length) (hoff:c.off≤9223372036854775807) :
 Calls Tryz.prog 42 #[.pointer (some ⟨g,0,none⟩)] w (zcc X w g gz d c (zmZ d i c)):=by
 have hz:d.z[i]?=some d.z[i]:=List.getElem?_eq_getElem hl;unfold zmZ;rw [zcz hl];generalize d.z[i]=z at hz ⊢;obtain ⟨y,hy⟩:∃ y,zii z c.off c.n=y:=⟨_,rfl⟩;rw [hy];show Calls _ _ _ _ (zcc X w g gz d c (y.2,d.z,⟨0,0,y.1⟩));have HY:=Lib.hid hy;have HZ:=Lib.hid hz;clear hz hy;have hd0:=hd;obtain ⟨cz,A1,c1,A2,c2,hB,hR,hx1,hx2,hcz,hcz2,hne⟩:=hd0;have E:=(((Kn.start w).give za1.desk hd).give za1.rowZ hR).know hB;obtain ⟨Az,ca,hzB,⟨n0,n1,n2⟩,_⟩:=hR.at_ HZ.out;have hyl:y.1.length≤140737488355328:=by rw [←HY.out];exact zml z _ _ hzB.len
 replace E:=(E.give za1.bytes hzB).give za1.zoneL ⟨n0,n1,n2⟩;have hgz:=hR.lt;have hg:=hB.lt;clear hB hR hx1 hx2 hzB n0 n1 n2 hd;go_enter Tryz.func42,Tryz.ntmps42
 go_upto_region 1 with fail;have HK:Hid (∀ W,Below w.heap.size w W→(∀ o,W.cell? ⟨g,o,none⟩=(zba d c dn0 gz cz A1 c1 A2 c2)[o]?)∧W.cell? ⟨gz,i*3,none⟩=some (.int .i64 z.st)∧W.cell? ⟨gz,i*3+1,none⟩=some (.int .i64 z.fe)∧W.cell? ⟨gz,i*3+2,none⟩=some (.slice Az z.d.length ca)):=Lib.hid fun W h=>⟨((E.step h).rules m0).1,(E.step h).get m0⟩
 go_region_held3 (fun W=>(∀ o,W.cell? ⟨g,o,none⟩=(zba d c dn0 gz cz A1 c1 A2 c2)[o]?)∧W.cell? ⟨gz,i*3,none⟩=some (.int .i64 z.st)∧W.cell? ⟨gz,i*3+1,none⟩=some (.int .i64 z.fe)∧W.cell? ⟨gz,i*3+2,none⟩=some (.slice Az z.d.length ca))
  (first | with_reducible exact HK.out _ (Below.refl _ _).drew | with_reducible exact HK.out _ hb1 | with_reducible exact HK.out _ hb2)
  (first
   | (go_at_call 96
      refine (zaN g gz i d c dn0 _ ((E.step (Below.refl _ _).drew).get m3) hi hl).mono ?_;rintro e w1 ⟨rfl,hb1⟩;replace hb1:=(Below.refl w.heap.size w).drew.trans hb1)
   | (go_at_call 99
      refine (zmp _ z c.off c.n _ w1 ⟨Az,ca,rfl,(E.step hb1).get m1⟩ hoff).mono ?_;rw [HY.out];rintro e w2 ⟨v',rfl,⟨A9,c9,rfl,how⟩,hb2⟩;have hyB:=IsB.of_own how hyl;replace hb2:=hb1.trans (hb2.mono hb1.size)))
 have hs1:=hb1.size;replace hyB:=hyB.more (K':=fun b=>b≠g∧b≠gz∧X b) (fun b hb=>⟨by omega,by omega,hX _ (by omega)⟩)
 replace E:=E.step hb2;obtain ⟨q2,f2,t2⟩:=E.rules m0;unfold zba at q2;have hyd:=((E.get m3).setData hyB);have HYD:=Lib.hid hyd;clear hyd hyB how;go_wp2;go_ret;exact ⟨rfl,HYD.out,(za0.of E.below).set (.inl rfl) _ _⟩
theorem zo1 (l:List Value) (o:Nat) (x0 x1 x2:Value) (h0:l[o]?=some x0) (h2:l[o+2]?=some x2):((l.set o x0).set (o+1) x1).set (o+2) x2=l.set (o+1) x1:=by
 apply List.ext_getElem?;intro k;simp only [List.getElem?_set,List.length_set];by_cases k2:o+2=k
 · subst k2
   obtain ⟨hk,_⟩:=List.getElem?_eq_some_iff.1 h2;rw [if_pos rfl,if_pos hk,if_neg (by omega),h2]
 · rw [if_neg k2]
   by_cases k1:o+1=k
   · rw [if_pos k1,if_pos k1]
   · rw [if_neg k1,if_neg k1]
     by_cases k0:o=k
     · subst k0
       obtain ⟨hk,_⟩:=List.getElem?_eq_some_iff.1 h0;rw [if_pos rfl,if_pos hk,h0]
     · rw [if_neg k0]
theorem RowZ.fence {w:World} {g:Nat} {t:TypeId} {K:Nat→Prop} {l:List Zn} {z:Zn} (h:RowZ w g t K l) {i:Nat} (hz:l[i]?=some z) (e:Int) (hK:∀ b,K b→b≠g):RowZ (w.setCell ⟨g,i*3+1,none⟩ (.int .i64 e)) g t K (l.set i ⟨z.st,e,z.d⟩):=by
 have ht:=(za0.refl w (fun b=>b=g)).set (g:=g) rfl (i*3+1) (.int .i64 e)
 obtain ⟨hi,_⟩:=List.getElem?_eq_some_iff.1 hz;obtain ⟨cs,sp,h1,h2⟩:=h;have hlen:cs.length=l.length*3:=h2.len;obtain ⟨es,hes,hcell⟩:=h2.at_ hz;obtain ⟨A,c,rfl,hB⟩:=ziG hes;have e3:Rp.zone.size=3:=rfl;have hs:=(h2.set (ziX (z:=⟨z.st,e,z.d⟩) hB) hi).turned ht hK;refine ⟨_,sp,?_,hs⟩;have hb:=h1.set_ (i*3+1) (.int .i64 e);have hfit:i*3+3≤(cs++sp).length:=by rw [List.length_append];omega
 have hg:∀ (k:Nat) u,(zcx z A c)[k]?=some u→(cs++sp)[i*3+k]?=some u:=fun k u hu=>by
  have:=hcell k u hu;rw [e3] at this;rw [List.getElem?_append_left (List.getElem?_eq_some_iff.1 this).1];exact this
 have e':=zhW (cs++sp) (i*3) (.int .i64 z.st) (.int .i64 e) (.slice A z.d.length c) hfit;rw [zo1 (cs++sp) (i*3) _ _ _ (hg 0 _ rfl) (hg 2 _ rfl)] at e';rw [List.setIfInBounds_toArray,e',List.take_append_of_le_length (by omega),List.drop_append_of_le_length (by omega)] at hb
 have e2:(i+1)*Rp.zone.size=i*3+3:=by show (i+1)*3=_;omega
 rw [e2,e3];simpa [zcx] using hb
theorem zaq.fence {w:World} {X:Nat→Prop} {g gz i:Nat} {d:Zd} {c:Cm} {dn:Dn} {z:Zn} (h:zaq X w g gz d c dn) (hz:d.z[i]?=some z) (e:Int) :
 zaq X (w.setCell ⟨gz,i*3+1,none⟩ (.int .i64 e)) g gz (d.with (d.z.set i ⟨z.st,e,z.d⟩)) c dn:=by
 obtain ⟨cz,A1,c1,A2,c2,h1,h2,h3,h4,h5,h6,h7⟩:=h;have ht:=(za0.refl w (fun b=>b=gz)).set (g:=gz) rfl (i*3+1) (.int .i64 e)
 have el:(d.z.set i ⟨z.st,e,z.d⟩).length=d.z.length:=List.length_set;refine ⟨cz,A1,c1,A2,c2,?_,h2.fence hz e (fun b hb=>hb.2.1),h3.turned ht (fun b hb=>hb.2.1),h4.turned ht (fun b hb=>hb.2.1),by show (d.z.set i _).length≤cz;rw [el];exact h5,h6,h7⟩
 have:=h1.turned ht h7;unfold zba Zd.with
 rw [el];exact this
theorem zjp (g gz i:Nat) {X:Nat→Prop} (d:Zd) (c:Cm) (w:World) (hd:zaq X w g gz d c dn0) (hi:c.zone=(i:Int)) (hl:i<d.z.length) :
 Calls Tryz.prog 47 #[.pointer (some ⟨g,0,none⟩)] w (zcc X w g gz d c (zf4 d i c)):=by
 have hz:d.z[i]?=some d.z[i]:=List.getElem?_eq_getElem hl;unfold zf4;rw [zcz hl];generalize d.z[i]=z at hz ⊢;obtain ⟨res,hres⟩:∃ res:Int × List Zn × Dn,(if c.epoch≤z.fe then (42,d.z,dn0) else (0,d.z.set i ⟨z.st,c.epoch,z.d⟩,dn0))=res:=⟨_,rfl⟩;rw [hres];have HRES:=Lib.hid hres;have HZ:=Lib.hid hz;clear hz hres;have hd0:=hd;obtain ⟨cz,A1,c1,A2,c2,hB,hR,hx1,hx2,hcz,hcz2,hne⟩:=hd0;have E:=(((Kn.start w).give za1.desk hd).give za1.rowZ hR).know hB;obtain ⟨Az,ca,hzB,⟨n0,n1,n2⟩,_⟩:=hR.at_ HZ.out;replace E:=(E.give za1.bytes hzB).give za1.zoneL ⟨n0,n1,n2⟩;have hgz:=hR.lt;have hg:=hB.lt;clear hB hR hx1 hx2 hzB n0 n1 n2 hd;go_enter Tryz.func47,Tryz.ntmps47
 go_upto_region 1 with fail;have HK:Hid (∀ W,Below w.heap.size w W→(∀ o,W.cell? ⟨g,o,none⟩=(zba d c dn0 gz cz A1 c1 A2 c2)[o]?)∧W.cell? ⟨gz,i*3+1,none⟩=some (.int .i64 z.fe)):=Lib.hid fun W h=>⟨((E.step h).rules m0).1,((E.step h).get m0).2.1⟩
 go_region_held3 (fun W=>(∀ o,W.cell? ⟨g,o,none⟩=(zba d c dn0 gz cz A1 c1 A2 c2)[o]?)∧W.cell? ⟨gz,i*3+1,none⟩=some (.int .i64 z.fe))
  (first | with_reducible exact HK.out _ (Below.refl _ _).drew | with_reducible exact HK.out _ hb1)
  (first
   | (go_at_call 96
      refine (zaN g gz i d c dn0 _ ((E.step (Below.refl _ _).drew).get m3) hi hl).mono ?_;rintro e w1 ⟨rfl,hb1⟩;replace hb1:=(Below.refl w.heap.size w).drew.trans hb1))
 replace E:=E.step hb1;clear HK;by_cases hle:c.epoch≤z.fe
 · have hr:=HRES.out
   rw [if_pos hle] at hr;have HR:=Lib.hid hr;clear hr HRES;go_wp2;go_ret;rw [←HR.out];exact ⟨rfl,E.get m3,za0.of E.below⟩
 · have hr:=HRES.out
   rw [if_neg hle] at hr;have HR:=Lib.hid hr;clear hr HRES;go_upto_region 3 with fail;have HK:Hid (∀ W,Below w1.heap.size w1 W→(∀ o,W.cell? ⟨g,o,none⟩=(zba d c dn0 gz cz A1 c1 A2 c2)[o]?)):=Lib.hid fun W h=>((E.step h).rules m0).1
   have HS:Hid (∀ W,Below w1.heap.size w1 W→∀ u,(∀ o,(W.setCell ⟨gz,i*3+1,none⟩ u).cell? ⟨g,o,none⟩=(zba d c dn0 gz cz A1 c1 A2 c2)[o]?)):=Lib.hid fun W h u=>(((E.step h).at_ m0).far (p:=⟨gz,i*3+1,none⟩) hne u).cell
   go_region_held3 (fun W=>(∀ o,W.cell? ⟨g,o,none⟩=(zba d c dn0 gz cz A1 c1 A2 c2)[o]?))
    (first | with_reducible exact HK.out _ (Below.refl _ _).drew | with_reducible exact HK.out _ hb2 | with_reducible exact HS.out _ hb2 _)
    (first
     | (go_at_call 96
        refine (zaN g gz i d c dn0 _ ((E.step (Below.refl _ _).drew).get m3) hi hl).mono ?_;rintro e w2 ⟨rfl,hb2⟩;replace hb2:=(Below.refl w1.heap.size w1).drew.trans hb2;obtain ⟨_,_,_,⟨_,n1,_⟩,⟨_,f1,_⟩⟩:=((E.step hb2).get m2).at_ HZ.out))
   go_wp2;go_ret;rw [←HR.out];exact ⟨rfl,((E.step hb2).get m3).fence HZ.out _,((za0.of E.below).step hb2).set (.inr rfl) _ _⟩
theorem zm5 (l:List Value) (o:Nat) (x0 x1 x2:Value) (h0:l[o]?=some x0) (h1:l[o+1]?=some x1):((l.set o x0).set (o+1) x1).set (o+2) x2=l.set (o+2) x2:=by
 apply List.ext_getElem?;intro k;simp only [List.getElem?_set,List.length_set];by_cases k2:o+2=k
 · rw [if_pos k2,if_pos k2]
 · rw [if_neg k2,if_neg k2]
   by_cases k1:o+1=k
   · subst k1
     obtain ⟨hk,_⟩:=List.getElem?_eq_some_iff.1 h1;rw [if_pos rfl,if_pos hk,h1]
   · rw [if_neg k1]
     by_cases k0:o=k
     · subst k0
       obtain ⟨hk,_⟩:=List.getElem?_eq_some_iff.1 h0;rw [if_pos rfl,if_pos hk,h0]
     · rw [if_neg k0]
theorem RowZ.rest {w:World} {g:Nat} {t:TypeId} {K:Nat→Prop} {l:List Zn} {z:Zn} (h:RowZ w g t K l) {i:Nat} (hz:l[i]?=some z) {A':Option Addr} {c':Nat} (hB':IsB w K (.slice A' z.d.length c') z.d) (hK:∀ b,K b→b≠g):RowZ (w.setCell ⟨g,i*3+2,none⟩ (.slice A' z.d.length c')) g t K l:=by
 have ht:=(za0.refl w (fun b=>b=g)).set (g:=g) rfl (i*3+2) (.slice A' z.d.length c')
 obtain ⟨hi,hzi⟩:=List.getElem?_eq_some_iff.1 hz;obtain ⟨cs,sp,h1,h2⟩:=h;have hlen:cs.length=l.length*3:=h2.len;obtain ⟨es,hes,hcell⟩:=h2.at_ hz;obtain ⟨A,c,rfl,hB⟩:=ziG hes;have e3:Rp.zone.size=3:=rfl;have hs:=(h2.set (ziX hB') hi).turned ht hK;have el:l.set i z=l:=by rw [←hzi];exact List.set_getElem_self hi
 rw [el] at hs;refine ⟨_,sp,?_,hs⟩;have hb:=h1.set_ (i*3+2) (.slice A' z.d.length c');have hfit:i*3+3≤(cs++sp).length:=by rw [List.length_append];omega
 have hg:∀ (k:Nat) u,(zcx z A c)[k]?=some u→(cs++sp)[i*3+k]?=some u:=fun k u hu=>by
  have:=hcell k u hu;rw [e3] at this;rw [List.getElem?_append_left (List.getElem?_eq_some_iff.1 this).1];exact this
 have e':=zhW (cs++sp) (i*3) (.int .i64 z.st) (.int .i64 z.fe) (.slice A' z.d.length c') hfit;rw [zm5 (cs++sp) (i*3) _ _ _ (hg 0 _ rfl) (hg 1 _ rfl)] at e';rw [List.setIfInBounds_toArray,e',List.take_append_of_le_length (by omega),List.drop_append_of_le_length (by omega)] at hb
 have e2:(i+1)*Rp.zone.size=i*3+3:=by show (i+1)*3=_;omega
 rw [e2,e3];simpa [zcx] using hb
theorem IsL.zero {α:Type} {R:Rp α} {w:World} {K:Nat→Prop} {A:Option Addr} {c:Nat} {l:List α} (h:l=[]) (hc:c≤9223372036854775807):IsL R w K (.slice A l.length c) l:=by
 subst h;exact ⟨A,c,[],rfl,⟨by simp,fun h=>absurd h (by simp)⟩,rfl,Nat.zero_le _,hc,by simp⟩
theorem za8.zlt {w:World} {K:Nat→Prop}:∀ {l:List Zn} {cs:List Value},za8 Rp.zone w K cs l→za8 Rp.zone w (fun b=>K b∧b<w.heap.size) cs l
 | [],_,h=>h
 | _::_,_,⟨c1,c2,e,⟨v,e1,h1⟩,h2⟩=>⟨c1,c2,e,⟨v,e1,h1.lt⟩,h2.zlt⟩
theorem RowZ.blt {w:World} {g:Nat} {t:TypeId} {K:Nat→Prop} {l:List Zn} (h:RowZ w g t K l):RowZ w g t (fun b=>K b∧b<w.heap.size) l:=by
 obtain ⟨cs,sp,h1,h2⟩:=h;exact ⟨cs,sp,h1,h2.zlt⟩
theorem IsL.zlt {w:World} {K:Nat→Prop} {v:Value} {l:List Zn} (h:IsL Rp.zone w K v l):IsL Rp.zone w (fun b=>K b∧b<w.heap.size) v l:=by
 obtain ⟨A,c,cs,e,h1,h2,h3⟩:=h;exact ⟨A,c,cs,e,h1.lt (by show 0<3;omega),h2.zlt,h3⟩
def zp0 (w:World) (base:Nat) (K:Nat→Prop) (d:Zd) (v:Value):Prop:=
 ∃ A c,v=.agg #[.int .i64 d.cap,.int .i64 d.opn,.int .i64 d.act,.slice A d.z.length c]∧IsL Rp.zone w (fun b=>K b∨base≤b) (.slice A d.z.length c) d.z ∧
   (0<d.z.length→∃ gz,A=some ⟨gz,0,none⟩∧base≤gz∧RowZ w gz 126 (fun b=>(K b∨base≤b)∧b≠gz) d.z)
theorem zb1 (d:Zd) (v:Value) (K:Nat→Prop) (w:World) (hv:IsL Rp.zone w K v d.z) (hn:d.z.length*40≤140737488355328) (hlt:∀ b,K b→b<w.heap.size) :
 Calls Tryz.prog 40 #[.agg #[.int .i64 d.cap,.int .i64 d.opn,.int .i64 d.act,v]] w fun e w'=>∃ v',e=.returned v'∧zp0 w' w.heap.size K d v'∧Below w.heap.size w w':=by
 have hv0:=hv;obtain ⟨A,c,cs,rfl,hr,hcl,hlc,hcc,hlen47⟩:=hv0;have E:=((Kn.start w).give za1.list hv).push 27 #[.int .i64 d.cap,.int .i64 d.opn,.int .i64 d.act,.slice A d.z.length c] |>.push 27 #[.int .i64 0,.int .i64 0,.int .i64 0,.slice none 0 0]
 go_enter Tryz.func40,Tryz.ntmps40
 go_wp2_with fail;refine (zjk A d.z.length c K cs _ ((hr.alloc _).alloc _) hcl.one hn).mono ?_;rintro e w1 ⟨A1,c1,rfl,how,hb1⟩;replace E:=E.step hb1;have hs1:=hb1.size;rw [World.size_alloc,World.size_alloc] at hs1;obtain ⟨q0,f0,t0⟩:=E.rules m1;have hcl1:za8 Rp.zone w1 K cs d.z:=((hcl.alloc _).alloc _).step hb1;clear hr hcl;go_wp2_with fail;have hbs:Below w.heap.size w (w1.setCell ⟨w.heap.size,3,none⟩ (.slice A1 d.z.length c1)):=E.below.setCell (Nat.le_refl _) _;have hB0:=(E.at_ m1).set_ 3 (.slice A1 d.z.length c1);have hB2:=(E.at_ m0).far (p:=⟨w.heap.size,3,none⟩) (by rw [World.size_alloc];show w.heap.size+1≠w.heap.size;omega) (.slice A1 d.z.length c1)
 have hrow:d.z=[]∨∃ gz,A1=some ⟨gz,0,none⟩∧w.heap.size+2≤gz∧RowZ (w1.setCell ⟨w.heap.size,3,none⟩ (.slice A1 d.z.length c1)) gz 126 (fun b=>(K b∨w.heap.size+2≤b)∧b≠gz) d.z:=by
  by_cases hz:d.z=[]
  · exact .inl hz
  · right
    have hpos:=List.length_pos_iff.2 hz;rcases how.2 with ⟨h2,_⟩ | ⟨g',cap,cur,hv',hg,_⟩
    · injection h2 with _ h2 _;omega
    · injection hv' with e1 _ _
      subst e1;rw [World.size_alloc,World.size_alloc] at hg;refine ⟨g',rfl,hg,?_⟩;have hR:=(RowZ.of how hcl1).more (K':=fun b=>(K b∨w.heap.size+2≤b)∧b≠g') (fun b hb=>by have:=hlt b hb;exact ⟨.inl hb,by omega⟩)
      exact hR.far (by omega) (fun h=>by rcases h.1 with h | h;exact absurd (hlt _ h) (Nat.lt_irrefl _);omega) _ _
 generalize w1.setCell ⟨w.heap.size,3,none⟩ (.slice A1 d.z.length c1)=w2 at hbs hB0 hB2 hrow ⊢;rw [World.size_alloc] at hB2;have hc1:=zaJ how;have hc2:=zar how;clear how hb1 hcl1 q0 f0 t0 E hs1;have hn63:d.z.length≤9223372036854775807:=by omega
 go_loopw [3,11] (fun x y wr=>∃ j:Nat,y=.int .i64 j∧j≤d.z.length∧Below w.heap.size w wr∧Blk wr w.heap.size 27 #[.int .i64 d.cap,.int .i64 d.opn,.int .i64 d.act,.slice A1 d.z.length c1]∧Blk wr (w.heap.size+1) 27 #[.int .i64 0,.int .i64 0,.int .i64 0,.slice none 0 0] ∧
  (d.z=[]∨∃ gz,A1=some ⟨gz,0,none⟩∧w.heap.size+2≤gz∧RowZ wr gz 126 (fun b=>(K b∨w.heap.size+2≤b)∧b≠gz) d.z)∧∃ u,x=u) (fun _ y _=>d.z.length-(intOf y).toNat)
 case atStart=>exact ⟨0,rfl,Nat.zero_le _,hbs,hB0,hB2,hrow,_,rfl⟩
 case round=>
  obtain ⟨j,rfl,hj,hb,hBa,hBb,hrw,u,rfl⟩:=hrel;obtain ⟨q0,f0⟩:=hBa.rules;obtain ⟨q1,f1⟩:=hBb.rules;have t0:=hBa.lt;have t1:=hBb.lt;by_cases hjl:j<d.z.length
  · have i0:(0:Int)≤(j:Int):=by omega
    have i1:(j:Int)<(d.z.length:Int):=by omega
    obtain ⟨gz,rfl,hgz,hR⟩:=hrw.resolve_left (fun h=>by rw [h] at hjl;exact absurd hjl (Nat.not_lt_zero _))
    have hz:=List.getElem?_eq_getElem hjl;obtain ⟨Aj,cj,hjB,⟨n0,n1,n2⟩,⟨g0,g1,g2⟩⟩:=hR.at_ hz;have hgl:=hR.lt;obtain ⟨ad,had⟩:∃ ad:Addr,ad=⟨gz,0,none⟩:=⟨_,rfl⟩;have hadd:∀ o,ad.add o=⟨gz,o,none⟩:=fun o=>by rw [had];exact addG gz o
    have hBad:Blk wr w.heap.size 27 (#[.int .i64 d.cap,.int .i64 d.opn,.int .i64 d.act,.slice (some ad) d.z.length c1]:Array Value):=by rw [had];exact hBa
    have HAD:=Lib.hid had;rw [←had] at q0;clear had hrw;go_upto_region 5 with fail;have HK:Hid (∀ W,Below wr.heap.size wr W→∀ o,W.cell? ⟨w.heap.size,o,none⟩=(#[.int .i64 d.cap,.int .i64 d.opn,.int .i64 d.act,.slice (some ad) d.z.length c1]:Array Value)[o]?):=Lib.hid fun W h=>(hBad.step h).cell
    have HS:Hid (∀ W,Below wr.heap.size wr W→∀ u,∀ o,(W.setCell ⟨gz,j*3+2,none⟩ u).cell? ⟨w.heap.size,o,none⟩=(#[.int .i64 d.cap,.int .i64 d.opn,.int .i64 d.act,.slice (some ad) d.z.length c1]:Array Value)[o]?):=Lib.hid fun W h u=>((hBad.step h).far (p:=⟨gz,j*3+2,none⟩) (by show w.heap.size≠gz;omega) u).cell
    refine wp_region_held_drew (S:=fun W=>∀ o,W.cell? ⟨w.heap.size,o,none⟩=(#[.int .i64 d.cap,.int .i64 d.opn,.int .i64 d.act,.slice (some ad) d.z.length c1]:Array Value)[o]?) (by kernel_rfl) (HK.out _ (Below.refl _ _).drew) (fun hHeld=>?_)
    refine wT 0 14 ?_;refine wT 1 15 ?_;refine wT 2 16 ?_;refine wT 3 17 ?_;refine wT 4 18 ?_;refine wT 5 19 ?_;refine wT 6 20 ?_;refine wT 7 21 ?_;refine wpAnyH_ready (rs:=[8]) (by kernel_rfl) (by simp) ?_
    refine AllReadyH.cons (o:=⟨some 22,_,_,_,_,_⟩) rfl (fun K hK=>?_) AllReadyH.nil
    go_simp;refine hK.out _ _ (HK.out _ (Below.refl _ _).drew) (fun hHeld=>?_)
    clear hK K;try simp only [pu,List.set]
    refine wpAnyH_ready (rs:=[9]) (by kernel_rfl) (by simp) ?_
    refine AllReadyH.cons (o:=⟨some 23,_,_,_,_,_⟩) rfl (fun K hK=>?_) AllReadyH.nil
    go_simp;refine (zay _ d.z[j].d _ _ (hjB.step (Below.refl _ _).drew)).mono ?_;rintro e w3 ⟨A9,c9,rfl,how,hb3⟩;have hs3:wr.drew.heap.size=wr.heap.size:=rfl;replace hb3:=(Below.refl wr.heap.size wr).drew.trans hb3;obtain ⟨_,_,_,⟨_,_,m2'⟩,⟨_,_,k2⟩⟩:=(hR.step hb3).at_ hz;go_wp2_with fail;refine hK.out _ _ (HK.out _ hb3) (fun hHeld=>?_)
    clear hK K;try simp only [pu,List.set]
    refine wT 10 24 ?_;refine wT 11 25 ?_;refine wpAnyH_ready (rs:=[12]) (by kernel_rfl) (by simp) ?_
    refine AllReadyH.cons (o:=⟨none,_,_,_,_,_⟩) rfl (fun K hK=>?_) AllReadyH.nil
    go_simp;refine hK.out _ _ (HS.out _ hb3 _) (fun hHeld=>?_)
    clear hK K;try simp only [pu,List.set]
    refine wpAnyH_done (by kernel_rfl) ?_ _
    have hyB:=(IsB.of_own how hjB.len).more (K':=fun b=>(K b∨w.heap.size+2≤b)∧b≠gz) (fun b hb=>⟨.inr (by omega),by omega⟩)
    have hR':=(hR.step hb3).rest hz hyB (fun b hb=>hb.2)
    have hBa':=(hBa.step hb3).far (p:=⟨gz,j*3+2,none⟩) (by show w.heap.size≠gz;omega) (.slice A9 d.z[j].d.length c9)
    have hBb':=(hBb.step hb3).far (p:=⟨gz,j*3+2,none⟩) (by show w.heap.size+1≠gz;omega) (.slice A9 d.z[j].d.length c9)
    have hb':Below w.heap.size w (w3.setCell ⟨gz,j*3+2,none⟩ (.slice A9 d.z[j].d.length c9)):=(hb.trans (hb3.mono hb.size)).setCell (show w.heap.size≤gz by omega) _
    have HR':=Lib.hid hR';have HBa:=Lib.hid hBa';have HBb:=Lib.hid hBb';have HB':=Lib.hid hb';clear hR' hBa' hBb' hb' hyB how q0 q1 n0 n1 n2;go_wp2_with fail;go_roundw
    case rel=>exact ⟨j+1,by go_num,by omega,HB'.out,HBa.out,HBb.out,.inr ⟨gz,rfl,hgz,HR'.out⟩,_,rfl⟩
    case measure=>simp [intOf];omega
  · obtain rfl:j=d.z.length:=by omega
    go_wp2;have hBr:=(((hBb.set_ 0 (.int .i64 d.cap)).set_ 1 (.int .i64 d.opn)).set_ 2 (.int .i64 d.act)).set_ 3 (.slice A1 d.z.length c1);have ht:=(((((za0.refl wr (fun b=>b=w.heap.size+1)).set (g:=w.heap.size+1) rfl 0 (.int .i64 d.cap)).set (g:=w.heap.size+1) rfl 1 (.int .i64 d.opn)).set (g:=w.heap.size+1) rfl 2 (.int .i64 d.act)).set (g:=w.heap.size+1) rfl 3 (.slice A1 d.z.length c1))
    generalize (((wr.setCell ⟨w.heap.size+1,0,none⟩ (.int .i64 d.cap)).setCell ⟨w.heap.size+1,1,none⟩ (.int .i64 d.opn)).setCell ⟨w.heap.size+1,2,none⟩ (.int .i64 d.act)).setCell ⟨w.heap.size+1,3,none⟩ (.slice A1 d.z.length c1)=w9 at hBr ht ⊢;have hb9:Below w.heap.size w w9:=hb.trans (ht.below (fun k hk=>by omega) hb.size)
    obtain ⟨q9,f9⟩:=hBr.rules;clear q0 q1 f0 f1;refine bodyPost_ret (v:=.agg #[.int .i64 d.cap,.int .i64 d.opn,.int .i64 d.act,.slice A1 d.z.length c1]) (by simp [results,Tryz.results40,go_sem,q9]) rfl ⟨_,rfl,⟨A1,c1,rfl,?_,?_⟩,hb9⟩
    · rcases hrw with hz | ⟨gz,rfl,hgz,hR⟩
      · exact IsL.zero hz hc2
      · exact ((hR.turned ht (by omega) (fun b hb=>by rcases hb.1 with h | h;have:=hlt b h;omega;omega)).isL hc1 hc2 (by omega)).more fun b hb=>by rcases hb with rfl | hb;exact .inr (by omega);rcases hb.1 with h | h;exact .inl h;exact .inr (by omega)
    · intro hpos
      obtain ⟨gz,rfl,hgz,hR⟩:=hrw.resolve_left (fun h=>by rw [h] at hpos;exact absurd hpos (Nat.lt_irrefl _))
      exact ⟨gz,rfl,by omega,(hR.turned ht (by omega) (fun b hb=>by rcases hb.1 with h | h;have:=hlt b h;omega;omega)).more fun b hb=>⟨hb.1.imp id (fun h=>by omega),hb.2⟩⟩
theorem IsB.away {w:World} {K:Nat→Prop} {v:Value} {l:List UInt8} {b:Nat} {t:TypeId} {cs:Array Value} (h:IsB w K v l) (hB:Blk w b t cs) (hc:∀ (o:Nat) (n:Int),cs[o]?≠some (Value.int .u8 n)):IsB w (fun x=>K x∧x≠b) v l:=by
 obtain ⟨A,c,rfl,⟨h1,h2⟩,h3⟩:=h;refine ⟨A,c,rfl,⟨h1,fun hn=>?_⟩,h3⟩
 obtain ⟨ad,e,hK,hc'⟩:=h2 hn;refine ⟨ad,e,⟨hK,fun hb=>?_⟩,hc'⟩
 obtain ⟨x,l',rfl⟩:∃ x l',l=x::l':=by
  cases l with
  | nil=>exact absurd hn (Nat.lt_irrefl _)
  | cons x l'=>exact ⟨x,l',rfl⟩
 have h0:=hc' 0 (B8 x) rfl;rw [zbN] at h0;obtain ⟨ab,ao,az⟩:=ad;have hb':ab=b:=hb;subst hb';unfold Blk at hB;cases az with
 | some s=>simp [World.cell?,hB] at h0
 | none=>
   rw [show w.cell? ⟨ab,ao,none⟩=cs[ao]? by simp [World.cell?,hB]] at h0
   exact hc _ _ h0
theorem za8.zaway {w:World} {K:Nat→Prop} {b:Nat} {t:TypeId} {cs9:Array Value} (hB:Blk w b t cs9) (hc:∀ (o:Nat) (n:Int),cs9[o]?≠some (Value.int .u8 n)):∀ {l:List Zn} {cs:List Value},za8 Rp.zone w K cs l→za8 Rp.zone w (fun x=>K x∧x≠b) cs l
 | [],_,h=>h
 | _::_,_,⟨c1,c2,e,⟨v,e1,h1⟩,h2⟩=>⟨c1,c2,e,⟨v,e1,h1.away hB hc⟩,h2.zaway hB hc⟩
theorem RowZ.away {w:World} {g:Nat} {t:TypeId} {K:Nat→Prop} {l:List Zn} {b:Nat} {t9:TypeId} {cs9:Array Value} (h:RowZ w g t K l) (hB:Blk w b t9 cs9) (hc:∀ (o:Nat) (n:Int),cs9[o]?≠some (Value.int .u8 n)):RowZ w g t (fun x=>K x∧x≠b) l:=by
 obtain ⟨cs,sp,h1,h2⟩:=h;exact ⟨cs,sp,h1,h2.zaway hB hc⟩
theorem nb4 {a b c:Int}:∀ (o:Nat) (n:Int),(#[.int .i64 a,.int .i64 b,.int .i64 c,.slice none 0 0]:Array Value)[o]?≠some (Value.int .u8 n):=by
 intro o n;rcases o with _ | _ | _ | _ | o <;> simp
theorem nb3 {a b:Int}:∀ (o:Nat) (n:Int),(#[.int .i64 a,.int .i64 b,.slice none 0 0]:Array Value)[o]?≠some (Value.int .u8 n):=by
 intro o n;rcases o with _ | _ | _ | o <;> simp
theorem zkp (d:Zd) (i:Nat) (c:Cm):(doK d i c).2.1.length=d.z.length:=by
 have hr:=zes d i;have ha:(zaZ d i c).2.1.length=d.z.length:=by
  unfold zaZ;dsimp only
  (repeat' split) <;> simp [hr]
 unfold doK zmU zmZ zmn ziB zf4;dsimp only
 (repeat' split) <;> simp [hr,ha]
def IsDn (w:World) (v:Value) (x:Dn):Prop:=∃ A k,v=.agg #[.int .i64 x.e,.int .i64 x.at_,.slice A x.data.length k]∧IsB w (fun _=>True) (.slice A x.data.length k) x.data
def NoB (cs:Array Value):Prop:=∀ (o:Nat) (n:Int),cs[o]?≠some (Value.int .u8 n)
theorem IsB.boxed {w w':World} {g:Nat} {t:TypeId} {cs9:Array Value} {K:Nat→Prop} {v:Value} {l:List UInt8} (h:IsB w K v l) (hB:Blk w g t cs9) (hc:NoB cs9) (ht:za0 w w' (fun b=>b=g)):IsB w' K v l:=
 ((h.away hB hc).turned ht (fun _ hb e=>hb.2 e)).more fun _ hb=>hb.1
def newD (zones most opn act:Int):Zd × Int:=
 if zones<1∨64<zones then (⟨0,0,0,[]⟩,1) else if chkD ⟨most,opn,act,List.replicate zones.toNat z0⟩=0 then (⟨most,opn,act,List.replicate zones.toNat z0⟩,0) else (⟨0,0,0,[]⟩,1)
theorem zlh (z:Array Value) (n:Nat):(madeCells z (n*z.size)).toList=(List.replicate n z.toList).flatten:=by
 have h:∀ k,(madeCells z k).toList=(List.range k).map (fun i=>z[i % z.size]!):=fun k=>by simp [madeCells]
 induction n with
 | zero=>simp [h]
 | succ n ih=>
   rw [List.replicate_succ',List.flatten_append,←ih,h,h,Nat.add_mul,Nat.one_mul,List.range_add,List.map_append,List.map_map];congr 1
   simp only [List.flatten_cons,List.flatten_nil,List.append_nil];apply List.ext_getElem
   · simp
   · intro i h1 h2
     have h3:i<z.size:=by simpa using h1
     simp [Nat.mod_eq_of_lt h3,h3]
theorem zmK (w:World) (K:Nat→Prop) (n:Nat):za8 Rp.zone w K (List.replicate n [.int .i64 0,.int .i64 0,.slice none 0 0]).flatten (List.replicate n z0):=by
 induction n with
 | zero=>rfl
 | succ n ih=>
   rw [List.replicate_succ,List.replicate_succ,List.flatten_cons];exact ⟨_,_,rfl,⟨_,rfl,IsB.nil_ _ _⟩,ih⟩
end Go.Proofs.YthblkdnijhphhaaGreat
