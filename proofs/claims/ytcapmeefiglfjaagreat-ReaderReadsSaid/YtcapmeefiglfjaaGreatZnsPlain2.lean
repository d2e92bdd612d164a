/- A part of the proof. -/
import Derived.Test.YtcapmeefiglfjaaGreatDesk
set_option linter.unusedSimpArgs false
set_option maxHeartbeats 8000000
set_option maxRecDepth 100000
namespace Go.Proofs.YtcapmeefiglfjaaGreat
open Go.RowKit
theorem zdS (z:Zn) (off n:Int) {N:Nat} (h:z.d.length≤N):(yZ z off n).1.length≤N:=by
 unfold yZ;split
 · exact zit (by rw [zio,ziG];omega) h
 · exact zir _
theorem bG.setData {w:World} {X:Nat→Prop} {g gz:Nat} {d:Zd} {c:Cm} {dn:Dn} (h:bG X w g gz d c dn) {A:Option Addr} {l:List UInt8} {cc:Nat} (hl:IsB w (fun b=>b≠g∧b≠gz∧X b) (.slice A l.length cc) l):bG X (w.setCell ⟨g,12,none⟩ (.slice A l.length cc)) g gz d c ⟨dn.e,dn.at_,l⟩:=by
 obtain ⟨cz,A1,c1,A2,c2,h1,h2,h3,h4,h5,h6,h7⟩:=h;have ht:=(aA.refl w (fun b=>b=g)).set (g:=g) rfl 12 (.slice A l.length cc)
 exact ⟨cz,A1,c1,A,cc,h1.set_ 12 _,h2.turned ht (fun e=>h7 e.symm) (fun b hb=>hb.1),h3.turned ht (fun b hb=>hb.1),hl.turned ht (fun b hb=>hb.1),h5,h6,h7⟩
theorem zbQ (g gz i:Nat) {X:Nat→Prop} (hX:∀ b,g<b→X b) (d:Zd) (c:Cm) (w:World) (hd:bG X w g gz d c dn0) (hi:c.zone=(i:Int)) (hl:i<d.z.length) (hoff:c.off≤9223372036854775807) :
 Calls Tryz.prog 46 #[.pointer (some ⟨g,0,none⟩)] w (gB X w g gz d c (zdX d i c)):=by
 have hz:d.z[i]?=some d.z[i]:=zib hl;unfold zdX;rw [iZ hl];generalize d.z[i]=z at hz ⊢;obtain ⟨y,hy⟩:∃ y,yZ z c.off c.n=y:=⟨_,rfl⟩;rw [hy];show Calls _ _ _ _ (gB X w g gz d c (y.2,d.z,⟨0,0,y.1⟩));have HY:=zia hy;have HZ:=zia hz;clear hz hy;have hd0:=hd;obtain ⟨cz,A1,c1,A2,c2,hB,hR,hx1,hx2,hcz,hcz2,hne⟩:=hd0;have E:=(((Kn.start w).give aB.desk hd).give aB.rowZ hR).know hB;obtain ⟨Az,ca,hzB,⟨n0,n1,n2⟩,_⟩:=hR.at_ HZ.out;have hyl:y.1.length≤140737488355328:=by rw [←HY.out];exact zdS z _ _ hzB.len
 replace E:=(E.give aB.bytes hzB).give aB.zoneL ⟨n0,n1,n2⟩;have hgz:=hR.lt;have hg:=hB.lt;clear hB hR hx1 hx2 hzB n0 n1 n2 hd;go_enter Tryz.func46,Tryz.ntmps46
 go_upto_region 1 with fail;have HK:Hid (∀ W,Below w.heap.size w W→(∀ o,W.cell? ⟨g,o,none⟩=(dK d c dn0 gz cz A1 c1 A2 c2)[o]?)∧W.cell? ⟨gz,i*3,none⟩=some (.int .i64 z.st)∧W.cell? ⟨gz,i*3+1,none⟩=some (.int .i64 z.fe)∧W.cell? ⟨gz,i*3+2,none⟩=some (.slice Az z.d.length ca)):=zia fun W h=>⟨((E.step h).rules m0).1,(E.step h).get m0⟩
 go_region_held3 (fun W=>(∀ o,W.cell? ⟨g,o,none⟩=(dK d c dn0 gz cz A1 c1 A2 c2)[o]?)∧W.cell? ⟨gz,i*3,none⟩=some (.int .i64 z.st)∧W.cell? ⟨gz,i*3+1,none⟩=some (.int .i64 z.fe)∧W.cell? ⟨gz,i*3+2,none⟩=some (.slice Az z.d.length ca))
  (first | with_reducible exact HK.out _ (zif _ _).drew | with_reducible exact HK.out _ hb1 | with_reducible exact HK.out _ hb2)
  (first
   | (go_at_call 109
      refine (cK g gz i d c dn0 _ ((E.step (zif _ _).drew).get m3) hi hl).mono ?_;rintro e w1 ⟨rfl,hb1⟩;replace hb1:=(zif w.heap.size w).drew.trans hb1)
   | (go_at_call 112
      refine (zdY _ z c.off c.n _ w1 ⟨Az,ca,rfl,(E.step hb1).get m1⟩ hoff).mono ?_;rw [HY.out];rintro e w2 ⟨v',rfl,⟨A9,c9,rfl,how⟩,hb2⟩;have hyB:=IsB.of_own how hyl;replace hb2:=hb1.trans (hb2.mono hb1.size)))
 have hs1:=hb1.size;replace hyB:=hyB.more (K':=fun b=>b≠g∧b≠gz∧X b) (fun b hb=>⟨by omega,by omega,hX _ (by omega)⟩)
 replace E:=E.step hb2;obtain ⟨q2,f2,t2⟩:=E.rules m0;unfold dK at q2;have hyd:=((E.get m3).setData hyB);have HYD:=zia hyd;clear hyd hyB how;go_wp2;go_ret;exact ⟨rfl,HYD.out,(aA.of E.below).set (.inl rfl) _ _⟩
theorem zg0 (l:List Value) (o:Nat) (x0 x1 x2:Value) (h0:l[o]?=some x0) (h2:l[o+2]?=some x2):((l.set o x0).set (o+1) x1).set (o+2) x2=l.set (o+1) x1:=by
 apply zki;intro k;simp only [List.getElem?_set,zjs];by_cases k2:o+2=k
 · subst k2
   obtain ⟨hk,_⟩:=zil.1 h2;rw [zij rfl,zij hk,zig (by omega),h2]
 · rw [zig k2]
   by_cases k1:o+1=k
   · rw [zij k1,zij k1]
   · rw [zig k1,zig k1]
     by_cases k0:o=k
     · subst k0
       obtain ⟨hk,_⟩:=zil.1 h0;rw [zij rfl,zij hk,h0]
     · rw [zig k0]
theorem fU.fence {w:World} {g:Nat} {t:TypeId} {K:Nat→Prop} {l:List Zn} {z:Zn} (h:fU w g t K l) {i:Nat} (hz:l[i]?=some z) (e:Int) (hK:∀ b,K b→b≠g):fU (w.setCell ⟨g,i*3+1,none⟩ (.int .i64 e)) g t K (l.set i ⟨z.st,e,z.d⟩):=by
 have ht:=(aA.refl w (fun b=>b=g)).set (g:=g) rfl (i*3+1) (.int .i64 e)
 obtain ⟨hi,_⟩:=zil.1 hz;obtain ⟨cs,sp,h1,h2⟩:=h;have hlen:cs.length=l.length*3:=h2.len;obtain ⟨es,hes,hcell⟩:=h2.at_ hz;obtain ⟨A,c,rfl,hB⟩:=zaj hes;have e3:Rp.zone.size=3:=rfl;have hs:=(h2.set (zah (z:=⟨z.st,e,z.d⟩) hB) hi).turned ht hK;refine ⟨_,sp,?_,hs⟩;have hb:=h1.set_ (i*3+1) (.int .i64 e);have hfit:i*3+3≤(cs++sp).length:=by rw [zie];omega
 have hg:∀ (k:Nat) u,(iS z A c)[k]?=some u→(cs++sp)[i*3+k]?=some u:=fun k u hu=>by
  have:=hcell k u hu;rw [e3] at this;rw [zjx (zil.1 this).1];exact this
 have e':=zM (cs++sp) (i*3) (.int .i64 z.st) (.int .i64 e) (.slice A z.d.length c) hfit;rw [zg0 (cs++sp) (i*3) _ _ _ (hg 0 _ rfl) (hg 2 _ rfl)] at e';rw [ziY,e',ziW (by omega),zjw (by omega)] at hb
 have e2:(i+1)*Rp.zone.size=i*3+3:=by show (i+1)*3=_;omega
 rw [e2,e3];simpa [iS] using hb
theorem bG.fence {w:World} {X:Nat→Prop} {g gz i:Nat} {d:Zd} {c:Cm} {dn:Dn} {z:Zn} (h:bG X w g gz d c dn) (hz:d.z[i]?=some z) (e:Int) :
 bG X (w.setCell ⟨gz,i*3+1,none⟩ (.int .i64 e)) g gz (d.with (d.z.set i ⟨z.st,e,z.d⟩)) c dn:=by
 obtain ⟨cz,A1,c1,A2,c2,h1,h2,h3,h4,h5,h6,h7⟩:=h;have ht:=(aA.refl w (fun b=>b=gz)).set (g:=gz) rfl (i*3+1) (.int .i64 e)
 have el:(d.z.set i ⟨z.st,e,z.d⟩).length=d.z.length:=zjs;refine ⟨cz,A1,c1,A2,c2,?_,h2.fence hz e (fun b hb=>hb.2.1),h3.turned ht (fun b hb=>hb.2.1),h4.turned ht (fun b hb=>hb.2.1),by show (d.z.set i _).length≤cz;rw [el];exact h5,h6,h7⟩
 have:=h1.turned ht h7;unfold dK Zd.with
 rw [el];exact this
theorem zbh (g gz i:Nat) {X:Nat→Prop} (d:Zd) (c:Cm) (w:World) (hd:bG X w g gz d c dn0) (hi:c.zone=(i:Int)) (hl:i<d.z.length) :
 Calls Tryz.prog 51 #[.pointer (some ⟨g,0,none⟩)] w (gB X w g gz d c (pI d i c)):=by
 have hz:d.z[i]?=some d.z[i]:=zib hl;unfold pI;rw [iZ hl];generalize d.z[i]=z at hz ⊢;obtain ⟨res,hres⟩:∃ res:Int × List Zn × Dn,(if c.epoch≤z.fe then (42,d.z,dn0) else (0,d.z.set i ⟨z.st,c.epoch,z.d⟩,dn0))=res:=⟨_,rfl⟩;rw [hres];have HRES:=zia hres;have HZ:=zia hz;clear hz hres;have hd0:=hd;obtain ⟨cz,A1,c1,A2,c2,hB,hR,hx1,hx2,hcz,hcz2,hne⟩:=hd0;have E:=(((Kn.start w).give aB.desk hd).give aB.rowZ hR).know hB;obtain ⟨Az,ca,hzB,⟨n0,n1,n2⟩,_⟩:=hR.at_ HZ.out;replace E:=(E.give aB.bytes hzB).give aB.zoneL ⟨n0,n1,n2⟩;have hgz:=hR.lt;have hg:=hB.lt;clear hB hR hx1 hx2 hzB n0 n1 n2 hd;go_enter Tryz.func51,Tryz.ntmps51
 go_upto_region 1 with fail;have HK:Hid (∀ W,Below w.heap.size w W→(∀ o,W.cell? ⟨g,o,none⟩=(dK d c dn0 gz cz A1 c1 A2 c2)[o]?)∧W.cell? ⟨gz,i*3+1,none⟩=some (.int .i64 z.fe)):=zia fun W h=>⟨((E.step h).rules m0).1,((E.step h).get m0).2.1⟩
 go_region_held3 (fun W=>(∀ o,W.cell? ⟨g,o,none⟩=(dK d c dn0 gz cz A1 c1 A2 c2)[o]?)∧W.cell? ⟨gz,i*3+1,none⟩=some (.int .i64 z.fe))
  (first | with_reducible exact HK.out _ (zif _ _).drew | with_reducible exact HK.out _ hb1)
  (first
   | (go_at_call 109
      refine (cK g gz i d c dn0 _ ((E.step (zif _ _).drew).get m3) hi hl).mono ?_;rintro e w1 ⟨rfl,hb1⟩;replace hb1:=(zif w.heap.size w).drew.trans hb1))
 replace E:=E.step hb1;clear HK;by_cases hle:c.epoch≤z.fe
 · have hr:=HRES.out
   rw [zij hle] at hr;have HR:=zia hr;clear hr HRES;go_wp2;go_ret;rw [←HR.out];exact ⟨rfl,E.get m3,aA.of E.below⟩
 · have hr:=HRES.out
   rw [zig hle] at hr;have HR:=zia hr;clear hr HRES;go_upto_region 3 with fail;have HK:Hid (∀ W,Below w1.heap.size w1 W→(∀ o,W.cell? ⟨g,o,none⟩=(dK d c dn0 gz cz A1 c1 A2 c2)[o]?)):=zia fun W h=>((E.step h).rules m0).1
   have HS:Hid (∀ W,Below w1.heap.size w1 W→∀ u,(∀ o,(W.setCell ⟨gz,i*3+1,none⟩ u).cell? ⟨g,o,none⟩=(dK d c dn0 gz cz A1 c1 A2 c2)[o]?)):=zia fun W h u=>(((E.step h).at_ m0).far (p:=⟨gz,i*3+1,none⟩) hne u).cell
   go_region_held3 (fun W=>(∀ o,W.cell? ⟨g,o,none⟩=(dK d c dn0 gz cz A1 c1 A2 c2)[o]?))
    (first | with_reducible exact HK.out _ (zif _ _).drew | with_reducible exact HK.out _ hb2 | with_reducible exact HS.out _ hb2 _)
    (first
     | (go_at_call 109
        refine (cK g gz i d c dn0 _ ((E.step (zif _ _).drew).get m3) hi hl).mono ?_;rintro e w2 ⟨rfl,hb2⟩;replace hb2:=(zif w1.heap.size w1).drew.trans hb2;obtain ⟨_,_,_,⟨_,n1,_⟩,⟨_,f1,_⟩⟩:=((E.step hb2).get m2).at_ HZ.out))
   go_wp2;go_ret;rw [←HR.out];exact ⟨rfl,((E.step hb2).get m3).fence HZ.out _,((aA.of E.below).step hb2).set (.inr rfl) _ _⟩
theorem zdZ (l:List Value) (o:Nat) (x0 x1 x2:Value) (h0:l[o]?=some x0) (h1:l[o+1]?=some x1):((l.set o x0).set (o+1) x1).set (o+2) x2=l.set (o+2) x2:=by
 apply zki;intro k;simp only [List.getElem?_set,zjs];by_cases k2:o+2=k
 · rw [zij k2,zij k2]
 · rw [zig k2,zig k2]
   by_cases k1:o+1=k
   · subst k1
     obtain ⟨hk,_⟩:=zil.1 h1;rw [zij rfl,zij hk,h1]
   · rw [zig k1]
     by_cases k0:o=k
     · subst k0
       obtain ⟨hk,_⟩:=zil.1 h0;rw [zij rfl,zij hk,h0]
     · rw [zig k0]
theorem fU.rest {w:World} {g:Nat} {t:TypeId} {K:Nat→Prop} {l:List Zn} {z:Zn} (h:fU w g t K l) {i:Nat} (hz:l[i]?=some z) {A':Option Addr} {c':Nat} (hB':IsB w K (.slice A' z.d.length c') z.d) (hK:∀ b,K b→b≠g):fU (w.setCell ⟨g,i*3+2,none⟩ (.slice A' z.d.length c')) g t K l:=by
 have ht:=(aA.refl w (fun b=>b=g)).set (g:=g) rfl (i*3+2) (.slice A' z.d.length c')
 obtain ⟨hi,hzi⟩:=zil.1 hz;obtain ⟨cs,sp,h1,h2⟩:=h;have hlen:cs.length=l.length*3:=h2.len;obtain ⟨es,hes,hcell⟩:=h2.at_ hz;obtain ⟨A,c,rfl,hB⟩:=zaj hes;have e3:Rp.zone.size=3:=rfl;have hs:=(h2.set (zah hB') hi).turned ht hK;have el:l.set i z=l:=by rw [←hzi];exact List.set_getElem_self hi
 rw [el] at hs;refine ⟨_,sp,?_,hs⟩;have hb:=h1.set_ (i*3+2) (.slice A' z.d.length c');have hfit:i*3+3≤(cs++sp).length:=by rw [zie];omega
 have hg:∀ (k:Nat) u,(iS z A c)[k]?=some u→(cs++sp)[i*3+k]?=some u:=fun k u hu=>by
  have:=hcell k u hu;rw [e3] at this;rw [zjx (zil.1 this).1];exact this
 have e':=zM (cs++sp) (i*3) (.int .i64 z.st) (.int .i64 z.fe) (.slice A' z.d.length c') hfit;rw [zdZ (cs++sp) (i*3) _ _ _ (hg 0 _ rfl) (hg 1 _ rfl)] at e';rw [ziY,e',ziW (by omega),zjw (by omega)] at hb
 have e2:(i+1)*Rp.zone.size=i*3+3:=by show (i+1)*3=_;omega
 rw [e2,e3];simpa [iS] using hb
theorem IsL.zero {α:Type} {R:Rp α} {w:World} {K:Nat→Prop} {A:Option Addr} {c:Nat} {l:List α} (h:l=[]) (hc:c≤9223372036854775807):IsL R w K (.slice A l.length c) l:=by
 subst h;exact ⟨A,c,[],rfl,⟨by simp,fun h=>absurd h (by simp)⟩,rfl,zir _,hc,by simp⟩
theorem aI.zlt {w:World} {K:Nat→Prop}:∀ {l:List Zn} {cs:List Value},aI Rp.zone w K cs l→aI Rp.zone w (fun b=>K b∧b<w.heap.size) cs l
 | [],_,h=>h
 | _::_,_,⟨c1,c2,e,⟨v,e1,h1⟩,h2⟩=>⟨c1,c2,e,⟨v,e1,h1.lt⟩,h2.zlt⟩
theorem fU.blt {w:World} {g:Nat} {t:TypeId} {K:Nat→Prop} {l:List Zn} (h:fU w g t K l):fU w g t (fun b=>K b∧b<w.heap.size) l:=by
 obtain ⟨cs,sp,h1,h2⟩:=h;exact ⟨cs,sp,h1,h2.zlt⟩
theorem IsL.zlt {w:World} {K:Nat→Prop} {v:Value} {l:List Zn} (h:IsL Rp.zone w K v l):IsL Rp.zone w (fun b=>K b∧b<w.heap.size) v l:=by
 obtain ⟨A,c,cs,e,h1,h2,h3⟩:=h;exact ⟨A,c,cs,e,h1.lt (by show 0<3;omega),h2.zlt,h3⟩
def zhk (w:World) (base:Nat) (K:Nat→Prop) (d:Zd) (v:Value):Prop:=
 ∃ A c,v=.agg #[.int .i64 d.cap,.int .i64 d.opn,.int .i64 d.act,.slice A d.z.length c]∧IsL Rp.zone w (fun b=>K b∨base≤b) (.slice A d.z.length c) d.z ∧
   (0<d.z.length→∃ gz,A=some ⟨gz,0,none⟩∧base≤gz∧fU w gz 134 (fun b=>(K b∨base≤b)∧b≠gz) d.z)
theorem dA (d:Zd) (v:Value) (K:Nat→Prop) (w:World) (hv:IsL Rp.zone w K v d.z) (hn:d.z.length*40≤140737488355328) (hlt:∀ b,K b→b<w.heap.size) :
 Calls Tryz.prog 44 #[.agg #[.int .i64 d.cap,.int .i64 d.opn,.int .i64 d.act,v]] w fun e w'=>∃ v',e=.returned v'∧zhk w' w.heap.size K d v'∧Below w.heap.size w w':=by
 have hv0:=hv;obtain ⟨A,c,cs,rfl,hr,hcl,hlc,hcc,hlen47⟩:=hv0;have E:=((Kn.start w).give aB.list hv).push 26 #[.int .i64 d.cap,.int .i64 d.opn,.int .i64 d.act,.slice A d.z.length c] |>.push 26 #[.int .i64 0,.int .i64 0,.int .i64 0,.slice none 0 0]
 go_enter Tryz.func44,Tryz.ntmps44
 go_wp2_with fail;refine (zbo A d.z.length c K cs _ ((hr.alloc _).alloc _) hcl.one hn).mono ?_;rintro e w1 ⟨A1,c1,rfl,how,hb1⟩;replace E:=E.step hb1;have hs1:=hb1.size;rw [zid,zid] at hs1;obtain ⟨q0,f0,t0⟩:=E.rules m1;have hcl1:aI Rp.zone w1 K cs d.z:=((hcl.alloc _).alloc _).step hb1;clear hr hcl;go_wp2_with fail;have hbs:Below w.heap.size w (w1.setCell ⟨w.heap.size,3,none⟩ (.slice A1 d.z.length c1)):=E.below.setCell (zic _) _;have hB0:=(E.at_ m1).set_ 3 (.slice A1 d.z.length c1);have hB2:=(E.at_ m0).far (p:=⟨w.heap.size,3,none⟩) (by rw [zid];show w.heap.size+1≠w.heap.size;omega) (.slice A1 d.z.length c1)
 have hrow:d.z=[]∨∃ gz,A1=some ⟨gz,0,none⟩∧w.heap.size+2≤gz∧fU (w1.setCell ⟨w.heap.size,3,none⟩ (.slice A1 d.z.length c1)) gz 134 (fun b=>(K b∨w.heap.size+2≤b)∧b≠gz) d.z:=by
  by_cases hz:d.z=[]
  · exact .inl hz
  · right
    have hpos:=zjR.2 hz;rcases how.2 with ⟨h2,_⟩ | ⟨g',cap,cur,hv',hg,_⟩
    · injection h2 with _ h2 _;omega
    · injection hv' with e1 _ _
      subst e1;rw [zid,zid] at hg;refine ⟨g',rfl,hg,?_⟩;have hR:=(fU.of how hcl1).more (K':=fun b=>(K b∨w.heap.size+2≤b)∧b≠g') (fun b hb=>by have:=hlt b hb;exact ⟨.inl hb,by omega⟩)
      exact hR.far (by omega) (fun h=>by rcases h.1 with h | h;exact absurd (hlt _ h) (zkt _);omega) _ _
 generalize w1.setCell ⟨w.heap.size,3,none⟩ (.slice A1 d.z.length c1)=w2 at hbs hB0 hB2 hrow ⊢;rw [zid] at hB2;have hc1:=cD how;have hc2:=bF how;clear how hb1 hcl1 q0 f0 t0 E hs1;have hn63:d.z.length≤9223372036854775807:=by omega
 go_loopw [3,11] (fun x y wr=>∃ j:Nat,y=.int .i64 j∧j≤d.z.length∧Below w.heap.size w wr∧Blk wr w.heap.size 26 #[.int .i64 d.cap,.int .i64 d.opn,.int .i64 d.act,.slice A1 d.z.length c1]∧Blk wr (w.heap.size+1) 26 #[.int .i64 0,.int .i64 0,.int .i64 0,.slice none 0 0] ∧
  (d.z=[]∨∃ gz,A1=some ⟨gz,0,none⟩∧w.heap.size+2≤gz∧fU wr gz 134 (fun b=>(K b∨w.heap.size+2≤b)∧b≠gz) d.z)∧∃ u,x=u) (fun _ y _=>d.z.length-(intOf y).toNat)
 case atStart=>exact ⟨0,rfl,zir _,hbs,hB0,hB2,hrow,_,rfl⟩
 case round=>
  obtain ⟨j,rfl,hj,hb,hBa,hBb,hrw,u,rfl⟩:=hrel;obtain ⟨q0,f0⟩:=hBa.rules;obtain ⟨q1,f1⟩:=hBb.rules;have t0:=hBa.lt;have t1:=hBb.lt;by_cases hjl:j<d.z.length
  · have i0:(0:Int)≤(j:Int):=by omega
    have i1:(j:Int)<(d.z.length:Int):=by omega
    obtain ⟨gz,rfl,hgz,hR⟩:=hrw.resolve_left (fun h=>by rw [h] at hjl;exact absurd hjl (Nat.not_lt_zero _))
    have hz:=zib hjl;obtain ⟨Aj,cj,hjB,⟨n0,n1,n2⟩,⟨g0,g1,g2⟩⟩:=hR.at_ hz;have hgl:=hR.lt;obtain ⟨ad,had⟩:∃ ad:Addr,ad=⟨gz,0,none⟩:=⟨_,rfl⟩;have hadd:∀ o,ad.add o=⟨gz,o,none⟩:=fun o=>by rw [had];exact zhD gz o
    have hBad:Blk wr w.heap.size 26 (#[.int .i64 d.cap,.int .i64 d.opn,.int .i64 d.act,.slice (some ad) d.z.length c1]:Array Value):=by rw [had];exact hBa
    have HAD:=zia had;rw [←had] at q0;clear had hrw;go_upto_region 5 with fail;have HK:Hid (∀ W,Below wr.heap.size wr W→∀ o,W.cell? ⟨w.heap.size,o,none⟩=(#[.int .i64 d.cap,.int .i64 d.opn,.int .i64 d.act,.slice (some ad) d.z.length c1]:Array Value)[o]?):=zia fun W h=>(hBad.step h).cell
    have HS:Hid (∀ W,Below wr.heap.size wr W→∀ u,∀ o,(W.setCell ⟨gz,j*3+2,none⟩ u).cell? ⟨w.heap.size,o,none⟩=(#[.int .i64 d.cap,.int .i64 d.opn,.int .i64 d.act,.slice (some ad) d.z.length c1]:Array Value)[o]?):=zia fun W h u=>((hBad.step h).far (p:=⟨gz,j*3+2,none⟩) (by show w.heap.size≠gz;omega) u).cell
    refine wp_region_held_drew (S:=fun W=>∀ o,W.cell? ⟨w.heap.size,o,none⟩=(#[.int .i64 d.cap,.int .i64 d.opn,.int .i64 d.act,.slice (some ad) d.z.length c1]:Array Value)[o]?) (by kernel_rfl) (HK.out _ (zif _ _).drew) (fun hHeld=>?_)
    refine wT 0 14 ?_;refine wT 1 15 ?_;refine wT 2 16 ?_;refine wT 3 17 ?_;refine wT 4 18 ?_;refine wT 5 19 ?_;refine wT 6 20 ?_;refine wT 7 21 ?_;refine wpAnyH_ready (rs:=[8]) (by kernel_rfl) (by simp) ?_
    refine AllReadyH.cons (o:=⟨some 22,_,_,_,_,_⟩) rfl (fun K hK=>?_) AllReadyH.nil
    go_simp;refine hK.out _ _ (HK.out _ (zif _ _).drew) (fun hHeld=>?_)
    clear hK K;try simp only [pu,List.set]
    refine wpAnyH_ready (rs:=[9]) (by kernel_rfl) (by simp) ?_
    refine AllReadyH.cons (o:=⟨some 23,_,_,_,_,_⟩) rfl (fun K hK=>?_) AllReadyH.nil
    go_simp;refine (cE _ d.z[j].d _ _ (hjB.step (zif _ _).drew)).mono ?_;rintro e w3 ⟨A9,c9,rfl,how,hb3⟩;have hs3:wr.drew.heap.size=wr.heap.size:=rfl;replace hb3:=(zif wr.heap.size wr).drew.trans hb3;obtain ⟨_,_,_,⟨_,_,m2'⟩,⟨_,_,k2⟩⟩:=(hR.step hb3).at_ hz;go_wp2_with fail;refine hK.out _ _ (HK.out _ hb3) (fun hHeld=>?_)
    clear hK K;try simp only [pu,List.set]
    refine wT 10 24 ?_;refine wT 11 25 ?_;refine wpAnyH_ready (rs:=[12]) (by kernel_rfl) (by simp) ?_
    refine AllReadyH.cons (o:=⟨none,_,_,_,_,_⟩) rfl (fun K hK=>?_) AllReadyH.nil
    go_simp;refine hK.out _ _ (HS.out _ hb3 _) (fun hHeld=>?_)
    clear hK K;try simp only [pu,List.set]
    refine wpAnyH_done (by kernel_rfl) ?_ _
    have hyB:=(IsB.of_own how hjB.len).more (K':=fun b=>(K b∨w.heap.size+2≤b)∧b≠gz) (fun b hb=>⟨.inr (by omega),by omega⟩)
    have hR':=(hR.step hb3).rest hz hyB (fun b hb=>hb.2)
    have hBa':=(hBa.step hb3).far (p:=⟨gz,j*3+2,none⟩) (by show w.heap.size≠gz;omega) (.slice A9 d.z[j].d.length c9)
    have hBb':=(hBb.step hb3).far (p:=⟨gz,j*3+2,none⟩) (by show w.heap.size+1≠gz;omega) (.slice A9 d.z[j].d.length c9)
    have hb':Below w.heap.size w (w3.setCell ⟨gz,j*3+2,none⟩ (.slice A9 d.z[j].d.length c9)):=(hb.trans (hb3.mono hb.size)).setCell (show w.heap.size≤gz by omega) _
    have HR':=zia hR';have HBa:=zia hBa';have HBb:=zia hBb';have HB':=zia hb';clear hR' hBa' hBb' hb' hyB how q0 q1 n0 n1 n2;go_wp2_with fail;go_roundw
    case rel=>exact ⟨j+1,by go_num,by omega,HB'.out,HBa.out,HBb.out,.inr ⟨gz,rfl,hgz,HR'.out⟩,_,rfl⟩
    case measure=>simp [intOf];omega
  · obtain rfl:j=d.z.length:=by omega
    go_wp2;have hBr:=(((hBb.set_ 0 (.int .i64 d.cap)).set_ 1 (.int .i64 d.opn)).set_ 2 (.int .i64 d.act)).set_ 3 (.slice A1 d.z.length c1);have ht:=(((((aA.refl wr (fun b=>b=w.heap.size+1)).set (g:=w.heap.size+1) rfl 0 (.int .i64 d.cap)).set (g:=w.heap.size+1) rfl 1 (.int .i64 d.opn)).set (g:=w.heap.size+1) rfl 2 (.int .i64 d.act)).set (g:=w.heap.size+1) rfl 3 (.slice A1 d.z.length c1))
    generalize (((wr.setCell ⟨w.heap.size+1,0,none⟩ (.int .i64 d.cap)).setCell ⟨w.heap.size+1,1,none⟩ (.int .i64 d.opn)).setCell ⟨w.heap.size+1,2,none⟩ (.int .i64 d.act)).setCell ⟨w.heap.size+1,3,none⟩ (.slice A1 d.z.length c1)=w9 at hBr ht ⊢;have hb9:Below w.heap.size w w9:=hb.trans (ht.below (fun k hk=>by omega) hb.size)
    obtain ⟨q9,f9⟩:=hBr.rules;clear q0 q1 f0 f1;refine zik (v:=.agg #[.int .i64 d.cap,.int .i64 d.opn,.int .i64 d.act,.slice A1 d.z.length c1]) (by simp [results,Tryz.results44,go_sem,q9]) rfl ⟨_,rfl,⟨A1,c1,rfl,?_,?_⟩,hb9⟩
    · rcases hrw with hz | ⟨gz,rfl,hgz,hR⟩
      · exact IsL.zero hz hc2
      · exact ((hR.turned ht (by omega) (fun b hb=>by rcases hb.1 with h | h;have:=hlt b h;omega;omega)).isL hc1 hc2 (by omega)).more fun b hb=>by rcases hb with rfl | hb;exact .inr (by omega);rcases hb.1 with h | h;exact .inl h;exact .inr (by omega)
    · intro hpos
      obtain ⟨gz,rfl,hgz,hR⟩:=hrw.resolve_left (fun h=>by rw [h] at hpos;exact absurd hpos (zkt _))
      exact ⟨gz,rfl,by omega,(hR.turned ht (by omega) (fun b hb=>by rcases hb.1 with h | h;have:=hlt b h;omega;omega)).more fun b hb=>⟨hb.1.imp id (fun h=>by omega),hb.2⟩⟩
theorem IsB.away {w:World} {K:Nat→Prop} {v:Value} {l:List UInt8} {b:Nat} {t:TypeId} {cs:Array Value} (h:IsB w K v l) (hB:Blk w b t cs) (hc:∀ (o:Nat) (n:Int),cs[o]?≠some (Value.int .u8 n)):IsB w (fun x=>K x∧x≠b) v l:=by
 obtain ⟨A,c,rfl,⟨h1,h2⟩,h3⟩:=h;refine ⟨A,c,rfl,⟨h1,fun hn=>?_⟩,h3⟩
 obtain ⟨ad,e,hK,hc'⟩:=h2 hn;refine ⟨ad,e,⟨hK,fun hb=>?_⟩,hc'⟩
 obtain ⟨x,l',rfl⟩:∃ x l',l=x::l':=by
  cases l with
  | nil=>exact absurd hn (zkt _)
  | cons x l'=>exact ⟨x,l',rfl⟩
 have h0:=hc' 0 (B8 x) rfl;rw [cW] at h0;obtain ⟨ab,ao,az⟩:=ad;have hb':ab=b:=hb;subst hb';unfold Blk at hB;cases az with
 | some s=>simp [World.cell?,hB] at h0
 | none=>
   rw [show w.cell? ⟨ab,ao,none⟩=cs[ao]? by simp [World.cell?,hB]] at h0
   exact hc _ _ h0
theorem aI.zaway {w:World} {K:Nat→Prop} {b:Nat} {t:TypeId} {cs9:Array Value} (hB:Blk w b t cs9) (hc:∀ (o:Nat) (n:Int),cs9[o]?≠some (Value.int .u8 n)):∀ {l:List Zn} {cs:List Value},aI Rp.zone w K cs l→aI Rp.zone w (fun x=>K x∧x≠b) cs l
 | [],_,h=>h
 | _::_,_,⟨c1,c2,e,⟨v,e1,h1⟩,h2⟩=>⟨c1,c2,e,⟨v,e1,h1.away hB hc⟩,h2.zaway hB hc⟩
theorem fU.away {w:World} {g:Nat} {t:TypeId} {K:Nat→Prop} {l:List Zn} {b:Nat} {t9:TypeId} {cs9:Array Value} (h:fU w g t K l) (hB:Blk w b t9 cs9) (hc:∀ (o:Nat) (n:Int),cs9[o]?≠some (Value.int .u8 n)):fU w g t (fun x=>K x∧x≠b) l:=by
 obtain ⟨cs,sp,h1,h2⟩:=h;exact ⟨cs,sp,h1,h2.zaway hB hc⟩
theorem nb4 {a b c:Int}:∀ (o:Nat) (n:Int),(#[.int .i64 a,.int .i64 b,.int .i64 c,.slice none 0 0]:Array Value)[o]?≠some (Value.int .u8 n):=by
 intro o n;rcases o with _ | _ | _ | _ | o <;> simp
theorem nb3 {a b:Int}:∀ (o:Nat) (n:Int),(#[.int .i64 a,.int .i64 b,.slice none 0 0]:Array Value)[o]?≠some (Value.int .u8 n):=by
 intro o n;rcases o with _ | _ | _ | o <;> simp
theorem zcy (d:Zd) (i:Nat) (c:Cm):(doK d i c).2.1.length=d.z.length:=by
 have hr:=nJ d i;have ha:(cU d i c).2.1.length=d.z.length:=by
  unfold cU;dsimp only
  (repeat' split) <;> simp [hr]
 unfold doK zdQ zdX zeK zal pI;dsimp only
 (repeat' split) <;> simp [hr,ha]
def zhZ (w:World) (v:Value) (x:Dn):Prop:=∃ A k,v=.agg #[.int .i64 x.e,.int .i64 x.at_,.slice A x.data.length k]∧IsB w (fun _=>True) (.slice A x.data.length k) x.data
def NoB (cs:Array Value):Prop:=∀ (o:Nat) (n:Int),cs[o]?≠some (Value.int .u8 n)
theorem IsB.boxed {w w':World} {g:Nat} {t:TypeId} {cs9:Array Value} {K:Nat→Prop} {v:Value} {l:List UInt8} (h:IsB w K v l) (hB:Blk w g t cs9) (hc:NoB cs9) (ht:aA w w' (fun b=>b=g)):IsB w' K v l:=
 ((h.away hB hc).turned ht (fun _ hb e=>hb.2 e)).more fun _ hb=>hb.1
def zgm (zones most opn act:Int):Zd × Int:=
 if zones<1∨64<zones then (⟨0,0,0,[]⟩,1) else if oH ⟨most,opn,act,List.replicate zones.toNat z0⟩=0 then (⟨most,opn,act,List.replicate zones.toNat z0⟩,0) else (⟨0,0,0,[]⟩,1)
theorem zdM (z:Array Value) (n:Nat):(madeCells z (n*z.size)).toList=(List.replicate n z.toList).flatten:=by
 have h:∀ k,(madeCells z k).toList=(List.range k).map (fun i=>z[i % z.size]!):=fun k=>by simp [madeCells]
 induction n with
 | zero=>simp [h]
 | succ n ih=>
   rw [List.replicate_succ',List.flatten_append,←ih,h,h,zk6,zkG,List.range_add,ziZ,List.map_map];congr 1
   simp only [List.flatten_cons,List.flatten_nil,ziz];apply List.ext_getElem
   · simp
   · intro i h1 h2
     have h3:i<z.size:=by simpa using h1
     simp [Nat.mod_eq_of_lt h3,h3]
theorem zeR (w:World) (K:Nat→Prop) (n:Nat):aI Rp.zone w K (List.replicate n [.int .i64 0,.int .i64 0,.slice none 0 0]).flatten (List.replicate n z0):=by
 induction n with
 | zero=>rfl
 | succ n ih=>
   rw [List.replicate_succ,List.replicate_succ,List.flatten_cons];exact ⟨_,_,rfl,⟨_,rfl,IsB.nil_ _ _⟩,ih⟩
