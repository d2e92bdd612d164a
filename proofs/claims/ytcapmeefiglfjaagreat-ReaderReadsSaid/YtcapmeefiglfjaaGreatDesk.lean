/- A part of the proof. -/
import Derived.Test.YtcapmeefiglfjaaGreatRgn
import Derived.BigQuiet
import Derived.Test.YtcapmeefiglfjaaGreatZone
import Derived.Deep.DrawnRows
set_option linter.unusedSimpArgs false
set_option maxHeartbeats 8000000
set_option maxRecDepth 100000
namespace Go.Proofs.YtcapmeefiglfjaaGreat
open Go.RowKit
abbrev dK (d:Zd) (c:Cm) (dn:Dn) (gz cz:Nat) (A1:Option Addr) (c1:Nat) (A2:Option Addr) (c2:Nat):Array Value:=
 #[.int .i64 d.cap,.int .i64 d.opn,.int .i64 d.act,.slice (some ⟨gz,0,none⟩) d.z.length cz,.int .i64 c.op,.int .i64 c.zone,.int .i64 c.epoch,.int .i64 c.off,.int .i64 c.n,.slice A1 c.data.length c1,.int .i64 dn.e,.int .i64 dn.at_,.slice A2 dn.data.length c2]
def bG (X:Nat→Prop) (w:World) (g gz:Nat) (d:Zd) (c:Cm) (dn:Dn):Prop:=
 ∃ cz A1 c1 A2 c2,Blk w g 130 (dK d c dn gz cz A1 c1 A2 c2)∧fU w gz 134 (fun b=>b≠g∧b≠gz∧X b) d.z∧IsB w (fun b=>b≠g∧b≠gz∧X b) (.slice A1 c.data.length c1) c.data ∧
   IsB w (fun b=>b≠g∧b≠gz∧X b) (.slice A2 dn.data.length c2) dn.data∧d.z.length≤cz∧cz≤9223372036854775807∧g≠gz
theorem bG.step {w w':World} {X:Nat→Prop} {g gz:Nat} {d:Zd} {c:Cm} {dn:Dn} (h:bG X w g gz d c dn) (hb:Below w.heap.size w w'):bG X w' g gz d c dn:=by
 obtain ⟨cz,A1,c1,A2,c2,h1,h2,h3,h4,h5⟩:=h;exact ⟨cz,A1,c1,A2,c2,h1.step hb,h2.step hb,h3.step hb,h4.step hb,h5⟩
theorem aB.desk {X:Nat→Prop} {g gz:Nat} {d:Zd} {c:Cm} {dn:Dn}:aB (fun w=>bG X w g gz d c dn):=fun _ _ h hb=>h.step hb
theorem cK (g gz i:Nat) {X:Nat→Prop} (d:Zd) (c:Cm) (dn:Dn) (w:World) (hd:bG X w g gz d c dn) (hi:c.zone=(i:Int)) (hl:i<d.z.length) :
 Calls Tryz.prog 109 #[.pointer (some ⟨g,0,none⟩)] w fun e w'=>e=.returned (.pointer (some ⟨gz,i*3,none⟩))∧Below w.heap.size w w':=by
 obtain ⟨cz,A1,c1,A2,c2,hB,hR,_,_,hcz,hcz2,hne⟩:=hd;obtain ⟨ad,had⟩:∃ ad:Addr,ad=⟨gz,0,none⟩:=⟨_,rfl⟩;have hadd:∀ o,ad.add o=⟨gz,o,none⟩:=fun o=>by rw [had];exact zhD gz o
 unfold dK at hB;rw [←had,hi] at hB;have HAD:=zia had;clear had;obtain ⟨q1,f1⟩:=hB.rules;have t1:=hB.lt;have i0:(0:Int)≤(i:Int):=by omega
 have i1:(i:Int)<(d.z.length:Int):=by omega
 clear hi;go_enter Tryz.func109,Tryz.ntmps109
 go_wp2_with fail;go_quiet (fail);go_wp2;go_ret;exact ⟨rfl,aS (zif _ _) _⟩
def Zd.with (d:Zd) (zs:List Zn):Zd:=⟨d.cap,d.opn,d.act,zs⟩
theorem bG.put {w:World} {X:Nat→Prop} {g gz i:Nat} {d:Zd} {c:Cm} {dn:Dn} {z:Zn} {A:Option Addr} {cc:Nat} (h:bG X w g gz d c dn) (hl:i<d.z.length) (hz:IsB w (fun b=>b≠g∧b≠gz∧X b) (.slice A z.d.length cc) z.d) :
 bG X (zhJ w gz (i*3) z A cc) g gz (d.with (d.z.set i z)) c dn:=by
 obtain ⟨cz,A1,c1,A2,c2,h1,h2,h3,h4,h5,h6,h7⟩:=h;have ht:=lI (S:=fun b=>b=gz) (aA.refl w _) rfl (i*3) z A cc
 have e:(d.z.set i z).length=d.z.length:=zjs;refine ⟨cz,A1,c1,A2,c2,?_,h2.put hl hz (fun b hb=>hb.2.1),h3.turned ht (fun b hb=>hb.2.1),h4.turned ht (fun b hb=>hb.2.1),by show (d.z.set i z).length≤cz;rw [e];exact h5,h6,h7⟩
 have:=h1.turned ht h7;unfold dK Zd.with
 rw [e];exact this
theorem mC (g gz i:Nat) {X:Nat→Prop} (d:Zd) (c:Cm) (dn:Dn) (z:Zn) (A:Option Addr) (cc:Nat) (e:Int) (w:World) (hd:bG X w g gz d c dn) (hi:c.zone=(i:Int)) (hl:i<d.z.length) (hz:IsB w (fun b=>b≠g∧b≠gz∧X b) (.slice A z.d.length cc) z.d) :
 Calls Tryz.prog 111 #[.pointer (some ⟨g,0,none⟩),.agg #[.int .i64 z.st,.int .i64 z.fe,.slice A z.d.length cc],.int .i64 e] w fun en w'=>en=.returned (.int .i64 e) ∧
  bG X w' g gz (if e=0 then d.with (d.z.set i z) else d) c dn∧aA w w' (fun b=>b=gz):=by
 obtain ⟨d',hd'⟩:∃ d',(if e=0 then d.with (d.z.set i z) else d)=d':=⟨_,rfl⟩;rw [hd'];have HD':=zia hd';clear hd';have hgz:gz<w.heap.size:=by obtain ⟨_,_,_,_,_,_,hR,_⟩:=hd;exact hR.lt
 have hbz:Below w.heap.size w (w.alloc (.cells #[.int .i64 z.st,.int .i64 z.fe,.slice A z.d.length cc] 134)):=zBA;by_cases he:e=0
 · have heb:(e == 0)=true:=by simpa using he
   have E:=((Kn.start w).give aB.desk hd).give aB.bytes hz |>.push 134 #[.int .i64 z.st,.int .i64 z.fe,.slice A z.d.length cc]
   have HE:=zia he;clear he;clear hz hd hbz;go_enter Tryz.func111,Tryz.ntmps111
   go_upto_region 2 with fail;generalize hwA:w.alloc (.cells #[.int .i64 z.st,.int .i64 z.fe,.slice A z.d.length cc] 134)=wA at E ⊢;have HW:=zia hwA;clear hwA;have HQ:Hid (∀ W,Below wA.heap.size wA W→(∀ o,W.cell? ⟨w.heap.size,o,none⟩=(#[.int .i64 z.st,.int .i64 z.fe,.slice A z.d.length cc]:Array Value)[o]?)):=zia fun W h=>((E.step h).rules m0).1
   have hb0:Below wA.heap.size wA wA.drew:=(zif _ _).drew;have hbx:w.heap.size<wA.heap.size:=(E.at_ m0).lt;have HS:Hid (∀ W,Below wA.heap.size wA W→∀ u0 u1 u2:Value,(∀ o,(((W.setCell ⟨gz,i*3,none⟩ u0).setCell ⟨gz,i*3+1,none⟩ u1).setCell ⟨gz,i*3+2,none⟩ u2).cell? ⟨w.heap.size,o,none⟩=(#[.int .i64 z.st,.int .i64 z.fe,.slice A z.d.length cc]:Array Value)[o]?)):=
    zia fun W h u0 u1 u2=>(((((E.step h).at_ m0).far (p:=⟨gz,i*3,none⟩) (by show w.heap.size≠gz;omega) u0).far (p:=⟨gz,i*3+1,none⟩) (by show w.heap.size≠gz;omega) u1).far (p:=⟨gz,i*3+2,none⟩) (by show w.heap.size≠gz;omega) u2).cell
   have hrow:∀ W,Below wA.heap.size wA W→∃ z0 A0 c0,zgF W gz (i*3) z0 A0 c0∧zht W gz (i*3):=fun W h=>by
    obtain ⟨_,_,_,_,_,_,hR,_⟩:=(E.step h).get m1;obtain ⟨A0,c0,_,h1,h2⟩:=fU.at_ hR (zib hl);exact ⟨_,A0,c0,h1,h2⟩
   have HROW:=zia hrow;clear hrow;go_region_held3 (fun W=>(∀ o,W.cell? ⟨w.heap.size,o,none⟩=(#[.int .i64 z.st,.int .i64 z.fe,.slice A z.d.length cc]:Array Value)[o]?))
    (first | with_reducible exact HS.out _ hbN _ _ _ | with_reducible exact HQ.out _ hb0 | with_reducible exact HQ.out _ hbN)
    (first
     | (go_at_call 109
        refine (cK g gz i d c dn _ ((E.step hb0).get m1) hi hl).mono ?_;rintro e wN ⟨rfl,hb1⟩;have hbN:Below wA.heap.size wA wN:=hb0.trans hb1;obtain ⟨z1,A0,c0,⟨n0,n1,n2⟩,⟨f0,f1,f2⟩⟩:=HROW.out wN hbN))
   go_wp2;go_ret;refine ⟨by rw [HE.out];rfl,?_,?_⟩
   · rw [←HD'.out,zij HE.out]
     exact bG.put ((E.step hbN).get m1) hl ((E.step hbN).get m0)
   · exact lI (S:=fun b=>b=gz) (aA.of ((((zif _ _).alloc (zic _) (.cells #[.int .i64 z.st,.int .i64 z.fe,.slice A z.d.length cc] 134)).trans (by rw [HW.out];exact hbN.mono (by omega))))) rfl _ _ _ _
 · have heb:(e == 0)=false:=by simpa using he
   have hx:d'=d:=by rw [←HD'.out,zig he]
   rw [hx];have HX:=zia hx;clear hx he;go_enter Tryz.func111,Tryz.ntmps111
   go_wp2;go_ret;exact ⟨rfl,hd.step hbz,aA.of hbz⟩
theorem xF (z:Zn) (A:Option Addr) (c:Nat) (w:World) :
 Calls Tryz.prog 173 #[.agg #[.int .i64 z.st,.int .i64 z.fe,.slice A z.d.length c]] w fun e w'=>e=.returned (.bool (z.st == 1))∧Below w.heap.size w w':=by
 go_enter Tryz.func173,Tryz.ntmps173
 go_wp2;go_ret;exact ⟨rfl,zBA⟩
theorem zaS (v:Value) (l:List Zn) (K:Nat→Prop) (w:World) (hv:IsL Rp.zone w K v l) :
 Calls Tryz.prog 163 #[v,.func (.func 173) #[] #[]] w fun e w'=>
  e=.returned (.int .i64 (if impl? l<l.length then (impl? l:Int) else -1))∧Below w.heap.size w w':=by
 obtain ⟨res,hres⟩:∃ res:Int,res=if impl? l<l.length then (impl? l:Int) else -1:=⟨_,rfl⟩;rw [←hres];have HRES:=zia hres;clear hres;have hv0:=hv;obtain ⟨A,c,rfl,hlc,hcc⟩:=hv.form;have hlen:=hv.len;go_enter Tryz.func163,Tryz.ntmps163
 go_wp2_with fail;go_loopw [5,8] (fun x i wr=>∃ j:Nat,i=.int .i64 j∧j≤l.length∧j≤impl? l∧Below w.heap.size w wr∧(∃ y,x=y)) (fun _ i _=>l.length-(intOf i).toNat)
 case atStart=>exact ⟨0,rfl,zir _,zir _,zif _ _,_,rfl⟩
 case round=>
  obtain ⟨j,rfl,hj,hjf,hb,y,rfl⟩:=hrel;have hsz:=hb.size;by_cases hlt:j<l.length
  · have hp:(l[j].st == 1)=true→impl? l=j:=fun h=>(zk4 hlt).2 ⟨h,fun k hk=>by
     have:=zkp (p:=fun z:Zn=>z.st == 1) (xs:=l) (i:=k) (by unfold impl? at hjf;omega)
     simpa using this⟩
    have hp2:(l[j].st == 1)=false→j+1≤impl? l:=fun h=>by
     rcases zjb j (impl? l) with h1 | h1
     · exact h1
     · have e:impl? l=j:=by omega
       have:=zjc (p:=fun z:Zn=>z.st == 1) (xs:=l) (w:=by unfold impl? at e;omega)
       unfold impl? at e;simp only [e] at this;rw [h] at this;cases this
    obtain ⟨ad,B,cB,rfl,hadb,_,hB,hc0,hc1,hc2⟩:=IsL.zone_at (hv0.step hb) (zib hlt);generalize l[j]=z at hB hc0 hc1 hc2 hp hp2;obtain ⟨r,hr⟩:∃ r,(z.st == 1)=r:=⟨_,rfl⟩;have HP:=zia hp;have HP2:=zia hp2;have HR:=zia hr;clear hp hp2 hr hB;have j1:(j:Int)<(l.length:Int):=by omega
    have j0:(0:Int)≤(j:Int):=by omega
    cases r with
    | true=>
      go_wp2_with (go_at_call 173;refine (xF z B cB _).mono ?_;rw [HR.out];rintro e w2 ⟨rfl,hb2⟩);go_ret;have e:=HRES.out;have ef:=HP.out HR.out;rw [zij (by omega),ef] at e
      rw [e];exact ⟨rfl,hb.trans (hb2.mono hsz)⟩
    | false=>
      go_wp2_with (go_at_call 173;refine (xF z B cB _).mono ?_;rw [HR.out];rintro e w2 ⟨rfl,hb2⟩);go_roundw
      case rel=>exact ⟨j+1,by go_num,by omega,HP2.out HR.out,hb.trans (hb2.mono hsz),_,rfl⟩
      case measure=>simp [intOf];omega
  · obtain rfl:j=l.length:=by omega
    go_wp2;go_ret;have e:=HRES.out;rw [zig (by omega)] at e
    rw [e];exact ⟨rfl,hb⟩
theorem aB.rowZ {g:Nat} {t:TypeId} {K:Nat→Prop} {l:List Zn}:aB (fun w=>fU w g t K l):=fun _ _ h hb=>h.step hb
theorem tL {w:World} {K:Nat→Prop} {g:Nat} {z:Zn} {A:Option Addr} {c:Nat} (hg:w.heap.size=g) (hz:IsB w K (.slice A z.d.length c) z.d) :
 yD (w.alloc (.cells #[.int .i64 z.st,.int .i64 z.fe,.slice A z.d.length c] 134)) (fun _=>True) (some ⟨g,0,none⟩) [z]:=
 yD.of (n:=1) (c:=1) ⟨_,1,iS z A c,rfl,(aG.new hg rfl rfl).more (fun _ _=>trivial),aI.single (zah ((hz.alloc _).more fun _ _=>trivial)),by simp,by omega,by simp⟩
theorem zN (s:List Int) (z:Zn):cntZ s [z]=if z.st∈s then 1 else 0:=by
 unfold cntZ;by_cases h:z.st∈s <;> simp [h]
theorem tF (g gz i:Nat) {X:Nat→Prop} (hX:∀ b,g<b→X b) (d:Zd) (c:Cm) (dn:Dn) (w:World) (hd:bG X w g gz d c dn) (hi:c.zone=(i:Int)) (hl:i<d.z.length) (hl47:d.z.length≤140737488355328) :
 Calls Tryz.prog 110 #[.pointer (some ⟨g,0,none⟩)] w fun en w'=>en=.returned (.int .i64 (roomK d i).1) ∧
  bG X w' g gz (d.with (roomK d i).2) c dn∧aA w w' (fun b=>b=gz):=by
 obtain ⟨res,hres⟩:∃ res,roomK d i=res:=⟨_,rfl⟩;rw [hres];have hgi:d.z.getD i z0=d.z[i]:=by rw [ziF,zib hl];rfl
 have hz:d.z[i]?=some d.z[i]:=zib hl;unfold roomK at hres;rw [hgi] at hres;generalize d.z[i]=z at hres hz;have HRES:=zia hres;have HZ:=zia hz;clear hres hz hgi;have E:=(Kn.start w).give aB.desk hd;clear hd;go_enter Tryz.func110,Tryz.ntmps110
 go_wp2_with fail;refine (cK g gz i d c dn _ (E.get m0) hi hl).mono ?_;rintro e w1 ⟨rfl,hb1⟩;replace E:=E.step hb1;obtain ⟨cz,A1,c1,A2,c2,hB,hR,hx1,hx2,hcz,hcz2,hne⟩:=E.get m0;obtain ⟨Az,ca,hzB,⟨n0,n1,n2⟩,⟨f0,f1,f2⟩⟩:=hR.at_ HZ.out;have hgz:=hR.lt;have hg:=hB.lt;replace E:=(((E.give aB.bytes hzB).know hB).give aB.rowZ hR).push 134 #[.int .i64 z.st,.int .i64 z.fe,.slice Az z.d.length ca];clear hB hR hx1 hx2;go_wp2_with fail;have hzs:=tL (zid _ _) (E.get m1);replace E:=E.push 134 #[.int .i64 z.st,.int .i64 z.fe,.slice Az z.d.length ca];refine (gD (some ⟨w1.heap.size+1,0,none⟩) 1 [z] _ _ hzs (by simp)).mono ?_
 rintro e w2 ⟨rfl,hb2⟩;replace E:=E.step hb2;rw [zN];by_cases ho:z.st∈lM
 · rw [zij ho]
   have hr:res=(0,d.z):=by rw [←HRES.out,zij ho]
   subst hr;go_wp2;go_ret;exact ⟨rfl,E.get m2,aA.of E.below⟩
 · rw [zig ho]
   have hres:=HRES.out;rw [zig ho] at hres;clear HRES ho;obtain ⟨r,hr⟩:∃ r:Bool,decide (¬z.st∈cP∧d.act≤(cntZ cP d.z:Int))=r:=⟨_,rfl⟩;have HRES:=zia hres;have HR:=zia hr;clear hres hr;go_upto_region 4 with fail;go_cut [16] (fun s16 wx=>s16=.bool r∧Below w2.heap.size w2 wx)
   case first=>
    have hw2:w.heap.size≤w2.heap.size:=E.below.size;have hl63:d.z.length≤9223372036854775807:=by omega
    have hzb:=E.get m1;have hIL:yD w2 (fun b=>b=gz∨(b≠g∧b≠gz∧X b)) (some ⟨gz,0,none⟩) d.z:=yD.of ((E.get m0).isL hcz hcz2 hl47)
    have HK:Hid (∀ W,Below w2.heap.size w2 W→(∀ o,W.cell? ⟨w1.heap.size,o,none⟩=(#[.int .i64 z.st,.int .i64 z.fe,.slice Az z.d.length ca]:Array Value)[o]?)∧(∀ o,W.cell? ⟨g,o,none⟩=(dK d c dn gz cz A1 c1 A2 c2)[o]?)):=zia fun W h=>⟨((E.step h).rules m1).1,((E.step h).rules m2).1⟩
    have hbA:Below w2.heap.size w2 (w2.alloc (.cells #[.int .i64 z.st,.int .i64 z.fe,.slice Az z.d.length ca] 134)).drew:=(zBA).drew;have hzs2:=(tL (z:=z) (A:=Az) (c:=ca) rfl hzb);by_cases ha:z.st∈cP
    · have hrf:r=false:=by rw [←HR.out];simp [ha]
      subst hrf;have HA:=zia ha;clear ha;refine wp_region_held_drew (S:=fun W=>(∀ o,W.cell? ⟨w1.heap.size,o,none⟩=(#[.int .i64 z.st,.int .i64 z.fe,.slice Az z.d.length ca]:Array Value)[o]?)∧(∀ o,W.cell? ⟨g,o,none⟩=(dK d c dn gz cz A1 c1 A2 c2)[o]?)) (by kernel_rfl) (HK.out _ (zif _ _).drew) (fun hHeld=>?_)
      refine wT 0 17 ?_;refine wpAnyH_ready (rs:=[1]) (by kernel_rfl) (by simp) ?_
      refine AllReadyH.cons (o:=⟨some 18,_,_,_,_,_⟩) rfl (fun K hK=>?_) AllReadyH.nil
      go_simp;refine hK.out _ _ (HK.out _ hbA) (fun hHeld=>?_)
      clear hK K;try simp only [pu,List.set]
      refine wpAnyH_ready (rs:=[2]) (by kernel_rfl) (by simp) ?_
      refine AllReadyH.cons (o:=⟨some 19,_,_,_,_,_⟩) rfl (fun K hK=>?_) AllReadyH.nil
      go_simp;refine (jI (some ⟨w2.heap.size,0,none⟩) 1 [z] _ _ (hzs2.step (zif _ _).drew) (by simp)).mono ?_
      rintro e w3 ⟨rfl,hb3⟩;replace hb3:=hbA.trans (hb3.mono hbA.size);rw [zN,zij HA.out];go_wp2_with fail;refine hK.out _ _ (HK.out _ hb3) (fun hHeld=>?_)
      clear hK K;try simp only [pu,List.set]
      refine wT 3 20 ?_;refine wT 4 21 ?_;refine wU 5 22 ?_;refine wU 6 23 ?_;refine wU 7 24 ?_;refine wU 8 25 ?_;refine wU 9 26 ?_;refine wU 10 27 ?_;refine wU 11 28 ?_;refine wU 12 29 ?_;refine wU 13 30 ?_;refine wU 14 31 ?_;refine wU 15 32 ?_;refine wU 16 33 ?_;refine wT 17 34 ?_;refine wT 18 16 ?_;refine wpAnyH_done (by kernel_rfl) ?_ _
      go_wp2_with fail;go_meet;exact ⟨rfl,hb3⟩
    · have hrv:r=decide (d.act≤(cntZ cP d.z:Int)):=by rw [←HR.out];simp [ha]
      have HA:=zia ha;have HRV:=zia hrv;clear ha hrv;go_region_held3 (fun W=>(∀ o,W.cell? ⟨w1.heap.size,o,none⟩=(#[.int .i64 z.st,.int .i64 z.fe,.slice Az z.d.length ca]:Array Value)[o]?)∧(∀ o,W.cell? ⟨g,o,none⟩=(dK d c dn gz cz A1 c1 A2 c2)[o]?))
       (first | with_reducible exact HK.out _ hbA | with_reducible exact HK.out _ (zif _ _).drew | with_reducible exact HK.out _ hb4 | with_reducible exact HK.out _ hb3)
       (first
        | (go_at_call 97
           refine (jI (some ⟨w2.heap.size,0,none⟩) 1 [z] _ _ (hzs2.step (zif _ _).drew) (by simp)).mono ?_
           rintro e w3 ⟨rfl,hb3⟩;replace hb3:=hbA.trans (hb3.mono hbA.size);rw [zN,zig HA.out])
        | (go_at_call 97
           refine (jI (some ⟨gz,0,none⟩) cz d.z _ _ (hIL.step hb3) hl63).mono ?_;rintro e w4 ⟨rfl,hb4⟩;replace hb4:=hb3.trans (hb4.mono hb3.size)))
      go_wp2_with fail;go_meet;exact ⟨by rw [HRV.out],hb4⟩
   case rest=>
    obtain ⟨rfl,hbc⟩:=hcut;replace E:=E.step hbc;clear hbc hb2 hb1 hzs n0 n1 n2 f0 f1 f2 hzB;cases r with
    | true=>
      have hr:res=(44,d.z):=by rw [←HRES.out,zij (by simpa using HR.out)]
      subst hr;go_wp2;go_ret;exact ⟨rfl,E.get m2,aA.of E.below⟩
    | false=>
      have hres:=HRES.out;rw [zig (by simpa using HR.out)] at hres
      clear HRES HR;have HRES:=zia hres;clear hres;go_upto_region 6 with fail;have hl63:d.z.length≤9223372036854775807:=by omega
      have hIL:=yD.of ((E.get m0).isL hcz hcz2 hl47);have HK:Hid (∀ W,Below wc.heap.size wc W→∀ o,W.cell? ⟨g,o,none⟩=(dK d c dn gz cz A1 c1 A2 c2)[o]?):=zia fun W h=>((E.step h).rules m2).1
      by_cases hc:(cntZ lM d.z:Int)<d.opn
      · have hr:res=(0,d.z):=by rw [←HRES.out,zij hc]
        subst hr;go_region_held3 (fun W=>(∀ o,W.cell? ⟨g,o,none⟩=(dK d c dn gz cz A1 c1 A2 c2)[o]?))
         (first | with_reducible exact HK.out _ (zif _ _).drew | with_reducible exact HK.out _ hb3)
         (first
          | (go_at_call 96
             refine (gD (some ⟨gz,0,none⟩) cz d.z _ _ (hIL.step (zif _ _).drew) hl63).mono ?_;rintro e w3 ⟨rfl,hb3⟩;replace hb3:=(zif wc.heap.size wc).drew.trans hb3))
        replace E:=E.step hb3;go_wp2;go_ret;exact ⟨rfl,E.get m2,aA.of E.below⟩
      · have hres:=HRES.out
        rw [zig hc] at hres;clear HRES;have HRES:=zia hres;clear hres;go_region_held3 (fun W=>(∀ o,W.cell? ⟨g,o,none⟩=(dK d c dn gz cz A1 c1 A2 c2)[o]?))
         (first | with_reducible exact HK.out _ (zif _ _).drew | with_reducible exact HK.out _ hb3)
         (first
          | (go_at_call 96
             refine (gD (some ⟨gz,0,none⟩) cz d.z _ _ (hIL.step (zif _ _).drew) hl63).mono ?_;rintro e w3 ⟨rfl,hb3⟩;replace hb3:=(zif wc.heap.size wc).drew.trans hb3))
        replace E:=E.step hb3;go_wp2_with fail;refine (zaS _ d.z _ _ ((E.get m0).isL hcz hcz2 hl47)).mono ?_;rintro e w4 ⟨rfl,hb4⟩;replace E:=E.step hb4;by_cases hj:impl? d.z<d.z.length
        · rw [zij hj]
          obtain ⟨j,y,hji,hj,hzj,hst,hres⟩:∃ (j:Nat) (y:Zn),impl? d.z=j∧j<d.z.length∧d.z[j]?=some y∧y.st=1∧(0,d.z.set j (eX y).1)=res:=by
           refine ⟨impl? d.z,d.z[impl? d.z],rfl,hj,zib hj,?_,?_⟩
           · have:=zjc (p:=fun z:Zn=>z.st == 1) (xs:=d.z) (w:=hj)
             unfold impl?;simpa using this
           · have hgj:d.z.getD (impl? d.z) z0=d.z[impl? d.z]:=by rw [ziF,zib hj];rfl
             rw [←HRES.out,zij hj,hgj]
          rw [hji];clear hji;have he0:(eX y).2=0:=by unfold eX;rw [hst];rfl
          have hyd:(eX y).1.d=y.d:=by unfold eX;rw [hst];rfl
          clear hst HRES;have HRES:=zia hres;have HE0:=zia he0;have HZJ:=zia hzj;clear hres he0 hzj;have j0:(0:Int)≤(j:Int):=by omega
          have j1:(j:Int)<(d.z.length:Int):=by omega
          have jn:((j:Int)<0)=False:=by simp
          obtain ⟨Aj,cj,hjB,⟨n0,n1,n2⟩,⟨f0,f1,f2⟩⟩:=(E.get m0).at_ HZJ.out;obtain ⟨ad,had⟩:∃ ad:Addr,ad=⟨gz,0,none⟩:=⟨_,rfl⟩;have hadd:∀ o,ad.add o=⟨gz,o,none⟩:=fun o=>by rw [had];exact zhD gz o
          obtain ⟨q1,fz1,t1⟩:=E.rules m2;unfold dK at q1;rw [←had] at q1;have HAD:=zia had;clear had;go_wp2_with fail;refine (vF _ y _ _ ⟨Aj,cj,rfl,hjB⟩).mono ?_;rw [HE0.out];have hyl:(eX y).1.d.length≤140737488355328:=by rw [hyd];exact hjB.len
          clear hyd;generalize (eX y).1=y' at HRES hyl ⊢;rintro e w5 ⟨v',rfl,⟨A9,c9,rfl,how⟩,hb5⟩;unfold zv;have t2:=(E.get m0).lt;have hyB:=(IsB.of_own how hyl).more (K':=fun b=>b≠g∧b≠gz∧X b) (fun b hb=>⟨by omega,by omega,hX _ (by omega)⟩)
          replace E:=((E.step hb5).give aB.bytes hyB).push 134 #[.int .i64 y'.st,.int .i64 y'.fe,.slice A9 y'.d.length c9];have t5:=hb5.size;clear q1 fz1 n0 n1 n2 f0 f1 f2 how hyB hjB;go_upto_region 12 with fail;generalize hwA:w5.alloc (.cells #[.int .i64 y'.st,.int .i64 y'.fe,.slice A9 y'.d.length c9] 134)=wA at E ⊢;have HW:=zia hwA;clear hwA;have hblk:Blk wA g 130 (#[.int .i64 d.cap,.int .i64 d.opn,.int .i64 d.act,.slice (some ad) d.z.length cz,.int .i64 c.op,.int .i64 c.zone,.int .i64 c.epoch,.int .i64 c.off,.int .i64 c.n,.slice A1 c.data.length c1,.int .i64 dn.e,.int .i64 dn.at_,.slice A2 dn.data.length c2]:Array Value):=by rw [HAD.out];exact E.at_ m3
          have HQ:Hid (∀ W,Below wA.heap.size wA W→(∀ o,W.cell? ⟨w5.heap.size,o,none⟩=(#[.int .i64 y'.st,.int .i64 y'.fe,.slice A9 y'.d.length c9]:Array Value)[o]?)∧(∀ o,W.cell? ⟨g,o,none⟩=(#[.int .i64 d.cap,.int .i64 d.opn,.int .i64 d.act,.slice (some ad) d.z.length cz,.int .i64 c.op,.int .i64 c.zone,.int .i64 c.epoch,.int .i64 c.off,.int .i64 c.n,.slice A1 c.data.length c1,.int .i64 dn.e,.int .i64 dn.at_,.slice A2 dn.data.length c2]:Array Value)[o]?)):=zia fun W h=>⟨((E.step h).rules m0).1,(hblk.step h).cell⟩
          have hb0:Below wA.heap.size wA wA.drew:=(zif _ _).drew;have hbx:w5.heap.size<wA.heap.size:=(E.at_ m0).lt;have HS:Hid (∀ W,Below wA.heap.size wA W→∀ u0 u1 u2:Value,(∀ o,(((W.setCell ⟨gz,j*3,none⟩ u0).setCell ⟨gz,j*3+1,none⟩ u1).setCell ⟨gz,j*3+2,none⟩ u2).drew.cell? ⟨w5.heap.size,o,none⟩=(#[.int .i64 y'.st,.int .i64 y'.fe,.slice A9 y'.d.length c9]:Array Value)[o]?)∧(∀ o,(((W.setCell ⟨gz,j*3,none⟩ u0).setCell ⟨gz,j*3+1,none⟩ u1).setCell ⟨gz,j*3+2,none⟩ u2).drew.cell? ⟨g,o,none⟩=(#[.int .i64 d.cap,.int .i64 d.opn,.int .i64 d.act,.slice (some ad) d.z.length cz,.int .i64 c.op,.int .i64 c.zone,.int .i64 c.epoch,.int .i64 c.off,.int .i64 c.n,.slice A1 c.data.length c1,.int .i64 dn.e,.int .i64 dn.at_,.slice A2 dn.data.length c2]:Array Value)[o]?)):=
           zia fun W h u0 u1 u2=>⟨(((((E.step h).at_ m0).far (p:=⟨gz,j*3,none⟩) (by show w5.heap.size≠gz;omega) u0).far (p:=⟨gz,j*3+1,none⟩) (by show w5.heap.size≠gz;omega) u1).far (p:=⟨gz,j*3+2,none⟩) (by show w5.heap.size≠gz;omega) u2).drew.cell,
            ((((hblk.step h).far (p:=⟨gz,j*3,none⟩) hne u0).far (p:=⟨gz,j*3+1,none⟩) hne u1).far (p:=⟨gz,j*3+2,none⟩) hne u2).drew.cell⟩
          obtain ⟨Ak,ck,_,⟨n0,n1,n2⟩,⟨f0,f1,f2⟩⟩:=(E.get m1).at_ HZJ.out;go_region_held3 (fun W=>(∀ o,W.cell? ⟨w5.heap.size,o,none⟩=(#[.int .i64 y'.st,.int .i64 y'.fe,.slice A9 y'.d.length c9]:Array Value)[o]?)∧(∀ o,W.cell? ⟨g,o,none⟩=(#[.int .i64 d.cap,.int .i64 d.opn,.int .i64 d.act,.slice (some ad) d.z.length cz,.int .i64 c.op,.int .i64 c.zone,.int .i64 c.epoch,.int .i64 c.off,.int .i64 c.n,.slice A1 c.data.length c1,.int .i64 dn.e,.int .i64 dn.at_,.slice A2 dn.data.length c2]:Array Value)[o]?))
           (first | with_reducible exact HS.out _ (zif _ _) _ _ _ | with_reducible exact HQ.out _ hb0)
           (fail)
          go_wp2;go_ret;have hr:=HRES.out;subst hr;refine ⟨rfl,?_,?_⟩
          · exact (bG.put (E.get m3) hj (E.get m0)).step (zif _ _).drew
          · exact (lI (S:=fun b=>b=gz) (aA.of E.below) rfl _ _ _ _).drew
        · rw [zig hj]
          have hr:res=(43,d.z):=by rw [←HRES.out,zig hj]
          subst hr;go_wp2;go_ret;exact ⟨rfl,E.get m2,aA.of E.below⟩
theorem aB.zoneL {g o:Nat} {z:Zn} {A:Option Addr} {c:Nat}:aB (fun w=>zgF w g o z A c):=fun _ _ h hb=>
 ⟨(hb.cell (ziB _ _ h.1)).trans h.1,(hb.cell (ziB _ _ h.2.1)).trans h.2.1,(hb.cell (ziB _ _ h.2.2)).trans h.2.2⟩
theorem nJ (d:Zd) (i:Nat):(roomK d i).2.length=d.z.length:=by unfold roomK;(repeat' split) <;> simp
def gB (X:Nat→Prop) (w:World) (g gz:Nat) (d:Zd) (c:Cm) (r:Int × List Zn × Dn) (en:Ending) (w':World):Prop:=
 en=.returned (.int .i64 r.1)∧bG X w' g gz (d.with r.2.1) c r.2.2∧aA w w' (fun b=>b=g∨b=gz)
theorem zfW (z:Zn) {N:Nat} (_:z.d.length≤N):(sZ z).d.length≤N:=by unfold sZ;simp
theorem zgB (z:Zn) {N:Nat} (h:z.d.length≤N):(zdO z).d.length≤N:=h
theorem zcA (z:Zn) {N:Nat} (h:z.d.length≤N):(eX z).1.d.length≤N:=by unfold eX;split;exact zir _;exact h
theorem zdV (z:Zn) (most:Int) {N:Nat} (h:z.d.length≤N):(yE z most).1.d.length≤N:=by unfold yE;split;exact zir _;split;exact zir _;exact h
theorem iZ {d:Zd} {i:Nat} (hl:i<d.z.length):d.z.getD i z0=d.z[i]:=by rw [ziF,zib hl];rfl
theorem zb7 (g gz i:Nat) {X:Nat→Prop} (hX:∀ b,g<b→X b) (d:Zd) (c:Cm) (w:World) (hd:bG X w g gz d c dn0) (hi:c.zone=(i:Int)) (hl:i<d.z.length) :
 Calls Tryz.prog 47 #[.pointer (some ⟨g,0,none⟩)] w (gB X w g gz d c (0,d.z.set i (sZ (d.z.getD i z0)),dn0)):=by
 have hz:d.z[i]?=some d.z[i]:=zib hl;rw [iZ hl];generalize d.z[i]=z at hz ⊢;obtain ⟨y,hy⟩:∃ y,sZ z=y:=⟨_,rfl⟩;rw [hy];have HY:=zia hy;clear hy;have HZ:=zia hz;clear hz;have E:=(Kn.start w).give aB.desk hd;clear hd;go_enter Tryz.func47,Tryz.ntmps47
 go_wp2_with fail;refine (cK g gz i d c dn0 _ (E.get m0) hi hl).mono ?_;rintro e w1 ⟨rfl,hb1⟩;replace E:=E.step hb1;obtain ⟨cz,A1,c1,A2,c2,hB,hR,hx1,hx2,hcz,hcz2,hne⟩:=E.get m0;obtain ⟨Az,ca,hzB,⟨n0,n1,n2⟩,_⟩:=hR.at_ HZ.out;have hyl:y.d.length≤140737488355328:=by rw [←HY.out];exact zfW z hzB.len
 have hgz:=hR.lt;have hg:=hB.lt;clear hB hR hx1 hx2;go_wp2_with fail;refine (zcw _ z _ _ ⟨Az,ca,rfl,hzB⟩).mono ?_;rw [HY.out];rintro e w2 ⟨v',rfl,⟨A9,c9,rfl,how⟩,hb2⟩;unfold zv;have hyB:=(IsB.of_own how hyl).more (K':=fun b=>b≠g∧b≠gz∧X b) (fun b hb=>⟨by omega,by omega,hX _ (by omega)⟩)
 replace E:=E.step hb2;clear n0 n1 n2 how;go_wp2_with fail;refine (mC g gz i d c dn0 y A9 c9 0 w2 (E.get m0) hi hl hyB).mono ?_;rintro e w3 ⟨rfl,hd3,ht3⟩;go_wp2;go_ret;exact ⟨rfl,by simpa using hd3,(aA.of E.below).trans (ht3.mono fun b hb=>.inr hb)⟩
theorem yI (g gz i:Nat) {X:Nat→Prop} (hX:∀ b,g<b→X b) (d:Zd) (c:Cm) (w:World) (hd:bG X w g gz d c dn0) (hi:c.zone=(i:Int)) (hl:i<d.z.length) :
 Calls Tryz.prog 48 #[.pointer (some ⟨g,0,none⟩)] w (gB X w g gz d c (0,d.z.set i (zdO (d.z.getD i z0)),dn0)):=by
 have hz:d.z[i]?=some d.z[i]:=zib hl;rw [iZ hl];generalize d.z[i]=z at hz ⊢;obtain ⟨y,hy⟩:∃ y,zdO z=y:=⟨_,rfl⟩;rw [hy];have HY:=zia hy;clear hy;have HZ:=zia hz;clear hz;have E:=(Kn.start w).give aB.desk hd;clear hd;go_enter Tryz.func48,Tryz.ntmps48
 go_wp2_with fail;refine (cK g gz i d c dn0 _ (E.get m0) hi hl).mono ?_;rintro e w1 ⟨rfl,hb1⟩;replace E:=E.step hb1;obtain ⟨cz,A1,c1,A2,c2,hB,hR,hx1,hx2,hcz,hcz2,hne⟩:=E.get m0;obtain ⟨Az,ca,hzB,⟨n0,n1,n2⟩,_⟩:=hR.at_ HZ.out;have hyl:y.d.length≤140737488355328:=by rw [←HY.out];exact zgB z hzB.len
 have hgz:=hR.lt;have hg:=hB.lt;clear hB hR hx1 hx2;go_wp2_with fail;refine (zbp _ z _ _ ⟨Az,ca,rfl,hzB⟩).mono ?_;rw [HY.out];rintro e w2 ⟨v',rfl,⟨A9,c9,rfl,how⟩,hb2⟩;unfold zv;have hyB:=(IsB.of_own how hyl).more (K':=fun b=>b≠g∧b≠gz∧X b) (fun b hb=>⟨by omega,by omega,hX _ (by omega)⟩)
 replace E:=E.step hb2;clear n0 n1 n2 how;go_wp2_with fail;refine (mC g gz i d c dn0 y A9 c9 0 w2 (E.get m0) hi hl hyB).mono ?_;rintro e w3 ⟨rfl,hd3,ht3⟩;go_wp2;go_ret;exact ⟨rfl,by simpa using hd3,(aA.of E.below).trans (ht3.mono fun b hb=>.inr hb)⟩
theorem zbj (g gz i:Nat) {X:Nat→Prop} (hX:∀ b,g<b→X b) (d:Zd) (c:Cm) (w:World) (hd:bG X w g gz d c dn0) (hi:c.zone=(i:Int)) (hl:i<d.z.length) :
 Calls Tryz.prog 50 #[.pointer (some ⟨g,0,none⟩)] w (gB X w g gz d c (zal d i)):=by
 have hz:d.z[i]?=some d.z[i]:=zib hl;unfold zal;rw [iZ hl];generalize d.z[i]=z at hz ⊢;obtain ⟨y,hy⟩:∃ y,eX z=y:=⟨_,rfl⟩;rw [hy];obtain ⟨res,hres⟩:∃ res:Int × List Zn × Dn,(if y.2=0 then (0,d.z.set i y.1,dn0) else (y.2,d.z,dn0))=res:=⟨_,rfl⟩;show Calls _ _ _ _ (gB X w g gz d c (if y.2=0 then (0,d.z.set i y.1,dn0) else (y.2,d.z,dn0)));rw [hres];have HRES:=zia hres;clear hres;have HY:=zia hy;clear hy;have HZ:=zia hz;clear hz;have E:=(Kn.start w).give aB.desk hd;clear hd;go_enter Tryz.func50,Tryz.ntmps50
 go_wp2_with fail;refine (cK g gz i d c dn0 _ (E.get m0) hi hl).mono ?_;rintro e w1 ⟨rfl,hb1⟩;replace E:=E.step hb1;obtain ⟨cz,A1,c1,A2,c2,hB,hR,hx1,hx2,hcz,hcz2,hne⟩:=E.get m0;obtain ⟨Az,ca,hzB,⟨n0,n1,n2⟩,_⟩:=hR.at_ HZ.out;have hyl:y.1.d.length≤140737488355328:=by rw [←HY.out];exact zcA z hzB.len
 have hgz:=hR.lt;have hg:=hB.lt;clear hB hR hx1 hx2;go_wp2_with fail;refine (vF _ z _ _ ⟨Az,ca,rfl,hzB⟩).mono ?_;rw [HY.out];rintro e w2 ⟨v',rfl,⟨A9,c9,rfl,how⟩,hb2⟩;unfold zv;have hyB:=(IsB.of_own how hyl).more (K':=fun b=>b≠g∧b≠gz∧X b) (fun b hb=>⟨by omega,by omega,hX _ (by omega)⟩)
 replace E:=E.step hb2;clear n0 n1 n2 how;go_wp2_with fail;refine (mC g gz i d c dn0 y.1 A9 c9 y.2 w2 (E.get m0) hi hl hyB).mono ?_;rintro e w3 ⟨rfl,hd3,ht3⟩;go_wp2;go_ret;have hr:=HRES.out;by_cases h0:y.2=0
 · rw [zij h0] at hd3 hr
   subst hr;exact ⟨by show Ending.returned (.int .i64 y.2)=_;rw [h0],hd3,(aA.of E.below).trans (ht3.mono fun b hb=>.inr hb)⟩
 · rw [zig h0] at hd3 hr
   subst hr;exact ⟨rfl,hd3,(aA.of E.below).trans (ht3.mono fun b hb=>.inr hb)⟩
theorem zdG (g gz i:Nat) {X:Nat→Prop} (hX:∀ b,g<b→X b) (d:Zd) (c:Cm) (w:World) (hd:bG X w g gz d c dn0) (hi:c.zone=(i:Int)) (hl:i<d.z.length) (hl47:d.z.length≤140737488355328) :
 Calls Tryz.prog 49 #[.pointer (some ⟨g,0,none⟩)] w (gB X w g gz d c (zeK d i)):=by
 have hz:d.z[i]?=some d.z[i]:=zib hl;unfold zeK;rw [iZ hl];generalize d.z[i]=z at hz ⊢;obtain ⟨y,hy⟩:∃ y,yE z d.cap=y:=⟨_,rfl⟩;rw [hy];obtain ⟨res,hres⟩:∃ res:Int × List Zn × Dn,(if y.2≠0 then (y.2,d.z,dn0) else if (roomK d i).1≠0 then ((roomK d i).1,(roomK d i).2,dn0) else (0,(roomK d i).2.set i y.1,dn0))=res:=⟨_,rfl⟩;show Calls _ _ _ _ (gB X w g gz d c (if y.2≠0 then (y.2,d.z,dn0) else if (roomK d i).1≠0 then ((roomK d i).1,(roomK d i).2,dn0) else (0,(roomK d i).2.set i y.1,dn0)));rw [hres];have HY:=zia hy;have HRES:=zia hres;have HZ:=zia hz;clear hz hy hres;have hd0:=hd;obtain ⟨cz,A1,c1,A2,c2,hB,hR,hx1,hx2,hcz,hcz2,hne⟩:=hd0;have E:=(((Kn.start w).give aB.desk hd).give aB.rowZ hR).know hB;obtain ⟨Az,ca,hzB,⟨n0,n1,n2⟩,_⟩:=hR.at_ HZ.out;have hyl:y.1.d.length≤140737488355328:=by rw [←HY.out];exact zdV z _ hzB.len
 replace E:=(E.give aB.bytes hzB).give aB.zoneL ⟨n0,n1,n2⟩;have hgz:=hR.lt;have hg:=hB.lt;clear hB hR hx1 hx2 hzB n0 n1 n2 hd;go_enter Tryz.func49,Tryz.ntmps49
 go_upto_region 1 with fail;go_cut [3,4] (fun s3 s4 wx=>∃ bx A9 c9,s3=.pointer (some ⟨bx,0,none⟩)∧s4=.int .i64 y.2∧w.heap.size≤bx∧Blk wx bx 134 #[.int .i64 y.1.st,.int .i64 y.1.fe,.slice A9 y.1.d.length c9]∧IsB wx (fun b=>b≠g∧b≠gz∧X b) (.slice A9 y.1.d.length c9) y.1.d∧Below w.heap.size w wx)
 case first=>
  have HK:Hid (∀ W,Below w.heap.size w W→(∀ o,W.cell? ⟨g,o,none⟩=(dK d c dn0 gz cz A1 c1 A2 c2)[o]?)∧W.cell? ⟨gz,i*3,none⟩=some (.int .i64 z.st)∧W.cell? ⟨gz,i*3+1,none⟩=some (.int .i64 z.fe)∧W.cell? ⟨gz,i*3+2,none⟩=some (.slice Az z.d.length ca)):=zia fun W h=>⟨((E.step h).rules m0).1,(E.step h).get m0⟩
  have hbZ:Below w.heap.size w (w.alloc (.cells #[.int .i64 0,.int .i64 0,.slice none 0 0] 134)).drew:=(zBA).drew;have hZ0:Blk (w.alloc (.cells #[.int .i64 0,.int .i64 0,.slice none 0 0] 134)).drew w.heap.size 134 #[.int .i64 0,.int .i64 0,.slice none 0 0]:=(Blk.new w _ _ rfl).drew;go_region_held3 (fun W=>(∀ o,W.cell? ⟨g,o,none⟩=(dK d c dn0 gz cz A1 c1 A2 c2)[o]?)∧W.cell? ⟨gz,i*3,none⟩=some (.int .i64 z.st)∧W.cell? ⟨gz,i*3+1,none⟩=some (.int .i64 z.fe)∧W.cell? ⟨gz,i*3+2,none⟩=some (.slice Az z.d.length ca))
   (first | with_reducible exact HK.out _ (zif _ _).drew | with_reducible exact HK.out _ hbZ | with_reducible exact HK.out _ hb1 | with_reducible exact HK.out _ (hb1.alloc hb1.size _) | with_reducible exact HK.out _ hb2 | with_reducible exact HK.out _ (hb2.alloc hb2.size _) | with_reducible exact HK.out _ (aP hb2 (zic _)) | with_reducible exact HK.out _ (aP hb2 hb1.size))
   (first
    | (go_at_call 109
       refine (cK g gz i d c dn0 _ ((E.step hbZ).get m3) hi hl).mono ?_;rintro e w1 ⟨rfl,hb1⟩;have hZ:=hZ0.step hb1;obtain ⟨qz,fz⟩:=hZ.rules;have tz:=hZ.lt;replace hb1:=hbZ.trans (hb1.mono hbZ.size))
    | (go_at_call 109
       refine (cK g gz i d c dn0 _ ((E.step (zif _ _).drew).get m3) hi hl).mono ?_;rintro e w1 ⟨rfl,hb1⟩;replace hb1:=(zif w.heap.size w).drew.trans hb1)
    | (go_at_call 115
       refine (zam _ z d.cap _ w1 ⟨Az,ca,rfl,(E.step hb1).get m1⟩).mono ?_;rw [HY.out];rintro e w2 ⟨v',rfl,⟨A9,c9,rfl,how⟩,hb2⟩;unfold zv;have hyB:=IsB.of_own how hyl;try (have hZ2:=hZ.step hb2;obtain ⟨qz2,fz2⟩:=hZ2.rules)
       replace hb2:=hb1.trans (hb2.mono hb1.size))
    | (go_at_call 115
       refine (zam _ z d.cap _ (w1.alloc (.cells #[.int .i64 0,.int .i64 0,.slice none 0 0] 134)) ⟨Az,ca,rfl,(E.step (hb1.alloc hb1.size _)).get m1⟩).mono ?_;rw [HY.out];rintro e w2 ⟨v',rfl,⟨A9,c9,rfl,how⟩,hb2⟩;unfold zv;have hyB:=IsB.of_own how hyl;have hZ2:=(Blk.new w1 134 #[.int .i64 0,.int .i64 0,.slice none 0 0] rfl).step hb2;obtain ⟨qz2,fz2⟩:=hZ2.rules;have tz2:=hZ2.lt;replace hb2:=(hb1.alloc hb1.size (.cells #[.int .i64 0,.int .i64 0,.slice none 0 0] 134)).trans (hb2.mono (zit hb1.size (by rw [zid];omega))))
    )
  all_goals go_wp2_with fail
  all_goals go_meet
  all_goals have hs1:=hb1.size
  all_goals first
   | exact ⟨w2.heap.size,A9,c9,rfl,rfl,hb2.size,Blk.new _ _ _ rfl,(hyB.alloc _).more (fun b hb=>⟨by omega,by omega,hX _ (by omega)⟩),hb2.alloc hb2.size _⟩
   | exact ⟨w1.heap.size,A9,c9,rfl,rfl,hs1,((hZ2.set_ 0 _).set_ 1 _).set_ 2 _,(((hyB.far (by rw [zid];omega) 0 _).far (by rw [zid];omega) 1 _).far (by rw [zid];omega) 2 _).more (fun b hb=>⟨by rw [zid] at hb;omega,by rw [zid] at hb;omega,hX _ (by rw [zid] at hb;omega)⟩),aP hb2 hs1⟩
   | exact ⟨w.heap.size,A9,c9,rfl,rfl,zic _,((hZ2.set_ 0 _).set_ 1 _).set_ 2 _,(((hyB.far (by omega) 0 _).far (by omega) 1 _).far (by omega) 2 _).more (fun b hb=>⟨by omega,by omega,hX _ (by omega)⟩),aP hb2 (zic _)⟩
 case rest=>
  obtain ⟨bx,A9,c9,rfl,rfl,hbx,hBx,hyB,hbc⟩:=hcut;replace E:=((E.step hbc).know hBx).give aB.bytes hyB;clear hBx hyB;by_cases hy0:y.2=0
  · have hyb:(y.2 == 0)=true:=by simpa using hy0
    have hr0:=HRES.out;rw [zig (by simpa using hy0)] at hr0
    have HY0:=zia hy0;clear HRES HY hy0;have HRES:=zia hr0;clear hr0;go_wp2_with fail;refine (tF g gz i hX d c dn0 wc (E.get m4) hi hl hl47).mono ?_;have hlen:=nJ d i;rintro e w4 ⟨rfl,hd4,ht4⟩;have hB4:=(E.at_ m0).turned ht4 (show ¬bx=gz by omega)
    have hy4:=(E.get m0).turned ht4 (fun b hb=>hb.2.1)
    have ht:=(aA.of (S:=fun b=>b=gz) E.below).trans ht4
    clear E ht4 hbc;have hres:=HRES.out;clear HRES;generalize roomK d i=r at hd4 hres hlen ⊢;obtain ⟨q0,fq,tq⟩:(∀ o,w4.cell? ⟨bx,o,none⟩=_)∧(∀ o,w4.frozen? ⟨bx,o,none⟩=false)∧bx<w4.heap.size:=⟨hB4.cell,hB4.frozen,hB4.lt⟩;have HD4:=zia hd4;have HY4:=zia hy4;have HT:=zia ht;clear hB4 hd4 hy4 ht;by_cases h0:r.1=0
    · have hrb:(r.1 == 0)=true:=by simpa using h0
      rw [zig (by simpa using h0)] at hres
      have HRES:=zia hres;clear hres h0;go_wp2_with fail;refine (mC g gz i (d.with r.2) c dn0 y.1 A9 c9 0 w4 HD4.out hi (by show i<r.2.length;omega) HY4.out).mono ?_
      rintro e w5 ⟨rfl,hd5,ht5⟩;go_wp2;go_ret;rw [←HRES.out];simp only [zkh] at hd5;exact ⟨rfl,hd5,(HT.out.trans ht5).mono fun b hb=>.inr hb⟩
    · have hrb:(r.1 == 0)=false:=by simpa using h0
      rw [zij (by simpa using h0)] at hres
      have HRES:=zia hres;clear hres h0;go_wp2;go_ret;rw [←HRES.out];exact ⟨rfl,HD4.out,HT.out.mono fun b hb=>.inr hb⟩
  · have hyb:(y.2 == 0)=false:=by simpa using hy0
    have hr0:=HRES.out;rw [zij (by simpa using hy0)] at hr0
    have HR0:=zia hr0;clear HRES hr0 hy0;go_wp2;go_ret;rw [←HR0.out];exact ⟨rfl,E.get m4,(aA.of E.below)⟩
