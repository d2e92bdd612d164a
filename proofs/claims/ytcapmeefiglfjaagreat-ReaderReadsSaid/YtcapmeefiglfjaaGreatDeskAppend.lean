/- A part of the proof. -/
import Derived.Test.YtcapmeefiglfjaaGreatZnsPlain2
set_option linter.unusedSimpArgs false
set_option maxHeartbeats 8000000
set_option maxRecDepth 100000
namespace Go.Proofs.YtcapmeefiglfjaaGreat
open Go.RowKit
theorem nS (z:Zn) (A:Option Addr) (c g:Nat) (cap opn act:Int) (v:Value) (K:Nat→Prop) (w:World) (hz:IsB w K (.slice A z.d.length c) z.d) (hB:Blk w g 26 #[.int .i64 cap,.int .i64 opn,.int .i64 act,v]) :
 Calls Tryz.prog 99 #[.agg #[.int .i64 z.st,.int .i64 z.fe,.slice A z.d.length c],.pointer (some ⟨g,0,none⟩)] w fun e w'=>e=.returned (.bool (decide (¬okZ z cap)))∧Below w.heap.size w w':=by
 have E:=(((Kn.start w).know hB).give aB.bytes hz).push 134 #[.int .i64 z.st,.int .i64 z.fe,.slice A z.d.length c];obtain ⟨q0,f0,t0⟩:=E.rules m1;clear hB hz;go_enter Tryz.func99,Tryz.ntmps99
 go_wp2_with fail;refine (gE _ z cap _ _ ⟨A,c,rfl,E.get m0⟩).mono ?_;rintro e w2 ⟨rfl,hb2⟩;replace E:=E.step hb2;by_cases hk:okZ z cap
 · have e1:zfk z cap=0:=zij hk
   have e2:decide (¬okZ z cap)=false:=by simpa using hk
   rw [e1];go_wp2;go_ret;rw [e2];exact ⟨rfl,E.below⟩
 · have e1:zfk z cap=1:=zig hk
   have e2:decide (¬okZ z cap)=true:=by simpa using hk
   rw [e1];go_wp2;go_ret;rw [e2];exact ⟨rfl,E.below⟩
def bad? (cap:Int) (zs:List Zn):Nat:=zs.findIdx (fun z=>decide (¬okZ z cap))
theorem zep (v:Value) (l:List Zn) (K:Nat→Prop) (g:Nat) (cap opn act:Int) (v9:Value) (w:World) (hv:IsL Rp.zone w K v l) (hB9:Blk w g 26 #[.int .i64 cap,.int .i64 opn,.int .i64 act,v9]) :
 Calls Tryz.prog 163 #[v,.func (.func 99) #[] #[.pointer (some ⟨g,0,none⟩)]] w fun e w'=>
  e=.returned (.int .i64 (if bad? cap l<l.length then (bad? cap l:Int) else -1))∧Below w.heap.size w w':=by
 obtain ⟨res,hres⟩:∃ res:Int,res=if bad? cap l<l.length then (bad? cap l:Int) else -1:=⟨_,rfl⟩;rw [←hres];have HRES:=zia hres;clear hres;have hv0:=hv;obtain ⟨A,c,rfl,hlc,hcc⟩:=hv.form;have hlen:=hv.len;go_enter Tryz.func163,Tryz.ntmps163
 go_wp2_with fail;go_loopw [5,8] (fun x i wr=>∃ j:Nat,i=.int .i64 j∧j≤l.length∧j≤bad? cap l∧Below w.heap.size w wr∧(∃ y,x=y)) (fun _ i _=>l.length-(intOf i).toNat)
 case atStart=>exact ⟨0,rfl,zir _,zir _,zif _ _,_,rfl⟩
 case round=>
  obtain ⟨j,rfl,hj,hjf,hb,y,rfl⟩:=hrel;have hsz:=hb.size;by_cases hlt:j<l.length
  · have hp:decide (¬okZ l[j] cap)=true→bad? cap l=j:=fun h=>(zk4 hlt).2 ⟨h,fun k hk=>by
     have:=zkp (p:=fun z:Zn=>decide (¬okZ z cap)) (xs:=l) (i:=k) (by unfold bad? at hjf;omega)
     simpa using this⟩
    have hp2:decide (¬okZ l[j] cap)=false→j+1≤bad? cap l:=fun h=>by
     rcases zjb j (bad? cap l) with h1 | h1
     · exact h1
     · have e:bad? cap l=j:=by omega
       have:=zjc (p:=fun z:Zn=>decide (¬okZ z cap)) (xs:=l) (w:=by unfold bad? at e;omega)
       unfold bad? at e;simp only [e] at this;rw [h] at this;cases this
    obtain ⟨ad,B,cB,rfl,hadb,_,hB,hc0,hc1,hc2⟩:=IsL.zone_at (hv0.step hb) (zib hlt);generalize l[j]=z at hB hc0 hc1 hc2 hp hp2;obtain ⟨r,hr⟩:∃ r,decide (¬okZ z cap)=r:=⟨_,rfl⟩;have HP:=zia hp;have HP2:=zia hp2;have HR:=zia hr;have HZB:=zia hB;clear hp hp2 hr hB;have j1:(j:Int)<(l.length:Int):=by omega
    have j0:(0:Int)≤(j:Int):=by omega
    cases r with
    | true=>
      go_wp2_with (go_at_call 99;refine (nS z B cB g cap opn act v9 _ _ HZB.out (hB9.step hb)).mono ?_;rw [HR.out];rintro e w2 ⟨rfl,hb2⟩);go_ret;have e:=HRES.out;have ef:=HP.out HR.out;rw [zij (by omega),ef] at e
      rw [e];exact ⟨rfl,hb.trans (hb2.mono hsz)⟩
    | false=>
      go_wp2_with (go_at_call 99;refine (nS z B cB g cap opn act v9 _ _ HZB.out (hB9.step hb)).mono ?_;rw [HR.out];rintro e w2 ⟨rfl,hb2⟩);go_roundw
      case rel=>exact ⟨j+1,by go_num,by omega,HP2.out HR.out,hb.trans (hb2.mono hsz),_,rfl⟩
      case measure=>simp [intOf];omega
  · obtain rfl:j=l.length:=by omega
    go_wp2;go_ret;have e:=HRES.out;rw [zig (by omega)] at e
    rw [e];exact ⟨rfl,hb⟩
theorem zch (cap:Int) (l:List Zn):bad? cap l<l.length↔¬ ∀ z∈l,okZ z cap:=by
 unfold bad?;rw [List.findIdx_lt_length];simp
theorem zcc (v:Value) (l:List Zn) (K:Nat→Prop) (g:Nat) (cap opn act:Int) (v9:Value) (w:World) (hv:IsL Rp.zone w K v l) (hB9:Blk w g 26 #[.int .i64 cap,.int .i64 opn,.int .i64 act,v9]) :
 Calls Tryz.prog 98 #[v,.func (.func 99) #[] #[.pointer (some ⟨g,0,none⟩)]] w fun e w'=>
  e=.returned (.bool (decide (¬ ∀ z∈l,okZ z cap)))∧Below w.heap.size w w':=by
 obtain ⟨res,hres⟩:∃ res:Bool,res=decide (¬ ∀ z∈l,okZ z cap):=⟨_,rfl⟩;rw [←hres];have HRES:=zia hres;clear hres;obtain ⟨r,hr⟩:∃ r:Int,(if bad? cap l<l.length then (bad? cap l:Int) else -1)=r:=⟨_,rfl⟩;have HR:=zia hr;clear hr;go_enter Tryz.func98,Tryz.ntmps98
 go_wp2_with (go_at_call 163;refine (zep v l K g cap opn act v9 _ hv hB9).mono ?_;rw [HR.out];rintro e w2 ⟨rfl,hb2⟩);go_ret;refine ⟨?_,hb2⟩;have e:=HRES.out;have h:=HR.out;by_cases hb:bad? cap l<l.length
 · rw [zij hb] at h
   rw [ziu ((zch cap l).1 hb)] at e;rw [e,←h];simp
 · rw [zig hb] at h
   rw [ziv (fun hn=>hb ((zch cap l).2 hn))] at e
   rw [e,←h];simp
def zhc (d:Zd):Prop:=1≤d.z.length∧d.z.length≤64∧1≤d.cap∧d.cap≤65536∧1≤d.opn∧d.opn≤d.act∧d.act≤d.z.length
instance (d:Zd):Decidable (zhc d):=inferInstanceAs (Decidable (_∧_))
theorem jG (d:Zd) (v:Value) (K:Nat→Prop) (w:World) (hv:IsL Rp.zone w K v d.z) :
 Calls Tryz.prog 39 #[.agg #[.int .i64 d.cap,.int .i64 d.opn,.int .i64 d.act,v]] w fun e w'=>e=.returned (.int .i64 (oH d))∧Below w.heap.size w w':=by
 obtain ⟨A,c,rfl,hlc,hcc⟩:=hv.form;have hlen:=hv.len;obtain ⟨res,hres⟩:∃ res:Int,oH d=res:=⟨_,rfl⟩;rw [hres];have HRES:=zia hres;clear hres;have E:=((Kn.start w).give aB.list hv).push 26 #[.int .i64 d.cap,.int .i64 d.opn,.int .i64 d.act,.slice A d.z.length c];go_enter Tryz.func39,Tryz.ntmps39
 go_upto_region 2 with fail;obtain ⟨r,hr⟩:∃ r:Bool,decide (zhc d)=r:=⟨_,rfl⟩;have HR:=zia hr;clear hr;go_cut [4] (fun s4 wx=>s4=.bool r∧wx=w.alloc (.cells #[.int .i64 d.cap,.int .i64 d.opn,.int .i64 d.act,.slice A d.z.length c] 26))
 case first=>
  go_wp2;all_goals go_meet
  all_goals refine ⟨zjj Value.bool ?_,rfl⟩
  all_goals rw [←HR.out]
  all_goals refine zjB.2 ((?_:_↔zhc d).trans decide_eq_true_iff.symm)
  all_goals clear E HRES HR
  all_goals unfold zhc
  all_goals simp
  all_goals omega
 case rest=>
  obtain ⟨rfl,rfl⟩:=hcut;generalize hwB:w.alloc (.cells #[.int .i64 d.cap,.int .i64 d.opn,.int .i64 d.act,.slice A d.z.length c] 26)=wB at E ⊢;clear hwB;have HK:Hid (∀ W,Below wB.heap.size wB W→∀ o,W.cell? ⟨w.heap.size,o,none⟩=(#[.int .i64 d.cap,.int .i64 d.opn,.int .i64 d.act,.slice A d.z.length c]:Array Value)[o]?):=zia fun W h=>((E.step h).rules m0).1
  have hres:=HRES.out;unfold oH at hres;go_upto_region 3 with fail;by_cases hbd:zhc d
  · have hrt:r=true:=by rw [←HR.out];exact ziu hbd
    subst hrt;by_cases ho:d.opn<(cntZ lM d.z:Int)
    · have hr1:res=1:=by rw [←hres,zig (fun h:okD d=>by have:=h.2.1;omega)]
      subst hr1;clear hres HRES HR hbd;refine wp_region_held_drew (S:=fun W=>∀ o,W.cell? ⟨w.heap.size,o,none⟩=(#[.int .i64 d.cap,.int .i64 d.opn,.int .i64 d.act,.slice A d.z.length c]:Array Value)[o]?) (by kernel_rfl) (HK.out _ (zif _ _).drew) (fun hHeld=>?_)
      refine wT 0 42 ?_;refine wT 1 43 ?_;refine wT 2 44 ?_;refine wT 3 45 ?_;refine wT 4 46 ?_;refine wT 6 48 ?_;refine wT 7 49 ?_;refine wpAnyH_ready (rs:=[5]) (by kernel_rfl) (by simp) ?_
      refine AllReadyH.cons (o:=⟨some 47,_,_,_,_,_⟩) rfl (fun K hK=>?_) AllReadyH.nil
      go_simp;refine (gD A c d.z _ _ ((yD.of (E.get m0)).step (zif _ _).drew) (by omega)).mono ?_
      rintro e w3 ⟨rfl,hb3⟩;replace hb3:=(zif wB.heap.size wB).drew.trans hb3;go_wp2_with fail;refine hK.out _ _ (HK.out _ hb3) (fun hHeld=>?_)
      clear hK K;try simp only [pu,List.set]
      refine wT 8 50 ?_;refine wT 9 51 ?_;refine wT 10 52 ?_;refine wU 11 53 ?_;refine wU 12 54 ?_;refine wU 13 55 ?_;refine wU 14 56 ?_;refine wU 15 57 ?_;refine wU 16 58 ?_;refine wT 17 59 ?_;refine wpAnyH_done (by kernel_rfl) ?_ _
      go_wp2;go_ret;exact ⟨rfl,(E.step hb3).below⟩
    · have HRB:Hid (res=if (cntZ cP d.z:Int)≤d.act∧∀ z∈d.z,okZ z d.cap then 0 else 1):=zia (by
       rw [←hres];by_cases h:okD d
       · rw [zij h,zij h.2.2]
       · rw [zig h,zig (fun h2=>h ⟨hbd,by omega,h2⟩)])
      clear hres HRES HR hbd;have hod:decide (d.opn<(cntZ lM d.z:Int))=false:=ziv ho;go_region_held3 (fun W=>∀ o,W.cell? ⟨w.heap.size,o,none⟩=(#[.int .i64 d.cap,.int .i64 d.opn,.int .i64 d.act,.slice A d.z.length c]:Array Value)[o]?)
       (first | with_reducible exact HK.out _ (zif _ _).drew | with_reducible exact HK.out _ hb4 | with_reducible exact HK.out _ hb3)
       (first
        | (go_at_call 96
           refine (gD A c d.z _ _ ((yD.of (E.get m0)).step (zif _ _).drew) (by omega)).mono ?_
           rintro e w3 ⟨rfl,hb3⟩;replace hb3:=(zif wB.heap.size wB).drew.trans hb3)
        | (go_at_call 97
           refine (jI A c d.z _ _ ((yD.of (E.get m0)).step hb3) (by omega)).mono ?_
           rintro e w4 ⟨rfl,hb4⟩;replace hb4:=hb3.trans (hb4.mono hb3.size)))
      by_cases ha:d.act<(cntZ cP d.z:Int)
      · have hr1:res=1:=by rw [HRB.out,zig (fun h=>by have:=h.1;omega)]
        subst hr1;go_wp2;go_ret;exact ⟨rfl,(E.step hb4).below⟩
      · replace E:=E.step hb4
        go_wp2_with fail;refine (zcc _ d.z K w.heap.size d.cap d.opn d.act _ _ (E.get m0) (E.at_ m0)).mono ?_;rintro e w5 ⟨rfl,hb5⟩;replace E:=E.step hb5;by_cases hz:∀ z∈d.z,okZ z d.cap
        · rw [ziv (fun h=>h hz)]
          have hr1:res=0:=by rw [HRB.out,zij ⟨by omega,hz⟩]
          subst hr1;clear hz;go_wp2;go_ret;exact ⟨rfl,E.below⟩
        · rw [ziu hz]
          have hr1:res=1:=by rw [HRB.out,zig (fun h=>hz h.2)]
          subst hr1;clear hz;go_wp2;go_ret;exact ⟨rfl,E.below⟩
  · have hrf:r=false:=by rw [←HR.out];exact ziv hbd
    have hr1:res=1:=by rw [←hres,zig (fun h:okD d=>hbd h.1)]
    subst hrf hr1;clear hres HRES HR hbd;refine wp_region_held_drew (S:=fun W=>∀ o,W.cell? ⟨w.heap.size,o,none⟩=(#[.int .i64 d.cap,.int .i64 d.opn,.int .i64 d.act,.slice A d.z.length c]:Array Value)[o]?) (by kernel_rfl) (HK.out _ (zif _ _).drew) (fun hHeld=>?_)
    refine wT 0 42 ?_;refine wT 1 43 ?_;refine wT 2 44 ?_;refine wU 3 45 ?_;refine wU 4 46 ?_;refine wU 5 47 ?_;refine wU 6 48 ?_;refine wU 7 49 ?_;refine wU 8 50 ?_;refine wT 9 51 ?_;refine wT 10 52 ?_;refine wU 11 53 ?_;refine wU 12 54 ?_;refine wU 13 55 ?_;refine wU 14 56 ?_;refine wU 15 57 ?_;refine wU 16 58 ?_;refine wT 17 59 ?_;refine wpAnyH_done (by kernel_rfl) ?_ _
    go_wp2;go_ret;exact ⟨rfl,E.below.drew⟩
theorem zfO (z:Zn) (most:Int) (l:List UInt8) (_:z.d.length≤140737488355328) (hm:most≤65536):(zdN z most l).1.d.length≤140737488355328:=by
 unfold zdN;split
 · rename_i h
   have:=(jK h).2.2.2;show (z.d++l).length≤_;rw [zie];omega
 · exact zir _
theorem bG.setAt {w:World} {X:Nat→Prop} {g gz:Nat} {d:Zd} {c:Cm} {dn:Dn} (h:bG X w g gz d c dn) (a:Int):bG X (w.setCell ⟨g,11,none⟩ (.int .i64 a)) g gz d c ⟨dn.e,a,dn.data⟩:=by
 obtain ⟨cz,A1,c1,A2,c2,h1,h2,h3,h4,h5,h6,h7⟩:=h;have ht:=(aA.refl w (fun b=>b=g)).set (g:=g) rfl 11 (.int .i64 a)
 exact ⟨cz,A1,c1,A2,c2,h1.set_ 11 _,h2.turned ht (fun e=>h7 e.symm) (fun b hb=>hb.1),h3.turned ht (fun b hb=>hb.1),h4.turned ht (fun b hb=>hb.1),h5,h6,h7⟩
theorem oZ (g gz i:Nat) {X:Nat→Prop} (hX:∀ b,g<b→X b) (d:Zd) (c:Cm) (w:World) (hd:bG X w g gz d c dn0) (hi:c.zone=(i:Int)) (hl:i<d.z.length) (hl47:d.z.length≤140737488355328) (hcap:d.cap≤65536) :
 Calls Tryz.prog 45 #[.pointer (some ⟨g,0,none⟩)] w (gB X w g gz d c (cU d i c)):=by
 have hz:d.z[i]?=some d.z[i]:=zib hl;unfold cU;rw [iZ hl];generalize d.z[i]=z at hz ⊢;obtain ⟨y,hy⟩:∃ y,zdN z d.cap c.data=y:=⟨_,rfl⟩;rw [hy];obtain ⟨res,hres⟩:∃ res:Int × List Zn × Dn,(if y.2.2≠0 then (y.2.2,d.z,dn0) else if (roomK d i).1≠0 then ((roomK d i).1,(roomK d i).2,dn0) else (0,(roomK d i).2.set i y.1,⟨0,y.2.1,[]⟩))=res:=⟨_,rfl⟩;show Calls _ _ _ _ (gB X w g gz d c (if y.2.2≠0 then (y.2.2,d.z,dn0) else if (roomK d i).1≠0 then ((roomK d i).1,(roomK d i).2,dn0) else (0,(roomK d i).2.set i y.1,⟨0,y.2.1,[]⟩)));rw [hres];have HY:=zia hy;have HRES:=zia hres;have HZ:=zia hz;clear hz hy hres;have hd0:=hd;obtain ⟨cz,A1,c1,A2,c2,hB,hR,hx1,hx2,hcz,hcz2,hne⟩:=hd0;have E:=(((Kn.start w).give aB.desk hd).give aB.rowZ hR).know hB;obtain ⟨Az,ca,hzB,⟨n0,n1,n2⟩,_⟩:=hR.at_ HZ.out;have hyl:y.1.d.length≤140737488355328:=by rw [←HY.out];exact zfO z _ _ hzB.len hcap
 replace E:=((E.give aB.bytes hx1).give aB.bytes hzB).give aB.zoneL ⟨n0,n1,n2⟩;have hgz:=hR.lt;have hg:=hB.lt;clear hB hR hx1 hx2 hzB n0 n1 n2 hd;go_enter Tryz.func45,Tryz.ntmps45
 go_upto_region 1 with fail;go_cut [3,4,5] (fun s3 s4 s5 wx=>∃ bx A9 c9,s3=.pointer (some ⟨bx,0,none⟩)∧s4=.int .i64 y.2.1∧s5=.int .i64 y.2.2∧w.heap.size≤bx∧Blk wx bx 134 #[.int .i64 y.1.st,.int .i64 y.1.fe,.slice A9 y.1.d.length c9]∧IsB wx (fun b=>b≠g∧b≠gz∧X b) (.slice A9 y.1.d.length c9) y.1.d∧Below w.heap.size w wx)
 case first=>
  have HK:Hid (∀ W,Below w.heap.size w W→(∀ o,W.cell? ⟨g,o,none⟩=(dK d c dn0 gz cz A1 c1 A2 c2)[o]?)∧W.cell? ⟨gz,i*3,none⟩=some (.int .i64 z.st)∧W.cell? ⟨gz,i*3+1,none⟩=some (.int .i64 z.fe)∧W.cell? ⟨gz,i*3+2,none⟩=some (.slice Az z.d.length ca)):=zia fun W h=>⟨((E.step h).rules m0).1,(E.step h).get m0⟩
  have hbZ:Below w.heap.size w (w.alloc (.cells #[.int .i64 0,.int .i64 0,.slice none 0 0] 134)).drew:=(zBA).drew;have hZ0:Blk (w.alloc (.cells #[.int .i64 0,.int .i64 0,.slice none 0 0] 134)).drew w.heap.size 134 #[.int .i64 0,.int .i64 0,.slice none 0 0]:=(Blk.new w _ _ rfl).drew;go_region_held3 (fun W=>(∀ o,W.cell? ⟨g,o,none⟩=(dK d c dn0 gz cz A1 c1 A2 c2)[o]?)∧W.cell? ⟨gz,i*3,none⟩=some (.int .i64 z.st)∧W.cell? ⟨gz,i*3+1,none⟩=some (.int .i64 z.fe)∧W.cell? ⟨gz,i*3+2,none⟩=some (.slice Az z.d.length ca))
   (first | with_reducible exact HK.out _ (zif _ _).drew | with_reducible exact HK.out _ hbZ | with_reducible exact HK.out _ hb1 | with_reducible exact HK.out _ (hb1.alloc hb1.size _) | with_reducible exact HK.out _ hb2 | with_reducible exact HK.out _ (hb2.alloc hb2.size _) | with_reducible exact HK.out _ (aP hb2 (zic _)) | with_reducible exact HK.out _ (aP hb2 hb1.size))
   (first
    | (go_at_call 109
       refine (cK g gz i d c dn0 _ ((E.step hbZ).get m4) hi hl).mono ?_;rintro e w1 ⟨rfl,hb1⟩;have hZ:=hZ0.step hb1;obtain ⟨qz,fz⟩:=hZ.rules;have tz:=hZ.lt;replace hb1:=hbZ.trans (hb1.mono hbZ.size))
    | (go_at_call 109
       refine (cK g gz i d c dn0 _ ((E.step (zif _ _).drew).get m4) hi hl).mono ?_;rintro e w1 ⟨rfl,hb1⟩;replace hb1:=(zif w.heap.size w).drew.trans hb1)
    | (go_at_call 108
       refine (rG _ _ z d.cap c.data _ _ w1 ⟨Az,ca,rfl,(E.step hb1).get m1⟩ ((E.step hb1).get m2)).mono ?_;rw [HY.out];rintro e w2 ⟨v',rfl,⟨A9,c9,rfl,how⟩,hb2⟩;unfold zv;have hyB:=IsB.of_own how hyl;try (have hZ2:=hZ.step hb2;obtain ⟨qz2,fz2⟩:=hZ2.rules)
       replace hb2:=hb1.trans (hb2.mono hb1.size))
    | (go_at_call 108
       refine (rG _ _ z d.cap c.data _ _ (w1.alloc (.cells #[.int .i64 0,.int .i64 0,.slice none 0 0] 134)) ⟨Az,ca,rfl,(E.step (hb1.alloc hb1.size _)).get m1⟩ ((E.step (hb1.alloc hb1.size _)).get m2)).mono ?_;rw [HY.out];rintro e w2 ⟨v',rfl,⟨A9,c9,rfl,how⟩,hb2⟩;unfold zv;have hyB:=IsB.of_own how hyl;have hZ2:=(Blk.new w1 134 #[.int .i64 0,.int .i64 0,.slice none 0 0] rfl).step hb2;obtain ⟨qz2,fz2⟩:=hZ2.rules;have tz2:=hZ2.lt;replace hb2:=(hb1.alloc hb1.size (.cells #[.int .i64 0,.int .i64 0,.slice none 0 0] 134)).trans (hb2.mono (zit hb1.size (by rw [zid];omega))))
    )
  all_goals go_wp2_with fail
  all_goals go_meet
  all_goals have hs1:=hb1.size
  all_goals first
   | exact ⟨w2.heap.size,A9,c9,rfl,rfl,rfl,hb2.size,Blk.new _ _ _ rfl,(hyB.alloc _).more (fun b hb=>⟨by omega,by omega,hX _ (by omega)⟩),hb2.alloc hb2.size _⟩
   | exact ⟨w1.heap.size,A9,c9,rfl,rfl,rfl,hs1,((hZ2.set_ 0 _).set_ 1 _).set_ 2 _,(((hyB.far (by rw [zid];omega) 0 _).far (by rw [zid];omega) 1 _).far (by rw [zid];omega) 2 _).more (fun b hb=>⟨by rw [zid] at hb;omega,by rw [zid] at hb;omega,hX _ (by rw [zid] at hb;omega)⟩),aP hb2 hs1⟩
   | exact ⟨w.heap.size,A9,c9,rfl,rfl,rfl,zic _,((hZ2.set_ 0 _).set_ 1 _).set_ 2 _,(((hyB.far (by omega) 0 _).far (by omega) 1 _).far (by omega) 2 _).more (fun b hb=>⟨by omega,by omega,hX _ (by omega)⟩),aP hb2 (zic _)⟩
 case rest=>
  obtain ⟨bx,A9,c9,rfl,rfl,rfl,hbx,hBx,hyB,hbc⟩:=hcut;replace E:=((E.step hbc).know hBx).give aB.bytes hyB;clear hBx hyB;by_cases hy0:y.2.2=0
  · have hyb:(y.2.2 == 0)=true:=by simpa using hy0
    have hr0:=HRES.out;rw [zig (by simpa using hy0)] at hr0
    have HY0:=zia hy0;clear HRES HY hy0;have HRES:=zia hr0;clear hr0;go_wp2_with fail;refine (tF g gz i hX d c dn0 wc (E.get m5) hi hl hl47).mono ?_;have hlen:=nJ d i;rintro e w4 ⟨rfl,hd4,ht4⟩;have hB4:=(E.at_ m0).turned ht4 (show ¬bx=gz by omega)
    have hy4:=(E.get m0).turned ht4 (fun b hb=>hb.2.1)
    have ht:=(aA.of (S:=fun b=>b=gz) E.below).trans ht4
    clear E ht4 hbc;have hres:=HRES.out;clear HRES;generalize roomK d i=r at hd4 hres hlen ⊢;obtain ⟨q0,fq,tq⟩:(∀ o,w4.cell? ⟨bx,o,none⟩=_)∧(∀ o,w4.frozen? ⟨bx,o,none⟩=false)∧bx<w4.heap.size:=⟨hB4.cell,hB4.frozen,hB4.lt⟩;have HB4:=zia hB4;have HD4:=zia hd4;have HY4:=zia hy4;have HT:=zia ht;clear hB4 hd4 hy4 ht;by_cases h0:r.1=0
    · have hrb:(r.1 == 0)=true:=by simpa using h0
      rw [zig (by simpa using h0)] at hres
      have HRES:=zia hres;clear hres h0;obtain ⟨czg,A1g,c1g,A2g,c2g,hBg,_⟩:=HD4.out;obtain ⟨qg,fg⟩:=hBg.rules;unfold dK at qg;clear hBg;go_upto_region 8 with fail;have hb8:=HB4.out.far (p:=⟨g,11,none⟩) (show bx≠g by omega) (.int .i64 y.2.1)
      have hy8:=HY4.out.far (g:=g) (fun h=>h.1 rfl) 11 (.int .i64 y.2.1)
      have hd8:=HD4.out.setAt y.2.1;have ht8:=(HT.out.mono (S':=fun b=>b=g∨b=gz) (fun b hb=>.inr hb)).set (g:=g) (.inl rfl) 11 (.int .i64 y.2.1)
      have HD8:=zia hd8;have HY8:=zia hy8;have HT8:=zia ht8;clear hd8 hy8 ht8 q0 fq tq qg fg HB4 HD4 HY4 HT;generalize w4.setCell ⟨g,11,none⟩ (.int .i64 y.2.1)=w6 at hb8 HD8 HY8 HT8 ⊢;obtain ⟨q0,fq,tq⟩:(∀ o,w6.cell? ⟨bx,o,none⟩=_)∧(∀ o,w6.frozen? ⟨bx,o,none⟩=false)∧bx<w6.heap.size:=⟨hb8.cell,hb8.frozen,hb8.lt⟩;clear hb8;go_wp2_with fail;refine (mC g gz i (d.with r.2) c _ y.1 A9 c9 0 w6 HD8.out hi (by show i<r.2.length;omega) HY8.out).mono ?_
      rintro e w7 ⟨rfl,hd7,ht7⟩;go_wp2;go_ret;rw [←HRES.out];simp only [zkh] at hd7;exact ⟨rfl,hd7,HT8.out.trans (ht7.mono fun b hb=>.inr hb)⟩
    · have hrb:(r.1 == 0)=false:=by simpa using h0
      rw [zij (by simpa using h0)] at hres
      have HRES:=zia hres;clear hres h0;go_wp2;go_ret;rw [←HRES.out];exact ⟨rfl,HD4.out,HT.out.mono fun b hb=>.inr hb⟩
  · have hyb:(y.2.2 == 0)=false:=by simpa using hy0
    have hr0:=HRES.out;rw [zij (by simpa using hy0)] at hr0
    have HR0:=zia hr0;clear HRES hr0 hy0;go_wp2;go_ret;rw [←HR0.out];exact ⟨rfl,E.get m5,(aA.of E.below)⟩
theorem zff (z:Zn) (most:Int) (l:List UInt8) (n:Int) (_:z.d.length≤140737488355328) (hm:most≤65536):(zT z most l n).1.d.length≤140737488355328:=by
 unfold zT;split
 · exact zir _
 · rename_i h
   split
   · have:=(jK (by simpa using h)).2.2.2
     show (z.d++l.take n.toNat).length≤_;rw [zie,zio];omega
   · exact zir _
theorem zaY (d:Zd) (i:Nat) (c:Cm):(∃ a,(cU d i c).2.2=⟨0,a,[]⟩)∧((cU d i c).1≠0→(cU d i c).2.2=dn0)∧(cU d i c).2.1.length=d.z.length:=by
 unfold cU;dsimp only;have:=nJ d i;split
 · exact ⟨⟨0,rfl⟩,fun _=>rfl,rfl⟩
 · split
   · exact ⟨⟨0,rfl⟩,fun _=>rfl,this⟩
   · exact ⟨⟨_,rfl⟩,fun h=>absurd rfl h,by simpa using this⟩
theorem zbJ (g gz i:Nat) {X:Nat→Prop} (hX:∀ b,g<b→X b) (d:Zd) (c:Cm) (w:World) (hd:bG X w g gz d c dn0) (hi:c.zone=(i:Int)) (hl:i<d.z.length) (hl47:d.z.length≤140737488355328) (hcap:d.cap≤65536) :
 Calls Tryz.prog 52 #[.pointer (some ⟨g,0,none⟩)] w (gB X w g gz d c (zdQ d i c)):=by
 have hz:d.z[i]?=some d.z[i]:=zib hl;unfold zdQ;rw [iZ hl];generalize d.z[i]=z at hz ⊢;obtain ⟨y,hy⟩:∃ y,zT z d.cap c.data c.n=y:=⟨_,rfl⟩;rw [hy];obtain ⟨r,hr⟩:∃ r,cU d i c=r:=⟨_,rfl⟩;obtain ⟨hdn,hdn0,hrl⟩:=zaY d i c;rw [hr] at hdn hdn0 hrl ⊢;obtain ⟨res,hres⟩:∃ res:Int × List Zn × Dn,(if r.1≠0 then (r.1,r.2.1,dn0) else if y.2=0 then (0,r.2.1.set i y.1,dn0) else (y.2,r.2.1,dn0))=res:=⟨_,rfl⟩;show Calls _ _ _ _ (gB X w g gz d c (if r.1≠0 then (r.1,r.2.1,dn0) else if y.2=0 then (0,r.2.1.set i y.1,dn0) else (y.2,r.2.1,dn0)));rw [hres];have HY:=zia hy;have HRES:=zia hres;have HZ:=zia hz;have HR:=zia hr;have HDN:=zia hdn;have HDN0:=zia hdn0;clear hz hy hres hr hdn hdn0;have E:=(Kn.start w).give aB.desk hd;clear hd;go_enter Tryz.func52,Tryz.ntmps52
 go_wp2_with fail;refine (cK g gz i d c dn0 _ (E.get m0) hi hl).mono ?_;rintro e w1 ⟨rfl,hb1⟩;replace E:=E.step hb1;obtain ⟨cz0,_,_,_,_,hB,hR,_,_,_,_,hne⟩:=E.get m0;obtain ⟨Az,ca,hzB,⟨n0,n1,n2⟩,_⟩:=hR.at_ HZ.out;have hyl:y.1.d.length≤140737488355328:=by rw [←HY.out];exact zff z _ _ _ hzB.len hcap
 replace E:=(E.give aB.bytes hzB).push 134 #[.int .i64 z.st,.int .i64 z.fe,.slice Az z.d.length ca];have hgz:=hR.lt;have hg:=hB.lt;clear hB hR;go_wp2_with fail;refine (oZ g gz i hX d c _ (E.get m1) hi hl hl47 hcap).mono ?_;rw [HR.out];rintro e w2 ⟨rfl,hd2,ht2⟩;have hs1:=hb1.size;have hB2:=(E.at_ m0).turned ht2 (by omega)
 have hz2:=(E.get m0).turned ht2 (fun b hb h=>by rcases h with h | h;exact hb.1 h;exact hb.2.1 h)
 have ht:=(aA.of (S:=fun b=>b=g∨b=gz) E.below).trans ht2
 have hgw:=ht2.size;rw [zid] at hgw;clear E ht2 n0 n1 n2 hzB;have HB2:=zia hB2;have HZ2:=zia hz2;have HT:=zia ht;clear hB2 hz2 ht;by_cases h0:r.1=0
 · have hrb:(r.1 == 0)=true:=by simpa using h0
   have hres:=HRES.out;rw [zig (by simpa using h0)] at hres
   clear HRES;have HRES:=zia hres;clear hres h0;obtain ⟨a,ha⟩:=HDN.out;rw [ha] at hd2;have hd3:=hd2.setAt 0;obtain ⟨_,_,_,_,_,hBg,_⟩:=hd2;obtain ⟨qg,fg⟩:=hBg.rules;unfold dK at qg;clear hBg;have HD3:=zia hd3;clear hd3;go_upto_region 6 with fail;have hb3:=HB2.out.far (p:=⟨g,11,none⟩) (show w1.heap.size≠g by omega) (.int .i64 0)
   have hz3:=HZ2.out.far (g:=g) (fun h=>h.1 rfl) 11 (.int .i64 0)
   have ht3:=HT.out.set (g:=g) (.inl rfl) 11 (.int .i64 0);have hs3:(w2.setCell ⟨g,11,none⟩ (.int .i64 0)).heap.size=w2.heap.size:=by simp [World.setCell]
   have hd3:=HD3.out;clear HD3 HB2 HZ2 HT qg fg;generalize w2.setCell ⟨g,11,none⟩ (.int .i64 0)=w3 at hb3 hz3 ht3 hd3 hs3 ⊢;have hd4:=hd3;obtain ⟨cz,A1,c1,A2,c2,hBg,_,hx1,_⟩:=hd4;have E:=((((Kn.start w3).give aB.desk hd3).give aB.bytes hx1).give aB.bytes hz3).know hBg |>.know hb3
   have HT3:=zia ht3;clear hBg hx1 hd3 hz3 hb3 ht3;have HK:Hid (∀ W,Below w3.heap.size w3 W→(∀ o,W.cell? ⟨w1.heap.size,o,none⟩=(#[.int .i64 z.st,.int .i64 z.fe,.slice Az z.d.length ca]:Array Value)[o]?)∧(∀ o,W.cell? ⟨g,o,none⟩=(dK (d.with r.2.1) c dn0 gz cz A1 c1 A2 c2)[o]?)):=zia fun W h=>⟨((E.step h).rules m0).1,((E.step h).rules m1).1⟩
   go_region_held3 (fun W=>(∀ o,W.cell? ⟨w1.heap.size,o,none⟩=(#[.int .i64 z.st,.int .i64 z.fe,.slice Az z.d.length ca]:Array Value)[o]?)∧(∀ o,W.cell? ⟨g,o,none⟩=(dK (d.with r.2.1) c dn0 gz cz A1 c1 A2 c2)[o]?))
    (first | with_reducible exact HK.out _ (zif _ _).drew | with_reducible exact HK.out _ hb4 | with_reducible exact HS5)
    (first
     | (go_at_call 117
        refine (zeM _ _ z d.cap c.n c.data _ _ w3.drew ⟨Az,ca,rfl,(E.step (zif _ _).drew).get m0⟩ ((E.step (zif _ _).drew).get m1)).mono ?_;rw [HY.out];rintro e w4 ⟨v',rfl,⟨A9,c9,rfl,how⟩,hb4⟩;unfold zv;have hs4:w3.drew.heap.size=w3.heap.size:=rfl;have hyB:=(IsB.of_own how hyl).more (K':=fun b=>b≠g∧b≠gz∧X b) (fun b hb=>⟨by omega,by omega,hX _ (by omega)⟩)
        replace hb4:=(zif w3.heap.size w3).drew.trans hb4)
     | (go_at_call 111
        refine (mC g gz i (d.with r.2.1) c dn0 y.1 A9 c9 y.2 w4 ((E.step hb4).get m2) hi (by show i<r.2.1.length;omega) hyB).mono ?_
        rintro e w5 ⟨rfl,hd5,ht5⟩;have HS5:(∀ o,w5.cell? ⟨w1.heap.size,o,none⟩=(#[.int .i64 z.st,.int .i64 z.fe,.slice Az z.d.length ca]:Array Value)[o]?)∧(∀ o,w5.cell? ⟨g,o,none⟩=(dK (d.with r.2.1) c dn0 gz cz A1 c1 A2 c2)[o]?):=⟨(((E.step hb4).at_ m0).turned ht5 (show ¬w1.heap.size=gz by omega)).cell,(((E.step hb4).at_ m1).turned ht5 hne).cell⟩))
   have hres:=HRES.out;have HT5:=zia (((HT3.out.step hb4).trans (ht5.mono (S':=fun b=>b=g∨b=gz) fun b hb=>.inr hb)))
   clear HRES HS5 ht5;by_cases h1:y.2=0
   · rw [zij h1] at hres hd5
     have HRES:=zia hres;have HD5:=zia hd5;have H1:=zia h1;clear hres hd5 h1;go_wp2;go_ret;rw [←HRES.out];exact ⟨by show Ending.returned (.int .i64 y.2)=_;rw [H1.out],HD5.out,HT5.out⟩
   · rw [zig h1] at hres hd5
     have HRES:=zia hres;have HD5:=zia hd5;clear hres hd5 h1;go_wp2;go_ret;rw [←HRES.out];exact ⟨rfl,HD5.out,HT5.out⟩
 · have hrb:(r.1 == 0)=false:=by simpa using h0
   have hres:=HRES.out;rw [zij (by simpa using h0)] at hres
   rw [HDN0.out h0] at hd2;have HRES:=zia hres;clear hres h0;go_wp2;go_ret;rw [←HRES.out];exact ⟨rfl,hd2,HT.out⟩
