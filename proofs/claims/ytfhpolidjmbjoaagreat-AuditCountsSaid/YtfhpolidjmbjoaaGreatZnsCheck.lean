/- A part of the proof. -/
import Derived.Test.YtfhpolidjmbjoaaGreatZnsPlain2
set_option linter.unusedSimpArgs false
set_option maxHeartbeats 4000000
set_option maxRecDepth 100000
namespace Go.Proofs.YtfhpolidjmbjoaaGreat
open Go.RowKit
theorem zcheckf_any (z:Zn) (A:Option Addr) (c g:Nat) (cap opn act:Int) (v:Value) (K:Nat→Prop) (w:World) (hz:IsB w K (.slice A z.d.length c) z.d) (hB:Blk w g 34 #[.int .i64 cap,.int .i64 opn,.int .i64 act,v]) :
 Calls Tryz.prog 38 #[.agg #[.int .i64 z.st,.int .i64 z.fe,.slice A z.d.length c],.pointer (some ⟨g,0,none⟩)] w fun e w'=>e=.returned (.bool (decide (¬okZ z cap)))∧Below w.heap.size w w':=by
 have E:=(((Kn.start w).know hB).give Stable.bytes hz).push 80 #[.int .i64 z.st,.int .i64 z.fe,.slice A z.d.length c];obtain ⟨q0,f0,t0⟩:=E.rules m1;clear hB hz;go_enter Tryz.func38,Tryz.ntmps38
 go_wp2_with fail;refine (zcheck_any _ z cap _ _ ⟨A,c,rfl,E.get m0⟩).mono ?_;rintro e w2 ⟨rfl,hb2⟩;replace E:=E.step hb2;by_cases hk:okZ z cap
 · have e1:chkZ z cap=0:=if_pos hk
   have e2:decide (¬okZ z cap)=false:=by simpa using hk
   rw [e1];go_wp2;go_ret;rw [e2];exact ⟨rfl,E.below⟩
 · have e1:chkZ z cap=1:=if_neg hk
   have e2:decide (¬okZ z cap)=true:=by simpa using hk
   rw [e1];go_wp2;go_ret;rw [e2];exact ⟨rfl,E.below⟩
def bad? (cap:Int) (zs:List Zn):Nat:=zs.findIdx (fun z=>decide (¬okZ z cap))
theorem zbad_any (v:Value) (l:List Zn) (K:Nat→Prop) (g:Nat) (cap opn act:Int) (v9:Value) (w:World) (hv:IsL Rp.zone w K v l) (hB9:Blk w g 34 #[.int .i64 cap,.int .i64 opn,.int .i64 act,v9]) :
 Calls Tryz.prog 74 #[v,.func (.func 38) #[] #[.pointer (some ⟨g,0,none⟩)]] w fun e w'=>
  e=.returned (.int .i64 (if bad? cap l<l.length then (bad? cap l:Int) else -1))∧Below w.heap.size w w':=by
 obtain ⟨res,hres⟩:∃ res:Int,res=if bad? cap l<l.length then (bad? cap l:Int) else -1:=⟨_,rfl⟩;rw [←hres];have HRES:=Lib.hid hres;clear hres;have hv0:=hv;obtain ⟨A,c,rfl,hlc,hcc⟩:=hv.form;have hlen:=hv.len;go_enter Tryz.func74,Tryz.ntmps74
 go_wp2_with fail;go_loopw [5,8] (fun x i wr=>∃ j:Nat,i=.int .i64 j∧j≤l.length∧j≤bad? cap l∧Below w.heap.size w wr∧(∃ y,x=y)) (fun _ i _=>l.length-(intOf i).toNat)
 case atStart=>exact ⟨0,rfl,Nat.zero_le _,Nat.zero_le _,Below.refl _ _,_,rfl⟩
 case round=>
  obtain ⟨j,rfl,hj,hjf,hb,y,rfl⟩:=hrel;have hsz:=hb.size;by_cases hlt:j<l.length
  · have hp:decide (¬okZ l[j] cap)=true→bad? cap l=j:=fun h=>(List.findIdx_eq hlt).2 ⟨h,fun k hk=>by
     have:=List.not_of_lt_findIdx (p:=fun z:Zn=>decide (¬okZ z cap)) (xs:=l) (i:=k) (by unfold bad? at hjf;omega)
     simpa using this⟩
    have hp2:decide (¬okZ l[j] cap)=false→j+1≤bad? cap l:=fun h=>by
     rcases Nat.lt_or_ge j (bad? cap l) with h1 | h1
     · exact h1
     · have e:bad? cap l=j:=by omega
       have:=List.findIdx_getElem (p:=fun z:Zn=>decide (¬okZ z cap)) (xs:=l) (w:=by unfold bad? at e;omega)
       unfold bad? at e;simp only [e] at this;rw [h] at this;cases this
    obtain ⟨ad,B,cB,rfl,hadb,_,hB,hc0,hc1,hc2⟩:=IsL.zone_at (hv0.step hb) (List.getElem?_eq_getElem hlt);generalize l[j]=z at hB hc0 hc1 hc2 hp hp2;obtain ⟨r,hr⟩:∃ r,decide (¬okZ z cap)=r:=⟨_,rfl⟩;have HP:=Lib.hid hp;have HP2:=Lib.hid hp2;have HR:=Lib.hid hr;have HZB:=Lib.hid hB;clear hp hp2 hr hB;have j1:(j:Int)<(l.length:Int):=by omega
    have j0:(0:Int)≤(j:Int):=by omega
    cases r with
    | true=>
      go_wp2_with (go_at_call 38;refine (zcheckf_any z B cB g cap opn act v9 _ _ HZB.out (hB9.step hb)).mono ?_;rw [HR.out];rintro e w2 ⟨rfl,hb2⟩);go_ret;have e:=HRES.out;have ef:=HP.out HR.out;rw [if_pos (by omega),ef] at e
      rw [e];exact ⟨rfl,hb.trans (hb2.mono hsz)⟩
    | false=>
      go_wp2_with (go_at_call 38;refine (zcheckf_any z B cB g cap opn act v9 _ _ HZB.out (hB9.step hb)).mono ?_;rw [HR.out];rintro e w2 ⟨rfl,hb2⟩);go_roundw
      case rel=>exact ⟨j+1,by go_num,by omega,HP2.out HR.out,hb.trans (hb2.mono hsz),_,rfl⟩
      case measure=>simp [intOf];omega
  · obtain rfl:j=l.length:=by omega
    go_wp2;go_ret;have e:=HRES.out;rw [if_neg (by omega)] at e
    rw [e];exact ⟨rfl,hb⟩
theorem bad_iff (cap:Int) (l:List Zn):bad? cap l<l.length↔¬ ∀ z∈l,okZ z cap:=by
 unfold bad?;rw [List.findIdx_lt_length];simp
theorem zbadf_any (v:Value) (l:List Zn) (K:Nat→Prop) (g:Nat) (cap opn act:Int) (v9:Value) (w:World) (hv:IsL Rp.zone w K v l) (hB9:Blk w g 34 #[.int .i64 cap,.int .i64 opn,.int .i64 act,v9]) :
 Calls Tryz.prog 37 #[v,.func (.func 38) #[] #[.pointer (some ⟨g,0,none⟩)]] w fun e w'=>
  e=.returned (.bool (decide (¬ ∀ z∈l,okZ z cap)))∧Below w.heap.size w w':=by
 obtain ⟨res,hres⟩:∃ res:Bool,res=decide (¬ ∀ z∈l,okZ z cap):=⟨_,rfl⟩;rw [←hres];have HRES:=Lib.hid hres;clear hres;obtain ⟨r,hr⟩:∃ r:Int,(if bad? cap l<l.length then (bad? cap l:Int) else -1)=r:=⟨_,rfl⟩;have HR:=Lib.hid hr;clear hr;go_enter Tryz.func37,Tryz.ntmps37
 go_wp2_with (go_at_call 74;refine (zbad_any v l K g cap opn act v9 _ hv hB9).mono ?_;rw [HR.out];rintro e w2 ⟨rfl,hb2⟩);go_ret;refine ⟨?_,hb2⟩;have e:=HRES.out;have h:=HR.out;by_cases hb:bad? cap l<l.length
 · rw [if_pos hb] at h
   rw [decide_eq_true ((bad_iff cap l).1 hb)] at e;rw [e,←h];simp
 · rw [if_neg hb] at h
   rw [decide_eq_false (fun hn=>hb ((bad_iff cap l).2 hn))] at e
   rw [e,←h];simp
def bdsD (d:Zd):Prop:=1≤d.z.length∧d.z.length≤64∧1≤d.cap∧d.cap≤65536∧1≤d.opn∧d.opn≤d.act∧d.act≤d.z.length
instance (d:Zd):Decidable (bdsD d):=inferInstanceAs (Decidable (_∧_))
theorem zchk_any (d:Zd) (v:Value) (K:Nat→Prop) (w:World) (hv:IsL Rp.zone w K v d.z) :
 Calls Tryz.prog 16 #[.agg #[.int .i64 d.cap,.int .i64 d.opn,.int .i64 d.act,v]] w fun e w'=>e=.returned (.int .i64 (chkD d))∧Below w.heap.size w w':=by
 obtain ⟨A,c,rfl,hlc,hcc⟩:=hv.form;have hlen:=hv.len;obtain ⟨res,hres⟩:∃ res:Int,chkD d=res:=⟨_,rfl⟩;rw [hres];have HRES:=Lib.hid hres;clear hres;have E:=((Kn.start w).give Stable.list hv).push 34 #[.int .i64 d.cap,.int .i64 d.opn,.int .i64 d.act,.slice A d.z.length c];go_enter Tryz.func16,Tryz.ntmps16
 go_upto_region 2 with fail;obtain ⟨r,hr⟩:∃ r:Bool,decide (bdsD d)=r:=⟨_,rfl⟩;have HR:=Lib.hid hr;clear hr;go_cut [4] (fun s4 wx=>s4=.bool r∧wx=w.alloc (.cells #[.int .i64 d.cap,.int .i64 d.opn,.int .i64 d.act,.slice A d.z.length c] 34))
 case first=>
  go_wp2;all_goals go_meet
  all_goals refine ⟨congrArg Value.bool ?_,rfl⟩
  all_goals rw [←HR.out]
  all_goals refine Bool.eq_iff_iff.2 ((?_:_↔bdsD d).trans decide_eq_true_iff.symm)
  all_goals clear E HRES HR
  all_goals unfold bdsD
  all_goals simp
  all_goals omega
 case rest=>
  obtain ⟨rfl,rfl⟩:=hcut;generalize hwB:w.alloc (.cells #[.int .i64 d.cap,.int .i64 d.opn,.int .i64 d.act,.slice A d.z.length c] 34)=wB at E ⊢;clear hwB;have HK:Hid (∀ W,Below wB.heap.size wB W→∀ o,W.cell? ⟨w.heap.size,o,none⟩=(#[.int .i64 d.cap,.int .i64 d.opn,.int .i64 d.act,.slice A d.z.length c]:Array Value)[o]?):=Lib.hid fun W h=>((E.step h).rules m0).1
  have hres:=HRES.out;unfold chkD at hres;go_upto_region 3 with fail;by_cases hbd:bdsD d
  · have hrt:r=true:=by rw [←HR.out];exact decide_eq_true hbd
    subst hrt;by_cases ho:d.opn<(cntZ openS d.z:Int)
    · have hr1:res=1:=by rw [←hres,if_neg (fun h:okD d=>by have:=h.2.1;omega)]
      subst hr1;clear hres HRES HR hbd;refine wp_region_held_drew (S:=fun W=>∀ o,W.cell? ⟨w.heap.size,o,none⟩=(#[.int .i64 d.cap,.int .i64 d.opn,.int .i64 d.act,.slice A d.z.length c]:Array Value)[o]?) (by kernel_rfl) (HK.out _ (Below.refl _ _).drew) (fun hHeld=>?_)
      refine wT 0 42 ?_;refine wT 1 43 ?_;refine wT 2 44 ?_;refine wT 3 45 ?_;refine wT 4 46 ?_;refine wT 6 48 ?_;refine wT 7 49 ?_;refine wpAnyH_ready (rs:=[5]) (by kernel_rfl) (by simp) ?_
      refine AllReadyH.cons (o:=⟨some 47,_,_,_,_,_⟩) rfl (fun K hK=>?_) AllReadyH.nil
      go_simp;refine (opened_any A c d.z _ _ ((IsZs.of (E.get m0)).step (Below.refl _ _).drew) (by omega)).mono ?_
      rintro e w3 ⟨rfl,hb3⟩;replace hb3:=(Below.refl wB.heap.size wB).drew.trans hb3;go_wp2_with fail;refine hK.out _ _ (HK.out _ hb3) (fun hHeld=>?_)
      clear hK K;try simp only [pu,List.set]
      refine wT 8 50 ?_;refine wT 9 51 ?_;refine wT 10 52 ?_;refine wU 11 53 ?_;refine wU 12 54 ?_;refine wU 13 55 ?_;refine wU 14 56 ?_;refine wU 15 57 ?_;refine wU 16 58 ?_;refine wT 17 59 ?_;refine wpAnyH_done (by kernel_rfl) ?_ _
      go_wp2;go_ret;exact ⟨rfl,(E.step hb3).below⟩
    · have HRB:Hid (res=if (cntZ activeS d.z:Int)≤d.act∧∀ z∈d.z,okZ z d.cap then 0 else 1):=Lib.hid (by
       rw [←hres];by_cases h:okD d
       · rw [if_pos h,if_pos h.2.2]
       · rw [if_neg h,if_neg (fun h2=>h ⟨hbd,by omega,h2⟩)])
      clear hres HRES HR hbd;have hod:decide (d.opn<(cntZ openS d.z:Int))=false:=decide_eq_false ho;go_region_held3 (fun W=>∀ o,W.cell? ⟨w.heap.size,o,none⟩=(#[.int .i64 d.cap,.int .i64 d.opn,.int .i64 d.act,.slice A d.z.length c]:Array Value)[o]?)
       (first | with_reducible exact HK.out _ (Below.refl _ _).drew | with_reducible exact HK.out _ hb4 | with_reducible exact HK.out _ hb3)
       (first
        | (go_at_call 35
           refine (opened_any A c d.z _ _ ((IsZs.of (E.get m0)).step (Below.refl _ _).drew) (by omega)).mono ?_
           rintro e w3 ⟨rfl,hb3⟩;replace hb3:=(Below.refl wB.heap.size wB).drew.trans hb3)
        | (go_at_call 36
           refine (active_any A c d.z _ _ ((IsZs.of (E.get m0)).step hb3) (by omega)).mono ?_
           rintro e w4 ⟨rfl,hb4⟩;replace hb4:=hb3.trans (hb4.mono hb3.size)))
      by_cases ha:d.act<(cntZ activeS d.z:Int)
      · have hr1:res=1:=by rw [HRB.out,if_neg (fun h=>by have:=h.1;omega)]
        subst hr1;go_wp2;go_ret;exact ⟨rfl,(E.step hb4).below⟩
      · replace E:=E.step hb4
        go_wp2_with fail;refine (zbadf_any _ d.z K w.heap.size d.cap d.opn d.act _ _ (E.get m0) (E.at_ m0)).mono ?_;rintro e w5 ⟨rfl,hb5⟩;replace E:=E.step hb5;by_cases hz:∀ z∈d.z,okZ z d.cap
        · rw [decide_eq_false (fun h=>h hz)]
          have hr1:res=0:=by rw [HRB.out,if_pos ⟨by omega,hz⟩]
          subst hr1;clear hz;go_wp2;go_ret;exact ⟨rfl,E.below⟩
        · rw [decide_eq_true hz]
          have hr1:res=1:=by rw [HRB.out,if_neg (fun h=>hz h.2)]
          subst hr1;clear hz;go_wp2;go_ret;exact ⟨rfl,E.below⟩
  · have hrf:r=false:=by rw [←HR.out];exact decide_eq_false hbd
    have hr1:res=1:=by rw [←hres,if_neg (fun h:okD d=>hbd h.1)]
    subst hrf hr1;clear hres HRES HR hbd;refine wp_region_held_drew (S:=fun W=>∀ o,W.cell? ⟨w.heap.size,o,none⟩=(#[.int .i64 d.cap,.int .i64 d.opn,.int .i64 d.act,.slice A d.z.length c]:Array Value)[o]?) (by kernel_rfl) (HK.out _ (Below.refl _ _).drew) (fun hHeld=>?_)
    refine wT 0 42 ?_;refine wT 1 43 ?_;refine wT 2 44 ?_;refine wU 3 45 ?_;refine wU 4 46 ?_;refine wU 5 47 ?_;refine wU 6 48 ?_;refine wU 7 49 ?_;refine wU 8 50 ?_;refine wT 9 51 ?_;refine wT 10 52 ?_;refine wU 11 53 ?_;refine wU 12 54 ?_;refine wU 13 55 ?_;refine wU 14 56 ?_;refine wU 15 57 ?_;refine wU 16 58 ?_;refine wT 17 59 ?_;refine wpAnyH_done (by kernel_rfl) ?_ _
    go_wp2;go_ret;exact ⟨rfl,E.below.drew⟩
end Go.Proofs.YtfhpolidjmbjoaaGreat
