/- A part of the proof. -/
import Derived.Test.YtcapmeefiglfjaaGreatFill24
set_option linter.unusedSimpArgs false
set_option maxHeartbeats 8000000
set_option maxRecDepth 100000
namespace Go.Proofs.YtcapmeefiglfjaaGreat
open Go.RowKit
abbrev wrC (h:Ho) (vo vs vb vl vm:Value) (d:Zd) (vz:Value):Array Value:=#[.int .i64 h.id,vo,vs,.bool h.opn,.int .i64 h.p.h.host,.int .i64 h.p.h.epoch,.int .i64 h.p.h.seq,.int .i64 h.p.zone,.int .i64 h.p.cap,.int .i64 h.p.at_,vb,vl,vm,.int .i64 h.ver,.int .i64 h.seq,.int .i64 d.cap,.int .i64 d.opn,.int .i64 d.act,vz]
theorem zg1 {K:World→Prop} {w:World} {g:Nat} {t:TypeId} {cs:Array Value} (hB:Blk w g t cs) (i:Nat) (x0 x1 x2 x3:Value)
 (h:∀ wy,wy.heap.size=w.heap.size→aA w wy (fun b=>b=g)→Blk wy g t ((((cs.setIfInBounds i x0).setIfInBounds (i+1) x1).setIfInBounds (i+2) x2).setIfInBounds (i+3) x3)→K wy) :
 K ((((w.setCell ⟨g,i,none⟩ x0).setCell ⟨g,i+1,none⟩ x1).setCell ⟨g,i+2,none⟩ x2).setCell ⟨g,i+3,none⟩ x3):=
 h _ (by simp) (((((aA.refl w (fun b=>b=g)).set (g:=g) rfl i x0).set (g:=g) rfl (i+1) x1).set (g:=g) rfl (i+2) x2).set (g:=g) rfl (i+3) x3) ((((hB.set_ i x0).set_ (i+1) x1).set_ (i+2) x2).set_ (i+3) x3)
theorem zdA (g:Nat) (h:Ho) (vo vs vb vl vm:Value) (d:Zd) (A:Option Addr) (cz:Nat) (c:Cm) (Ac:Option Addr) (kc:Nat) (K:Nat→Prop) (w:World) (hB:Blk w g 169 (wrC h vo vs vb vl vm d (.slice A d.z.length cz)))
 (hz:IsL Rp.zone w K (.slice A d.z.length cz) d.z) (hKlt:∀ b,K b→b<w.heap.size∧b≠g) (hc:IsB w K (.slice Ac c.data.length kc) c.data) (hn:d.z.length*40≤140737488355328) (hoff:c.off≤9223372036854775807) :
 Calls Tryz.prog 150 #[.pointer (some ⟨g,0,none⟩),.agg #[.int .i64 c.op,.int .i64 c.zone,.int .i64 c.epoch,.int .i64 c.off,.int .i64 c.n,.slice Ac c.data.length kc]] w fun e w'=>∃ A9 c9,e=.returned (.int .i64 (doZ d c).2.e) ∧
  Blk w' g 169 (wrC h vo vs vb vl vm (doZ d c).1 (.slice A9 (doZ d c).1.z.length c9))∧IsL Rp.zone w' (fun b=>K b∨w.heap.size≤b) (.slice A9 (doZ d c).1.z.length c9) (doZ d c).1.z∧aA w w' (fun b=>b=g):=by
 have hdo:=fun W h1 h2 h3=>zca d c A cz Ac kc K W h1 h2 h3 hn hoff
 have hgl:=hB.lt;have E:=(((Kn.start w).know hB).give aB.list hz).give aB.bytes hc |>.push 80 #[.int .i64 c.op,.int .i64 c.zone,.int .i64 c.epoch,.int .i64 c.off,.int .i64 c.n,.slice Ac c.data.length kc]
 have hb1:=(zif w.heap.size w).alloc (zic _) (.cells #[.int .i64 c.op,.int .i64 c.zone,.int .i64 c.epoch,.int .i64 c.off,.int .i64 c.n,.slice Ac c.data.length kc] 80);obtain ⟨r,hdx⟩:∃ r,doZ d c=r:=⟨_,rfl⟩;rw [hdx] at hdo ⊢;obtain ⟨d',x⟩:=r;simp only at hdo ⊢;have HKL:=zia hKlt;clear hB hz hc hdx hKlt;go_enter Tryz.func150,Tryz.ntmps150
 go_upto_region 1 with fail;generalize w.alloc (.cells #[.int .i64 c.op,.int .i64 c.zone,.int .i64 c.epoch,.int .i64 c.off,.int .i64 c.n,.slice Ac c.data.length kc] 80)=w1 at E hb1 ⊢;have hs1:w.heap.size<w1.heap.size:=(E.at_ m0).lt;have HK:Hid (∀ W,Below w1.heap.size w1 W→(∀ o,W.cell? ⟨g,o,none⟩=(wrC h vo vs vb vl vm d (.slice A d.z.length cz))[o]?)∧(∀ o,W.cell? ⟨w.heap.size,o,none⟩=(#[.int .i64 c.op,.int .i64 c.zone,.int .i64 c.epoch,.int .i64 c.off,.int .i64 c.n,.slice Ac c.data.length kc]:Array Value)[o]?)):=zia fun W hb=>⟨((E.step hb).rules m1).1,((E.step hb).rules m0).1⟩
 go_cut [5,6] (fun x5 x6 wx=>∃ gd ge A9 c9 A10 c10,x5=.pointer (some ⟨gd,0,none⟩)∧x6=.pointer (some ⟨ge,0,none⟩)∧gd≠ge∧w1.heap.size≤gd∧w1.heap.size≤ge∧Blk wx gd 26 #[.int .i64 d'.cap,.int .i64 d'.opn,.int .i64 d'.act,.slice A9 d'.z.length c9]∧Blk wx ge 76 #[.int .i64 x.e,.int .i64 x.at_,.slice A10 x.data.length c10]∧IsL Rp.zone wx (fun b=>K b∨(w1.heap.size≤b∧b≠gd∧b≠ge)) (.slice A9 d'.z.length c9) d'.z∧Below w1.heap.size w1 wx)
 case first=>
  have hb0:Below w1.heap.size w1 w1.drew:=(zif _ _).drew;refine wp_region_held_drew (S:=fun W=>(∀ o,W.cell? ⟨g,o,none⟩=(wrC h vo vs vb vl vm d (.slice A d.z.length cz))[o]?)∧(∀ o,W.cell? ⟨w.heap.size,o,none⟩=(#[.int .i64 c.op,.int .i64 c.zone,.int .i64 c.epoch,.int .i64 c.off,.int .i64 c.n,.slice Ac c.data.length kc]:Array Value)[o]?)) (by kernel_rfl) (HK.out _ hb0) (fun hHeld=>?_)
  have hbx:=hb0;generalize w1.drew=wx at hbx hHeld ⊢;refine wT 0 8 ?_;refine wT 1 9 ?_;refine wT 2 10 ?_;refine wT 3 11 ?_;refine wT 4 12 ?_;refine wpAnyH_ready (rs:=[5,9,10]) (by kernel_rfl) (by simp) ?_
  refine AllReadyH.cons (o:=⟨some 13,_,_,_,_,_⟩) rfl (fun K hK=>?_) ?_
  · obtain ⟨n0,hn0⟩:∃ n0,wx.heap.size=n0:=⟨_,rfl⟩
    go_simp;refine (hdo _ ((E.step hbx).get m1) (fun b hb=>by have:=HKL.out b hb;have:=hbx.size;omega) ((E.step hbx).get m0)).mono ?_
    have hnw:w1.heap.size≤n0:=by rw [←hn0];exact hbx.size
    rintro e wx ⟨v1,v2,rfl,⟨A9,c9,rfl,hz2,_⟩,⟨A10,c10,rfl,_⟩,hbn⟩;obtain ⟨n1,hn1⟩:∃ n1,wx.heap.size=n1:=⟨_,rfl⟩;have hz:=hz2.zlt;rw [hn0,hn1] at hz;have hnx:n1≤wx.heap.size:=zjA hn1.symm;have hn01:n0≤n1:=by rw [←hn0,←hn1];exact hbn.size
    first | (have hdz:gd<n0∨n1≤gd:=.inl (by have:=hBd.lt;omega)) | skip
    first | (have hez:ge<n0∨n1≤ge:=.inl (by have:=hBe.lt;omega)) | skip
    first | replace hBd:=hBd.step hbn | skip
    first | replace hBe:=hBe.step hbn | skip
    replace hbx:=hbx.trans (hbn.mono hbx.size);clear hn0 hn1;go_wp2_with fail;refine hK.out _ _ (HK.out _ hbx) (fun hHeld=>?_)
    clear hK K;refine wT 6 7 ?_;refine wT 7 14 ?_;refine wT 8 15 ?_;refine wpAnyH_ready (rs:=[9,10]) (by kernel_rfl) (by simp) ?_
    refine AllReadyH.cons (o:=⟨some 5,_,_,_,_,_⟩) rfl (fun K hK=>?_) ?_
    · obtain ⟨gd,hgd⟩:∃ gd,wx.heap.size=gd:=⟨_,rfl⟩
      go_simp;try rw [hgd]
      refine bD (K:=K _) ?_;intro wx hby hBd;rw [hgd] at hBd;have hld:w1.heap.size≤gd:=by rw [←hgd];exact hbx.size
      first | (have hdz:gd<n0∨n1≤gd:=.inr (by rw [←hgd];exact hnx)) | skip
      first | (replace hnx:=zit hnx hby.size) | skip
      first | (have hne:gd≠ge:=by have:=hBe.lt;omega) | skip
      first | replace hBe:=hBe.step hby | skip
      first | replace hz:=hz.step hby | skip
      replace hbx:=hbx.trans (hby.mono hbx.size);refine hK.out _ _ (HK.out _ hbx) (fun hHeld=>?_)
      clear hK K;try simp only [pu,List.set]
      refine wR 10 6 (fun K hK=>?_)
      obtain ⟨ge,hge⟩:∃ ge,wx.heap.size=ge:=⟨_,rfl⟩;go_simp;try rw [hge]
      refine bD (K:=K _) ?_;intro wx hby hBe;rw [hge] at hBe;have hle:w1.heap.size≤ge:=by rw [←hge];exact hbx.size
      first | (have hez:ge<n0∨n1≤ge:=.inr (by rw [←hge];exact hnx)) | skip
      first | (replace hnx:=zit hnx hby.size) | skip
      first | (have hne:gd≠ge:=by have:=hBd.lt;omega) | skip
      first | replace hBd:=hBd.step hby | skip
      first | replace hz:=hz.step hby | skip
      replace hbx:=hbx.trans (hby.mono hbx.size);refine hK.out _ _ (HK.out _ hbx) (fun hHeld=>?_)
      clear hK K;try simp only [pu,List.set]
      refine wRn 11 (fun K hK=>?_)
      obtain ⟨q0,f0⟩:=hBd.rules;have t0:=hBd.lt;go_simp;refine dI (K:=K _) hBd _ _ _ _ ?_;intro wx hsx htx hBd';replace hBe:=hBe.turned htx (by first | exact hne | exact hne.symm)
      replace hz:=hz.turned htx (fun b hb e=>by rcases hb.1 with h1 | h1;(have:=HKL.out b h1;omega);(have:=hb.2;omega))
      replace hbx:=aA.upon hbx htx hld (zic _);clear q0 f0 t0 hBd;have hBd:=hBd';refine hK.out _ _ (HK.out _ hbx) (fun hHeld=>?_)
      clear hK K;try simp only [pu,List.set]
      refine wRn 12 (fun K hK=>?_)
      obtain ⟨q0,f0⟩:=hBe.rules;have t0:=hBe.lt;go_simp;refine qO (K:=K _) hBe _ _ _ ?_;intro wx htx hBe';replace hBd:=hBd.turned htx (by first | exact hne | exact hne.symm)
      replace hz:=hz.turned htx (fun b hb e=>by rcases hb.1 with h1 | h1;(have:=HKL.out b h1;omega);(have:=hb.2;omega))
      replace hbx:=aA.upon hbx htx hle (zic _);clear q0 f0 t0 hBe;have hBe:=hBe';refine hK.out _ _ (HK.out _ hbx) (fun hHeld=>?_)
      clear hK K;try simp only [pu,List.set]
      refine wpAnyH_done (by kernel_rfl) ?_ _
      go_wp2_with fail;go_meet;exact ⟨gd,ge,A9,c9,A10,c10,rfl,rfl,hne,hld,hle,hBd,hBe,hz.more (fun b hb=>by rcases hb.1 with h1 | h1;exact .inl h1;exact .inr ⟨by omega,by have:=hb.2;omega,by have:=hb.2;omega⟩),hbx⟩
    refine AllReadyH.cons (o:=⟨some 6,_,_,_,_,_⟩) rfl (fun K hK=>?_) ?_
    · obtain ⟨ge,hge⟩:∃ ge,wx.heap.size=ge:=⟨_,rfl⟩
      go_simp;try rw [hge]
      refine bD (K:=K _) ?_;intro wx hby hBe;rw [hge] at hBe;have hle:w1.heap.size≤ge:=by rw [←hge];exact hbx.size
      first | (have hez:ge<n0∨n1≤ge:=.inr (by rw [←hge];exact hnx)) | skip
      first | (replace hnx:=zit hnx hby.size) | skip
      first | (have hne:gd≠ge:=by have:=hBd.lt;omega) | skip
      first | replace hBd:=hBd.step hby | skip
      first | replace hz:=hz.step hby | skip
      replace hbx:=hbx.trans (hby.mono hbx.size);refine hK.out _ _ (HK.out _ hbx) (fun hHeld=>?_)
      clear hK K;try simp only [pu,List.set]
      refine wR 9 5 (fun K hK=>?_)
      obtain ⟨gd,hgd⟩:∃ gd,wx.heap.size=gd:=⟨_,rfl⟩;go_simp;try rw [hgd]
      refine bD (K:=K _) ?_;intro wx hby hBd;rw [hgd] at hBd;have hld:w1.heap.size≤gd:=by rw [←hgd];exact hbx.size
      first | (have hdz:gd<n0∨n1≤gd:=.inr (by rw [←hgd];exact hnx)) | skip
      first | (replace hnx:=zit hnx hby.size) | skip
      first | (have hne:gd≠ge:=by have:=hBe.lt;omega) | skip
      first | replace hBe:=hBe.step hby | skip
      first | replace hz:=hz.step hby | skip
      replace hbx:=hbx.trans (hby.mono hbx.size);refine hK.out _ _ (HK.out _ hbx) (fun hHeld=>?_)
      clear hK K;try simp only [pu,List.set]
      refine wRn 11 (fun K hK=>?_)
      obtain ⟨q0,f0⟩:=hBd.rules;have t0:=hBd.lt;go_simp;refine dI (K:=K _) hBd _ _ _ _ ?_;intro wx hsx htx hBd';replace hBe:=hBe.turned htx (by first | exact hne | exact hne.symm)
      replace hz:=hz.turned htx (fun b hb e=>by rcases hb.1 with h1 | h1;(have:=HKL.out b h1;omega);(have:=hb.2;omega))
      replace hbx:=aA.upon hbx htx hld (zic _);clear q0 f0 t0 hBd;have hBd:=hBd';refine hK.out _ _ (HK.out _ hbx) (fun hHeld=>?_)
      clear hK K;try simp only [pu,List.set]
      refine wRn 12 (fun K hK=>?_)
      obtain ⟨q0,f0⟩:=hBe.rules;have t0:=hBe.lt;go_simp;refine qO (K:=K _) hBe _ _ _ ?_;intro wx htx hBe';replace hBd:=hBd.turned htx (by first | exact hne | exact hne.symm)
      replace hz:=hz.turned htx (fun b hb e=>by rcases hb.1 with h1 | h1;(have:=HKL.out b h1;omega);(have:=hb.2;omega))
      replace hbx:=aA.upon hbx htx hle (zic _);clear q0 f0 t0 hBe;have hBe:=hBe';refine hK.out _ _ (HK.out _ hbx) (fun hHeld=>?_)
      clear hK K;try simp only [pu,List.set]
      refine wpAnyH_done (by kernel_rfl) ?_ _
      go_wp2_with fail;go_meet;exact ⟨gd,ge,A9,c9,A10,c10,rfl,rfl,hne,hld,hle,hBd,hBe,hz.more (fun b hb=>by rcases hb.1 with h1 | h1;exact .inl h1;exact .inr ⟨by omega,by have:=hb.2;omega,by have:=hb.2;omega⟩),hbx⟩
    exact AllReadyH.nil
  refine AllReadyH.cons (o:=⟨some 5,_,_,_,_,_⟩) rfl (fun K hK=>?_) ?_
  · obtain ⟨gd,hgd⟩:∃ gd,wx.heap.size=gd:=⟨_,rfl⟩
    go_simp;try rw [hgd]
    refine bD (K:=K _) ?_;intro wx hby hBd;rw [hgd] at hBd;have hld:w1.heap.size≤gd:=by rw [←hgd];exact hbx.size
    first | (have hdz:gd<n0∨n1≤gd:=.inr (by rw [←hgd];exact hnx)) | skip
    first | (replace hnx:=zit hnx hby.size) | skip
    first | (have hne:gd≠ge:=by have:=hBe.lt;omega) | skip
    first | replace hBe:=hBe.step hby | skip
    first | replace hz:=hz.step hby | skip
    replace hbx:=hbx.trans (hby.mono hbx.size);refine hK.out _ _ (HK.out _ hbx) (fun hHeld=>?_)
    clear hK K;try simp only [pu,List.set]
    refine wpAnyH_ready (rs:=[5,10]) (by kernel_rfl) (by simp) ?_
    refine AllReadyH.cons (o:=⟨some 13,_,_,_,_,_⟩) rfl (fun K hK=>?_) ?_
    · obtain ⟨n0,hn0⟩:∃ n0,wx.heap.size=n0:=⟨_,rfl⟩
      go_simp;refine (hdo _ ((E.step hbx).get m1) (fun b hb=>by have:=HKL.out b hb;have:=hbx.size;omega) ((E.step hbx).get m0)).mono ?_
      have hnw:w1.heap.size≤n0:=by rw [←hn0];exact hbx.size
      rintro e wx ⟨v1,v2,rfl,⟨A9,c9,rfl,hz2,_⟩,⟨A10,c10,rfl,_⟩,hbn⟩;obtain ⟨n1,hn1⟩:∃ n1,wx.heap.size=n1:=⟨_,rfl⟩;have hz:=hz2.zlt;rw [hn0,hn1] at hz;have hnx:n1≤wx.heap.size:=zjA hn1.symm;have hn01:n0≤n1:=by rw [←hn0,←hn1];exact hbn.size
      first | (have hdz:gd<n0∨n1≤gd:=.inl (by have:=hBd.lt;omega)) | skip
      first | (have hez:ge<n0∨n1≤ge:=.inl (by have:=hBe.lt;omega)) | skip
      first | replace hBd:=hBd.step hbn | skip
      first | replace hBe:=hBe.step hbn | skip
      replace hbx:=hbx.trans (hbn.mono hbx.size);clear hn0 hn1;go_wp2_with fail;refine hK.out _ _ (HK.out _ hbx) (fun hHeld=>?_)
      clear hK K;refine wT 6 7 ?_;refine wT 7 14 ?_;refine wT 8 15 ?_;refine wR 10 6 (fun K hK=>?_)
      obtain ⟨ge,hge⟩:∃ ge,wx.heap.size=ge:=⟨_,rfl⟩;go_simp;try rw [hge]
      refine bD (K:=K _) ?_;intro wx hby hBe;rw [hge] at hBe;have hle:w1.heap.size≤ge:=by rw [←hge];exact hbx.size
      first | (have hez:ge<n0∨n1≤ge:=.inr (by rw [←hge];exact hnx)) | skip
      first | (replace hnx:=zit hnx hby.size) | skip
      first | (have hne:gd≠ge:=by have:=hBd.lt;omega) | skip
      first | replace hBd:=hBd.step hby | skip
      first | replace hz:=hz.step hby | skip
      replace hbx:=hbx.trans (hby.mono hbx.size);refine hK.out _ _ (HK.out _ hbx) (fun hHeld=>?_)
      clear hK K;try simp only [pu,List.set]
      refine wRn 11 (fun K hK=>?_)
      obtain ⟨q0,f0⟩:=hBd.rules;have t0:=hBd.lt;go_simp;refine dI (K:=K _) hBd _ _ _ _ ?_;intro wx hsx htx hBd';replace hBe:=hBe.turned htx (by first | exact hne | exact hne.symm)
      replace hz:=hz.turned htx (fun b hb e=>by rcases hb.1 with h1 | h1;(have:=HKL.out b h1;omega);(have:=hb.2;omega))
      replace hbx:=aA.upon hbx htx hld (zic _);clear q0 f0 t0 hBd;have hBd:=hBd';refine hK.out _ _ (HK.out _ hbx) (fun hHeld=>?_)
      clear hK K;try simp only [pu,List.set]
      refine wRn 12 (fun K hK=>?_)
      obtain ⟨q0,f0⟩:=hBe.rules;have t0:=hBe.lt;go_simp;refine qO (K:=K _) hBe _ _ _ ?_;intro wx htx hBe';replace hBd:=hBd.turned htx (by first | exact hne | exact hne.symm)
      replace hz:=hz.turned htx (fun b hb e=>by rcases hb.1 with h1 | h1;(have:=HKL.out b h1;omega);(have:=hb.2;omega))
      replace hbx:=aA.upon hbx htx hle (zic _);clear q0 f0 t0 hBe;have hBe:=hBe';refine hK.out _ _ (HK.out _ hbx) (fun hHeld=>?_)
      clear hK K;try simp only [pu,List.set]
      refine wpAnyH_done (by kernel_rfl) ?_ _
      go_wp2_with fail;go_meet;exact ⟨gd,ge,A9,c9,A10,c10,rfl,rfl,hne,hld,hle,hBd,hBe,hz.more (fun b hb=>by rcases hb.1 with h1 | h1;exact .inl h1;exact .inr ⟨by omega,by have:=hb.2;omega,by have:=hb.2;omega⟩),hbx⟩
    refine AllReadyH.cons (o:=⟨some 6,_,_,_,_,_⟩) rfl (fun K hK=>?_) ?_
    · obtain ⟨ge,hge⟩:∃ ge,wx.heap.size=ge:=⟨_,rfl⟩
      go_simp;try rw [hge]
      refine bD (K:=K _) ?_;intro wx hby hBe;rw [hge] at hBe;have hle:w1.heap.size≤ge:=by rw [←hge];exact hbx.size
      first | (have hez:ge<n0∨n1≤ge:=.inr (by rw [←hge];exact hnx)) | skip
      first | (replace hnx:=zit hnx hby.size) | skip
      first | (have hne:gd≠ge:=by have:=hBd.lt;omega) | skip
      first | replace hBd:=hBd.step hby | skip
      first | replace hz:=hz.step hby | skip
      replace hbx:=hbx.trans (hby.mono hbx.size);refine hK.out _ _ (HK.out _ hbx) (fun hHeld=>?_)
      clear hK K;try simp only [pu,List.set]
      refine wR 5 13 (fun K hK=>?_)
      obtain ⟨n0,hn0⟩:∃ n0,wx.heap.size=n0:=⟨_,rfl⟩;go_simp;refine (hdo _ ((E.step hbx).get m1) (fun b hb=>by have:=HKL.out b hb;have:=hbx.size;omega) ((E.step hbx).get m0)).mono ?_
      have hnw:w1.heap.size≤n0:=by rw [←hn0];exact hbx.size
      rintro e wx ⟨v1,v2,rfl,⟨A9,c9,rfl,hz2,_⟩,⟨A10,c10,rfl,_⟩,hbn⟩;obtain ⟨n1,hn1⟩:∃ n1,wx.heap.size=n1:=⟨_,rfl⟩;have hz:=hz2.zlt;rw [hn0,hn1] at hz;have hnx:n1≤wx.heap.size:=zjA hn1.symm;have hn01:n0≤n1:=by rw [←hn0,←hn1];exact hbn.size
      first | (have hdz:gd<n0∨n1≤gd:=.inl (by have:=hBd.lt;omega)) | skip
      first | (have hez:ge<n0∨n1≤ge:=.inl (by have:=hBe.lt;omega)) | skip
      first | replace hBd:=hBd.step hbn | skip
      first | replace hBe:=hBe.step hbn | skip
      replace hbx:=hbx.trans (hbn.mono hbx.size);clear hn0 hn1;go_wp2_with fail;refine hK.out _ _ (HK.out _ hbx) (fun hHeld=>?_)
      clear hK K;refine wT 6 7 ?_;refine wT 7 14 ?_;refine wT 8 15 ?_;refine wRn 11 (fun K hK=>?_)
      obtain ⟨q0,f0⟩:=hBd.rules;have t0:=hBd.lt;go_simp;refine dI (K:=K _) hBd _ _ _ _ ?_;intro wx hsx htx hBd';replace hBe:=hBe.turned htx (by first | exact hne | exact hne.symm)
      replace hz:=hz.turned htx (fun b hb e=>by rcases hb.1 with h1 | h1;(have:=HKL.out b h1;omega);(have:=hb.2;omega))
      replace hbx:=aA.upon hbx htx hld (zic _);clear q0 f0 t0 hBd;have hBd:=hBd';refine hK.out _ _ (HK.out _ hbx) (fun hHeld=>?_)
      clear hK K;try simp only [pu,List.set]
      refine wRn 12 (fun K hK=>?_)
      obtain ⟨q0,f0⟩:=hBe.rules;have t0:=hBe.lt;go_simp;refine qO (K:=K _) hBe _ _ _ ?_;intro wx htx hBe';replace hBd:=hBd.turned htx (by first | exact hne | exact hne.symm)
      replace hz:=hz.turned htx (fun b hb e=>by rcases hb.1 with h1 | h1;(have:=HKL.out b h1;omega);(have:=hb.2;omega))
      replace hbx:=aA.upon hbx htx hle (zic _);clear q0 f0 t0 hBe;have hBe:=hBe';refine hK.out _ _ (HK.out _ hbx) (fun hHeld=>?_)
      clear hK K;try simp only [pu,List.set]
      refine wpAnyH_done (by kernel_rfl) ?_ _
      go_wp2_with fail;go_meet;exact ⟨gd,ge,A9,c9,A10,c10,rfl,rfl,hne,hld,hle,hBd,hBe,hz.more (fun b hb=>by rcases hb.1 with h1 | h1;exact .inl h1;exact .inr ⟨by omega,by have:=hb.2;omega,by have:=hb.2;omega⟩),hbx⟩
    exact AllReadyH.nil
  refine AllReadyH.cons (o:=⟨some 6,_,_,_,_,_⟩) rfl (fun K hK=>?_) ?_
  · obtain ⟨ge,hge⟩:∃ ge,wx.heap.size=ge:=⟨_,rfl⟩
    go_simp;try rw [hge]
    refine bD (K:=K _) ?_;intro wx hby hBe;rw [hge] at hBe;have hle:w1.heap.size≤ge:=by rw [←hge];exact hbx.size
    first | (have hez:ge<n0∨n1≤ge:=.inr (by rw [←hge];exact hnx)) | skip
    first | (replace hnx:=zit hnx hby.size) | skip
    first | (have hne:gd≠ge:=by have:=hBd.lt;omega) | skip
    first | replace hBd:=hBd.step hby | skip
    first | replace hz:=hz.step hby | skip
    replace hbx:=hbx.trans (hby.mono hbx.size);refine hK.out _ _ (HK.out _ hbx) (fun hHeld=>?_)
    clear hK K;try simp only [pu,List.set]
    refine wpAnyH_ready (rs:=[5,9]) (by kernel_rfl) (by simp) ?_
    refine AllReadyH.cons (o:=⟨some 13,_,_,_,_,_⟩) rfl (fun K hK=>?_) ?_
    · obtain ⟨n0,hn0⟩:∃ n0,wx.heap.size=n0:=⟨_,rfl⟩
      go_simp;refine (hdo _ ((E.step hbx).get m1) (fun b hb=>by have:=HKL.out b hb;have:=hbx.size;omega) ((E.step hbx).get m0)).mono ?_
      have hnw:w1.heap.size≤n0:=by rw [←hn0];exact hbx.size
      rintro e wx ⟨v1,v2,rfl,⟨A9,c9,rfl,hz2,_⟩,⟨A10,c10,rfl,_⟩,hbn⟩;obtain ⟨n1,hn1⟩:∃ n1,wx.heap.size=n1:=⟨_,rfl⟩;have hz:=hz2.zlt;rw [hn0,hn1] at hz;have hnx:n1≤wx.heap.size:=zjA hn1.symm;have hn01:n0≤n1:=by rw [←hn0,←hn1];exact hbn.size
      first | (have hdz:gd<n0∨n1≤gd:=.inl (by have:=hBd.lt;omega)) | skip
      first | (have hez:ge<n0∨n1≤ge:=.inl (by have:=hBe.lt;omega)) | skip
      first | replace hBd:=hBd.step hbn | skip
      first | replace hBe:=hBe.step hbn | skip
      replace hbx:=hbx.trans (hbn.mono hbx.size);clear hn0 hn1;go_wp2_with fail;refine hK.out _ _ (HK.out _ hbx) (fun hHeld=>?_)
      clear hK K;refine wT 6 7 ?_;refine wT 7 14 ?_;refine wT 8 15 ?_;refine wR 9 5 (fun K hK=>?_)
      obtain ⟨gd,hgd⟩:∃ gd,wx.heap.size=gd:=⟨_,rfl⟩;go_simp;try rw [hgd]
      refine bD (K:=K _) ?_;intro wx hby hBd;rw [hgd] at hBd;have hld:w1.heap.size≤gd:=by rw [←hgd];exact hbx.size
      first | (have hdz:gd<n0∨n1≤gd:=.inr (by rw [←hgd];exact hnx)) | skip
      first | (replace hnx:=zit hnx hby.size) | skip
      first | (have hne:gd≠ge:=by have:=hBe.lt;omega) | skip
      first | replace hBe:=hBe.step hby | skip
      first | replace hz:=hz.step hby | skip
      replace hbx:=hbx.trans (hby.mono hbx.size);refine hK.out _ _ (HK.out _ hbx) (fun hHeld=>?_)
      clear hK K;try simp only [pu,List.set]
      refine wRn 11 (fun K hK=>?_)
      obtain ⟨q0,f0⟩:=hBd.rules;have t0:=hBd.lt;go_simp;refine dI (K:=K _) hBd _ _ _ _ ?_;intro wx hsx htx hBd';replace hBe:=hBe.turned htx (by first | exact hne | exact hne.symm)
      replace hz:=hz.turned htx (fun b hb e=>by rcases hb.1 with h1 | h1;(have:=HKL.out b h1;omega);(have:=hb.2;omega))
      replace hbx:=aA.upon hbx htx hld (zic _);clear q0 f0 t0 hBd;have hBd:=hBd';refine hK.out _ _ (HK.out _ hbx) (fun hHeld=>?_)
      clear hK K;try simp only [pu,List.set]
      refine wRn 12 (fun K hK=>?_)
      obtain ⟨q0,f0⟩:=hBe.rules;have t0:=hBe.lt;go_simp;refine qO (K:=K _) hBe _ _ _ ?_;intro wx htx hBe';replace hBd:=hBd.turned htx (by first | exact hne | exact hne.symm)
      replace hz:=hz.turned htx (fun b hb e=>by rcases hb.1 with h1 | h1;(have:=HKL.out b h1;omega);(have:=hb.2;omega))
      replace hbx:=aA.upon hbx htx hle (zic _);clear q0 f0 t0 hBe;have hBe:=hBe';refine hK.out _ _ (HK.out _ hbx) (fun hHeld=>?_)
      clear hK K;try simp only [pu,List.set]
      refine wpAnyH_done (by kernel_rfl) ?_ _
      go_wp2_with fail;go_meet;exact ⟨gd,ge,A9,c9,A10,c10,rfl,rfl,hne,hld,hle,hBd,hBe,hz.more (fun b hb=>by rcases hb.1 with h1 | h1;exact .inl h1;exact .inr ⟨by omega,by have:=hb.2;omega,by have:=hb.2;omega⟩),hbx⟩
    refine AllReadyH.cons (o:=⟨some 5,_,_,_,_,_⟩) rfl (fun K hK=>?_) ?_
    · obtain ⟨gd,hgd⟩:∃ gd,wx.heap.size=gd:=⟨_,rfl⟩
      go_simp;try rw [hgd]
      refine bD (K:=K _) ?_;intro wx hby hBd;rw [hgd] at hBd;have hld:w1.heap.size≤gd:=by rw [←hgd];exact hbx.size
      first | (have hdz:gd<n0∨n1≤gd:=.inr (by rw [←hgd];exact hnx)) | skip
      first | (replace hnx:=zit hnx hby.size) | skip
      first | (have hne:gd≠ge:=by have:=hBe.lt;omega) | skip
      first | replace hBe:=hBe.step hby | skip
      first | replace hz:=hz.step hby | skip
      replace hbx:=hbx.trans (hby.mono hbx.size);refine hK.out _ _ (HK.out _ hbx) (fun hHeld=>?_)
      clear hK K;try simp only [pu,List.set]
      refine wR 5 13 (fun K hK=>?_)
      obtain ⟨n0,hn0⟩:∃ n0,wx.heap.size=n0:=⟨_,rfl⟩;go_simp;refine (hdo _ ((E.step hbx).get m1) (fun b hb=>by have:=HKL.out b hb;have:=hbx.size;omega) ((E.step hbx).get m0)).mono ?_
      have hnw:w1.heap.size≤n0:=by rw [←hn0];exact hbx.size
      rintro e wx ⟨v1,v2,rfl,⟨A9,c9,rfl,hz2,_⟩,⟨A10,c10,rfl,_⟩,hbn⟩;obtain ⟨n1,hn1⟩:∃ n1,wx.heap.size=n1:=⟨_,rfl⟩;have hz:=hz2.zlt;rw [hn0,hn1] at hz;have hnx:n1≤wx.heap.size:=zjA hn1.symm;have hn01:n0≤n1:=by rw [←hn0,←hn1];exact hbn.size
      first | (have hdz:gd<n0∨n1≤gd:=.inl (by have:=hBd.lt;omega)) | skip
      first | (have hez:ge<n0∨n1≤ge:=.inl (by have:=hBe.lt;omega)) | skip
      first | replace hBd:=hBd.step hbn | skip
      first | replace hBe:=hBe.step hbn | skip
      replace hbx:=hbx.trans (hbn.mono hbx.size);clear hn0 hn1;go_wp2_with fail;refine hK.out _ _ (HK.out _ hbx) (fun hHeld=>?_)
      clear hK K;refine wT 6 7 ?_;refine wT 7 14 ?_;refine wT 8 15 ?_;refine wRn 11 (fun K hK=>?_)
      obtain ⟨q0,f0⟩:=hBd.rules;have t0:=hBd.lt;go_simp;refine dI (K:=K _) hBd _ _ _ _ ?_;intro wx hsx htx hBd';replace hBe:=hBe.turned htx (by first | exact hne | exact hne.symm)
      replace hz:=hz.turned htx (fun b hb e=>by rcases hb.1 with h1 | h1;(have:=HKL.out b h1;omega);(have:=hb.2;omega))
      replace hbx:=aA.upon hbx htx hld (zic _);clear q0 f0 t0 hBd;have hBd:=hBd';refine hK.out _ _ (HK.out _ hbx) (fun hHeld=>?_)
      clear hK K;try simp only [pu,List.set]
      refine wRn 12 (fun K hK=>?_)
      obtain ⟨q0,f0⟩:=hBe.rules;have t0:=hBe.lt;go_simp;refine qO (K:=K _) hBe _ _ _ ?_;intro wx htx hBe';replace hBd:=hBd.turned htx (by first | exact hne | exact hne.symm)
      replace hz:=hz.turned htx (fun b hb e=>by rcases hb.1 with h1 | h1;(have:=HKL.out b h1;omega);(have:=hb.2;omega))
      replace hbx:=aA.upon hbx htx hle (zic _);clear q0 f0 t0 hBe;have hBe:=hBe';refine hK.out _ _ (HK.out _ hbx) (fun hHeld=>?_)
      clear hK K;try simp only [pu,List.set]
      refine wpAnyH_done (by kernel_rfl) ?_ _
      go_wp2_with fail;go_meet;exact ⟨gd,ge,A9,c9,A10,c10,rfl,rfl,hne,hld,hle,hBd,hBe,hz.more (fun b hb=>by rcases hb.1 with h1 | h1;exact .inl h1;exact .inr ⟨by omega,by have:=hb.2;omega,by have:=hb.2;omega⟩),hbx⟩
    exact AllReadyH.nil
  exact AllReadyH.nil
 case rest=>
  obtain ⟨gd,ge,A9,c9,A10,c10,rfl,rfl,hne,hld,hle,hBd,hBe,hz9,hb9⟩:=hcut;have hBg:=(E.step hb9).at_ m1;have hb19:Below w.heap.size w wc:=hb1.trans (hb9.mono hb1.size);obtain ⟨q0,f0⟩:=hBd.rules;obtain ⟨q1,f1⟩:=hBg.rules;have t0:=hBd.lt;have t1:=hBg.lt;have hgd:g≠ge:=by omega
  clear HK E hdo;go_upto_region 3 with fail;refine zg1 (K:=fun W=>Code.wp _ _ _ _ W) hBg 15 _ _ _ _ ?_
  intro w5 hs5 ht5 hB5;have hB5':Blk w5 g 169 (wrC h vo vs vb vl vm d' (.slice A9 d'.z.length c9)):=hB5;have hBe5:=hBe.turned ht5 hgd.symm;have hz5:=hz9.turned ht5 (fun b hb e=>by rcases hb with hb | hb;exact (HKL.out b hb).2 e;omega)
  have hT:=(aA.of (S:=fun b=>b=g) hb19).trans ht5
  clear q0 f0 q1 f1 t0 t1 hs5;obtain ⟨q2,f2⟩:=hBe5.rules;have t2:=hBe5.lt;go_wp2;go_ret;exact ⟨A9,c9,rfl,hB5',hz5.more (fun b hb=>by rcases hb with hb | hb;exact .inl hb;exact .inr (by omega)),hT⟩
