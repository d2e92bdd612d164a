/- A part of the proof. -/
import Derived.Test.YthblkdnijhphhaaGreatHostGains
set_option maxHeartbeats 16000000
set_option maxRecDepth 100000
namespace Go.Proofs.YthblkdnijhphhaaGreat
open Go.RowKit
def Rp.io:Rp Io:=⟨4,fun w K cs o=>∃ v_data,cs=[.int .i64 o.op,.int .i64 o.lba,.int .i64 o.n,v_data]∧IsB w K v_data o.data∧(-9223372036854775808≤o.op∧o.op≤9223372036854775807)∧(-9223372036854775808≤o.lba∧o.lba≤9223372036854775807)∧(-9223372036854775808≤o.n∧o.n≤9223372036854775807),
 by rintro _ _ _ _ ⟨v_data,rfl,h_data,r0,r1,r2⟩;rfl,
 by rintro _ _ _ _ _ ⟨v_data,e,h_data,r0,r1,r2⟩ hk;exact ⟨v_data,e,h_data.keep hk,r0,r1,r2⟩,
 by rintro _ _ _ _ _ ⟨v_data,e,h_data,r0,r1,r2⟩ hk;exact ⟨v_data,e,h_data.more hk,r0,r1,r2⟩,
 by
  rintro _ _ _ _ ⟨v_data,rfl,h_data,r0,r1,r2⟩ u hu;have o_data:=IsB.one h_data;simp only [List.mem_cons,List.not_mem_nil,or_false] at hu;rcases hu with rfl | rfl | rfl | rfl <;> first | rfl | assumption⟩
theorem zpc {w:World} {K:Nat→Prop} {A:Option Addr} {n c:Nat} {l:List Io} (h:IsL Rp.io w K (.slice A n c) l) {j:Nat} {e:Io} (hj:l[j]?=some e) :
 ∃ ad Ad cd,A=some ad∧K ad.block∧IsB w K (.slice Ad e.data.length cd) e.data∧w.cell? (ad.add (j*4))=some (.int .i64 e.op)∧w.cell? ⟨(ad.add (j*4)).block,(ad.add (j*4)).off+1,none⟩=some (.int .i64 e.lba)∧w.cell? ⟨(ad.add (j*4)).block,(ad.add (j*4)).off+2,none⟩=some (.int .i64 e.n) ∧
   w.cell? ⟨(ad.add (j*4)).block,(ad.add (j*4)).off+3,none⟩=some (.slice Ad e.data.length cd)∧(-9223372036854775808≤e.lba∧e.lba≤9223372036854775807)∧(-9223372036854775808≤e.n∧e.n≤9223372036854775807):=by
 obtain ⟨ad,es,hA,hKad,⟨v,rfl,hv,-,r1,r2⟩,hcell⟩:=h.at_ hj;obtain ⟨Ad,cd,rfl,-⟩:=zab hv;have hsz:Rp.io.size=4:=rfl;rw [hsz] at hcell;refine ⟨ad,Ad,cd,hA,hKad,hv,?_,?_,?_,?_,r1,r2⟩
 · rw [←zbN (ad.add (j*4))];exact hcell 0 _ rfl
 · rw [←zaD _ 1 (by decide)];exact hcell 1 _ rfl
 · rw [←zaD _ 2 (by decide)];exact hcell 2 _ rfl
 · rw [←zaD _ 3 (by decide)];exact hcell 3 _ rfl
theorem zli {s:List Sp} {l:List Io} {j:Nat} (h:∀ o∈l.take j,zbk s o=0) {o:Io} (ho:l[j]?=some o) (he:zbk s o=0):∀ o∈l.take (j+1),zbk s o=0:=by
 obtain ⟨hlt,rfl⟩:=List.getElem?_eq_some_iff.1 ho;intro x hx;rw [List.take_succ_eq_append_getElem hlt] at hx;rcases List.mem_append.1 hx with hx | hx
 · exact h x hx
 · simp only [List.mem_singleton] at hx;subst hx;exact he
theorem IsHo.lt {w:World} {K:Nat→Prop} {v:Value} {h:Ho} (hh:IsHo w K v h):IsHo w (fun b=>K b∧b<w.heap.size) v h:=by
 obtain ⟨vo,vs,vb,vl,vm,e,h1,h2,h3,h4,h5⟩:=hh;exact ⟨vo,vs,vb,vl,vm,e,h1.ltFn,h2.ltSp,h3.lt,h4.ltC,h5.ltEx⟩
def zev (h:Ho) (l:List Io):List Rc × Int:=if errI h.s l≠0 then ([],errI h.s l) else (zap h.ver l,0)
theorem zhd (h:Ho) (v:Value) (A:Option Addr) (c:Nat) (l:List Io) (K K':Nat→Prop) (w:World) (hv:IsHo w K v h) (hl:IsL Rp.io w K' (.slice A l.length c) l) (hvr:0≤h.ver∧h.ver≤1000000000000) (hll:l.length≤100000000) :
 Calls Tryz.prog 31 #[v,.slice A l.length c] w fun e w'=>∃ vo,e=.returned (.tuple #[vo,.int .i64 (zev h l).2])∧IsL Rp.rc w' (fun b=>w.heap.size≤b) vo (zev h l).1∧Below w.heap.size w w':=by
 have hv0:=hv.lt;obtain ⟨vo,vs,vb,vl,vm,rfl,h1,h2,h3,h4,h5⟩:=hv;obtain ⟨Ao,co,rfl,-⟩:=h1.form;obtain ⟨As,cs,rfl,-⟩:=h2.form;obtain ⟨Ab,cb,rfl,-⟩:=zab h3;obtain ⟨Al,cl,rfl,-⟩:=h4.form;obtain ⟨Am,cm,rfl,-⟩:=h5.form;have hlen:=hl.len;obtain ⟨n,hn⟩:∃ n,l.length=n:=⟨_,rfl⟩;rw [hn] at hl hlen hll ⊢;have HN:=Lib.hid hn;obtain ⟨res,hres⟩:∃ res,zev h l=res:=⟨_,rfl⟩;rw [hres];have HRES:=Lib.hid hres;obtain ⟨av,hav⟩:∃ av,h.ver=av:=⟨_,rfl⟩;have HV:=Lib.hid hav;have E:=((Kn.start w).give za1.list hl).give za1.ho hv0 |>.push 38 (hoS h Ao co As cs Ab cb Al cl Am cm)
 have hb1:=(Below.refl w.heap.size w).alloc (Nat.le_refl _) (.cells (hoS h Ao co As cs Ab cb Al cl Am cm) 38);clear h1 h2 h3 h4 h5 hv0 hl hres hn hav;go_enter Tryz.func31,Tryz.ntmps31
 go_wp2_with fail;generalize w.alloc (.cells (hoS h Ao co As cs Ab cb Al cl Am cm) 38)=w1 at E hb1 ⊢;have hg1:w.heap.size<w1.heap.size:=(E.at_ m0).lt;obtain ⟨i7,hi7,hx0,hx1,hx2⟩:=info_parts Tryz.infR;go_loopw [6,14] (fun x6 x14 wr=>∃ (j:Nat) (A6:Option Addr) (c6:Nat),x14=.int .i64 j∧j≤n∧Hid (∀ o∈l.take j,zbk h.s o=0)∧x6=.slice A6 j c6∧Hid ((zap h.ver (l.take j)).length=j)∧OwnR Rp.rc wr w1.heap.size 109 (fun b=>w1.heap.size≤b) (.slice A6 j c6) (zap h.ver (l.take j))∧Below w1.heap.size w1 wr) (fun _ x14 _=>n-(intOf x14).toNat)
 case atStart=>exact ⟨0,none,0,rfl,Nat.zero_le _,Lib.hid (by simp),rfl,Lib.hid rfl,OwnR.nil_ _ _ _ _,Below.refl _ _⟩
 case round=>
  obtain ⟨j,A6,c6,rfl,hj,HE0,rfl,HRL,hown,hb⟩:=hrel;have hsz:=hb.size;have F:=E.step hb;by_cases hlt:j<n
  case neg=>
   obtain rfl:j=n:=by omega
   have hr:res=(zap h.ver l,0):=by
    rw [←HRES.out];unfold zev;rw [zgl (s:=h.s) (l:=l) (by have:=HE0.out;rwa [List.take_of_length_le (by rw [HN.out];exact Nat.le_refl _)] at this),if_neg (by simp)]
   have ho:IsL Rp.rc wr (fun b=>w.heap.size≤b) (.slice A6 j c6) (zap h.ver l):=by
    have h2:=OwnR.isL hown (X':=fun b=>w.heap.size≤b) (by rw [HRL.out];omega) (fun b hb=>by omega) (fun b hb=>by omega)
    rwa [List.take_of_length_le (by rw [HN.out];exact Nat.le_refl _)] at h2
   have hbe:=F.below;subst hr;clear F E hown HRES HE0 HRL hb;go_wp2;refine bodyPost_ret (v:=.tuple #[.slice A6 j c6,.int .i64 0]) (by simp [results,Tryz.results31,go_sem]) rfl ⟨_,rfl,ho,hbe⟩
  have hlt':j<l.length:=by rw [HN.out];exact hlt
  have hje:l[j]?=some l[j]:=List.getElem?_eq_getElem hlt';have hrt:=zjl h.ver hlt';obtain ⟨ad,Ad,cd,rfl,hKa,hdb,c0,c1,c2,c3,r1,r2⟩:=zpc (F.get m1) hje;generalize l[j]=o at hje hrt hdb c0 c1 c2 c3 r1 r2;have HJE:=Lib.hid hje;have HRT:=Lib.hid hrt;have j1:(j:Int)<(n:Int):=by omega
  have j0:(0:Int)≤(j:Int):=by omega
  have wv:IntKind.i64.wrap (h.ver+(j:Int))=h.ver+(j:Int):=IntWalk.i64_in _ (by omega)
  clear hje hrt hlt';go_upto_region 5 with fail;have G:=(F.give za1.bytes hdb).push 67 #[.int .i64 o.op,.int .i64 o.lba,.int .i64 o.n,.slice Ad o.data.length cd];have hb2:=hb.alloc hsz (.cells #[.int .i64 o.op,.int .i64 o.lba,.int .i64 o.n,.slice Ad o.data.length cd] 67);have hown2:=hown.step ((Below.refl wr.heap.size wr).alloc (Nat.le_refl _) (.cells #[.int .i64 o.op,.int .i64 o.lba,.int .i64 o.n,.slice Ad o.data.length cd] 67));generalize wr.alloc (.cells #[.int .i64 o.op,.int .i64 o.lba,.int .i64 o.n,.slice Ad o.data.length cd] 67)=w2 at G hb2 hown2 ⊢;have hs2:wr.heap.size<w2.heap.size:=(G.at_ m0).lt;clear c0 c1 c2 c3 hdb hown F;obtain ⟨dl,hdl⟩:∃ dl,o.data.length=dl:=⟨_,rfl⟩;have HDL:=Lib.hid hdl;rw [hdl] at G;clear hdl;go_cut [9] (fun x9 wx=>∃ gR A5 c5,x9=.pointer (some ⟨gR,0,none⟩)∧w2.heap.size≤gR∧Blk wx gR 109 #[.int .i64 0,.int .i64 o.lba,.int .i64 o.n,.int .i64 (h.ver+(j:Int)),.int .i64 0,.int .i64 0,.slice A5 dl c5]∧IsB wx (fun b=>w2.heap.size≤b∧b≠gR) (.slice A5 dl c5) o.data∧Below w2.heap.size w2 wx)
  case first=>
   have hb0:Below w2.heap.size w2 w2.drew:=(Below.refl _ _).drew;have HK:Hid (∀ W,Below w2.heap.size w2 W→(∀ o',W.cell? ⟨wr.heap.size,o',none⟩=(#[.int .i64 o.op,.int .i64 o.lba,.int .i64 o.n,.slice Ad dl cd]:Array Value)[o']?)∧(∀ o',W.cell? ⟨w.heap.size,o',none⟩=((hoS h Ao co As cs Ab cb Al cl Am cm):Array Value)[o']?)):=Lib.hid fun W hb=>⟨((G.step hb).rules m0).1,((G.step hb).rules m1).1⟩
   have hcl:=fun W a=>zay (.slice Ad dl cd) o.data K' W a
   rw [HDL.out] at hcl;have hd47:o.data.length≤140737488355328:=by obtain ⟨_,_,_,h47⟩:=zab (G.get m0);exact h47
   have HB:=Lib.hid fun W hb=>hcl W ((G.step hb).get m0)
   clear hcl;refine wp_region_held_drew (S:=fun W=>(∀ o',W.cell? ⟨wr.heap.size,o',none⟩=(#[.int .i64 o.op,.int .i64 o.lba,.int .i64 o.n,.slice Ad dl cd]:Array Value)[o']?)∧(∀ o',W.cell? ⟨w.heap.size,o',none⟩=((hoS h Ao co As cs Ab cb Al cl Am cm):Array Value)[o']?)) (by kernel_rfl) (HK.out _ hb0) (fun hHeld=>?_)
   have hbx:=hb0;generalize w2.drew=wx at hbx hHeld ⊢;refine wT 0 19 ?_;refine wT 1 20 ?_;refine wT 2 21 ?_;refine wT 3 22 ?_;refine wT 4 23 ?_;refine wT 5 24 ?_;refine wT 6 25 ?_;refine wT 7 26 ?_;refine wT 8 27 ?_;refine wT 9 28 ?_;refine wpAnyH_ready (rs:=[10,12]) (by kernel_rfl) (by simp) ?_
   refine AllReadyH.cons (o:=⟨some 29,_,_,_,_,_⟩) rfl (fun K hK=>?_) ?_
   · obtain ⟨n0,hn0⟩:∃ n0,wx.heap.size=n0:=⟨_,rfl⟩
     go_simp;refine (HB.out _ hbx).mono ?_;have hnw:w2.heap.size≤n0:=by rw [←hn0];exact hbx.size
     rintro e9 wx ⟨A5,c5,rfl,ownp,hbn⟩;obtain ⟨n1,hn1⟩:∃ n1,wx.heap.size=n1:=⟨_,rfl⟩;have hz:IsB wx (fun b=>n0≤b∧b<n1) (.slice A5 dl c5) o.data:=by rw [←hn0,←hn1];have hx:=HDL.out;subst hx;exact (IsB.of_own ownp hd47).lt
     first | (have hpz:gR<n0∨n1≤gR:=.inl (by have:=hBp.lt;omega)) | skip
     first | replace hBp:=hBp.step hbn | skip
     replace hbx:=hbx.trans (hbn.mono hbx.size);have hnx:n1≤wx.heap.size:=Nat.le_of_eq hn1.symm;clear ownp hn0 hn1;go_wp2_with fail;refine hK.out _ _ (HK.out _ hbx) (fun hHeld=>?_)
     clear hK K;refine wT 11 30 ?_;refine wR 12 9 (fun K hK=>?_)
     obtain ⟨gR,hgR⟩:∃ gR,wx.heap.size=gR:=⟨_,rfl⟩;go_simp;try rw [hgR]
     refine zao (K:=K _) ?_;intro wx hby hBp;rw [hgR] at hBp;have hlp:w2.heap.size≤gR:=by rw [←hgR];exact hbx.size
     first | (have hpz:gR<n0∨n1≤gR:=.inr (by rw [←hgR];exact hnx)) | skip
     first | replace hz:=hz.step hby | skip
     replace hbx:=hbx.trans (hby.mono hbx.size);refine hK.out _ _ (HK.out _ hbx) (fun hHeld=>?_)
     clear hK K;try simp only [pu,List.set]
     refine wRn 13 (fun K hK=>?_)
     obtain ⟨q0,f0⟩:=hBp.rules;have t0:=hBp.lt;go_simp;refine zj1 (K:=K _) hBp _ _ _ _ _ _ _ ?_;intro wx htx hBp';replace hz:=hz.turned htx (fun b hb e=>by have:=hb.1;have:=hb.2;omega)
     replace hbx:=za0.upon hbx htx hlp (Nat.le_refl _);clear q0 f0 t0 hBp;have hBp:=hBp';refine hK.out _ _ (HK.out _ hbx) (fun hHeld=>?_)
     clear hK K;try simp only [pu,List.set]
     refine wpAnyH_done (by kernel_rfl) ?_ _
     go_wp2_with fail;go_meet;exact ⟨gR,A5,c5,rfl,hlp,hBp,hz.more (fun b hb=>⟨by omega,by have:=hb.1;have:=hb.2;omega⟩),hbx⟩
   refine AllReadyH.cons (o:=⟨some 9,_,_,_,_,_⟩) rfl (fun K hK=>?_) ?_
   · obtain ⟨gR,hgR⟩:∃ gR,wx.heap.size=gR:=⟨_,rfl⟩
     go_simp;try rw [hgR]
     refine zao (K:=K _) ?_;intro wx hby hBp;rw [hgR] at hBp;have hlp:w2.heap.size≤gR:=by rw [←hgR];exact hbx.size
     first | (have hpz:gR<n0∨n1≤gR:=.inr (by rw [←hgR];exact hnx)) | skip
     first | replace hz:=hz.step hby | skip
     replace hbx:=hbx.trans (hby.mono hbx.size);refine hK.out _ _ (HK.out _ hbx) (fun hHeld=>?_)
     clear hK K;try simp only [pu,List.set]
     refine wR 10 29 (fun K hK=>?_)
     obtain ⟨n0,hn0⟩:∃ n0,wx.heap.size=n0:=⟨_,rfl⟩;go_simp;refine (HB.out _ hbx).mono ?_;have hnw:w2.heap.size≤n0:=by rw [←hn0];exact hbx.size
     rintro e9 wx ⟨A5,c5,rfl,ownp,hbn⟩;obtain ⟨n1,hn1⟩:∃ n1,wx.heap.size=n1:=⟨_,rfl⟩;have hz:IsB wx (fun b=>n0≤b∧b<n1) (.slice A5 dl c5) o.data:=by rw [←hn0,←hn1];have hx:=HDL.out;subst hx;exact (IsB.of_own ownp hd47).lt
     first | (have hpz:gR<n0∨n1≤gR:=.inl (by have:=hBp.lt;omega)) | skip
     first | replace hBp:=hBp.step hbn | skip
     replace hbx:=hbx.trans (hbn.mono hbx.size);have hnx:n1≤wx.heap.size:=Nat.le_of_eq hn1.symm;clear ownp hn0 hn1;go_wp2_with fail;refine hK.out _ _ (HK.out _ hbx) (fun hHeld=>?_)
     clear hK K;refine wT 11 30 ?_;refine wRn 13 (fun K hK=>?_)
     obtain ⟨q0,f0⟩:=hBp.rules;have t0:=hBp.lt;go_simp;refine zj1 (K:=K _) hBp _ _ _ _ _ _ _ ?_;intro wx htx hBp';replace hz:=hz.turned htx (fun b hb e=>by have:=hb.1;have:=hb.2;omega)
     replace hbx:=za0.upon hbx htx hlp (Nat.le_refl _);clear q0 f0 t0 hBp;have hBp:=hBp';refine hK.out _ _ (HK.out _ hbx) (fun hHeld=>?_)
     clear hK K;try simp only [pu,List.set]
     refine wpAnyH_done (by kernel_rfl) ?_ _
     go_wp2_with fail;go_meet;exact ⟨gR,A5,c5,rfl,hlp,hBp,hz.more (fun b hb=>⟨by omega,by have:=hb.1;have:=hb.2;omega⟩),hbx⟩
   exact AllReadyH.nil
  case rest=>
   obtain ⟨gR,A5,c5,rfl,hlp,hBR,hd5,hb5⟩:=hcut;have G0:=G;replace G:=G.step hb5;have hs5:=hb5.size;have hs12:=hb2.size;clear wv;obtain ⟨q0,f0,t0⟩:=G.rules m0;obtain ⟨q1,f1⟩:=hBR.rules;have t1:=hBR.lt;go_upto_block 2 with fail
   go_cut [10,11] from 32 to 41 (fun x10 x11 wx=>∃ L:Int,x10=.int .i64 (zbP o)∧x11=.int .i64 L∧Hid (o.n≤1048576→0≤o.n→L=zcr o)∧Blk wx gR 109 #[.int .i64 (recI 0 o).kind,.int .i64 o.lba,.int .i64 o.n,.int .i64 (h.ver+(j:Int)),.int .i64 0,.int .i64 0,.slice A5 dl c5]∧za0 wc wx (fun b=>b=gR))
   case first=>
    have hne:gR≠wr.heap.size:=by omega
    by_cases h1:o.op=1
    · have hk:(recI 0 o).kind=1∧zbP o=256∧zcr o=16*o.n:=by unfold recI zbP zcr;simp [h1]
      obtain ⟨L,hL⟩:∃ L,IntKind.i64.wrap (o.n*16)=L:=⟨_,rfl⟩;have HL:Hid (o.n≤1048576→0≤o.n→L=zcr o):=Lib.hid fun a b=>by rw [←hL,IntWalk.i64_in _ (by omega),hk.2.2];omega
      have HKI:=Lib.hid hk;clear hk;go_upto_region 9 with fail;have hBI:=G.at_ m0;have HK:Hid (∀ W,za0 wc W (fun b=>b=gR)→(∀ o',W.cell? ⟨wr.heap.size,o',none⟩=(#[.int .i64 o.op,.int .i64 o.lba,.int .i64 o.n,.slice Ad dl cd]:Array Value)[o']?)):=Lib.hid fun W ht=>(hBI.turned ht (fun e=>hne e.symm)).rules.1
      have hb0:za0 wc wc.drew (fun b=>b=gR):=(za0.refl _ _).drew
      refine wp_region_held_drew (S:=fun W=>(∀ o',W.cell? ⟨wr.heap.size,o',none⟩=(#[.int .i64 o.op,.int .i64 o.lba,.int .i64 o.n,.slice Ad dl cd]:Array Value)[o']?)) (by kernel_rfl) (HK.out _ hb0) (fun hHeld=>?_)
      have hBx:=hBR.drew;have hbx:=hb0;clear q0 f0 t0 q1 f1 t1;generalize wc.drew=wx at hbx hBx hHeld ⊢;refine wT 0 35 ?_;refine wT 1 36 ?_;refine wT 2 37 ?_;refine wT 3 38 ?_;refine wRn 4 (fun K hK=>?_)
      obtain ⟨q0,f0⟩:=hBx.rules;have t0:=hBx.lt;go_simp;refine zaR (K:=K _) hBx 0 _ ?_;intro wx hsx htx hB9;replace hbx:=hbx.trans htx;clear q0 f0 t0;refine hK.out _ _ (HK.out _ hbx) (fun hHeld=>?_)
      clear hK K;refine wT 5 10 ?_;refine wT 6 11 ?_;refine wpAnyH_done (by kernel_rfl) ?_ _
      go_wp2_with fail;go_meet;exact ⟨L,by rw [HKI.out.2.1],rfl,HL,by rw [HKI.out.1];exact hB9,hbx⟩
    by_cases h2:o.op=2
    · have hk:(recI 0 o).kind=2∧zbP o=1048576∧zcr o=0:=by unfold recI zbP zcr;simp [h2]
      have HKI:=Lib.hid hk;clear hk;go_wp2;refine zaR (K:=fun W=>Met _ _ W) hBR 0 _ ?_
      intro w9 hs9 ht9 hB9;go_meet;exact ⟨0,by rw [HKI.out.2.1],rfl,Lib.hid fun _ _=>HKI.out.2.2.symm,by rw [HKI.out.1];exact hB9,ht9⟩
    · have hk:(recI 0 o).kind=0∧zbP o=0∧zcr o=0:=by unfold recI zbP zcr;simp [h1,h2]
      have HKI:=Lib.hid hk;clear hk;go_wp2;go_meet;exact ⟨0,by rw [HKI.out.2.1],rfl,Lib.hid fun _ _=>HKI.out.2.2.symm,by rw [HKI.out.1];exact hBR,za0.refl _ _⟩
   case rest=>
    obtain ⟨L,rfl,rfl,HL,hBR6,ht6⟩:=hcut;have hd6:=hd5.turned ht6 (fun b hb=>hb.2)
    have hb26:=za0.upon hb5 ht6 hlp (Nat.le_refl _);have F:=((G0.step hb26).know hBR6).give za1.bytes hd6;have hown6:=hown2.step hb26;have HOL:=Lib.hid (OwnR.lt hown2);have hb6:=hb2.trans (hb26.mono hs12);have hs6:=ht6.size;have hso:=fun W=>zfc o.lba o.n (zbP o) W (by unfold zbP;split;decide;split <;> decide)
    have hmi:=fun W a=>zgS h (.agg (hoS h Ao co As cs Ab cb Al cl Am cm)) o.lba o.n (fun b=>K b∧b<w.heap.size) W a
    clear G G0 hb5 hd5 hd6 hBR hBR6 ht6 q0 f0 t0 q1 f1 t1 hown2 hb2 hb26;obtain ⟨q0,f0,t0⟩:=F.rules m1;by_cases hs1:zbO o.lba o.n (zbP o)
    case neg=>
     have he:zbk h.s o=63:=by unfold zbk;rw [if_pos (fun hh=>hs1 hh.1)]
     have hr:res=([],63):=by
      rw [←HRES.out];unfold zev;rw [zgB HE0.out HJE.out (by rw [he];decide),he]
      rfl
     subst hr;rw [decide_eq_false hs1] at hso;go_wp2_with fail;refine (hso _).mono ?_;rintro e w8 ⟨rfl,hb8⟩;replace F:=F.step hb8;clear q0 f0 t0;go_wp2;refine bodyPost_ret (v:=.tuple #[.slice none 0 0,.int .i64 63]) (by simp [results,Tryz.results31,go_sem]) rfl ⟨_,rfl,IsL.nil_ _ _,F.below⟩
    rw [decide_eq_true hs1] at hso;have hm20:zbP o≤1048576:=by unfold zbP;split;decide;split <;> decide
    have hLo:L=zcr o:=HL.out (by have:=hs1.2.2.1;omega) (by have:=hs1.2.1;omega)
    subst hLo;go_wp2_with fail;refine (hso _).mono ?_;rintro e w8 ⟨rfl,hb8⟩;replace F:=F.step hb8;replace hown6:=hown6.step hb8;replace hb6:=hb6.trans (hb8.mono hb6.size);clear q0 f0 t0 hso hb8;obtain ⟨q0,f0,t0⟩:=F.rules m1;by_cases hlong:(dl:Int)=zcr o
    case neg=>
     have he:zbk h.s o=63:=by unfold zbk;rw [if_pos (fun hh=>hlong (by rw [←HDL.out];exact hh.2))]
     have hr:res=([],63):=by
      rw [←HRES.out];unfold zev;rw [zgB HE0.out HJE.out (by rw [he];decide),he]
      rfl
     subst hr;go_wp2;refine bodyPost_ret (v:=.tuple #[.slice none 0 0,.int .i64 63]) (by simp [results,Tryz.results31,go_sem]) rfl ⟨_,rfl,IsL.nil_ _ _,F.below⟩
    rw [←hlong];obtain ⟨q1,f1,t1⟩:=F.rules m2;cases hmn:zeW h.s o.lba o.n with
    | false=>
      rw [hmn] at hmi;have he:zbk h.s o=62:=by unfold zbk;rw [if_neg (by simp only [Decidable.not_not];exact ⟨hs1,by rw [HDL.out];exact hlong⟩),if_neg (by rw [hmn];decide)]
      have hr:res=([],62):=by
       rw [←HRES.out];unfold zev;rw [zgB HE0.out HJE.out (by rw [he];decide),he]
       rfl
      subst hr;clear hlong;go_wp2_with fail;refine (hmi _ (F.get m2)).mono ?_;rintro e w9 ⟨rfl,hb9⟩;replace F:=F.step hb9;go_wp2;refine bodyPost_ret (v:=.tuple #[.slice none 0 0,.int .i64 62]) (by simp [results,Tryz.results31,go_sem]) rfl ⟨_,rfl,IsL.nil_ _ _,F.below⟩
    | true=>
      rw [hmn] at hmi;have he:zbk h.s o=0:=by unfold zbk;rw [if_neg (by simp only [Decidable.not_not];exact ⟨hs1,by rw [HDL.out];exact hlong⟩),if_pos hmn]
      have HE1:=Lib.hid (zli HE0.out HJE.out he);clear hlong he;go_wp2_with fail;refine (hmi _ (F.get m2)).mono ?_;rintro e w9 ⟨rfl,hb9⟩;replace F:=F.step hb9;replace hown6:=hown6.step hb9;replace hb6:=hb6.trans (hb9.mono hb6.size);clear q0 f0 t0 q1 f1 t1 hb9 hmi;obtain ⟨hjq,xs,hrow,hcl⟩:=hown6.open_;rw [←hjq] at hrow hcl;have HJQ:=Lib.hid hjq;clear hjq hown6;have hst:Below w9.heap.size w9 (w9.alloc (.cells #[.int .i64 (recI 0 o).kind,.int .i64 o.lba,.int .i64 o.n,.int .i64 (h.ver+(j:Int)),.int .i64 0,.int .i64 0,.slice A5 dl c5] 109)):=(Below.refl _ _).alloc (Nat.le_refl _) _;have hrow':=za4 hrow hst (Nat.le_refl _);have hrn:za6 (w9.alloc (.cells #[.int .i64 (recI 0 o).kind,.int .i64 o.lba,.int .i64 o.n,.int .i64 (h.ver+(j:Int)),.int .i64 0,.int .i64 0,.slice A5 dl c5] 109)) (fun b=>b=w9.heap.size) 7 (some ⟨w9.heap.size,0,none⟩) 1 [.int .i64 (recI 0 o).kind,.int .i64 o.lba,.int .i64 o.n,.int .i64 (h.ver+(j:Int)),.int .i64 0,.int .i64 0,.slice A5 dl c5]:=za6.new rfl rfl rfl
      have hdb:=(F.get m0).lt.step hst;have hw9:=hb6.size;obtain ⟨q0,f0,t0⟩:=F.rules m0;go_wp2_with (at_builtin;go_must (refine za5 rfl _ _ _ rfl w1.heap.size 109 i7 _ 7 72 Tryz.underlying33 hi7 hx0 hx1 hx2 rfl (by omega) rfl hrow' rfl hrn (by simp [Value.oneCell']) (by simp only [maxLen];omega) (by omega) (by simp;omega) ?_);intro A10 c10 w10 own10 hg10)
      have hqb:∀ b,(Value.slice A6 j c6).ownBlock=some b→b<w2.heap.size:=fun b hb=>(HOL.out b hb).2
      have hkd:-9223372036854775808≤(recI (h.ver+(j:Int)) o).kind∧(recI (h.ver+(j:Int)) o).kind≤9223372036854775807:=by unfold recI;simp only;split;omega;split <;> omega
      have hX:Rp.rc.is (w9.alloc (.cells #[.int .i64 (recI 0 o).kind,.int .i64 o.lba,.int .i64 o.n,.int .i64 (h.ver+(j:Int)),.int .i64 0,.int .i64 0,.slice A5 dl c5] 109)) (fun b=>w1.heap.size≤b∧b<(w9.alloc (.cells #[.int .i64 (recI 0 o).kind,.int .i64 o.lba,.int .i64 o.n,.int .i64 (h.ver+(j:Int)),.int .i64 0,.int .i64 0,.slice A5 dl c5] 109)).heap.size∧some b≠(Value.slice A6 j c6).ownBlock) [.int .i64 (recI 0 o).kind,.int .i64 o.lba,.int .i64 o.n,.int .i64 (h.ver+(j:Int)),.int .i64 0,.int .i64 0,.slice A5 dl c5] (recI (h.ver+(j:Int)) o):=
       ⟨_,rfl,hdb.more (fun b hb=>⟨by have:=hb.1.1;omega,by have:=hb.2;have:=hst.size;omega,fun e=>by have:=hqb b e.symm;have:=hb.1.1;omega⟩),hkd,r1,r2,⟨by show _≤h.ver+(j:Int);omega,by show h.ver+(j:Int)≤_;omega⟩,⟨by show (-9223372036854775808:Int)≤0;decide,by show (0:Int)≤9223372036854775807;decide⟩,⟨by show (-9223372036854775808:Int)≤0;decide,by show (0:Int)≤9223372036854775807;decide⟩⟩
      have hq1:(zap h.ver (l.take j)++[recI (h.ver+(j:Int)) o]).length=j+1:=by rw [List.length_append,HRL.out];rfl
      have hpush:=OwnR.appL (R:=Rp.rc) HRL.out hq1 ((hcl.step hst).more fun b hb=>⟨hb.1,by have:=hb.2.1;have:=hst.size;omega,hb.2.2⟩) ⟨[.int .i64 (recI 0 o).kind,.int .i64 o.lba,.int .i64 o.n,.int .i64 (h.ver+(j:Int)),.int .i64 0,.int .i64 0,.slice A5 dl c5],[],(List.append_nil _).symm,hX,rfl⟩ own10 hg10
      rw [←HRT.out] at hpush hq1;go_roundw
      case rel=>exact ⟨j+1,A10,c10,by go_num,by omega,HE1,rfl,Lib.hid hq1,hpush,(hb6.trans (hst.mono hw9)).trans hg10.below⟩
      case measure=>simp [intOf];omega
end Go.Proofs.YthblkdnijhphhaaGreat
