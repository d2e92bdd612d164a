/- A part of the proof. -/
import Derived.Test.YtcapmeefiglfjaaGreatHostGains
import Derived.Test.YtcapmeefiglfjaaGreatTakeNil
set_option linter.unusedSimpArgs false
set_option maxHeartbeats 16000000
set_option maxRecDepth 100000
namespace Go.Proofs.YtcapmeefiglfjaaGreat
open Go.RowKit
theorem zb4 (B g:Nat) (h:Ho) (vo vs vb vl vm:Value) (d:Zd) (A:Option Addr) (cz:Nat) (f:Fn) (K:Nat→Prop) (w:World) (hBB:Blk w B 167 #[.pointer (some ⟨g,0,none⟩)]) (hB:Blk w g 169 (wrC h vo vs vb vl vm d (.slice A d.z.length cz))) (hz:IsL Rp.zone w K (.slice A d.z.length cz) d.z) (h0:0≤f.zone) :
 Calls Tryz.prog 151 #[.agg #[.int .i64 f.zone,.int .i64 f.host,.int .i64 f.epoch],.pointer (some ⟨B,0,none⟩)] w fun e w'=>e=.returned (.bool (eT d f))∧Below w.heap.size w w':=by
 obtain ⟨fz,fh,fe⟩:=f;obtain ⟨k,rfl⟩:∃ k:Nat,fz=k:=⟨fz.toNat,by simp only at h0;omega⟩
 simp only;have E:=(((Kn.start w).know hBB).know hB).give aB.list hz |>.push 138 #[.int .i64 k,.int .i64 fh,.int .i64 fe]
 have hb1:=(zif w.heap.size w).alloc (zic _) (.cells #[.int .i64 k,.int .i64 fh,.int .i64 fe] 138);obtain ⟨res,hres⟩:∃ res,eT d ⟨k,fh,fe⟩=res:=⟨_,rfl⟩;rw [hres];unfold eT at hres;simp only [Int.toNat_natCast] at hres;have HRES:=zia hres;obtain ⟨n,hn⟩:∃ n,d.z.length=n:=⟨_,rfl⟩;have HN:=zia hn;have hlen:=hz.len;rw [hn] at E hlen HRES;clear hBB hB hz hres h0 hn;go_enter Tryz.func151,Tryz.ntmps151
 go_upto_region 1 with fail;generalize w.alloc (.cells #[.int .i64 k,.int .i64 fh,.int .i64 fe] 138)=w1 at E hb1 ⊢;obtain ⟨q0,f0,t0⟩:=E.rules m0;obtain ⟨q1,f1,t1⟩:=E.rules m1;obtain ⟨q2,f2,t2⟩:=E.rules m2;have k0:(0:Int)≤(k:Int):=by omega
 by_cases h1:k<n
 case neg=>
  have d1:decide ((k:Int)<(n:Int))=false:=by simp only [zjM];omega
  have hr:res=false:=by rw [←HRES.out,d1];rfl
  subst hr;go_quiet (fail);go_wp2;go_ret;exact ⟨rfl,aS hb1 _⟩
 have h1':k<d.z.length:=by rw [HN.out];exact h1
 obtain ⟨adz,Bz,cB,rfl,-,-,-,c0,c1,c2⟩:=IsL.zone_at (E.get m0) (zib h1');have hgd:d.z.getD k z0=d.z[k]:=by rw [ziF,zib h1'];rfl
 simp only [hgd] at HRES;generalize d.z[k]=z at HRES c0 c1 c2;have d1:decide ((k:Int)<(n:Int))=true:=by simp only [ziM];omega
 have i1:(k:Int)<(n:Int):=by omega
 obtain ⟨zst,zfe,zd⟩:=z;simp only at HRES c0 c1 c2;by_cases h2:zst=0
 case neg=>
  have d2:decide (zst=0)=false:=ziv h2;have d3:(zst == (0:Int))=false:=by simpa using h2
  have hr:res=false:=by rw [←HRES.out,d1,d2];rfl
  subst hr;go_quiet (fail);go_wp2;go_ret;exact ⟨rfl,aS hb1 _⟩
 subst h2;have hr:res=decide (zfe=fe):=by rw [←HRES.out,d1];rfl
 subst hr;go_quiet (fail);go_wp2;go_ret;exact ⟨rfl,aS hb1 _⟩
theorem zaG (B g:Nat) (h:Ho) (vo vs vb vl vm:Value) (d:Zd) (A:Option Addr) (cz:Nat) (Ao:Option Addr) (co:Nat) (l:List Fn) (K Ko:Nat→Prop) (w:World) (hBB:Blk w B 167 #[.pointer (some ⟨g,0,none⟩)]) (hB:Blk w g 169 (wrC h vo vs vb vl vm d (.slice A d.z.length cz))) (hz:IsL Rp.zone w K (.slice A d.z.length cz) d.z)
 (hv:IsL Rp.fn w Ko (.slice Ao l.length co) l) (h0:∀ f∈l,0≤f.zone) :
 Calls Tryz.prog 127 #[.slice Ao l.length co,.func (.func 151) #[] #[.pointer (some ⟨B,0,none⟩)]] w fun e w'=>
  e=.returned (.int .i64 (if l.findIdx (eT d)<l.length then (l.findIdx (eT d):Int) else -1))∧Below w.heap.size w w':=by
 have hlen:=hv.len;obtain ⟨n,hn⟩:∃ n,l.length=n:=⟨_,rfl⟩;rw [hn] at hv hlen ⊢;obtain ⟨p,hp⟩:∃ p,l.findIdx (eT d)=p:=⟨_,rfl⟩;rw [hp];have HN:=zia hn;have HP:=zia hp;obtain ⟨res,hres⟩:∃ res,(if p<n then (p:Int) else -1)=res:=⟨_,rfl⟩;rw [hres];have HRES:=zia hres;clear hn hp hres;have E:=((((Kn.start w).give aB.list hv).know hBB).know hB).give aB.list hz;go_enter Tryz.func127,Tryz.ntmps127
 go_wp2_with fail;go_loopw [5,8] (fun x i wr=>∃ j:Nat,i=.int .i64 j∧j≤n∧Hid (∀ k e,k<j→l[k]?=some e→eT d e=false)∧Below w.heap.size w wr∧(∃ y,x=y)) (fun _ i _=>n-(intOf i).toNat)
 case atStart=>exact ⟨0,rfl,zir _,zia fun k e hk=>by omega,zif _ _,_,rfl⟩
 case round=>
  obtain ⟨j,rfl,hj,HI,hb,y,rfl⟩:=hrel;have hsz:=hb.size;have F:=E.step hb;by_cases hlt:j<n
  · have hlt':j<l.length:=by rw [HN.out];exact hlt
    have hje:l[j]?=some l[j]:=zib hlt';obtain ⟨ad,rfl,-,c0,c1,c2⟩:=zbl (F.get m1) hje;have he0:=h0 _ (ziD hlt');have HJ:=zia hje;generalize l[j]=e at HJ c0 c1 c2 he0;have j1:(j:Int)<(n:Int):=by omega
    have j0:(0:Int)≤(j:Int):=by omega
    have hm1:=fun W a b c=>zb4 B g h vo vs vb vl vm d A cz e K W a b c he0
    clear hje hlt';go_wp2_with fail;refine (hm1 wr (F.at_ m1) (F.at_ m0) (F.get m0)).mono ?_;rintro x w2 ⟨rfl,hb2⟩;clear hm1 c0 c1 c2;have hb3:=hb.trans (hb2.mono hsz);cases hfr:eT d e with
    | true=>
      have hpj:p=j:=by
       rw [←HP.out,zk4 (by rw [HN.out];exact hlt)]
       have hje:=HJ.out;obtain ⟨hlt',e1⟩:=zil.1 hje;refine ⟨by rw [e1];exact hfr,fun k hk=>?_⟩
       have:=HI.out k _ hk (zib (by omega))
       rw [this]
      have hr:res=(j:Int):=by rw [←HRES.out,hpj,zij hlt]
      subst hr;clear hpj;go_wp2;go_ret;exact ⟨rfl,hb3⟩
    | false=>
      have HI2:Hid (∀ k e,k<j+1→l[k]?=some e→eT d e=false):=zia fun k x hk hx=>by
       by_cases hkj:k=j
       · subst hkj
         rw [HJ.out] at hx;injection hx with hx;subst hx;exact hfr
       · exact HI.out k x (by omega) hx
      clear hfr;go_wp2;go_roundw
      case rel=>exact ⟨j+1,by go_num,by omega,HI2,hb3,_,rfl⟩
      case measure=>simp [intOf];omega
  · obtain rfl:j=n:=by omega
    have hpj:¬p<j:=by
     rw [←HP.out,←HN.out];intro h;have h2:eT d (l[l.findIdx (eT d)])=true:=zjc;have h3:=HI.out _ _ (by rw [←HN.out];exact h) (zib h)
     rw [h2] at h3;cases h3
    have hr:res = -1:=by rw [←HRES.out,zig hpj]
    subst hr;clear hpj;go_wp2;go_ret;exact ⟨rfl,hb⟩
def Rp.io:Rp Io:=⟨4,fun w K cs o=>∃ v_data,cs=[.int .i64 o.op,.int .i64 o.lba,.int .i64 o.n,v_data]∧IsB w K v_data o.data∧(-9223372036854775808≤o.op∧o.op≤9223372036854775807)∧(-9223372036854775808≤o.lba∧o.lba≤9223372036854775807)∧(-9223372036854775808≤o.n∧o.n≤9223372036854775807),
 by rintro _ _ _ _ ⟨v_data,rfl,h_data,r0,r1,r2⟩;rfl,
 by rintro _ _ _ _ _ ⟨v_data,e,h_data,r0,r1,r2⟩ hk;exact ⟨v_data,e,h_data.keep hk,r0,r1,r2⟩,
 by rintro _ _ _ _ _ ⟨v_data,e,h_data,r0,r1,r2⟩ hk;exact ⟨v_data,e,h_data.more hk,r0,r1,r2⟩,
 by
  rintro _ _ _ _ ⟨v_data,rfl,h_data,r0,r1,r2⟩ u hu;have o_data:=IsB.one h_data;simp only [zim,ziJ,zju] at hu;rcases hu with rfl | rfl | rfl | rfl <;> first | rfl | assumption⟩
theorem zhN {w:World} {K:Nat→Prop} {A:Option Addr} {n c:Nat} {l:List Io} (h:IsL Rp.io w K (.slice A n c) l) {j:Nat} {e:Io} (hj:l[j]?=some e) :
 ∃ ad Ad cd,A=some ad∧K ad.block∧IsB w K (.slice Ad e.data.length cd) e.data∧w.cell? (ad.add (j*4))=some (.int .i64 e.op)∧w.cell? ⟨(ad.add (j*4)).block,(ad.add (j*4)).off+1,none⟩=some (.int .i64 e.lba)∧w.cell? ⟨(ad.add (j*4)).block,(ad.add (j*4)).off+2,none⟩=some (.int .i64 e.n) ∧
   w.cell? ⟨(ad.add (j*4)).block,(ad.add (j*4)).off+3,none⟩=some (.slice Ad e.data.length cd)∧(-9223372036854775808≤e.lba∧e.lba≤9223372036854775807)∧(-9223372036854775808≤e.n∧e.n≤9223372036854775807):=by
 obtain ⟨ad,es,hA,hKad,⟨v,rfl,hv,-,r1,r2⟩,hcell⟩:=h.at_ hj;obtain ⟨Ad,cd,rfl,-⟩:=aK hv;have hsz:Rp.io.size=4:=rfl;rw [hsz] at hcell;refine ⟨ad,Ad,cd,hA,hKad,hv,?_,?_,?_,?_,r1,r2⟩
 · rw [←cW (ad.add (j*4))];exact hcell 0 _ rfl
 · rw [←bT _ 1 (by decide)];exact hcell 1 _ rfl
 · rw [←bT _ 2 (by decide)];exact hcell 2 _ rfl
 · rw [←bT _ 3 (by decide)];exact hcell 3 _ rfl
theorem zd7 {s:List Sp} {l:List Io} {j:Nat} (h:∀ o∈l.take j,dW s o=0) {o:Io} (ho:l[j]?=some o) (he:dW s o=0):∀ o∈l.take (j+1),dW s o=0:=by
 obtain ⟨hlt,rfl⟩:=zil.1 ho;intro x hx;rw [ziy hlt] at hx;rcases ziA.1 hx with hx | hx
 · exact h x hx
 · simp only [ziw] at hx;subst hx;exact he
theorem aY.lt {w:World} {K:Nat→Prop} {v:Value} {h:Ho} (hh:aY w K v h):aY w (fun b=>K b∧b<w.heap.size) v h:=by
 obtain ⟨vo,vs,vb,vl,vm,e,h1,h2,h3,h4,h5⟩:=hh;exact ⟨vo,vs,vb,vl,vm,e,h1.ltFn,h2.ltSp,h3.lt,h4.ltC,h5.ltEx⟩
def nX (h:Ho) (l:List Io):List Rc × Int:=if rE h.s l≠0 then ([],rE h.s l) else (bE h.ver l,0)
theorem xJ (h:Ho) (v:Value) (A:Option Addr) (c:Nat) (l:List Io) (K K':Nat→Prop) (w:World) (hv:aY w K v h) (hl:IsL Rp.io w K' (.slice A l.length c) l) (hvr:0≤h.ver∧h.ver≤1000000000000) (hll:l.length≤100000000) :
 Calls Tryz.prog 35 #[v,.slice A l.length c] w fun e w'=>∃ vo,e=.returned (.tuple #[vo,.int .i64 (nX h l).2])∧IsL Rp.rc w' (fun b=>w.heap.size≤b) vo (nX h l).1∧Below w.heap.size w w':=by
 have hv0:=hv.lt;obtain ⟨vo,vs,vb,vl,vm,rfl,h1,h2,h3,h4,h5⟩:=hv;obtain ⟨Ao,co,rfl,-⟩:=h1.form;obtain ⟨As,cs,rfl,-⟩:=h2.form;obtain ⟨Ab,cb,rfl,-⟩:=aK h3;obtain ⟨Al,cl,rfl,-⟩:=h4.form;obtain ⟨Am,cm,rfl,-⟩:=h5.form;have hlen:=hl.len;obtain ⟨n,hn⟩:∃ n,l.length=n:=⟨_,rfl⟩;rw [hn] at hl hlen hll ⊢;have HN:=zia hn;obtain ⟨res,hres⟩:∃ res,nX h l=res:=⟨_,rfl⟩;rw [hres];have HRES:=zia hres;obtain ⟨av,hav⟩:∃ av,h.ver=av:=⟨_,rfl⟩;have HV:=zia hav;have E:=((Kn.start w).give aB.list hl).give aB.ho hv0 |>.push 37 (hoS h Ao co As cs Ab cb Al cl Am cm)
 have hb1:=(zif w.heap.size w).alloc (zic _) (.cells (hoS h Ao co As cs Ab cb Al cl Am cm) 37);clear h1 h2 h3 h4 h5 hv0 hl hres hn hav;go_enter Tryz.func35,Tryz.ntmps35
 go_wp2_with fail;generalize w.alloc (.cells (hoS h Ao co As cs Ab cb Al cl Am cm) 37)=w1 at E hb1 ⊢;have hg1:w.heap.size<w1.heap.size:=(E.at_ m0).lt;obtain ⟨i7,hi7,hx0,hx1,hx2⟩:=ziH Tryz.infR;go_loopw [6,14] (fun x6 x14 wr=>∃ (j:Nat) (A6:Option Addr) (c6:Nat),x14=.int .i64 j∧j≤n∧Hid (∀ o∈l.take j,dW h.s o=0)∧x6=.slice A6 j c6∧Hid ((bE h.ver (l.take j)).length=j)∧eA Rp.rc wr w1.heap.size 117 (fun b=>w1.heap.size≤b) (.slice A6 j c6) (bE h.ver (l.take j))∧Below w1.heap.size w1 wr) (fun _ x14 _=>n-(intOf x14).toNat)
 case atStart=>exact ⟨0,none,0,rfl,zir _,zia (by simp),rfl,zia rfl,eA.nil_ _ _ _ _,zif _ _⟩
 case round=>
  obtain ⟨j,A6,c6,rfl,hj,HE0,rfl,HRL,hown,hb⟩:=hrel;have hsz:=hb.size;have F:=E.step hb;by_cases hlt:j<n
  case neg=>
   obtain rfl:j=n:=by omega
   have hr:res=(bE h.ver l,0):=by
    rw [←HRES.out];unfold nX;rw [sS (s:=h.s) (l:=l) (by have:=HE0.out;rwa [zip (by rw [HN.out];exact zic _)] at this),zig (by simp)]
   have ho:IsL Rp.rc wr (fun b=>w.heap.size≤b) (.slice A6 j c6) (bE h.ver l):=by
    have h2:=eA.isL hown (X':=fun b=>w.heap.size≤b) (by rw [HRL.out];omega) (fun b hb=>by omega) (fun b hb=>by omega)
    rwa [zip (by rw [HN.out];exact zic _)] at h2
   have hbe:=F.below;subst hr;clear F E hown HRES HE0 HRL hb;go_wp2;refine zik (v:=.tuple #[.slice A6 j c6,.int .i64 0]) (by simp [results,Tryz.results35,go_sem]) rfl ⟨_,rfl,ho,hbe⟩
  have hlt':j<l.length:=by rw [HN.out];exact hlt
  have hje:l[j]?=some l[j]:=zib hlt';have hrt:=zbA h.ver hlt';obtain ⟨ad,Ad,cd,rfl,hKa,hdb,c0,c1,c2,c3,r1,r2⟩:=zhN (F.get m1) hje;generalize l[j]=o at hje hrt hdb c0 c1 c2 c3 r1 r2;have HJE:=zia hje;have HRT:=zia hrt;have j1:(j:Int)<(n:Int):=by omega
  have j0:(0:Int)≤(j:Int):=by omega
  have wv:IntKind.i64.wrap (h.ver+(j:Int))=h.ver+(j:Int):=ziI _ (by omega)
  clear hje hrt hlt';go_upto_region 5 with fail;have G:=(F.give aB.bytes hdb).push 69 #[.int .i64 o.op,.int .i64 o.lba,.int .i64 o.n,.slice Ad o.data.length cd];have hb2:=hb.alloc hsz (.cells #[.int .i64 o.op,.int .i64 o.lba,.int .i64 o.n,.slice Ad o.data.length cd] 69);have hown2:=hown.step ((zif wr.heap.size wr).alloc (zic _) (.cells #[.int .i64 o.op,.int .i64 o.lba,.int .i64 o.n,.slice Ad o.data.length cd] 69));generalize wr.alloc (.cells #[.int .i64 o.op,.int .i64 o.lba,.int .i64 o.n,.slice Ad o.data.length cd] 69)=w2 at G hb2 hown2 ⊢;have hs2:wr.heap.size<w2.heap.size:=(G.at_ m0).lt;clear c0 c1 c2 c3 hdb hown F;obtain ⟨dl,hdl⟩:∃ dl,o.data.length=dl:=⟨_,rfl⟩;have HDL:=zia hdl;rw [hdl] at G;clear hdl;go_cut [9] (fun x9 wx=>∃ gR A5 c5,x9=.pointer (some ⟨gR,0,none⟩)∧w2.heap.size≤gR∧Blk wx gR 117 #[.int .i64 0,.int .i64 o.lba,.int .i64 o.n,.int .i64 (h.ver+(j:Int)),.int .i64 0,.int .i64 0,.slice A5 dl c5]∧IsB wx (fun b=>w2.heap.size≤b∧b≠gR) (.slice A5 dl c5) o.data∧Below w2.heap.size w2 wx)
  case first=>
   have hb0:Below w2.heap.size w2 w2.drew:=(zif _ _).drew;have HK:Hid (∀ W,Below w2.heap.size w2 W→(∀ o',W.cell? ⟨wr.heap.size,o',none⟩=(#[.int .i64 o.op,.int .i64 o.lba,.int .i64 o.n,.slice Ad dl cd]:Array Value)[o']?)∧(∀ o',W.cell? ⟨w.heap.size,o',none⟩=((hoS h Ao co As cs Ab cb Al cl Am cm):Array Value)[o']?)):=zia fun W hb=>⟨((G.step hb).rules m0).1,((G.step hb).rules m1).1⟩
   have hcl:=fun W a=>cE (.slice Ad dl cd) o.data K' W a
   rw [HDL.out] at hcl;have hd47:o.data.length≤140737488355328:=by obtain ⟨_,_,_,h47⟩:=aK (G.get m0);exact h47
   have HB:=zia fun W hb=>hcl W ((G.step hb).get m0)
   clear hcl;refine wp_region_held_drew (S:=fun W=>(∀ o',W.cell? ⟨wr.heap.size,o',none⟩=(#[.int .i64 o.op,.int .i64 o.lba,.int .i64 o.n,.slice Ad dl cd]:Array Value)[o']?)∧(∀ o',W.cell? ⟨w.heap.size,o',none⟩=((hoS h Ao co As cs Ab cb Al cl Am cm):Array Value)[o']?)) (by kernel_rfl) (HK.out _ hb0) (fun hHeld=>?_)
   have hbx:=hb0;generalize w2.drew=wx at hbx hHeld ⊢;refine wT 0 19 ?_;refine wT 1 20 ?_;refine wT 2 21 ?_;refine wT 3 22 ?_;refine wT 4 23 ?_;refine wT 5 24 ?_;refine wT 6 25 ?_;refine wT 7 26 ?_;refine wT 8 27 ?_;refine wT 9 28 ?_;refine wpAnyH_ready (rs:=[10,12]) (by kernel_rfl) (by simp) ?_
   refine AllReadyH.cons (o:=⟨some 29,_,_,_,_,_⟩) rfl (fun K hK=>?_) ?_
   · obtain ⟨n0,hn0⟩:∃ n0,wx.heap.size=n0:=⟨_,rfl⟩
     go_simp;refine (HB.out _ hbx).mono ?_;have hnw:w2.heap.size≤n0:=by rw [←hn0];exact hbx.size
     rintro e9 wx ⟨A5,c5,rfl,ownp,hbn⟩;obtain ⟨n1,hn1⟩:∃ n1,wx.heap.size=n1:=⟨_,rfl⟩;have hz:IsB wx (fun b=>n0≤b∧b<n1) (.slice A5 dl c5) o.data:=by rw [←hn0,←hn1];have hx:=HDL.out;subst hx;exact (IsB.of_own ownp hd47).lt
     first | (have hpz:gR<n0∨n1≤gR:=.inl (by have:=hBp.lt;omega)) | skip
     first | replace hBp:=hBp.step hbn | skip
     replace hbx:=hbx.trans (hbn.mono hbx.size);have hnx:n1≤wx.heap.size:=zjA hn1.symm;clear ownp hn0 hn1;go_wp2_with fail;refine hK.out _ _ (HK.out _ hbx) (fun hHeld=>?_)
     clear hK K;refine wT 11 30 ?_;refine wR 12 9 (fun K hK=>?_)
     obtain ⟨gR,hgR⟩:∃ gR,wx.heap.size=gR:=⟨_,rfl⟩;go_simp;try rw [hgR]
     refine bD (K:=K _) ?_;intro wx hby hBp;rw [hgR] at hBp;have hlp:w2.heap.size≤gR:=by rw [←hgR];exact hbx.size
     first | (have hpz:gR<n0∨n1≤gR:=.inr (by rw [←hgR];exact hnx)) | skip
     first | replace hz:=hz.step hby | skip
     replace hbx:=hbx.trans (hby.mono hbx.size);refine hK.out _ _ (HK.out _ hbx) (fun hHeld=>?_)
     clear hK K;try simp only [pu,List.set]
     refine wRn 13 (fun K hK=>?_)
     obtain ⟨q0,f0⟩:=hBp.rules;have t0:=hBp.lt;go_simp;refine zaw (K:=K _) hBp _ _ _ _ _ _ _ ?_;intro wx htx hBp';replace hz:=hz.turned htx (fun b hb e=>by have:=hb.1;have:=hb.2;omega)
     replace hbx:=aA.upon hbx htx hlp (zic _);clear q0 f0 t0 hBp;have hBp:=hBp';refine hK.out _ _ (HK.out _ hbx) (fun hHeld=>?_)
     clear hK K;try simp only [pu,List.set]
     refine wpAnyH_done (by kernel_rfl) ?_ _
     go_wp2_with fail;go_meet;exact ⟨gR,A5,c5,rfl,hlp,hBp,hz.more (fun b hb=>⟨by omega,by have:=hb.1;have:=hb.2;omega⟩),hbx⟩
   refine AllReadyH.cons (o:=⟨some 9,_,_,_,_,_⟩) rfl (fun K hK=>?_) ?_
   · obtain ⟨gR,hgR⟩:∃ gR,wx.heap.size=gR:=⟨_,rfl⟩
     go_simp;try rw [hgR]
     refine bD (K:=K _) ?_;intro wx hby hBp;rw [hgR] at hBp;have hlp:w2.heap.size≤gR:=by rw [←hgR];exact hbx.size
     first | (have hpz:gR<n0∨n1≤gR:=.inr (by rw [←hgR];exact hnx)) | skip
     first | replace hz:=hz.step hby | skip
     replace hbx:=hbx.trans (hby.mono hbx.size);refine hK.out _ _ (HK.out _ hbx) (fun hHeld=>?_)
     clear hK K;try simp only [pu,List.set]
     refine wR 10 29 (fun K hK=>?_)
     obtain ⟨n0,hn0⟩:∃ n0,wx.heap.size=n0:=⟨_,rfl⟩;go_simp;refine (HB.out _ hbx).mono ?_;have hnw:w2.heap.size≤n0:=by rw [←hn0];exact hbx.size
     rintro e9 wx ⟨A5,c5,rfl,ownp,hbn⟩;obtain ⟨n1,hn1⟩:∃ n1,wx.heap.size=n1:=⟨_,rfl⟩;have hz:IsB wx (fun b=>n0≤b∧b<n1) (.slice A5 dl c5) o.data:=by rw [←hn0,←hn1];have hx:=HDL.out;subst hx;exact (IsB.of_own ownp hd47).lt
     first | (have hpz:gR<n0∨n1≤gR:=.inl (by have:=hBp.lt;omega)) | skip
     first | replace hBp:=hBp.step hbn | skip
     replace hbx:=hbx.trans (hbn.mono hbx.size);have hnx:n1≤wx.heap.size:=zjA hn1.symm;clear ownp hn0 hn1;go_wp2_with fail;refine hK.out _ _ (HK.out _ hbx) (fun hHeld=>?_)
     clear hK K;refine wT 11 30 ?_;refine wRn 13 (fun K hK=>?_)
     obtain ⟨q0,f0⟩:=hBp.rules;have t0:=hBp.lt;go_simp;refine zaw (K:=K _) hBp _ _ _ _ _ _ _ ?_;intro wx htx hBp';replace hz:=hz.turned htx (fun b hb e=>by have:=hb.1;have:=hb.2;omega)
     replace hbx:=aA.upon hbx htx hlp (zic _);clear q0 f0 t0 hBp;have hBp:=hBp';refine hK.out _ _ (HK.out _ hbx) (fun hHeld=>?_)
     clear hK K;try simp only [pu,List.set]
     refine wpAnyH_done (by kernel_rfl) ?_ _
     go_wp2_with fail;go_meet;exact ⟨gR,A5,c5,rfl,hlp,hBp,hz.more (fun b hb=>⟨by omega,by have:=hb.1;have:=hb.2;omega⟩),hbx⟩
   exact AllReadyH.nil
  case rest=>
   obtain ⟨gR,A5,c5,rfl,hlp,hBR,hd5,hb5⟩:=hcut;have G0:=G;replace G:=G.step hb5;have hs5:=hb5.size;have hs12:=hb2.size;clear wv;obtain ⟨q0,f0,t0⟩:=G.rules m0;obtain ⟨q1,f1⟩:=hBR.rules;have t1:=hBR.lt;go_upto_block 2 with fail
   go_cut [10,11] from 32 to 41 (fun x10 x11 wx=>∃ L:Int,x10=.int .i64 (fD o)∧x11=.int .i64 L∧Hid (o.n≤1048576→0≤o.n→L=iA o)∧Blk wx gR 117 #[.int .i64 (recI 0 o).kind,.int .i64 o.lba,.int .i64 o.n,.int .i64 (h.ver+(j:Int)),.int .i64 0,.int .i64 0,.slice A5 dl c5]∧aA wc wx (fun b=>b=gR))
   case first=>
    have hne:gR≠wr.heap.size:=by omega
    by_cases h1:o.op=1
    · have hk:(recI 0 o).kind=1∧fD o=256∧iA o=16*o.n:=by unfold recI fD iA;simp [h1]
      obtain ⟨L,hL⟩:∃ L,IntKind.i64.wrap (o.n*16)=L:=⟨_,rfl⟩;have HL:Hid (o.n≤1048576→0≤o.n→L=iA o):=zia fun a b=>by rw [←hL,ziI _ (by omega),hk.2.2];omega
      have HKI:=zia hk;clear hk;go_upto_region 9 with fail;have hBI:=G.at_ m0;have HK:Hid (∀ W,aA wc W (fun b=>b=gR)→(∀ o',W.cell? ⟨wr.heap.size,o',none⟩=(#[.int .i64 o.op,.int .i64 o.lba,.int .i64 o.n,.slice Ad dl cd]:Array Value)[o']?)):=zia fun W ht=>(hBI.turned ht (fun e=>hne e.symm)).rules.1
      have hb0:aA wc wc.drew (fun b=>b=gR):=(aA.refl _ _).drew
      refine wp_region_held_drew (S:=fun W=>(∀ o',W.cell? ⟨wr.heap.size,o',none⟩=(#[.int .i64 o.op,.int .i64 o.lba,.int .i64 o.n,.slice Ad dl cd]:Array Value)[o']?)) (by kernel_rfl) (HK.out _ hb0) (fun hHeld=>?_)
      have hBx:=hBR.drew;have hbx:=hb0;clear q0 f0 t0 q1 f1 t1;generalize wc.drew=wx at hbx hBx hHeld ⊢;refine wT 0 35 ?_;refine wT 1 36 ?_;refine wT 2 37 ?_;refine wT 3 38 ?_;refine wRn 4 (fun K hK=>?_)
      obtain ⟨q0,f0⟩:=hBx.rules;have t0:=hBx.lt;go_simp;refine cF (K:=K _) hBx 0 _ ?_;intro wx hsx htx hB9;replace hbx:=hbx.trans htx;clear q0 f0 t0;refine hK.out _ _ (HK.out _ hbx) (fun hHeld=>?_)
      clear hK K;refine wT 5 10 ?_;refine wT 6 11 ?_;refine wpAnyH_done (by kernel_rfl) ?_ _
      go_wp2_with fail;go_meet;exact ⟨L,by rw [HKI.out.2.1],rfl,HL,by rw [HKI.out.1];exact hB9,hbx⟩
    by_cases h2:o.op=2
    · have hk:(recI 0 o).kind=2∧fD o=1048576∧iA o=0:=by unfold recI fD iA;simp [h2]
      have HKI:=zia hk;clear hk;go_wp2;refine cF (K:=fun W=>Met _ _ W) hBR 0 _ ?_
      intro w9 hs9 ht9 hB9;go_meet;exact ⟨0,by rw [HKI.out.2.1],rfl,zia fun _ _=>HKI.out.2.2.symm,by rw [HKI.out.1];exact hB9,ht9⟩
    · have hk:(recI 0 o).kind=0∧fD o=0∧iA o=0:=by unfold recI fD iA;simp [h1,h2]
      have HKI:=zia hk;clear hk;go_wp2;go_meet;exact ⟨0,by rw [HKI.out.2.1],rfl,zia fun _ _=>HKI.out.2.2.symm,by rw [HKI.out.1];exact hBR,aA.refl _ _⟩
   case rest=>
    obtain ⟨L,rfl,rfl,HL,hBR6,ht6⟩:=hcut;have hd6:=hd5.turned ht6 (fun b hb=>hb.2)
    have hb26:=aA.upon hb5 ht6 hlp (zic _);have F:=((G0.step hb26).know hBR6).give aB.bytes hd6;have hown6:=hown2.step hb26;have HOL:=zia (eA.lt hown2);have hb6:=hb2.trans (hb26.mono hs12);have hs6:=ht6.size;have hso:=fun W=>oE o.lba o.n (fD o) W (by unfold fD;split;decide;split <;> decide)
    have hmi:=fun W a=>xV h (.agg (hoS h Ao co As cs Ab cb Al cl Am cm)) o.lba o.n (fun b=>K b∧b<w.heap.size) W a
    clear G G0 hb5 hd5 hd6 hBR hBR6 ht6 q0 f0 t0 q1 f1 t1 hown2 hb2 hb26;obtain ⟨q0,f0,t0⟩:=F.rules m1;by_cases hs1:dF o.lba o.n (fD o)
    case neg=>
     have he:dW h.s o=63:=by unfold dW;rw [zij (fun hh=>hs1 hh.1)]
     have hr:res=([],63):=by
      rw [←HRES.out];unfold nX;rw [rM HE0.out HJE.out (by rw [he];decide),he]
      rfl
     subst hr;rw [ziv hs1] at hso;go_wp2_with fail;refine (hso _).mono ?_;rintro e w8 ⟨rfl,hb8⟩;replace F:=F.step hb8;clear q0 f0 t0;go_wp2;refine zik (v:=.tuple #[.slice none 0 0,.int .i64 63]) (by simp [results,Tryz.results35,go_sem]) rfl ⟨_,rfl,IsL.nil_ _ _,F.below⟩
    rw [ziu hs1] at hso;have hm20:fD o≤1048576:=by unfold fD;split;decide;split <;> decide
    have hLo:L=iA o:=HL.out (by have:=hs1.2.2.1;omega) (by have:=hs1.2.1;omega)
    subst hLo;go_wp2_with fail;refine (hso _).mono ?_;rintro e w8 ⟨rfl,hb8⟩;replace F:=F.step hb8;replace hown6:=hown6.step hb8;replace hb6:=hb6.trans (hb8.mono hb6.size);clear q0 f0 t0 hso hb8;obtain ⟨q0,f0,t0⟩:=F.rules m1;by_cases hlong:(dl:Int)=iA o
    case neg=>
     have he:dW h.s o=63:=by unfold dW;rw [zij (fun hh=>hlong (by rw [←HDL.out];exact hh.2))]
     have hr:res=([],63):=by
      rw [←HRES.out];unfold nX;rw [rM HE0.out HJE.out (by rw [he];decide),he]
      rfl
     subst hr;go_wp2;refine zik (v:=.tuple #[.slice none 0 0,.int .i64 63]) (by simp [results,Tryz.results35,go_sem]) rfl ⟨_,rfl,IsL.nil_ _ _,F.below⟩
    rw [←hlong];obtain ⟨q1,f1,t1⟩:=F.rules m2;cases hmn:lT h.s o.lba o.n with
    | false=>
      rw [hmn] at hmi;have he:dW h.s o=62:=by unfold dW;rw [zig (by simp only [ziT];exact ⟨hs1,by rw [HDL.out];exact hlong⟩),zig (by rw [hmn];decide)]
      have hr:res=([],62):=by
       rw [←HRES.out];unfold nX;rw [rM HE0.out HJE.out (by rw [he];decide),he]
       rfl
      subst hr;clear hlong;go_wp2_with fail;refine (hmi _ (F.get m2)).mono ?_;rintro e w9 ⟨rfl,hb9⟩;replace F:=F.step hb9;go_wp2;refine zik (v:=.tuple #[.slice none 0 0,.int .i64 62]) (by simp [results,Tryz.results35,go_sem]) rfl ⟨_,rfl,IsL.nil_ _ _,F.below⟩
    | true=>
      rw [hmn] at hmi;have he:dW h.s o=0:=by unfold dW;rw [zig (by simp only [ziT];exact ⟨hs1,by rw [HDL.out];exact hlong⟩),zij hmn]
      have HE1:=zia (zd7 HE0.out HJE.out he);clear hlong he;go_wp2_with fail;refine (hmi _ (F.get m2)).mono ?_;rintro e w9 ⟨rfl,hb9⟩;replace F:=F.step hb9;replace hown6:=hown6.step hb9;replace hb6:=hb6.trans (hb9.mono hb6.size);clear q0 f0 t0 q1 f1 t1 hb9 hmi;obtain ⟨hjq,xs,hrow,hcl⟩:=hown6.open_;rw [←hjq] at hrow hcl;have HJQ:=zia hjq;clear hjq hown6;have hst:Below w9.heap.size w9 (w9.alloc (.cells #[.int .i64 (recI 0 o).kind,.int .i64 o.lba,.int .i64 o.n,.int .i64 (h.ver+(j:Int)),.int .i64 0,.int .i64 0,.slice A5 dl c5] 117)):=zBA;have hrow':=aD hrow hst (zic _);have hrn:aG (w9.alloc (.cells #[.int .i64 (recI 0 o).kind,.int .i64 o.lba,.int .i64 o.n,.int .i64 (h.ver+(j:Int)),.int .i64 0,.int .i64 0,.slice A5 dl c5] 117)) (fun b=>b=w9.heap.size) 7 (some ⟨w9.heap.size,0,none⟩) 1 [.int .i64 (recI 0 o).kind,.int .i64 o.lba,.int .i64 o.n,.int .i64 (h.ver+(j:Int)),.int .i64 0,.int .i64 0,.slice A5 dl c5]:=aG.new rfl rfl rfl
      have hdb:=(F.get m0).lt.step hst;have hw9:=hb6.size;obtain ⟨q0,f0,t0⟩:=F.rules m0;go_wp2_with (at_builtin;go_must (refine aF rfl _ _ _ rfl w1.heap.size 117 i7 _ 7 72 Tryz.underlying32 hi7 hx0 hx1 hx2 rfl (by omega) rfl hrow' rfl hrn (by simp [Value.oneCell']) (by simp only [maxLen];omega) (by omega) (by simp;omega) ?_);intro A10 c10 w10 own10 hg10)
      have hqb:∀ b,(Value.slice A6 j c6).ownBlock=some b→b<w2.heap.size:=fun b hb=>(HOL.out b hb).2
      have hkd:-9223372036854775808≤(recI (h.ver+(j:Int)) o).kind∧(recI (h.ver+(j:Int)) o).kind≤9223372036854775807:=by unfold recI;simp only;split;omega;split <;> omega
      have hX:Rp.rc.is (w9.alloc (.cells #[.int .i64 (recI 0 o).kind,.int .i64 o.lba,.int .i64 o.n,.int .i64 (h.ver+(j:Int)),.int .i64 0,.int .i64 0,.slice A5 dl c5] 117)) (fun b=>w1.heap.size≤b∧b<(w9.alloc (.cells #[.int .i64 (recI 0 o).kind,.int .i64 o.lba,.int .i64 o.n,.int .i64 (h.ver+(j:Int)),.int .i64 0,.int .i64 0,.slice A5 dl c5] 117)).heap.size∧some b≠(Value.slice A6 j c6).ownBlock) [.int .i64 (recI 0 o).kind,.int .i64 o.lba,.int .i64 o.n,.int .i64 (h.ver+(j:Int)),.int .i64 0,.int .i64 0,.slice A5 dl c5] (recI (h.ver+(j:Int)) o):=
       ⟨_,rfl,hdb.more (fun b hb=>⟨by have:=hb.1.1;omega,by have:=hb.2;have:=hst.size;omega,fun e=>by have:=hqb b e.symm;have:=hb.1.1;omega⟩),hkd,r1,r2,⟨by show _≤h.ver+(j:Int);omega,by show h.ver+(j:Int)≤_;omega⟩,⟨by show (-9223372036854775808:Int)≤0;decide,by show (0:Int)≤9223372036854775807;decide⟩,⟨by show (-9223372036854775808:Int)≤0;decide,by show (0:Int)≤9223372036854775807;decide⟩⟩
      have hq1:(bE h.ver (l.take j)++[recI (h.ver+(j:Int)) o]).length=j+1:=by rw [zie,HRL.out];rfl
      have hpush:=eA.appL (R:=Rp.rc) HRL.out hq1 ((hcl.step hst).more fun b hb=>⟨hb.1,by have:=hb.2.1;have:=hst.size;omega,hb.2.2⟩) ⟨[.int .i64 (recI 0 o).kind,.int .i64 o.lba,.int .i64 o.n,.int .i64 (h.ver+(j:Int)),.int .i64 0,.int .i64 0,.slice A5 dl c5],[],(ziz _).symm,hX,rfl⟩ own10 hg10
      rw [←HRT.out] at hpush hq1;go_roundw
      case rel=>exact ⟨j+1,A10,c10,by go_num,by omega,HE1,rfl,zia hq1,hpush,(hb6.trans (hst.mono hw9)).trans hg10.below⟩
      case measure=>simp [intOf];omega
def b8 (x:Int):UInt8:=UInt8.ofNat (x % 256).toNat
theorem zgw (x:Int):((b8 x).toNat:Int)=IntKind.u8.wrap x:=by
 unfold b8;have h:(x % 256).toNat<256:=by omega
 rw [UInt8.toNat_ofNat',Nat.mod_eq_of_lt (by omega)]
 simp only [IntKind.wrap,IntKind.bits,IntKind.signed];simp;omega
end Go.Proofs.YtcapmeefiglfjaaGreat
namespace Go.Proofs.YtcapmeefiglfjaaGreat
open Go.RowKit Go.WideShapes Go.ChangeShapes Go.Deep
end Go.Proofs.YtcapmeefiglfjaaGreat
namespace Go.Proofs.YtcapmeefiglfjaaGreat
open Go.RowKit
theorem zdF:vS []:=by
 intro v K w hv;obtain ⟨A,c,rfl,hl47⟩:=aK hv;rw [zeE];go_enter Tryz.func211,Tryz.ntmps211
 go_wp2_with fail;refine (oF _).mono ?_;rintro e w1 ⟨g,rfl,-,-,hb1⟩;have E:=(((Kn.start w).push 192 #[.bool false,.int .i64 0,.int .i64 0,.int .i64 0,.slice none 0 0,.slice none 0 0,.int .i64 0]).step hb1).push 235 #[.pointer (some ⟨g,0,none⟩)];go_wp2_with fail;generalize w1.alloc (.cells #[.pointer (some ⟨g,0,none⟩)] 235)=w2 at E ⊢;go_loopw [] (fun wr=>wr=w2) (fun _=>1)
 case atStart=>exact rfl
 case round=>
  subst hrel;go_upto_region 2 with fail;have hb0:Below wr.heap.size wr wr.drew:=(zif _ _).drew;replace E:=E.step hb0;refine wp_region_held_drew (S:=fun W=>(∀ o,W.cell? ⟨w.heap.size,o,none⟩=(#[.bool false,.int .i64 0,.int .i64 0,.int .i64 0,.slice none 0 0,.slice none 0 0,.int .i64 0]:Array Value)[o]?)∧∀ o,W.cell? ⟨w1.heap.size,o,none⟩=(#[.pointer (some ⟨g,0,none⟩)]:Array Value)[o]?) (by kernel_rfl) ⟨(E.rules m1).1,(E.rules m0).1⟩ (fun hHeld=>?_)
  generalize wr.drew=wx at E hHeld ⊢;clear hb0;refine wT 0 13 ?_;refine wT 1 14 ?_;refine wT 2 15 ?_;refine wT 3 16 ?_;refine wT 4 17 ?_;refine wR 5 18 (fun K hK=>?_)
  go_simp;refine (zd8 _ ⟨_,rfl⟩ A c _).mono ?_;rintro e w5 ⟨rfl,hb5⟩;replace E:=E.step hb5;go_wp2_with fail;refine hK.out _ _ ⟨(E.rules m1).1,(E.rules m0).1⟩ (fun hHeld=>?_)
  clear hK K;refine wT 6 12 ?_;refine wT 7 19 ?_;refine wT 8 20 ?_;refine wT 9 21 ?_;refine wT 10 4 ?_;refine wT 11 5 ?_;refine wT 12 6 ?_;refine wpAnyH_done (by kernel_rfl) ?_ _
  have B0:=E.at_ m1;have hbw:=E.below;obtain ⟨q0,f0⟩:=B0.rules;have t0:=B0.lt;clear E hHeld;go_wp2_with fail;refine zaw (K:=fun W=>bodyPost _ _ _ _ _ W) B0 _ _ _ _ _ _ _ ?_
  intro w8 ht8 hB8;obtain ⟨q9,f9⟩:=hB8.rules;have hb9:=aA.upon hbw ht8 (zic _) (zic _);refine zik (v:=.agg #[.bool false,.int .i64 0,.int .i64 0,.int .i64 0,.slice none 0 0,.slice none 0 0,.int .i64 0]) (by simp [results,Tryz.results211,go_sem,q9]) rfl ⟨none,0,none,0,rfl,IsL.nil_ _ _,IsL.nil_ _ _,hb9⟩
end Go.Proofs.YtcapmeefiglfjaaGreat
namespace Go.Proofs.YtcapmeefiglfjaaGreat
open Go.RowKit Go.WideMaps
structure En where
 lba:Int
 ver:Int
 b:List UInt8
def ofs (c g:Nat):Nat:=if g=c then 2 else 0
theorem zK {c:Nat}:ofs c c=2:=zij rfl
theorem nR {c g:Nat} (h:g≠c):ofs c g=0:=zig h
abbrev adV (c g:Nat):Value:=.pointer (some ⟨g,ofs c g,none⟩)
abbrev enC (c:Nat) (x:En) (v:Value) (p q:Nat):Array Value:=#[.int .i64 x.lba,.int .i64 x.ver,v,adV c p,adV c q]
abbrev caC (most:Int) (m c p q:Nat) (hit miss:Int):Array Value:=#[.int .i64 most,.map (some m),.int .i64 0,.int .i64 0,.slice none 0 0,adV c p,adV c q,.int .i64 hit,.int .i64 miss]
theorem qN (most:Int) (m c p q:Nat) (hit miss:Int):NoB (caC most m c p q hit miss):=by
 intro o n;rcases zjb o 9 with h | h
 · match o,h with
   | 0,_ | 1,_ | 2,_ | 3,_ | 4,_ | 5,_ | 6,_ | 7,_ | 8,_=>simp [caC]
 · rw [zjo (by simpa [caC] using h)];simp
theorem zhg (c:Nat) (x:En) (A:Option Addr) (l k p q:Nat):NoB (enC c x (.slice A l k) p q):=by
 intro o n;rcases zjb o 5 with h | h
 · match o,h with
   | 0,_ | 1,_ | 2,_ | 3,_ | 4,_=>simp [enC]
 · rw [zjo (by simpa [enC] using h)];simp
theorem IsB.off {w:World} {K:Nat→Prop} {v:Value} {l:List UInt8} {b:Nat} (h:IsB w K v l) (hc:∀ p:Addr,p.block=b→∀ n:Int,w.cell? p≠some (.int .u8 n)):IsB w (fun x=>K x∧x≠b) v l:=by
 obtain ⟨A,c,rfl,⟨h1,h2⟩,h3⟩:=h;refine ⟨A,c,rfl,⟨h1,fun hn=>?_⟩,h3⟩
 obtain ⟨ad,e,hK,hc'⟩:=h2 hn;refine ⟨ad,e,⟨hK,fun hb=>?_⟩,hc'⟩
 obtain ⟨x,l',rfl⟩:∃ x l',l=x::l':=by
  cases l with
  | nil=>exact absurd hn (zkt _)
  | cons x l'=>exact ⟨x,l',rfl⟩
 have h0:=hc' 0 (B8 x) rfl;rw [cW] at h0;exact hc ad hb _ h0
structure Nd (Kd:Nat→Prop) (w:World) (c m:Nat) (most:Int) (ns:List Nat) (dt:Nat→En) (ah af:Nat→Nat) (hit miss:Int):Prop where
 ca:Blk w c 107 (caC most m c (ah c) (af c) hit miss)
 en:∀ g,g∈ns→∃ v,Blk w g 100 (enC c (dt g) v (ah g) (af g))∧IsB w Kd v (dt g).b
section
variable {Kd:Nat→Prop} {w w':World} {c m g:Nat} {most hit miss:Int} {ns:List Nat} {dt:Nat→En} {ah af:Nat→Nat}
theorem Nd.ne (h:Nd Kd w c m most ns dt ah af hit miss) (hg:g∈ns):g≠c:=by
 obtain ⟨v,h1,_⟩:=h.en g hg;rintro rfl;have h2:=h.ca;unfold Blk at h1 h2;rw [h1] at h2;injection h2 with h2;injection h2 with _ h2 _;exact absurd h2 (by decide)
theorem Nd.step (h:Nd Kd w c m most ns dt ah af hit miss) (hb:Below w.heap.size w w'):Nd Kd w' c m most ns dt ah af hit miss:=
 ⟨h.ca.step hb,fun g hg=>by obtain ⟨v,h1,h2⟩:=h.en g hg;exact ⟨v,h1.step hb,h2.step hb⟩⟩
theorem Nd.more (h:Nd Kd w c m most ns dt ah af hit miss) {ns':List Nat} (hs:∀ g∈ns',g∈ns):Nd Kd w c m most ns' dt ah af hit miss:=⟨h.ca,fun g hg=>h.en g (hs g hg)⟩
theorem Nd.away (h:Nd Kd w c m most ns dt ah af hit miss) {x:Nat} {t:TypeId} {cs:Array Value} (hB:Blk w x t cs) (hn:NoB cs) (ht:aA w w' (fun b=>b=x)) {g:Nat} (hg:g∈ns) :
 ∃ v,(g≠x→Blk w' g 100 (enC c (dt g) v (ah g) (af g)))∧Blk w g 100 (enC c (dt g) v (ah g) (af g))∧IsB w' Kd v (dt g).b:=by
 obtain ⟨v,h1,h2⟩:=h.en g hg;exact ⟨v,fun hne=>h1.turned ht hne,h1,h2.boxed hB hn ht⟩
theorem Nd.noB (h:Nd Kd w c m most ns dt ah af hit miss) (hg:g∈ns) {cs:Array Value} (hB:Blk w g 100 cs):NoB cs:=by
 obtain ⟨v,h1,h2⟩:=h.en g hg;obtain ⟨A,k,rfl,-⟩:=aK h2;unfold Blk at h1 hB;rw [hB] at h1;injection h1 with h1;injection h1 with h1 _ _;rw [h1];exact zhg _ _ _ _ _ _ _
theorem Nd.turned (h:Nd Kd w c m most ns dt ah af hit miss) {x:Nat} {t:TypeId} {cs:Array Value} (hB:Blk w x t cs) (hn:NoB cs) (ht:aA w w' (fun b=>b=x)) (hxc:x≠c) (hx:x∉ns):Nd Kd w' c m most ns dt ah af hit miss:=
 ⟨h.ca.turned ht (fun e=>hxc e.symm),fun g hg=>by obtain ⟨v,h1,_,h2⟩:=h.away hB hn ht hg;exact ⟨v,h1 (fun e=>hx (by rw [←e];exact hg)),h2⟩⟩
theorem Nd.map (h:Nd Kd w c m most ns dt ah af hit miss) (hm:∃ es k,w.heap[m]?=some (.map es k)) (ht:aA w w' (fun b=>b=m)):Nd Kd w' c m most ns dt ah af hit miss:=by
 obtain ⟨es,k,hm⟩:=hm;have hne:∀ {g t cs},Blk w g t cs→g≠m:=fun hB e=>by
  subst e;unfold Blk at hB;rw [hB] at hm;injection hm with hm;cases hm
 refine ⟨h.ca.turned ht (hne h.ca),fun g hg=>?_⟩
 obtain ⟨v,h1,h2⟩:=h.en g hg;exact ⟨v,h1.turned ht (hne h1),((h2.off fun p hp n h9=>by
  obtain ⟨pb,po,pz⟩:=p;have hp:pb=m:=hp;subst hp;simp [World.cell?,hm] at h9).turned ht (fun b hb e=>hb.2 e)).more fun _ hb=>hb.1⟩
theorem Nd.stAf (h:Nd Kd w c m most ns dt ah af hit miss) (hc:c∉ns) (hg:g∈c::ns) (x:Nat) {K:World→Prop}
 (hk:∀ wy,wy.heap.size=w.heap.size→aA w wy (fun b=>b=g)→Nd Kd wy c m most ns dt ah (upd af g x) hit miss→K wy):K (w.setCell ⟨g,ofs c g+4,none⟩ (adV c x)):=by
 have ht:=(aA.refl w (fun b=>b=g)).set (g:=g) rfl (ofs c g+4) (adV c x)
 refine hk _ (by simp) ht ?_
 by_cases e:g=c
 · subst e
   refine ⟨?_,fun y hy=>?_⟩
   · rw [zK,cG]
     exact h.ca.set_ 6 _
   · obtain ⟨v,h1,_,h2⟩:=h.away h.ca (qN _ _ _ _ _ _ _) ht hy
     have hne:y≠g:=fun e=>hc (by rw [←e];exact hy)
     exact ⟨v,by rw [dD hne];exact h1 hne,h2⟩
 · have hg':g∈ns:=(zim.1 hg).resolve_left e
   obtain ⟨vg,hgB,_⟩:=h.en g hg';have hn:=h.noB hg' hgB;refine ⟨?_,fun y hy=>?_⟩
   · rw [dD (fun e'=>e e'.symm)]
     exact h.ca.turned ht (fun e'=>e e'.symm)
   · obtain ⟨v,h1,h3,h2⟩:=h.away hgB hn ht hy
     by_cases hyg:y=g
     · subst hyg
       refine ⟨v,?_,h2⟩;rw [cG,nR e];exact h3.set_ 4 _
     · exact ⟨v,by rw [dD hyg];exact h1 hyg,h2⟩
theorem Nd.stAh (h:Nd Kd w c m most ns dt ah af hit miss) (hc:c∉ns) (hg:g∈c::ns) (x:Nat) {K:World→Prop}
 (hk:∀ wy,wy.heap.size=w.heap.size→aA w wy (fun b=>b=g)→Nd Kd wy c m most ns dt (upd ah g x) af hit miss→K wy):K (w.setCell ⟨g,ofs c g+3,none⟩ (adV c x)):=by
 have ht:=(aA.refl w (fun b=>b=g)).set (g:=g) rfl (ofs c g+3) (adV c x)
 refine hk _ (by simp) ht ?_
 by_cases e:g=c
 · subst e
   refine ⟨?_,fun y hy=>?_⟩
   · rw [zK,cG]
     exact h.ca.set_ 5 _
   · obtain ⟨v,h1,_,h2⟩:=h.away h.ca (qN _ _ _ _ _ _ _) ht hy
     have hne:y≠g:=fun e=>hc (by rw [←e];exact hy)
     exact ⟨v,by rw [dD hne];exact h1 hne,h2⟩
 · have hg':g∈ns:=(zim.1 hg).resolve_left e
   obtain ⟨vg,hgB,_⟩:=h.en g hg';have hn:=h.noB hg' hgB;refine ⟨?_,fun y hy=>?_⟩
   · rw [dD (fun e'=>e e'.symm)]
     exact h.ca.turned ht (fun e'=>e e'.symm)
   · obtain ⟨v,h1,h3,h2⟩:=h.away hgB hn ht hy
     by_cases hyg:y=g
     · subst hyg
       refine ⟨v,?_,h2⟩;rw [cG,nR e];exact h3.set_ 3 _
     · exact ⟨v,by rw [dD hyg];exact h1 hyg,h2⟩
theorem Nd.at_ (h:Nd Kd w c m most ns dt ah af hit miss) (hg:g∈c::ns):w.cell? ⟨g,ofs c g+3,none⟩=some (adV c (ah g))∧w.cell? ⟨g,ofs c g+4,none⟩=some (adV c (af g))∧(∀ o,w.frozen? ⟨g,o,none⟩=false)∧g<w.heap.size:=by
 by_cases e:g=c
 · subst e
   obtain ⟨q,f⟩:=h.ca.rules;rw [zK];exact ⟨q 5,q 6,f,h.ca.lt⟩
 · obtain ⟨v,hB,_⟩:=h.en g ((zim.1 hg).resolve_left e)
   obtain ⟨q,f⟩:=hB.rules;rw [nR e];exact ⟨q 3,q 4,f,hB.lt⟩
theorem zbV {e:Nat} (h:Nd Kd w c m most ns dt ah af hit miss) (hc:c∉ns) (he:e∈ns) (hp:ah e∈c::ns) (hq:af e∈c::ns) (hpe:ah e≠e) (hqe:af e≠e) :
 Calls Tryz.prog 133 #[.pointer (some ⟨e,0,none⟩)] w fun r w'=>r=.returned (.tuple #[])∧Nd Kd w' c m most ns dt (upd ah (af e) (ah e)) (upd af (ah e) (af e)) hit miss∧aA w w' (fun b=>b∈c::ns)∧w'.heap.size=w.heap.size:=by
 obtain ⟨p,hpp⟩:∃ p,ah e=p:=⟨_,rfl⟩;obtain ⟨q,hqq⟩:∃ q,af e=q:=⟨_,rfl⟩;obtain ⟨v,hB,-⟩:=h.en e he;rw [hpp,hqq] at hB ⊢;rw [hpp] at hp hpe;rw [hqq] at hq hqe;clear hpp hqq;go_enter Tryz.func133,Tryz.ntmps133
 have h0:Nd Kd w.drew c m most ns dt ah af hit miss:=h.step (zif _ _).drew;have t0:aA w w.drew (fun b=>b∈c::ns):=aA.of (zif _ _).drew
 have s0:w.drew.heap.size=w.heap.size:=rfl;replace hB:Blk w.drew e 100 (enC c (dt e) v p q):=hB;refine wp_region_held_drew (S:=fun W=>∀ o,W.cell? ⟨e,o,none⟩=(enC c (dt e) v p q)[o]?) (by kernel_rfl) hB.rules.1 (fun hHeld=>?_)
 generalize w.drew=w1 at h0 t0 s0 hB hHeld ⊢;refine wT 0 2 ?_;refine wT 1 3 ?_;refine wT 2 4 ?_;refine wT 3 5 ?_;refine wT 4 6 ?_;refine wT 5 7 ?_;refine wT 6 8 ?_;refine wT 7 9 ?_;refine wT 8 10 ?_;refine wT 9 11 ?_;refine wT 10 12 ?_;refine wT 11 13 ?_;refine wT 12 14 ?_;refine wT 13 15 ?_;refine wT 14 16 ?_;refine wT 15 17 ?_;refine wT 16 18 ?_;refine wT 17 19 ?_;refine wRn 18 (fun K hK=>?_)
 obtain ⟨a0,a1,a2,a3⟩:=h0.at_ hp;go_simp;refine h0.stAf hc hp q (K:=K _) ?_;intro w2 s2 t2 h2;replace hB:=hB.turned t2 (show ¬e=p by omega)
 refine hK.out _ _ hB.rules.1 (fun hHeld=>?_)
 clear a0 a1 a2 a3;clear hK K;refine wT 19 20 ?_;refine wT 20 21 ?_;refine wRn 21 (fun K hK=>?_)
 obtain ⟨a0,a1,a2,a3⟩:=h2.at_ hq;go_simp;refine h2.stAh hc hq p (K:=K _) ?_;intro w3 s3 t3 h3;replace hB:=hB.turned t3 (show ¬e=q by omega)
 refine hK.out _ _ hB.rules.1 (fun hHeld=>?_)
 clear a0 a1 a2 a3;clear hK K;try simp only [pu,List.set]
 refine wpAnyH_done (by kernel_rfl) ?_ _
 go_wp2_with fail;go_end0;exact ⟨rfl,h3,(t0.trans (t2.mono fun b hb=>by rw [hb];exact hp)).trans (t3.mono fun b hb=>by rw [hb];exact hq),by rw [s3,s2,s0]⟩
theorem Nd.push (h:Nd Kd w c m most ns dt ah af hit miss) {e p q:Nat} {v:Value} (he:e∉c::ns) (hE:Blk w e 100 (enC c (dt e) v p q)) (hv:IsB w Kd v (dt e).b):Nd Kd w c m most (e::ns) dt (upd ah e p) (upd af e q) hit miss:=by
 have hec:c≠e:=fun x=>he (by rw [x];exact zih ..)
 refine ⟨by rw [dD hec,dD hec];exact h.ca,fun g hg=>?_⟩
 by_cases hge:g=e
 · subst hge
   exact ⟨v,by rw [cG,cG];exact hE,hv⟩
 · obtain ⟨v',h1,h2⟩:=h.en g ((zim.1 hg).resolve_left hge)
   exact ⟨v',by rw [dD hge,dD hge];exact h1,h2⟩
theorem xL {e:Nat} {v x y:Value} (h:Nd Kd w c m most ns dt ah af hit miss) (hc:c∉ns) (he:e∉c::ns) (hE:Blk w e 100 #[.int .i64 (dt e).lba,.int .i64 (dt e).ver,v,x,y]) (hN:NoB #[.int .i64 (dt e).lba,.int .i64 (dt e).ver,v,x,y]) (hv:IsB w Kd v (dt e).b) (hq:af c∈c::ns) :
 Calls Tryz.prog 141 #[.pointer (some ⟨c,0,none⟩),.pointer (some ⟨e,0,none⟩)] w fun r w'=>r=.returned (.tuple #[])∧Nd Kd w' c m most (e::ns) dt (upd (upd ah e c) (af c) e) (upd (upd af e (af c)) c e) hit miss∧aA w w' (fun b=>b∈c::e::ns)∧w'.heap.size=w.heap.size:=by
 obtain ⟨q,hqq⟩:∃ q,af c=q:=⟨_,rfl⟩;have hce:c≠e:=fun x=>he (by rw [x];exact zih ..)
 have hen:e∉ns:=fun x=>he (zii _ x)
 have hpc:c∈c::e::ns:=zih ..;have hpe:e∈c::e::ns:=zii _ (zih ..);have hc':c∉e::ns:=fun h9=>by
  rcases zim.1 h9 with h8 | h8
  · exact hce h8
  · exact hc h8
 have hoe:=nR (c:=c) (g:=e) (fun x=>hce x.symm)
 have hoc:=zK (c:=c);have hB:=h.ca;obtain ⟨Av,kv,rfl,-⟩:=aK hv;rw [hqq] at hB hq ⊢;have hqe:q≠e:=fun x=>he (by rw [←x];exact hq)
 have hq':q∈c::e::ns:=by
  rcases zim.1 hq with h9 | h9
  · rw [h9];exact hpc
  · exact zii _ (zii _ h9)
 go_enter Tryz.func141,Tryz.ntmps141
 have h0:Nd Kd w.drew c m most ns dt ah af hit miss:=h.step (zif _ _).drew;have t0:aA w w.drew (fun b=>b∈c::e::ns):=aA.of (zif _ _).drew
 have s0:w.drew.heap.size=w.heap.size:=rfl;replace hB:Blk w.drew c 107 (caC most m c (ah c) q hit miss):=hB;replace hE:=hE.drew;replace hv:=hv.drew;have a7:=hB.rules.1 6;go_upto_region 0 with fail;refine wp_region_held_drew (S:=fun W=>W.cell? ⟨c,6,none⟩=some (adV c q)) (by kernel_rfl) a7 (fun hHeld=>?_)
 clear a7;generalize w.drew=w1 at h0 t0 s0 hB hE hv hHeld ⊢;have HN:=zia hN;clear hN;refine wT 0 4 ?_;refine wT 1 5 ?_;refine wT 2 6 ?_;refine wT 3 7 ?_;refine wT 4 8 ?_;refine wT 5 9 ?_;refine wT 6 10 ?_;refine wT 7 11 ?_;refine wT 8 12 ?_;refine wT 9 13 ?_;refine wT 10 14 ?_;refine wT 11 15 ?_;refine wRn 12 (fun K hK=>?_)
 obtain ⟨a0,a1⟩:=hE.rules;have a2:=hE.lt;go_simp;rw [show (Value.pointer (some ⟨c,2,none⟩))=adV c c by unfold adV;rw [hoc]]
 refine cF (K:=K _) hE 3 _ ?_;intro w2 s2 t2 hE2;replace hB:=hB.turned t2 hce;refine hK.out _ _ (hB.rules.1 6) (fun hHeld=>?_)
 clear a0 a1 a2;clear hK K;refine wT 13 16 ?_;refine wT 14 17 ?_;refine wRn 15 (fun K hK=>?_)
 obtain ⟨a0,a1⟩:=hE2.rules;have a2:=hE2.lt;go_simp;refine cF (K:=K _) hE2 4 _ ?_;intro w3 s3 t3 hE3;replace hB:=hB.turned t3 hce;refine hK.out _ _ (hB.rules.1 6) (fun hHeld=>?_)
 clear a0 a1 a2 hHeld;clear hK K;try simp only [pu,List.set]
 refine wpAnyH_done (by kernel_rfl) ?_ _
 clear hB;have t23:aA w1 w3 (fun b=>b=e):=t2.trans t3
 replace hE3:Blk w3 e 100 (enC c (dt e) (.slice Av (dt e).b.length kv) c q):=hE3;have hv3:=hv.boxed hE HN.out t23;have h3:=(h0.turned hE HN.out t23 (fun x=>hce x.symm) hen).push he hE3 hv3
 clear hE hE2 hE3 hv;go_upto_region 1 with fail;replace h3:Nd Kd w3.drew c m most (e::ns) dt (upd ah e c) (upd af e q) hit miss:=h3.step (zif _ _).drew;replace t3:aA w1 w3.drew (fun b=>b=e):=t23.trans (aA.of (zif _ _).drew)
 replace s3:w3.drew.heap.size=w2.heap.size:=s3;obtain ⟨v,hB,-⟩:=h3.en e (zih ..);rw [cG,cG] at hB;refine wp_region_held_drew (S:=fun W=>∀ o,W.cell? ⟨e,o,none⟩=(enC c (dt e) v c q)[o]?) (by kernel_rfl) hB.rules.1 (fun hHeld=>?_)
 clear hv3 t23;generalize w3.drew=w3 at h3 t3 s3 hB hHeld ⊢;refine wT 0 18 ?_;refine wT 1 19 ?_;refine wT 2 20 ?_;refine wT 3 21 ?_;refine wT 4 22 ?_;refine wT 5 23 ?_;refine wT 6 24 ?_;refine wT 7 25 ?_;refine wT 8 26 ?_;refine wT 9 27 ?_;refine wT 10 28 ?_;refine wT 11 29 ?_;refine wRn 12 (fun K hK=>?_)
 obtain ⟨a0,a1,a2,a3⟩:=h3.at_ hpc;rw [hoc] at a0 a1;go_simp;rw [show (⟨c,6,none⟩:Addr)=⟨c,ofs c c+4,none⟩ by rw [hoc],show (Value.pointer (some ⟨e,0,none⟩))=adV c e by unfold adV;rw [hoe]]
 refine h3.stAf hc' hpc e (K:=K _) ?_;intro w4 s4 t4 h4;replace hB:=hB.turned t4 (fun x=>hce x.symm)
 refine hK.out _ _ hB.rules.1 (fun hHeld=>?_)
 clear a0 a1 a2 a3;clear hK K;refine wT 13 30 ?_;refine wT 14 31 ?_;refine wRn 15 (fun K hK=>?_)
 obtain ⟨a0,a1,a2,a3⟩:=h4.at_ hq';go_simp;rw [show (Value.pointer (some ⟨e,0,none⟩))=adV c e by unfold adV;rw [hoe]]
 refine h4.stAh hc' hq' e (K:=K _) ?_;intro w5 s5 t5 h5;replace hB:=hB.turned t5 (fun x=>hqe x.symm)
 refine hK.out _ _ hB.rules.1 (fun hHeld=>?_)
 clear a0 a1 a2 a3;clear hK K;try simp only [pu,List.set]
 refine wpAnyH_done (by kernel_rfl) ?_ _
 go_wp2_with fail;go_end0;exact ⟨rfl,h5,(((t0.trans (t3.mono fun b hb=>by rw [hb];exact hpe)).trans (t4.mono fun b hb=>by rw [hb];exact hpc)).trans (t5.mono fun b hb=>by rw [hb];exact hq')),by rw [s5,s4,s3,s2,s0]⟩
theorem Nd.hit_ (h:Nd Kd w c m most ns dt ah af hit miss) (x:Int):Nd Kd (w.setCell ⟨c,7,none⟩ (.int .i64 x)) c m most ns dt ah af x miss∧aA w (w.setCell ⟨c,7,none⟩ (.int .i64 x)) (fun b=>b=c):=by
 have ht:=(aA.refl w (fun b=>b=c)).set (g:=c) rfl 7 (.int .i64 x)
 refine ⟨⟨h.ca.set_ 7 _,fun g hg=>?_⟩,ht⟩
 obtain ⟨v,h1,_,h2⟩:=h.away h.ca (qN _ _ _ _ _ _ _) ht hg;exact ⟨v,h1 (h.ne hg),h2⟩
theorem Nd.miss_ (h:Nd Kd w c m most ns dt ah af hit miss) (x:Int):Nd Kd (w.setCell ⟨c,8,none⟩ (.int .i64 x)) c m most ns dt ah af hit x∧aA w (w.setCell ⟨c,8,none⟩ (.int .i64 x)) (fun b=>b=c):=by
 have ht:=(aA.refl w (fun b=>b=c)).set (g:=c) rfl 8 (.int .i64 x)
 refine ⟨⟨h.ca.set_ 8 _,fun g hg=>?_⟩,ht⟩
 obtain ⟨v,h1,_,h2⟩:=h.away h.ca (qN _ _ _ _ _ _ _) ht hg;exact ⟨v,h1 (h.ne hg),h2⟩
end
