/- A part of the proof. -/
import Derived.Test.YtcapmeefiglfjaaGreatCacheAll
set_option linter.unusedSimpArgs false
set_option maxHeartbeats 16000000
set_option maxRecDepth 100000
namespace Go.Proofs.YtcapmeefiglfjaaGreat
open Go.RowKit
theorem zcf {r:Rc} (h:lZ r):(recL r).1.length≤40030:=by
 have:=lB (l:=[r]) (by simpa using h)
 simpa [cH] using this
theorem za6 (d:Zd) (c:Cm):(doZ d c).1.z.length=d.z.length:=by
 have h:=zcy d c.zone.toNat c;unfold doZ;dsimp only
 (repeat' split) <;> simp [h]
theorem zhf {l:List Rc} (hl:l≠[]) (h:∀ r∈l,lZ r) (he:eY l=0):cH l≠[]:=by
 obtain ⟨r,t,rfl⟩:=List.exists_cons_of_ne_nil hl;have her:(recL r).2=0:=by
  unfold eY at he;by_cases hx:(recL r).2=0
  · exact hx
  · rw [zij hx] at he;exact absurd he hx
 have:=((kU (h r (zih ..))).2 her).2;intro e;have h2:=zjj List.length e;simp only [cH,zie,List.length_nil] at h2;omega
theorem zcd (d:Zd) (h:Ho) (need:Int):(fS d h need).1.z.length=d.z.length:=by
 have hf:(sW d h).z.length=d.z.length:=by
  unfold sW;split
  · exact za6 _ _
  · rfl
 unfold fS;split
 · rfl
 · split
   · exact hf
   · exact hf
theorem zgd {d:Zd} {h:Ho} {need:Int} (ho:zdT h) (hd:d.z.length≤1000000) (hl:h.p.l.length≤1000000) (ht:(fS d h need).2.2=true):zbE (fS d h need).2.1.p∧(fS d h need).2.1.p.l.length≤1000000:=by
 have hf:(sW d h).z.length=d.z.length:=by
  unfold sW;split
  · exact za6 _ _
  · rfl
 unfold fS at ht ⊢;by_cases h1:h.opn=true∧need≤gT h.p
 · rw [zij h1];exact ⟨ho.pk,hl⟩
 · rw [zig h1] at ht ⊢
   cases hfd:h.own[h.own.findIdx (eT (sW d h))]? with
   | none=>rw [hfd] at ht;cases ht
   | some f=>
     have hfm:=zix hfd;have hfree:eT (sW d h) f=true:=by
      obtain ⟨hlt,e⟩:=zil.1 hfd;rw [←e];exact zjc
     unfold eT at hfree;simp only [zjC,ziM] at hfree;have hz0:=ho.zone f hfm;have:=zcn (d:=sW d h) (h:=h) (f:=f) ⟨by omega,by omega⟩ ⟨ho.id,ho.ep f hfm,by have:=ho.seq;simp only;omega⟩
     simp only;exact ⟨this.1,by rw [this.2.1];simp⟩
theorem zfp.lt {w:World} {g:Nat} {K:Nat→Prop} {h:Ho} {d:Zd} (hw:zfp w g K h d):zfp w g (fun b=>K b∧b<w.heap.size) h d:=by
 obtain ⟨vo,vs,vb,vl,vm,vz,hB,h1,h2,h3,h4,h5,h6⟩:=hw;exact ⟨vo,vs,vb,vl,vm,vz,hB,h1.ltFn,h2.ltSp,h3.lt,h4.ltC,h5.ltEx,h6.zlt⟩
theorem qH {K:World→Prop} {w:World} {g g':Nat} {t t':TypeId} {u0 u1 u2 u3 v0 v1 v2 v3 v4 v5 v6 v7 v8 v9 v10 v11 v12 v13 v14:Value} (hB:Blk w g t #[u0,u1,u2,u3]) (hB':Blk w g' t' #[v0,v1,v2,v3,v4,v5,v6,v7,v8,v9,v10,v11,v12,v13,v14]) (hne:g≠g') (x0 x1 x2 x3 y0 y1 y2 y3 y4 y5 y6 y7 y8 y9 y10 y11 y12 y13 y14:Value)
 (h:∀ wy,wy.heap.size=w.heap.size→aA w wy (fun b=>b=g∨b=g')→Blk wy g t #[x0,x1,x2,x3]→Blk wy g' t' #[y0,y1,y2,y3,y4,y5,y6,y7,y8,y9,y10,y11,y12,y13,y14]→K wy):K (((((((((((((((((((w.setCell ⟨g,0,none⟩ x0).setCell ⟨g,1,none⟩ x1).setCell ⟨g,2,none⟩ x2).setCell ⟨g,3,none⟩ x3).setCell ⟨g',0,none⟩ y0).setCell ⟨g',1,none⟩ y1).setCell ⟨g',2,none⟩ y2).setCell ⟨g',3,none⟩ y3).setCell ⟨g',4,none⟩ y4).setCell ⟨g',5,none⟩ y5).setCell ⟨g',6,none⟩ y6).setCell ⟨g',7,none⟩ y7).setCell ⟨g',8,none⟩ y8).setCell ⟨g',9,none⟩ y9).setCell ⟨g',10,none⟩ y10).setCell ⟨g',11,none⟩ y11).setCell ⟨g',12,none⟩ y12).setCell ⟨g',13,none⟩ y13).setCell ⟨g',14,none⟩ y14):=by
 refine dI (K:=fun W=>K (((((((((((((((W.setCell ⟨g',0,none⟩ y0).setCell ⟨g',1,none⟩ y1).setCell ⟨g',2,none⟩ y2).setCell ⟨g',3,none⟩ y3).setCell ⟨g',4,none⟩ y4).setCell ⟨g',5,none⟩ y5).setCell ⟨g',6,none⟩ y6).setCell ⟨g',7,none⟩ y7).setCell ⟨g',8,none⟩ y8).setCell ⟨g',9,none⟩ y9).setCell ⟨g',10,none⟩ y10).setCell ⟨g',11,none⟩ y11).setCell ⟨g',12,none⟩ y12).setCell ⟨g',13,none⟩ y13).setCell ⟨g',14,none⟩ y14)) hB _ _ _ _ ?_
 intro w1 hs1 ht1 hB1;refine eV (K:=K) (hB'.turned ht1 (fun e=>hne e.symm)) _ _ _ _ _ _ _ _ _ _ _ _ _ _ _ ?_
 intro w2 hs2 ht2 hB2;exact h w2 (hs2.trans hs1) ((ht1.mono fun _ e=>.inl e).trans (ht2.mono fun _ e=>.inr e)) (hB1.turned ht2 hne) hB2
def mG (w:World) (K:Nat→Prop) (dv hv:Value) (d:Zd) (h:Ho):Prop:=(∃ A c,dv=.agg #[.int .i64 d.cap,.int .i64 d.opn,.int .i64 d.act,.slice A d.z.length c]∧IsL Rp.zone w K (.slice A d.z.length c) d.z)∧aY w K hv h
theorem kS (d:Zd) (Az:Option Addr) (cz:Nat) (h:Ho) (v lv:Value) (l:List Rc) (K Kl:Nat→Prop) (w:World) (hz:IsL Rp.zone w K (.slice Az d.z.length cz) d.z) (hv:aY w K v h) (hl:IsL Rp.rc w Kl lv l) (hK:∀ b,K b→b<w.heap.size)
 (hd:okD d) (ho:zdT h) (hs:eB h) (hll:l.length≤1000000) (herr:eY l=0) (hne:l≠[]) :
 Calls Tryz.prog 37 #[.agg #[.int .i64 d.cap,.int .i64 d.opn,.int .i64 d.act,.slice Az d.z.length cz],v,lv] w fun e w'=>∃ dv vh Aa ca,e=.returned (.tuple #[dv,vh,.slice Aa (bP d h l).2.2.1.length ca,.int .i64 (bP d h l).2.2.2])∧w'.ownsRow w.heap.size 3 1 (.slice Aa (bP d h l).2.2.1.length ca) (bP d h l).2.2.1.length ((bP d h l).2.2.1.map I64) ∧
  mG w' (fun b=>K b∨w.heap.size≤b) dv vh (bP d h l).1 (bP d h l).2.1∧Below w.heap.size w w':=by
 have hco:=fun W hW hKW=>nW h v K W hW hKW hs
 have hv0:=hv;obtain ⟨vo,vs,vb,vl,vm,rfl,h1,h2,h3,h4,h5⟩:=hv;obtain ⟨Ao,co,rfl,-⟩:=h1.form;obtain ⟨As,cs,rfl,-⟩:=h2.form;obtain ⟨Ab,cb,rfl,-⟩:=aK h3;obtain ⟨Al,cl,rfl,-⟩:=h4.form;obtain ⟨Am,cm,rfl,-⟩:=h5.form;obtain ⟨Ar,cr,rfl,-⟩:=hl.form;have hll8:=hl.len;have hck:oH d=0:=by unfold oH;rw [zij hd]
 have hchk:=fun W a=>jG d (.slice Az d.z.length cz) K W a
 rw [hck] at hchk;have hfl:=lB (zdc hl);have hn40:d.z.length*40≤140737488355328:=by have:=hd.1.2.1;omega
 obtain ⟨res,hres⟩:∃ res,bP d h l=res:=⟨_,rfl⟩;rw [hres];unfold bP at hres;rw [zig (by rw [hck];simp),zig (by rw [herr];simp)] at hres
 have HRES:=zia hres;obtain ⟨n,hn⟩:∃ n,l.length=n:=⟨_,rfl⟩;rw [hn] at hl hll hll8 hfl ⊢;have HN:=zia hn;have HOKL:=zia (zdc hl);have HERR:=zia herr;have E:=((Kn.start w).give aB.list hz).give aB.ho hv0 |>.give aB.list hl |>.push 26 #[.int .i64 d.cap,.int .i64 d.opn,.int .i64 d.act,.slice Az d.z.length cz] |>.push 37 (hoS h Ao co As cs Ab cb Al cl Am cm) |>.push 26 #[.int .i64 0,.int .i64 0,.int .i64 0,.slice none 0 0] |>.push 37 #[.int .i64 0,.slice none 0 0,.slice none 0 0,.bool false,.int .i64 0,.int .i64 0,.int .i64 0,.int .i64 0,.int .i64 0,.int .i64 0,.slice none 0 0,.slice none 0 0,.slice none 0 0,.int .i64 0,.int .i64 0]
 simp only [zid] at E;clear h1 h2 h3 h4 h5 hv0 hl hz hres hn herr hck;go_enter Tryz.func37,Tryz.ntmps37
 go_wp2_with fail;generalize ((((w.alloc (.cells #[.int .i64 d.cap,.int .i64 d.opn,.int .i64 d.act,.slice Az d.z.length cz] 26)).alloc (.cells (hoS h Ao co As cs Ab cb Al cl Am cm) 37)).alloc (.cells #[.int .i64 0,.int .i64 0,.int .i64 0,.slice none 0 0] 26)).alloc (.cells #[.int .i64 0,.slice none 0 0,.slice none 0 0,.bool false,.int .i64 0,.int .i64 0,.int .i64 0,.int .i64 0,.int .i64 0,.int .i64 0,.slice none 0 0,.slice none 0 0,.slice none 0 0,.int .i64 0,.int .i64 0] 37))=w1 at E ⊢;refine (hchk _ (E.get m2)).mono ?_;rintro e w2 ⟨rfl,hb2⟩;replace E:=E.step hb2;clear hb2 hchk;have hg4:w.heap.size+1+1+1<w2.heap.size:=(E.at_ m0).lt;go_wp2_with fail;go_loopw [11,13,14,15,28] (fun x11 x13 x14 x15 x28 wr=>∃ j:Nat,x28=.int .i64 j∧j≤n∧x11=.int .i64 ((cH (l.take j)).length:Int)∧Below w2.heap.size w2 wr∧(∃ y,x13=y)∧(∃ y,x14=y)∧∃ y,x15=y) (fun _ _ _ _ x28 _=>n-(intOf x28).toNat)
 case atStart=>exact ⟨0,rfl,zir _,rfl,zif _ _,⟨_,rfl⟩,⟨_,rfl⟩,_,rfl⟩
 case round=>
  obtain ⟨j,rfl,hj,rfl,hb,⟨y13,rfl⟩,⟨y14,rfl⟩,y15,rfl⟩:=hrel;have hsz:=hb.size;have F:=E.step hb;by_cases hlt:j<n
  · have hlt':j<l.length:=by rw [HN.out];exact hlt
    have hje:l[j]?=some l[j]:=zib hlt';obtain ⟨ad,Ad,cd,rfl,-,hdb,hokr,c0,c1,c2,c3,c4,c5,c6⟩:=zbs (F.get m0) hje;have hfj:cH (l.take (j+1))=cH (l.take j)++(recL l[j]).1:=by rw [ziy hlt',nP];simp [cH]
    have her:(recL l[j]).2=0:=by
     have h0:=HERR.out;have:∀ (l:List Rc),eY l=0→∀ r∈l,(recL r).2=0:=by
      intro l;induction l with
      | nil=>intro _ r hr;cases hr
      | cons x l ih=>
        intro h r hr;unfold eY at h;by_cases hx:(recL x).2=0
        · rw [zig (by simp [hx])] at h
          rcases zim.1 hr with rfl | hr
          · exact hx
          · exact ih h r hr
        · rw [zij hx] at h
          exact absurd h hx
     exact this l h0 _ (ziD hlt')
    have hfle:(cH (l.take j)).length≤40030*j:=by
     have:=lB (l:=l.take j) fun r hr=>HOKL.out r (zjh hr)
     rw [zio] at this;have:min j l.length≤j:=Nat.min_le_left _ _;omega
    generalize l[j]=r at hdb hokr c0 c1 c2 c3 c4 c5 c6 hfj her;have hrl:=zcf hokr;have hrec:=fun W a=>yL r (.slice Ad r.data.length cd) Kl W hokr a
    rw [her] at hrec;unfold rcV at hrec;obtain ⟨fl,hfl0⟩:∃ fl,(cH (l.take j)).length=fl:=⟨_,rfl⟩;obtain ⟨rl,hrl0⟩:∃ rl,(recL r).1.length=rl:=⟨_,rfl⟩;rw [hrl0] at hrec hrl;rw [hfl0] at hfle ⊢;have hnext:(cH (l.take (j+1))).length=fl+rl:=by rw [hfj,zie,hfl0,hrl0]
    have HNEXT:=zia hnext;clear hnext hfl0 hrl0 hfj her hje hlt';have j1:(j:Int)<(n:Int):=by omega
    have j0:(0:Int)≤(j:Int):=by omega
    go_wp2_with fail;refine (hrec _ (hdb.alloc _)).mono ?_;rintro e w4 ⟨A4,c4',rfl,own4,hb4⟩;have hb5:=(hb.alloc hsz (.cells #[.int .i64 r.kind,.int .i64 r.lba,.int .i64 r.n,.int .i64 r.ver,.int .i64 r.zone,.int .i64 r.off,.slice Ad r.data.length cd] 117)).trans (hb4.mono (by rw [zid];omega))
    clear own4 hb4 hrec c0 c1 c2 c3 c4 c5 c6 hdb;go_wp2;go_roundw
    case rel=>exact ⟨j+1,by go_num,by omega,by rw [HNEXT.out];go_num,hb5,⟨_,rfl⟩,⟨_,rfl⟩,_,rfl⟩
    case measure=>simp [intOf];omega
  · obtain rfl:j=n:=by omega
    rw [zip (by rw [HN.out];exact zic _)]
    obtain ⟨fl,hfl0⟩:∃ fl,(cH l).length=fl:=⟨_,rfl⟩;have hr:=HRES.out;rw [hfl0] at hr ⊢;have hro:=fun gw W a b=>zc4 gw h d fl (fun b=>(K b∨wr.heap.size≤b)∧b<gw) W a b ho hn40
    obtain ⟨rm,hrm⟩:∃ rm,fS d h fl=rm:=⟨_,rfl⟩;rw [hrm] at hr hro;have HRM:=zia hrm;have HR:=zia hr;clear hfl0 hr hrm E HRES;have HKB:=zia hK;go_upto_region 13 with fail;go_cut [16] (fun x16 wx=>∃ gw,x16=.pointer (some ⟨gw,0,none⟩)∧wr.heap.size≤gw∧zfp wx gw (fun b=>(K b∨wr.heap.size≤b)∧b<gw) h d∧Below wr.heap.size wr wx)
    case first=>
     have hb0:Below wr.heap.size wr wr.drew:=(zif _ _).drew;have HK:Hid (∀ W,Below wr.heap.size wr W→(∀ o,W.cell? ⟨w.heap.size,o,none⟩=(#[.int .i64 d.cap,.int .i64 d.opn,.int .i64 d.act,.slice Az d.z.length cz]:Array Value)[o]?)∧(∀ o,W.cell? ⟨w.heap.size+1,o,none⟩=((hoS h Ao co As cs Ab cb Al cl Am cm):Array Value)[o]?)):=zia fun W hb=>⟨((F.step hb).rules m3).1,((F.step hb).rules m2).1⟩
     refine wp_region_held_drew (S:=fun W=>(∀ o,W.cell? ⟨w.heap.size,o,none⟩=(#[.int .i64 d.cap,.int .i64 d.opn,.int .i64 d.act,.slice Az d.z.length cz]:Array Value)[o]?)∧(∀ o,W.cell? ⟨w.heap.size+1,o,none⟩=((hoS h Ao co As cs Ab cb Al cl Am cm):Array Value)[o]?)) (by kernel_rfl) (HK.out _ hb0) (fun hHeld=>?_)
     have hbx:=hb0;generalize wr.drew=wx at hbx hHeld ⊢;refine wT 0 47 ?_;refine wT 2 49 ?_;refine wR 1 48 (fun K hK=>?_)
     go_simp;refine (hco _ ((F.step hbx).get m1) (fun b hb=>by have:=HKB.out b hb;have:=hbx.size;omega)).mono ?_
     have hsx:=hbx.size;rintro e wx ⟨Ao3,co3,As3,cs3,Ab3,cb3,Al3,cl3,Am3,cm3,rfl,p1,p2,p3,p4,p5,hbn⟩;replace hbx:=hbx.trans (hbn.mono hbx.size);go_wp2_with fail;refine hK.out _ _ (HK.out _ hbx) (fun hHeld=>?_)
     clear hK K;refine wT 3 50 ?_;refine wR 4 51 (fun K hK=>?_)
     obtain ⟨gw,hgw⟩:∃ gw,wx.heap.size=gw:=⟨_,rfl⟩;have hz3:=((F.step hbx).get m2).zlt;have a1:=(p1.isL (by have:=hs.own;omega)).ltFn
     have a2:=p2.ltSp;have a3:=p3.lt;have a4:=p4.ltC;have a5:=p5.ltEx;go_simp;try rw [hgw]
     refine bD (K:=K _) ?_;intro wx hby hBw;replace a1:=a1.step hby;replace a2:=a2.step hby;replace a3:=a3.step hby;replace a4:=a4.step hby;replace a5:=a5.step hby;replace hz3:=hz3.step hby;rw [hgw] at hBw hz3 a1 a2 a3 a4 a5;have hlp:wr.heap.size≤gw:=by rw [←hgw];exact hbx.size
     replace hbx:=hbx.trans (hby.mono hbx.size);clear p1 p2 p3 p4 p5 hby hgw;refine hK.out _ _ (HK.out _ hbx) (fun hHeld=>?_)
     clear hK K;refine wT 5 16 ?_;refine wpAnyH_done (by kernel_rfl) ?_ _
     go_wp2_with fail;go_meet;exact ⟨gw,rfl,hlp,⟨_,_,_,_,_,_,hBw,a1.more fun b hb=>⟨.inr (by have:=hb.1;rcases this with h1 | h1;omega;exact h1.elim),hb.2⟩,a2.more fun b hb=>⟨.inr (by have:=hb.1;omega),hb.2⟩,a3.more fun b hb=>⟨.inr (by have:=hb.1;omega),hb.2⟩,a4.more fun b hb=>⟨by rcases hb.1 with h1 | h1;exact .inr (by omega);exact .inl h1,hb.2⟩,a5.more fun b hb=>⟨.inr (by have:=hb.1;omega),hb.2⟩,hz3.more fun b hb=>⟨.inl hb.1,hb.2⟩⟩,hbx⟩
    case rest=>
     obtain ⟨gw,rfl,hlw,hWr,hb3⟩:=hcut;have hgl:gw<wc.heap.size:=by obtain ⟨_,_,_,_,_,_,hB,_⟩:=hWr;exact hB.lt
     have hlr:=(F.get m0).ltC;have hlr3:=hlr.step hb3;have G:=F.step hb3;have hKg:∀ b,((K b∨wr.heap.size≤b)∧b<gw)→b<wc.heap.size∧b≠gw:=fun b hb=>⟨by omega,by omega⟩
     have hbw:=G.below;clear hlr F hco;go_wp2_with fail;refine (hro gw _ hWr hKg).mono ?_;rintro e w5 ⟨rfl,hW5,ht5⟩;have hR1:=(G.at_ m1).turned ht5 (show ¬w.heap.size+1+1=gw by omega)
     have hR2:=(G.at_ m0).turned ht5 (show ¬w.heap.size+1+1+1=gw by omega)
     have hl5:=hlr3.turned ht5 (fun b hb e=>by have:=hb.2;omega)
     have hb5:=hbw.trans (ht5.below (fun k hk=>by omega) (by have:=hbw.size;omega))
     clear G hbw hlr3 hWr hro;cases hok:rm.2.2 with
     | false=>
       have hr:=HR.out;rw [zij hok] at hr;subst hr;clear HR;obtain ⟨q0,f0⟩:=hR1.rules;obtain ⟨q1,f1⟩:=hR2.rules;have t0:=hR1.lt;have t1:=hR2.lt;go_wp2;refine qH (K:=fun W=>bodyPost _ _ _ _ _ W) hR1 hR2 (by omega) _ _ _ _ _ _ _ _ _ _ _ _ _ _ _ _ _ _ _ ?_
       intro w7 hs7 ht7 hB7 hB8;obtain ⟨q2,f2⟩:=hB7.rules;obtain ⟨q3,f3⟩:=hB8.rules;refine zik (v:=.tuple #[.agg #[.int .i64 0,.int .i64 0,.int .i64 0,.slice none 0 0],.agg #[.int .i64 0,.slice none 0 0,.slice none 0 0,.bool false,.int .i64 0,.int .i64 0,.int .i64 0,.int .i64 0,.int .i64 0,.int .i64 0,.slice none 0 0,.slice none 0 0,.slice none 0 0,.int .i64 0,.int .i64 0],.slice none 0 0,.int .i64 64]) (by simp [results,Tryz.results37,go_sem,q2,q3]) rfl
        ⟨_,_,none,0,rfl,zin _ _ _ _,⟨⟨none,0,rfl,IsL.nil_ _ _⟩,⟨_,_,_,_,_,rfl,IsL.nil_ _ _,IsL.nil_ _ _,IsB.nil_ _ _,IsL.nil_ _ _,IsL.nil_ _ _⟩⟩,hb5.trans (ht7.below (fun k hk=>by omega) hb5.size)⟩
     | true=>
       have hr:=HR.out;rw [zig (by rw [hok];decide)] at hr
       have hro:=zgd (d:=d) (h:=h) (need:=fl) ho (by have:=hd.1.2.1;omega) hs.l
       have hrl:=zcd d h fl;rw [HRM.out] at hro hrl;have hro:=hro hok;have hpu:=fun W a b c=>zeU gw rm.2.1 rm.1 (.slice Ar j cr) l (fun b=>(((K b∨wr.heap.size≤b)∧b<gw)∨wc.heap.size≤b)∧b<w5.heap.size) (fun b=>Kl b∧b<wr.heap.size) W a b hro.1 c (by rw [HN.out];omega) (by rw [hrl];exact hn40) (by omega) (fun h0=>by
        have hne:=zhf hne HOKL.out HERR.out;unfold fX at h0 ⊢;split at h0
        · rename_i h1;exact absurd h0 h1
        · rename_i h1
          rw [zig h1];split at h0
          · exact absurd h0 (by decide)
          · rename_i h2
            rw [zig h2];intro e;exact hne (List.append_eq_nil_iff.1 e).2)
       rw [hr] at hpu;obtain ⟨rs,hrs⟩:∃ rs,res=rs:=⟨_,rfl⟩;have hsz5:=ht5.size;go_wp2_with fail;refine (hpu _ hW5.lt (fun b hb=>⟨hb.2,by rcases hb.1 with h1 | h1;exact (hKg b h1).2;omega⟩) hl5).mono ?_
       rintro e w6 ⟨Aa,ca,rfl,own6,hW6,ht6⟩;have hR1:=hR1.turned ht6 (show ¬w.heap.size+1+1=gw by omega)
       have hR2:=hR2.turned ht6 (show ¬w.heap.size+1+1+1=gw by omega)
       have hb6:=hb5.trans (ht6.below (fun k hk=>by omega) hb5.size)
       have hs56:=ht6.size;clear hW5 hpu hr HR hl5 hrs rs;obtain ⟨vo6,vs6,vb6,vl6,vm6,vz6,hB6,a1,a2,a3,a4,a5,a6⟩:=hW6;obtain ⟨Ao6,co6,rfl,-⟩:=a1.form;obtain ⟨As6,cs6,rfl,-⟩:=a2.form;obtain ⟨Ab6,cb6,rfl,-⟩:=aK a3;obtain ⟨Al6,cl6,rfl,-⟩:=a4.form;obtain ⟨Am6,cm6,rfl,-⟩:=a5.form;obtain ⟨Az6,cz6,rfl,-⟩:=a6.form;have kb:∀ b,(((((K b∨wr.heap.size≤b)∧b<gw)∨wc.heap.size≤b)∧b<w5.heap.size)∨w5.heap.size≤b)→¬(b=w.heap.size+1+1∨b=w.heap.size+1+1+1)∧(K b∨w.heap.size≤b):=fun b hb=>by
        rcases hb with ⟨h1 | h1,-⟩ | h1
        · rcases h1.1 with h2 | h2
          · have:=hK b h2;exact ⟨by omega,.inl h2⟩
          · exact ⟨by omega,.inr (by omega)⟩
        · exact ⟨by omega,.inr (by omega)⟩
        · exact ⟨by omega,.inr (by omega)⟩
       have KB:=zia kb;have HS:=zia hb5.size;clear kb hK hlt hj hfl hll hll8 hn40 hrl hro hok hKg HKB ht6 ht5 hb5;go_upto_region 17 with fail;have hb0:aA w6 w6.drew (fun b=>b=w.heap.size+1+1∨b=w.heap.size+1+1+1):=(aA.refl _ _).drew
       have HK:Hid (∀ W,aA w6 W (fun b=>b=w.heap.size+1+1∨b=w.heap.size+1+1+1)→(∀ o,W.cell? ⟨gw,o,none⟩=(wrC res.2.1 (.slice Ao6 res.2.1.own.length co6) (.slice As6 res.2.1.s.length cs6) (.slice Ab6 res.2.1.p.buf.length cb6) (.slice Al6 res.2.1.p.l.length cl6) (.slice Am6 res.2.1.m.length cm6) res.1 (.slice Az6 res.1.z.length cz6))[o]?)):=zia fun W ht=>(hB6.turned ht (by omega)).rules.1
       refine wp_region_held_drew (S:=fun W=>(∀ o,W.cell? ⟨gw,o,none⟩=(wrC res.2.1 (.slice Ao6 res.2.1.own.length co6) (.slice As6 res.2.1.s.length cs6) (.slice Ab6 res.2.1.p.buf.length cb6) (.slice Al6 res.2.1.p.l.length cl6) (.slice Am6 res.2.1.m.length cm6) res.1 (.slice Az6 res.1.z.length cz6))[o]?)) (by kernel_rfl) (HK.out _ hb0) (fun hHeld=>?_)
       replace hR1:=hR1.drew;replace hR2:=hR2.drew;have hbx:=hb0;generalize w6.drew=wx at hbx hR1 hR2 hHeld ⊢;refine wT 0 64 ?_;refine wT 1 65 ?_;refine wT 2 66 ?_;refine wT 3 67 ?_;refine wT 4 68 ?_;refine wT 5 69 ?_;refine wT 6 70 ?_;refine wT 7 71 ?_;refine wT 8 72 ?_;refine wT 9 73 ?_;refine wRn 10 (fun K hK=>?_)
       obtain ⟨q0,f0⟩:=hR1.rules;have t0:=hR1.lt;go_simp;refine dI (K:=K _) hR1 _ _ _ _ ?_;intro wx hsx htx hR1';replace hbx:=hbx.trans (htx.mono fun b hb=>.inl hb)
       replace hR2:=hR2.turned htx (show ¬w.heap.size+1+1+1=w.heap.size+1+1 by omega)
       clear q0 f0 t0 hR1 htx hsx;have hR1:=hR1';refine hK.out _ _ (HK.out _ hbx) (fun hHeld=>?_)
       clear hK K;try simp only [pu,List.set]
       refine wRn 11 (fun K hK=>?_)
       obtain ⟨q0,f0⟩:=hR2.rules;have t0:=hR2.lt;go_simp;refine eV (K:=K _) hR2 _ _ _ _ _ _ _ _ _ _ _ _ _ _ _ ?_;intro wx hsx htx hR2';replace hbx:=hbx.trans (htx.mono fun b hb=>.inr hb)
       replace hR1:=hR1.turned htx (show ¬w.heap.size+1+1=w.heap.size+1+1+1 by omega)
       clear q0 f0 t0 hR2 htx hsx;have hR2:=hR2';refine hK.out _ _ (HK.out _ hbx) (fun hHeld=>?_)
       clear hK K;refine wT 12 8 ?_;refine wT 13 9 ?_;refine wpAnyH_done (by kernel_rfl) ?_ _
       obtain ⟨q2,f2⟩:=hR1.rules;obtain ⟨q3,f3⟩:=hR2.rules;go_wp2;refine zik (v:=.tuple #[.agg #[.int .i64 res.1.cap,.int .i64 res.1.opn,.int .i64 res.1.act,.slice Az6 res.1.z.length cz6],.agg (hoS res.2.1 Ao6 co6 As6 cs6 Ab6 cb6 Al6 cl6 Am6 cm6),.slice Aa res.2.2.1.length ca,.int .i64 res.2.2.2]) (by simp [results,Tryz.results37,go_sem,q2,q3]) rfl ⟨_,_,Aa,ca,rfl,aO (gQ own6 hbx (fun b hb=>by have:=HS.out;omega)) HS.out,⟨⟨Az6,cz6,rfl,(a6.turned hbx fun b hb=>(KB.out b hb).1).more fun b hb=>(KB.out b hb).2⟩,⟨_,_,_,_,_,rfl,(a1.turned hbx fun b hb=>(KB.out b hb).1).more fun b hb=>(KB.out b hb).2,(a2.turned hbx fun b hb=>(KB.out b hb).1).more fun b hb=>(KB.out b hb).2,(a3.turned hbx fun b hb=>(KB.out b hb).1).more fun b hb=>(KB.out b hb).2,(a4.turned hbx fun b hb=>(KB.out b hb).1).more fun b hb=>(KB.out b hb).2,(a5.turned hbx fun b hb=>(KB.out b hb).1).more fun b hb=>(KB.out b hb).2⟩⟩,hb6.trans (hbx.below (fun k hk=>by omega) hb6.size)⟩
theorem zgp (g:Nat) (eg:∀ args w,(callFunc g args).run Tryz.prog w=.ok (.enter g args) w) (cap:Array Value) (p:Ex→Bool) (A:Option Addr) (c:Nat) (l:List Ex) (K:Nat→Prop) (w:World) (hv:IsL Rp.ex w K (.slice A l.length c) l)
 (hp:∀ W e,Below w.heap.size w W→e∈l→Calls Tryz.prog g (#[.agg #[.int .i64 e.lba,.int .i64 e.n,.int .i64 e.ver,.int .i64 e.zone,.int .i64 e.off]]++cap) W fun r W'=>r=.returned (.bool (p e))∧Below W.heap.size W W') :
 Calls Tryz.prog 217 #[.slice A l.length c,.func (.func g) #[] cap] w fun r w'=>r=.returned (.int .i64 (if l.findIdx p<l.length then (l.findIdx p:Int) else -1))∧Below w.heap.size w w':=by
 have hlen:=hv.len;obtain ⟨n,hn⟩:∃ n,l.length=n:=⟨_,rfl⟩;rw [hn] at hv hlen ⊢;obtain ⟨q,hq⟩:∃ q,l.findIdx p=q:=⟨_,rfl⟩;rw [hq];have HN:=zia hn;have HQ:=zia hq;obtain ⟨res,hres⟩:∃ res,(if q<n then (q:Int) else -1)=res:=⟨_,rfl⟩;rw [hres];have HRES:=zia hres;clear hn hq hres;have E:=(Kn.start w).give aB.list hv;go_enter Tryz.func217,Tryz.ntmps217
 go_wp2_with fail;go_loopw [5,8] (fun x i wr=>∃ j:Nat,i=.int .i64 j∧j≤n∧Hid (∀ k e,k<j→l[k]?=some e→p e=false)∧Below w.heap.size w wr∧(∃ y,x=y)) (fun _ i _=>n-(intOf i).toNat)
 case atStart=>exact ⟨0,rfl,zir _,zia fun k e hk=>by omega,zif _ _,_,rfl⟩
 case round=>
  obtain ⟨j,rfl,hj,HI,hb,y,rfl⟩:=hrel;have hsz:=hb.size;have F:=E.step hb;by_cases hlt:j<n
  · have hlt':j<l.length:=by rw [HN.out];exact hlt
    have hje:l[j]?=some l[j]:=zib hlt';obtain ⟨ad,rfl,-,c0,c1,c2,c3,c4⟩:=bY (F.get m0) hje;have hp1:=hp wr _ hb (ziD hlt');have HJ:=zia hje;generalize l[j]=e at HJ c0 c1 c2 c3 c4 hp1;have j1:(j:Int)<(n:Int):=by omega
    have j0:(0:Int)≤(j:Int):=by omega
    clear hje hlt';have hp2:Calls Tryz.prog g (#[.agg #[.int .i64 e.lba,.int .i64 e.n,.int .i64 e.ver,.int .i64 e.zone,.int .i64 e.off]]++cap) wr fun r W'=>r=.returned (.bool (p e))∧Below wr.heap.size wr W'∧True:=hp1.mono fun _ _ h=>⟨h.1,h.2,trivial⟩
    clear hp1;cases hfr:p e with
    | true=>
      rw [hfr] at hp2;have hpj:q=j:=by
       rw [←HQ.out,zk4 (by rw [HN.out];exact hlt)]
       have hje:=HJ.out;obtain ⟨hlt',e1⟩:=zil.1 hje;refine ⟨by rw [e1];exact hfr,fun k hk=>?_⟩
       have:=HI.out k _ hk (zib (by omega))
       rw [this]
      have hr:res=(j:Int):=by rw [←HRES.out,hpj,zij hlt]
      subst hr;clear hpj hfr;go_wp2_with (go_at_fn g;refine hp2.mono ?_;rintro x w2 ⟨rfl,hb2,-⟩;clear hp2 c0 c1 c2 c3 c4);go_ret;exact ⟨rfl,hb.trans (hb2.mono hsz)⟩
    | false=>
      rw [hfr] at hp2;have HI2:Hid (∀ k e,k<j+1→l[k]?=some e→p e=false):=zia fun k x hk hx=>by
       by_cases hkj:k=j
       · subst hkj
         rw [HJ.out] at hx;injection hx with hx;subst hx;exact hfr
       · exact HI.out k x (by omega) hx
      clear hfr;go_wp2_with (go_at_fn g;refine hp2.mono ?_;rintro x w2 ⟨rfl,hb2,-⟩;clear hp2 c0 c1 c2 c3 c4);go_roundw
      case rel=>exact ⟨j+1,by go_num,by omega,HI2,hb.trans (hb2.mono hsz),_,rfl⟩
      case measure=>simp [intOf];omega
  · have hj':j=n:=by omega
    subst hj';have hr:res = -1:=by
     rw [←HRES.out];refine zig fun hq=>?_
     rw [←HQ.out,←HN.out] at hq;have h2:p (l[l.findIdx p])=true:=zjc;have h3:=HI.out _ _ (by rw [←HN.out];exact hq) (zib hq)
     rw [h2] at h3;cases h3
    subst hr;go_wp2;go_ret;exact ⟨rfl,hb⟩
theorem pV {P:Program} (w:World) (t e:TypeId) (z:Value) (k g o n:Nat) (cur:Array Value) (te:TypeId) (ht:P.underlying t=some (.slice e)) (hv:(zeroValue e).run P w=.ok z w) (hz:z.cells.size=k)
 (h1:∀ v∈z.cells,v.oneCell'=true) (hk:0<k) (hg:w.heap[g]?=some (.cells cur te (0,0))) (hn:0<n) (hfit:o+n*k≤cur.size) :
 ∃ cs:List Value,cs.length=n*k∧∀ ty c,(Builtin.clear_ #[t] ty #[.slice (some ⟨g,o,none⟩) n c]).run P w=.ok (.tuple #[]) (w.setRow g (cur.toList.take o++cs++cur.toList.drop (o+n*k)).toArray):=by
 refine ⟨(Builtin.zeroCells z.cells n).toList,by simp [Builtin.zeroCells,hz],fun ty c=>?_⟩
 have hl:(Builtin.zeroCells z.cells n).toList.length=n*k:=by simp [Builtin.zeroCells,hz]
 have hst:=run_storeCells_at (P:=P) g o te (Builtin.zeroCells z.cells n).toList 0 cur w hg (by rw [hl];simpa using hfit) (by
  intro v hv';simp only [Builtin.zeroCells,Array.toList_map,zja] at hv';obtain ⟨i,-,rfl⟩:=hv';have hi:i % z.cells.size<z.cells.size:=Nat.mod_lt _ (by omega)
  rw [zjK z.cells _ hi];exact h1 _ (Array.getElem_mem hi))
 rw [Nat.add_zero,hl] at hst;obtain ⟨m,rfl⟩:∃ m,n=m+1:=⟨n-1,by omega⟩
 simp [Builtin.clear_,ziK ht,hv,hst]
theorem zaW {w:World} {base g:Nat} {e te:TypeId} {size n c i:Nat} {xs cs:List Value} {cur:Array Value} (h:w.ownsRow base e size (.slice (some ⟨g,0,none⟩) n c) n xs) (hg:w.heap[g]?=some (.cells cur te (0,0))) (hi:i≤n)
 (hcs:cs.length=(n-i)*size):(w.setRow g (cur.toList.take (i*size)++cs++cur.toList.drop (i*size+(n-i)*size)).toArray).ownsRow base e size (.slice (some ⟨g,0,none⟩) i c) i (xs.take (i*size)):=by
 have hm:i*size+(n-i)*size=n*size:=by rw [←zk6,Nat.add_sub_cancel' hi]
 have hle:i*size≤n*size:=zjm _ hi;refine ⟨by rw [zio,h.1,zke hle],?_⟩
 rcases h.2 with ⟨h2,_⟩ | ⟨g',cap,cur',hv,hb,hh,h3,h4,h5,h6⟩
 · cases h2
 · injection hv with e1 e2 e3
   injection e1 with e1;injection e1 with e1 _ _;subst e1 e3;rw [hg] at hh;injection hh with hh;injection hh with hh1 hh2 hh3;subst hh1 hh2;have hcl:cur.toList.length=c*size:=by simpa using h5
   have hnc:n*size≤c*size:=zjm _ h3;refine .inr ⟨g,c,_,rfl,hb,zjT w g cur _ te (0,0) hg,by omega,h4,?_,?_⟩
   · simp only [ziO,zie,zio,ziG,hcl,hcs];omega
   · rw [ziq,ziW (by rw [zio,hcl];omega),zip (by rw [zio];omega),←h6,List.take_take,zke hle]
structure xY (p:Ex→Bool) (l L:List Ex) (n i j:Nat):Prop where
 len:L.length=n
 le:i<j
 take:L.take i=(l.take j).filter (fun e=>!p e)
 drop:L.drop j=l.drop j
theorem xY.start {p:Ex→Bool} {l:List Ex} {n q:Nat} (hn:l.length=n) (hq:l.findIdx p=q) (hlt:q<n):xY p l l n q (q+1):=by
 subst hn hq;refine ⟨rfl,Nat.lt_succ_self _,?_,rfl⟩;rw [zjQ,zj8,zib hlt];have h1:p (l[l.findIdx p])=true:=zjc;simp only [Option.toList,zj9,h1,Bool.not_true,List.filter_nil,zjX,zjG,ziz];refine (zjI.2 fun e he=>?_).symm
 obtain ⟨k,hk,rfl⟩:=List.mem_iff_getElem.1 he;rw [zio] at hk;have hk2:k<l.findIdx p:=by omega
 rw [List.getElem_take,zkp hk2];rfl
theorem xY.all {p:Ex→Bool} {l:List Ex} {n q:Nat} (hn:l.length=n) (hq:l.findIdx p=q) (hlt:¬q<n):l.filter (fun e=>!p e)=l:=by
 subst hn hq;refine zjI.2 fun e he=>?_
 cases h:p e with
 | false=>rfl
 | true=>exact absurd (List.findIdx_lt_length.2 ⟨e,he,h⟩) hlt
theorem xY.at_ {p:Ex→Bool} {l L:List Ex} {n i j:Nat} (h:xY p l L n i j) (hj:j<n) (hl:l.length=n):∃ e,L[j]?=some e∧l[j]?=some e:=by
 refine ⟨l[j]'(by omega),?_,zib _⟩
 have:=zjj (fun x=>x[0]?) h.drop
 simp only [zk9,Nat.add_zero] at this;rw [this,zib (by omega)]
theorem xY.out {p:Ex→Bool} {l L:List Ex} {n i j:Nat} {e:Ex} (h:xY p l L n i j) (he:l[j]?=some e) (hp:p e=true):xY p l L n i (j+1):=by
 refine ⟨h.len,Nat.lt_succ_of_lt h.le,?_,?_⟩
 · rw [zjQ,zj8,he,h.take]
   simp [hp]
 · have:=zjj (List.drop 1) h.drop
   simpa only [zka] using this
theorem xY.stay {p:Ex→Bool} {l L:List Ex} {n i j:Nat} {e:Ex} (h:xY p l L n i j) (hj:j<n) (he:l[j]?=some e) (hp:p e=false):xY p l (L.set i e) n (i+1) (j+1):=by
 have hi:=h.le;have hl:=h.len;refine ⟨by rw [zjs];exact h.len,Nat.succ_lt_succ h.le,?_,?_⟩
 · rw [zjQ (l:=l),zj8,he,←h.take,zjQ,List.take_set_of_le (zic _),List.getElem?_set_self (by omega)]
   simp [hp]
 · have:=zjj (List.drop 1) h.drop
   rw [List.drop_set_of_lt (by omega)]
   simpa only [zka] using this
theorem tW:∀ (L:List Ex) (i:Nat) (e:Ex),i<L.length→bB (L.set i e)=(((((bB L).set (i*5) (.int .i64 e.lba)).set (i*5+1) (.int .i64 e.n)).set (i*5+2) (.int .i64 e.ver)).set (i*5+3) (.int .i64 e.zone)).set (i*5+4) (.int .i64 e.off)
 | [],_,_,h=>absurd h (Nat.not_lt_zero _)
 | x::L,0,e,_=>rfl
 | x::L,i+1,e,h=>by
   have h1:=tW L i e (by simpa using h)
   have h2:∀ (v:Value) (m:Nat) (R:List Value),((dM x)++R).set ((i+1)*5+m) v=dM x++R.set (i*5+m) v:=fun v m R=>by
    rw [zkd _ _ (by simp [dM];omega)]
    congr 2
    simp [dM];omega
   show dM x++bB (L.set i e)=_;rw [h1];show _=((((((dM x++bB L).set _ _).set _ _).set _ _).set _ _).set _ _);have h0:=h2 (.int .i64 e.lba) 0 (bB L);simp only [Nat.add_zero] at h0;rw [h0,h2,h2,h2,h2]
theorem zab (gf:Nat) (eg:∀ args w,(callFunc gf args).run Tryz.prog w=.ok (.enter gf args) w) (cap:Array Value) (p:Ex→Bool) (base c:Nat) (A:Option Addr) (l:List Ex) (w:World) (hv:w.ownsRow base 90 5 (.slice A l.length c) l.length (bB l))
 (hl47:l.length≤140737488355328) (hp:∀ W e,aA w W (fun b=>some b=(Value.slice A l.length c).ownBlock)→e∈l→Calls Tryz.prog gf (#[.agg #[.int .i64 e.lba,.int .i64 e.n,.int .i64 e.ver,.int .i64 e.zone,.int .i64 e.off]]++cap) W fun r W'=>r=.returned (.bool (p e))∧Below W.heap.size W W') :
 Calls Tryz.prog 179 #[.slice A l.length c,.func (.func gf) #[] cap] w fun r w'=>∃ l',l'=l.filter (fun e=>!p e)∧r=.returned (.slice A l'.length c)∧w'.ownsRow base 90 5 (.slice A l'.length c) l'.length (bB l')∧aA w w' (fun b=>some b=(Value.slice A l.length c).ownBlock):=by
 have hix:=zgp gf eg cap p _ c l _ w (bI hv rfl hl47) (fun W e hb he=>hp W e (aA.of hb) he)
 obtain ⟨n,hn⟩:∃ n,l.length=n:=⟨_,rfl⟩;obtain ⟨q,hq⟩:∃ q,l.findIdx p=q:=⟨_,rfl⟩;have hqn:q≤n:=by rw [←hq,←hn];exact List.findIdx_le_length
 obtain ⟨l',hl'⟩:∃ l',l.filter (fun e=>!p e)=l':=⟨_,rfl⟩
 rw [hl'];rw [hn,hq] at hix;rw [hn] at hv hl47 hp ⊢;have HN:=zia hn;have HQ:=zia hq;have HL:=zia hl';clear hn hq hl';by_cases hlt:q<n
 case neg=>
  have hqe:q=n:=by omega
  have hall:=xY.all HN.out HQ.out hlt;rw [HL.out] at hall;subst hall;rw [zig hlt] at hix;go_enter Tryz.func179,Tryz.ntmps179
  go_wp2_with (first | (refine hix.mono ?_;rintro x w1 ⟨rfl,hb1⟩;clear hix))
  go_ret;exact ⟨_,rfl,by rw [HN.out];rfl,by rw [HN.out];exact aD hv hb1 (zic _),aA.of hb1⟩
 obtain ⟨g,-,hA,-,-,-⟩:=gM hv (by omega)
 subst hA;replace hp:∀ W e,aA w W (fun b=>b=g)→e∈l→Calls Tryz.prog gf (#[.agg #[.int .i64 e.lba,.int .i64 e.n,.int .i64 e.ver,.int .i64 e.zone,.int .i64 e.off]]++cap) W fun r W'=>r=.returned (.bool (p e))∧Below W.heap.size W W':=fun W e ht he=>hp W e (ht.mono fun k hk=>by rw [hk];rfl) he
 refine Calls.mono (R:=fun r w'=>∃ l'',l''=l'∧r=.returned (.slice (some ⟨g,0,none⟩) l''.length c)∧w'.ownsRow base 90 5 (.slice (some ⟨g,0,none⟩) l''.length c) l''.length (bB l'')∧aA w w' (fun b=>b=g)) ?_ ?_
 case refine_2=>
  rintro r w' ⟨l'',h1,h2,h3,h4⟩;exact ⟨l'',h1,h2,h3,h4.mono fun k hk=>by rw [hk];rfl⟩
 go_enter Tryz.func179,Tryz.ntmps179
 · rw [zij hlt] at hix
   go_wp2_with (first | (refine hix.mono ?_;rintro x w1 ⟨rfl,hb1⟩;clear hix))
   have hv1:=aD hv hb1 (zic _);have hD:=xY.start HN.out HQ.out hlt;have ht1:aA w w1 (fun b=>b=g):=aA.of hb1
   clear hv;have hq1:((q:Int) == -1)=false:=ziN.2 (by omega)
   rw [hq1];clear hq1;go_loopw [5,6] (fun x y wr=>∃ i j:Nat,x=.int .i64 i∧y=.int .i64 j∧j≤n∧∃ L,Hid (xY p l L n i j)∧wr.ownsRow base 90 5 (.slice (some ⟨g,0,none⟩) n c) n (bB L)∧aA w wr (fun b=>b=g)) (fun _ y _=>n-(intOf y).toNat)
   case atStart=>exact ⟨q,q+1,rfl,rfl,hlt,l,zia hD,hv1,ht1⟩
   case round=>
    obtain ⟨i,j,rfl,rfl,hj,L,HD,hvr,htr⟩:=hrel;by_cases hlt2:j<n
    · obtain ⟨e,hLe,hle⟩:=HD.out.at_ hlt2 HN.out
      have hIL:=bI hvr HD.out.len hl47;obtain ⟨ad,had,-,c0,c1,c2,c3,c4⟩:=bY hIL hLe;injection had with had;subst had;have hadd:(⟨g,0,none⟩:Addr).add (j*5)=⟨g,j*5,none⟩:=by unfold Addr.add;split <;> simp_all
      rw [hadd] at c0 c1 c2 c3 c4;clear hadd;replace c1:wr.cell? ⟨g,j*5+1,none⟩=_:=c1;replace c2:wr.cell? ⟨g,j*5+2,none⟩=_:=c2;replace c3:wr.cell? ⟨g,j*5+3,none⟩=_:=c3;replace c4:wr.cell? ⟨g,j*5+4,none⟩=_:=c4;have j1:(j:Int)<(n:Int):=by omega
      have j0:(0:Int)≤(j:Int):=by omega
      have hp1:=fun W ht=>hp W e ht (zix hle)
      go_wp2_with fail;refine (hp1 _ (htr.alloc _)).mono ?_;rintro x w3 ⟨rfl,hb3⟩;have hbB:Below wr.heap.size wr w3:=(zBA).trans (hb3.mono (by rw [zid];omega))
      have hBv:=(Blk.new wr 90 #[.int .i64 e.lba,.int .i64 e.n,.int .i64 e.ver,.int .i64 e.zone,.int .i64 e.off] rfl).step hb3;have ht3:aA w w3 (fun b=>b=g):=htr.step hbB
      have own3:=aD hvr hbB (zic _);clear c0 c1 c2 c3 c4 hp1 hb3 hIL hvr htr;cases hpe:p e with
      | true=>
        have HD2:Hid (xY p l L n i (j+1)):=zia (HD.out.out hle hpe);clear hLe hle hpe hBv;go_wp2;go_roundw
        case rel=>exact ⟨i,j+1,rfl,by go_num,by omega,L,HD2,own3,ht3⟩
        case measure=>simp [intOf];omega
      | false=>
        have hile:i<n:=by have:=HD.out.le;omega
        have HD2:Hid (xY p l (L.set i e) n (i+1) (j+1)):=zia (HD.out.stay hlt2 hle hpe);have hX:=tW L i e (by rw [HD.out.len];omega)
        have HX:=zia hX;obtain ⟨g',cur,hA,-,hB3,hcur⟩:=gM own3 (by omega)
        injection hA with hA;injection hA with hA;subst hA;have hcl:∀ k,k<5→∃ u,w3.cell? ⟨g,i*5+k,none⟩=some u:=fun k hk=>by
         have h5:i*5+k<(bB L).length:=by rw [eH,HD.out.len];omega
         exact ⟨_,(hB3.cell _).trans (hcur _ _ (zib h5))⟩
        obtain ⟨u0,e0⟩:=hcl 0 (by omega)
        obtain ⟨u1,e1⟩:=hcl 1 (by omega)
        obtain ⟨u2,e2⟩:=hcl 2 (by omega)
        obtain ⟨u3,e3⟩:=hcl 3 (by omega)
        obtain ⟨u4,e4⟩:=hcl 4 (by omega)
        rw [Nat.add_zero] at e0;have f0:=hB3.frozen;obtain ⟨b0,b1⟩:=hBv.rules;have i1:(i:Int)<(n:Int):=by omega
        have i0:(0:Int)≤(i:Int):=by omega
        clear hLe hle hpe hcur hX hcl hBv hB3;go_wp2_with fail;go_roundw
        case rel=>
         refine ⟨i+1,j+1,by go_num,by go_num,by omega,L.set i e,HD2,?_,?_⟩
         · rw [HX.out]
           exact gV (gV (gV (gV (gV own3 _ _) _ _) _ _) _ _) _ _
         · exact ((((ht3.set rfl _ _).set rfl _ _).set rfl _ _).set rfl _ _).set rfl _ _
        case measure=>simp [intOf];omega
    · have hjn:j=n:=by omega
      have hile:i<n:=by have:=HD.out.le;omega
      have hli:L.take i=l':=by rw [HD.out.take,hjn,←HN.out,ziQ];exact HL.out
      have hil:l'.length=i:=by rw [←hli,zio,HD.out.len];omega
      obtain ⟨g',cur,hA,-,hB3,-⟩:=gM hvr (by omega)
      injection hA with hA;injection hA with hA;subst hA;have hcs:cur.size=c*5:=by
       rcases hvr.2 with ⟨h2,_⟩ | ⟨g',cap,cur',hv,hb,hh,h3,h4,h5,h6⟩
       · cases h2
       · injection hv with e1 e2 e3
         injection e1 with e1;injection e1 with e1 _ _;subst e1 e3;have hB4:wr.heap[g]?=_:=hB3;rw [hB4] at hh;injection hh with hh;injection hh with hh1 hh2 hh3;subst hh1;exact h5
      have hnc:=cD hvr;obtain ⟨cs,hcl,hcr⟩:∃ cs:List Value,cs.length=(n-i)*5∧∀ ty c',(Builtin.clear_ #[35] ty #[.slice (some ⟨g,i*5,none⟩) (n-i) c']).run Tryz.prog wr=.ok (.tuple #[]) (wr.setRow g (cur.toList.take (i*5)++cs++cur.toList.drop (i*5+(n-i)*5)).toArray):=by
       exact pV (P:=Tryz.prog) wr 35 90 (.agg #[.int .i64 0,.int .i64 0,.int .i64 0,.int .i64 0,.int .i64 0]) 5 g (i*5) (n-i) cur _ rfl rfl rfl (by decide) (by omega) hB3 (by omega) (by omega)
      have hown:=zaW hvr hB3 (Nat.le_of_lt hile) hcl;have hset:=aT hB3 (cs':=(cur.toList.take (i*5)++cs++cur.toList.drop (i*5+(n-i)*5)).toArray);generalize wr.setRow g (cur.toList.take (i*5)++cs++cur.toList.drop (i*5+(n-i)*5)).toArray=w9 at hcr hown hset;rw [tS (by rw [HD.out.len];omega),hli] at hown
      go_wp2_with fail;go_ret;exact ⟨rfl,hown,htr.trans hset.2.1⟩
