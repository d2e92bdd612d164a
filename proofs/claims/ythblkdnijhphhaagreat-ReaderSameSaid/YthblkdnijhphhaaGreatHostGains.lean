/- A part of the proof. -/
import Derived.Test.YthblkdnijhphhaaGreatHostDef
set_option maxHeartbeats 8000000
set_option maxRecDepth 100000
namespace Go.Proofs.YthblkdnijhphhaaGreat
open Go.RowKit
theorem IsL.ltSp {w:World} {K:Nat→Prop} {v:Value} {l:List Sp} (h:IsL Rp.sp w K v l):IsL Rp.sp w (fun b=>K b∧b<w.heap.size) v l:=IsL.ltG (fun _ _ h=>h) (by decide) h
theorem IsL.ltFn {w:World} {K:Nat→Prop} {v:Value} {l:List Fn} (h:IsL Rp.fn w K v l):IsL Rp.fn w (fun b=>K b∧b<w.heap.size) v l:=IsL.ltG (fun _ _ h=>h) (by decide) h
theorem IsL.ltEx {w:World} {K:Nat→Prop} {v:Value} {l:List Ex} (h:IsL Rp.ex w K v l):IsL Rp.ex w (fun b=>K b∧b<w.heap.size) v l:=IsL.ltG (fun _ _ h=>h) (by decide) h
theorem znH (l:List Fn) (k:Nat):(l.flatMap fnCs).take (k*3)=(l.take k).flatMap fnCs∧(l.flatMap fnCs).drop (k*3)=(l.drop k).flatMap fnCs:=by
 have h:za8 Rp.fn default (fun _=>True) (l.flatMap fnCs) l:=zaW.2 rfl
 exact ⟨zaW.1 (h.take k),zaW.1 (h.drop k)⟩
theorem ziK (s:Fn):∀ u∈fnCs s,u.oneCell'=true:=by
 intro u hu;simp only [fnCs,List.mem_cons,List.not_mem_nil,or_false] at hu;rcases hu with rfl | rfl | rfl <;> rfl
theorem zoc (l:List Fn):∀ u∈l.flatMap fnCs,u.oneCell'=true:=by
 intro u hu;obtain ⟨s,_,hs⟩:=List.mem_flatMap.1 hu;exact ziK s u hs
theorem zp4 {l:List Fn} {i:Nat} {f:Fn} (h:l[i]?=some f) (e:Int):(l.flatMap fnCs).set (i*3+2) (.int .i64 e)=(l.set i ⟨f.zone,f.host,e⟩).flatMap fnCs:=by
 induction l generalizing i with
 | nil=>simp at h
 | cons x l ih=>
   cases i with
   | zero=>
     simp only [List.getElem?_cons_zero,Option.some.injEq] at h;subst h;simp [fnCs]
   | succ i=>
     have:=ih (by simpa using h)
     simp only [List.flatMap_cons,List.set_cons_succ,←this];have e1:(i+1)*3+2=(i*3+2)+(fnCs x).length:=by simp [fnCs];omega
     rw [e1,List.set_append_right _ _ (by omega)]
     simp
theorem zoV {l:List Fn} {i:Nat} {f:Fn} (h:l[i]?=some f):(l.flatMap fnCs)[i*3+2]?=some (.int .i64 f.epoch):=by
 induction l generalizing i with
 | nil=>simp at h
 | cons x l ih=>
   cases i with
   | zero=>
     simp only [List.getElem?_cons_zero,Option.some.injEq] at h;subst h;simp [fnCs]
   | succ i=>
     have e1:(i+1)*3+2=(fnCs x).length+(i*3+2):=by simp [fnCs];omega
     rw [List.flatMap_cons,e1,List.getElem?_append_right (by omega),Nat.add_sub_cancel_left]
     exact ih (by simpa using h)
def insF (l:List Fn) (z id:Int):List Fn:=if hasF l z=true then l else l.take (posF l z)++[⟨z,id,0⟩]++l.drop (posF l z)
theorem zi3 (l:List Fn) (z:Int):posF l z≤l.length:=List.findIdx_le_length
theorem znC (l:List Fn) (z id:Int):∃ f,(insF l z id)[posF l z]?=some f∧f.zone=z∧∀ ep,putF l z id ep=(insF l z id).set (posF l z) ⟨z,f.host,ep⟩:=by
 have hle:=zi3 l z;unfold insF putF;by_cases h:hasF l z=true
 · simp only [h,if_true]
   unfold hasF at h;cases hg:l[posF l z]? with
   | none=>rw [hg] at h;cases h
   | some e=>
     rw [hg] at h;simp only [decide_eq_true_eq] at h;exact ⟨e,rfl,h,fun ep=>by rw [List.getD_eq_getElem?_getD,hg];rfl⟩
 · simp only [h,if_false,Bool.false_eq_true]
   have hl:(l.take (posF l z)).length=posF l z:=by rw [List.length_take];omega
   refine ⟨⟨z,id,0⟩,?_,rfl,fun ep=>?_⟩
   · rw [List.append_assoc,List.getElem?_append_right (by omega),hl];simp
   · rw [List.append_assoc,List.append_assoc,List.set_append_right _ _ (by omega),hl];simp
theorem zn7 (l:List Fn) (z id:Int):(insF l z id).length≤l.length+1:=by
 unfold insF;split
 · omega
 · have:=zi3 l z
   simp only [List.length_append,List.length_take,List.length_drop,List.length_singleton];omega
theorem zkZ (h:Ho) (v:Value) (z ep:Int) (K:Nat→Prop) (w:World) (hv:IsHo w K v h) (hK:∀ b,K b→b<w.heap.size) (hs:zbm h) (hz:0≤z) (hep:1≤ep) (hso:h.own.Pairwise (fun a b=>a.zone<b.zone)) (hol:h.own.length≤400000) :
 Calls Tryz.prog 21 #[v,.int .i64 z,.int .i64 ep] w fun e w'=>∃ v',e=.returned (.tuple #[v',.int .i64 0])∧IsHo w' (fun b=>w.heap.size≤b∨K b) v' (zhY h z ep)∧Below w.heap.size w w':=by
 have hco:=fun W hW hKW=>zeg h v K W hW hKW hs
 have hv0:=hv;obtain ⟨vo,vs,vb,vl,vm,rfl,h1,h2,h3,h4,h5⟩:=hv;obtain ⟨Ao,co,rfl,-⟩:=h1.form;obtain ⟨As,cs,rfl,-⟩:=h2.form;obtain ⟨Ab,cb,rfl,-⟩:=zab h3;obtain ⟨Al,cl,rfl,-⟩:=h4.form;obtain ⟨Am,cm,rfl,-⟩:=h5.form;have E:=(Kn.start w).give za1.ho hv0 |>.push 38 (hoS h Ao co As cs Ab cb Al cl Am cm) |>.push 38 #[.int .i64 0,.slice none 0 0,.slice none 0 0,.bool false,.int .i64 0,.int .i64 0,.int .i64 0,.int .i64 0,.int .i64 0,.int .i64 0,.slice none 0 0,.slice none 0 0,.slice none 0 0,.int .i64 0,.int .i64 0]
 rw [World.size_alloc] at E;clear h1 h2 h3 h4 h5 hv0;obtain ⟨f,hf1,hf2,hf3⟩:=znC h.own z h.id;have hil:=zn7 h.own z h.id;have hpl:=zi3 h.own z;have hlen3:(insF h.own z h.id).length=if hasF h.own z=true then h.own.length else h.own.length+1:=by
  unfold insF;split
  · rfl
  · simp only [List.length_append,List.length_take,List.length_drop,List.length_singleton];omega
 have hfl:=znH h.own (posF h.own z);have hins:hasF h.own z=false→(h.own.take (posF h.own z)).flatMap fnCs++fnCs ⟨z,h.id,0⟩++(h.own.drop (posF h.own z)).flatMap fnCs=(insF h.own z h.id).flatMap fnCs:=fun e=>by
  unfold insF;rw [if_neg (by rw [e];decide),List.flatMap_append,List.flatMap_append]
  simp
 have hins2:hasF h.own z=true→insF h.own z h.id=h.own:=fun e=>by unfold insF;rw [if_pos e]
 have hbs:=fun A c W hW=>zo9 A c h.own z (fun b=>w.heap.size+1≤b) W hW hso
 have hinF:=fun A c vb B W ho hv hne hb=>zi2 (posF h.own z) A h.own.length c vb B (h.own.flatMap fnCs) (fnCs ⟨z,h.id,0⟩) W ho (zoc _) hv rfl (ziK _) hne hpl (by omega) hb
 rw [hfl.1,hfl.2] at hinF;obtain ⟨i,hi⟩:∃ i,posF h.own z=i:=⟨_,rfl⟩;obtain ⟨had,hhd⟩:∃ had,hasF h.own z=had:=⟨_,rfl⟩;obtain ⟨nf,hnf⟩:∃ nf,insF h.own z h.id=nf:=⟨_,rfl⟩;rw [hi] at hf1 hf3 hpl hbs hinF hins;rw [hhd] at hbs hlen3 hins hins2;rw [hnf] at hf1 hf3 hil hlen3 hins hins2;have hgr:zhY h z ep=if h.opn=true∧h.p.zone=z then zcE ⟨h.id,nf.set i ⟨z,f.host,ep⟩,h.s,h.opn,h.p,h.m,h.ver,h.seq⟩ else ⟨h.id,nf.set i ⟨z,f.host,ep⟩,h.s,h.opn,h.p,h.m,h.ver,h.seq⟩:=by unfold zhY;rw [hf3]
 obtain ⟨res,hres⟩:∃ res,zhY h z ep=res:=⟨_,rfl⟩;rw [hres] at hgr ⊢;have hi0:i<nf.length:=(List.getElem?_eq_some_iff.1 hf1).1;have HF1:=Lib.hid hf1;have HINS:=Lib.hid hins;have HINS2:=Lib.hid hins2;have HGR:=Lib.hid hgr;have HLEN:=Lib.hid hlen3;have HF2:=Lib.hid hf2;have HI0:=Lib.hid hi0;have HPL:=Lib.hid hpl;have hownl:=hs.own;clear hf1 hf2 hf3 hins hins2 hgr hlen3 hfl hres hnf hhd hi hso hi0 hpl;go_enter Tryz.func21,Tryz.ntmps21
 go_wp2_with fail;generalize (w.alloc (.cells (hoS h Ao co As cs Ab cb Al cl Am cm) 38)).alloc (.cells #[.int .i64 0,.slice none 0 0,.slice none 0 0,.bool false,.int .i64 0,.int .i64 0,.int .i64 0,.int .i64 0,.int .i64 0,.int .i64 0,.slice none 0 0,.slice none 0 0,.slice none 0 0,.int .i64 0,.int .i64 0] 38)=w1 at E ⊢;refine (hco _ (E.get m0) (fun b hb=>by have:=hK b hb;have:=(E.at_ m0).lt;omega)).mono ?_
 rintro e w2 ⟨Ao2,co2,As2,cs2,Ab2,cb2,Al2,cl2,Am2,cm2,rfl,hown,hsp,hbf,hrc,hex,hb2⟩;clear hco;have hg1:w.heap.size+1<w1.heap.size:=(E.at_ m0).lt;replace E:=E.step hb2;obtain ⟨q0,f0,t0⟩:=E.rules m1;go_upto_region 4 with fail;refine zbA (K:=fun W=>Code.wp _ _ _ _ W) (E.at_ m1) _ _ _ _ _ _ _ _ _ _ _ _ _ _ _ ?_
 intro w3 hs3 ht3 hB3;have hb3:=za0.upon E.below ht3 (Nat.le_refl _) (Nat.le_refl _);obtain ⟨Ao2',co2',xo,e1,ow,hxo⟩:=hown;injection e1 with e1 _ e2;subst e1 e2;have o3:=za7 ow ht3 (by omega)
 have hsp3:=hsp.turned ht3 (fun b hb e=>by have:=hb.1;omega)
 have hbf3:=hbf.turned ht3 (fun b hb e=>by have:=hb.1;omega)
 have hrc3:=hrc.turned ht3 (fun b hb e=>by rcases hb with hb | hb;have:=hb.1;omega;have:=hK b hb;omega)
 have hex3:=hex.turned ht3 (fun b hb e=>by have:=hb.1;omega)
 have hBz:=(E.at_ m0).turned ht3 (show ¬w.heap.size+1=w.heap.size by omega)
 have hs2:=hb2.size;clear E q0 f0 t0 ht3 hsp hbf hrc hex ow hb2;have hxo':xo=h.own.flatMap fnCs:=zaW.1 hxo;have hoW:OwnL Rp.fn w3 w1.heap.size 130 (fun _=>False) (.slice Ao2 h.own.length co2) h.own:=⟨Ao2,co2,xo,rfl,o3,zaW.2 hxo'⟩
 have hoL:IsL Rp.fn w3 (fun b=>w.heap.size+1≤b) (.slice Ao2 h.own.length co2) h.own:=(hoW.isL (by have:=hs.own;omega)).more fun b hb=>by rcases hb with hb | hb;omega;exact hb.elim
 clear hoW;rw [hxo'] at o3;clear hxo hxo';obtain ⟨q0,f0⟩:=hB3.rules;have t0:=hB3.lt;go_wp2_with fail;refine (hbs _ _ _ hoL).mono ?_;rintro e w4 ⟨rfl,hb4⟩;have hB4:=hB3.step hb4;have o4:=za4 o3 hb4 (Nat.le_refl _);have hs4:=hb4.size;clear hbs hoL q0 f0 t0;obtain ⟨q0,f0⟩:=hB4.rules;have t0:=hB4.lt;go_upto_if 27 with fail
 have hgw:w.heap.size<w1.heap.size:=by omega
 go_cut [9] (fun x9 wx=>(∃ y,x9=y)∧∃ (g5 n5 c5:Nat),Blk wx w.heap.size 38 (hoC h (.slice (some ⟨g5,0,none⟩) n5 c5) (.slice As2 h.s.length cs2) (.slice Ab2 h.p.buf.length cb2) (.slice Al2 h.p.l.length cl2) (.slice Am2 h.m.length cm2))∧Hid (nf.length=n5)∧wx.ownsRow w1.heap.size 130 3 (.slice (some ⟨g5,0,none⟩) n5 c5) n5 (nf.flatMap fnCs) ∧
  ((Value.slice Ao2 h.own.length co2).ownBlock=some g5∨w4.heap.size≤g5)∧za0 w4 wx (fun b=>b=w.heap.size∨(Value.slice Ao2 h.own.length co2).ownBlock=some b))
 case first=>
  cases hc:had with
  | true=>
    rw [hc] at HINS2;have he:=HINS2.out rfl;have hl0:0<h.own.length:=by have:=HI0.out;rw [he] at this;omega
    obtain ⟨g5,cur,e5,-,-,-⟩:=zch o4 hl0;subst e5;have HE:=Lib.hid he;clear he hl0;go_wp2;go_meet;have he:=HE.out;exact ⟨⟨_,rfl⟩,g5,h.own.length,co2,hB4,Lib.hid (by rw [he]),by rw [he];exact o4,.inl rfl,za0.refl _ _⟩
  | false=>
    rw [hc] at HINS HLEN;have hvb:Blk (w4.alloc (.cells #[.int .i64 z,.int .i64 h.id,.int .i64 0] 130)) w4.heap.size 130 (fnCs ⟨z,h.id,0⟩).toArray:=Blk.new _ _ _ rfl;have hol4:=o4.lt;have hs5:w1.heap.size≤w4.heap.size:=by omega
    go_wp2_with fail;refine (hinF _ _ _ _ _ (o4.alloc _) hvb (fun e=>by have:=(hol4 _ e.symm).2;omega) (by rw [World.size_alloc];omega)).mono ?_
    rintro e w5 ⟨A5,c5,rfl,own5,-,ht5,hl5⟩;rw [HINS.out (by first | rfl | trivial)] at own5
    have ht45:za0 w4 w5 (fun b=>(Value.slice Ao2 h.own.length co2).ownBlock=some b):=((za0.refl _ _).alloc _).trans ht5
    have hB5:=hB4.turned ht45 (fun e=>by have:=(hol4 _ e).1;omega)
    obtain ⟨g5,cur,e5,-,-,-⟩:=zch own5 (Nat.succ_pos _);subst e5;clear ht5 hvb hinF q0 f0 t0;obtain ⟨q1,f1⟩:=hB5.rules;have t1:=hB5.lt;go_wp2;go_meet;refine ⟨⟨_,rfl⟩,g5,h.own.length+1,c5,hB5.set_ 1 _,Lib.hid (by rw [HLEN.out];rfl),za7 own5 ((za0.refl _ (fun b=>b=w.heap.size)).set (g:=w.heap.size) rfl 1 _) hgw,?_,(ht45.mono fun b hb=>.inr hb).set (g:=w.heap.size) (.inl rfl) 1 _⟩
    rcases hl5 g5 rfl with h1 | h1
    · exact .inl h1
    · exact .inr (by rw [World.size_alloc] at h1;omega)
 case rest=>
  obtain ⟨⟨y9,rfl⟩,g5,n5,c5,hB5,HN5,own5,hg5,ht45⟩:=hcut;have hol4:=o4.lt;have hn5:i<n5:=by rw [←HN5.out];exact HI0.out
  have hs5:=ht45.size;have hs14:w1.heap.size≤w4.heap.size:=by omega
  have kk:∀ b,(w1.heap.size≤b∧(Value.slice Ao2 h.own.length co2).ownBlock≠some b)→¬(b=w.heap.size∨(Value.slice Ao2 h.own.length co2).ownBlock=some b):=fun b hb e=>by rcases e with e | e;(have:=hb.1;omega);exact hb.2 e
  have kr:∀ b,((w1.heap.size≤b∧(Value.slice Ao2 h.own.length co2).ownBlock≠some b)∨K b)→¬(b=w.heap.size∨(Value.slice Ao2 h.own.length co2).ownBlock=some b):=fun b hb e=>by
   rcases hb with hb | hb
   · exact kk b hb e
   · have:=hK b hb
     rcases e with e | e
     · omega
     · have:=(hol4 b e).1;omega
  have hsp5:=(hsp3.step hb4).ltSp.turned ht45 fun b hb=>kk b hb.1
  have hbf5:=(hbf3.step hb4).lt.turned ht45 fun b hb=>kk b hb.1
  have hrc5:=(hrc3.step hb4).ltC.turned ht45 fun b hb=>kr b hb.1
  have hex5:=(hex3.step hb4).ltEx.turned ht45 fun b hb=>kk b hb.1
  have hBz5:=(hBz.step hb4).turned ht45 (fun e=>by rcases e with e | e;omega;have:=(hol4 _ e).1;omega)
  have hb05:Below w.heap.size w wc:=(hb3.trans (hb4.mono hb3.size)).trans (ht45.below (fun k hk=>by rcases hk with hk | hk;omega;have:=(hol4 _ hk).1;omega) (by omega))
  have hl5:w1.heap.size≤g5:=by rcases hg5 with hg5 | hg5;exact (hol4 _ hg5).1;omega
  have kg:∀ b,(w1.heap.size≤b∧(Value.slice Ao2 h.own.length co2).ownBlock≠some b)→b<w4.heap.size→b≠g5:=fun b hb h4 e=>by rcases hg5 with hg5 | hg5;exact hb.2 (by rw [e];exact hg5);omega
  clear hsp3 hbf3 hrc3 hex3 hBz hB4 o3 o4 hb4 hB3 hinF ht45;obtain ⟨ad,hadE,hadd⟩:∃ ad:Addr,(⟨g5,0,none⟩:Addr)=ad∧∀ o,ad.add o=⟨g5,o,none⟩:=⟨_,rfl,fun o=>by unfold Addr.add;split <;> simp_all⟩
  obtain ⟨_,cur,eg,-,hBr,hcur⟩:=zch own5 (by omega)
  injection eg with eg;injection eg with eg;subst eg;obtain ⟨q1,f1⟩:=hB5.rules;have t1:=hB5.lt;obtain ⟨q2,f2⟩:=hBr.rules;have t2:=hBr.lt;have i0:(0:Int)≤(i:Int):=by omega
  have i1:(i:Int)<(n5:Int):=by omega
  have hcc:=hcur _ _ (zoV HF1.out);go_upto_region 8 with fail;have own6:=zcq own5 (i*3+2) (.int .i64 ep);rw [zp4 HF1.out,HF2.out] at own6;have hnl:(nf.set i ⟨z,f.host,ep⟩).length=n5:=by rw [List.length_set];exact HN5.out
  have ht6:za0 wc (wc.setCell ⟨g5,i*3+2,none⟩ (.int .i64 ep)) (fun b=>b=g5):=(za0.refl _ (fun b=>b=g5)).set (g:=g5) rfl _ _
  have hB6:=hB5.turned ht6 (show ¬w.heap.size=g5 by omega)
  have hBz6:=hBz5.turned ht6 (show ¬w.heap.size+1=g5 by omega)
  generalize wc.setCell ⟨g5,i*3+2,none⟩ (.int .i64 ep)=w6 at own6 ht6 hB6 hBz6 ⊢;have kg2:∀ b,((w1.heap.size≤b∧(Value.slice Ao2 h.own.length co2).ownBlock≠some b)∨K b)∧b<w4.heap.size→b≠g5:=fun b hb e=>by
   rcases hb.1 with h1 | h1
   · exact kg b h1 hb.2 e
   · have:=hK b h1;omega
  have hs6:=ht6.size;have hsp6:=(hsp5.turned ht6 fun b hb=>kg b hb.1 hb.2).more (K':=fun b=>w1.heap.size≤b∨K b) fun b hb=>.inl hb.1.1
  have hbf6:=(hbf5.turned ht6 fun b hb=>kg b hb.1 hb.2).more (K':=fun b=>w1.heap.size≤b∨K b) fun b hb=>.inl hb.1.1
  have hex6:=(hex5.turned ht6 fun b hb=>kg b hb.1 hb.2).more (K':=fun b=>w1.heap.size≤b∨K b) fun b hb=>.inl hb.1.1
  have hrc6:=(hrc5.turned ht6 fun b hb=>kg2 b hb).more (K':=fun b=>w1.heap.size≤b∨K b) fun b hb=>hb.1.imp (fun h=>h.1) id
  have hoW:OwnL Rp.fn w6 w1.heap.size 130 (fun _=>False) (.slice (some ⟨g5,0,none⟩) (nf.set i ⟨z,f.host,ep⟩).length c5) (nf.set i ⟨z,f.host,ep⟩):=⟨_,_,_,rfl,by rw [hnl];exact own6,zaW.2 rfl⟩
  have hfn6:IsL Rp.fn w6 (fun b=>w1.heap.size≤b∨K b) (.slice (some ⟨g5,0,none⟩) n5 c5) (nf.set i ⟨z,f.host,ep⟩):=by
   have:=(hoW.isL (by rw [hnl];have:=HN5.out;omega)).more (K':=fun b=>w1.heap.size≤b∨K b) fun b hb=>hb.imp id (fun h=>h.elim)
   rwa [hnl] at this
  have hb06:Below w.heap.size w w6:=hb05.trans (ht6.below (fun k hk=>by omega) hb05.size)
  clear hsp5 hbf5 hrc5 hex5 hoW own5 own6 ht6 hB5 hBz5 q1 f1 t1 q2 f2 t2 hcc hcur hBr hb05 kk kr kg kg2 hol4 hadd hadE;obtain ⟨nf6,hnf6⟩:∃ x,nf.set i ⟨z,f.host,ep⟩=x:=⟨_,rfl⟩;rw [hnf6] at hfn6 hnl HGR;obtain ⟨h6,hh6⟩:∃ x:Ho,(⟨h.id,nf6,h.s,h.opn,h.p,h.m,h.ver,h.seq⟩:Ho)=x:=⟨_,rfl⟩;rw [hh6] at HGR;have hho:IsHo w6 (fun b=>w1.heap.size≤b∨K b) (.agg (hoC h6 (.slice (some ⟨g5,0,none⟩) n5 c5) (.slice As2 h.s.length cs2) (.slice Ab2 h.p.buf.length cb2) (.slice Al2 h.p.l.length cl2) (.slice Am2 h.m.length cm2))) h6:=by
   subst hh6;exact ⟨_,_,_,_,_,rfl,hfn6,hsp6,hbf6,hrc6,hex6⟩
  have hB6':Blk w6 w.heap.size 38 (hoC h6 (.slice (some ⟨g5,0,none⟩) n5 c5) (.slice As2 h.s.length cs2) (.slice Ab2 h.p.buf.length cb2) (.slice Al2 h.p.l.length cl2) (.slice Am2 h.m.length cm2)):=by subst hh6;exact hB6
  have hop:h6.opn=h.opn∧h6.p.zone=h.p.zone:=by subst hh6;exact ⟨rfl,rfl⟩
  rw [←hop.1,←hop.2] at HGR;clear hfn6 hsp6 hbf6 hrc6 hex6 hnl hnf6 hh6 hB6 hop;have E:=((Kn.start w6).know hB6').know hBz6 |>.give za1.ho hho
  obtain ⟨q1,f1,t1⟩:=E.rules m1;obtain ⟨clo,hcl⟩:∃ clo,(h6.opn && decide (h6.p.zone=z))=clo:=⟨_,rfl⟩;have hg7:if clo then res=zcE h6 else res=h6:=by
   rw [←hcl,HGR.out];by_cases hx:h6.opn=true∧h6.p.zone=z
   · simp [hx.1,hx.2]
   · rw [if_neg hx]
     by_cases h1:h6.opn=true
     · have h2:¬h6.p.zone=z:=fun h2=>hx ⟨h1,h2⟩
       simp [h1,h2]
     · simp [h1]
  have HG7:=Lib.hid hg7;have hs61:w.heap.size+1<w1.heap.size:=hg1;have h16:w1.heap.size≤w6.heap.size:=by omega
  clear hg7;have HCL:=Lib.hid hcl;clear hcl;go_cut [52] (fun x52 wx=>x52=.bool clo∧wx=w6)
  case first=>
   cases hop:h6.opn with
   | false=>
     have e:=HCL.out;rw [hop] at e;unfold hoC at q1;rw [hop] at q1;have HE:=Lib.hid e;clear e;go_wp2;go_meet;exact ⟨by rw [←HE.out];rfl,rfl⟩
   | true=>
     have e:=HCL.out;rw [hop] at e;unfold hoC at q1;rw [hop] at q1;have HE:=Lib.hid e;clear e;go_wp2;go_meet;exact ⟨by rw [←HE.out,Bool.true_and];rfl,rfl⟩
  case rest=>
   obtain ⟨rfl,rfl⟩:=hcut;go_upto_if 52 with fail
   go_cut [] (fun wx=>∃ vo vs vb vl vm,Blk wx w.heap.size 38 (hoC res vo vs vb vl vm)∧IsHo wx (fun b=>w1.heap.size≤b∨K b) (.agg (hoC res vo vs vb vl vm)) res∧Blk wx (w.heap.size+1) 38 #[.int .i64 0,.slice none 0 0,.slice none 0 0,.bool false,.int .i64 0,.int .i64 0,.int .i64 0,.int .i64 0,.int .i64 0,.int .i64 0,.slice none 0 0,.slice none 0 0,.slice none 0 0,.int .i64 0,.int .i64 0]∧Below w.heap.size w wx)
   case first=>
    cases hcc:clo with
    | false=>
      rw [hcc] at HG7;have e:res=h6:=HG7.out;subst e;go_wp2;go_meet;exact ⟨_,_,_,_,_,hB6',hho,hBz6,hb06⟩
    | true=>
      rw [hcc] at HG7;have e:res=zcE h6:=HG7.out;have HE:=Lib.hid e;clear e;go_wp2_with fail;refine (zfx h6 _ _ _ hho).mono ?_;rintro e w7 ⟨v7,rfl,hho7,hb7⟩;rw [←HE.out] at hho7;obtain ⟨vo7,vs7,vb7,vl7,vm7,rfl,a1,a2,a3,a4,a5⟩:=hho7;obtain ⟨Ao7,co7,rfl,-⟩:=a1.form;obtain ⟨As7,cs7,rfl,-⟩:=a2.form;obtain ⟨Ab7,cb7,rfl,-⟩:=zab a3;obtain ⟨Al7,cl7,rfl,-⟩:=a4.form;obtain ⟨Am7,cm7,rfl,-⟩:=a5.form;replace E:=E.step hb7;clear q1 f1 t1;obtain ⟨q1,f1,t1⟩:=E.rules m1;go_wp2;refine zbA (K:=fun W=>Met _ _ W) (E.at_ m1) _ _ _ _ _ _ _ _ _ _ _ _ _ _ _ ?_
      intro w8 hs8 ht8 hB8;go_meet;have hb7:=hb06.trans (hb7.mono hb06.size);have k8:∀ b,(w1.heap.size≤b∨K b)→¬b=w.heap.size:=fun b hb e=>by rcases hb with hb | hb;omega;have:=hK b hb;omega
      exact ⟨_,_,_,_,_,hB8,⟨_,_,_,_,_,rfl,a1.turned ht8 k8,a2.turned ht8 k8,a3.turned ht8 k8,a4.turned ht8 k8,a5.turned ht8 k8⟩,(E.at_ m0).turned ht8 (show ¬w.heap.size+1=w.heap.size by omega),za0.upon hb7 ht8 (Nat.le_refl _) (Nat.le_refl _)⟩
   case rest=>
    obtain ⟨vo,vs,vb,vl,vm,hB7,hho7,hBz7,hb7⟩:=hcut;have hho8:=hho7;obtain ⟨vo',vs',vb',vl',vm',ev,a1,a2,a3,a4,a5⟩:=hho7;injection ev with ev;injection ev with ev;simp only [List.cons.injEq,and_true,true_and] at ev;obtain ⟨rfl,rfl,rfl,rfl,rfl⟩:=ev;obtain ⟨Ao7,co7,rfl,-⟩:=a1.form;obtain ⟨As7,cs7,rfl,-⟩:=a2.form;obtain ⟨Ab7,cb7,rfl,-⟩:=zab a3;obtain ⟨Al7,cl7,rfl,-⟩:=a4.form;obtain ⟨Am7,cm7,rfl,-⟩:=a5.form;clear E q1 f1 t1 hB6' hBz6 hho;obtain ⟨q0,f0⟩:=hB7.rules;obtain ⟨q1,f1⟩:=hBz7.rules;have t0:=hB7.lt;have t1:=hBz7.lt;go_wp2;refine zbA (K:=fun W=>bodyPost _ _ _ _ _ W) hBz7 _ _ _ _ _ _ _ _ _ _ _ _ _ _ _ ?_
    intro w9 hs9 ht9 hB9;obtain ⟨q2,f2⟩:=hB9.rules;have k9:∀ b,(w1.heap.size≤b∨K b)→¬b=w.heap.size+1:=fun b hb e=>by rcases hb with hb | hb;omega;have:=hK b hb;omega
    have km:∀ b,(w1.heap.size≤b∨K b)→w.heap.size≤b∨K b:=fun b hb=>by rcases hb with hb | hb;exact .inl (by omega);exact .inr hb
    refine bodyPost_ret (v:=.tuple #[.agg (hoS res Ao7 co7 As7 cs7 Ab7 cb7 Al7 cl7 Am7 cm7),.int .i64 0]) (by simp [results,Tryz.results21,go_sem,q2]) rfl
     ⟨_,rfl,⟨_,_,_,_,_,rfl,(a1.turned ht9 k9).more km,(a2.turned ht9 k9).more km,(a3.turned ht9 k9).more km,(a4.turned ht9 k9).more km,(a5.turned ht9 k9).more km⟩,za0.upon hb7 ht9 (by omega) (Nat.le_refl _)⟩
end Go.Proofs.YthblkdnijhphhaaGreat
