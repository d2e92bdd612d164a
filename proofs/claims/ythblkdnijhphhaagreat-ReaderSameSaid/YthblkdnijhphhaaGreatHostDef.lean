/- A part of the proof. -/
import Derived.Test.YthblkdnijhphhaaGreatHostDo
set_option maxHeartbeats 8000000
set_option maxRecDepth 100000
namespace Go.Proofs.YthblkdnijhphhaaGreat
open Go.RowKit
def zgN (a z id ep:Int) (l:List Sp):List Sp:=(withoutS a z l).1.take (withoutS a z l).2++[⟨a,z,id,ep⟩]++(withoutS a z l).1.drop (withoutS a z l).2
def zfh (h:Ho) (a z ep:Int):Ho:=⟨h.id,h.own,zgN a z h.id ep h.s,h.opn,h.p,h.m,h.ver,h.seq⟩
theorem zfO (a z:Int):∀ (l:List Sp) (o:List Sp × Nat),o.2≤o.1.length→(l.foldl (zen a z) o).2≤(l.foldl (zen a z) o).1.length
 | [],o,h=>h
 | s::l,o,h=>by
   refine zfO a z l (zen a z o s) ?_;unfold zen;simp only [List.length_append];split
   · rename_i h1
     rw [if_pos h1.1];simp
   · omega
theorem zod (l:List Sp) (k:Nat):(l.flatMap spCs).take (k*4)=(l.take k).flatMap spCs∧(l.flatMap spCs).drop (k*4)=(l.drop k).flatMap spCs:=by
 have h:za8 Rp.sp default (fun _=>True) (l.flatMap spCs) l:=zbV.2 rfl
 exact ⟨zbV.1 (h.take k),zbV.1 (h.drop k)⟩
theorem znT (l:List Sp):∀ u∈l.flatMap spCs,u.oneCell'=true:=by
 intro u hu;obtain ⟨s,_,hs⟩:=List.mem_flatMap.1 hu;exact zdT s u hs
theorem zis (h:Ho) (v:Value) (a z ep:Int) (K:Nat→Prop) (w:World) (hv:IsHo w K v h) (hK:∀ b,K b→b<w.heap.size) (hs:zbm h) (haz:0≤a∧a<z∧z≤1099511627776) (hep:1≤ep) (hsl:h.s.length≤400000) :
 Calls Tryz.prog 19 #[v,.int .i64 a,.int .i64 z,.int .i64 ep] w fun e w'=>∃ v',e=.returned (.tuple #[v',.int .i64 0])∧IsHo w' (fun b=>w.heap.size≤b∨K b) v' (zfh h a z ep)∧Below w.heap.size w w':=by
 have hco:=fun W hW hKW=>zeV h v K W hW hKW hs
 have hv0:=hv;obtain ⟨vo,vs,vb,vl,vm,rfl,h1,h2,h3,h4,h5⟩:=hv;obtain ⟨Ao,co,rfl,-⟩:=h1.form;obtain ⟨As,cs,rfl,-⟩:=h2.form;obtain ⟨Ab,cb,rfl,-⟩:=zab h3;obtain ⟨Al,cl,rfl,-⟩:=h4.form;obtain ⟨Am,cm,rfl,-⟩:=h5.form;have E:=(Kn.start w).give za1.ho hv0 |>.push 38 (hoS h Ao co As cs Ab cb Al cl Am cm) |>.push 38 #[.int .i64 0,.slice none 0 0,.slice none 0 0,.bool false,.int .i64 0,.int .i64 0,.int .i64 0,.int .i64 0,.int .i64 0,.int .i64 0,.slice none 0 0,.slice none 0 0,.slice none 0 0,.int .i64 0,.int .i64 0]
 rw [World.size_alloc] at E;clear h1 h2 h3 h4 h5 hv0;have haz0:=haz.1;have haz1:=haz.2.1;have haz2:=haz.2.2;clear haz;go_enter Tryz.func19,Tryz.ntmps19
 go_wp2_with fail;generalize (w.alloc (.cells (hoS h Ao co As cs Ab cb Al cl Am cm) 38)).alloc (.cells #[.int .i64 0,.slice none 0 0,.slice none 0 0,.bool false,.int .i64 0,.int .i64 0,.int .i64 0,.int .i64 0,.int .i64 0,.int .i64 0,.slice none 0 0,.slice none 0 0,.slice none 0 0,.int .i64 0,.int .i64 0] 38)=w1 at E ⊢;refine (hco _ (E.get m0) (fun b hb=>by have:=hK b hb;have:=(E.at_ m0).lt;omega)).mono ?_
 rintro e w2 ⟨Ao2,co2,As2,cs2,Ab2,cb2,Al2,cl2,Am2,cm2,rfl,hown,hsp,hbf,hrc,hex,hb2⟩;clear hco;have hg1:w.heap.size+1<w1.heap.size:=(E.at_ m0).lt;replace E:=E.step hb2;obtain ⟨q0,f0,t0⟩:=E.rules m1;go_upto_region 4 with fail;refine zbA (K:=fun W=>Code.wp _ _ _ _ W) (E.at_ m1) _ _ _ _ _ _ _ _ _ _ _ _ _ _ _ ?_
 intro w3 hs3 ht3 hB3;have hb3:=za0.upon E.below ht3 (Nat.le_refl _) (Nat.le_refl _);obtain ⟨Ao2',co2',xo,e1,ow,hxo⟩:=hown;injection e1 with e1 _ e2;subst e1 e2;have o3:=za7 ow ht3 (by omega)
 have hsp3:=hsp.turned ht3 (fun b hb e=>by omega)
 have hbf3:=hbf.turned ht3 (fun b hb e=>by omega)
 have hrc3:=hrc.turned ht3 (fun b hb e=>by rcases hb with hb | hb;omega;have:=hK b hb;omega)
 have hex3:=hex.turned ht3 (fun b hb e=>by omega)
 have hBz:=(E.at_ m0).turned ht3 (show ¬w.heap.size+1=w.heap.size by omega)
 have hs2:=hb2.size;clear E q0 f0 t0 ht3 hsp hbf hrc hex ow hb2;have hwo:=fun (Kw:Nat→Prop) W hW=>zgO As2 cs2 h.s a z Kw W hW haz1 hs.s
 obtain ⟨q0,f0⟩:=hB3.rules;have t0:=hB3.lt;go_wp2_with fail;refine (hwo _ _ hsp3).mono ?_;rintro e w4 ⟨A4,c4,rfl,own4,hb4⟩;have hB4:=hB3.step hb4;have hbw:=hb3.trans (hb4.mono hb3.size);have hs4:=hb4.size;clear hwo hsp3 q0 f0 t0;have hwl:(withoutS a z h.s).1.length≤2*h.s.length:=by have:=zdf a z h.s ([],0);simpa [withoutS] using this
 have hwa:(withoutS a z h.s).2≤(withoutS a z h.s).1.length:=zfO a z h.s ([],0) (Nat.le_refl _);have hss:=hs.s;have hso:=hs.own;have hsm:=hs.m;have hin:=fun c vb W ho hv hne hb=>zhZ (withoutS a z h.s).2 A4 (withoutS a z h.s).1.length c vb w3.heap.size ((withoutS a z h.s).1.flatMap spCs) (spCs ⟨a,z,h.id,ep⟩) W ho (znT _) hv rfl (zdT _) hne hwa (by omega) hb
 have hgs:zgN a z h.id ep h.s=(withoutS a z h.s).1.take (withoutS a z h.s).2++[⟨a,z,h.id,ep⟩]++(withoutS a z h.s).1.drop (withoutS a z h.s).2:=rfl;have hfl:=zod (withoutS a z h.s).1 (withoutS a z h.s).2;rw [hfl.1,hfl.2] at hin;have hfl2:((withoutS a z h.s).1.take (withoutS a z h.s).2).flatMap spCs++spCs ⟨a,z,h.id,ep⟩++((withoutS a z h.s).1.drop (withoutS a z h.s).2).flatMap spCs=(zgN a z h.id ep h.s).flatMap spCs:=by rw [hgs,List.flatMap_append,List.flatMap_append];simp
 rw [hfl2] at hin;have hgl:(zgN a z h.id ep h.s).length=(withoutS a z h.s).1.length+1:=by rw [hgs];simp only [List.length_append,List.length_take,List.length_drop,List.length_cons,List.length_nil];omega
 generalize withoutS a z h.s=O at own4 hwl hwa hin hgl ⊢;obtain ⟨on,hon⟩:∃ on,O.1.length=on:=⟨_,rfl⟩;rw [hon] at own4 hwl hwa hin hgl ⊢;clear hfl hfl2 hgs hon;obtain ⟨q0,f0⟩:=hB4.rules;have t0:=hB4.lt;have hvb:Blk (w4.alloc (.cells #[.int .i64 a,.int .i64 z,.int .i64 h.id,.int .i64 ep] 118)) w4.heap.size 118 (spCs ⟨a,z,h.id,ep⟩).toArray:=Blk.new _ _ _ rfl;have hol:=own4.lt;go_wp2_with fail;refine (hin _ _ _ (own4.alloc _) hvb (fun e=>by have:=(hol _ e.symm).2;omega) (by rw [World.size_alloc];omega)).mono ?_
 rintro e w5 ⟨A5,c5,rfl,own5,hb5⟩;have hb35:Below w3.heap.size w3 w5:=(hb4.alloc hs4 (.cells #[.int .i64 a,.int .i64 z,.int .i64 h.id,.int .i64 ep] 118)).trans hb5;have hB5:=hB3.step hb35;have o5:=za4 o3 hb35 (Nat.le_refl _);have hbf5:=hbf3.step hb35;have hrc5:=hrc3.step hb35;have hex5:=hex3.step hb35;have hBz5:=hBz.step hb35;have hbw5:=hb3.trans (hb35.mono hb3.size);have hs5:=hb35.size;clear hin own4 hb4 hb5 hB4 hvb hol hbw o3 hbf3 hrc3 hex3 hBz hB3 q0 f0 t0;obtain ⟨q0,f0⟩:=hB5.rules;have t0:=hB5.lt;go_upto_region 6 with fail;refine zaR (K:=fun W=>Code.wp _ _ _ _ W) hB5 2 _ ?_
 intro w6 hs6 ht6 hB6;have hB6':Blk w6 w.heap.size 38 (hoC (zfh h a z ep) (.slice Ao2 h.own.length co2) (.slice A5 (on+1) c5) (.slice Ab2 h.p.buf.length cb2) (.slice Al2 h.p.l.length cl2) (.slice Am2 h.m.length cm2)):=hB6;have o6:=za7 o5 ht6 (by omega)
 have own6:=za7 own5 ht6 (by omega)
 have hbf6:=hbf5.turned ht6 (fun b hb e=>by omega)
 have hrc6:=hrc5.turned ht6 (fun b hb e=>by rcases hb with hb | hb;omega;have:=hK b hb;omega)
 have hex6:=hex5.turned ht6 (fun b hb e=>by omega)
 have hBz6:=hBz5.turned ht6 (show ¬w.heap.size+1=w.heap.size by omega)
 have hb6:=za0.upon hbw5 ht6 (Nat.le_refl _) (Nat.le_refl _);clear o5 own5 hbf5 hrc5 hex5 hBz5 hB6 hB5 ht6 hbw5 hs6 q0 f0 t0;obtain ⟨q0,f0⟩:=hB6'.rules;obtain ⟨q1,f1⟩:=hBz6.rules;have t0:=hB6'.lt;have t1:=hBz6.lt;go_wp2;refine zbA (K:=fun W=>bodyPost _ _ _ _ _ W) hBz6 _ _ _ _ _ _ _ _ _ _ _ _ _ _ _ ?_
 intro w7 hs7 ht7 hB7;obtain ⟨q2,f2⟩:=hB7.rules;have r1:=za7 o6 ht7 (by omega)
 have r2:=za7 own6 ht7 (by omega)
 have hbf7:=hbf6.turned ht7 (fun b hb e=>by omega)
 have hrc7:=hrc6.turned ht7 (fun b hb e=>by rcases hb with hb | hb;omega;have:=hK b hb;omega)
 have hex7:=hex6.turned ht7 (fun b hb e=>by omega)
 refine bodyPost_ret (v:=.tuple #[.agg (hoC (zfh h a z ep) (.slice Ao2 h.own.length co2) (.slice A5 (on+1) c5) (.slice Ab2 h.p.buf.length cb2) (.slice Al2 h.p.l.length cl2) (.slice Am2 h.m.length cm2)),.int .i64 0]) (by simp [results,Tryz.results19,go_sem,q2,zfh]) rfl ?_
 have fin:∀ {α:Type} {R:Rp α} {e:TypeId} {v:Value} {l:List α},OwnL R w7 w.heap.size e (fun _=>False) v l→l.length≤140737488355328→IsL R w7 (fun b=>w.heap.size≤b∨K b) v l:=fun h hl=>(h.isL hl).more fun b hb=>.inl (hb.resolve_right (fun h=>h))
 rw [←hgl] at r2 ⊢;refine ⟨_,rfl,⟨_,_,_,_,_,rfl,fin ⟨_,_,xo,rfl,zac r1 (by omega),zaW.2 (zaW.1 hxo)⟩ (by show h.own.length≤_;omega),fin ⟨_,_,_,rfl,zac r2 (by omega),zbV.2 rfl⟩ (by show (zgN a z h.id ep h.s).length≤_;omega),hbf7.more (fun b hb=>.inl (by omega)),hrc7.more (fun b hb=>by rcases hb with hb | hb;exact .inl (by omega);exact .inr hb),hex7.more (fun b hb=>.inl (by omega))⟩,za0.upon hb6 ht7 (by omega) (Nat.le_refl _)⟩
theorem zjy {w:World} {K:Nat→Prop} {A:Option Addr} {n c:Nat} {l:List Fn} (h:IsL Rp.fn w K (.slice A n c) l) {j:Nat} {e:Fn} (hj:l[j]?=some e) :
 ∃ ad,A=some ad∧K ad.block∧w.cell? (ad.add (j*3))=some (.int .i64 e.zone)∧w.cell? ⟨(ad.add (j*3)).block,(ad.add (j*3)).off+1,none⟩=some (.int .i64 e.host)∧w.cell? ⟨(ad.add (j*3)).block,(ad.add (j*3)).off+2,none⟩=some (.int .i64 e.epoch):=by
 obtain ⟨ad,es,hA,hKad,hes,hcell⟩:=h.at_ hj;obtain rfl:es=_:=hes;have hsz:Rp.fn.size=3:=rfl;rw [hsz] at hcell;refine ⟨ad,hA,hKad,?_,?_,?_⟩
 · rw [←zbN (ad.add (j*3))];exact hcell 0 _ rfl
 · rw [←zaD _ 1 (by decide)];exact hcell 1 _ rfl
 · rw [←zaD _ 2 (by decide)];exact hcell 2 _ rfl
def cmpI (a b:Int):Int:=if a<b then -1 else if b<a then 1 else 0
theorem zid (a b:Int) (w:World):Calls Tryz.prog 51 #[.int .i64 a,.int .i64 b] w fun e w'=>e=.returned (.int .i64 (cmpI a b))∧Below w.heap.size w w':=by
 have E:=Kn.start w;unfold cmpI;by_cases h1:a<b
 · rw [if_pos h1]
   go_enter Tryz.func51,Tryz.ntmps51
   go_wp2;go_ret;exact ⟨rfl,E.below⟩
 · rw [if_neg h1]
   by_cases h2:b<a
   · rw [if_pos h2]
     go_enter Tryz.func51,Tryz.ntmps51
     go_wp2;go_ret;exact ⟨rfl,E.below⟩
   · rw [if_neg h2]
     go_enter Tryz.func51,Tryz.ntmps51
     go_wp2;go_ret;exact ⟨rfl,E.below⟩
theorem zhu (e:Fn) (z:Int) (w:World):Calls Tryz.prog 50 #[.agg #[.int .i64 e.zone,.int .i64 e.host,.int .i64 e.epoch],.int .i64 z] w fun x w'=>x=.returned (.int .i64 (cmpI e.zone z))∧Below w.heap.size w w':=by
 have E:=(Kn.start w).push 130 #[.int .i64 e.zone,.int .i64 e.host,.int .i64 e.epoch];go_enter Tryz.func50,Tryz.ntmps50
 go_wp2_with fail;refine (zid e.zone z _).mono ?_;rintro x w2 ⟨rfl,hb2⟩;replace E:=E.step hb2;go_wp2;go_ret;exact ⟨rfl,E.below⟩
def posF (l:List Fn) (z:Int):Nat:=l.findIdx (fun e=>decide (z≤e.zone))
theorem zlG {l:List Fn} {z:Int} {i:Nat} (hi:i≤l.length) (h1:∀ k e,k<i→l[k]?=some e→e.zone<z) (h2:∀ e,l[i]?=some e→z≤e.zone):posF l z=i:=by
 unfold posF;rcases Nat.lt_or_ge i l.length with hlt | hge
 · rw [List.findIdx_eq hlt]
   refine ⟨by simpa using h2 _ (List.getElem?_eq_getElem hlt),fun j hj=>?_⟩
   have:=h1 j _ hj (List.getElem?_eq_getElem (by omega))
   simp;omega
 · have:i=l.length:=by omega
   subst this;rw [List.findIdx_eq_length];intro x hx;obtain ⟨k,hk,rfl⟩:=List.getElem_of_mem hx;have:=h1 k _ hk (List.getElem?_eq_getElem hk);simp;omega
def hasF (l:List Fn) (z:Int):Bool:=match l[posF l z]? with
 | some e=>decide (e.zone=z)
 | none=>false
theorem zo9 (A:Option Addr) (c:Nat) (l:List Fn) (z:Int) (K:Nat→Prop) (w:World) (hv:IsL Rp.fn w K (.slice A l.length c) l) (hso:l.Pairwise (fun a b=>a.zone<b.zone)) :
 Calls Tryz.prog 49 #[.slice A l.length c,.int .i64 z,.func (.func 50) #[] #[]] w fun x w'=>
  x=.returned (.tuple #[.int .i64 (posF l z),.bool (hasF l z)])∧Below w.heap.size w w':=by
 have hlen:=hv.len;obtain ⟨ln,hln⟩:∃ ln,l.length=ln:=⟨_,rfl⟩;rw [hln] at hlen;have hv0:=hv;rw [hln] at hv;rw [hln];have HLN:=Lib.hid hln;have hmono:∀ (k m:Nat) (a b:Fn),k≤m→l[k]?=some a→l[m]?=some b→a.zone≤b.zone:=fun k m a b hkm ha hb=>by
  obtain ⟨h1,rfl⟩:=List.getElem?_eq_some_iff.1 ha;obtain ⟨h2,rfl⟩:=List.getElem?_eq_some_iff.1 hb;rcases Nat.lt_or_ge k m with h | h
  · exact Int.le_of_lt (List.pairwise_iff_getElem.1 hso k m h1 h2 h)
  · obtain rfl:k=m:=by omega
    exact Int.le_refl _
 have HM:=Lib.hid hmono;obtain ⟨pos,hpos⟩:∃ pos,posF l z=pos:=⟨_,rfl⟩;obtain ⟨had,hhad⟩:∃ had,hasF l z=had:=⟨_,rfl⟩;have HH:Hid (had=match l[pos]? with | some e=>decide (e.zone=z) | none=>false):=Lib.hid (by rw [←hhad,←hpos];rfl)
 rw [hpos,hhad];have HP:=Lib.hid hpos;clear hln hso hmono hpos hhad;go_enter Tryz.func49,Tryz.ntmps49
 go_wp2_with fail;go_loopw [9,10,11] (fun x9 x10 x11 wr=>∃ i j:Nat,x9=.int .i64 i∧x10=.int .i64 j∧i≤j∧j≤ln∧Hid ((∀ k e,k<i→l[k]?=some e→e.zone<z)∧(∀ e,l[j]?=some e→z≤e.zone))∧Below w.heap.size w wr∧∃ y,x11=y) (fun i j _ _=>(intOf j-intOf i).toNat)
 case atStart=>exact ⟨0,ln,rfl,rfl,Nat.zero_le _,Nat.le_refl _,Lib.hid ⟨fun k e hk=>by omega,fun e he=>by rw [←HLN.out,List.getElem?_eq_none (Nat.le_refl _)] at he;cases he⟩,Below.refl _ _,_,rfl⟩
 case round=>
  obtain ⟨i,j,rfl,rfl,hij,hjl,HI,hb,y,rfl⟩:=hrel;have hsz:=hb.size;by_cases hlt:i<j
  case neg=>
   obtain rfl:i=j:=by omega
   obtain ⟨h1,h2⟩:=HI.out;have hfi:=zlG (by rw [HLN.out];exact hjl) h1 h2
   rw [HP.out] at hfi;subst hfi;clear HI;by_cases hin:pos<ln
   · obtain ⟨e,he⟩:∃ e,l[pos]?=some e:=⟨_,List.getElem?_eq_getElem (by rw [HLN.out];exact hin)⟩
     obtain ⟨ad,rfl,-,c0,c1,c2⟩:=zjy (hv0.step hb) he;have i0:(0:Int)≤(pos:Int):=by omega
     have i1:(pos:Int)<(ln:Int):=by omega
     have hhe:=HH.out;rw [he] at hhe;simp only at hhe;have hle:=h2 e he;have HE:=Lib.hid hhe;clear h1 h2 he hhe;go_wp2_with fail;refine (zhu e z _).mono ?_;rintro x w3 ⟨rfl,hb3⟩;clear c0 c1 c2;unfold cmpI;rw [if_neg (by omega)]
     by_cases hz:z<e.zone
     · rw [if_pos hz]
       have hf:had=false:=by rw [HE.out];exact decide_eq_false (by omega)
       subst hf;go_wp2;go_ret2;exact ⟨rfl,hb.trans (hb3.mono hsz)⟩
     · rw [if_neg hz]
       have hf:had=true:=by rw [HE.out];exact decide_eq_true (by omega)
       subst hf;go_wp2;go_ret2;exact ⟨rfl,hb.trans (hb3.mono hsz)⟩
   · have hf:had=false:=by rw [HH.out,List.getElem?_eq_none (by rw [HLN.out];omega)]
     subst hf;clear h1 h2;go_wp2;go_ret2;exact ⟨rfl,hb⟩
  obtain ⟨h,hh⟩:∃ h,(i+j) / 2=h:=⟨_,rfl⟩;go_upto_region 5 with fail;rw [show ((i:Int)+(j:Int)) / 2=(h:Int) by omega]
  have h0:(0:Int)≤(h:Int):=by omega
  have h1:(h:Int)<(ln:Int):=by omega
  have h2:i≤h∧h<j:=by omega
  obtain ⟨e,he⟩:∃ e,l[h]?=some e:=⟨_,List.getElem?_eq_getElem (by rw [HLN.out];omega)⟩
  obtain ⟨ad,rfl,-,c0,c1,c2⟩:=zjy (hv0.step hb) he;have HE:=Lib.hid he;clear he hh;go_wp2_with fail;refine (zhu e z _).mono ?_;rintro x w3 ⟨rfl,hb3⟩;clear c0 c1 c2;replace hb3:=hb.trans (hb3.mono hsz);unfold cmpI;by_cases hl:e.zone<z
  · rw [if_pos hl]
    have HI2:Hid ((∀ k e,k<h+1→l[k]?=some e→e.zone<z)∧(∀ e,l[j]?=some e→z≤e.zone)):=Lib.hid ⟨fun k x hk hx=>Int.lt_of_le_of_lt (HM.out k h x e (by omega) hx HE.out) hl,HI.out.2⟩
    clear hl;go_wp2;go_roundw
    case rel=>exact ⟨h+1,j,by go_num,rfl,by omega,by omega,HI2,hb3,_,rfl⟩
    case measure=>simp [intOf];omega
  · rw [if_neg hl]
    have HI2:Hid ((∀ k e,k<i→l[k]?=some e→e.zone<z)∧(∀ e,l[h]?=some e→z≤e.zone)):=Lib.hid ⟨HI.out.1,fun x hx=>by rw [HE.out] at hx;injection hx with hx;subst hx;omega⟩
    clear hl;obtain ⟨r,hr⟩:∃ r:Int,(if z<e.zone then (1:Int) else 0)=r:=⟨_,rfl⟩;have hr0:0≤r:=by rw [←hr];split <;> omega
    rw [hr];clear hr;go_wp2;go_roundw
    case rel=>exact ⟨i,h,rfl,rfl,by omega,by omega,HI2,hb3,_,rfl⟩
    case measure=>simp [intOf];omega
structure Io where
 op:Int
 lba:Int
 n:Int
 data:List UInt8
def zbP (o:Io):Int:=if o.op=1 then 256 else if o.op=2 then 1048576 else 0
def zcr (o:Io):Int:=if o.op=1 then 16*o.n else 0
def zbk (s:List Sp) (o:Io):Int:=if ¬(zbO o.lba o.n (zbP o)∧(o.data.length:Int)=zcr o) then 63 else if zeW s o.lba o.n=true then 0 else 62
def recI (v:Int) (o:Io):Rc:=⟨if o.op=1 then 1 else if o.op=2 then 2 else 0,o.lba,o.n,v,0,0,o.data⟩
def zap:Int→List Io→List Rc
 | _,[]=>[]
 | v,o::l=>recI v o::zap (v+1) l
def errI (s:List Sp):List Io→Int
 | []=>0
 | o::l=>if zbk s o≠0 then zbk s o else errI s l
theorem zeD:∀ (l:List Io) (v:Int),(zap v l).length=l.length
 | [],_=>rfl
 | o::l,v=>by simp [zap,zeD l]
theorem zg5:∀ (l:List Io) (v:Int) (o:Io),zap v (l++[o])=zap v l++[recI (v+l.length) o]
 | [],v,o=>by simp [zap]
 | x::l,v,o=>by
   simp only [List.cons_append,zap,zg5 l,List.length_cons,Int.natCast_add];congr 4
   omega
theorem zjl {l:List Io} {j:Nat} (v:Int) (hj:j<l.length):zap v (l.take (j+1))=zap v (l.take j)++[recI (v+j) l[j]]:=by
 rw [List.take_succ_eq_append_getElem hj,zg5,List.length_take,Nat.min_eq_left (by omega)]
theorem zgl {s:List Sp}:∀ {l:List Io},(∀ o∈l,zbk s o=0)→errI s l=0
 | [],_=>rfl
 | o::l,h=>by
   unfold errI;rw [if_neg (by rw [h o (List.mem_cons_self ..)];simp)]
   exact zgl fun x hx=>h x (List.mem_cons_of_mem _ hx)
theorem zgB {s:List Sp}:∀ {l:List Io} {j:Nat} {o:Io},(∀ x∈l.take j,zbk s x=0)→l[j]?=some o→zbk s o≠0→errI s l=zbk s o
 | [],j,o,_,h,_=>by simp at h
 | x::l,0,o,_,h,he=>by
   simp only [List.getElem?_cons_zero,Option.some.injEq] at h;subst h;unfold errI;rw [if_pos he]
 | x::l,j+1,o,h0,h,he=>by
   unfold errI;rw [if_neg (by rw [h0 x (by simp)];simp)]
   exact zgB (l:=l) (j:=j) (fun y hy=>h0 y (by rw [List.take_succ_cons];exact List.mem_cons_of_mem _ hy)) (by simpa using h) he
def zd0:Zd:=⟨0,0,0,[]⟩
def ho0:Ho:=⟨0,[],[],false,p0k,[],0,0⟩
def zbB (d:Zd) (f:Fn):Bool:=decide (f.zone<d.z.length) && (decide ((d.z.getD f.zone.toNat z0).st=0) && decide ((d.z.getD f.zone.toNat z0).fe=f.epoch))
def finD (d:Zd) (h:Ho):Zd:=if h.opn=true then (doZ d ⟨4,h.p.zone,h.p.h.epoch,0,0,[]⟩).1 else d
def begP (d:Zd) (h:Ho) (f:Fn):Pk × Int:=zcH ⟨h.id,f.epoch,h.seq⟩ f.zone d.cap
def zbW (d:Zd) (h:Ho) (need:Int):Zd × Ho × Bool:=
 if h.opn=true∧need≤zco h.p then (d,h,true)
 else match h.own[h.own.findIdx (zbB (finD d h))]? with
  | none=>(finD d h,h,false)
  | some f=>(finD d h,⟨h.id,h.own,h.s,true,(begP (finD d h) h f).1,h.m,h.ver,h.seq+1⟩,decide ((begP (finD d h) h f).2=0) && decide (need≤zco (begP (finD d h) h f).1))
def znz (h:Ho) (p:Pk):Ho:=⟨h.id,h.own,h.s,h.opn,p,h.m,h.ver,h.seq⟩
def putW (d:Zd) (h:Ho) (rs:List Rc):Zd × Ho × List Int × Int:=
 if (addL h.p rs).2.2≠0 then (d,h,[],(addL h.p rs).2.2)
 else if (addL h.p rs).1.buf=[] then (d,znz h (addL h.p rs).1,(addL h.p rs).2.1,0)
 else if (doZ d ⟨1,(addL h.p rs).1.zone,(addL h.p rs).1.h.epoch,0,0,(addL h.p rs).1.buf⟩).2.e≠0 then
  ((doZ d ⟨1,(addL h.p rs).1.zone,(addL h.p rs).1.h.epoch,0,0,(addL h.p rs).1.buf⟩).1,zcE h,[],(doZ d ⟨1,(addL h.p rs).1.zone,(addL h.p rs).1.h.epoch,0,0,(addL h.p rs).1.buf⟩).2.e)
 else ((doZ d ⟨1,(addL h.p rs).1.zone,(addL h.p rs).1.h.epoch,0,0,(addL h.p rs).1.buf⟩).1,znz h (zc8 (addL h.p rs).1),(addL h.p rs).2.1,0)
def putH (d:Zd) (h:Ho) (rs:List Rc):Zd × Ho × List Int × Int:=
 if chkD d≠0 then (zd0,ho0,[],chkD d)
 else if errL rs≠0 then (zd0,ho0,[],errL rs)
 else if (zbW d h (frsL rs).length).2.2=false then (zd0,ho0,[],64)
 else putW (zbW d h (frsL rs).length).1 (zbW d h (frsL rs).length).2.1 rs
def mapP (h:Ho) (rs:List Rc) (at_:List Int):List Ex × Int:=zbL (List.zipWith (fun r o=>(r,h.p.zone,o)) rs at_) h.m
def znX (h:Ho) (m:List Ex) (k:Int):Ho:=⟨h.id,h.own,h.s,h.opn,h.p,m,h.ver+k,h.seq⟩
def zau (d:Zd) (h:Ho) (l:List Io):Zd × Ho × Int:=
 if errI h.s l≠0 then (zd0,ho0,errI h.s l)
 else if l=[] then (d,h,0)
 else if (putH d h (zap h.ver l)).2.2.2≠0 then ((putH d h (zap h.ver l)).1,(putH d h (zap h.ver l)).2.1,(putH d h (zap h.ver l)).2.2.2)
 else ((putH d h (zap h.ver l)).1,znX (putH d h (zap h.ver l)).2.1 (mapP (putH d h (zap h.ver l)).2.1 (zap h.ver l) (putH d h (zap h.ver l)).2.2.1).1 l.length,0)
def putF (l:List Fn) (z id ep:Int):List Fn:=if hasF l z=true then l.set (posF l z) ⟨z,((l.getD (posF l z) ⟨0,0,0⟩)).host,ep⟩ else l.take (posF l z)++[⟨z,id,ep⟩]++l.drop (posF l z)
def zhY (h:Ho) (z ep:Int):Ho:=
 if h.opn=true∧h.p.zone=z then zcE ⟨h.id,putF h.own z h.id ep,h.s,h.opn,h.p,h.m,h.ver,h.seq⟩ else ⟨h.id,putF h.own z h.id ep,h.s,h.opn,h.p,h.m,h.ver,h.seq⟩
end Go.Proofs.YthblkdnijhphhaaGreat
