/- A part of the proof. -/
import Derived.Test.YtcapmeefiglfjaaGreatHostDo
set_option maxHeartbeats 8000000
set_option maxRecDepth 100000
namespace Go.Proofs.YtcapmeefiglfjaaGreat
open Go.RowKit
def xU (a z id ep:Int) (l:List Sp):List Sp:=(withoutS a z l).1.take (withoutS a z l).2++[⟨a,z,id,ep⟩]++(withoutS a z l).1.drop (withoutS a z l).2
def nO (h:Ho) (a z ep:Int):Ho:=⟨h.id,h.own,xU a z h.id ep h.s,h.opn,h.p,h.m,h.ver,h.seq⟩
theorem qG (a z:Int):∀ (l:List Sp) (o:List Sp × Nat),o.2≤o.1.length→(l.foldl (mX a z) o).2≤(l.foldl (mX a z) o).1.length
 | [],o,h=>h
 | s::l,o,h=>by
   refine qG a z l (mX a z o s) ?_;unfold mX;simp only [zie];split
   · rename_i h1
     rw [zij h1.1];simp
   · omega
theorem zgc (l:List Sp) (k:Nat):(l.flatMap kO).take (k*4)=(l.take k).flatMap kO∧(l.flatMap kO).drop (k*4)=(l.drop k).flatMap kO:=by
 have h:aI Rp.sp default (fun _=>True) (l.flatMap kO) l:=fH.2 rfl
 exact ⟨fH.1 (h.take k),fH.1 (h.drop k)⟩
theorem zfF (l:List Sp):∀ u∈l.flatMap kO,u.oneCell'=true:=by
 intro u hu;obtain ⟨s,_,hs⟩:=zkB.1 hu;exact lL s u hs
theorem yU (h:Ho) (v:Value) (a z ep:Int) (K:Nat→Prop) (w:World) (hv:aY w K v h) (hK:∀ b,K b→b<w.heap.size) (hs:eB h) (haz:0≤a∧a<z∧z≤1099511627776) (hep:1≤ep) (hsl:h.s.length≤400000) :
 Calls Tryz.prog 19 #[v,.int .i64 a,.int .i64 z,.int .i64 ep] w fun e w'=>∃ v',e=.returned (.tuple #[v',.int .i64 0])∧aY w' (fun b=>w.heap.size≤b∨K b) v' (nO h a z ep)∧Below w.heap.size w w':=by
 have hco:=fun W hW hKW=>nW h v K W hW hKW hs
 have hv0:=hv;obtain ⟨vo,vs,vb,vl,vm,rfl,h1,h2,h3,h4,h5⟩:=hv;obtain ⟨Ao,co,rfl,-⟩:=h1.form;obtain ⟨As,cs,rfl,-⟩:=h2.form;obtain ⟨Ab,cb,rfl,-⟩:=aK h3;obtain ⟨Al,cl,rfl,-⟩:=h4.form;obtain ⟨Am,cm,rfl,-⟩:=h5.form;have E:=(Kn.start w).give aB.ho hv0 |>.push 37 (hoS h Ao co As cs Ab cb Al cl Am cm) |>.push 37 #[.int .i64 0,.slice none 0 0,.slice none 0 0,.bool false,.int .i64 0,.int .i64 0,.int .i64 0,.int .i64 0,.int .i64 0,.int .i64 0,.slice none 0 0,.slice none 0 0,.slice none 0 0,.int .i64 0,.int .i64 0]
 rw [zid] at E;clear h1 h2 h3 h4 h5 hv0;have haz0:=haz.1;have haz1:=haz.2.1;have haz2:=haz.2.2;clear haz;go_enter Tryz.func19,Tryz.ntmps19
 go_wp2_with fail;generalize (w.alloc (.cells (hoS h Ao co As cs Ab cb Al cl Am cm) 37)).alloc (.cells #[.int .i64 0,.slice none 0 0,.slice none 0 0,.bool false,.int .i64 0,.int .i64 0,.int .i64 0,.int .i64 0,.int .i64 0,.int .i64 0,.slice none 0 0,.slice none 0 0,.slice none 0 0,.int .i64 0,.int .i64 0] 37)=w1 at E ⊢;refine (hco _ (E.get m0) (fun b hb=>by have:=hK b hb;have:=(E.at_ m0).lt;omega)).mono ?_
 rintro e w2 ⟨Ao2,co2,As2,cs2,Ab2,cb2,Al2,cl2,Am2,cm2,rfl,hown,hsp,hbf,hrc,hex,hb2⟩;clear hco;have hg1:w.heap.size+1<w1.heap.size:=(E.at_ m0).lt;replace E:=E.step hb2;obtain ⟨q0,f0,t0⟩:=E.rules m1;go_upto_region 4 with fail;refine eV (K:=fun W=>Code.wp _ _ _ _ W) (E.at_ m1) _ _ _ _ _ _ _ _ _ _ _ _ _ _ _ ?_
 intro w3 hs3 ht3 hB3;have hb3:=aA.upon E.below ht3 (zic _) (zic _);obtain ⟨Ao2',co2',xo,e1,ow,hxo⟩:=hown;injection e1 with e1 _ e2;subst e1 e2;have o3:=aH ow ht3 (by omega)
 have hsp3:=hsp.turned ht3 (fun b hb e=>by omega)
 have hbf3:=hbf.turned ht3 (fun b hb e=>by omega)
 have hrc3:=hrc.turned ht3 (fun b hb e=>by rcases hb with hb | hb;omega;have:=hK b hb;omega)
 have hex3:=hex.turned ht3 (fun b hb e=>by omega)
 have hBz:=(E.at_ m0).turned ht3 (show ¬w.heap.size+1=w.heap.size by omega)
 have hs2:=hb2.size;clear E q0 f0 t0 ht3 hsp hbf hrc hex ow hb2;have hwo:=fun (Kw:Nat→Prop) W hW=>vR As2 cs2 h.s a z Kw W hW haz1 hs.s
 obtain ⟨q0,f0⟩:=hB3.rules;have t0:=hB3.lt;go_wp2_with fail;refine (hwo _ _ hsp3).mono ?_;rintro e w4 ⟨A4,c4,rfl,own4,hb4⟩;have hB4:=hB3.step hb4;have hbw:=hb3.trans (hb4.mono hb3.size);have hs4:=hb4.size;clear hwo hsp3 q0 f0 t0;have hwl:(withoutS a z h.s).1.length≤2*h.s.length:=by have:=kI a z h.s ([],0);simpa [withoutS] using this
 have hwa:(withoutS a z h.s).2≤(withoutS a z h.s).1.length:=qG a z h.s ([],0) (zic _);have hss:=hs.s;have hso:=hs.own;have hsm:=hs.m;have hin:=fun c vb W ho hv hne hb=>yW (withoutS a z h.s).2 A4 (withoutS a z h.s).1.length c vb w3.heap.size ((withoutS a z h.s).1.flatMap kO) (kO ⟨a,z,h.id,ep⟩) W ho (zfF _) hv rfl (lL _) hne hwa (by omega) hb
 have hgs:xU a z h.id ep h.s=(withoutS a z h.s).1.take (withoutS a z h.s).2++[⟨a,z,h.id,ep⟩]++(withoutS a z h.s).1.drop (withoutS a z h.s).2:=rfl;have hfl:=zgc (withoutS a z h.s).1 (withoutS a z h.s).2;rw [hfl.1,hfl.2] at hin;have hfl2:((withoutS a z h.s).1.take (withoutS a z h.s).2).flatMap kO++kO ⟨a,z,h.id,ep⟩++((withoutS a z h.s).1.drop (withoutS a z h.s).2).flatMap kO=(xU a z h.id ep h.s).flatMap kO:=by rw [hgs,ziS,ziS];simp
 rw [hfl2] at hin;have hgl:(xU a z h.id ep h.s).length=(withoutS a z h.s).1.length+1:=by rw [hgs];simp only [zie,zio,ziG,List.length_cons,List.length_nil];omega
 generalize withoutS a z h.s=O at own4 hwl hwa hin hgl ⊢;obtain ⟨on,hon⟩:∃ on,O.1.length=on:=⟨_,rfl⟩;rw [hon] at own4 hwl hwa hin hgl ⊢;clear hfl hfl2 hgs hon;obtain ⟨q0,f0⟩:=hB4.rules;have t0:=hB4.lt;have hvb:Blk (w4.alloc (.cells #[.int .i64 a,.int .i64 z,.int .i64 h.id,.int .i64 ep] 126)) w4.heap.size 126 (kO ⟨a,z,h.id,ep⟩).toArray:=Blk.new _ _ _ rfl;have hol:=own4.lt;go_wp2_with fail;refine (hin _ _ _ (own4.alloc _) hvb (fun e=>by have:=(hol _ e.symm).2;omega) (by rw [zid];omega)).mono ?_
 rintro e w5 ⟨A5,c5,rfl,own5,hb5⟩;have hb35:Below w3.heap.size w3 w5:=(hb4.alloc hs4 (.cells #[.int .i64 a,.int .i64 z,.int .i64 h.id,.int .i64 ep] 126)).trans hb5;have hB5:=hB3.step hb35;have o5:=aD o3 hb35 (zic _);have hbf5:=hbf3.step hb35;have hrc5:=hrc3.step hb35;have hex5:=hex3.step hb35;have hBz5:=hBz.step hb35;have hbw5:=hb3.trans (hb35.mono hb3.size);have hs5:=hb35.size;clear hin own4 hb4 hb5 hB4 hvb hol hbw o3 hbf3 hrc3 hex3 hBz hB3 q0 f0 t0;obtain ⟨q0,f0⟩:=hB5.rules;have t0:=hB5.lt;go_upto_region 6 with fail;refine cF (K:=fun W=>Code.wp _ _ _ _ W) hB5 2 _ ?_
 intro w6 hs6 ht6 hB6;have hB6':Blk w6 w.heap.size 37 (hoC (nO h a z ep) (.slice Ao2 h.own.length co2) (.slice A5 (on+1) c5) (.slice Ab2 h.p.buf.length cb2) (.slice Al2 h.p.l.length cl2) (.slice Am2 h.m.length cm2)):=hB6;have o6:=aH o5 ht6 (by omega)
 have own6:=aH own5 ht6 (by omega)
 have hbf6:=hbf5.turned ht6 (fun b hb e=>by omega)
 have hrc6:=hrc5.turned ht6 (fun b hb e=>by rcases hb with hb | hb;omega;have:=hK b hb;omega)
 have hex6:=hex5.turned ht6 (fun b hb e=>by omega)
 have hBz6:=hBz5.turned ht6 (show ¬w.heap.size+1=w.heap.size by omega)
 have hb6:=aA.upon hbw5 ht6 (zic _) (zic _);clear o5 own5 hbf5 hrc5 hex5 hBz5 hB6 hB5 ht6 hbw5 hs6 q0 f0 t0;obtain ⟨q0,f0⟩:=hB6'.rules;obtain ⟨q1,f1⟩:=hBz6.rules;have t0:=hB6'.lt;have t1:=hBz6.lt;go_wp2;refine eV (K:=fun W=>bodyPost _ _ _ _ _ W) hBz6 _ _ _ _ _ _ _ _ _ _ _ _ _ _ _ ?_
 intro w7 hs7 ht7 hB7;obtain ⟨q2,f2⟩:=hB7.rules;have r1:=aH o6 ht7 (by omega)
 have r2:=aH own6 ht7 (by omega)
 have hbf7:=hbf6.turned ht7 (fun b hb e=>by omega)
 have hrc7:=hrc6.turned ht7 (fun b hb e=>by rcases hb with hb | hb;omega;have:=hK b hb;omega)
 have hex7:=hex6.turned ht7 (fun b hb e=>by omega)
 refine zik (v:=.tuple #[.agg (hoC (nO h a z ep) (.slice Ao2 h.own.length co2) (.slice A5 (on+1) c5) (.slice Ab2 h.p.buf.length cb2) (.slice Al2 h.p.l.length cl2) (.slice Am2 h.m.length cm2)),.int .i64 0]) (by simp [results,Tryz.results19,go_sem,q2,nO]) rfl ?_
 have fin:∀ {α:Type} {R:Rp α} {e:TypeId} {v:Value} {l:List α},zf8 R w7 w.heap.size e (fun _=>False) v l→l.length≤140737488355328→IsL R w7 (fun b=>w.heap.size≤b∨K b) v l:=fun h hl=>(h.isL hl).more fun b hb=>.inl (hb.resolve_right (fun h=>h))
 rw [←hgl] at r2 ⊢;refine ⟨_,rfl,⟨_,_,_,_,_,rfl,fin ⟨_,_,xo,rfl,aO r1 (by omega),cT.2 (cT.1 hxo)⟩ (by show h.own.length≤_;omega),fin ⟨_,_,_,rfl,aO r2 (by omega),fH.2 rfl⟩ (by show (xU a z h.id ep h.s).length≤_;omega),hbf7.more (fun b hb=>.inl (by omega)),hrc7.more (fun b hb=>by rcases hb with hb | hb;exact .inl (by omega);exact .inr hb),hex7.more (fun b hb=>.inl (by omega))⟩,aA.upon hb6 ht7 (by omega) (zic _)⟩
theorem zbl {w:World} {K:Nat→Prop} {A:Option Addr} {n c:Nat} {l:List Fn} (h:IsL Rp.fn w K (.slice A n c) l) {j:Nat} {e:Fn} (hj:l[j]?=some e) :
 ∃ ad,A=some ad∧K ad.block∧w.cell? (ad.add (j*3))=some (.int .i64 e.zone)∧w.cell? ⟨(ad.add (j*3)).block,(ad.add (j*3)).off+1,none⟩=some (.int .i64 e.host)∧w.cell? ⟨(ad.add (j*3)).block,(ad.add (j*3)).off+2,none⟩=some (.int .i64 e.epoch):=by
 obtain ⟨ad,es,hA,hKad,hes,hcell⟩:=h.at_ hj;obtain rfl:es=_:=hes;have hsz:Rp.fn.size=3:=rfl;rw [hsz] at hcell;refine ⟨ad,hA,hKad,?_,?_,?_⟩
 · rw [←cW (ad.add (j*3))];exact hcell 0 _ rfl
 · rw [←bT _ 1 (by decide)];exact hcell 1 _ rfl
 · rw [←bT _ 2 (by decide)];exact hcell 2 _ rfl
def sY (a b:Int):Int:=if a<b then -1 else if b<a then 1 else 0
theorem zD (a b:Int) (w:World):Calls Tryz.prog 55 #[.int .i64 a,.int .i64 b] w fun e w'=>e=.returned (.int .i64 (sY a b))∧Below w.heap.size w w':=by
 have E:=Kn.start w;unfold sY;by_cases h1:a<b
 · rw [zij h1]
   go_enter Tryz.func55,Tryz.ntmps55
   go_wp2;go_ret;exact ⟨rfl,E.below⟩
 · rw [zig h1]
   by_cases h2:b<a
   · rw [zij h2]
     go_enter Tryz.func55,Tryz.ntmps55
     go_wp2;go_ret;exact ⟨rfl,E.below⟩
   · rw [zig h2]
     go_enter Tryz.func55,Tryz.ntmps55
     go_wp2;go_ret;exact ⟨rfl,E.below⟩
theorem xD (e:Fn) (z:Int) (w:World):Calls Tryz.prog 54 #[.agg #[.int .i64 e.zone,.int .i64 e.host,.int .i64 e.epoch],.int .i64 z] w fun x w'=>x=.returned (.int .i64 (sY e.zone z))∧Below w.heap.size w w':=by
 have E:=(Kn.start w).push 138 #[.int .i64 e.zone,.int .i64 e.host,.int .i64 e.epoch];go_enter Tryz.func54,Tryz.ntmps54
 go_wp2_with fail;refine (zD e.zone z _).mono ?_;rintro x w2 ⟨rfl,hb2⟩;replace E:=E.step hb2;go_wp2;go_ret;exact ⟨rfl,E.below⟩
def oY (l:List Fn) (z:Int):Nat:=l.findIdx (fun e=>decide (z≤e.zone))
theorem zbN {l:List Fn} {z:Int} {i:Nat} (hi:i≤l.length) (h1:∀ k e,k<i→l[k]?=some e→e.zone<z) (h2:∀ e,l[i]?=some e→z≤e.zone):oY l z=i:=by
 unfold oY;rcases zjb i l.length with hlt | hge
 · rw [zk4 hlt]
   refine ⟨by simpa using h2 _ (zib hlt),fun j hj=>?_⟩
   have:=h1 j _ hj (zib (by omega))
   simp;omega
 · have:i=l.length:=by omega
   subst this;rw [List.findIdx_eq_length];intro x hx;obtain ⟨k,hk,rfl⟩:=zkm hx;have:=h1 k _ hk (zib hk);simp;omega
def zbG (l:List Fn) (z:Int):Bool:=match l[oY l z]? with
 | some e=>decide (e.zone=z)
 | none=>false
theorem zgV (A:Option Addr) (c:Nat) (l:List Fn) (z:Int) (K:Nat→Prop) (w:World) (hv:IsL Rp.fn w K (.slice A l.length c) l) (hso:l.Pairwise (fun a b=>a.zone<b.zone)) :
 Calls Tryz.prog 53 #[.slice A l.length c,.int .i64 z,.func (.func 54) #[] #[]] w fun x w'=>
  x=.returned (.tuple #[.int .i64 (oY l z),.bool (zbG l z)])∧Below w.heap.size w w':=by
 have hlen:=hv.len;obtain ⟨ln,hln⟩:∃ ln,l.length=ln:=⟨_,rfl⟩;rw [hln] at hlen;have hv0:=hv;rw [hln] at hv;rw [hln];have HLN:=zia hln;have hmono:∀ (k m:Nat) (a b:Fn),k≤m→l[k]?=some a→l[m]?=some b→a.zone≤b.zone:=fun k m a b hkm ha hb=>by
  obtain ⟨h1,rfl⟩:=zil.1 ha;obtain ⟨h2,rfl⟩:=zil.1 hb;rcases zjb k m with h | h
  · exact Int.le_of_lt (zjy.1 hso k m h1 h2 h)
  · obtain rfl:k=m:=by omega
    exact zj7 _
 have HM:=zia hmono;obtain ⟨pos,hpos⟩:∃ pos,oY l z=pos:=⟨_,rfl⟩;obtain ⟨had,hhad⟩:∃ had,zbG l z=had:=⟨_,rfl⟩;have HH:Hid (had=match l[pos]? with | some e=>decide (e.zone=z) | none=>false):=zia (by rw [←hhad,←hpos];rfl)
 rw [hpos,hhad];have HP:=zia hpos;clear hln hso hmono hpos hhad;go_enter Tryz.func53,Tryz.ntmps53
 go_wp2_with fail;go_loopw [9,10,11] (fun x9 x10 x11 wr=>∃ i j:Nat,x9=.int .i64 i∧x10=.int .i64 j∧i≤j∧j≤ln∧Hid ((∀ k e,k<i→l[k]?=some e→e.zone<z)∧(∀ e,l[j]?=some e→z≤e.zone))∧Below w.heap.size w wr∧∃ y,x11=y) (fun i j _ _=>(intOf j-intOf i).toNat)
 case atStart=>exact ⟨0,ln,rfl,rfl,zir _,zic _,zia ⟨fun k e hk=>by omega,fun e he=>by rw [←HLN.out,ziX (zic _)] at he;cases he⟩,zif _ _,_,rfl⟩
 case round=>
  obtain ⟨i,j,rfl,rfl,hij,hjl,HI,hb,y,rfl⟩:=hrel;have hsz:=hb.size;by_cases hlt:i<j
  case neg=>
   obtain rfl:i=j:=by omega
   obtain ⟨h1,h2⟩:=HI.out;have hfi:=zbN (by rw [HLN.out];exact hjl) h1 h2
   rw [HP.out] at hfi;subst hfi;clear HI;by_cases hin:pos<ln
   · obtain ⟨e,he⟩:∃ e,l[pos]?=some e:=⟨_,zib (by rw [HLN.out];exact hin)⟩
     obtain ⟨ad,rfl,-,c0,c1,c2⟩:=zbl (hv0.step hb) he;have i0:(0:Int)≤(pos:Int):=by omega
     have i1:(pos:Int)<(ln:Int):=by omega
     have hhe:=HH.out;rw [he] at hhe;simp only at hhe;have hle:=h2 e he;have HE:=zia hhe;clear h1 h2 he hhe;go_wp2_with fail;refine (xD e z _).mono ?_;rintro x w3 ⟨rfl,hb3⟩;clear c0 c1 c2;unfold sY;rw [zig (by omega)]
     by_cases hz:z<e.zone
     · rw [zij hz]
       have hf:had=false:=by rw [HE.out];exact ziv (by omega)
       subst hf;go_wp2;go_ret2;exact ⟨rfl,hb.trans (hb3.mono hsz)⟩
     · rw [zig hz]
       have hf:had=true:=by rw [HE.out];exact ziu (by omega)
       subst hf;go_wp2;go_ret2;exact ⟨rfl,hb.trans (hb3.mono hsz)⟩
   · have hf:had=false:=by rw [HH.out,ziX (by rw [HLN.out];omega)]
     subst hf;clear h1 h2;go_wp2;go_ret2;exact ⟨rfl,hb⟩
  obtain ⟨h,hh⟩:∃ h,(i+j) / 2=h:=⟨_,rfl⟩;go_upto_region 5 with fail;rw [show ((i:Int)+(j:Int)) / 2=(h:Int) by omega]
  have h0:(0:Int)≤(h:Int):=by omega
  have h1:(h:Int)<(ln:Int):=by omega
  have h2:i≤h∧h<j:=by omega
  obtain ⟨e,he⟩:∃ e,l[h]?=some e:=⟨_,zib (by rw [HLN.out];omega)⟩
  obtain ⟨ad,rfl,-,c0,c1,c2⟩:=zbl (hv0.step hb) he;have HE:=zia he;clear he hh;go_wp2_with fail;refine (xD e z _).mono ?_;rintro x w3 ⟨rfl,hb3⟩;clear c0 c1 c2;replace hb3:=hb.trans (hb3.mono hsz);unfold sY;by_cases hl:e.zone<z
  · rw [zij hl]
    have HI2:Hid ((∀ k e,k<h+1→l[k]?=some e→e.zone<z)∧(∀ e,l[j]?=some e→z≤e.zone)):=zia ⟨fun k x hk hx=>Int.lt_of_le_of_lt (HM.out k h x e (by omega) hx HE.out) hl,HI.out.2⟩
    clear hl;go_wp2;go_roundw
    case rel=>exact ⟨h+1,j,by go_num,rfl,by omega,by omega,HI2,hb3,_,rfl⟩
    case measure=>simp [intOf];omega
  · rw [zig hl]
    have HI2:Hid ((∀ k e,k<i→l[k]?=some e→e.zone<z)∧(∀ e,l[h]?=some e→z≤e.zone)):=zia ⟨HI.out.1,fun x hx=>by rw [HE.out] at hx;injection hx with hx;subst hx;omega⟩
    clear hl;obtain ⟨r,hr⟩:∃ r:Int,(if z<e.zone then (1:Int) else 0)=r:=⟨_,rfl⟩;have hr0:0≤r:=by rw [←hr];split <;> omega
    rw [hr];clear hr;go_wp2;go_roundw
    case rel=>exact ⟨i,h,rfl,rfl,by omega,by omega,HI2,hb3,_,rfl⟩
    case measure=>simp [intOf];omega
structure Io where
 op:Int
 lba:Int
 n:Int
 data:List UInt8
def fD (o:Io):Int:=if o.op=1 then 256 else if o.op=2 then 1048576 else 0
def iA (o:Io):Int:=if o.op=1 then 16*o.n else 0
def dW (s:List Sp) (o:Io):Int:=if ¬(dF o.lba o.n (fD o)∧(o.data.length:Int)=iA o) then 63 else if lT s o.lba o.n=true then 0 else 62
def recI (v:Int) (o:Io):Rc:=⟨if o.op=1 then 1 else if o.op=2 then 2 else 0,o.lba,o.n,v,0,0,o.data⟩
def bE:Int→List Io→List Rc
 | _,[]=>[]
 | v,o::l=>recI v o::bE (v+1) l
def rE (s:List Sp):List Io→Int
 | []=>0
 | o::l=>if dW s o≠0 then dW s o else rE s l
theorem oN:∀ (l:List Io) (v:Int),(bE v l).length=l.length
 | [],_=>rfl
 | o::l,v=>by simp [bE,oN l]
theorem qK:∀ (l:List Io) (v:Int) (o:Io),bE v (l++[o])=bE v l++[recI (v+l.length) o]
 | [],v,o=>by simp [bE]
 | x::l,v,o=>by
   simp only [List.cons_append,bE,qK l,List.length_cons,Int.natCast_add];congr 4
   omega
theorem zbA {l:List Io} {j:Nat} (v:Int) (hj:j<l.length):bE v (l.take (j+1))=bE v (l.take j)++[recI (v+j) l[j]]:=by
 rw [ziy hj,qK,zio,zke (by omega)]
theorem sS {s:List Sp}:∀ {l:List Io},(∀ o∈l,dW s o=0)→rE s l=0
 | [],_=>rfl
 | o::l,h=>by
   unfold rE;rw [zig (by rw [h o (zih ..)];simp)]
   exact sS fun x hx=>h x (zii _ hx)
theorem rM {s:List Sp}:∀ {l:List Io} {j:Nat} {o:Io},(∀ x∈l.take j,dW s x=0)→l[j]?=some o→dW s o≠0→rE s l=dW s o
 | [],j,o,_,h,_=>by simp at h
 | x::l,0,o,_,h,he=>by
   simp only [List.getElem?_cons_zero,ziL] at h;subst h;unfold rE;rw [zij he]
 | x::l,j+1,o,h0,h,he=>by
   unfold rE;rw [zig (by rw [h0 x (by simp)];simp)]
   exact rM (l:=l) (j:=j) (fun y hy=>h0 y (by rw [List.take_succ_cons];exact zii _ hy)) (by simpa using h) he
def zd0:Zd:=⟨0,0,0,[]⟩
def ho0:Ho:=⟨0,[],[],false,p0k,[],0,0⟩
def eT (d:Zd) (f:Fn):Bool:=decide (f.zone<d.z.length) && (decide ((d.z.getD f.zone.toNat z0).st=0) && decide ((d.z.getD f.zone.toNat z0).fe=f.epoch))
def sW (d:Zd) (h:Ho):Zd:=if h.opn=true then (doZ d ⟨4,h.p.zone,h.p.h.epoch,0,0,[]⟩).1 else d
def yB (d:Zd) (h:Ho) (f:Fn):Pk × Int:=iV ⟨h.id,f.epoch,h.seq⟩ f.zone d.cap
def fS (d:Zd) (h:Ho) (need:Int):Zd × Ho × Bool:=
 if h.opn=true∧need≤gT h.p then (d,h,true)
 else match h.own[h.own.findIdx (eT (sW d h))]? with
  | none=>(sW d h,h,false)
  | some f=>(sW d h,⟨h.id,h.own,h.s,true,(yB (sW d h) h f).1,h.m,h.ver,h.seq+1⟩,decide ((yB (sW d h) h f).2=0) && decide (need≤gT (yB (sW d h) h f).1))
def zfE (h:Ho) (p:Pk):Ho:=⟨h.id,h.own,h.s,h.opn,p,h.m,h.ver,h.seq⟩
def zV (d:Zd) (h:Ho) (rs:List Rc):Zd × Ho × List Int × Int:=
 if (fX h.p rs).2.2≠0 then (d,h,[],(fX h.p rs).2.2)
 else if (fX h.p rs).1.buf=[] then (d,zfE h (fX h.p rs).1,(fX h.p rs).2.1,0)
 else if (doZ d ⟨1,(fX h.p rs).1.zone,(fX h.p rs).1.h.epoch,0,0,(fX h.p rs).1.buf⟩).2.e≠0 then
  ((doZ d ⟨1,(fX h.p rs).1.zone,(fX h.p rs).1.h.epoch,0,0,(fX h.p rs).1.buf⟩).1,iT h,[],(doZ d ⟨1,(fX h.p rs).1.zone,(fX h.p rs).1.h.epoch,0,0,(fX h.p rs).1.buf⟩).2.e)
 else ((doZ d ⟨1,(fX h.p rs).1.zone,(fX h.p rs).1.h.epoch,0,0,(fX h.p rs).1.buf⟩).1,zfE h (gA (fX h.p rs).1),(fX h.p rs).2.1,0)
def bP (d:Zd) (h:Ho) (rs:List Rc):Zd × Ho × List Int × Int:=
 if oH d≠0 then (zd0,ho0,[],oH d)
 else if eY rs≠0 then (zd0,ho0,[],eY rs)
 else if (fS d h (cH rs).length).2.2=false then (zd0,ho0,[],64)
 else zV (fS d h (cH rs).length).1 (fS d h (cH rs).length).2.1 rs
def zhE (h:Ho) (rs:List Rc) (at_:List Int):List Ex × Int:=fB (List.zipWith (fun r o=>(r,h.p.zone,o)) rs at_) h.m
def zgr (h:Ho) (m:List Ex) (k:Int):Ho:=⟨h.id,h.own,h.s,h.opn,h.p,m,h.ver+k,h.seq⟩
def bJ (d:Zd) (h:Ho) (l:List Io):Zd × Ho × Int:=
 if rE h.s l≠0 then (zd0,ho0,rE h.s l)
 else if l=[] then (d,h,0)
 else if (bP d h (bE h.ver l)).2.2.2≠0 then ((bP d h (bE h.ver l)).1,(bP d h (bE h.ver l)).2.1,(bP d h (bE h.ver l)).2.2.2)
 else ((bP d h (bE h.ver l)).1,zgr (bP d h (bE h.ver l)).2.1 (zhE (bP d h (bE h.ver l)).2.1 (bE h.ver l) (bP d h (bE h.ver l)).2.2.1).1 l.length,0)
def zgZ (l:List Fn) (z id ep:Int):List Fn:=if zbG l z=true then l.set (oY l z) ⟨z,((l.getD (oY l z) ⟨0,0,0⟩)).host,ep⟩ else l.take (oY l z)++[⟨z,id,ep⟩]++l.drop (oY l z)
def za0 (h:Ho) (z ep:Int):Ho:=
 if h.opn=true∧h.p.zone=z then iT ⟨h.id,zgZ h.own z h.id ep,h.s,h.opn,h.p,h.m,h.ver,h.seq⟩ else ⟨h.id,zgZ h.own z h.id ep,h.s,h.opn,h.p,h.m,h.ver,h.seq⟩
theorem IsL.ltSp {w:World} {K:Nat→Prop} {v:Value} {l:List Sp} (h:IsL Rp.sp w K v l):IsL Rp.sp w (fun b=>K b∧b<w.heap.size) v l:=IsL.ltG (fun _ _ h=>h) (by decide) h
theorem IsL.ltFn {w:World} {K:Nat→Prop} {v:Value} {l:List Fn} (h:IsL Rp.fn w K v l):IsL Rp.fn w (fun b=>K b∧b<w.heap.size) v l:=IsL.ltG (fun _ _ h=>h) (by decide) h
theorem IsL.ltEx {w:World} {K:Nat→Prop} {v:Value} {l:List Ex} (h:IsL Rp.ex w K v l):IsL Rp.ex w (fun b=>K b∧b<w.heap.size) v l:=IsL.ltG (fun _ _ h=>h) (by decide) h
theorem zfR (l:List Fn) (k:Nat):(l.flatMap lD).take (k*3)=(l.take k).flatMap lD∧(l.flatMap lD).drop (k*3)=(l.drop k).flatMap lD:=by
 have h:aI Rp.fn default (fun _=>True) (l.flatMap lD) l:=cT.2 rfl
 exact ⟨cT.1 (h.take k),cT.1 (h.drop k)⟩
theorem za7 (s:Fn):∀ u∈lD s,u.oneCell'=true:=by
 intro u hu;simp only [lD,zim,ziJ,zju] at hu;rcases hu with rfl | rfl | rfl <;> rfl
theorem zgj (l:List Fn):∀ u∈l.flatMap lD,u.oneCell'=true:=by
 intro u hu;obtain ⟨s,_,hs⟩:=zkB.1 hu;exact za7 s u hs
theorem zhs {l:List Fn} {i:Nat} {f:Fn} (h:l[i]?=some f) (e:Int):(l.flatMap lD).set (i*3+2) (.int .i64 e)=(l.set i ⟨f.zone,f.host,e⟩).flatMap lD:=by
 induction l generalizing i with
 | nil=>simp at h
 | cons x l ih=>
   cases i with
   | zero=>
     simp only [List.getElem?_cons_zero,ziL] at h;subst h;simp [lD]
   | succ i=>
     have:=ih (by simpa using h)
     simp only [zjn,List.set_cons_succ,←this];have e1:(i+1)*3+2=(i*3+2)+(lD x).length:=by simp [lD];omega
     rw [e1,zkd _ _ (by omega)]
     simp
theorem zhb {l:List Fn} {i:Nat} {f:Fn} (h:l[i]?=some f):(l.flatMap lD)[i*3+2]?=some (.int .i64 f.epoch):=by
 induction l generalizing i with
 | nil=>simp at h
 | cons x l ih=>
   cases i with
   | zero=>
     simp only [List.getElem?_cons_zero,ziL] at h;subst h;simp [lD]
   | succ i=>
     have e1:(i+1)*3+2=(lD x).length+(i*3+2):=by simp [lD];omega
     rw [zjn,e1,zjt (by omega),Nat.add_sub_cancel_left]
     exact ih (by simpa using h)
def zbC (l:List Fn) (z id:Int):List Fn:=if zbG l z=true then l else l.take (oY l z)++[⟨z,id,0⟩]++l.drop (oY l z)
theorem zS (l:List Fn) (z:Int):oY l z≤l.length:=List.findIdx_le_length
theorem zgq (l:List Fn) (z id:Int):∃ f,(zbC l z id)[oY l z]?=some f∧f.zone=z∧∀ ep,zgZ l z id ep=(zbC l z id).set (oY l z) ⟨z,f.host,ep⟩:=by
 have hle:=zS l z;unfold zbC zgZ;by_cases h:zbG l z=true
 · simp only [h,zkh]
   unfold zbG at h;cases hg:l[oY l z]? with
   | none=>rw [hg] at h;cases h
   | some e=>
     rw [hg] at h;simp only [ziM] at h;exact ⟨e,rfl,h,fun ep=>by rw [ziF,hg];rfl⟩
 · simp only [h,zjG,zjX]
   have hl:(l.take (oY l z)).length=oY l z:=by rw [zio];omega
   refine ⟨⟨z,id,0⟩,?_,rfl,fun ep=>?_⟩
   · rw [ziq,zjt (by omega),hl];simp
   · rw [ziq,ziq,zkd _ _ (by omega),hl];simp
theorem zeo (l:List Fn) (z id:Int):(zbC l z id).length≤l.length+1:=by
 unfold zbC;split
 · omega
 · have:=zS l z
   simp only [zie,zio,ziG,List.length_singleton];omega
theorem zcO (h:Ho) (v:Value) (z ep:Int) (K:Nat→Prop) (w:World) (hv:aY w K v h) (hK:∀ b,K b→b<w.heap.size) (hs:eB h) (hz:0≤z) (hep:1≤ep) (hso:h.own.Pairwise (fun a b=>a.zone<b.zone)) (hol:h.own.length≤400000) :
 Calls Tryz.prog 21 #[v,.int .i64 z,.int .i64 ep] w fun e w'=>∃ v',e=.returned (.tuple #[v',.int .i64 0])∧aY w' (fun b=>w.heap.size≤b∨K b) v' (za0 h z ep)∧Below w.heap.size w w':=by
 have hco:=fun W hW hKW=>mL h v K W hW hKW hs
 have hv0:=hv;obtain ⟨vo,vs,vb,vl,vm,rfl,h1,h2,h3,h4,h5⟩:=hv;obtain ⟨Ao,co,rfl,-⟩:=h1.form;obtain ⟨As,cs,rfl,-⟩:=h2.form;obtain ⟨Ab,cb,rfl,-⟩:=aK h3;obtain ⟨Al,cl,rfl,-⟩:=h4.form;obtain ⟨Am,cm,rfl,-⟩:=h5.form;have E:=(Kn.start w).give aB.ho hv0 |>.push 37 (hoS h Ao co As cs Ab cb Al cl Am cm) |>.push 37 #[.int .i64 0,.slice none 0 0,.slice none 0 0,.bool false,.int .i64 0,.int .i64 0,.int .i64 0,.int .i64 0,.int .i64 0,.int .i64 0,.slice none 0 0,.slice none 0 0,.slice none 0 0,.int .i64 0,.int .i64 0]
 rw [zid] at E;clear h1 h2 h3 h4 h5 hv0;obtain ⟨f,hf1,hf2,hf3⟩:=zgq h.own z h.id;have hil:=zeo h.own z h.id;have hpl:=zS h.own z;have hlen3:(zbC h.own z h.id).length=if zbG h.own z=true then h.own.length else h.own.length+1:=by
  unfold zbC;split
  · rfl
  · simp only [zie,zio,ziG,List.length_singleton];omega
 have hfl:=zfR h.own (oY h.own z);have hins:zbG h.own z=false→(h.own.take (oY h.own z)).flatMap lD++lD ⟨z,h.id,0⟩++(h.own.drop (oY h.own z)).flatMap lD=(zbC h.own z h.id).flatMap lD:=fun e=>by
  unfold zbC;rw [zig (by rw [e];decide),ziS,ziS]
  simp
 have hins2:zbG h.own z=true→zbC h.own z h.id=h.own:=fun e=>by unfold zbC;rw [zij e]
 have hbs:=fun A c W hW=>zgV A c h.own z (fun b=>w.heap.size+1≤b) W hW hso
 have hinF:=fun A c vb B W ho hv hne hb=>zE (oY h.own z) A h.own.length c vb B (h.own.flatMap lD) (lD ⟨z,h.id,0⟩) W ho (zgj _) hv rfl (za7 _) hne hpl (by omega) hb
 rw [hfl.1,hfl.2] at hinF;obtain ⟨i,hi⟩:∃ i,oY h.own z=i:=⟨_,rfl⟩;obtain ⟨had,hhd⟩:∃ had,zbG h.own z=had:=⟨_,rfl⟩;obtain ⟨nf,hnf⟩:∃ nf,zbC h.own z h.id=nf:=⟨_,rfl⟩;rw [hi] at hf1 hf3 hpl hbs hinF hins;rw [hhd] at hbs hlen3 hins hins2;rw [hnf] at hf1 hf3 hil hlen3 hins hins2;have hgr:za0 h z ep=if h.opn=true∧h.p.zone=z then iT ⟨h.id,nf.set i ⟨z,f.host,ep⟩,h.s,h.opn,h.p,h.m,h.ver,h.seq⟩ else ⟨h.id,nf.set i ⟨z,f.host,ep⟩,h.s,h.opn,h.p,h.m,h.ver,h.seq⟩:=by unfold za0;rw [hf3]
 obtain ⟨res,hres⟩:∃ res,za0 h z ep=res:=⟨_,rfl⟩;rw [hres] at hgr ⊢;have hi0:i<nf.length:=(zil.1 hf1).1;have HF1:=zia hf1;have HINS:=zia hins;have HINS2:=zia hins2;have HGR:=zia hgr;have HLEN:=zia hlen3;have HF2:=zia hf2;have HI0:=zia hi0;have HPL:=zia hpl;have hownl:=hs.own;clear hf1 hf2 hf3 hins hins2 hgr hlen3 hfl hres hnf hhd hi hso hi0 hpl;go_enter Tryz.func21,Tryz.ntmps21
 go_wp2_with fail;generalize (w.alloc (.cells (hoS h Ao co As cs Ab cb Al cl Am cm) 37)).alloc (.cells #[.int .i64 0,.slice none 0 0,.slice none 0 0,.bool false,.int .i64 0,.int .i64 0,.int .i64 0,.int .i64 0,.int .i64 0,.int .i64 0,.slice none 0 0,.slice none 0 0,.slice none 0 0,.int .i64 0,.int .i64 0] 37)=w1 at E ⊢;refine (hco _ (E.get m0) (fun b hb=>by have:=hK b hb;have:=(E.at_ m0).lt;omega)).mono ?_
 rintro e w2 ⟨Ao2,co2,As2,cs2,Ab2,cb2,Al2,cl2,Am2,cm2,rfl,hown,hsp,hbf,hrc,hex,hb2⟩;clear hco;have hg1:w.heap.size+1<w1.heap.size:=(E.at_ m0).lt;replace E:=E.step hb2;obtain ⟨q0,f0,t0⟩:=E.rules m1;go_upto_region 4 with fail;refine eV (K:=fun W=>Code.wp _ _ _ _ W) (E.at_ m1) _ _ _ _ _ _ _ _ _ _ _ _ _ _ _ ?_
 intro w3 hs3 ht3 hB3;have hb3:=aA.upon E.below ht3 (zic _) (zic _);obtain ⟨Ao2',co2',xo,e1,ow,hxo⟩:=hown;injection e1 with e1 _ e2;subst e1 e2;have o3:=aH ow ht3 (by omega)
 have hsp3:=hsp.turned ht3 (fun b hb e=>by have:=hb.1;omega)
 have hbf3:=hbf.turned ht3 (fun b hb e=>by have:=hb.1;omega)
 have hrc3:=hrc.turned ht3 (fun b hb e=>by rcases hb with hb | hb;have:=hb.1;omega;have:=hK b hb;omega)
 have hex3:=hex.turned ht3 (fun b hb e=>by have:=hb.1;omega)
 have hBz:=(E.at_ m0).turned ht3 (show ¬w.heap.size+1=w.heap.size by omega)
 have hs2:=hb2.size;clear E q0 f0 t0 ht3 hsp hbf hrc hex ow hb2;have hxo':xo=h.own.flatMap lD:=cT.1 hxo;have hoW:zf8 Rp.fn w3 w1.heap.size 138 (fun _=>False) (.slice Ao2 h.own.length co2) h.own:=⟨Ao2,co2,xo,rfl,o3,cT.2 hxo'⟩
 have hoL:IsL Rp.fn w3 (fun b=>w.heap.size+1≤b) (.slice Ao2 h.own.length co2) h.own:=(hoW.isL (by have:=hs.own;omega)).more fun b hb=>by rcases hb with hb | hb;omega;exact hb.elim
 clear hoW;rw [hxo'] at o3;clear hxo hxo';obtain ⟨q0,f0⟩:=hB3.rules;have t0:=hB3.lt;go_wp2_with fail;refine (hbs _ _ _ hoL).mono ?_;rintro e w4 ⟨rfl,hb4⟩;have hB4:=hB3.step hb4;have o4:=aD o3 hb4 (zic _);have hs4:=hb4.size;clear hbs hoL q0 f0 t0;obtain ⟨q0,f0⟩:=hB4.rules;have t0:=hB4.lt;go_upto_if 27 with fail
 have hgw:w.heap.size<w1.heap.size:=by omega
 go_cut [9] (fun x9 wx=>(∃ y,x9=y)∧∃ (g5 n5 c5:Nat),Blk wx w.heap.size 37 (hoC h (.slice (some ⟨g5,0,none⟩) n5 c5) (.slice As2 h.s.length cs2) (.slice Ab2 h.p.buf.length cb2) (.slice Al2 h.p.l.length cl2) (.slice Am2 h.m.length cm2))∧Hid (nf.length=n5)∧wx.ownsRow w1.heap.size 138 3 (.slice (some ⟨g5,0,none⟩) n5 c5) n5 (nf.flatMap lD) ∧
  ((Value.slice Ao2 h.own.length co2).ownBlock=some g5∨w4.heap.size≤g5)∧aA w4 wx (fun b=>b=w.heap.size∨(Value.slice Ao2 h.own.length co2).ownBlock=some b))
 case first=>
  cases hc:had with
  | true=>
    rw [hc] at HINS2;have he:=HINS2.out rfl;have hl0:0<h.own.length:=by have:=HI0.out;rw [he] at this;omega
    obtain ⟨g5,cur,e5,-,-,-⟩:=gM o4 hl0;subst e5;have HE:=zia he;clear he hl0;go_wp2;go_meet;have he:=HE.out;exact ⟨⟨_,rfl⟩,g5,h.own.length,co2,hB4,zia (by rw [he]),by rw [he];exact o4,.inl rfl,aA.refl _ _⟩
  | false=>
    rw [hc] at HINS HLEN;have hvb:Blk (w4.alloc (.cells #[.int .i64 z,.int .i64 h.id,.int .i64 0] 138)) w4.heap.size 138 (lD ⟨z,h.id,0⟩).toArray:=Blk.new _ _ _ rfl;have hol4:=o4.lt;have hs5:w1.heap.size≤w4.heap.size:=by omega
    go_wp2_with fail;refine (hinF _ _ _ _ _ (o4.alloc _) hvb (fun e=>by have:=(hol4 _ e.symm).2;omega) (by rw [zid];omega)).mono ?_
    rintro e w5 ⟨A5,c5,rfl,own5,-,ht5,hl5⟩;rw [HINS.out (by first | rfl | trivial)] at own5
    have ht45:aA w4 w5 (fun b=>(Value.slice Ao2 h.own.length co2).ownBlock=some b):=((aA.refl _ _).alloc _).trans ht5
    have hB5:=hB4.turned ht45 (fun e=>by have:=(hol4 _ e).1;omega)
    obtain ⟨g5,cur,e5,-,-,-⟩:=gM own5 (Nat.succ_pos _);subst e5;clear ht5 hvb hinF q0 f0 t0;obtain ⟨q1,f1⟩:=hB5.rules;have t1:=hB5.lt;go_wp2;go_meet;refine ⟨⟨_,rfl⟩,g5,h.own.length+1,c5,hB5.set_ 1 _,zia (by rw [HLEN.out];rfl),aH own5 ((aA.refl _ (fun b=>b=w.heap.size)).set (g:=w.heap.size) rfl 1 _) hgw,?_,(ht45.mono fun b hb=>.inr hb).set (g:=w.heap.size) (.inl rfl) 1 _⟩
    rcases hl5 g5 rfl with h1 | h1
    · exact .inl h1
    · exact .inr (by rw [zid] at h1;omega)
 case rest=>
  obtain ⟨⟨y9,rfl⟩,g5,n5,c5,hB5,HN5,own5,hg5,ht45⟩:=hcut;have hol4:=o4.lt;have hn5:i<n5:=by rw [←HN5.out];exact HI0.out
  have hs5:=ht45.size;have hs14:w1.heap.size≤w4.heap.size:=by omega
  have kk:∀ b,(w1.heap.size≤b∧(Value.slice Ao2 h.own.length co2).ownBlock≠some b)→¬(b=w.heap.size∨(Value.slice Ao2 h.own.length co2).ownBlock=some b):=fun b hb e=>by rcases e with e | e;(have:=hb.1;omega);exact hb.2 e
  have kr:∀ b,((w1.heap.size≤b∧(Value.slice Ao2 h.own.length co2).ownBlock≠some b)∨K b)→¬(b=w.heap.size∨(Value.slice Ao2 h.own.length co2).ownBlock=some b):=fun b hb e=>by
   rcases hb with hb | hb
   · exact kk b hb e
   · have:=hK b hb
     rcases e with e | e
     · omega
     · have:=(hol4 b e).1;omega
  have hsp5:=(hsp3.step hb4).ltSp.turned ht45 fun b hb=>kk b hb.1
  have hbf5:=(hbf3.step hb4).lt.turned ht45 fun b hb=>kk b hb.1
  have hrc5:=(hrc3.step hb4).ltC.turned ht45 fun b hb=>kr b hb.1
  have hex5:=(hex3.step hb4).ltEx.turned ht45 fun b hb=>kk b hb.1
  have hBz5:=(hBz.step hb4).turned ht45 (fun e=>by rcases e with e | e;omega;have:=(hol4 _ e).1;omega)
  have hb05:Below w.heap.size w wc:=(hb3.trans (hb4.mono hb3.size)).trans (ht45.below (fun k hk=>by rcases hk with hk | hk;omega;have:=(hol4 _ hk).1;omega) (by omega))
  have hl5:w1.heap.size≤g5:=by rcases hg5 with hg5 | hg5;exact (hol4 _ hg5).1;omega
  have kg:∀ b,(w1.heap.size≤b∧(Value.slice Ao2 h.own.length co2).ownBlock≠some b)→b<w4.heap.size→b≠g5:=fun b hb h4 e=>by rcases hg5 with hg5 | hg5;exact hb.2 (by rw [e];exact hg5);omega
  clear hsp3 hbf3 hrc3 hex3 hBz hB4 o3 o4 hb4 hB3 hinF ht45;obtain ⟨ad,hadE,hadd⟩:∃ ad:Addr,(⟨g5,0,none⟩:Addr)=ad∧∀ o,ad.add o=⟨g5,o,none⟩:=⟨_,rfl,fun o=>by unfold Addr.add;split <;> simp_all⟩
  obtain ⟨_,cur,eg,-,hBr,hcur⟩:=gM own5 (by omega)
  injection eg with eg;injection eg with eg;subst eg;obtain ⟨q1,f1⟩:=hB5.rules;have t1:=hB5.lt;obtain ⟨q2,f2⟩:=hBr.rules;have t2:=hBr.lt;have i0:(0:Int)≤(i:Int):=by omega
  have i1:(i:Int)<(n5:Int):=by omega
  have hcc:=hcur _ _ (zhb HF1.out);go_upto_region 8 with fail;have own6:=gV own5 (i*3+2) (.int .i64 ep);rw [zhs HF1.out,HF2.out] at own6;have hnl:(nf.set i ⟨z,f.host,ep⟩).length=n5:=by rw [zjs];exact HN5.out
  have ht6:aA wc (wc.setCell ⟨g5,i*3+2,none⟩ (.int .i64 ep)) (fun b=>b=g5):=(aA.refl _ (fun b=>b=g5)).set (g:=g5) rfl _ _
  have hB6:=hB5.turned ht6 (show ¬w.heap.size=g5 by omega)
  have hBz6:=hBz5.turned ht6 (show ¬w.heap.size+1=g5 by omega)
  generalize wc.setCell ⟨g5,i*3+2,none⟩ (.int .i64 ep)=w6 at own6 ht6 hB6 hBz6 ⊢;have kg2:∀ b,((w1.heap.size≤b∧(Value.slice Ao2 h.own.length co2).ownBlock≠some b)∨K b)∧b<w4.heap.size→b≠g5:=fun b hb e=>by
   rcases hb.1 with h1 | h1
   · exact kg b h1 hb.2 e
   · have:=hK b h1;omega
  have hs6:=ht6.size;have hsp6:=(hsp5.turned ht6 fun b hb=>kg b hb.1 hb.2).more (K':=fun b=>w1.heap.size≤b∨K b) fun b hb=>.inl hb.1.1
  have hbf6:=(hbf5.turned ht6 fun b hb=>kg b hb.1 hb.2).more (K':=fun b=>w1.heap.size≤b∨K b) fun b hb=>.inl hb.1.1
  have hex6:=(hex5.turned ht6 fun b hb=>kg b hb.1 hb.2).more (K':=fun b=>w1.heap.size≤b∨K b) fun b hb=>.inl hb.1.1
  have hrc6:=(hrc5.turned ht6 fun b hb=>kg2 b hb).more (K':=fun b=>w1.heap.size≤b∨K b) fun b hb=>hb.1.imp (fun h=>h.1) id
  have hoW:zf8 Rp.fn w6 w1.heap.size 138 (fun _=>False) (.slice (some ⟨g5,0,none⟩) (nf.set i ⟨z,f.host,ep⟩).length c5) (nf.set i ⟨z,f.host,ep⟩):=⟨_,_,_,rfl,by rw [hnl];exact own6,cT.2 rfl⟩
  have hfn6:IsL Rp.fn w6 (fun b=>w1.heap.size≤b∨K b) (.slice (some ⟨g5,0,none⟩) n5 c5) (nf.set i ⟨z,f.host,ep⟩):=by
   have:=(hoW.isL (by rw [hnl];have:=HN5.out;omega)).more (K':=fun b=>w1.heap.size≤b∨K b) fun b hb=>hb.imp id (fun h=>h.elim)
   rwa [hnl] at this
  have hb06:Below w.heap.size w w6:=hb05.trans (ht6.below (fun k hk=>by omega) hb05.size)
  clear hsp5 hbf5 hrc5 hex5 hoW own5 own6 ht6 hB5 hBz5 q1 f1 t1 q2 f2 t2 hcc hcur hBr hb05 kk kr kg kg2 hol4 hadd hadE;obtain ⟨nf6,hnf6⟩:∃ x,nf.set i ⟨z,f.host,ep⟩=x:=⟨_,rfl⟩;rw [hnf6] at hfn6 hnl HGR;obtain ⟨h6,hh6⟩:∃ x:Ho,(⟨h.id,nf6,h.s,h.opn,h.p,h.m,h.ver,h.seq⟩:Ho)=x:=⟨_,rfl⟩;rw [hh6] at HGR;have hho:aY w6 (fun b=>w1.heap.size≤b∨K b) (.agg (hoC h6 (.slice (some ⟨g5,0,none⟩) n5 c5) (.slice As2 h.s.length cs2) (.slice Ab2 h.p.buf.length cb2) (.slice Al2 h.p.l.length cl2) (.slice Am2 h.m.length cm2))) h6:=by
   subst hh6;exact ⟨_,_,_,_,_,rfl,hfn6,hsp6,hbf6,hrc6,hex6⟩
  have hB6':Blk w6 w.heap.size 37 (hoC h6 (.slice (some ⟨g5,0,none⟩) n5 c5) (.slice As2 h.s.length cs2) (.slice Ab2 h.p.buf.length cb2) (.slice Al2 h.p.l.length cl2) (.slice Am2 h.m.length cm2)):=by subst hh6;exact hB6
  have hop:h6.opn=h.opn∧h6.p.zone=h.p.zone:=by subst hh6;exact ⟨rfl,rfl⟩
  rw [←hop.1,←hop.2] at HGR;clear hfn6 hsp6 hbf6 hrc6 hex6 hnl hnf6 hh6 hB6 hop;have E:=((Kn.start w6).know hB6').know hBz6 |>.give aB.ho hho
  obtain ⟨q1,f1,t1⟩:=E.rules m1;obtain ⟨clo,hcl⟩:∃ clo,(h6.opn && decide (h6.p.zone=z))=clo:=⟨_,rfl⟩;have hg7:if clo then res=iT h6 else res=h6:=by
   rw [←hcl,HGR.out];by_cases hx:h6.opn=true∧h6.p.zone=z
   · simp [hx.1,hx.2]
   · rw [zig hx]
     by_cases h1:h6.opn=true
     · have h2:¬h6.p.zone=z:=fun h2=>hx ⟨h1,h2⟩
       simp [h1,h2]
     · simp [h1]
  have HG7:=zia hg7;have hs61:w.heap.size+1<w1.heap.size:=hg1;have h16:w1.heap.size≤w6.heap.size:=by omega
  clear hg7;have HCL:=zia hcl;clear hcl;go_cut [52] (fun x52 wx=>x52=.bool clo∧wx=w6)
  case first=>
   cases hop:h6.opn with
   | false=>
     have e:=HCL.out;rw [hop] at e;unfold hoC at q1;rw [hop] at q1;have HE:=zia e;clear e;go_wp2;go_meet;exact ⟨by rw [←HE.out];rfl,rfl⟩
   | true=>
     have e:=HCL.out;rw [hop] at e;unfold hoC at q1;rw [hop] at q1;have HE:=zia e;clear e;go_wp2;go_meet;exact ⟨by rw [←HE.out,zku];rfl,rfl⟩
  case rest=>
   obtain ⟨rfl,rfl⟩:=hcut;go_upto_if 52 with fail
   go_cut [] (fun wx=>∃ vo vs vb vl vm,Blk wx w.heap.size 37 (hoC res vo vs vb vl vm)∧aY wx (fun b=>w1.heap.size≤b∨K b) (.agg (hoC res vo vs vb vl vm)) res∧Blk wx (w.heap.size+1) 37 #[.int .i64 0,.slice none 0 0,.slice none 0 0,.bool false,.int .i64 0,.int .i64 0,.int .i64 0,.int .i64 0,.int .i64 0,.int .i64 0,.slice none 0 0,.slice none 0 0,.slice none 0 0,.int .i64 0,.int .i64 0]∧Below w.heap.size w wx)
   case first=>
    cases hcc:clo with
    | false=>
      rw [hcc] at HG7;have e:res=h6:=HG7.out;subst e;go_wp2;go_meet;exact ⟨_,_,_,_,_,hB6',hho,hBz6,hb06⟩
    | true=>
      rw [hcc] at HG7;have e:res=iT h6:=HG7.out;have HE:=zia e;clear e;go_wp2_with fail;refine (rF h6 _ _ _ hho).mono ?_;rintro e w7 ⟨v7,rfl,hho7,hb7⟩;rw [←HE.out] at hho7;obtain ⟨vo7,vs7,vb7,vl7,vm7,rfl,a1,a2,a3,a4,a5⟩:=hho7;obtain ⟨Ao7,co7,rfl,-⟩:=a1.form;obtain ⟨As7,cs7,rfl,-⟩:=a2.form;obtain ⟨Ab7,cb7,rfl,-⟩:=aK a3;obtain ⟨Al7,cl7,rfl,-⟩:=a4.form;obtain ⟨Am7,cm7,rfl,-⟩:=a5.form;replace E:=E.step hb7;clear q1 f1 t1;obtain ⟨q1,f1,t1⟩:=E.rules m1;go_wp2;refine eV (K:=fun W=>Met _ _ W) (E.at_ m1) _ _ _ _ _ _ _ _ _ _ _ _ _ _ _ ?_
      intro w8 hs8 ht8 hB8;go_meet;have hb7:=hb06.trans (hb7.mono hb06.size);have k8:∀ b,(w1.heap.size≤b∨K b)→¬b=w.heap.size:=fun b hb e=>by rcases hb with hb | hb;omega;have:=hK b hb;omega
      exact ⟨_,_,_,_,_,hB8,⟨_,_,_,_,_,rfl,a1.turned ht8 k8,a2.turned ht8 k8,a3.turned ht8 k8,a4.turned ht8 k8,a5.turned ht8 k8⟩,(E.at_ m0).turned ht8 (show ¬w.heap.size+1=w.heap.size by omega),aA.upon hb7 ht8 (zic _) (zic _)⟩
   case rest=>
    obtain ⟨vo,vs,vb,vl,vm,hB7,hho7,hBz7,hb7⟩:=hcut;have hho8:=hho7;obtain ⟨vo',vs',vb',vl',vm',ev,a1,a2,a3,a4,a5⟩:=hho7;injection ev with ev;injection ev with ev;simp only [List.cons.injEq,zks,zkn] at ev;obtain ⟨rfl,rfl,rfl,rfl,rfl⟩:=ev;obtain ⟨Ao7,co7,rfl,-⟩:=a1.form;obtain ⟨As7,cs7,rfl,-⟩:=a2.form;obtain ⟨Ab7,cb7,rfl,-⟩:=aK a3;obtain ⟨Al7,cl7,rfl,-⟩:=a4.form;obtain ⟨Am7,cm7,rfl,-⟩:=a5.form;clear E q1 f1 t1 hB6' hBz6 hho;obtain ⟨q0,f0⟩:=hB7.rules;obtain ⟨q1,f1⟩:=hBz7.rules;have t0:=hB7.lt;have t1:=hBz7.lt;go_wp2;refine eV (K:=fun W=>bodyPost _ _ _ _ _ W) hBz7 _ _ _ _ _ _ _ _ _ _ _ _ _ _ _ ?_
    intro w9 hs9 ht9 hB9;obtain ⟨q2,f2⟩:=hB9.rules;have k9:∀ b,(w1.heap.size≤b∨K b)→¬b=w.heap.size+1:=fun b hb e=>by rcases hb with hb | hb;omega;have:=hK b hb;omega
    have km:∀ b,(w1.heap.size≤b∨K b)→w.heap.size≤b∨K b:=fun b hb=>by rcases hb with hb | hb;exact .inl (by omega);exact .inr hb
    refine zik (v:=.tuple #[.agg (hoS res Ao7 co7 As7 cs7 Ab7 cb7 Al7 cl7 Am7 cm7),.int .i64 0]) (by simp [results,Tryz.results21,go_sem,q2]) rfl
     ⟨_,rfl,⟨_,_,_,_,_,rfl,(a1.turned ht9 k9).more km,(a2.turned ht9 k9).more km,(a3.turned ht9 k9).more km,(a4.turned ht9 k9).more km,(a5.turned ht9 k9).more km⟩,aA.upon hb7 ht9 (by omega) (zic _)⟩
