/- A part of the proof. -/
import Derived.Test.YtcapmeefiglfjaaGreatReadW
import Derived.Test.YtcapmeefiglfjaaGreatAppZG
set_option linter.unusedSimpArgs false
set_option maxHeartbeats 16000000
set_option maxRecDepth 100000
namespace Go.Proofs.YtcapmeefiglfjaaGreat
open Go.RowKit Go.WideMaps
def lR (zs:List Zn) (m:List Ex) (lba ver:Int):Nat→Ca × List UInt8→Ca × List UInt8
 | 0,s=>s
 | j+1,s=>((blkC (lR zs m lba ver j s).1 (lba+j) ver (blockB zs m (lba+j))).1,(lR zs m lba ver j s).2++(blkC (lR zs m lba ver j s).1 (lba+j) ver (blockB zs m (lba+j))).2)
def zfA (zs:List Zn) (m:List Ex) (s:Ca × Int × List UInt8) (x:Ex):Ca × Int × List UInt8:=
 if x.zone<0 then (s.1,s.2.1+x.n,s.2.2++bZ (x.n.toNat*16)) else ((lR zs m x.lba x.ver x.n.toNat (s.1,s.2.2)).1,s.2.1,(lR zs m x.lba x.ver x.n.toNat (s.1,s.2.2)).2)
def iQ (zs:List Zn) (m:List Ex) (l:List Ex) (k:Ca) (t:Int):Ca × Int × List UInt8:=l.foldl (zfA zs m) (k,t,[])
def jU (zs:List Zn) (h:Ho) (k:Ca) (t lba n:Int):Ca × Int × List UInt8:=if (dQ zs h lba n).2=0 then iQ zs h.m (lookE h.m lba n) k t else (k,t,[])
theorem lS:∀ (l:List Ex) (a z:Int),kG a l z→dJ l=z-a∧0≤dJ l
 | [],a,z,h=>by have:a=z:=h;subst this;simp [dJ]
 | p::l,a,z,⟨h1,h2,h3⟩=>by
   obtain ⟨i1,i2⟩:=lS l (aL p) z h3;unfold aL at i1;simp only [dJ];omega
theorem sP:∀ (l:List Ex) (a z:Int),kG a l z→∀ p∈l,0<p.n
 | p::l,a,z,⟨h1,h2,h3⟩,q,hq=>by
   rcases zim.1 hq with h | h
   · rw [h];exact h2
   · exact sP l _ _ h3 q h
theorem nF:∀ (l:List Ex),(∀ p∈l,0<p.n)→(l.length:Int)≤dJ l
 | [],_=>by simp [dJ]
 | p::l,h=>by
   have:=nF l fun q hq=>h q (zii _ hq)
   have:=h p (zih ..);simp only [dJ,List.length_cons];omega
theorem zco (l:List Ex) (a z:Int) (h:kG a l z) (j:Nat):0≤dJ (l.take j)∧dJ (l.take j)≤z-a:=by
 have h1:=(lS l a z h).1;have hp:=sP l a z h;have h2:=nF (l.take j) fun p hp'=>hp p (zjh hp')
 have h3:=nF (l.drop j) fun p hp'=>hp p (zky hp')
 have h4:=oL (l.take j) (l.drop j);rw [ziP] at h4;omega
theorem zhp {m:List Ex} {b:Int} {t:Int × Int × Int} (h:see m b=some t):∃ e∈m,e.ver=t.1:=by
 unfold see at h;cases hf:m.find? (aX · b) with
 | none=>rw [hf] at h;cases h
 | some e=>
   rw [hf] at h;injection h with h;exact ⟨e,zjV hf,by rw [←h];rfl⟩
theorem zes {m:List Ex} {lba n V:Int} (hm:aC 0 m) (hb:aJ lba n) (hV:∀ e∈m,e.ver≤V):∀ p∈lookE m lba n,¬p.zone<0→0≤p.ver∧p.ver≤V∧bO p:=fun p hp hz=>by
 obtain ⟨h1,_,_,h4⟩:=(fI hm hb).1 p hp;rcases h4 with ⟨⟨_,g,_⟩,_⟩ | ⟨h5,h6⟩
 · omega
 · obtain ⟨e,he,h7⟩:=zhp (h6 p.lba (by unfold aX aL;simp;omega))
   have:=hV e he;rw [h7] at this;exact ⟨h5.2.1,this,h5⟩
theorem zgK (k:Ca) (lba ver:Int) (B:List UInt8):0≤k.hit→0≤k.miss→0≤(blkC k lba ver B).1.hit∧0≤(blkC k lba ver B).1.miss∧(blkC k lba ver B).1.hit≤k.hit+1∧(blkC k lba ver B).1.miss≤k.miss+1∧(blkC k lba ver B).1.l.length≤k.l.length+1:=by
 intro h1 h2;have hd:∀ i,(bH k.l i).length≤k.l.length:=fun i=>zj3 _ _
 unfold blkC;cases hg:nC k.l lba ver with
 | some y=>
   refine ⟨by simp only;omega,h2,by simp only;omega,by simp only;omega,?_⟩
   have:=hd lba;simp only [List.length_cons];omega
 | none=>
   refine ⟨h1,by simp only;omega,by simp only;omega,by simp only;omega,?_⟩
   simp only [iR,mV];have:=hd lba;split
   · omega
   · split
     · rw [List.length_dropLast,List.length_cons];omega
     · rw [List.length_cons];omega
def zbT (k0 k:Ca) (cnt:Int):Prop:=0≤k.hit∧k.hit≤k0.hit+cnt∧0≤k.miss∧k.miss≤k0.miss+cnt∧(k.l.length:Int)≤k0.l.length+cnt
theorem zbT.same {k:Ca} (h1:0≤k.hit) (h2:0≤k.miss):zbT k k 0:=⟨h1,by omega,h2,by omega,by omega⟩
theorem zbT.more {k0 k:Ca} {cnt cnt':Int} (h:zbT k0 k cnt) (hc:cnt≤cnt'):zbT k0 k cnt':=by
 obtain ⟨h1,h2,h3,h4,h5⟩:=h;exact ⟨h1,by omega,h3,by omega,by omega⟩
theorem aA.grow {w w' w'':World} {S:Nat→Prop} (h:aA w w' S) (hb:Below w.heap.size w' w''):aA w w'' S:=
 ⟨hb.os.trans h.os,hb.tape.trans h.tape,hb.output.trans h.output,zit h.size hb.size,fun k hk hn=>(hb.block k hk).trans (h.block k hk hn)⟩
theorem eW {w w':World} {base n:Nat} {e:TypeId} {size:Nat} {v:Value} {xs:List Value} {S:Nat→Prop} (h:w.ownsRow base e size v n xs) (ht:aA w w' S) (hS:∀ b,S b→some b≠v.ownBlock):w'.ownsRow base e size v n xs:=by
 refine ⟨h.1,?_⟩;rcases h.2 with h3 | ⟨g,cap,cur,hv,hg,hh,r⟩
 · exact .inl h3
 · exact .inr ⟨g,cap,cur,hv,hg,by rw [ht.block g (mA hh) (fun h9=>hS g h9 (by rw [hv];rfl))];exact hh,r⟩
theorem xC {zs:List Zn} {m:List Ex} {b:Int} (hm:aC 0 m) (hb:aJ b 1) (hf:rB zs m):(cC zs m b 1).1=blockB zs m b:=by
 rw [iM hm hb (by decide) hf]
 show (List.range 1).flatMap (fun i=>blockB zs m (b+(i:Nat)))=_
 simp [zjU]
theorem zaa {zs:List Zn} {m:List Ex} (hf:rB zs m) (b:Int):(blockB zs m b).length=16:=by
 unfold blockB;cases hs:see m b with
 | none=>unfold bZ;rw [ziC]
 | some t=>
   simp only;rcases hf b t hs with h | ⟨h1,h2,h3⟩
   · rw [zij h];unfold bZ;rw [ziC]
   · split
     · unfold bZ;rw [ziC]
     · rw [zio,ziG];omega
theorem yH (zs:List Zn) (m:List Ex) {l:List Ex} (k:Ca) (t:Int) {j:Nat} (hj:j<l.length):iQ zs m (l.take (j+1)) k t=zfA zs m (iQ zs m (l.take j) k t) l[j]:=by
 unfold iQ;rw [ziy hj,zjp];rfl
theorem zbT.blk {k0 k:Ca} {cnt:Int} (h:zbT k0 k cnt) (lba ver:Int) (B:List UInt8):zbT k0 (blkC k lba ver B).1 (cnt+1):=by
 obtain ⟨h1,h2,h3,h4,h5⟩:=h;obtain ⟨g1,g2,g3,g4,g5⟩:=zgK k lba ver B h1 h3;exact ⟨g1,by omega,g2,by omega,by omega⟩
theorem fM.blk {Kd:Nat→Prop} {w:World} {gr c m g:Nat} {ns:List Nat} {k:Ca} {t:Int} (h:fM Kd w gr c m ns k t) {ty:TypeId} {cs:Array Value} (hB:Blk w g ty cs) (h1:ty≠59) (h2:ty≠107) (h3:ty≠100):¬lW gr c m ns g:=fun hb=>by
 obtain ⟨hR,dt,ah,af,n1,n2⟩:=h;rcases hb with rfl | rfl | hb
 · exact tE hB hR h1 rfl
 · obtain ⟨D,⟨es,kk,hm,_⟩,_⟩:=n1.map
   unfold Blk at hB;rw [hB] at hm;injection hm with hm;cases hm
 · rcases zim.1 hb with h8 | h8
   · exact tE hB n1.nd.ca h2 h8
   · obtain ⟨v3,e3,_⟩:=n1.nd.en _ h8
     exact tE hB e3 h3 rfl
theorem fM.good16 {Kd:Nat→Prop} {w:World} {gr c m:Nat} {ns:List Nat} {k:Ca} {t:Int} (h:fM Kd w gr c m ns k t):∀ y∈k.l,y.b.length=16:=fun y hy=>by
 obtain ⟨_,dt,ah,af,h1,h2⟩:=h;rw [←h2] at hy;obtain ⟨g,hg,rfl⟩:=zja.1 hy;exact (h1.good g hg).2.2.2.2
theorem zgs {k:Ca} {lba ver:Int} {B:List UInt8} (hk:∀ y∈k.l,y.b.length=16) (hB:B.length=16):(blkC k lba ver B).2.length=16:=by
 unfold blkC;cases hg:nC k.l lba ver with
 | some y=>exact hk y (gI hg).1
 | none=>exact hB
theorem sQ {gr c m B b:Nat} {ns ns':List Nat} (hs:∀ g∈ns',g∈ns∨B≤g) (h:¬lW gr c m ns b) (hb:b<B):¬lW gr c m ns' b:=fun h9=>by
 rcases h9 with h8 | h8 | h8
 · exact h (.inl h8)
 · exact h (.inr (.inl h8))
 · rcases zim.1 h8 with h7 | h7
   · exact h (.inr (.inr (by rw [h7];exact zih ..)))
   · rcases hs b h7 with h6 | h6
     · exact h (.inr (.inr (zii _ h6)))
     · omega
theorem oX {Kd:Nat→Prop} {w:World} {gr c m:Nat} {ns:List Nat} {k:Ca} {t:Int} (hr:fM Kd w gr c m ns k t) (hKd:∀ b,w.heap.size≤b→Kd b) (d:Zd) (A:Option Addr) (cA:Nat) (h:Ho) (v:Value) (lba n:Int) (K K':Nat→Prop) (hd:IsL Rp.zone w K (.slice A d.z.length cA) d.z) (hv:aY w K' v h)
 (hK:∀ b,K b→¬lW gr c m ns b) (hK':∀ b,K' b→¬lW gr c m ns b)
 (hok:okD d) (hch:aC 0 h.m) (hf:rB d.z h.m) (hver:∀ e∈h.m,e.ver≤9223372036854775807) (hhit:0≤k.hit∧k.hit≤1000000000000) (hmiss:0≤k.miss∧k.miss≤1000000000000) (ht:0≤t∧t≤1000000000000) (hns:(k.l.length:Int)≤900000) :
 Calls Tryz.prog 11 #[.pointer (some ⟨gr,0,none⟩),.agg (zdC d A cA),v,.int .i64 lba,.int .i64 n] w fun r w'=>
  ∃ vb,r=.returned (.tuple #[vb,.int .i64 (dQ d.z h lba n).2])∧IsB w' (fun b=>w.heap.size≤b) vb (jU d.z h k t lba n).2.2∧bL Kd w w' gr c m ns (jU d.z h k t lba n).1 (jU d.z h k t lba n).2.1:=by
 have hv0:=hv;obtain ⟨vo,vs,vb,vl,vm,rfl,h1,h2,h3,h4,h5⟩:=hv;obtain ⟨Ao,co,rfl,-⟩:=h1.form;obtain ⟨As,cs,rfl,-⟩:=h2.form;obtain ⟨Ab,cb,rfl,-⟩:=aK h3;obtain ⟨Al,cl,rfl,-⟩:=h4.form;obtain ⟨Am,cm,rfl,-⟩:=h5.form;have hre:=fun W hz hh=>zbO d A cA h (.agg (hoS h Ao co As cs Ab cb Al cl Am cm)) lba n K K' W hz hh hok hch hf
 have E:=((((Kn.start w).give aB.list hd).give aB.ho hv0).give aB.list h5) |>.push 26 (zdC d A cA) |>.push 37 (hoS h Ao co As cs Ab cb Al cl Am cm)
 rw [zid] at E;clear h1 h2 h3 h4 h5 hd hv0;obtain ⟨er,her⟩:∃ er,(dQ d.z h lba n).2=er:=⟨_,rfl⟩;rw [her] at hre ⊢;have HER:=zia her;obtain ⟨R,hRe⟩:∃ R,jU d.z h k t lba n=R:=⟨_,rfl⟩;rw [hRe];have HR:=zia hRe;clear her hRe;obtain ⟨i0,hi,hz0,hz1,hz2⟩:=ziH Tryz.info5;go_enter Tryz.func11,Tryz.ntmps11
 go_upto_region 1 with fail;have hlt:=fun {b}=>hr.lt (b:=b)
 generalize (w.alloc (.cells (zdC d A cA) 26)).alloc (.cells (hoS h Ao co As cs Ab cb Al cl Am cm) 37)=w2 at E ⊢;obtain ⟨q0,f0,t0⟩:=E.rules m1;go_wp2_with (refine eG (E.at_ m0) rfl rfl rfl rfl ?_);refine (hre _ (E.get m2) (E.get m1)).mono ?_;rintro r' w3 ⟨A3,c3,rfl,-,hb3⟩;replace E:=E.step hb3;have hs33:w.heap.size≤w3.heap.size:=E.below.size;clear hre q0 f0 t0 hb3;by_cases he0:er=0
 case neg=>
  go_wp2_with fail;go_ret2;have hRR:R=(k,t,[]):=by rw [←HR.out];unfold jU;rw [HER.out,zig he0]
  rw [hRR];exact ⟨_,rfl,IsB.nil_ _ _,bL.same hr E.below⟩
 subst he0;have hsb:dF lba n 256:=by
  have h1:=HER.out;unfold dQ at h1;by_cases h2:dF lba n 256
  · exact h2
  · rw [zij h2] at h1;cases h1
 have hbl:aJ lba n:=⟨hsb.1,by have:=hsb.2.1;omega,by have:=hsb.2.2.1;omega,hsb.2.2.2⟩
 have hlk:=fun W hz=>pD Am cm h.m lba n K' W hz hch hbl
 have hft:=sL hch hbl hf;have hlv:=zes hch hbl hver;obtain ⟨p1,p2,_⟩:=dH hch hbl;have htl:kG lba (lookE h.m lba n) (lba+n):=gJ _ _ _ p1 p2;have hlok:=(fI hch hbl).1;have hRR:R=iQ d.z h.m (lookE h.m lba n) k t:=by rw [←HR.out];unfold jU;rw [HER.out,zij rfl]
 clear p1 p2;obtain ⟨q0,f0,t0⟩:=E.rules m0;go_wp2_with fail;refine (hlk _ (E.get m0)).mono ?_;rintro r' w4 ⟨Al4,cl4,rfl,hol,hb4⟩;have hmt:=zco _ _ _ htl;have hmp:=nF _ (sP _ _ _ htl);have hmm:=(lS _ _ _ htl).1;generalize lookE h.m lba n=lk at hft hlv htl hlok hol hmt hmp hmm hRR ⊢;have HRR:=zia hRR;obtain ⟨ln,hln⟩:∃ ln,lk.length=ln:=⟨_,rfl⟩;have HLN:=zia hln;have hl4:=bI hol rfl (by have:=hsb.2.2.1;omega)
 rw [hln] at hl4 hmp ⊢;replace E:=(E.step hb4).give aB.list hl4;have HFT:=zia hft;have HLV:=zia hlv;have HTL:=zia htl;have HLO:=zia hlok;have HMT:=zia hmt;have hn1:=hsb.2.1;have hn2:=hsb.2.2.1;have hl0:=hsb.1;have hl9:=hsb.2.2.2;obtain ⟨N,hN⟩:∃ N:Nat,n*16=(N:Int):=⟨(n*16).toNat,by omega⟩
 have hN2:N≤4096:=by omega
 have hln9:ln≤256:=by omega
 clear hln hft hlv htl hlok hmt hmm hRR hol hl4 hb4 q0 f0 t0 hlk;go_wp2_with (at_make;refine wpList_make_own _ rfl _ _ 31 rfl w4.heap.size 5 i0 _ 1 Tryz.underlying31 hi hz0 hz1 _ _ _ N rfl rfl (by first | rfl | omega) (by rw [hz2];omega) (by unfold maxLen;omega) (zic _) ?_;intro w5 own5 hg5)
 have hb5:Below w4.heap.size w4 w5:=(zif _ _).grown hg5 (zic _) (fun k hk=>by cases hk)
 have hs45:=E.below.size;have h4:bL (KO Kd (.slice (some ⟨w4.heap.size,0,none⟩) 0 N)) w4 w5 gr c m ns k t:=⟨ns,((hr.moreK (Kd':=fun b=>Kd b∧b<w.heap.size) fun b h1 h2=>⟨h1,h2⟩).step E.below |>.step hb5).moreK fun b h1 _=>⟨h1.1,fun e=>by
  have e:b=w4.heap.size:=by simpa [Value.ownBlock] using e
  have:=h1.2;omega⟩,aA.of hb5,fun _ hg=>.inl hg⟩
 clear hg5 hb5;have hs3:w.heap.size+1<w4.heap.size:=(E.rules m0).2.2;go_loopw [16,18,19,20,21,49] (fun x16 x18 x19 x20 x21 x49 wr=>∃ (j tl:Nat) (Ab:Option Addr) (cb:Nat) (k1:Ca) (t1:Int) (out:List UInt8) (cnt:Int),x49=.int .i64 j∧j≤ln∧x16=.slice Ab tl cb∧Hid (iQ d.z h.m (lk.take j) k t=(k1,t1,out))∧Hid (out.length=tl)∧Hid (dJ (lk.take j)=cnt)∧0≤cnt∧cnt≤n∧(tl:Int)≤16*cnt∧t≤t1∧t1≤t+cnt∧zbT k k1 cnt∧wr.ownsRow w4.heap.size 5 1 (.slice Ab tl cb) tl (aE out)∧bL (KO Kd (.slice Ab tl cb)) w4 wr gr c m ns k1 t1∧(∃ y,x18=y)∧(∃ y,x19=y)∧(∃ y,x20=y)∧∃ y,x21=y) (fun _ _ _ _ _ x49 _=>ln-(intOf x49).toNat)
 case atStart=>exact ⟨0,0,_,_,k,t,[],0,rfl,zir _,rfl,zia rfl,zia rfl,zia rfl,by omega,by omega,by omega,by omega,by omega,zbT.same hhit.1 hmiss.1,own5,h4,⟨_,rfl⟩,⟨_,rfl⟩,⟨_,rfl⟩,_,rfl⟩
 case round=>
  clear own5 h4;obtain ⟨j,tl,Ab,cb,k1,t1,out,cnt,rfl,hj,rfl,HPI,HOL,HCN,hc0,hc1,htl1,ht0,ht1,hbn,hown,hmade,⟨y1,rfl⟩,⟨y2,rfl⟩,⟨y3,rfl⟩,y4,rfl⟩:=hrel;by_cases hlt':j<ln
  case neg=>
   obtain rfl:j=ln:=by omega
   rw [zip (zjA HLN.out)] at HPI;have hRR:R=(k1,t1,out):=by rw [HRR.out];exact HPI.out
   subst hRR;obtain ⟨ns1,hR1,tR1,sR1⟩:=hmade;have hol:out.length=tl:=HOL.out;have hfin:IsB wr (fun b=>w.heap.size≤b) (.slice Ab tl cb) out:=by
    subst hol;exact (IsB.of_own hown (by omega)).more fun b hb=>by omega
   have hmd:bL Kd w wr gr c m ns k1 t1:=bL.pre E.below ⟨ns1,hR1.moreK fun b hb _=>hb.1,tR1,sR1⟩
   clear hown HPI HOL HCN;go_wp2;go_ret2;exact ⟨_,rfl,hfin,hmd⟩
  have hjl:j<lk.length:=by rw [HLN.out];exact hlt'
  obtain ⟨ns1,hR1,tR1,sR1⟩:=hmade;have hzw:=(E.get m3).zlt.turned tR1 (fun b hb=>hK b hb.1)
  have hhw:=aY.keep (aY.lt (E.get m2)) (tR1.cells (K:=fun b=>K' b∧b<w4.heap.size) fun b hb=>hK' b hb.1)
  have hlw:=(E.get m0).turned tR1 (fun b hb h9=>by have:=hlt h9;omega)
  have hBd:=(E.at_ m1).turned tR1 (fun h9=>by have:=hlt h9;omega)
  have hBh:=(E.at_ m0).turned tR1 (fun h9=>by have:=hlt h9;omega)
  have HPS:=zia (yH d.z h.m k t hjl);have HMS:=zia (tC hjl);obtain ⟨adx,rfl,-,c0,c1,c2,c3,c4⟩:=bY hlw (zib hjl);have hpm:=ziD hjl;obtain ⟨hfit,hpn⟩:=HFT.out _ hpm;have hver':=HLV.out _ hpm;obtain ⟨hp0,hplo,hphi,-⟩:=HLO.out _ hpm;have hcn2:=HMT.out (j+1);rw [HMS.out,HCN.out] at hcn2;rw [HPI.out] at HPS;generalize lk[j]=p at HPS HMS hfit hpn hver' hp0 hplo hphi hcn2 c0 c1 c2 c3 c4;obtain ⟨plba,pn,pver,pzone,poff⟩:=p;unfold aL at hphi;simp only at hpn hver' hp0 hplo hphi hcn2 c0 c1 c2 c3 c4;obtain ⟨q,rfl⟩:∃ q:Nat,pn=(q:Int):=⟨pn.toNat,by omega⟩
  have j1:(j:Int)<(ln:Int):=by omega
  have j0:(0:Int)≤(j:Int):=by omega
  have hM:Hid (dJ (lk.take (j+1))=cnt+q):=zia (by rw [HMS.out,HCN.out])
  clear HMS hfit;by_cases hz:pzone<0
  case pos=>
   have hex:zfA d.z h.m (k1,t1,out) ⟨plba,q,pver,pzone,poff⟩=(k1,t1+q,out++bZ (q*16)):=by
    unfold zfA;rw [zij hz];simp
   rw [hex] at HPS;clear hex hver' hpn hzw hhw hlw hBd hBh;go_upto_region 12 with fail;have hbx:Below wr.heap.size wr (wr.alloc (.cells #[.int .i64 plba,.int .i64 q,.int .i64 pver,.int .i64 pzone,.int .i64 poff] 90)):=zBA;have hBx:=Blk.new wr 90 #[.int .i64 plba,.int .i64 q,.int .i64 pver,.int .i64 pzone,.int .i64 poff] rfl;have h6:=hR1.step hbx;have hs6:w4.heap.size≤wr.heap.size:=tR1.size;have tR6:=tR1.trans (aA.of hbx);replace hown:=hown.alloc (.cells #[.int .i64 plba,.int .i64 q,.int .i64 pver,.int .i64 pzone,.int .i64 poff] 90);obtain ⟨gx,hgx⟩:∃ g,wr.heap.size=g:=⟨_,rfl⟩;clear c0 c1 c2 c3 c4 hR1 tR1;generalize wr.alloc (.cells #[.int .i64 plba,.int .i64 q,.int .i64 pver,.int .i64 pzone,.int .i64 poff] 90)=w6 at hBx h6 tR6 hown ⊢;rw [hgx] at hBx hs6 ⊢;clear hbx hgx;have hR6:=h6.1;have hgr:gx≠gr:=fun e=>h6.blk hBx (by decide) (by decide) (by decide) (.inl e)
   have wt:IntKind.i64.wrap (t1+(q:Int))=t1+(q:Int):=ziI _ (by omega)
   replace h6:=h6.step (zif _ _).drew;replace tR6:=tR6.trans (aA.of (zif _ _).drew);replace hown:=aD hown (zif w6.heap.size w6).drew (zic _);replace hBx:=hBx.drew;replace hR6:=hR6.drew;refine cZ (S:=fun (L:Array Bool) (W:World)=>L.getD 9 false=true∨((∀ o,W.cell? ⟨gr,o,none⟩=(#[.pointer (some ⟨c,0,none⟩),.int .i64 t1]:Array Value)[o]?)∧∀ o,W.cell? ⟨gx,o,none⟩=(#[.int .i64 plba,.int .i64 q,.int .i64 pver,.int .i64 pzone,.int .i64 poff]:Array Value)[o]?)) (by kernel_rfl) (.inr ⟨hR6.rules.1,hBx.rules.1⟩) (fun hDn hSn=>?_)
   generalize w6.drew=w7 at hBx h6 tR6 hown hR6 hDn hSn ⊢;refine wD 0 56 (fun hDn hSn=>?_)
   refine wD 1 57 (fun hDn hSn=>?_)
   refine wD 2 58 (fun hDn hSn=>?_)
   refine aN (i:=3) (oi:=⟨some 59,_,_,_,_,_⟩) (v:=?_) (Si:=fun W=>(∀ o,W.cell? ⟨gr,o,none⟩=(#[.pointer (some ⟨c,0,none⟩),.int .i64 t1]:Array Value)[o]?)∧∀ o,W.cell? ⟨gx,o,none⟩=(#[.int .i64 plba,.int .i64 q,.int .i64 pver,.int .i64 pzone,.int .i64 poff]:Array Value)[o]?) rfl (by kernel_rfl) (by kernel_rfl) (by kernel_rfl) (fun _ _ _ h=>h) (fun L W hD hu hS=>hS.resolve_left (fun h=>by have h:=hD.2 9 _ rfl h ⟨3,.phase⟩ (by simp) rfl;rw [hu] at h;cases h)) (fun L W=>by simp only [zjf false (show (3:Nat)≠9 by omega)]) (Or.inl ⟨by rfl,?hy⟩) (by assumption) (by assumption) (fun hDn hSn=>?_)
   case hy=>intro w hSw;(try dsimp only at hSw);go_simp;with_reducible rfl
   refine wD 4 60 (fun hDn hSn=>?_)
   refine aN (i:=5) (oi:=⟨some 61,_,_,_,_,_⟩) (v:=?_) (Si:=fun W=>(∀ o,W.cell? ⟨gr,o,none⟩=(#[.pointer (some ⟨c,0,none⟩),.int .i64 t1]:Array Value)[o]?)∧∀ o,W.cell? ⟨gx,o,none⟩=(#[.int .i64 plba,.int .i64 q,.int .i64 pver,.int .i64 pzone,.int .i64 poff]:Array Value)[o]?) rfl (by kernel_rfl) (by kernel_rfl) (by kernel_rfl) (fun _ _ _ h=>h) (fun L W hD hu hS=>hS.resolve_left (fun h=>by have h:=hD.2 9 _ rfl h ⟨5,.phase⟩ (by simp) rfl;rw [hu] at h;cases h)) (fun L W=>by simp only [zjf false (show (5:Nat)≠9 by omega)]) (Or.inl ⟨by rfl,?hy⟩) (by assumption) (by assumption) (fun hDn hSn=>?_)
   case hy=>intro w hSw;(try dsimp only at hSw);go_simp;with_reducible rfl
   refine wD 6 62 (fun hDn hSn=>?_)
   refine wD 7 63 (fun hDn hSn=>?_)
   refine wD 8 64 (fun hDn hSn=>?_)
   refine aR (i:=9) (o:=⟨none,_,_,_,_,_⟩) (by kernel_rfl) rfl (by assumption) (fun K hK=>?_)
   obtain ⟨q0,f0⟩:=hR6.rules;have u0:=hR6.lt;go_simp;refine h6.trims (t1+q) (K:=K _) ?_;intro w8 s8 t8 h8;refine hK.out _ _ (.inl (by kernel_rfl)) (fun hDn hSn=>?_)
   clear q0 f0 u0;clear hK K;try simp only [pu,List.set]
   refine cX (by kernel_rfl) ?_ _
   have hg4:gr<w4.heap.size:=by have:=hlt (.inl rfl:lW gr c m ns gr);omega
   replace hown:=aH hown t8 hg4;replace hBx:=hBx.turned t8 hgr;have tR8:=tR6.trans (t8.mono fun b hb=>.inl hb)
   obtain ⟨q0,f0⟩:=hBx.rules;have u0:=hBx.lt;have hs8:=tR8.size;clear hR6 h6 tR6 hDn hSn t8;go_wp2_with (at_builtin;refine mU rfl (.tmp 65) (.tmp 68) _ _ rfl w4.heap.size 5 i0 .i64 .i64 Tryz.underlying31 Tryz.underlying3 hi hz0 hz1 hz2 rfl hown (q*16) rfl (by omega) hs8 ?_;intro A9 c9 w9 own9 hg9)
   have h9:=h8.grew hown hg9;have tR9:aA w4 w9 (lW gr c m ns):=tR8.grow hg9.below;go_roundw
   case rel=>exact ⟨j+1,tl+q*16,A9,c9,k1,t1+q,out++bZ (q*16),cnt+q,by go_num,by omega,rfl,HPS,zia (by rw [zie,HOL.out];unfold bZ;rw [ziC]),hM,by omega,by omega,by omega,by omega,by omega,hbn.more (by omega),by rw [aZ];exact own9,⟨ns1,h9,tR9,sR1⟩,⟨_,rfl⟩,⟨_,rfl⟩,⟨_,rfl⟩,_,rfl⟩
   case measure=>simp [intOf];omega
  case neg=>
   obtain ⟨hv0,hv1,-⟩:=hver' (by omega)
   have hex:zfA d.z h.m (k1,t1,out) ⟨plba,q,pver,pzone,poff⟩=((lR d.z h.m plba pver q (k1,out)).1,t1,(lR d.z h.m plba pver q (k1,out)).2):=by
    unfold zfA;rw [zig hz,Int.toNat_natCast]
   rw [hex] at HPS;clear hex hver' hpn hzw hhw hlw hBd hBh;go_upto_region 15 with fail;have hbx:Below wr.heap.size wr (wr.alloc (.cells #[.int .i64 plba,.int .i64 q,.int .i64 pver,.int .i64 pzone,.int .i64 poff] 90)):=zBA;have hBx:=Blk.new wr 90 #[.int .i64 plba,.int .i64 q,.int .i64 pver,.int .i64 pzone,.int .i64 poff] rfl;have h6:bL (KO Kd (.slice Ab tl cb)) w4 (wr.alloc (.cells #[.int .i64 plba,.int .i64 q,.int .i64 pver,.int .i64 pzone,.int .i64 poff] 90)) gr c m ns k1 t1:=bL.post ⟨ns1,hR1,tR1,sR1⟩ hbx;replace hown:=hown.alloc (.cells #[.int .i64 plba,.int .i64 q,.int .i64 pver,.int .i64 pzone,.int .i64 poff] 90);obtain ⟨gx,hgx⟩:∃ g,wr.heap.size=g:=⟨_,rfl⟩;clear c0 c1 c2 c3 c4 hR1 tR1 sR1;generalize wr.alloc (.cells #[.int .i64 plba,.int .i64 q,.int .i64 pver,.int .i64 pzone,.int .i64 poff] 90)=w6 at hBx h6 hown ⊢;rw [hgx] at hBx ⊢;clear hbx hgx;obtain ⟨wo,rfl⟩:∃ wo:World,wo=wr:=⟨_,rfl⟩;go_loopw [16,19,20,21,72] (fun x16 x19 x20 x21 x72 wi=>∃ (r tl2:Nat) (A2:Option Addr) (c2:Nat) (k2:Ca) (out2:List UInt8),x72=.int .i64 r∧r≤q∧x16=.slice A2 tl2 c2∧Hid (lR d.z h.m plba pver r (k1,out)=(k2,out2))∧Hid (out2.length=tl2)∧(tl2:Int)≤16*(cnt+r)∧zbT k k2 (cnt+r)∧wi.ownsRow w4.heap.size 5 1 (.slice A2 tl2 c2) tl2 (aE out2)∧bL (KO Kd (.slice A2 tl2 c2)) w4 wi gr c m ns k2 t1∧Blk wi gx 90 #[.int .i64 plba,.int .i64 q,.int .i64 pver,.int .i64 pzone,.int .i64 poff]∧(∃ y,x19=y)∧(∃ y,x20=y)∧∃ y,x21=y) (fun _ _ _ _ x72 _=>q-(intOf x72).toNat)
   case atStart=>exact ⟨0,tl,Ab,cb,k1,out,rfl,zir _,rfl,zia rfl,HOL,by omega,hbn.more (by omega),hown,h6,hBx,⟨_,rfl⟩,⟨_,rfl⟩,_,rfl⟩
   case round=>
    clear hown h6 hBx;obtain ⟨r,tl2,A2,c2,k2,out2,rfl,hrq,rfl,HB2,HO2,htl2,hbn2,hown,hmade,hBx,⟨z1,rfl⟩,⟨z2,rfl⟩,z3,rfl⟩:=hrel;by_cases hrq':r<q
    case neg=>
     obtain rfl:r=q:=by omega
     rw [HB2.out] at HPS;clear hBx;go_wp2_with fail;go_roundw
     case rel=>exact ⟨j+1,tl2,A2,c2,k2,t1,out2,cnt+r,by go_num,by omega,rfl,HPS,HO2,hM,by omega,by omega,by omega,by omega,by omega,hbn2,hown,hmade,⟨_,rfl⟩,⟨_,rfl⟩,⟨_,rfl⟩,_,rfl⟩
     case measure=>simp [intOf];omega
    obtain ⟨ns2,hR2,tR2,sR2⟩:=hmade;have hs2:=tR2.size;have hz2:=(E.get m3).zlt.turned tR2 (fun b hb=>hK b hb.1)
    have hh2:=aY.keep (aY.lt (E.get m2)) (tR2.cells (K:=fun b=>K' b∧b<w4.heap.size) fun b hb=>hK' b hb.1)
    have hBd:=(E.at_ m1).turned tR2 (fun h9=>by have:=hlt h9;omega)
    have hBh:=(E.at_ m0).turned tR2 (fun h9=>by have:=hlt h9;omega)
    have hr1:(r:Int)<(q:Int):=by omega
    have hr0:(0:Int)≤(r:Int):=by omega
    have hb1:aJ (plba+r) 1:=⟨by omega,by omega,by omega,by omega⟩
    have hB16:=zaa (zs:=d.z) hf (plba+r);have hlen16:=zgs (lba:=plba+r) (ver:=pver) hR2.good16 hB16;have hbn3:=hbn2.blk (plba+r) pver (blockB d.z h.m (plba+r));have HBS:Hid (lR d.z h.m plba pver (r+1) (k1,out)=((blkC k2 (plba+r) pver (blockB d.z h.m (plba+r))).1,out2++(blkC k2 (plba+r) pver (blockB d.z h.m (plba+r))).2)):=zia (by
     show ((blkC (lR d.z h.m plba pver r (k1,out)).1 (plba+r) pver (blockB d.z h.m (plba+r))).1,(lR d.z h.m plba pver r (k1,out)).2++(blkC (lR d.z h.m plba pver r (k1,out)).1 (plba+r) pver (blockB d.z h.m (plba+r))).2)=_;rw [HB2.out])
    obtain ⟨e1,e2,e3,e4,e5⟩:=hbn2;have hrb:=zbu hR2 d A cA h _ (plba+r) pver (blockB d.z h.m (plba+r)) _ _ hz2 hh2 (fun b hb=>⟨sQ sR2 (hK b hb.1) hb.2,by have:=hb.2;omega⟩) (fun b hb=>⟨sQ sR2 (hK' b hb.1) hb.2,by have:=hb.2;omega⟩) hok hch hf hb1 (xC hch hb1 hf) hB16 ⟨by omega,by omega⟩ ⟨hv0,hv1⟩ ⟨e1,by omega⟩ ⟨e3,by omega⟩ (by omega) (fun b hb=>⟨hKd b (by omega),fun e9=>by
     have:=(hown.lt b e9.symm).2;omega⟩)
    generalize blkC k2 (plba+r) pver (blockB d.z h.m (plba+r))=bk at hlen16 hbn3 HBS hrb;have wv:IntKind.i64.wrap (plba+(r:Int))=plba+(r:Int):=ziI _ (by omega)
    obtain ⟨q0,f0⟩:=hBd.rules;have u0:=hBd.lt;obtain ⟨q1,f1⟩:=hBx.rules;have u1:=hBx.lt;have HL16:=zia hlen16;clear hz2 hh2 hB16 hlen16 e1 e2 e3 e4 e5;go_wp2_with (refine eG hBh rfl rfl rfl rfl ?_);refine hrb.mono ?_;rintro r' w7 ⟨v7,rfl,hv7,⟨ns7,hR7,tR7,sR7⟩⟩;have hown7:=eW hown tR7 (hR2.own hown);have hBx7:=hBx.turned tR7 (hR2.blk hBx (by decide) (by decide) (by decide))
    have hs7:=tR7.size;obtain ⟨A7,c7,rfl,-⟩:=aK hv7;have hrd7:=hv7.open_.2.1;rw [HL16.out] at hrd7;rw [HL16.out];clear hrb q0 f0 u0 q1 f1 u1 hBd hBh hBx hown;go_wp2_with (at_builtin;refine aF rfl (.tmp 91) (.tmp 92) 31 rfl w4.heap.size 5 i0 _ 1 1 Tryz.underlying31 hi hz0 hz1 hz2 rfl (by omega) rfl hown7 rfl hrd7 (aW _) (by simp only [maxLen];omega) (by omega) (by omega) ?_;intro A9 c9 w9 own9 hg9)
    have h9:=hR7.grew hown7 hg9;have hBx9:=hBx7.grew hown7 (by decide) hg9
    obtain ⟨_,_,t9,_⟩:=bL.on tR2 sR2 ⟨ns7,hR7,tR7,sR7⟩;have s9:∀ g∈ns7,g∈ns∨w4.heap.size≤g:=fun g hg=>by
     rcases sR7 g hg with h8 | h8
     · exact sR2 g h8
     · exact .inr (by omega)
    refine ⟨⟨r+1,tl2+16,A9,c9,bk.1,out2++bk.2,by go_num,by omega,rfl,HBS,zia (by rw [zie,HO2.out,HL16.out]),by omega,by rw [show cnt+((r+1:Nat):Int)=cnt+(r:Int)+1 by omega];exact hbn3,by rw [aZ];exact own9,⟨ns7,h9,t9.grow hg9.below,s9⟩,hBx9,⟨_,rfl⟩,⟨_,rfl⟩,_,rfl⟩,by simp [intOf];omega⟩
