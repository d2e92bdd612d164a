/- A part of the proof. -/
import Derived.Test.YtcapmeefiglfjaaGreatDelE
import Derived.Test.YtcapmeefiglfjaaGreatReplayB
set_option maxHeartbeats 4000000
set_option maxRecDepth 100000
namespace Go.Proofs.YtcapmeefiglfjaaGreat
open Go.RowKit Go.Sort Go.Lib Go.Shelf
def mJ (w w':World):Prop:=∃ q os',w'=grow (w.drewN q) os'
theorem mJ.refl (w:World):mJ w w:=⟨0,#[],by rw [grow_empty];rfl⟩
theorem mJ.drewN {w w':World} (h:mJ w w') (n:Nat):mJ w (w'.drewN n):=by
 obtain ⟨q,os,rfl⟩:=h;refine ⟨q+n,os,?_⟩;unfold grow World.drewN;simp [Nat.add_assoc]
theorem mJ.drew {w w':World} (h:mJ w w'):mJ w w'.drew:=h.drewN 1
theorem mJ.alloc {w w':World} (h:mJ w w') (o:Obj):mJ w (w'.alloc o):=by
 obtain ⟨q,os,rfl⟩:=h;exact ⟨q,os ++ #[o],by rw [alloc_eq_grow,grow_grow]⟩
theorem mO (a b:Int) (w:World):Calls Tryz.prog 55 #[.int .i64 a,.int .i64 b] w fun e w'=>e=.returned (.int .i64 (sY a b))∧w'=w:=by
 unfold sY;by_cases h1:a<b
 · rw [zij h1]
   go_enter Tryz.func55,Tryz.ntmps55
   go_wp2;go_ret;exact ⟨rfl,rfl⟩
 · rw [zig h1]
   by_cases h2:b<a
   · rw [zij h2]
     go_enter Tryz.func55,Tryz.ntmps55
     go_wp2;go_ret;exact ⟨rfl,rfl⟩
   · rw [zig h2]
     go_enter Tryz.func55,Tryz.ntmps55
     go_wp2;go_ret;exact ⟨rfl,rfl⟩
def orI (a b:Int):Int:=if a=0 then b else a
theorem zgJ (a b:Int) (g:Nat) (w:World) (hB:∀ o,w.cell? ⟨g,o,none⟩=(#[.int .i64 a,.int .i64 b]:Array Value)[o]?):Calls Tryz.prog 216 #[.slice (some ⟨g,0,none⟩) 2 2] w fun e w'=>e=.returned (.int .i64 (orI a b))∧w'=w:=by
 obtain ⟨r,hr⟩:∃ r,orI a b=r:=⟨_,rfl⟩;rw [hr];have HR:=zia hr;clear hr;have c0:w.cell? ⟨g,0,none⟩=some (.int .i64 a):=hB 0;have c1:w.cell? ⟨g,1,none⟩=some (.int .i64 b):=hB 1;clear hB;go_enter Tryz.func216,Tryz.ntmps216
 go_wp2_with fail;go_loopw [5,8] (fun x i wr=>∃ j:Nat,i=.int .i64 j∧j≤2∧(0<j→a=0)∧(1<j→b=0)∧wr=w∧(∃ y,x=y)) (fun _ i _=>2-(intOf i).toNat)
 case atStart=>exact ⟨0,rfl,by omega,by omega,by omega,rfl,_,rfl⟩
 case round=>
  obtain ⟨j,rfl,hj,ha,hb,rfl,y,rfl⟩:=hrel;rcases (by omega:j=0∨j=1∨j=2) with rfl | rfl | rfl
  · by_cases h0:a=0
    · subst h0
      go_wp2;go_roundw
      case rel=>exact ⟨1,by go_num,by omega,by simp,by simp,by simp⟩
      case measure=>decide
    · have hra:r=a:=by rw [←HR.out];unfold orI;rw [zig h0]
      subst hra;go_wp2;go_ret;exact ⟨rfl,rfl⟩
  · obtain rfl:=ha (by omega)
    have hrb:r=b:=by rw [←HR.out];unfold orI;rw [zij rfl]
    subst hrb;by_cases h0:r=0
    · subst h0
      go_wp2;go_roundw
      case rel=>exact ⟨2,by go_num,by omega,by simp,by simp,by simp⟩
      case measure=>decide
    · go_wp2
      go_ret;exact ⟨rfl,rfl⟩
  · obtain rfl:=ha (by omega)
    obtain rfl:=hb (by omega)
    have hr0:r=0:=by rw [←HR.out];rfl
    subst hr0;go_wp2;go_ret;exact ⟨rfl,rfl⟩
theorem zfG (e:Ex) (z:Int) (g:Nat) (w:World) (hz:Blk w g 3 #[.int .i64 z]):Calls Tryz.prog 214 #[.agg #[.int .i64 e.lba,.int .i64 e.n,.int .i64 e.ver,.int .i64 e.zone,.int .i64 e.off],.pointer (some ⟨g,0,none⟩)] w fun x w'=>x=.returned (.bool (decide (e.zone≠z)))∧Below w.heap.size w w':=by
 have E:=((Kn.start w).know hz).push 90 #[.int .i64 e.lba,.int .i64 e.n,.int .i64 e.ver,.int .i64 e.zone,.int .i64 e.off];obtain ⟨q0,f0,t0⟩:=E.rules m0;obtain ⟨q1,f1,t1⟩:=E.rules m1;obtain ⟨r,hr⟩:∃ r,decide (e.zone≠z)=r:=⟨_,rfl⟩;rw [hr];have hr2:(e.zone != z)=r:=by rw [←hr];by_cases h:e.zone=z <;> simp [h]
 clear hr;go_enter Tryz.func214,Tryz.ntmps214
 go_wp2;go_ret;exact ⟨rfl,E.below⟩
def zgC (x y:Ex):Int:=orI (sY x.off y.off) (sY x.lba y.lba)
instance:Inhabited Ex:=⟨⟨0,0,0,0,0⟩⟩
theorem ltO (x y:Ex):ltOf zgC x y=decide (x.off<y.off∨x.off=y.off∧x.lba<y.lba):=by
 unfold ltOf zgC orI sY;rw [zjB];simp only [ziM];split <;> split <;> (try split) <;> (try split) <;> (try split) <;> omega
theorem zi0:SWO (ltOf zgC) where
 irrefl x:=by rw [ltO];simp
 trans x y z h1 h2:=by rw [ltO] at *;simp only [ziM] at *;omega
 ntrans x y z h1 h2:=by rw [ltO] at *;simp only [zjM] at *;omega
theorem zgg (x y:Ex) (w:World):Calls Tryz.prog 215 #[exV x,exV y] w fun e w'=>e=.returned (.int .i64 (zgC x y))∧mJ w w':=by
 obtain ⟨r,hr⟩:∃ r,zgC x y=r:=⟨_,rfl⟩;rw [hr];have HR:=zia hr;clear hr;have E:=((Kn.start w).push 90 (exC x)).push 90 (exC y);have G:=((mJ.refl w).alloc (.cells (exC x) 90)).alloc (.cells (exC y) 90);go_enter Tryz.func215,Tryz.ntmps215
 go_upto_region 1 with fail;change Code.wp _ _ _ _ ((w.alloc (.cells (exC x) 90)).alloc (.cells (exC y) 90))
 rw [zid] at E;obtain ⟨g,hg⟩:∃ g,w.heap.size=g:=⟨_,rfl⟩;rw [hg] at E;simp only [hg];generalize hw2:(w.alloc (.cells (exC x) 90)).alloc (.cells (exC y) 90)=w2 at E G ⊢;have hsz:w2.heap.size=g+2:=by rw [←hw2,zid,zid,hg]
 clear hw2 hg;have HK:Hid (∀ W,Below w2.heap.size w2 W→(∀ o,W.cell? ⟨g+1,o,none⟩=(exC y)[o]?)∧(∀ o,W.cell? ⟨g,o,none⟩=(exC x)[o]?)):=zia fun W h=>⟨((E.step h).rules m0).1,((E.step h).rules m1).1⟩
 have hb0:Below w2.heap.size w2 w2.drew:=(zif _ _).drew;have hb1:Below w2.heap.size w2 (w2.alloc (.cells #[.int .i64 (sY x.off y.off),.int .i64 (sY x.lba y.lba)] 3)).drew:=(zBA).drew;have hor:=zgJ (sY x.off y.off) (sY x.lba y.lba) w2.heap.size (w2.alloc (.cells #[.int .i64 (sY x.off y.off),.int .i64 (sY x.lba y.lba)] 3)).drew (Blk.new w2 3 #[.int .i64 (sY x.off y.off),.int .i64 (sY x.lba y.lba)] rfl).drew.rules.1;rw [hsz] at hor;refine wp_region_held_drew (S:=fun W=>(∀ o,W.cell? ⟨g+1,o,none⟩=(exC y)[o]?)∧(∀ o,W.cell? ⟨g,o,none⟩=(exC x)[o]?)) (by kernel_rfl) (HK.out _ hb0) (fun hHeld=>?_)
 refine wT 0 5 ?_;refine wT 1 6 ?_;refine wT 2 7 ?_;refine wT 3 8 ?_;refine wT 5 10 ?_;refine wT 6 11 ?_;refine wT 7 12 ?_;refine wT 8 13 ?_;refine wR 4 9 (fun K hK=>?_)
 go_simp;refine (mO _ _ _).mono ?_;rintro u w3 ⟨rfl,rfl⟩;go_wp2_with fail;refine hK.out _ _ (HK.out _ hb0) (fun hHeld=>?_)
 clear hK K;try simp only [pu,List.set]
 refine wR 9 14 (fun K hK=>?_)
 go_simp;refine (mO _ _ _).mono ?_;rintro u w3 ⟨rfl,rfl⟩;go_wp2_with fail;refine hK.out _ _ (HK.out _ hb0) (fun hHeld=>?_)
 clear hK K;try simp only [pu,List.set]
 refine wR 10 15 (fun K hK=>?_)
 go_simp;refine hK.out _ _ (HK.out _ hb1) (fun hHeld=>?_)
 clear hK K;try simp only [pu,List.set]
 refine wR 11 16 (fun K hK=>?_)
 go_simp;refine hor.mono ?_;rintro u w3 ⟨rfl,rfl⟩;go_wp2_with fail;refine hK.out _ _ (HK.out _ hb1) (fun hHeld=>?_)
 clear hK K;refine wT 12 4 ?_;refine wpAnyH_done (by kernel_rfl) ?_ _
 go_wp2;go_ret;exact ⟨by rw [←HR.out];rfl,(G.alloc _).drew⟩
theorem za5 (d:Array Ex):(flatK (fun x:Ex=>dM x) 5 d).toList=bB d.toList:=by
 refine zki fun t=>?_
 by_cases ht:t<d.size*5
 · have h1:t / 5<d.size:=by omega
   have h2:d.toList[t / 5]?=some d[t / 5]:=by rw [ziU,zjl h1]
   have h3:=zbR h2 (t % 5) (Nat.mod_lt _ (by omega))
   rw [show t / 5*5+t % 5=t by omega] at h3
   rw [h3,ziU,zjl (by rw [size_flatK];exact ht)]
   have h4:=get_flatK (fun x:Ex=>dM x) 5 d t ht
   rw [zjK _ t (by rw [size_flatK];exact ht),zjK d (t / 5) h1] at h4
   rw [h4];have h5:t % 5<(dM d[t / 5]).length:=Nat.mod_lt _ (by omega)
   rw [zib h5,zjK (dM d[t / 5]) (t % 5) h5]
 · rw [ziX (by simp;omega),ziX (by rw [eH];simp;omega)]
theorem yR {t:Nat} {d d':Array Ex} (h:PermIn 0 t d d') (hd:d.size=t):d'.size=t∧d'.toList.Perm d.toList:=by
 obtain ⟨h1,_,h3⟩:=h;have e1:d'.extract 0 t=d':=by rw [show t=d'.size by omega];exact Array.extract_size
 have e2:d.extract 0 t=d:=by rw [show t=d.size by omega];exact Array.extract_size
 rw [e1,e2] at h3;exact ⟨by omega,h3⟩
theorem zdD (Ao:Option Addr) (t co base:Nat) (l:List Ex) (w:World) (hown:w.ownsRow base 90 5 (.slice Ao t co) t (bB l)) (hl:l.length=t) (ht:t≤4398046511104) (hpos:0<t) :
 Calls Tryz.prog 68 #[.slice Ao t co,.func (.func 215) #[] #[]] w fun x w'=>x=.returned (.tuple #[]) ∧
  ∃ l',l'.Perm l∧l'.Pairwise (fun a b=>a.off<b.off∨a.off=b.off∧a.lba≤b.lba)∧w'.ownsRow base 90 5 (.slice Ao t co) t (bB l')∧aA w w' (fun b=>some b=(Value.slice Ao t co).ownBlock):=by
 have hown0:=hown;rcases hown.2 with ⟨_,h0⟩ | ⟨g,cap,cur,hv,hg,hh,h3,h4,h5,h6⟩
 · omega
 injection hv with e1 e2 e3;subst e1 e3;obtain ⟨d,hd⟩:∃ d:Array Ex,d.toList=l:=⟨l.toArray,rfl⟩;have hds:d.size=t:=by rw [←hl,←hd];simp
 have hflat:=za5 d;rw [hd] at hflat;have hcell:∀ j,j<d.size*5→cur[j]?=some (flatK (fun x:Ex=>dM x) 5 d)[j]!:=fun j hj=>by
  have h7:(bB l)[j]?=some (flatK (fun x:Ex=>dM x) 5 d)[j]!:=by
   rw [←hflat,ziU,zjl (by rw [size_flatK];exact hj),zjK _ _ (by rw [size_flatK];exact hj)]
  rw [←h6,zjd] at h7;split at h7
  · rw [←h7];simp
  · cases h7
 have hB:Blk w g 90 cur:=hh;have hH:HoldsK (fun x:Ex=>dM x) 5 w g 0 d:=fun j hj=>by
  rw [size_flatK] at hj;rw [zj5,hB.cell,hB.frozen,hcell j hj];exact ⟨rfl,rfl⟩
 have eg:∀ args w,(callFunc 215 args).run Tryz.prog w=.ok (.enter 215 args) w:=enters_of Tryz.func215 (by kernel_rfl) rfl
 have hcmp:CmpLays Tryz.prog 215 #[] (fun x:Ex=>dM x) 5 zgC g 0 d.size w:=fun _ _ _ _ x y=>zgg x y _
 have hcon:=AnyQ.slices_SortFunc Tryz.sortE 5 (fun _=>by kernel_rfl) (fun _=>by kernel_rfl) (fun x:Ex=>dM x) (fun _=>rfl) (fun x v hv=>aU [x] v (by simpa [bB] using hv)) zgC zi0 215 #[] g 0 co d w eg hcmp hH hB.lt (by omega)
 change Calls Tryz.prog 68 _ _ _ at hcon
 rw [hds] at hcon;refine hcon.mono ?_;rintro x w' ⟨rfl,d',n,os,hp,hs,rfl⟩;have hps:=yR hp hds;obtain ⟨hsz,hpl⟩:=hps;have hf2:=za5 d';have hsF:(flatK (fun x:Ex=>dM x) 5 d').size=t*5:=by rw [size_flatK,hsz]
 refine ⟨rfl,d'.toList,?_,?_,?_,?_⟩
 · rw [←hd]
   exact hpl
 · rw [zjy]
   intro i j hi hj hij;have hj':j<d'.size:=by simpa using hj
   have hi':i<d'.size:=by simpa using hi
   have h7:=hs i j (zir _) hij (by omega)
   rw [ltO,zjK d' i hi',zjK d' j hj'] at h7;simp only [zjM] at h7;simp only [Array.getElem_toList];omega
 · refine ⟨by rw [←hf2];simpa using hsF,.inr ⟨g,co,_,rfl,hg,rH hh,h3,h4,by simp [putCells,h5],?_⟩⟩
   rw [←hsF,za4 (by rw [hsF,h5];exact zjm _ h3),hf2]
 · exact mR.mono fun k hk=>by rw [hk];rfl
end Go.Proofs.YtcapmeefiglfjaaGreat
namespace Go.Proofs.YtcapmeefiglfjaaGreat
open Go.RowKit
theorem zbK (w:World):Calls Tryz.prog 139 #[.int .u64 0] w fun x w'=>x=.returned (.int .i64 0)∧w=w':=by
 go_enter Tryz.func139,Tryz.ntmps139
 go_wp2_with fail;refine (vB 0 _ (by decide) (by decide)).mono ?_
 rintro x w2 ⟨rfl,rfl⟩;go_wp2;go_ret;exact ⟨rfl,rfl⟩
theorem zf3 (A:Option Addr) (c:Nat) (f:Value) (w:World):Calls Tryz.prog 185 #[.slice A 0 c,.int .i64 0,.int .i64 0,f] w fun x w'=>x=.returned (.tuple #[])∧Below w.heap.size w w':=by
 have E:=Kn.start w;go_enter Tryz.func185,Tryz.ntmps185
 go_wp2_with fail;go_loopw [8] (fun x wr=>x=.int .i64 1∧wr=w) (fun _ _=>0)
 case atStart=>exact ⟨rfl,rfl⟩
 case round=>
  obtain ⟨rfl,rfl⟩:=hrel;go_wp2_with fail;go_end0;exact ⟨rfl,E.below⟩
theorem zeO (A:Option Addr) (c:Nat) (f:Value) (w:World):Calls Tryz.prog 138 #[.slice A 0 c,.int .i64 0,.int .i64 0,.int .i64 0,f] w fun x w'=>x=.returned (.tuple #[])∧Below w.heap.size w w':=by
 have E:=Kn.start w;go_enter Tryz.func138,Tryz.ntmps138
 go_wp2_with fail;go_loopw [1,2] (fun a b wr=>a=.int .i64 0∧b=.int .i64 0∧wr=w) (fun _ _ _=>0)
 case atStart=>exact ⟨rfl,rfl,rfl⟩
 case round=>
  obtain ⟨rfl,rfl,rfl⟩:=hrel;go_wp2_with fail;refine (zf3 _ _ _ _).mono ?_;rintro x w2 ⟨rfl,hb⟩;go_wp2_with fail;first | (simp only [Exit.inBlock,Exit.then];refine zik (zk5 rfl _ _ _) rfl ?_) | refine zik (zk5 rfl _ _ _) rfl ?_
  exact ⟨rfl,hb⟩
theorem zcY (A:Option Addr) (c:Nat) (f:Value) (w:World):Calls Tryz.prog 68 #[.slice A 0 c,f] w fun x w'=>x=.returned (.tuple #[])∧Below w.heap.size w w':=by
 have E:=Kn.start w;go_enter Tryz.func68,Tryz.ntmps68
 go_wp2_with fail;refine (zbK _).mono ?_;rintro x w2 ⟨rfl,rfl⟩;go_wp2_with fail;refine (zeO _ _ _ _).mono ?_;rintro x w2 ⟨rfl,hb⟩;go_wp2;go_end0;exact ⟨rfl,hb⟩
structure InE (m:List Ex) (z:Int) (l:List Ex):Prop where
 perm:l.Perm (m.filter (fun e=>decide (e.zone=z)))
 sorted:l.Pairwise (fun a b=>a.off<b.off∨a.off=b.off∧a.lba≤b.lba)
theorem qZ (v:Value) (m:List Ex) (K:Nat→Prop) (z:Int) (w:World) (hv:IsL Rp.ex w K v m) (hl:m.length≤3518437208883) :
 Calls Tryz.prog 177 #[v,.int .i64 z] w fun x w'=>∃ A c l,x=.returned (.tuple #[.slice A l.length c,.int .i64 (if z<0∨dZ m≠0 then 1 else 0)])∧(if z<0∨dZ m≠0 then l=[]∧A=none∧c=0 else InE m z l)∧w'.ownsRow w.heap.size 90 5 (.slice A l.length c) l.length (bB l)∧Below w.heap.size w w':=by
 obtain ⟨A,c,rfl,hlc,hcc⟩:=hv.form;have E:=((Kn.start w).give aB.list hv).push 3 #[.int .i64 z];obtain ⟨q0,f0,t0⟩:=E.rules m0;by_cases hz:z<0
 · rw [zij (Or.inl hz)]
   go_enter Tryz.func177,Tryz.ntmps177
   go_wp2_with fail;go_ret2;exact ⟨none,0,[],rfl,⟨rfl,rfl,rfl⟩,zin _ _ _ _,E.below⟩
 · by_cases hc:dZ m=0
   · rw [zig (by rintro (h | h);exact hz h;exact h hc)]
     go_enter Tryz.func177,Tryz.ntmps177
     go_wp2_with fail;refine (cS _ m K _ (E.get m0)).mono ?_;rintro x w2 ⟨rfl,hb2⟩;rw [hc];replace E:=E.step hb2;have hIL:=E.get m0;have hbw:=E.below;go_wp2_with fail;refine (jP A m.length c K (bB m) _ (iH hIL) (aU m) (by omega)).mono ?_
     rintro x w3 ⟨A3,c3,rfl,own3,hb3⟩;replace E:=E.step hb3;obtain ⟨q3,f3,t3⟩:=E.rules m0;go_wp2_with fail;have hw2:w.heap.size<w2.heap.size:=ziE t0 hb2.size;have hBz:=E.at_ m0;have hdel:=zab 214 (enters_of Tryz.func214 (by kernel_rfl) rfl) #[.pointer (some ⟨w.heap.size,0,none⟩)] (fun e=>decide (e.zone≠z)) w2.heap.size c3 A3 m w3 own3 (by omega) (fun W e ht _=>zfG e z w.heap.size W (hBz.turned ht (fun h=>by have:=jW own3 _ h.symm;omega)))
     refine hdel.mono ?_;rintro x w4 ⟨l',hl',rfl,own4,ht4⟩;have hfil:l'=m.filter (fun e=>decide (e.zone=z)):=by rw [hl'];exact List.filter_congr fun e _=>by simp
     have hll:l'.length≤m.length:=by rw [hfil];exact zj3 _ _
     have hb4:Below w2.heap.size w2 w4:=hb3.trans (ht4.below (fun k hk=>jW own3 _ hk.symm) hb3.size)
     have HF:=zia hfil;clear hdel hl' own3 hBz q3 f3 t3 hb3 ht4 hIL hfil;by_cases h0:l'.length=0
     · have hl0:l'=[]:=zis h0
       subst hl0;clear h0;go_wp2_with fail;refine (zcY _ _ _ _).mono ?_;rintro x w5 ⟨rfl,hb5⟩;go_wp2_with fail;go_ret2;refine ⟨A3,c3,[],rfl,⟨by rw [←HF.out],List.Pairwise.nil⟩,aO (aD own4 hb5 (zic _)) (by omega),?_⟩
       exact hbw.trans ((hb4.trans (hb5.mono hb4.size)).mono (by omega))
     · go_wp2_with fail
       refine (zdD _ _ _ _ l' _ own4 rfl (by omega) (by omega)).mono ?_
       rintro x w5 ⟨rfl,l5,hp5,hs5,own5,ht5⟩;have h55:l5.length=l'.length:=hp5.length_eq;rw [←h55] at own5 ⊢;clear h55;go_wp2_with fail;go_ret2;refine ⟨A3,c3,l5,rfl,⟨by rw [←HF.out];exact hp5,hs5⟩,aO own5 (by omega),?_⟩
       exact hbw.trans ((hb4.trans (ht5.below (fun k hk=>jW own4 _ hk.symm) hb4.size)).mono (by omega))
   · rw [zij (Or.inr hc)]
     obtain ⟨ck,hck⟩:∃ ck,dZ m=ck:=⟨_,rfl⟩;rw [hck] at hc;have hck2:(ck != 0)=true:=by simpa using hc
     go_enter Tryz.func177,Tryz.ntmps177
     go_wp2_with fail;refine (cS _ m K _ (E.get m0)).mono ?_;rintro x w2 ⟨rfl,hb2⟩;rw [hck];replace E:=E.step hb2;go_wp2_with fail;go_ret2;exact ⟨none,0,[],rfl,⟨rfl,rfl,rfl⟩,zin _ _ _ _,E.below⟩
def cN (z:Int) (x:Ex):Ex:=⟨x.lba,min x.n 256,x.ver,z,x.off⟩
def zg6 (B:Nat) (w:World) (z:Int) (L:List Ex) (j:Nat) (out:Value):Prop:=
 (j=0∧out=.slice none 0 0)∨(0<j∧∃ x Ao co,L.head?=some x∧out=.slice Ao 1 co∧w.ownsRow B 90 5 (.slice Ao 1 co) 1 (bB [cN z x]))
theorem zg6.step {B:Nat} {w w':World} {z:Int} {L:List Ex} {j:Nat} {out:Value} (h:zg6 B w z L j out) (hb:Below w.heap.size w w'):zg6 B w' z L j out:=by
 rcases h with h | ⟨h1,x,A,c,h2,h3,h4⟩
 · exact Or.inl h
 · exact Or.inr ⟨h1,x,A,c,h2,h3,aD h4 hb (zic _)⟩
theorem InE.may {m:List Ex} {z:Int} {l:List Ex} (h:InE m z l) (hc:aC 0 m) {e:Ex} (he:e∈l):bO e∧e.zone=z:=by
 have h1:=h.perm.mem_iff.1 he;rw [zji] at h1;exact ⟨(aM hc _ h1.1).1,by simpa using h1.2⟩
theorem zW (v:Value) (m:List Ex) (K:Nat→Prop) (z:Int) (w:World) (hv:IsL Rp.ex w K v m) (hl:m.length≤3518437208883) :
 Calls Tryz.prog 121 #[v,.int .i64 z,.int .i64 1] w fun x w'=>∃ A c l,x=.returned (.tuple #[.slice A l.length c,.int .i64 (if z<0∨dZ m≠0 then 1 else 0)])∧(if z<0∨dZ m≠0 then l=[] else ∃ L,InE m z L∧l=(L.head?.map (cN z)).toList)∧w'.ownsRow w.heap.size 90 5 (.slice A l.length c) l.length (bB l)∧Below w.heap.size w w':=by
 have hin:=qZ v m K z w hv hl;obtain ⟨i0,hi,hz0,hz1,hz2⟩:=ziH Tryz.infE;by_cases hb:z<0∨dZ m≠0
 · simp only [zij hb] at hin ⊢
   go_enter Tryz.func121,Tryz.ntmps121
   go_wp2_with fail;go_step3
   go_wp2_with fail;refine hin.mono ?_;rintro x w1 ⟨A1,c1,L,rfl,⟨rfl,rfl,rfl⟩,own1,hb1⟩;go_wp2_with fail;try rw [Exit.noGoto_ret]
   go_ret2;exact ⟨none,0,[],rfl,rfl,zin _ _ _ _,hb1⟩
 · simp only [zig hb] at hin ⊢
   have hch:aC 0 m:=by
    have:¬dZ m≠0:=fun h=>hb (Or.inr h)
    unfold dZ at this;by_cases h:aC 0 m
    · exact h
    · rw [zig h] at this;exact absurd (by decide) this
   clear hb;go_enter Tryz.func121,Tryz.ntmps121
   go_wp2_with fail;go_step3
   go_wp2_with fail;refine hin.mono ?_;rintro x w1 ⟨A1,c1,L,rfl,hL,own1,hb1⟩;have HL:=zia hL;have hll:L.length≤3518437208883:=by rw [hL.perm.length_eq];exact zit (zj3 _ _) hl
   obtain ⟨n,hn⟩:∃ n,L.length=n:=⟨_,rfl⟩;have HN:=zia hn;rw [hn] at own1 hll ⊢;clear hin hL hn;go_wp2_with fail;go_step3
   go_wp2_with fail;go_loopw [10,28] (fun out i wr=>∃ j:Nat,i=.int .i64 j∧j≤n∧Hid (zg6 w.heap.size wr z L j out)∧Below w1.heap.size w1 wr) (fun _ i _=>n-(intOf i).toNat)
   case atStart=>exact ⟨0,rfl,zir _,zia (Or.inl ⟨rfl,rfl⟩),zif _ _⟩
   case round=>
    obtain ⟨j,rfl,hj,HO,hbr⟩:=hrel;by_cases hlt:j<n
    · have hlt':j<L.length:=by rw [HN.out];exact hlt
      have hje:=zib hlt';obtain ⟨ad,rfl,-,c0,c1,c2,c3,c4⟩:=bY (bI (aD own1 hbr (zic _)) HN.out (by omega)) hje
      obtain ⟨⟨⟨p0,p1,p2,p3⟩,p4,p5,p6,p7,p8,p9⟩,hez⟩:=HL.out.may hch (ziD hlt');have HE:=zia hje;have HZ:=zia hez;clear hez;generalize L[j]=e at HE HZ c0 c1 c2 c3 c4 p0 p1 p2 p3 p4 p5 p6 p7 p8 p9;have hof:e.off≤1125899906842624:=by by_cases h:e.zone = -1 <;> omega
      have hBv:=Blk.new wr 90 #[.int .i64 e.lba,.int .i64 e.n,.int .i64 e.ver,.int .i64 e.zone,.int .i64 e.off] rfl;have hba:Below wr.heap.size wr (wr.alloc (.cells #[.int .i64 e.lba,.int .i64 e.n,.int .i64 e.ver,.int .i64 e.zone,.int .i64 e.off] 90)):=zBA;have j1:(j:Int)<(n:Int):=by omega
      have j0:(0:Int)≤(j:Int):=by omega
      clear hje hlt' p5 p6 p8 p9 hv hch;go_wp2_with fail;generalize hwx:wr.alloc (.cells #[.int .i64 e.lba,.int .i64 e.n,.int .i64 e.ver,.int .i64 e.zone,.int .i64 e.off] 90)=wx at hBv hba ⊢;clear hwx c0 c1 c2 c3 c4;have hO0:=HO.out.step hba;go_loopw [10,13] (fun o k wz=>Hid ((k=.int .i64 0∧zg6 w.heap.size wz z L j o)∨(j=0∧k=.int .i64 256∧zg6 w.heap.size wz z L 1 o))∧Below wx.heap.size wx wz) (fun _ k _=>512-(intOf k).toNat)
      case atStart=>exact ⟨zia (Or.inl ⟨rfl,hO0⟩),zif _ _⟩
      case round=>
       obtain ⟨HR,hbz⟩:=hrel;have hbx:=(hbr.trans (hba.mono hbr.size));have hbw:Below w.heap.size w wx:=hb1.trans (hbx.mono hb1.size);obtain ⟨q0,f0⟩:=(hBv.step hbz).rules;clear HO hO0;rcases HR.out with ⟨rfl,⟨hj0,rfl⟩ | ⟨hj0,x,Ao,co,hx,rfl,ownO⟩⟩ | ⟨hj0,rfl,⟨h10,-⟩ | ⟨-,x,Ao,co,hx,rfl,ownO⟩⟩
       · clear HR
         have HJ0:=zia hj0;clear hj0;have hbwz:w.heap.size≤wr.heap.size:=zit hbw.size hbz.size;go_wp2_with (at_builtin;refine aF rfl _ _ _ rfl w.heap.size 90 i0 _ 5 40 Tryz.underlying35 hi hz0 hz1 hz2 rfl (by omega) rfl (zin _ _ _ _) rfl (aG.new (xs:=dM (cN z e)) (n:=1) rfl rfl rfl) (fun u hu=>aU [cN z e] u (by simpa [bB] using hu)) (by simp only [maxLen];omega) (by omega) (by rw [zid];omega) ?_;intro A8 c8 w6 own8 hg8)
         have hb6:Below wr.heap.size wr w6:=(zBA).trans (hg8.turned.below (fun k hk=>by have hk':some k=none:=hk;cases hk') (by rw [zid];omega))
         have hhd:L.head?=some e:=by rw [List.head?_eq_getElem?,←HJ0.out];exact HE.out
         have hO1:zg6 w.heap.size w6 z L 1 (.slice A8 1 c8):=Or.inr ⟨by omega,e,A8,c8,hhd,rfl,by simpa [bB] using own8⟩
         go_roundw
         case rel=>exact ⟨zia (Or.inr ⟨HJ0.out,rfl,hO1⟩),hbz.trans (hb6.mono hbz.size)⟩
         case measure=>decide
       · clear HR
         go_wp2_with fail;try rw [Exit.noGoto_ret]
         go_ret2;refine ⟨Ao,co,[cN z x],rfl,⟨L,HL.out,by rw [hx];rfl⟩,ownO,hbw.trans (hbz.mono hbw.size)⟩
       · omega
       · clear HR
         by_cases h256:256<e.n
         · go_wp2_with fail
           try rw [Exit.noGoto_ret]
           go_ret2;refine ⟨Ao,co,[cN z x],rfl,⟨L,HL.out,by rw [hx];rfl⟩,ownO,hbw.trans (hbz.mono hbw.size)⟩
         · go_wp2_with fail
           go_roundw
           case rel=>exact ⟨1,by go_num,by omega,zia (Or.inr ⟨by omega,x,Ao,co,hx,rfl,ownO⟩),hbx.trans (hbz.mono hbx.size)⟩
           case measure=>subst hj0;simp [intOf];omega
    · obtain rfl:j=n:=by omega
      go_wp2_with fail;try rw [Exit.noGoto_ret]
      go_ret2;rcases HO.out with ⟨rfl,rfl⟩ | ⟨hj0,x,Ao,co,hx,rfl,ownO⟩
      · have hL0:L=[]:=zis HN.out
        exact ⟨none,0,[],rfl,⟨L,HL.out,by rw [hL0];rfl⟩,zin _ _ _ _,hb1.trans (hbr.mono hb1.size)⟩
      · exact ⟨Ao,co,[cN z x],rfl,⟨L,HL.out,by rw [hx];rfl⟩,ownO,hb1.trans (hbr.mono hb1.size)⟩
def iU (m:List Ex) (z:Int):Bool:=decide (z<0∨dZ m≠0∨m.any (fun e=>decide (e.zone=z))=true)
theorem zbW (v:Value) (m:List Ex) (K:Nat→Prop) (z:Int) (w:World) (hv:IsL Rp.ex w K v m) (hl:m.length≤3518437208883) :
 Calls Tryz.prog 129 #[v,.int .i64 z] w fun x w'=>x=.returned (.bool (iU m z))∧Below w.heap.size w w':=by
 have hin:=qZ v m K z w hv hl;by_cases hb:z<0∨dZ m≠0
 · simp only [zij hb] at hin
   have hn:iU m z=true:=by unfold iU;rw [ziM];rcases hb with h | h;exact Or.inl h;exact Or.inr (Or.inl h)
   rw [hn];clear hn;go_enter Tryz.func129,Tryz.ntmps129
   go_wp2_with fail;refine hin.mono ?_;rintro x w1 ⟨A1,c1,L,rfl,⟨rfl,rfl,rfl⟩,own1,hb1⟩;go_wp2_with fail;go_ret;exact ⟨rfl,hb1⟩
 · simp only [zig hb] at hin
   go_enter Tryz.func129,Tryz.ntmps129
   go_wp2_with fail;refine hin.mono ?_;rintro x w1 ⟨A1,c1,L,rfl,hL,own1,hb1⟩;have hn:iU m z=decide (0<L.length):=by
    unfold iU;rw [zkA];constructor
    · rintro (h | h | h)
      · exact absurd (Or.inl h) hb
      · exact absurd (Or.inr h) hb
      · obtain ⟨e,he,hz⟩:=zkD.1 h
        exact List.length_pos_of_mem (hL.perm.mem_iff.2 (zji.2 ⟨he,hz⟩))
    · intro h
      obtain ⟨e,he⟩:=List.exists_mem_of_length_pos h;have:=zji.1 (hL.perm.mem_iff.1 he);exact Or.inr (Or.inr (zkD.2 ⟨e,this.1,this.2⟩))
   obtain ⟨n,hn2⟩:∃ n,L.length=n:=⟨_,rfl⟩;rw [hn2] at hn ⊢;obtain ⟨r,hr⟩:∃ r,decide (0<n)=r:=⟨_,rfl⟩;have hr2:decide ((0:Int)<(n:Int))=r:=by rw [←hr];exact zkA.2 (by omega)
   have HN:=zia (hn.trans hr);clear hn hn2 hL own1 hin hb hr;go_wp2_with fail;go_ret;exact ⟨by rw [HN.out];simpa using hr2,hb1⟩
def bK (h:Ho) (z:Int):Bool:=h.opn && decide (h.p.zone=z)
theorem lY (h:Ho) (z:Int) (v:Value) (K:Nat→Prop) (w:World) (hv:aY w K v h):Calls Tryz.prog 122 #[v,.int .i64 z] w fun x w'=>x=.returned (.bool (bK h z))∧Below w.heap.size w w':=by
 obtain ⟨vo,vs,vb,vl,vm,rfl,h1,h2,h3,h4,h5⟩:=hv;obtain ⟨Ao,co,rfl,-⟩:=h1.form;obtain ⟨As,cs,rfl,-⟩:=h2.form;obtain ⟨Ab,cb,rfl,-⟩:=aK h3;obtain ⟨Al,cl,rfl,-⟩:=h4.form;obtain ⟨Am,cm,rfl,-⟩:=h5.form;clear h1 h2 h3 h4 h5;have E:=(Kn.start w).push 37 (hoS h Ao co As cs Ab cb Al cl Am cm);obtain ⟨q0,f0,t0⟩:=E.rules m0;obtain ⟨o,ho⟩:∃ o,h.opn=o:=⟨_,rfl⟩;obtain ⟨b,hb⟩:∃ b,decide (h.p.zone=z)=b:=⟨_,rfl⟩;have hb2:(h.p.zone == z)=b:=by rw [←hb];by_cases hz:h.p.zone=z <;> simp [hz]
 have hw:bK h z=(o && b):=by unfold bK;rw [ho,hb]
 rw [hw];clear hw hb;cases o with
 | true=>
   go_enter Tryz.func122,Tryz.ntmps122
   go_wp2_with fail;go_ret;exact ⟨by simp,E.below⟩
 | false=>
   go_enter Tryz.func122,Tryz.ntmps122
   go_wp2_with fail;go_ret;exact ⟨by simp,E.below⟩
def zgX (x:Ex) (b:List UInt8):Rc:=⟨5,x.lba,x.n,x.ver,x.zone,x.off,b⟩
def zhS (x:Ex):Prop:=(-9223372036854775808≤x.lba∧x.lba≤9223372036854775807)∧(-9223372036854775808≤x.n∧x.n≤9223372036854775807)∧(-9223372036854775808≤x.ver∧x.ver≤9223372036854775807)∧(-9223372036854775808≤x.zone∧x.zone≤9223372036854775807)∧(-9223372036854775808≤x.off∧x.off≤9223372036854775807)
theorem xB (d:Zd) (A:Option Addr) (c:Nat) (Am:Option Addr) (cm:Nat) (m:List Ex) (x:Ex) (Al:Option Addr) (cl:Nat) (K K' Kl:Nat→Prop) (w:World) (hv:IsL Rp.zone w K (.slice A d.z.length c) d.z) (hm:IsL Rp.ex w K' (.slice Am m.length cm) m)
 (hl:IsL Rp.ex w Kl (.slice Al 1 cl) [x]) (hd:okD d) (hch:aC 0 m) (hb:aJ x.lba x.n) (hn:x.n≤4096) (hf:rB d.z m) (hx:zhS x) (hbl:(cC d.z m x.lba x.n).1.length≤1000000) :
 Calls Tryz.prog 123 #[.agg #[.int .i64 d.cap,.int .i64 d.opn,.int .i64 d.act,.slice A d.z.length c],.slice Am m.length cm,.slice Al 1 cl] w fun e w'=>
  ∃ A4 c4,e=.returned (.tuple #[.slice A4 1 c4,.int .i64 0])∧IsL Rp.rc w' (fun b=>w.heap.size≤b) (.slice A4 1 c4) [zgX x (cC d.z m x.lba x.n).1]∧Below w.heap.size w w':=by
 have hby:=fun W a b=>mF d A c Am cm m x.lba x.n K K' W a b hd hch hb hn hf
 obtain ⟨bs,hbs⟩:∃ bs,(cC d.z m x.lba x.n).1=bs:=⟨_,rfl⟩;rw [hbs] at hby hbl ⊢;obtain ⟨nb,hnb⟩:∃ nb,bs.length=nb:=⟨_,rfl⟩;rw [hnb] at hby hbl;have HNB:=zia hnb;have HX:=zia hx;have E:=(((Kn.start w).give aB.list hv).give aB.list hm).give aB.list hl |>.push 26 #[.int .i64 d.cap,.int .i64 d.opn,.int .i64 d.act,.slice A d.z.length c]
 have hb1:=(zif w.heap.size w).alloc (zic _) (.cells #[.int .i64 d.cap,.int .i64 d.opn,.int .i64 d.act,.slice A d.z.length c] 26);obtain ⟨i7,hi7,hx0,hx1,hx2⟩:=ziH Tryz.infR;clear hbs hnb hx hv hm hl hd hch hb hn hf;go_enter Tryz.func123,Tryz.ntmps123
 go_wp2_with fail;generalize w.alloc (.cells #[.int .i64 d.cap,.int .i64 d.opn,.int .i64 d.act,.slice A d.z.length c] 26)=w1 at E hb1 ⊢;go_loopw [8,15] (fun o i wr=>∃ j:Nat,i=.int .i64 j∧((j=0∧o=.slice none 0 0∧wr=w1)∨(j=1∧∃ A4 c4,o=.slice A4 1 c4∧IsL Rp.rc wr (fun b=>w.heap.size≤b) (.slice A4 1 c4) [zgX x bs]∧Below w.heap.size w wr))) (fun _ i _=>1-(intOf i).toNat)
 case atStart=>exact ⟨0,rfl,Or.inl ⟨rfl,rfl,rfl⟩⟩
 case round=>
  obtain ⟨j,rfl,⟨rfl,rfl,rfl⟩ | ⟨rfl,A4,c4,rfl,hR,hbR⟩⟩:=hrel
  · have hje:([x]:List Ex)[0]?=some x:=rfl
    obtain ⟨ad,had,-,c0,c1,c2,c3,c4⟩:=bY (E.get m0) hje;subst had;have h0:ad.add (0*5)=ad:=by simp [Addr.add]
    rw [h0] at c0 c1 c2 c3 c4;obtain ⟨q0,f0,t0⟩:=E.rules m0;have hba:Below wr.heap.size wr (wr.alloc (.cells #[.int .i64 x.lba,.int .i64 x.n,.int .i64 x.ver,.int .i64 x.zone,.int .i64 x.off] 90)):=zBA;have hBx:=Blk.new wr 90 #[.int .i64 x.lba,.int .i64 x.n,.int .i64 x.ver,.int .i64 x.zone,.int .i64 x.off] rfl;clear h0 hje;go_wp2_with fail;generalize wr.alloc (.cells #[.int .i64 x.lba,.int .i64 x.n,.int .i64 x.ver,.int .i64 x.zone,.int .i64 x.off] 90)=w2 at hba hBx ⊢;replace E:=E.step hba;clear c0 c1 c2 c3 c4 q0 f0 t0;refine (hby _ (E.get m2) (E.get m1)).mono ?_;rintro u w3 ⟨A4,c4,rfl,own4,hb3⟩;replace E:=E.step hb3;obtain ⟨q0,f0⟩:=(hBx.step hb3).rules;have hb4:Below w.heap.size w w3:=E.below;have hsz2:w.heap.size≤w2.heap.size:=zit hb1.size hba.size;have hrd:Rp.rc.is w3 (fun b=>w.heap.size≤b) [.int .i64 5,.int .i64 x.lba,.int .i64 x.n,.int .i64 x.ver,.int .i64 x.zone,.int .i64 x.off,.slice A4 nb c4] (zgX x bs):=by
     obtain ⟨r1,r2,r3,r4,r5⟩:=HX.out;refine ⟨_,rfl,?_,⟨by show (-9223372036854775808:Int)≤5;decide,by show (5:Int)≤9223372036854775807;decide⟩,r1,r2,r3,r4,r5⟩
     have hB:=IsB.of_own (l:=bs) (by rw [HNB.out];exact own4) (by rw [HNB.out];omega)
     rw [HNB.out] at hB;exact hB.more fun b hb=>zit hsz2 hb
    go_wp2_with (at_builtin;refine aF rfl _ _ _ rfl w.heap.size 117 i7 _ 7 72 Tryz.underlying32 hi7 hx0 hx1 hx2 rfl (by omega) rfl (zin _ _ _ _) rfl (aG.new (xs:=[.int .i64 5,.int .i64 x.lba,.int .i64 x.n,.int .i64 x.ver,.int .i64 x.zone,.int .i64 x.off,.slice A4 nb c4]) (n:=1) rfl rfl rfl) (by simp [Value.oneCell']) (by simp only [maxLen];omega) (by omega) (by rw [zid];have:=hb4.size;omega) ?_;intro A8 c8 w6 own8 hg8)
    have hb6:Below w3.heap.size w3 w6:=(zBA).trans (hg8.turned.below (fun k hk=>by have hk':some k=none:=hk;cases hk') (by rw [zid];omega))
    have hcl:aI Rp.rc w3 (fun b=>w.heap.size≤b) [.int .i64 5,.int .i64 x.lba,.int .i64 x.n,.int .i64 x.ver,.int .i64 x.zone,.int .i64 x.off,.slice A4 nb c4] [zgX x bs]:=⟨_,[],(ziz _).symm,hrd,rfl⟩
    have own9:w6.ownsRow w.heap.size 117 7 (.slice A8 1 c8) 1 [.int .i64 5,.int .i64 x.lba,.int .i64 x.n,.int .i64 x.ver,.int .i64 x.zone,.int .i64 x.off,.slice A4 nb c4]:=own8;have hIR:IsL Rp.rc w6 (fun b=>w.heap.size≤b) (.slice A8 1 c8) [zgX x bs]:=⟨A8,c8,_,rfl,aG.of_own_ge own9,hcl.step hb6,cD own9,bF own9,by show 1≤_;omega⟩
    go_roundw
    case rel=>exact ⟨1,by go_num,Or.inr ⟨rfl,A8,c8,rfl,hIR,hb4.trans (hb6.mono hb4.size)⟩⟩
    case measure=>decide
  · go_wp2_with fail
    go_ret2;exact ⟨A4,c4,rfl,hR,hbR⟩
theorem zcr (e:Ex) (w:World):Calls Tryz.prog 180 #[.agg #[.int .i64 e.lba,.int .i64 e.n,.int .i64 e.ver,.int .i64 e.zone,.int .i64 e.off]] w fun x w'=>x=.returned (.bool (decide (0≤e.zone)))∧Below w.heap.size w w':=by
 have E:=(Kn.start w).push 90 #[.int .i64 e.lba,.int .i64 e.n,.int .i64 e.ver,.int .i64 e.zone,.int .i64 e.off];go_enter Tryz.func180,Tryz.ntmps180
 go_wp2;go_ret;exact ⟨by simp,E.below⟩
theorem mH {P:Program} (w:World) (base:Nat) (t tn ty e:TypeId) (i:TypeInfo) (kq kn:IntKind) (ht:P.underlying t=some (.slice e)) (htn:P.underlying tn=some (.int kn)) (hi:P.info? e=some i) (hz:i.zero=some (.int .u8 0))
 (hsize:i.size=1) (hby:i.bytes=1) {v:Value} {n:Nat} {xs:List Value} (hown:w.ownsRow base e 1 v n xs) (m:Nat) (hm:n+m≤140737488355328) (hbase:base≤w.heap.size) :
 ∃ v' w',(Builtin.append_ #[t,tn] ty #[v,.int kq m]).run P w=.ok v' w'∧w'.ownsRow base e 1 v' (n+m) (xs++aE (List.replicate m 0))∧w.grownBy w' v.ownBlock∧(v'.ownBlock=v.ownBlock∨∃ g,v'.ownBlock=some g∧w.heap.size≤g):=by
 have hxl:xs.length=n:=by simpa using hown.1
 have hlen:(xs++aE (List.replicate m 0)).length=(n+m)*1:=by rw [zie,hxl,eK,ziC,zk0]
 have hz1:(Value.int .u8 0).cells=#[.int .u8 0]:=rfl;have hzc:∀ k,(Builtin.zeroCells #[.int .u8 0] k).size=k:=fun k=>by rw [zko];simp
 have hzt:Builtin.zeroCells #[.int .u8 0] m=(aE (List.replicate m 0)).toArray:=by rw [←jY,Array.toArray_toList]
 have hw:IntKind.i64.wrap (m:Int)=m:=by rw [zk8];omega
 have hneg:¬((m:Int)<0):=by omega
 have h48:¬(281474976710656<(m:Int)):=by omega
 have grown:∀ (old:Nat),old<n+m →
  (w.drew.alloc (.cells (xs.toArray++Builtin.zeroCells #[.int .u8 0] m++Builtin.zeroCells #[.int .u8 0] (grownCap w (n+m) old e-(n+m))) e)).ownsRow base e 1
   (.slice (some ⟨w.heap.size,0,none⟩) (n+m) (grownCap w (n+m) old e)) (n+m) (xs++aE (List.replicate m 0)) ∧
  ∀ row,w.grownBy (w.drew.alloc (.cells (xs.toArray++Builtin.zeroCells #[.int .u8 0] m++Builtin.zeroCells #[.int .u8 0] (grownCap w (n+m) old e-(n+m))) e)) row:=by
  intro old ho;have hge:=zkx w (n+m) old e;have hcm:grownCap w (n+m) old e≤maxLen:=zjL w (n+m) old e (by simp only [maxLen];omega)
  refine ⟨⟨hlen,.inr ⟨w.heap.size,_,_,rfl,hbase,zkE w.drew _,hge,hcm,?_,?_⟩⟩,fun row=>⟨rfl,rfl,rfl,by simp,fun k hk _=>Go.heap_alloc_old w.drew _ (by exact hk)⟩⟩
  · simp only [zjP,ziO,hzc,hxl]
    omega
  · simp only [zjS,hzt]
    rw [←hlen];exact zk1
 rcases hown.2 with ⟨rfl,rfl⟩ | ⟨g,cap,cur,rfl,hbg,hg,hnc,hcm,hcs,htake⟩
 · have hx:xs=[]:=zis hxl
   subst hx;rcases ziV m with h0 | h0
   · subst h0
     refine ⟨.slice none 0 0,w,?_,zin w base e 1,World.grownBy.refl w _,.inl rfl⟩;simp [Builtin.append_,ziK ht,ziK htn,sizeOf,typeInfo,hi,asInt,asIntOf,zk8]
   · have hr:=Lib.run_append_nil_zeros w t tn ty e i (.int .u8 0) kq kn ht htn hi hz m h0 (by omega) (by omega) (by rw [hby];omega)
     have hgr:=grown 0 (by omega)
     simp only [zj5,List.nil_append,Array.empty_append] at hgr ⊢;rw [hz1] at hr;exact ⟨_,_,hr,hgr.1,hgr.2 _,.inr ⟨_,rfl,zic _⟩⟩
 · by_cases hroom:n+m≤cap
   · have hfit:n+(aE (List.replicate m 0)).length≤cur.size:=by rw [eK,ziC,hcs];omega
     have hst:=run_storeCells_at P g n e (aE (List.replicate m 0)) 0 cur w hg (by omega) (aW _)
     simp only [Nat.add_zero] at hst;have hrun:(Builtin.append_ #[t,tn] ty #[.slice (some ⟨g,0,none⟩) n cap,.int kq m]).run P w=.ok (.slice (some ⟨g,0,none⟩) (n+m) cap) (w.setRow g (cur.toList.take n++aE (List.replicate m 0)++cur.toList.drop (n+(aE (List.replicate m 0)).length)).toArray):=by
      rcases ziV m with h0 | h0
      · subst h0
        simp only [List.replicate_zero,aE,zjN] at hst;simp [Builtin.append_,ziK ht,ziK htn,sizeOf,typeInfo,zeroValue,hi,hz,asInt,asIntOf,hsize,hby,hnc,Addr.add_lit,hst,aE,zk8]
      · have hm0:m≠0:=by omega
        simp [Builtin.append_,ziK ht,ziK htn,sizeOf,typeInfo,zeroValue,hi,hz,asInt,asIntOf,hw,hneg,h48,hsize,hby,hroom,hm0,hz1,hzt,Addr.add_lit,hst]
     refine ⟨_,_,hrun,⟨hlen,.inr ⟨g,cap,_,rfl,hbg,zjT w g cur _ e _ hg,hroom,hcm,?_,?_⟩⟩,⟨rfl,rfl,rfl,by simp,fun k _ hk=>zkq w g k _ (fun e=>hk (by simp [Value.ownBlock,e]))⟩,.inl rfl⟩
     · simp only [ziO,zie,zio,ziG,Array.length_toList]
       omega
     · have ht':cur.toList.take n=xs:=by simpa using htake
       rw [ht',←hlen];exact zk1
   · have holds:∀ j u,xs[j]?=some u→w.cell? ((⟨g,0,none⟩:Addr).add j)=some u:=hown.cells (g:=g) rfl
     have hold:(Builtin.firstCells i.size n (.slice (some ⟨g,0,none⟩) n cap)).run P w.drew=.ok xs.toArray w.drew:=by
      rw [hsize];exact run_firstCells_some (P:=P) w.drew 1 n ⟨g,0,none⟩ n cap xs hown.1 holds
     have hm0:0<m:=by omega
     have hr:=Lib.run_append_grow_zeros w t tn ty e i (.int .u8 0) kq kn ht htn hi hz (some ⟨g,0,none⟩) n cap xs hold m hm0 (by omega) (by omega) (by omega) (by rw [hby];omega) (by rw [hby];exact zkw (by omega) (by omega))
     have hgr:=grown cap (by omega)
     rw [hz1] at hr;exact ⟨_,_,hr,hgr.1,hgr.2 _,.inr ⟨_,rfl,zic _⟩⟩
theorem mU {P:Program} {w:World} {ops:Array Oper} {rest:List Oper} {o:Oper} {a:Act} {Q:Exit→Act→World→Prop} (hgd:o.guard=none) (s x:Operand) (t tn:TypeId)
 (ho:o.op=.call { callee:=.builtin .append,args:=#[s,x],argTypes:=#[t,tn] })
 (base:Nat) (e:TypeId) (i:TypeInfo) (kq kn:IntKind) (ht:P.underlying t=some (.slice e)) (htn:P.underlying tn=some (.int kn)) (hi:P.info? e=some i) (hz:i.zero=some (.int .u8 0))
 (hsize:i.size=1) (hby:i.bytes=1)
 {v:Value} {n:Nat} {xs:List Value} (hs:a.eval s=v) (hown:w.ownsRow base e 1 v n xs) (m:Nat) (hx:a.eval x=.int kq m) (hm:n+m≤140737488355328) (hbase:base≤w.heap.size)
 (h:∀ A' c' w',w'.ownsRow base e 1 (.slice A' (n+m) c') (n+m) (xs++aE (List.replicate m 0))→xZ base w w' v (.slice A' (n+m) c')→wpList P ops Q rest (a.put o.dst (.slice A' (n+m) c')) w') :
 wpList P ops Q (o::rest) a w:=
 zkf hgd fun _ hK=>by
  obtain ⟨v',w',hrun,h2,h3,h4⟩:=mH (P:=P) w base t tn o.type e i kq kn ht htn hi hz hsize hby hown m hm hbase;obtain ⟨A',c',rfl⟩:=gC h2;unfold Oper.wp execOp;simp only [ho,resolve,invoke,builtin,zkg,Sem.run_pure,Result.andThen_ok,zk7,zj2,zjN,hs,hx,hrun];exact hK _ _ (h A' c' w' h2 ⟨(zif _ _).grown h3 hbase (jW hown),h3,h4⟩)
