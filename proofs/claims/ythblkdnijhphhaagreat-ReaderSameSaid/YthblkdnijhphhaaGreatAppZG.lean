/- A part of the proof. -/
import Derived.Test.YthblkdnijhphhaaGreatDelE
import Derived.Test.YthblkdnijhphhaaGreatReplayB
set_option maxHeartbeats 4000000
set_option maxRecDepth 100000
namespace Go.Proofs.YthblkdnijhphhaaGreat
open Go.RowKit Go.Sort Go.Lib Go.Shelf
def ze4 (w w':World):Prop:=∃ q os',w'=grow (w.drewN q) os'
theorem ze4.refl (w:World):ze4 w w:=⟨0,#[],by rw [grow_empty];rfl⟩
theorem ze4.drewN {w w':World} (h:ze4 w w') (n:Nat):ze4 w (w'.drewN n):=by
 obtain ⟨q,os,rfl⟩:=h;refine ⟨q+n,os,?_⟩;unfold grow World.drewN;simp [Nat.add_assoc]
theorem ze4.drew {w w':World} (h:ze4 w w'):ze4 w w'.drew:=h.drewN 1
theorem ze4.alloc {w w':World} (h:ze4 w w') (o:Obj):ze4 w (w'.alloc o):=by
 obtain ⟨q,os,rfl⟩:=h;exact ⟨q,os ++ #[o],by rw [alloc_eq_grow,grow_grow]⟩
theorem zef (a b:Int) (w:World):Calls Tryz.prog 51 #[.int .i64 a,.int .i64 b] w fun e w'=>e=.returned (.int .i64 (cmpI a b))∧w'=w:=by
 unfold cmpI;by_cases h1:a<b
 · rw [if_pos h1]
   go_enter Tryz.func51,Tryz.ntmps51
   go_wp2;go_ret;exact ⟨rfl,rfl⟩
 · rw [if_neg h1]
   by_cases h2:b<a
   · rw [if_pos h2]
     go_enter Tryz.func51,Tryz.ntmps51
     go_wp2;go_ret;exact ⟨rfl,rfl⟩
   · rw [if_neg h2]
     go_enter Tryz.func51,Tryz.ntmps51
     go_wp2;go_ret;exact ⟨rfl,rfl⟩
def orI (a b:Int):Int:=if a=0 then b else a
theorem zop (a b:Int) (g:Nat) (w:World) (hB:∀ o,w.cell? ⟨g,o,none⟩=(#[.int .i64 a,.int .i64 b]:Array Value)[o]?):Calls Tryz.prog 199 #[.slice (some ⟨g,0,none⟩) 2 2] w fun e w'=>e=.returned (.int .i64 (orI a b))∧w'=w:=by
 obtain ⟨r,hr⟩:∃ r,orI a b=r:=⟨_,rfl⟩;rw [hr];have HR:=Lib.hid hr;clear hr;have c0:w.cell? ⟨g,0,none⟩=some (.int .i64 a):=hB 0;have c1:w.cell? ⟨g,1,none⟩=some (.int .i64 b):=hB 1;clear hB;go_enter Tryz.func199,Tryz.ntmps199
 go_wp2_with fail;go_loopw [5,8] (fun x i wr=>∃ j:Nat,i=.int .i64 j∧j≤2∧(0<j→a=0)∧(1<j→b=0)∧wr=w∧(∃ y,x=y)) (fun _ i _=>2-(intOf i).toNat)
 case atStart=>exact ⟨0,rfl,by omega,by omega,by omega,rfl,_,rfl⟩
 case round=>
  obtain ⟨j,rfl,hj,ha,hb,rfl,y,rfl⟩:=hrel;rcases (by omega:j=0∨j=1∨j=2) with rfl | rfl | rfl
  · by_cases h0:a=0
    · subst h0
      go_wp2;go_roundw
      case rel=>exact ⟨1,by go_num,by omega,by simp,by simp,by simp⟩
      case measure=>decide
    · have hra:r=a:=by rw [←HR.out];unfold orI;rw [if_neg h0]
      subst hra;go_wp2;go_ret;exact ⟨rfl,rfl⟩
  · obtain rfl:=ha (by omega)
    have hrb:r=b:=by rw [←HR.out];unfold orI;rw [if_pos rfl]
    subst hrb;by_cases h0:r=0
    · subst h0
      go_wp2;go_roundw
      case rel=>exact ⟨2,by go_num,by omega,by simp,by simp,by simp⟩
      case measure=>decide
    · go_wp2
      go_ret;exact ⟨rfl,rfl⟩
  · obtain rfl:=ha (by omega)
    obtain rfl:=hb (by omega)
    have hr0:r=0:=by rw [←HR.out];rfl
    subst hr0;go_wp2;go_ret;exact ⟨rfl,rfl⟩
theorem zoD (e:Ex) (z:Int) (g:Nat) (w:World) (hz:Blk w g 3 #[.int .i64 z]):Calls Tryz.prog 197 #[.agg #[.int .i64 e.lba,.int .i64 e.n,.int .i64 e.ver,.int .i64 e.zone,.int .i64 e.off],.pointer (some ⟨g,0,none⟩)] w fun x w'=>x=.returned (.bool (decide (e.zone≠z)))∧Below w.heap.size w w':=by
 have E:=((Kn.start w).know hz).push 85 #[.int .i64 e.lba,.int .i64 e.n,.int .i64 e.ver,.int .i64 e.zone,.int .i64 e.off];obtain ⟨q0,f0,t0⟩:=E.rules m0;obtain ⟨q1,f1,t1⟩:=E.rules m1;obtain ⟨r,hr⟩:∃ r,decide (e.zone≠z)=r:=⟨_,rfl⟩;rw [hr];have hr2:(e.zone != z)=r:=by rw [←hr];by_cases h:e.zone=z <;> simp [h]
 clear hr;go_enter Tryz.func197,Tryz.ntmps197
 go_wp2;go_ret;exact ⟨rfl,E.below⟩
def cmpO (x y:Ex):Int:=orI (cmpI x.off y.off) (cmpI x.lba y.lba)
instance:Inhabited Ex:=⟨⟨0,0,0,0,0⟩⟩
theorem ltO (x y:Ex):ltOf cmpO x y=decide (x.off<y.off∨x.off=y.off∧x.lba<y.lba):=by
 unfold ltOf cmpO orI cmpI;rw [Bool.eq_iff_iff];simp only [decide_eq_true_eq];split <;> split <;> (try split) <;> (try split) <;> (try split) <;> omega
theorem swoO:SWO (ltOf cmpO) where
 irrefl x:=by rw [ltO];simp
 trans x y z h1 h2:=by rw [ltO] at *;simp only [decide_eq_true_eq] at *;omega
 ntrans x y z h1 h2:=by rw [ltO] at *;simp only [decide_eq_false_iff_not] at *;omega
theorem zoz (x y:Ex) (w:World):Calls Tryz.prog 198 #[exV x,exV y] w fun e w'=>e=.returned (.int .i64 (cmpO x y))∧ze4 w w':=by
 obtain ⟨r,hr⟩:∃ r,cmpO x y=r:=⟨_,rfl⟩;rw [hr];have HR:=Lib.hid hr;clear hr;have E:=((Kn.start w).push 85 (exC x)).push 85 (exC y);have G:=((ze4.refl w).alloc (.cells (exC x) 85)).alloc (.cells (exC y) 85);go_enter Tryz.func198,Tryz.ntmps198
 go_upto_region 1 with fail;change Code.wp _ _ _ _ ((w.alloc (.cells (exC x) 85)).alloc (.cells (exC y) 85))
 rw [World.size_alloc] at E;obtain ⟨g,hg⟩:∃ g,w.heap.size=g:=⟨_,rfl⟩;rw [hg] at E;simp only [hg];generalize hw2:(w.alloc (.cells (exC x) 85)).alloc (.cells (exC y) 85)=w2 at E G ⊢;have hsz:w2.heap.size=g+2:=by rw [←hw2,World.size_alloc,World.size_alloc,hg]
 clear hw2 hg;have HK:Hid (∀ W,Below w2.heap.size w2 W→(∀ o,W.cell? ⟨g+1,o,none⟩=(exC y)[o]?)∧(∀ o,W.cell? ⟨g,o,none⟩=(exC x)[o]?)):=Lib.hid fun W h=>⟨((E.step h).rules m0).1,((E.step h).rules m1).1⟩
 have hb0:Below w2.heap.size w2 w2.drew:=(Below.refl _ _).drew;have hb1:Below w2.heap.size w2 (w2.alloc (.cells #[.int .i64 (cmpI x.off y.off),.int .i64 (cmpI x.lba y.lba)] 3)).drew:=((Below.refl _ _).alloc (Nat.le_refl _) _).drew;have hor:=zop (cmpI x.off y.off) (cmpI x.lba y.lba) w2.heap.size (w2.alloc (.cells #[.int .i64 (cmpI x.off y.off),.int .i64 (cmpI x.lba y.lba)] 3)).drew (Blk.new w2 3 #[.int .i64 (cmpI x.off y.off),.int .i64 (cmpI x.lba y.lba)] rfl).drew.rules.1;rw [hsz] at hor;refine wp_region_held_drew (S:=fun W=>(∀ o,W.cell? ⟨g+1,o,none⟩=(exC y)[o]?)∧(∀ o,W.cell? ⟨g,o,none⟩=(exC x)[o]?)) (by kernel_rfl) (HK.out _ hb0) (fun hHeld=>?_)
 refine wT 0 5 ?_;refine wT 1 6 ?_;refine wT 2 7 ?_;refine wT 3 8 ?_;refine wT 5 10 ?_;refine wT 6 11 ?_;refine wT 7 12 ?_;refine wT 8 13 ?_;refine wR 4 9 (fun K hK=>?_)
 go_simp;refine (zef _ _ _).mono ?_;rintro u w3 ⟨rfl,rfl⟩;go_wp2_with fail;refine hK.out _ _ (HK.out _ hb0) (fun hHeld=>?_)
 clear hK K;try simp only [pu,List.set]
 refine wR 9 14 (fun K hK=>?_)
 go_simp;refine (zef _ _ _).mono ?_;rintro u w3 ⟨rfl,rfl⟩;go_wp2_with fail;refine hK.out _ _ (HK.out _ hb0) (fun hHeld=>?_)
 clear hK K;try simp only [pu,List.set]
 refine wR 10 15 (fun K hK=>?_)
 go_simp;refine hK.out _ _ (HK.out _ hb1) (fun hHeld=>?_)
 clear hK K;try simp only [pu,List.set]
 refine wR 11 16 (fun K hK=>?_)
 go_simp;refine hor.mono ?_;rintro u w3 ⟨rfl,rfl⟩;go_wp2_with fail;refine hK.out _ _ (HK.out _ hb1) (fun hHeld=>?_)
 clear hK K;refine wT 12 4 ?_;refine wpAnyH_done (by kernel_rfl) ?_ _
 go_wp2;go_ret;exact ⟨by rw [←HR.out];rfl,(G.alloc _).drew⟩
theorem ziZ (d:Array Ex):(flatK (fun x:Ex=>exCs x) 5 d).toList=exLs d.toList:=by
 refine List.ext_getElem? fun t=>?_
 by_cases ht:t<d.size*5
 · have h1:t / 5<d.size:=by omega
   have h2:d.toList[t / 5]?=some d[t / 5]:=by rw [Array.getElem?_toList,Array.getElem?_eq_getElem h1]
   have h3:=zkB h2 (t % 5) (Nat.mod_lt _ (by omega))
   rw [show t / 5*5+t % 5=t by omega] at h3
   rw [h3,Array.getElem?_toList,Array.getElem?_eq_getElem (by rw [size_flatK];exact ht)]
   have h4:=get_flatK (fun x:Ex=>exCs x) 5 d t ht
   rw [getElem!_pos _ t (by rw [size_flatK];exact ht),getElem!_pos d (t / 5) h1] at h4
   rw [h4];have h5:t % 5<(exCs d[t / 5]).length:=Nat.mod_lt _ (by omega)
   rw [List.getElem?_eq_getElem h5,getElem!_pos (exCs d[t / 5]) (t % 5) h5]
 · rw [List.getElem?_eq_none (by simp;omega),List.getElem?_eq_none (by rw [zbw];simp;omega)]
theorem ziv {t:Nat} {d d':Array Ex} (h:PermIn 0 t d d') (hd:d.size=t):d'.size=t∧d'.toList.Perm d.toList:=by
 obtain ⟨h1,_,h3⟩:=h;have e1:d'.extract 0 t=d':=by rw [show t=d'.size by omega];exact Array.extract_size
 have e2:d.extract 0 t=d:=by rw [show t=d.size by omega];exact Array.extract_size
 rw [e1,e2] at h3;exact ⟨by omega,h3⟩
theorem zle (Ao:Option Addr) (t co base:Nat) (l:List Ex) (w:World) (hown:w.ownsRow base 85 5 (.slice Ao t co) t (exLs l)) (hl:l.length=t) (ht:t≤4398046511104) (hpos:0<t) :
 Calls Tryz.prog 59 #[.slice Ao t co,.func (.func 198) #[] #[]] w fun x w'=>x=.returned (.tuple #[]) ∧
  ∃ l',l'.Perm l∧l'.Pairwise (fun a b=>a.off<b.off∨a.off=b.off∧a.lba≤b.lba)∧w'.ownsRow base 85 5 (.slice Ao t co) t (exLs l')∧za0 w w' (fun b=>some b=(Value.slice Ao t co).ownBlock):=by
 have hown0:=hown;rcases hown.2 with ⟨_,h0⟩ | ⟨g,cap,cur,hv,hg,hh,h3,h4,h5,h6⟩
 · omega
 injection hv with e1 e2 e3;subst e1 e3;obtain ⟨d,hd⟩:∃ d:Array Ex,d.toList=l:=⟨l.toArray,rfl⟩;have hds:d.size=t:=by rw [←hl,←hd];simp
 have hflat:=ziZ d;rw [hd] at hflat;have hcell:∀ j,j<d.size*5→cur[j]?=some (flatK (fun x:Ex=>exCs x) 5 d)[j]!:=fun j hj=>by
  have h7:(exLs l)[j]?=some (flatK (fun x:Ex=>exCs x) 5 d)[j]!:=by
   rw [←hflat,Array.getElem?_toList,Array.getElem?_eq_getElem (by rw [size_flatK];exact hj),getElem!_pos _ _ (by rw [size_flatK];exact hj)]
  rw [←h6,List.getElem?_take] at h7;split at h7
  · rw [←h7];simp
  · cases h7
 have hB:Blk w g 85 cur:=hh;have hH:HoldsK (fun x:Ex=>exCs x) 5 w g 0 d:=fun j hj=>by
  rw [size_flatK] at hj;rw [Nat.zero_add,hB.cell,hB.frozen,hcell j hj];exact ⟨rfl,rfl⟩
 have eg:∀ args w,(callFunc 198 args).run Tryz.prog w=.ok (.enter 198 args) w:=enters_of Tryz.func198 (by kernel_rfl) rfl
 have hcmp:CmpLays Tryz.prog 198 #[] (fun x:Ex=>exCs x) 5 cmpO g 0 d.size w:=fun _ _ _ _ x y=>zoz x y _
 have hcon:=AnyQ.slices_SortFunc Tryz.sortE 5 (fun _=>by kernel_rfl) (fun _=>by kernel_rfl) (fun x:Ex=>exCs x) (fun _=>rfl) (fun x v hv=>zav [x] v (by simpa [exLs] using hv)) cmpO swoO 198 #[] g 0 co d w eg hcmp hH hB.lt (by omega)
 change Calls Tryz.prog 59 _ _ _ at hcon
 rw [hds] at hcon;refine hcon.mono ?_;rintro x w' ⟨rfl,d',n,os,hp,hs,rfl⟩;have hps:=ziv hp hds;obtain ⟨hsz,hpl⟩:=hps;have hf2:=ziZ d';have hsF:(flatK (fun x:Ex=>exCs x) 5 d').size=t*5:=by rw [size_flatK,hsz]
 refine ⟨rfl,d'.toList,?_,?_,?_,?_⟩
 · rw [←hd]
   exact hpl
 · rw [List.pairwise_iff_getElem]
   intro i j hi hj hij;have hj':j<d'.size:=by simpa using hj
   have hi':i<d'.size:=by simpa using hi
   have h7:=hs i j (Nat.zero_le _) hij (by omega)
   rw [ltO,getElem!_pos d' i hi',getElem!_pos d' j hj'] at h7;simp only [decide_eq_false_iff_not] at h7;simp only [Array.getElem_toList];omega
 · refine ⟨by rw [←hf2];simpa using hsF,.inr ⟨g,co,_,rfl,hg,zfI hh,h3,h4,by simp [putCells,h5],?_⟩⟩
   rw [←hsF,ziR (by rw [hsF,h5];exact Nat.mul_le_mul_right _ h3),hf2]
 · exact zed.mono fun k hk=>by rw [hk];rfl
end Go.Proofs.YthblkdnijhphhaaGreat
namespace Go.Proofs.YthblkdnijhphhaaGreat
open Go.RowKit
theorem zkE (w:World):Calls Tryz.prog 125 #[.int .u64 0] w fun x w'=>x=.returned (.int .i64 0)∧w=w':=by
 go_enter Tryz.func125,Tryz.ntmps125
 go_wp2_with fail;refine (zht 0 _ (by decide) (by decide)).mono ?_
 rintro x w2 ⟨rfl,rfl⟩;go_wp2;go_ret;exact ⟨rfl,rfl⟩
theorem zmS (A:Option Addr) (c:Nat) (f:Value) (w:World):Calls Tryz.prog 169 #[.slice A 0 c,.int .i64 0,.int .i64 0,f] w fun x w'=>x=.returned (.tuple #[])∧Below w.heap.size w w':=by
 have E:=Kn.start w;go_enter Tryz.func169,Tryz.ntmps169
 go_wp2_with fail;go_loopw [8] (fun x wr=>x=.int .i64 1∧wr=w) (fun _ _=>0)
 case atStart=>exact ⟨rfl,rfl⟩
 case round=>
  obtain ⟨rfl,rfl⟩:=hrel;go_wp2_with fail;go_end0;exact ⟨rfl,E.below⟩
theorem zmH (A:Option Addr) (c:Nat) (f:Value) (w:World):Calls Tryz.prog 124 #[.slice A 0 c,.int .i64 0,.int .i64 0,.int .i64 0,f] w fun x w'=>x=.returned (.tuple #[])∧Below w.heap.size w w':=by
 have E:=Kn.start w;go_enter Tryz.func124,Tryz.ntmps124
 go_wp2_with fail;go_loopw [1,2] (fun a b wr=>a=.int .i64 0∧b=.int .i64 0∧wr=w) (fun _ _ _=>0)
 case atStart=>exact ⟨rfl,rfl,rfl⟩
 case round=>
  obtain ⟨rfl,rfl,rfl⟩:=hrel;go_wp2_with fail;refine (zmS _ _ _ _).mono ?_;rintro x w2 ⟨rfl,hb⟩;go_wp2_with fail;first | (simp only [Exit.inBlock,Exit.then];refine bodyPost_ret (results_none rfl _ _ _) rfl ?_) | refine bodyPost_ret (results_none rfl _ _ _) rfl ?_
  exact ⟨rfl,hb⟩
theorem zl6 (A:Option Addr) (c:Nat) (f:Value) (w:World):Calls Tryz.prog 59 #[.slice A 0 c,f] w fun x w'=>x=.returned (.tuple #[])∧Below w.heap.size w w':=by
 have E:=Kn.start w;go_enter Tryz.func59,Tryz.ntmps59
 go_wp2_with fail;refine (zkE _).mono ?_;rintro x w2 ⟨rfl,rfl⟩;go_wp2_with fail;refine (zmH _ _ _ _).mono ?_;rintro x w2 ⟨rfl,hb⟩;go_wp2;go_end0;exact ⟨rfl,hb⟩
structure InE (m:List Ex) (z:Int) (l:List Ex):Prop where
 perm:l.Perm (m.filter (fun e=>decide (e.zone=z)))
 sorted:l.Pairwise (fun a b=>a.off<b.off∨a.off=b.off∧a.lba≤b.lba)
theorem zfY (v:Value) (m:List Ex) (K:Nat→Prop) (z:Int) (w:World) (hv:IsL Rp.ex w K v m) (hl:m.length≤3518437208883) :
 Calls Tryz.prog 161 #[v,.int .i64 z] w fun x w'=>∃ A c l,x=.returned (.tuple #[.slice A l.length c,.int .i64 (if z<0∨chkE m≠0 then 1 else 0)])∧(if z<0∨chkE m≠0 then l=[]∧A=none∧c=0 else InE m z l)∧w'.ownsRow w.heap.size 85 5 (.slice A l.length c) l.length (exLs l)∧Below w.heap.size w w':=by
 obtain ⟨A,c,rfl,hlc,hcc⟩:=hv.form;have E:=((Kn.start w).give za1.list hv).push 3 #[.int .i64 z];obtain ⟨q0,f0,t0⟩:=E.rules m0;by_cases hz:z<0
 · rw [if_pos (Or.inl hz)]
   go_enter Tryz.func161,Tryz.ntmps161
   go_wp2_with fail;go_ret2;exact ⟨none,0,[],rfl,⟨rfl,rfl,rfl⟩,World.ownsRow_nil _ _ _ _,E.below⟩
 · by_cases hc:chkE m=0
   · rw [if_neg (by rintro (h | h);exact hz h;exact h hc)]
     go_enter Tryz.func161,Tryz.ntmps161
     go_wp2_with fail;refine (zaV _ m K _ (E.get m0)).mono ?_;rintro x w2 ⟨rfl,hb2⟩;rw [hc];replace E:=E.step hb2;have hIL:=E.get m0;have hbw:=E.below;go_wp2_with fail;refine (zcX A m.length c K (exLs m) _ (zcA hIL) (zav m) (by omega)).mono ?_
     rintro x w3 ⟨A3,c3,rfl,own3,hb3⟩;replace E:=E.step hb3;obtain ⟨q3,f3,t3⟩:=E.rules m0;go_wp2_with fail;have hw2:w.heap.size<w2.heap.size:=Nat.lt_of_lt_of_le t0 hb2.size;have hBz:=E.at_ m0;have hdel:=ziQ 197 (enters_of Tryz.func197 (by kernel_rfl) rfl) #[.pointer (some ⟨w.heap.size,0,none⟩)] (fun e=>decide (e.zone≠z)) w2.heap.size c3 A3 m w3 own3 (by omega) (fun W e ht _=>zoD e z w.heap.size W (hBz.turned ht (fun h=>by have:=zdb own3 _ h.symm;omega)))
     refine hdel.mono ?_;rintro x w4 ⟨l',hl',rfl,own4,ht4⟩;have hfil:l'=m.filter (fun e=>decide (e.zone=z)):=by rw [hl'];exact List.filter_congr fun e _=>by simp
     have hll:l'.length≤m.length:=by rw [hfil];exact List.length_filter_le _ _
     have hb4:Below w2.heap.size w2 w4:=hb3.trans (ht4.below (fun k hk=>zdb own3 _ hk.symm) hb3.size)
     have HF:=Lib.hid hfil;clear hdel hl' own3 hBz q3 f3 t3 hb3 ht4 hIL hfil;by_cases h0:l'.length=0
     · have hl0:l'=[]:=List.eq_nil_of_length_eq_zero h0
       subst hl0;clear h0;go_wp2_with fail;refine (zl6 _ _ _ _).mono ?_;rintro x w5 ⟨rfl,hb5⟩;go_wp2_with fail;go_ret2;refine ⟨A3,c3,[],rfl,⟨by rw [←HF.out],List.Pairwise.nil⟩,zac (za4 own4 hb5 (Nat.le_refl _)) (by omega),?_⟩
       exact hbw.trans ((hb4.trans (hb5.mono hb4.size)).mono (by omega))
     · go_wp2_with fail
       refine (zle _ _ _ _ l' _ own4 rfl (by omega) (by omega)).mono ?_
       rintro x w5 ⟨rfl,l5,hp5,hs5,own5,ht5⟩;have h55:l5.length=l'.length:=hp5.length_eq;rw [←h55] at own5 ⊢;clear h55;go_wp2_with fail;go_ret2;refine ⟨A3,c3,l5,rfl,⟨by rw [←HF.out];exact hp5,hs5⟩,zac own5 (by omega),?_⟩
       exact hbw.trans ((hb4.trans (ht5.below (fun k hk=>zdb own4 _ hk.symm) hb4.size)).mono (by omega))
   · rw [if_pos (Or.inr hc)]
     obtain ⟨ck,hck⟩:∃ ck,chkE m=ck:=⟨_,rfl⟩;rw [hck] at hc;have hck2:(ck != 0)=true:=by simpa using hc
     go_enter Tryz.func161,Tryz.ntmps161
     go_wp2_with fail;refine (zaV _ m K _ (E.get m0)).mono ?_;rintro x w2 ⟨rfl,hb2⟩;rw [hck];replace E:=E.step hb2;go_wp2_with fail;go_ret2;exact ⟨none,0,[],rfl,⟨rfl,rfl,rfl⟩,World.ownsRow_nil _ _ _ _,E.below⟩
def zaP (z:Int) (x:Ex):Ex:=⟨x.lba,min x.n 256,x.ver,z,x.off⟩
def OutP (B:Nat) (w:World) (z:Int) (L:List Ex) (j:Nat) (out:Value):Prop:=
 (j=0∧out=.slice none 0 0)∨(0<j∧∃ x Ao co,L.head?=some x∧out=.slice Ao 1 co∧w.ownsRow B 85 5 (.slice Ao 1 co) 1 (exLs [zaP z x]))
theorem OutP.step {B:Nat} {w w':World} {z:Int} {L:List Ex} {j:Nat} {out:Value} (h:OutP B w z L j out) (hb:Below w.heap.size w w'):OutP B w' z L j out:=by
 rcases h with h | ⟨h1,x,A,c,h2,h3,h4⟩
 · exact Or.inl h
 · exact Or.inr ⟨h1,x,A,c,h2,h3,za4 h4 hb (Nat.le_refl _)⟩
theorem InE.may {m:List Ex} {z:Int} {l:List Ex} (h:InE m z l) (hc:za2 0 m) {e:Ex} (he:e∈l):mayE e∧e.zone=z:=by
 have h1:=h.perm.mem_iff.1 he;rw [List.mem_filter] at h1;exact ⟨(zai hc _ h1.1).1,by simpa using h1.2⟩
theorem zhQ (v:Value) (m:List Ex) (K:Nat→Prop) (z:Int) (w:World) (hv:IsL Rp.ex w K v m) (hl:m.length≤3518437208883) :
 Calls Tryz.prog 108 #[v,.int .i64 z,.int .i64 1] w fun x w'=>∃ A c l,x=.returned (.tuple #[.slice A l.length c,.int .i64 (if z<0∨chkE m≠0 then 1 else 0)])∧(if z<0∨chkE m≠0 then l=[] else ∃ L,InE m z L∧l=(L.head?.map (zaP z)).toList)∧w'.ownsRow w.heap.size 85 5 (.slice A l.length c) l.length (exLs l)∧Below w.heap.size w w':=by
 have hin:=zfY v m K z w hv hl;obtain ⟨i0,hi,hz0,hz1,hz2⟩:=info_parts Tryz.infE;by_cases hb:z<0∨chkE m≠0
 · simp only [if_pos hb] at hin ⊢
   go_enter Tryz.func108,Tryz.ntmps108
   go_wp2_with fail;go_step3
   go_wp2_with fail;refine hin.mono ?_;rintro x w1 ⟨A1,c1,L,rfl,⟨rfl,rfl,rfl⟩,own1,hb1⟩;go_wp2_with fail;try rw [Exit.noGoto_ret]
   go_ret2;exact ⟨none,0,[],rfl,rfl,World.ownsRow_nil _ _ _ _,hb1⟩
 · simp only [if_neg hb] at hin ⊢
   have hch:za2 0 m:=by
    have:¬chkE m≠0:=fun h=>hb (Or.inr h)
    unfold chkE at this;by_cases h:za2 0 m
    · exact h
    · rw [if_neg h] at this;exact absurd (by decide) this
   clear hb;go_enter Tryz.func108,Tryz.ntmps108
   go_wp2_with fail;go_step3
   go_wp2_with fail;refine hin.mono ?_;rintro x w1 ⟨A1,c1,L,rfl,hL,own1,hb1⟩;have HL:=Lib.hid hL;have hll:L.length≤3518437208883:=by rw [hL.perm.length_eq];exact Nat.le_trans (List.length_filter_le _ _) hl
   obtain ⟨n,hn⟩:∃ n,L.length=n:=⟨_,rfl⟩;have HN:=Lib.hid hn;rw [hn] at own1 hll ⊢;clear hin hL hn;go_wp2_with fail;go_step3
   go_wp2_with fail;go_loopw [10,28] (fun out i wr=>∃ j:Nat,i=.int .i64 j∧j≤n∧Hid (OutP w.heap.size wr z L j out)∧Below w1.heap.size w1 wr) (fun _ i _=>n-(intOf i).toNat)
   case atStart=>exact ⟨0,rfl,Nat.zero_le _,Lib.hid (Or.inl ⟨rfl,rfl⟩),Below.refl _ _⟩
   case round=>
    obtain ⟨j,rfl,hj,HO,hbr⟩:=hrel;by_cases hlt:j<n
    · have hlt':j<L.length:=by rw [HN.out];exact hlt
      have hje:=List.getElem?_eq_getElem hlt';obtain ⟨ad,rfl,-,c0,c1,c2,c3,c4⟩:=zb9 (zaA (za4 own1 hbr (Nat.le_refl _)) HN.out (by omega)) hje
      obtain ⟨⟨⟨p0,p1,p2,p3⟩,p4,p5,p6,p7,p8,p9⟩,hez⟩:=HL.out.may hch (List.getElem_mem hlt');have HE:=Lib.hid hje;have HZ:=Lib.hid hez;clear hez;generalize L[j]=e at HE HZ c0 c1 c2 c3 c4 p0 p1 p2 p3 p4 p5 p6 p7 p8 p9;have hof:e.off≤1125899906842624:=by by_cases h:e.zone = -1 <;> omega
      have hBv:=Blk.new wr 85 #[.int .i64 e.lba,.int .i64 e.n,.int .i64 e.ver,.int .i64 e.zone,.int .i64 e.off] rfl;have hba:Below wr.heap.size wr (wr.alloc (.cells #[.int .i64 e.lba,.int .i64 e.n,.int .i64 e.ver,.int .i64 e.zone,.int .i64 e.off] 85)):=(Below.refl _ _).alloc (Nat.le_refl _) _;have j1:(j:Int)<(n:Int):=by omega
      have j0:(0:Int)≤(j:Int):=by omega
      clear hje hlt' p5 p6 p8 p9 hv hch;go_wp2_with fail;generalize hwx:wr.alloc (.cells #[.int .i64 e.lba,.int .i64 e.n,.int .i64 e.ver,.int .i64 e.zone,.int .i64 e.off] 85)=wx at hBv hba ⊢;clear hwx c0 c1 c2 c3 c4;have hO0:=HO.out.step hba;go_loopw [10,13] (fun o k wz=>Hid ((k=.int .i64 0∧OutP w.heap.size wz z L j o)∨(j=0∧k=.int .i64 256∧OutP w.heap.size wz z L 1 o))∧Below wx.heap.size wx wz) (fun _ k _=>512-(intOf k).toNat)
      case atStart=>exact ⟨Lib.hid (Or.inl ⟨rfl,hO0⟩),Below.refl _ _⟩
      case round=>
       obtain ⟨HR,hbz⟩:=hrel;have hbx:=(hbr.trans (hba.mono hbr.size));have hbw:Below w.heap.size w wx:=hb1.trans (hbx.mono hb1.size);obtain ⟨q0,f0⟩:=(hBv.step hbz).rules;clear HO hO0;rcases HR.out with ⟨rfl,⟨hj0,rfl⟩ | ⟨hj0,x,Ao,co,hx,rfl,ownO⟩⟩ | ⟨hj0,rfl,⟨h10,-⟩ | ⟨-,x,Ao,co,hx,rfl,ownO⟩⟩
       · clear HR
         have HJ0:=Lib.hid hj0;clear hj0;have hbwz:w.heap.size≤wr.heap.size:=Nat.le_trans hbw.size hbz.size;go_wp2_with (at_builtin;refine za5 rfl _ _ _ rfl w.heap.size 85 i0 _ 5 40 Tryz.underlying36 hi hz0 hz1 hz2 rfl (by omega) rfl (World.ownsRow_nil _ _ _ _) rfl (za6.new (xs:=exCs (zaP z e)) (n:=1) rfl rfl rfl) (fun u hu=>zav [zaP z e] u (by simpa [exLs] using hu)) (by simp only [maxLen];omega) (by omega) (by rw [World.size_alloc];omega) ?_;intro A8 c8 w6 own8 hg8)
         have hb6:Below wr.heap.size wr w6:=((Below.refl _ _).alloc (Nat.le_refl _) _).trans (hg8.turned.below (fun k hk=>by have hk':some k=none:=hk;cases hk') (by rw [World.size_alloc];omega))
         have hhd:L.head?=some e:=by rw [List.head?_eq_getElem?,←HJ0.out];exact HE.out
         have hO1:OutP w.heap.size w6 z L 1 (.slice A8 1 c8):=Or.inr ⟨by omega,e,A8,c8,hhd,rfl,by simpa [exLs] using own8⟩
         go_roundw
         case rel=>exact ⟨Lib.hid (Or.inr ⟨HJ0.out,rfl,hO1⟩),hbz.trans (hb6.mono hbz.size)⟩
         case measure=>decide
       · clear HR
         go_wp2_with fail;try rw [Exit.noGoto_ret]
         go_ret2;refine ⟨Ao,co,[zaP z x],rfl,⟨L,HL.out,by rw [hx];rfl⟩,ownO,hbw.trans (hbz.mono hbw.size)⟩
       · omega
       · clear HR
         by_cases h256:256<e.n
         · go_wp2_with fail
           try rw [Exit.noGoto_ret]
           go_ret2;refine ⟨Ao,co,[zaP z x],rfl,⟨L,HL.out,by rw [hx];rfl⟩,ownO,hbw.trans (hbz.mono hbw.size)⟩
         · go_wp2_with fail
           go_roundw
           case rel=>exact ⟨1,by go_num,by omega,Lib.hid (Or.inr ⟨by omega,x,Ao,co,hx,rfl,ownO⟩),hbx.trans (hbz.mono hbx.size)⟩
           case measure=>subst hj0;simp [intOf];omega
    · obtain rfl:j=n:=by omega
      go_wp2_with fail;try rw [Exit.noGoto_ret]
      go_ret2;rcases HO.out with ⟨rfl,rfl⟩ | ⟨hj0,x,Ao,co,hx,rfl,ownO⟩
      · have hL0:L=[]:=List.eq_nil_of_length_eq_zero HN.out
        exact ⟨none,0,[],rfl,⟨L,HL.out,by rw [hL0];rfl⟩,World.ownsRow_nil _ _ _ _,hb1.trans (hbr.mono hb1.size)⟩
      · exact ⟨Ao,co,[zaP z x],rfl,⟨L,HL.out,by rw [hx];rfl⟩,ownO,hb1.trans (hbr.mono hb1.size)⟩
def zcF (m:List Ex) (z:Int):Bool:=decide (z<0∨chkE m≠0∨m.any (fun e=>decide (e.zone=z))=true)
theorem zkm (v:Value) (m:List Ex) (K:Nat→Prop) (z:Int) (w:World) (hv:IsL Rp.ex w K v m) (hl:m.length≤3518437208883) :
 Calls Tryz.prog 116 #[v,.int .i64 z] w fun x w'=>x=.returned (.bool (zcF m z))∧Below w.heap.size w w':=by
 have hin:=zfY v m K z w hv hl;by_cases hb:z<0∨chkE m≠0
 · simp only [if_pos hb] at hin
   have hn:zcF m z=true:=by unfold zcF;rw [decide_eq_true_eq];rcases hb with h | h;exact Or.inl h;exact Or.inr (Or.inl h)
   rw [hn];clear hn;go_enter Tryz.func116,Tryz.ntmps116
   go_wp2_with fail;refine hin.mono ?_;rintro x w1 ⟨A1,c1,L,rfl,⟨rfl,rfl,rfl⟩,own1,hb1⟩;go_wp2_with fail;go_ret;exact ⟨rfl,hb1⟩
 · simp only [if_neg hb] at hin
   go_enter Tryz.func116,Tryz.ntmps116
   go_wp2_with fail;refine hin.mono ?_;rintro x w1 ⟨A1,c1,L,rfl,hL,own1,hb1⟩;have hn:zcF m z=decide (0<L.length):=by
    unfold zcF;rw [decide_eq_decide];constructor
    · rintro (h | h | h)
      · exact absurd (Or.inl h) hb
      · exact absurd (Or.inr h) hb
      · obtain ⟨e,he,hz⟩:=List.any_eq_true.1 h
        exact List.length_pos_of_mem (hL.perm.mem_iff.2 (List.mem_filter.2 ⟨he,hz⟩))
    · intro h
      obtain ⟨e,he⟩:=List.exists_mem_of_length_pos h;have:=List.mem_filter.1 (hL.perm.mem_iff.1 he);exact Or.inr (Or.inr (List.any_eq_true.2 ⟨e,this.1,this.2⟩))
   obtain ⟨n,hn2⟩:∃ n,L.length=n:=⟨_,rfl⟩;rw [hn2] at hn ⊢;obtain ⟨r,hr⟩:∃ r,decide (0<n)=r:=⟨_,rfl⟩;have hr2:decide ((0:Int)<(n:Int))=r:=by rw [←hr];exact decide_eq_decide.2 (by omega)
   have HN:=Lib.hid (hn.trans hr);clear hn hn2 hL own1 hin hb hr;go_wp2_with fail;go_ret;exact ⟨by rw [HN.out];simpa using hr2,hb1⟩
def zaw (h:Ho) (z:Int):Bool:=h.opn && decide (h.p.zone=z)
theorem zec (h:Ho) (z:Int) (v:Value) (K:Nat→Prop) (w:World) (hv:IsHo w K v h):Calls Tryz.prog 109 #[v,.int .i64 z] w fun x w'=>x=.returned (.bool (zaw h z))∧Below w.heap.size w w':=by
 obtain ⟨vo,vs,vb,vl,vm,rfl,h1,h2,h3,h4,h5⟩:=hv;obtain ⟨Ao,co,rfl,-⟩:=h1.form;obtain ⟨As,cs,rfl,-⟩:=h2.form;obtain ⟨Ab,cb,rfl,-⟩:=zab h3;obtain ⟨Al,cl,rfl,-⟩:=h4.form;obtain ⟨Am,cm,rfl,-⟩:=h5.form;clear h1 h2 h3 h4 h5;have E:=(Kn.start w).push 38 (hoS h Ao co As cs Ab cb Al cl Am cm);obtain ⟨q0,f0,t0⟩:=E.rules m0;obtain ⟨o,ho⟩:∃ o,h.opn=o:=⟨_,rfl⟩;obtain ⟨b,hb⟩:∃ b,decide (h.p.zone=z)=b:=⟨_,rfl⟩;have hb2:(h.p.zone == z)=b:=by rw [←hb];by_cases hz:h.p.zone=z <;> simp [hz]
 have hw:zaw h z=(o && b):=by unfold zaw;rw [ho,hb]
 rw [hw];clear hw hb;cases o with
 | true=>
   go_enter Tryz.func109,Tryz.ntmps109
   go_wp2_with fail;go_ret;exact ⟨by simp,E.below⟩
 | false=>
   go_enter Tryz.func109,Tryz.ntmps109
   go_wp2_with fail;go_ret;exact ⟨by simp,E.below⟩
def recP (x:Ex) (b:List UInt8):Rc:=⟨5,x.lba,x.n,x.ver,x.zone,x.off,b⟩
def I64E (x:Ex):Prop:=(-9223372036854775808≤x.lba∧x.lba≤9223372036854775807)∧(-9223372036854775808≤x.n∧x.n≤9223372036854775807)∧(-9223372036854775808≤x.ver∧x.ver≤9223372036854775807)∧(-9223372036854775808≤x.zone∧x.zone≤9223372036854775807)∧(-9223372036854775808≤x.off∧x.off≤9223372036854775807)
theorem zh0 (d:Zd) (A:Option Addr) (c:Nat) (Am:Option Addr) (cm:Nat) (m:List Ex) (x:Ex) (Al:Option Addr) (cl:Nat) (K K' Kl:Nat→Prop) (w:World) (hv:IsL Rp.zone w K (.slice A d.z.length c) d.z) (hm:IsL Rp.ex w K' (.slice Am m.length cm) m)
 (hl:IsL Rp.ex w Kl (.slice Al 1 cl) [x]) (hd:okD d) (hch:za2 0 m) (hb:za9 x.lba x.n) (hn:x.n≤4096) (hf:FitE d.z m) (hx:I64E x) (hbl:(zbp d.z m x.lba x.n).1.length≤1000000) :
 Calls Tryz.prog 110 #[.agg #[.int .i64 d.cap,.int .i64 d.opn,.int .i64 d.act,.slice A d.z.length c],.slice Am m.length cm,.slice Al 1 cl] w fun e w'=>
  ∃ A4 c4,e=.returned (.tuple #[.slice A4 1 c4,.int .i64 0])∧IsL Rp.rc w' (fun b=>w.heap.size≤b) (.slice A4 1 c4) [recP x (zbp d.z m x.lba x.n).1]∧Below w.heap.size w w':=by
 have hby:=fun W a b=>ze0 d A c Am cm m x.lba x.n K K' W a b hd hch hb hn hf
 obtain ⟨bs,hbs⟩:∃ bs,(zbp d.z m x.lba x.n).1=bs:=⟨_,rfl⟩;rw [hbs] at hby hbl ⊢;obtain ⟨nb,hnb⟩:∃ nb,bs.length=nb:=⟨_,rfl⟩;rw [hnb] at hby hbl;have HNB:=Lib.hid hnb;have HX:=Lib.hid hx;have E:=(((Kn.start w).give za1.list hv).give za1.list hm).give za1.list hl |>.push 27 #[.int .i64 d.cap,.int .i64 d.opn,.int .i64 d.act,.slice A d.z.length c]
 have hb1:=(Below.refl w.heap.size w).alloc (Nat.le_refl _) (.cells #[.int .i64 d.cap,.int .i64 d.opn,.int .i64 d.act,.slice A d.z.length c] 27);obtain ⟨i7,hi7,hx0,hx1,hx2⟩:=info_parts Tryz.infR;clear hbs hnb hx hv hm hl hd hch hb hn hf;go_enter Tryz.func110,Tryz.ntmps110
 go_wp2_with fail;generalize w.alloc (.cells #[.int .i64 d.cap,.int .i64 d.opn,.int .i64 d.act,.slice A d.z.length c] 27)=w1 at E hb1 ⊢;go_loopw [8,15] (fun o i wr=>∃ j:Nat,i=.int .i64 j∧((j=0∧o=.slice none 0 0∧wr=w1)∨(j=1∧∃ A4 c4,o=.slice A4 1 c4∧IsL Rp.rc wr (fun b=>w.heap.size≤b) (.slice A4 1 c4) [recP x bs]∧Below w.heap.size w wr))) (fun _ i _=>1-(intOf i).toNat)
 case atStart=>exact ⟨0,rfl,Or.inl ⟨rfl,rfl,rfl⟩⟩
 case round=>
  obtain ⟨j,rfl,⟨rfl,rfl,rfl⟩ | ⟨rfl,A4,c4,rfl,hR,hbR⟩⟩:=hrel
  · have hje:([x]:List Ex)[0]?=some x:=rfl
    obtain ⟨ad,had,-,c0,c1,c2,c3,c4⟩:=zb9 (E.get m0) hje;subst had;have h0:ad.add (0*5)=ad:=by simp [Addr.add]
    rw [h0] at c0 c1 c2 c3 c4;obtain ⟨q0,f0,t0⟩:=E.rules m0;have hba:Below wr.heap.size wr (wr.alloc (.cells #[.int .i64 x.lba,.int .i64 x.n,.int .i64 x.ver,.int .i64 x.zone,.int .i64 x.off] 85)):=(Below.refl _ _).alloc (Nat.le_refl _) _;have hBx:=Blk.new wr 85 #[.int .i64 x.lba,.int .i64 x.n,.int .i64 x.ver,.int .i64 x.zone,.int .i64 x.off] rfl;clear h0 hje;go_wp2_with fail;generalize wr.alloc (.cells #[.int .i64 x.lba,.int .i64 x.n,.int .i64 x.ver,.int .i64 x.zone,.int .i64 x.off] 85)=w2 at hba hBx ⊢;replace E:=E.step hba;clear c0 c1 c2 c3 c4 q0 f0 t0;refine (hby _ (E.get m2) (E.get m1)).mono ?_;rintro u w3 ⟨A4,c4,rfl,own4,hb3⟩;replace E:=E.step hb3;obtain ⟨q0,f0⟩:=(hBx.step hb3).rules;have hb4:Below w.heap.size w w3:=E.below;have hsz2:w.heap.size≤w2.heap.size:=Nat.le_trans hb1.size hba.size;have hrd:Rp.rc.is w3 (fun b=>w.heap.size≤b) [.int .i64 5,.int .i64 x.lba,.int .i64 x.n,.int .i64 x.ver,.int .i64 x.zone,.int .i64 x.off,.slice A4 nb c4] (recP x bs):=by
     obtain ⟨r1,r2,r3,r4,r5⟩:=HX.out;refine ⟨_,rfl,?_,⟨by show (-9223372036854775808:Int)≤5;decide,by show (5:Int)≤9223372036854775807;decide⟩,r1,r2,r3,r4,r5⟩
     have hB:=IsB.of_own (l:=bs) (by rw [HNB.out];exact own4) (by rw [HNB.out];omega)
     rw [HNB.out] at hB;exact hB.more fun b hb=>Nat.le_trans hsz2 hb
    go_wp2_with (at_builtin;refine za5 rfl _ _ _ rfl w.heap.size 109 i7 _ 7 72 Tryz.underlying33 hi7 hx0 hx1 hx2 rfl (by omega) rfl (World.ownsRow_nil _ _ _ _) rfl (za6.new (xs:=[.int .i64 5,.int .i64 x.lba,.int .i64 x.n,.int .i64 x.ver,.int .i64 x.zone,.int .i64 x.off,.slice A4 nb c4]) (n:=1) rfl rfl rfl) (by simp [Value.oneCell']) (by simp only [maxLen];omega) (by omega) (by rw [World.size_alloc];have:=hb4.size;omega) ?_;intro A8 c8 w6 own8 hg8)
    have hb6:Below w3.heap.size w3 w6:=((Below.refl _ _).alloc (Nat.le_refl _) _).trans (hg8.turned.below (fun k hk=>by have hk':some k=none:=hk;cases hk') (by rw [World.size_alloc];omega))
    have hcl:za8 Rp.rc w3 (fun b=>w.heap.size≤b) [.int .i64 5,.int .i64 x.lba,.int .i64 x.n,.int .i64 x.ver,.int .i64 x.zone,.int .i64 x.off,.slice A4 nb c4] [recP x bs]:=⟨_,[],(List.append_nil _).symm,hrd,rfl⟩
    have own9:w6.ownsRow w.heap.size 109 7 (.slice A8 1 c8) 1 [.int .i64 5,.int .i64 x.lba,.int .i64 x.n,.int .i64 x.ver,.int .i64 x.zone,.int .i64 x.off,.slice A4 nb c4]:=own8;have hIR:IsL Rp.rc w6 (fun b=>w.heap.size≤b) (.slice A8 1 c8) [recP x bs]:=⟨A8,c8,_,rfl,za6.of_own_ge own9,hcl.step hb6,zaJ own9,zar own9,by show 1≤_;omega⟩
    go_roundw
    case rel=>exact ⟨1,by go_num,Or.inr ⟨rfl,A8,c8,rfl,hIR,hb4.trans (hb6.mono hb4.size)⟩⟩
    case measure=>decide
  · go_wp2_with fail
    go_ret2;exact ⟨A4,c4,rfl,hR,hbR⟩
theorem zlQ (e:Ex) (w:World):Calls Tryz.prog 164 #[.agg #[.int .i64 e.lba,.int .i64 e.n,.int .i64 e.ver,.int .i64 e.zone,.int .i64 e.off]] w fun x w'=>x=.returned (.bool (decide (0≤e.zone)))∧Below w.heap.size w w':=by
 have E:=(Kn.start w).push 85 #[.int .i64 e.lba,.int .i64 e.n,.int .i64 e.ver,.int .i64 e.zone,.int .i64 e.off];go_enter Tryz.func164,Tryz.ntmps164
 go_wp2;go_ret;exact ⟨by simp,E.below⟩
theorem ze9 {P:Program} (w:World) (base:Nat) (t tn ty e:TypeId) (i:TypeInfo) (kq kn:IntKind) (ht:P.underlying t=some (.slice e)) (htn:P.underlying tn=some (.int kn)) (hi:P.info? e=some i) (hz:i.zero=some (.int .u8 0))
 (hsize:i.size=1) (hby:i.bytes=1) {v:Value} {n:Nat} {xs:List Value} (hown:w.ownsRow base e 1 v n xs) (m:Nat) (hm:n+m≤140737488355328) (hbase:base≤w.heap.size) :
 ∃ v' w',(Builtin.append_ #[t,tn] ty #[v,.int kq m]).run P w=.ok v' w'∧w'.ownsRow base e 1 v' (n+m) (xs++za3 (List.replicate m 0))∧w.grownBy w' v.ownBlock∧(v'.ownBlock=v.ownBlock∨∃ g,v'.ownBlock=some g∧w.heap.size≤g):=by
 have hxl:xs.length=n:=by simpa using hown.1
 have hlen:(xs++za3 (List.replicate m 0)).length=(n+m)*1:=by rw [List.length_append,hxl,zb7,List.length_replicate,Nat.mul_one]
 have hz1:(Value.int .u8 0).cells=#[.int .u8 0]:=rfl;have hzc:∀ k,(Builtin.zeroCells #[.int .u8 0] k).size=k:=fun k=>by rw [size_zeroCells];simp
 have hzt:Builtin.zeroCells #[.int .u8 0] m=(za3 (List.replicate m 0)).toArray:=by rw [←zda,Array.toArray_toList]
 have hw:IntKind.i64.wrap (m:Int)=m:=by rw [IntKind.wrap_i64];omega
 have hneg:¬((m:Int)<0):=by omega
 have h48:¬(281474976710656<(m:Int)):=by omega
 have grown:∀ (old:Nat),old<n+m →
  (w.drew.alloc (.cells (xs.toArray++Builtin.zeroCells #[.int .u8 0] m++Builtin.zeroCells #[.int .u8 0] (grownCap w (n+m) old e-(n+m))) e)).ownsRow base e 1
   (.slice (some ⟨w.heap.size,0,none⟩) (n+m) (grownCap w (n+m) old e)) (n+m) (xs++za3 (List.replicate m 0)) ∧
  ∀ row,w.grownBy (w.drew.alloc (.cells (xs.toArray++Builtin.zeroCells #[.int .u8 0] m++Builtin.zeroCells #[.int .u8 0] (grownCap w (n+m) old e-(n+m))) e)) row:=by
  intro old ho;have hge:=grownCap_ge w (n+m) old e;have hcm:grownCap w (n+m) old e≤maxLen:=grownCap_le_maxLen w (n+m) old e (by simp only [maxLen];omega)
  refine ⟨⟨hlen,.inr ⟨w.heap.size,_,_,rfl,hbase,heap_alloc_new w.drew _,hge,hcm,?_,?_⟩⟩,fun row=>⟨rfl,rfl,rfl,by simp,fun k hk _=>Go.heap_alloc_old w.drew _ (by exact hk)⟩⟩
  · simp only [Array.size_append,List.size_toArray,hzc,hxl]
    omega
  · simp only [Array.toList_append,hzt]
    rw [←hlen];exact List.take_left
 rcases hown.2 with ⟨rfl,rfl⟩ | ⟨g,cap,cur,rfl,hbg,hg,hnc,hcm,hcs,htake⟩
 · have hx:xs=[]:=List.eq_nil_of_length_eq_zero hxl
   subst hx;rcases Nat.eq_zero_or_pos m with h0 | h0
   · subst h0
     refine ⟨.slice none 0 0,w,?_,World.ownsRow_nil w base e 1,World.grownBy.refl w _,.inl rfl⟩;simp [Builtin.append_,run_underlying ht,run_underlying htn,sizeOf,typeInfo,hi,asInt,asIntOf,IntKind.wrap_i64]
   · have hr:=Lib.run_append_nil_zeros w t tn ty e i (.int .u8 0) kq kn ht htn hi hz m h0 (by omega) (by omega) (by rw [hby];omega)
     have hgr:=grown 0 (by omega)
     simp only [Nat.zero_add,List.nil_append,Array.empty_append] at hgr ⊢;rw [hz1] at hr;exact ⟨_,_,hr,hgr.1,hgr.2 _,.inr ⟨_,rfl,Nat.le_refl _⟩⟩
 · by_cases hroom:n+m≤cap
   · have hfit:n+(za3 (List.replicate m 0)).length≤cur.size:=by rw [zb7,List.length_replicate,hcs];omega
     have hst:=run_storeCells_at P g n e (za3 (List.replicate m 0)) 0 cur w hg (by omega) (zan _)
     simp only [Nat.add_zero] at hst;have hrun:(Builtin.append_ #[t,tn] ty #[.slice (some ⟨g,0,none⟩) n cap,.int kq m]).run P w=.ok (.slice (some ⟨g,0,none⟩) (n+m) cap) (w.setRow g (cur.toList.take n++za3 (List.replicate m 0)++cur.toList.drop (n+(za3 (List.replicate m 0)).length)).toArray):=by
      rcases Nat.eq_zero_or_pos m with h0 | h0
      · subst h0
        simp only [List.replicate_zero,za3,List.map_nil] at hst;simp [Builtin.append_,run_underlying ht,run_underlying htn,sizeOf,typeInfo,zeroValue,hi,hz,asInt,asIntOf,hsize,hby,hnc,Addr.add_lit,hst,za3,IntKind.wrap_i64]
      · have hm0:m≠0:=by omega
        simp [Builtin.append_,run_underlying ht,run_underlying htn,sizeOf,typeInfo,zeroValue,hi,hz,asInt,asIntOf,hw,hneg,h48,hsize,hby,hroom,hm0,hz1,hzt,Addr.add_lit,hst]
     refine ⟨_,_,hrun,⟨hlen,.inr ⟨g,cap,_,rfl,hbg,setRow_heap w g cur _ e _ hg,hroom,hcm,?_,?_⟩⟩,⟨rfl,rfl,rfl,by simp,fun k _ hk=>setRow_other w g k _ (fun e=>hk (by simp [Value.ownBlock,e]))⟩,.inl rfl⟩
     · simp only [List.size_toArray,List.length_append,List.length_take,List.length_drop,Array.length_toList]
       omega
     · have ht':cur.toList.take n=xs:=by simpa using htake
       rw [ht',←hlen];exact List.take_left
   · have holds:∀ j u,xs[j]?=some u→w.cell? ((⟨g,0,none⟩:Addr).add j)=some u:=hown.cells (g:=g) rfl
     have hold:(Builtin.firstCells i.size n (.slice (some ⟨g,0,none⟩) n cap)).run P w.drew=.ok xs.toArray w.drew:=by
      rw [hsize];exact run_firstCells_some (P:=P) w.drew 1 n ⟨g,0,none⟩ n cap xs hown.1 holds
     have hm0:0<m:=by omega
     have hr:=Lib.run_append_grow_zeros w t tn ty e i (.int .u8 0) kq kn ht htn hi hz (some ⟨g,0,none⟩) n cap xs hold m hm0 (by omega) (by omega) (by omega) (by rw [hby];omega) (by rw [hby];exact growslice_fits (by omega) (by omega))
     have hgr:=grown cap (by omega)
     rw [hz1] at hr;exact ⟨_,_,hr,hgr.1,hgr.2 _,.inr ⟨_,rfl,Nat.le_refl _⟩⟩
theorem zgM {P:Program} {w:World} {ops:Array Oper} {rest:List Oper} {o:Oper} {a:Act} {Q:Exit→Act→World→Prop} (hgd:o.guard=none) (s x:Operand) (t tn:TypeId)
 (ho:o.op=.call { callee:=.builtin .append,args:=#[s,x],argTypes:=#[t,tn] })
 (base:Nat) (e:TypeId) (i:TypeInfo) (kq kn:IntKind) (ht:P.underlying t=some (.slice e)) (htn:P.underlying tn=some (.int kn)) (hi:P.info? e=some i) (hz:i.zero=some (.int .u8 0))
 (hsize:i.size=1) (hby:i.bytes=1)
 {v:Value} {n:Nat} {xs:List Value} (hs:a.eval s=v) (hown:w.ownsRow base e 1 v n xs) (m:Nat) (hx:a.eval x=.int kq m) (hm:n+m≤140737488355328) (hbase:base≤w.heap.size)
 (h:∀ A' c' w',w'.ownsRow base e 1 (.slice A' (n+m) c') (n+m) (xs++za3 (List.replicate m 0))→Grew base w w' v (.slice A' (n+m) c')→wpList P ops Q rest (a.put o.dst (.slice A' (n+m) c')) w') :
 wpList P ops Q (o::rest) a w:=
 wpList_plain hgd fun _ hK=>by
  obtain ⟨v',w',hrun,h2,h3,h4⟩:=ze9 (P:=P) w base t tn o.type e i kq kn ht htn hi hz hsize hby hown m hm hbase;obtain ⟨A',c',rfl⟩:=zcb h2;unfold Oper.wp execOp;simp only [ho,resolve,invoke,builtin,Sem.run_bind,Sem.run_pure,Result.andThen_ok,List.map_toArray,List.map_cons,List.map_nil,hs,hx,hrun];exact hK _ _ (h A' c' w' h2 ⟨(Below.refl _ _).grown h3 hbase (zdb hown),h3,h4⟩)
end Go.Proofs.YthblkdnijhphhaaGreat
