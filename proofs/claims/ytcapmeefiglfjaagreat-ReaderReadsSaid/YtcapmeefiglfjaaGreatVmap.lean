/- A part of the proof. -/
import Derived.Test.YtcapmeefiglfjaaGreatSortLay
import Derived.Test.YtcapmeefiglfjaaGreatRef09
set_option maxHeartbeats 4000000
set_option maxRecDepth 100000
namespace Go.Proofs.YtcapmeefiglfjaaGreat
open Go.RowKit Go.Sort Go.Lib Go.Shelf
abbrev Bx:Type:={ e:Ex // 0≤e.lba∧e.lba≤2199023255552 }
instance:Inhabited Bx:=⟨⟨⟨0,0,0,0,0⟩,by simp⟩⟩
def zgR (x y:Bx):Int:=x.1.lba-y.1.lba
theorem ltX (x y:Bx):ltOf zgR x y=decide (x.1.lba<y.1.lba):=by
 unfold ltOf zgR;rw [zjB];simp;omega
theorem zi8:SWO (ltOf zgR) where
 irrefl x:=by rw [ltX];simp
 trans x y z h1 h2:=by rw [ltX] at *;simp at *;omega
 ntrans x y z h1 h2:=by rw [ltX] at *;simp at *;omega
theorem zbS (x y:Bx) (w:World) :
 Calls Tryz.prog 69 #[exV x.1,exV y.1] w fun e w'=>e=.returned (.int .i64 (zgR x y))∧∃ q os',w'=grow (w.drewN q) os':=by
 obtain ⟨x,hx⟩:=x;obtain ⟨y,hy⟩:=y;unfold zgR;simp only;go_enter Tryz.func69,Tryz.ntmps69
 go_wp2;go_ret;exact ⟨rfl,0,_,by rw [alloc_eq_grow,alloc_eq_grow,grow_grow];rfl⟩
theorem rH {w:World} {g n:Nat} {os:Array Obj} {cur F:Array Value} {e:TypeId} {fr:Nat × Nat} (hb:w.heap[g]?=some (.cells cur e fr)) :
 (grow (putRow id (Go.Sort.ahead w n) g 0 F) os).heap[g]?=some (.cells (putCells id 0 F cur) e fr):=by
 have hlt:g<w.heap.size:=(zjF.1 hb).1;have h1:(w.heap.modify g (onCells (putCells id 0 F)))[g]?=some (.cells (putCells id 0 F cur) e fr):=by
  rw [zjW,zij rfl,hb];rfl
 show ((w.heap.modify g (onCells (putCells id 0 F)))++os)[g]?=_;rw [Array.getElem?_append_left (by rw [Array.size_modify];exact hlt),h1]
theorem mR {w:World} {g n:Nat} {os:Array Obj} {F:Array Value}:aA w (grow (putRow id (Go.Sort.ahead w n) g 0 F) os) (fun b=>b=g):=by
 refine ⟨rfl,rfl,rfl,?_,fun k hk hn=>?_⟩
 · show w.heap.size≤((w.heap.modify g (onCells (putCells id 0 F)))++os).size
   rw [zjP,Array.size_modify];omega
 · show ((w.heap.modify g (onCells (putCells id 0 F)))++os)[k]?=_
   rw [Array.getElem?_append_left (by rw [Array.size_modify];exact hk),zjW,zig (fun e=>hn e.symm)]
theorem za4 {F cur:Array Value} (h:F.size≤cur.size):(putCells id 0 F cur).toList.take F.size=F.toList:=by
 refine zki fun i=>?_
 rw [zjd];split
 · rename_i hi
   unfold putCells;rw [ziU,Array.getElem?_mapIdx,zjl (by omega),Option.map_some,zij ⟨zir _,by omega⟩,ziU,zjl hi]
   simp [hi]
 · rename_i hi
   rw [ziX (by simpa using hi)]
theorem zcR (d:Array Bx):(flatK (fun x:Bx=>dM x.1) 5 d).toList=bB (d.toList.map (·.1)):=by
 refine zki fun t=>?_
 by_cases ht:t<d.size*5
 · have h1:t / 5<d.size:=by omega
   have h2:(d.toList.map (·.1))[t / 5]?=some ((d[t / 5]).1):=by rw [zj1,ziU,zjl h1];rfl
   have h3:=zbR h2 (t % 5) (Nat.mod_lt _ (by omega))
   rw [show t / 5*5+t % 5=t by omega] at h3
   rw [h3,ziU,zjl (by rw [size_flatK];exact ht)]
   have h4:=get_flatK (fun x:Bx=>dM x.1) 5 d t ht
   rw [zjK _ t (by rw [size_flatK];exact ht),zjK d (t / 5) h1] at h4
   rw [h4];have h5:t % 5<(dM (d[t / 5]).1).length:=Nat.mod_lt _ (by omega)
   rw [zib h5,zjK (dM (d[t / 5]).1) (t % 5) h5]
 · rw [ziX (by simp;omega),ziX (by rw [eH];simp;omega)]
theorem zaX {t:Nat} {d d':Array Bx} (h:PermIn 0 t d d') (hd:d.size=t):d'.size=t∧d'.toList.Perm d.toList:=by
 obtain ⟨h1,_,h3⟩:=h;have e1:d'.extract 0 t=d':=by rw [show t=d'.size by omega];exact Array.extract_size
 have e2:d.extract 0 t=d:=by rw [show t=d.size by omega];exact Array.extract_size
 rw [e1,e2] at h3;exact ⟨by omega,h3⟩
theorem zct (Ao:Option Addr) (t co base:Nat) (l:List Ex) (w:World) (hown:w.ownsRow base 90 5 (.slice Ao t co) t (bB l)) (hl:l.length=t) (ht:t≤4398046511104)
 (hb:∀ e∈l,0≤e.lba∧e.lba≤2199023255552) (hpos:0<t) :
 Calls Tryz.prog 68 #[.slice Ao t co,.func (.func 69) #[] #[]] w fun x w'=>x=.returned (.tuple #[]) ∧
  ∃ l',l'.Perm l∧l'.Pairwise (fun a b=>a.lba≤b.lba)∧w'.ownsRow base 90 5 (.slice Ao t co) t (bB l')∧aA w w' (fun b=>some b=(Value.slice Ao t co).ownBlock):=by
 have hown0:=hown;rcases hown.2 with ⟨_,h0⟩ | ⟨g,cap,cur,hv,hg,hh,h3,h4,h5,h6⟩
 · omega
 injection hv with e1 e2 e3;subst e1 e3;obtain ⟨d,hd⟩:∃ d:Array Bx,d.toList.map (·.1)=l:=⟨(l.attach.map fun x=>(⟨x.1,hb x.1 x.2⟩:Bx)).toArray,by simp [List.map_map]⟩
 have hds:d.size=t:=by rw [←hl,←hd];simp
 have hflat:=zcR d;rw [hd] at hflat;have hcell:∀ j,j<d.size*5→cur[j]?=some (flatK (fun x:Bx=>dM x.1) 5 d)[j]!:=fun j hj=>by
  have h7:(bB l)[j]?=some (flatK (fun x:Bx=>dM x.1) 5 d)[j]!:=by
   rw [←hflat,ziU,zjl (by rw [size_flatK];exact hj),zjK _ _ (by rw [size_flatK];exact hj)]
  rw [←h6,zjd] at h7;split at h7
  · rw [←h7];simp
  · cases h7
 have hB:Blk w g 90 cur:=hh;have hH:HoldsK (fun x:Bx=>dM x.1) 5 w g 0 d:=fun j hj=>by
  rw [size_flatK] at hj;rw [zj5,hB.cell,hB.frozen,hcell j hj];exact ⟨rfl,rfl⟩
 have eg:∀ args w,(callFunc 69 args).run Tryz.prog w=.ok (.enter 69 args) w:=enters_of Tryz.func69 (by kernel_rfl) rfl
 have hcmp:CmpLays Tryz.prog 69 #[] (fun x:Bx=>dM x.1) 5 zgR g 0 d.size w:=fun _ _ _ _ x y=>zbS x y _
 have hcon:=AnyQ.slices_SortFunc Tryz.sortE 5 (fun _=>by kernel_rfl) (fun _=>by kernel_rfl) (fun x:Bx=>dM x.1) (fun _=>rfl) (fun x v hv=>aU [x.1] v (by simpa [bB] using hv)) zgR zi8 69 #[] g 0 co d w eg hcmp hH hB.lt (by omega)
 change Calls Tryz.prog 68 _ _ _ at hcon
 rw [hds] at hcon;refine hcon.mono ?_;rintro x w' ⟨rfl,d',n,os,hp,hs,rfl⟩;have hps:=zaX hp hds;obtain ⟨hsz,hpl⟩:=hps;have hf2:=zcR d';have hsF:(flatK (fun x:Bx=>dM x.1) 5 d').size=t*5:=by rw [size_flatK,hsz]
 refine ⟨rfl,d'.toList.map (·.1),?_,?_,?_,?_⟩
 · rw [←hd]
   exact hpl.map _
 · rw [List.pairwise_map,zjy]
   intro i j hi hj hij;have hj':j<d'.size:=by simpa using hj
   have hi':i<d'.size:=by simpa using hi
   have h7:=hs i j (zir _) hij (by omega)
   rw [ltX,zjK d' i hi',zjK d' j hj'] at h7;simp only [zjM,Int.not_lt] at h7;simpa using h7
 · refine ⟨by rw [←hf2];simpa using hsF,.inr ⟨g,co,_,rfl,hg,rH hh,h3,h4,by simp [putCells,h5],?_⟩⟩
   rw [←hsF,za4 (by rw [hsF,h5];exact zjm _ h3),hf2]
 · exact mR.mono fun k hk=>by rw [hk];rfl
end Go.Proofs.YtcapmeefiglfjaaGreat
namespace Go.Proofs.YtcapmeefiglfjaaGreat
open Go.RowKit
theorem xZ.turned {base:Nat} {w w':World} {v v':Value} (h:xZ base w w' v v'):aA w w' (fun b=>some b=v.ownBlock):=
 ⟨h.grown.os,h.grown.tape,h.grown.output,h.grown.size,fun k hk hn=>h.grown.block k hk hn⟩
theorem za3 (a z:Int) (gl go:Nat) (Ao:Option Addr) (t co base:Nat) (out:List Ex) (w:World) (hl:Blk w gl 3 #[.int .i64 a]) (ho:Blk w go 35 #[.slice Ao t co])
 (hown:w.ownsRow base 90 5 (.slice Ao t co) t (bB out)) (hbase:base≤w.heap.size) (ha:0≤a∧a≤2199023255552) (hz:0≤z∧z≤2199023255552) (ht:t≤2199023255552) (hlen:out.length=t) :
 Calls Tryz.prog 136 #[.int .i64 z,.pointer (some ⟨gl,0,none⟩),.pointer (some ⟨go,0,none⟩)] w fun x w'=>
  x=.returned (.tuple #[])∧∃ A' c',Blk w' go 35 #[.slice A' (out++gK a z).length c']∧w'.ownsRow base 90 5 (.slice A' (out++gK a z).length c') (out++gK a z).length (bB (out++gK a z)) ∧
    aA w w' (fun b=>b=go∨some b=(Value.slice Ao t co).ownBlock):=by
 obtain ⟨i0,hi,hz0,hz1,hz2⟩:=ziH Tryz.infX;obtain ⟨q0,f0⟩:=hl.rules;have t0:=hl.lt;obtain ⟨q1,f1⟩:=ho.rules;have t1:=ho.lt;unfold gK;by_cases haz:a<z
 · rw [zij haz]
   have hY:∀ u∈dM ⟨a,z-a,0,-1,0⟩,u.oneCell'=true:=fun u hu=>aU [⟨a,z-a,0,-1,0⟩] u (by simpa [bB] using hu)
   have hl1:(out++[(⟨a,z-a,0,-1,0⟩:Ex)]).length=t+1:=by rw [zie,hlen];rfl
   rw [hl1];go_enter Tryz.func136,Tryz.ntmps136
   go_wp2_with (at_builtin;refine aF rfl _ _ _ rfl base 90 i0 _ 5 40 Tryz.underlying35 hi hz0 hz1 hz2 rfl (by omega) rfl (hown.alloc _) rfl (aG.new (xs:=dM ⟨a,z-a,0,-1,0⟩) (n:=1) rfl rfl rfl) hY (by simp only [maxLen];omega) (by omega) (by rw [zid];omega) ?_;intro A8 c8 w6 own8 hg8;have hG:=(ho.alloc (.cells (exC ⟨a,z-a,0,-1,0⟩) 90)).grew (hown.alloc _) (by decide) hg8;obtain ⟨q1,f1⟩:=hG.rules;have t1:=hG.lt)
   first | go_end0 | (simp only [Exit.inBlock,Exit.then];refine zik (zk5 rfl _ _ _) rfl ?_) | refine zik (zk5 rfl _ _ _) rfl ?_
   rw [bM];have hG:=(ho.alloc (.cells (exC ⟨a,z-a,0,-1,0⟩) 90)).grew (hown.alloc _) (by decide) hg8
   have ht1:=hg8.turned;refine ⟨rfl,A8,c8,hG.set_ 0 _,?_,?_⟩
   · exact qQ own8 hG (by decide) 0 _
   · exact (((aA.refl w _).alloc _).trans (ht1.mono fun k hk=>.inr hk)).set (.inl rfl) 0 _
 · rw [zig haz]
   rw [ziz,hlen];go_enter Tryz.func136,Tryz.ntmps136
   go_wp2_with fail;first | go_end0 | (simp only [Exit.inBlock,Exit.then];refine zik (zk5 rfl _ _ _) rfl ?_) | refine zik (zk5 rfl _ _ _) rfl ?_
   exact ⟨rfl,Ao,co,ho,hown,aA.refl _ _⟩
theorem zeW {w:World} {base:Nat} {A:Option Addr} {n c:Nat} {l:List Ex} (h:w.ownsRow base 90 5 (.slice A n c) n (bB l)) (hn:l.length=n) (hl:n≤140737488355328):IsL Rp.ex w (fun b=>some b=(Value.slice A n c).ownBlock) (.slice A n c) l:=by
 subst hn;exact ⟨A,c,bB l,rfl,aG.of_own h,eN.2 rfl,cD h,bF h,hl⟩
def iY (p:List Ex × Int) (x:Ex):List Ex × Int:=(p.1++gK p.2 x.lba,aL x)
theorem kR (z:Int):∀ (l:List Ex) (out:List Ex) (a:Int),out++gapsE a l z=(l.foldl iY (out,a)).1++gK (l.foldl iY (out,a)).2 z
 | [],out,a=>rfl
 | x::l,out,a=>by
   rw [List.foldl_cons,show iY (out,a) x=(out++gK a x.lba,aL x) from rfl,←kR z l,ziq];rfl
theorem rL (a b:Int):(gK a b).length≤1:=by unfold gK;split <;> simp
theorem kZ:∀ (l:List Ex) (p:List Ex × Int),(l.foldl iY p).1.length≤p.1.length+l.length
 | [],p=>by simp
 | x::l,p=>by
   have h1:=kZ l (iY p x);have h2:=rL p.2 x.lba;rw [List.foldl_cons];have h3:(iY p x).1.length=p.1.length+(gK p.2 x.lba).length:=zie ..;rw [List.length_cons];omega
theorem vQ {c:Int}:∀ (l:List Ex) (p:List Ex × Int),aC c l→p.2=c→(l.foldl iY p).2=lastE c l
 | [],_,_,h=>h
 | x::l,p,hc,_=>vQ l (iY p x) hc.2.2 rfl
theorem zcI (A:Option Addr) (c:Nat) (l:List Ex) (lba n:Int) (K:Nat→Prop) (w:World) (hv:IsL Rp.ex w K (.slice A l.length c) l) (hch:aC 0 l) (hb:aJ lba n) :
 Calls Tryz.prog 67 #[.slice A l.length c,.int .i64 lba,.int .i64 n] w fun x w'=>
  ∃ Ao co,x=.returned (.tuple #[.slice Ao (gapsE lba (partE l lba n) (lba+n)).length co,.int .i64 0]) ∧
    w'.ownsRow w.heap.size 90 5 (.slice Ao (gapsE lba (partE l lba n) (lba+n)).length co) (gapsE lba (partE l lba n) (lba+n)).length (bB (gapsE lba (partE l lba n) (lba+n)))∧Below w.heap.size w w':=by
 obtain ⟨p1,p2,_⟩:=dH hch hb;have hcp:=fun w hv=>oC A c l lba n K w hv hch hb
 have hpl:=cI p1;generalize partE l lba n=pt at *;have hgf:=kR (lba+n) pt [] lba;rw [List.nil_append] at hgf;rw [hgf];have hbn:=hb;obtain ⟨b1,b2,b3,b4⟩:=hbn;have hpt:pt.length≤1099511627776:=by omega
 have HCP:=zia hcp;have HP1:=zia p1;have HP2:=zia p2;have hlst:∀ j,0≤((pt.take j).foldl iY ([],lba)).2∧((pt.take j).foldl iY ([],lba)).2≤2199023255552:=fun j=>by
  have hc:=p1;rw [←ziP j pt,aQ] at hc;rw [vQ _ _ hc.1 rfl];have h1:=kT hc.1;have h2:=kT hc.2;rw [←dY,ziP] at h2;omega
 have hlen2:∀ j,((pt.take j).foldl iY ([],lba)).1.length≤j:=fun j=>by
  have h1:=kZ (pt.take j) ([],lba);rw [zio] at h1;simp only [List.length_nil] at h1;omega
 have HLST:=zia hlst;have HLEN2:=zia hlen2;obtain ⟨gs,hgs⟩:∃ gs,(pt.foldl iY ([],lba)).1++gK (pt.foldl iY ([],lba)).2 (lba+n)=gs:=⟨_,rfl⟩;rw [hgs];have HGS:=zia hgs;clear hgs hgf hcp p1 p2 hpl hlst hlen2 hch;go_enter Tryz.func67,Tryz.ntmps67
 go_wp2_with fail;refine (HCP.out _ (hv.alloc _)).mono ?_;rintro x w1 ⟨Ai,ci,rfl,hin,hb1⟩;have hsz1:=hb1.size;rw [zid] at hsz1;have hbl:Blk w1 w.heap.size 3 #[.int .i64 lba]:=(Blk.new w _ _ rfl).step hb1;have hbw:=((zif w.heap.size w).alloc (zic _) (.cells #[.int .i64 lba] 3)).trans (hb1.mono (by rw [zid];omega))
 have hir:∀ b,(Value.slice Ai pt.length ci).ownBlock=some b→w.heap.size<b∧b<w1.heap.size:=fun b h=>by
  have:=hin.lt b h;rw [zid] at this;omega
 have hinL:IsL Rp.ex w1 (fun b=>w.heap.size<b∧b<w1.heap.size) (.slice Ai pt.length ci) pt:=by
  exact (zeW hin rfl (by omega)).more fun b hb=>hir b hb.symm
 clear hin hir;go_upto_region 6 with fail;have E:=(((Kn.from_ hbw (by omega)).know hbl).give aB.list hinL).push 35 #[.slice none 0 0]
 have hbw2:=hbw.alloc hbw.size (.cells #[.slice none 0 0] 35);generalize hw2:w1.alloc (.cells #[.slice none 0 0] 35)=w2 at E hbw2 ⊢;clear hw2;have hgo:w1.heap.size<w2.heap.size:=(E.at_ m0).lt;obtain ⟨q0,f0,t0⟩:=E.rules m1;go_wp2_with fail;go_loopw [14,31] (fun x14 x31 wr=>∃ (j t:Nat) (a:Int) (o:List Ex) (Ao:Option Addr) (co:Nat),x31=.int .i64 j∧j≤pt.length∧Hid ((pt.take j).foldl iY ([],lba)=(o,a))∧Hid (o.length=t)∧Blk wr w.heap.size 3 #[.int .i64 a]∧Blk wr w1.heap.size 35 #[.slice Ao t co] ∧
  wr.ownsRow w2.heap.size 90 5 (.slice Ao t co) t (bB o)∧IsL Rp.ex wr (fun b=>w.heap.size<b∧b<w1.heap.size) (.slice Ai pt.length ci) pt∧Below w.heap.size w wr∧w2.heap.size≤wr.heap.size∧∃ y,x14=y) (fun _ x31 _=>pt.length-(intOf x31).toNat)
 case atStart=>exact ⟨0,0,lba,[],none,0,rfl,zir _,zia rfl,zia rfl,E.at_ m1,E.at_ m0,zin _ _ _ _,E.get m0,hbw2,zic _,_,rfl⟩
 case round=>
  obtain ⟨j,t,a,o,Ao,co,rfl,hj,HF,HT,hB1,hB2,hown,hinr,hbr,hsr,y,rfl⟩:=hrel;clear q0 f0 t0 E;have hal:=HLST.out j;have htl:=HLEN2.out j;rw [HF.out] at hal htl;rw [HT.out] at htl;have hal':0≤a∧a≤2199023255552:=hal;by_cases hlt:j<pt.length
  case neg=>
   obtain rfl:j=pt.length:=by omega
   have hgs:=HGS.out;have hf:=HF.out;rw [ziQ] at hf;rw [hf] at hgs;have hgs':o++gK a (lba+n)=gs:=hgs;have hcg:=za3 a (lba+n) _ _ Ao t co _ o wr hB1 hB2 hown hsr hal' (by omega) (by omega) HT.out
   rw [hgs'] at hcg;have HCG:=zia hcg;clear hgs hf hgs' hcg HF HGS hal;go_wp2_with fail;refine HCG.out.mono ?_;rintro x w4 ⟨rfl,A4,c4,hG4,own4,ht4⟩;obtain ⟨q4,f4⟩:=hG4.rules;have t4:=hG4.lt;go_wp2;go_ret2;exact ⟨A4,c4,rfl,aO own4 (by omega),hbr.trans (ht4.below (fun k hk=>by rcases hk with rfl | hk;omega;have:=(hown.lt k hk.symm).1;omega) hbr.size)⟩
  have hje:=zib hlt;have hem:=(aM HP1.out _ (ziD hlt)).1;generalize pt[j]=e at hje hem;obtain ⟨ad,rfl,-,c0,c1,c2,c3,c4⟩:=bY hinr hje;have hnx:(pt.take (j+1)).foldl iY ([],lba)=(o++gK a e.lba,aL e):=by rw [gG pt hje,zjp,HF.out];rfl
  have HNX:=zia hnx;clear hnx hje hal HF;have j1:(j:Int)<(pt.length:Int):=by omega
  have j0:(0:Int)≤(j:Int):=by omega
  have hen:=hem.1;unfold aJ at hen;go_wp2_with fail;refine (za3 a e.lba _ _ Ao t co _ o _ (hB1.alloc _) (hB2.alloc _) (hown.alloc _) (by rw [zid];omega) hal' (by omega) (by omega) HT.out).mono ?_
  rintro x w4 ⟨rfl,A4,k4,hG4,own4,ht4⟩;clear c0 c1 c2 c3 c4;have hrow:∀ k,(k=w1.heap.size∨some k=(Value.slice Ao t co).ownBlock)→w1.heap.size≤k∧k<wr.heap.size:=fun k hk=>by
   rcases hk with rfl | hk
   · omega
   · have:=hown.lt k hk.symm;omega
  have hX:=(Blk.new wr 90 (exC e) rfl).turned ht4 (fun h=>by have:=hrow _ h;omega)
  have hL4:=(hB1.alloc (.cells (exC e) 90)).turned ht4 (fun h=>by have:=hrow _ h;omega)
  have hI4:=(hinr.alloc (.cells (exC e) 90)).turned ht4 (fun b hb h=>by have:=hrow _ h;omega)
  have hb4:=(hbr.alloc hbr.size (.cells (exC e) 90)).trans (ht4.below (B:=w.heap.size) (fun k hk=>by have:=hrow _ hk;omega) (by rw [zid];have:=hbr.size;omega))
  have hs4:w2.heap.size≤w4.heap.size:=by have:=ht4.size;rw [zid] at this;omega
  clear ht4 hB1 hB2 hown hinr;obtain ⟨qx,fx⟩:=hX.rules;have tx:=hX.lt;go_wp2_with fail;refine (lE e _ (by omega)).mono ?_
  rintro x w5 ⟨rfl,hb5⟩;have hL5:=hL4.step hb5;obtain ⟨q5,f5⟩:=hL5.rules;have t5:=hL5.lt;clear qx fx tx;have hG5:=hG4.step hb5;have own5:=aD own4 hb5 (zic _);have hI5:=hI4.step hb5;have hb6:=hb4.trans (hb5.mono hb4.size);have hs5:=hb5.size;clear hG4 own4 hI4 hL4 hX;go_wp2;go_roundw
  case rel=>
   refine ⟨j+1,(o++gK a e.lba).length,aL e,o++gK a e.lba,A4,k4,by go_num,by omega,zia HNX.out,zia rfl,hL5.set_ 0 _,hG5.far (by show w1.heap.size≠w.heap.size;omega) _,qQ own5 hL5 (by decide) 0 _,?_,hb6.setCell (zic _) _,by simpa [World.setCell] using zit hs4 hs5,_,rfl⟩
   exact hI5.far (fun h=>by omega) 0 _
  case measure=>simp [intOf];omega
theorem kN (e:Ex) (lba n:Int) (w:World) (h:OkE e) (hl:0≤lba∧lba≤2199023255552) :
 Calls Tryz.prog 160 #[exV e,.int .i64 lba,.int .i64 n] w fun x w'=>x=.returned (exV (withinE e lba n))∧Below w.heap.size w w':=by
 obtain ⟨h1,h2,h3⟩:=h;unfold withinE;by_cases hz:e.zone = -1
 · rw [zig (by omega)]
   have hz2:(e.zone != -1)=false:=by simpa using hz
   clear hz;go_enter Tryz.func160,Tryz.ntmps160
   go_wp2;refine zik (v:=.agg #[.int .i64 lba,.int .i64 n,.int .i64 e.ver,.int .i64 e.zone,.int .i64 e.off]) (by simp [results,Tryz.results160,go_sem]) rfl ⟨rfl,(zBA).alloc (by simp) _⟩
 · rw [zij hz]
   have hz2:(e.zone != -1)=true:=by simpa using hz
   clear hz;go_enter Tryz.func160,Tryz.ntmps160
   go_wp2;refine zik (v:=.agg #[.int .i64 lba,.int .i64 n,.int .i64 e.ver,.int .i64 e.zone,.int .i64 (e.off+16*(lba-e.lba))]) (by simp [results,Tryz.results160,go_sem]) rfl ⟨rfl,(zBA).alloc (by simp) _⟩
theorem zbI (w:World) (e:Ex) {g:Nat} (hg:w.heap.size=g):IsL Rp.ex (w.alloc (.cells #[.int .i64 e.lba,.int .i64 e.n,.int .i64 e.ver,.int .i64 e.zone,.int .i64 e.off] 90)) (fun b=>b=g) (.slice (some ⟨g,0,none⟩) 1 1) [e]:=
 ⟨_,1,dM e,rfl,aG.new hg rfl rfl,eN.2 (by simp [bB]),by simp,by omega,by simp⟩
theorem rZ (e:Ex) (w:World) :
 Calls Tryz.prog 90 #[exV e] w fun x w'=>x=.returned (.bool (decide (bO e)))∧Below w.heap.size w w':=by
 have hc:dZ [e]=if bO e then 0 else 1:=by
  unfold dZ;by_cases h:bO e
  · rw [zij h,zij ⟨h,h.pos.2,trivial⟩]
  · rw [zig h,zig (fun h2:aC 0 [e]=>h h2.1)]
 have hck:=fun (w:World) hv=>cS (.slice (some ⟨w.heap.size+1,0,none⟩) 1 1) [e] (fun b=>b=w.heap.size+1) ((w.alloc (.cells #[.int .i64 e.lba,.int .i64 e.n,.int .i64 e.ver,.int .i64 e.zone,.int .i64 e.off] 90)).alloc (.cells #[.int .i64 e.lba,.int .i64 e.n,.int .i64 e.ver,.int .i64 e.zone,.int .i64 e.off] 90)) hv
 rw [hc] at hck;have hbw:Below w.heap.size w ((w.alloc (.cells #[.int .i64 e.lba,.int .i64 e.n,.int .i64 e.ver,.int .i64 e.zone,.int .i64 e.off] 90)).alloc (.cells #[.int .i64 e.lba,.int .i64 e.n,.int .i64 e.ver,.int .i64 e.zone,.int .i64 e.off] 90)):=(zBA).alloc (by simp) _
 by_cases hm:bO e
 · rw [ziu hm]
   simp only [zij hm] at hck;clear hm hc;go_enter Tryz.func90,Tryz.ntmps90
   go_wp2_with fail;refine (hck w (zbI _ e (by simp))).mono ?_
   rintro x w2 ⟨rfl,hb2⟩;go_wp2;go_ret;exact ⟨rfl,hbw.trans (hb2.mono hbw.size)⟩
 · rw [ziv hm]
   simp only [zig hm] at hck;clear hm hc;go_enter Tryz.func90,Tryz.ntmps90
   go_wp2_with fail;refine (hck w (zbI _ e (by simp))).mono ?_
   rintro x w2 ⟨rfl,hb2⟩;go_wp2;go_ret;exact ⟨rfl,hbw.trans (hb2.mono hbw.size)⟩
theorem zJ {m l':List Ex} {lba n:Int} (h:aC 0 m) (hb:aJ lba n) (hp:l'.Perm (gapsE lba (partE m lba n) (lba+n)++partE m lba n)) (hs:l'.Pairwise (fun a b=>a.lba≤b.lba)):l'=lookE m lba n:=by
 obtain ⟨h1,_,h3⟩:=fI h hb;have hlt:(lookE m lba n).Pairwise (fun a b=>a.lba<b.lba):=by
  rw [zjy] at h3 ⊢;intro i j hi hj hij;have h4:=h3 i j hi hj hij;have h5:=(h1 _ (ziD hi)).1;unfold aL at h4;omega
 have hp2:l'.Perm (lookE m lba n):=hp.trans (kY _ _ _);refine List.Perm.eq_of_pairwise (le:=fun a b=>a.lba≤b.lba) (fun a b ha hb h6 h7=>?_) hs (hlt.imp fun h=>Int.le_of_lt h) hp2
 obtain ⟨i,hi,rfl⟩:=zkm (hp2.mem_iff.1 ha);obtain ⟨j,hj,rfl⟩:=zkm hb;have hq:=zjy.1 hlt;rcases Nat.lt_trichotomy i j with hij | hij | hij
 · have:=hq i j hi hj hij;omega
 · subst hij;rfl
 · have:=hq j i hj hi hij;omega
theorem pD (A:Option Addr) (c:Nat) (l:List Ex) (lba n:Int) (K:Nat→Prop) (w:World) (hv:IsL Rp.ex w K (.slice A l.length c) l) (hch:aC 0 l) (hb:aJ lba n) :
 Calls Tryz.prog 27 #[.slice A l.length c,.int .i64 lba,.int .i64 n] w fun x w'=>
  ∃ Ao co,x=.returned (.tuple #[.slice Ao (lookE l lba n).length co,.int .i64 0]) ∧
    w'.ownsRow w.heap.size 90 5 (.slice Ao (lookE l lba n).length co) (lookE l lba n).length (bB (lookE l lba n))∧Below w.heap.size w w':=by
 obtain ⟨i0,hi,hz0,hz1,hz2⟩:=ziH Tryz.infX;have hlk:∀ l',l'.Perm (gapsE lba (partE l lba n) (lba+n)++partE l lba n)→l'.Pairwise (fun a b=>a.lba≤b.lba)→l'=lookE l lba n:=fun l'=>zJ hch hb
 obtain ⟨g1,g2,g3⟩:=fI hch hb;have hperm:=kY (partE l lba n) lba (lba+n);have hbnd:∀ e∈gapsE lba (partE l lba n) (lba+n)++partE l lba n,0≤e.lba∧e.lba≤2199023255552:=fun e he=>by
  obtain ⟨q1,q2,q3,_⟩:=g1 e (hperm.mem_iff.1 he);have:=hb;unfold aJ at this;unfold aL at q3;omega
 have hpos:0<(gapsE lba (partE l lba n) (lba+n)++partE l lba n).length:=by
  obtain ⟨p,hp,_⟩:=g2 lba (zj7 _) (by have:=hb.2.1;omega)
  rw [hperm.length_eq];exact List.length_pos_of_mem hp
 have hlen:(lookE l lba n).length=(gapsE lba (partE l lba n) (lba+n)).length+(partE l lba n).length:=by rw [←zie,hperm.length_eq];rfl
 obtain ⟨p1,p2,_⟩:=dH hch hb;have hpl:=cI p1;have hgl:(gapsE lba (partE l lba n) (lba+n)).length≤(partE l lba n).length+1:=by
  have:=kR (lba+n) (partE l lba n) [] lba;rw [List.nil_append] at this;rw [this,zie];have h1:=kZ (partE l lba n) ([],lba);have h2:=rL ((partE l lba n).foldl iY ([],lba)).2 (lba+n);simp only [List.length_nil] at h1;omega
 have hcp:=fun w hv=>oC A c l lba n K w hv hch hb
 have hcg:=fun w hv=>zcI A c l lba n K w hv hch hb
 have hn40:=hb.2.2.1;have hpb:(partE l lba n).length≤1099511627776:=by omega
 generalize gapsE lba (partE l lba n) (lba+n)=gs at *;generalize partE l lba n=pt at *;generalize lookE l lba n=lk at *;rw [hlen];obtain ⟨a,ha⟩:∃ a,gs.length=a:=⟨_,rfl⟩;obtain ⟨b,hbl⟩:∃ b,pt.length=b:=⟨_,rfl⟩;have hab:(gs++pt).length=a+b:=by rw [zie,ha,hbl]
 rw [hab] at hpos;rw [ha] at hgl hcg ⊢;rw [hbl] at hgl hpb hcp ⊢;have HLK:=zia hlk;have HBND:=zia hbnd;have HAB:=zia hab;have HCP:=zia hcp;have HCG:=zia hcg;clear hlk hbnd hab hcp hcg ha hbl hlen g1 g2 g3 hperm p1 p2 hpl hch hb;go_enter Tryz.func27,Tryz.ntmps27
 go_wp2_with fail;refine (HCP.out _ hv).mono ?_;rintro x w1 ⟨Ai,ci,rfl,own1,hb1⟩;go_wp2_with fail;refine (HCG.out _ (hv.step hb1)).mono ?_;rintro x w2 ⟨Ao,co,rfl,own2,hb2⟩;have hs1:=hb1.size;have hs2:=hb2.size;have rd:=aG.of_own (aD own1 hb2 (zic _));go_wp2_with (at_builtin;refine aF rfl _ _ _ rfl w1.heap.size 90 i0 _ 5 40 Tryz.underlying35 hi hz0 hz1 hz2 rfl (by omega) rfl own2 rfl rd (aU pt) (by simp only [maxLen];omega) (by omega) (by omega) ?_;intro A8 c8 w6 own8 hg8)
 rw [←cV] at own8;refine (zct A8 (a+b) c8 w1.heap.size (gs++pt) _ own8 HAB.out (by omega) HBND.out hpos).mono ?_
 rintro x w9 ⟨rfl,l',hp,hs,own9,ht9⟩;have hll:=HLK.out l' hp hs;subst hll;go_wp2;go_ret2;refine ⟨A8,c8,rfl,aO own9 hs1,?_⟩;have hb6:Below w.heap.size w w6:=(hb1.trans (hb2.mono hs1)).trans (hg8.below.mono hs1);exact hb6.trans (ht9.below (fun k hk=>by have:=(own8.lt k hk.symm).1;omega) hb6.size)
