/- A part of the proof. -/
import Derived.Lib.AppendZerosOnto
import Derived.Lib.Walk
import Derived.Test.YtcapmeefiglfjaaGreatRef09
set_option maxHeartbeats 4000000
set_option maxRecDepth 100000
namespace Go.Proofs.YtcapmeefiglfjaaGreat
open Go.RowKit
theorem Tryz.infE:(Tryz.prog.info? 90).map (fun i=>(i.zero,i.size,i.bytes))=some (some (.agg #[.int .i64 0,.int .i64 0,.int .i64 0,.int .i64 0,.int .i64 0]),5,40):=by kernel_rfl
theorem jP (A:Option Addr) (n c:Nat) (K:Nat→Prop) (xs:List Value) (w:World) (hr:aG w K 5 A n xs) (h1:∀ u∈xs,u.oneCell'=true) (hn:n*40≤140737488355328) :
 Calls Tryz.prog 82 #[.slice A n c] w fun e w'=>∃ A' c',e=.returned (.slice A' n c')∧w'.ownsRow w.heap.size 90 5 (.slice A' n c') n xs∧Below w.heap.size w w':=by
 obtain ⟨i0,hi,hz0,hz1,hz2⟩:=ziH Tryz.infE;rcases A with _ | ad
 · have hn0:n=0:=by
    rcases ziV n with h | h
    · exact h
    · obtain ⟨_,h2,_⟩:=hr.2 h;cases h2
   subst hn0;have hx:xs=[]:=zis (by simpa using hr.1)
   subst hx;have heq:=fun w=>zj6 (P:=Tryz.prog) w 35 90 none 0 c 0 0 Tryz.underlying35
   go_enter Tryz.func82,Tryz.ntmps82
   go_wp2;go_ret;exact ⟨none,0,rfl,zin _ _ _ _,zif _ _⟩
 · have heq:=fun w=>zj6 (P:=Tryz.prog) w 35 90 (some ad) n c 0 0 Tryz.underlying35
   have hr':=hr.alloc (.cells #[] 90);go_enter Tryz.func82,Tryz.ntmps82
   go_wp2_with (at_builtin;refine aF rfl _ _ _ rfl w.heap.size 90 i0 _ 5 40 Tryz.underlying35 hi hz0 hz1 hz2 rfl (by omega) rfl (fV _ _ _ _) rfl hr' h1 (by simp only [maxLen];omega) (by omega) (by simp) ?_;intro A' c' w1 hown1 hg1)
   go_ret;simp only [zj5,List.nil_append] at hown1 ⊢;exact ⟨A',c',rfl,hown1,(zBA).trans hg1.below⟩
theorem zc6 (n:Nat) (w:World) (hn:n*40≤140737488355328) :
 Calls Tryz.prog 236 #[.slice none 0 0,.int .i64 n] w fun e w'=>∃ A' c',e=.returned (.slice A' 0 c')∧w'.ownsRow w.heap.size 90 5 (.slice A' 0 c') 0 []∧Below w.heap.size w w':=by
 obtain ⟨i0,hi,hz0,hz1,hz2⟩:=ziH Tryz.infE;rcases ziV n with h0 | h0
 · subst h0
   go_enter Tryz.func236,Tryz.ntmps236
   go_wp2;go_ret;exact ⟨none,0,rfl,zin _ _ _ _,zif _ _⟩
 · have hold:(Builtin.firstCells i0.size 0 (.slice none 0 0)).run Tryz.prog w.drew=.ok ([]:List Value).toArray w.drew:=run_firstCells_none w.drew i0.size 0 0 0
   have hrz:∀ ty,(Builtin.append_ #[35,3] ty #[.slice none 0 0,.int .i64 (n:Int)]).run Tryz.prog w =
    .ok (.slice (some ⟨w.heap.size,0,none⟩) n (grownCap w n 0 90)) (w.drew.alloc (.cells (([]:List Value).toArray++Builtin.zeroCells (.agg #[.int .i64 0,.int .i64 0,.int .i64 0,.int .i64 0,.int .i64 0]:Value).cells n++Builtin.zeroCells (.agg #[.int .i64 0,.int .i64 0,.int .i64 0,.int .i64 0,.int .i64 0]:Value).cells (grownCap w n 0 90-n)) 90)):=fun ty=>by
    have h:=Lib.run_append_grow_zeros w 35 3 ty 90 i0 (.agg #[.int .i64 0,.int .i64 0,.int .i64 0,.int .i64 0,.int .i64 0]:Value) .i64 .i64 Tryz.underlying35 Tryz.underlying3 hi hz0 none 0 0 [] hold n (by omega) (by omega) (by omega) (by omega)
     (by rw [hz2];omega) (by rw [hz2];simp only [zj5];exact zkw h0 hn)
    simp only [zj5] at h;exact h
   have hGn:n≤grownCap w n 0 90:=zkx w _ _ _;have hGm:grownCap w n 0 90≤maxLen:=zjL w n 0 90 (by unfold maxLen;omega)
   generalize grownCap w n 0 90=G at hrz hGn hGm;have hG63:G≤9223372036854775807:=by unfold maxLen at hGm;omega
   have hcs:(([]:List Value).toArray++Builtin.zeroCells (.agg #[.int .i64 0,.int .i64 0,.int .i64 0,.int .i64 0,.int .i64 0]:Value).cells n++Builtin.zeroCells (.agg #[.int .i64 0,.int .i64 0,.int .i64 0,.int .i64 0,.int .i64 0]:Value).cells (G-n)).size=G*5:=by
    have e:(.agg #[.int .i64 0,.int .i64 0,.int .i64 0,.int .i64 0,.int .i64 0]:Value).cells.size=5:=rfl;simp only [zjP,zko,e,ziO,List.length_nil];omega
   generalize ([]:List Value).toArray++Builtin.zeroCells (.agg #[.int .i64 0,.int .i64 0,.int .i64 0,.int .i64 0,.int .i64 0]:Value).cells n++Builtin.zeroCells (.agg #[.int .i64 0,.int .i64 0,.int .i64 0,.int .i64 0,.int .i64 0]:Value).cells (G-n)=cs at hrz hcs;have HM:=zia hGm;clear hGm;have HC:=zia hcs;clear hcs;clear hold;go_enter Tryz.func236,Tryz.ntmps236
   go_wp2_with (at_builtin;refine Lib.wpList_append_run _ rfl _ _ _ _ rfl _ _ rfl rfl _ _ (hrz _) ?_);all_goals
    go_ret;exact ⟨_,G,rfl,World.ownsRow_made w.drew cs G (zic _) HM.out HC.out,(zif _ _).drew.alloc (zic _) _⟩
theorem zX (SA:Option Addr) (k sc:Nat) (K K':Nat→Prop) (ps:List mY) (w:World) (hk:ps.length=k) (hs:aG w K 1 SA k (ps.map mY.v))
 (hp:∀ p∈ps,aG w K' 5 p.A p.n p.xs∧∀ u∈p.xs,u.oneCell'=true) (hn:eC ps*40≤140737488355328) (hk63:k≤9223372036854775807) :
 Calls Tryz.prog 228 #[.slice SA k sc] w fun e w'=>∃ A' c',e=.returned (.slice A' (eC ps) c')∧w'.ownsRow w.heap.size 90 5 (.slice A' (eC ps) c') (eC ps) (ps.flatMap mY.xs)∧Below w.heap.size w w':=by
 obtain ⟨i0,hi,hz0,hz1,hz2⟩:=ziH Tryz.infE;subst hk;have HN:=zia hn;clear hn;go_enter Tryz.func228,Tryz.ntmps228
 go_wp2;go_loop [3,5,11] (fun size _ i=>∃ j:Nat,j≤ps.length∧i=.int .i64 j∧size=.int .i64 (eC (ps.take j))) (fun _ _ i=>ps.length-(intOf i).toNat)
 case atStart=>exact ⟨0,zir _,rfl,rfl⟩
 case round=>
  obtain ⟨j,hj,rfl,rfl⟩:=hrel;have hle:=gH ps j;have hle63:eC (ps.take j)≤140737488355328:=by have:=HN.out;omega
  by_cases hlt:j<ps.length
  · obtain ⟨ad,u,rfl,hbB,hu,hc⟩:=hs.at_ hlt
    simp only [zj1,zib hlt,Option.map_some,ziL] at hu;subst hu;unfold mY.v at hc;have hsn:=lQ ps hlt;have hle':=gH ps (j+1);have hb2:eC (ps.take j)+ps[j].n≤140737488355328:=by have:=HN.out;omega
    have hnn:¬((eC (ps.take j):Int)+(ps[j].n:Int)<0):=by omega
    have HS:=zia hsn;clear hsn;generalize hP:ps[j]=P0 at hc hb2 hnn;have HP:=zia hP;clear hP;generalize hS0:eC (ps.take j)=S0 at hb2 hnn hle hle63 ⊢;have HS0:=zia hS0;clear hS0;clear hle hle';go_wp2;go_round
    case rel=>exact ⟨j+1,by omega,by go_num,by rw [HS.out,HP.out,HS0.out];go_num⟩
    case measure=>simp [intOf];omega
  · obtain rfl:j=ps.length:=by omega
    have ht:eC (ps.take ps.length)=eC ps:=by rw [ziQ]
    rw [ht] at hle63 ⊢;clear ht hle;generalize hS:eC ps=S at hle63 ⊢;have HS:=zia hS;clear hS;go_wp2_with (go_at_call 236;refine (zc6 S w (by have:=HN.out;have:=HS.out;omega)).mono ?_;rintro e w1 ⟨A1,c1,rfl,hown1,hb1⟩)
    go_loopw [6,8,27] (fun v _ i wr=>∃ (j:Nat) (A:Option Addr) (c:Nat),j≤ps.length∧i=.int .i64 j∧v=.slice A (eC (ps.take j)) c∧wr.ownsRow w.heap.size 90 5 (.slice A (eC (ps.take j)) c) (eC (ps.take j)) ((ps.take j).flatMap mY.xs)∧Below w.heap.size w wr) (fun _ _ i _=>ps.length-(intOf i).toNat)
    case atStart=>exact ⟨0,A1,c1,zir _,rfl,rfl,hown1,hb1⟩
    case round=>
     obtain ⟨j,A,c,hj,rfl,rfl,hown,hb⟩:=hrel;have hsz:=hb.size;by_cases hlt:j<ps.length
     · obtain ⟨ad,u,rfl,hbB,hu,hc⟩:=(hs.step hb).at_ hlt
       simp only [zj1,zib hlt,Option.map_some,ziL] at hu;subst hu;unfold mY.v at hc;have hsn:=lQ ps hlt;have hle':=gH ps (j+1);have hxs:=xH ps hlt;have hb2:(eC (ps.take j)+ps[j].n)*40≤140737488355328:=by have:=HN.out;rw [←hsn];omega
       have hrp:=(hp ps[j] (ziD hlt)).1;have hone:=(hp ps[j] (ziD hlt)).2;have HSN:=zia hsn;clear hsn;have HX:=zia hxs;clear hxs;generalize hP:ps[j]=P0 at hc hb2 hrp hone;have HP:=zia hP;clear hP;generalize hS0:eC (ps.take j)=S0 at hb2 hown ⊢;have HS0:=zia hS0;clear hS0;generalize hX0:(ps.take j).flatMap mY.xs=X0 at hown;have HX0:=zia hX0;clear hX0;clear hle';go_wp2_with (at_builtin;refine aF rfl (.tmp 31) (.tmp 32) _ rfl w.heap.size 90 i0 _ 5 40 Tryz.underlying35 hi hz0 hz1 hz2 rfl (by omega) rfl hown rfl (hrp.step hb) hone (by simp only [maxLen];omega) hb2 hsz ?_;intro A' c' w2 hown2 hg2)
       go_roundw
       case rel=>exact ⟨j+1,A',c',by omega,by go_num,by rw [HSN.out,HP.out,HS0.out],by rw [HSN.out,HX.out,HP.out,HS0.out,HX0.out];exact hown2,hb.trans hg2.below⟩
       case measure=>simp [intOf];omega
     · obtain rfl:j=ps.length:=by omega
       rw [ziQ,HS.out] at hown ⊢;go_wp2;go_ret;rw [HS.out];exact ⟨A,c,rfl,hown,hb⟩
theorem tS {l:List Ex} {k:Nat} (hk:k≤l.length):(bB l).take (k*5)=bB (l.take k):=by
 conv=>lhs;rw [←ziP k l,cV]
 rw [ziW (by rw [eH,zio];omega),zip (by rw [eH,zio];omega)]
theorem zc8 {l:List Ex} {k:Nat} (hk:k≤l.length):(bB l).drop (k*5)=bB (l.drop k):=by
 conv=>lhs;rw [←ziP k l,cV]
 rw [zjw (by rw [eH,zio];omega),zjz (by rw [eH,zio];omega)]
 rfl
theorem xP {w:World} {g:Nat} {t:TypeId} {cs:Array Value} (h:Blk w g t cs) {n:Nat} (hn:cs.size=n):aG w (fun _=>True) 1 (some ⟨g,0,none⟩) n cs.toList:=by
 refine ⟨by simp [hn],fun _=>⟨_,rfl,trivial,fun j u hu=>?_⟩⟩
 have e:((⟨g,0,none⟩:Addr).add j)=⟨g,j,none⟩:=by unfold Addr.add;split <;> simp_all
 rw [e,h.cell];simpa using hu
theorem lH (g:Nat) (A1 A2 A3:Option Addr) (n1 n2 n3 c1 c2 c3:Nat) (l1 l2 l3:List Ex) (K:Nat→Prop) (w:World)
 (hs:aG w (fun _=>True) 1 (some ⟨g,0,none⟩) 3 [.slice A1 n1 c1,.slice A2 n2 c2,.slice A3 n3 c3])
 (h1:aG w K 5 A1 n1 (bB l1)) (h2:aG w K 5 A2 n2 (bB l2)) (h3:aG w K 5 A3 n3 (bB l3)) (hn:n1+n2+n3≤3000000000000) :
 Calls Tryz.prog 228 #[.slice (some ⟨g,0,none⟩) 3 3] w fun e w'=>∃ A' c',e=.returned (.slice A' (n1+n2+n3) c') ∧
  w'.ownsRow w.heap.size 90 5 (.slice A' (n1+n2+n3) c') (n1+n2+n3) (bB (l1++l2++l3))∧Below w.heap.size w w':=by
 have h:=zX (some ⟨g,0,none⟩) 3 3 (fun _=>True) K [⟨A1,n1,c1,bB l1⟩,⟨A2,n2,c2,bB l2⟩,⟨A3,n3,c3,bB l3⟩] w rfl hs (by
  intro p hp;simp only [zim,ziJ,zju] at hp;rcases hp with rfl | rfl | rfl
  · exact ⟨h1,aU l1⟩
  · exact ⟨h2,aU l2⟩
  · exact ⟨h3,aU l3⟩) (by simp [eC];omega) (by omega)
 have e:eC [⟨A1,n1,c1,bB l1⟩,⟨A2,n2,c2,bB l2⟩,⟨A3,n3,c3,bB l3⟩]=n1+n2+n3:=by simp [eC];omega
 rw [e] at h;refine h.mono ?_;rintro x w' ⟨A',c',h4,h5,h6⟩;refine ⟨A',c',h4,?_,h6⟩;rw [cV,cV];simpa using h5
def lftB (B:List Ex) (lba:Int):Bool:=match B with
 | []=>false
 | e::_=>decide (e.lba<lba)
def rgtB (B:List Ex) (k:Int):Bool:=match B.getLast? with
 | none=>false
 | some e=>decide (k<aL e)
theorem zhn (B:List Ex) (lba:Int) (h:lftB B lba=true):∃ e,0<B.length∧B[0]?=some e∧e.lba<lba∧leftE B lba=[uptoE e lba]:=by
 cases B with
 | nil=>cases h
 | cons e r=>
   have h1:e.lba<lba:=by simpa [lftB] using h
   exact ⟨e,by simp,rfl,h1,by unfold leftE;simp only;rw [zij h1]⟩
theorem zh7 (B:List Ex) (lba:Int) (h:lftB B lba=false):leftE B lba=[]∧∀ e,B[0]?=some e→¬e.lba<lba:=by
 cases B with
 | nil=>exact ⟨rfl,fun e he=>by simp at he⟩
 | cons e r=>
   have h1:¬e.lba<lba:=by simpa [lftB] using h
   exact ⟨by unfold leftE;simp only;rw [zig h1],fun x hx=>by simp only [List.getElem?_cons_zero,ziL] at hx;subst hx;exact h1⟩
theorem zgO (B:List Ex) (k:Int) (h:rgtB B k=true):∃ e,0<B.length∧B[B.length-1]?=some e∧k<aL e∧rightE B k=[fromE e k]:=by
 unfold rgtB at h;unfold rightE;rw [←List.getLast?_eq_getElem?];cases hm:B.getLast? with
 | none=>rw [hm] at h;cases h
 | some e=>
   rw [hm] at h;have h1:k<aL e:=by simpa using h
   refine ⟨e,?_,rfl,h1,by simp only;rw [zij h1]⟩
   rcases ziV B.length with h0 | h0
   · rw [zis h0] at hm;cases hm
   · exact h0
theorem zfI (B:List Ex) (k:Int) (h:rgtB B k=false):rightE B k=[]∧∀ e,B[B.length-1]?=some e→¬k<aL e:=by
 unfold rgtB at h;unfold rightE;rw [←List.getLast?_eq_getElem?];cases hm:B.getLast? with
 | none=>exact ⟨rfl,fun e he=>by cases he⟩
 | some e=>
   rw [hm] at h;have h1:¬k<aL e:=by simpa using h
   exact ⟨by simp only;rw [zig h1],fun x hx=>by injection hx with hx;subst hx;exact h1⟩
theorem rT (A:Option Addr) (c:Nat) (l:List Ex) (lba n:Int) (Aw:Option Addr) (cw:Nat) (ws:List Ex) (K K2:Nat→Prop) (w:World) (hv:IsL Rp.ex w K (.slice A l.length c) l) (hch:aC 0 l) (hb:aJ lba n)
 (hw:IsL Rp.ex w K2 (.slice Aw ws.length cw) ws) (hwl:ws.length≤1000000) :
 Calls Tryz.prog 209 #[.slice A l.length c,.int .i64 lba,.int .i64 n,.slice Aw ws.length cw] w fun x w'=>
  ∃ Ao co,x=.returned (.slice Ao (replE l lba n ws).length co) ∧
    w'.ownsRow w.heap.size 90 5 (.slice Ao (replE l lba n ws).length co) (replE l lba n ws).length (bB (replE l lba n ws))∧Below w.heap.size w w':=by
 have hlen:=eP hch;obtain ⟨i0,hi,hz0,hz1,hz2⟩:=ziH Tryz.infX;have hcp:=fun w hv=>oU A c l lba n K w hv hch hb
 have hle:=zfw l lba n;have hmid:(l.drop (firstE l lba)).take (midE l lba n).length=midE l lba n:=(List.prefix_iff_eq_take.1 (List.takeWhile_prefix _)).symm;have hmt:∀ t,t<(midE l lba n).length→l[firstE l lba+t]?=(midE l lba n)[t]?:=fun t ht=>by
  conv=>rhs;rw [←hmid]
  rw [zjd,zij ht,zk9]
 have hmem:=aM hch;have hup:=gF hch lba n;have hbn:=hb;obtain ⟨b1,b2,b3,b4⟩:=hbn;unfold replE;generalize firstE l lba=f at *;generalize midE l lba n=mid at *;have hL:(leftE mid lba).length≤1:=by unfold leftE;split <;> (try split) <;> simp
 have hR:(rightE mid (lba+n)).length≤1:=by unfold rightE;split <;> (try split) <;> simp
 have hq1t:=zhn mid lba;have hq1f:=zh7 mid lba;have hq2t:=zgO mid (lba+n);have hq2f:=zfI mid (lba+n);generalize lftB mid lba=q1 at *;generalize rgtB mid (lba+n)=q2 at *;generalize leftE mid lba=lf at *;generalize rightE mid (lba+n)=rt at *;have HQ1T:=zia hq1t;have HQ1F:=zia hq1f;have HQ2T:=zia hq2t;have HQ2F:=zia hq2f;have HMT:=zia hmt;have HMEM:=zia hmem;have HUP:=zia hup;have HV:=zia hv;clear hq1t hq1f hq2t hq2f hmt hmem hup hmid;obtain ⟨m,hm⟩:∃ m,mid.length=m:=⟨_,rfl⟩;rw [hm] at hle hcp HMT HQ1T HQ2T HQ2F ⊢;have HM:=zia hm;clear hm;obtain ⟨ln,hln⟩:∃ ln,l.length=ln:=⟨_,rfl⟩;have hrl:(l.take f++(lf++ws++rt)++l.drop (f+m)).length=f+(lf.length+ws.length+rt.length)+(ln-(f+m)):=by
  simp only [zie,zio,ziG];omega
 have htk:(bB l).take (f*5)=bB (l.take f):=tS (by omega)
 have hdr:(bB l).drop ((f+m)*5)=bB (l.drop (f+m)):=zc8 (by omega)
 rw [hrl];rw [hln] at hlen hv hle hcp ⊢;obtain ⟨k,hk⟩:∃ k,f+m=k:=⟨_,rfl⟩;rw [hk] at hcp hdr hle ⊢;have hfk:f≤k:=by omega
 have HLN:=zia hln;have HTK:=zia htk;have HDR:=zia hdr;have HCP:=zia hcp;have HK:=zia hk;clear hln hrl htk hdr hcp hk;obtain ⟨wl,hwl2⟩:∃ wl,ws.length=wl:=⟨_,rfl⟩;rw [hwl2] at hw hwl ⊢;have HWL:=zia hwl2;clear hwl2 hch;obtain ⟨z1,hz1'⟩:∃ z1,lf.length=z1:=⟨_,rfl⟩;obtain ⟨z2,hz2'⟩:∃ z2,rt.length=z2:=⟨_,rfl⟩;rw [hz1'] at hL ⊢;rw [hz2'] at hR ⊢;have HZ1:=zia hz1';have HZ2:=zia hz2';clear hz1' hz2';go_enter Tryz.func209,Tryz.ntmps209
 go_wp2_with fail;refine (HCP.out _ hv).mono ?_;rintro x w2 ⟨Ao,co,rfl,-,hb2⟩;go_upto_region 3 with fail;go_cut [32] (fun x32 wx=>x32=.bool q1∧wx=w2)
 case first=>
  by_cases hm0:m=0
  · subst hm0
    cases q1 with
    | true=>obtain ⟨e,h,_⟩:=HQ1T.out rfl;omega
    | false=>
      obtain rfl:f=k:=by have:=HK.out;omega
      go_wp2;go_meet;exact ⟨rfl,rfl⟩
  obtain ⟨e,he⟩:∃ e,l[f]?=some e:=⟨_,zib (by have:=HK.out;rw [HLN.out];omega)⟩
  have hme:mid[0]?=some e:=by rw [←HMT.out 0 (by omega)];exact he
  have hq1:q1=decide (e.lba<lba):=by
   cases q1 with
   | true=>obtain ⟨x,_,h1,h2,_⟩:=HQ1T.out rfl;rw [hme] at h1;injection h1 with h1;subst h1;rw [ziu h2]
   | false=>exact (ziv (by have:=(HQ1F.out rfl).2 e hme;omega)).symm
  obtain ⟨ad,rfl,-,c0,c1,c2,c3,c4⟩:=bY (HV.out.step hb2) he;have i0':(0:Int)≤(f:Int):=by omega
  have i1':(f:Int)<(ln:Int):=by have:=HK.out;omega
  have i2':(f:Int)<(k:Int):=by have:=HK.out;omega
  have HQ:=zia hq1;clear hq1 he hme c1 c2 c3 c4;go_wp2;go_meet;exact ⟨by rw [HQ.out],rfl⟩
 case rest=>
  obtain ⟨rfl,rfl⟩:=hcut;go_upto_if 32 with fail
  go_cut [12] (fun x12 wx=>∃ A1 c1,x12=.slice A1 z1 c1∧wx.ownsRow w.heap.size 90 5 (.slice A1 z1 c1) z1 (bB lf)∧Below w.heap.size w wx)
  case first=>
   cases q1 with
   | false=>
     have hlf:=(HQ1F.out rfl).1;have hz:=HZ1.out;rw [hlf] at hz;have hz':z1=0:=hz.symm;have HLF:=zia hlf;subst hz';clear hlf hz HQ1F HQ1T HCP;go_wp2;go_meet;exact ⟨none,0,rfl,by rw [HLF.out];exact zin _ _ _ _,hb2⟩
   | true=>
     obtain ⟨e,hm0,hme,hel,hlf⟩:=HQ1T.out rfl;have he:l[f]?=some e:=by have:=HMT.out 0 hm0;rw [Nat.add_zero] at this;rw [this];exact hme
     have hz:=HZ1.out;rw [hlf] at hz;have hz':z1=1:=hz.symm;have HLF:=zia hlf;subst hz';have hem:bO e:=(HMEM.out e (zix he)).1;obtain ⟨ad,rfl,-,c0,c1,c2,c3,c4⟩:=bY (HV.out.step hb2) he;have i0':(0:Int)≤(f:Int):=by omega
     have i1':(f:Int)<(ln:Int):=by have:=HK.out;omega
     clear hlf hz HQ1F HQ1T HCP he hme;go_wp2_with fail;refine (xK e lba _ hem.ok (by omega)).mono ?_
     rintro x w3 ⟨rfl,hb3⟩;clear c0 c1 c2 c3 c4;have hb4:=hb2.trans (hb3.mono hb2.size);have hs4:=hb4.size;generalize uptoE e lba=y at HLF ⊢;have own4:w3.ownsRow w.heap.size 90 5 (.slice none 0 0) 0 []:=zin _ _ _ _;go_wp2_with (at_builtin;refine aF rfl _ _ _ rfl w.heap.size 90 i0 _ 5 40 Tryz.underlying35 hi hz0 hz1 hz2 rfl (by omega) rfl (own4.alloc _) rfl (aG.new (xs:=dM (y)) (n:=1) rfl rfl rfl) (by intro u hu;exact aU [y] u (by simpa [bB] using hu)) (by simp only [maxLen];omega) (by omega) (by simp;omega) ?_;intro A8 c8 w6 own8 hg8)
     go_meet;exact ⟨A8,c8,rfl,by rw [HLF.out];simpa [bB] using own8,(hb4.alloc hs4 (.cells (exC y) 90)).trans (hg8.below.mono (zic _))⟩
  case rest=>
   obtain ⟨A1,c1,rfl,own1,hb3⟩:=hcut;clear HQ1F HQ1T;have hs3:=hb3.size;have hww:=hw.step hb3;go_upto_region 6 with (at_builtin;refine aF rfl _ _ _ rfl w.heap.size 90 i0 _ 5 40 Tryz.underlying35 hi hz0 hz1 hz2 rfl (by omega) rfl own1 rfl (iH hww) (aU ws) (by simp only [maxLen];omega) (by omega) (by omega) ?_;intro A5 c5 w5 own5 hg5)
   have hb5:=hb3.trans (hg5.below.mono (zic _));rw [←cV] at own5;replace own5:w5.ownsRow w.heap.size 90 5 (.slice A5 (z1+wl) c5) (z1+wl) (bB (lf++ws)):=own5;have hs5:=hb5.size;clear hg5 hww own1 hb3 hs3;go_cut [59] (fun x59 wx=>x59=.bool q2∧Below w5.heap.size w5 wx)
   case first=>
    by_cases hm0:m=0
    · subst hm0
      cases q2 with
      | true=>obtain ⟨e,h,_⟩:=HQ2T.out rfl;omega
      | false=>
        obtain rfl:f=k:=by have:=HK.out;omega
        go_wp2;go_meet;exact ⟨rfl,zif _ _⟩
    obtain ⟨kp,rfl⟩:∃ kp,k=kp+1:=⟨k-1,by have:=HK.out;omega⟩
    obtain ⟨e,he⟩:∃ e,l[kp]?=some e:=⟨_,zib (by rw [HLN.out];omega)⟩
    have hme:mid[m-1]?=some e:=by rw [←HMT.out (m-1) (by omega),show f+(m-1)=kp by have:=HK.out;omega];exact he
    have hq2:q2=decide (lba+n<aL e):=by
     cases q2 with
     | true=>obtain ⟨x,_,h1,h2,_⟩:=HQ2T.out rfl;rw [hme] at h1;injection h1 with h1;subst h1;rw [ziu h2]
     | false=>exact (ziv (by have:=(HQ2F.out rfl).2 e hme;omega)).symm
    have hem:bO e:=(HMEM.out e (zix he)).1;obtain ⟨ad,rfl,-,c0,c1,c2,c3,c4⟩:=bY (HV.out.step hb5) he;have i0':(0:Int)≤(kp:Int):=by omega
    have i1':(kp:Int)<(ln:Int):=by omega
    have i2':(f:Int)<(kp:Int)+1:=by have:=HK.out;omega
    have hwk:IntKind.i64.wrap (kp:Int)=kp:=ziI _ (by omega)
    have HQ:=zia hq2;have hov:-9223372036854775808≤e.lba+e.n∧e.lba+e.n≤9223372036854775807:=by have:=hem.1;unfold aJ at this;omega
    clear hq2 he hme;go_wp2_with fail;refine (lE e _ hov).mono ?_;rintro x w7 ⟨rfl,hb7⟩;go_wp2;go_meet;exact ⟨by rw [HQ.out],hb7⟩
   case rest=>
    obtain ⟨rfl,hb6⟩:=hcut;have own6:=aD own5 hb6 (zic _);replace hb6:=hb5.trans (hb6.mono hs5);go_upto_if 59 with fail
    go_cut [12] (fun x12 wx=>∃ A1 c1,x12=.slice A1 (z1+wl+z2) c1∧wx.ownsRow w.heap.size 90 5 (.slice A1 (z1+wl+z2) c1) (z1+wl+z2) (bB (lf++ws++rt))∧Below w.heap.size w wx)
    case first=>
     cases q2 with
     | false=>
       have hrt:=(HQ2F.out rfl).1;have hz:=HZ2.out;rw [hrt] at hz;have hz':z2=0:=hz.symm;have HRT:=zia hrt;subst hz';clear hrt hz HQ2F HQ2T HCP;go_wp2;go_meet;exact ⟨A5,c5,rfl,by rw [HRT.out,ziz];exact own6,hb6⟩
     | true=>
       obtain ⟨e,hm0,hme,hel,hrt⟩:=HQ2T.out rfl;obtain ⟨kp,rfl⟩:∃ kp,k=kp+1:=⟨k-1,by have:=HK.out;omega⟩
       have he:l[kp]?=some e:=by have:=HMT.out (m-1) (by omega);rw [show f+(m-1)=kp by have:=HK.out;omega] at this;rw [this];exact hme
       have hz:=HZ2.out;rw [hrt] at hz;have hz':z2=1:=hz.symm;have HRT:=zia hrt;subst hz';have hem:bO e:=(HMEM.out e (zix he)).1;obtain ⟨ad,rfl,-,c0,c1,c2,c3,c4⟩:=bY (HV.out.step hb6) he;have i0':(0:Int)≤(kp:Int):=by omega
       have i1':(kp:Int)<(ln:Int):=by omega
       have hwk:IntKind.i64.wrap (kp:Int)=kp:=ziI _ (by omega)
       clear hrt hz HQ2F HQ2T HCP he hme;go_wp2_with fail;refine (pQ e (lba+n) _ hem.ok (by omega)).mono ?_
       rintro x w3 ⟨rfl,hb3⟩;clear c0 c1 c2 c3 c4;have own4:=aD own6 hb3 (zic _);have hb4:=hb6.trans (hb3.mono hb6.size);have hs4:=hb4.size;generalize fromE e (lba+n)=y at HRT ⊢;go_wp2_with (at_builtin;refine aF rfl _ _ _ rfl w.heap.size 90 i0 _ 5 40 Tryz.underlying35 hi hz0 hz1 hz2 rfl (by omega) rfl (own4.alloc _) rfl (aG.new (xs:=dM (y)) (n:=1) rfl rfl rfl) (by intro u hu;exact aU [y] u (by simpa [bB] using hu)) (by simp only [maxLen];omega) (by omega) (by simp;omega) ?_;intro A8 c8 w6 own8 hg8)
       go_meet;exact ⟨A8,c8,rfl,by rw [HRT.out,bM];exact own8,(hb4.alloc hs4 (.cells (exC y) 90)).trans (hg8.below.mono (zic _))⟩
    case rest=>
     obtain ⟨A7,c7,rfl,own7,hb7⟩:=hcut;have hs7:=hb7.size;have hlc:ln≤c:=by rw [←HLN.out];exact (hv.open_).2.2.1
     have hc63:c≤9223372036854775807:=(hv.open_).2.2.2.1;have hrd:=iH (hv.step hb7);have hpre:=hrd.pre (k:=f) (by omega)
     rw [HTK.out] at hpre;have hcut3:=hrd.cut (k:=k) (cap:=c) hle hlc;rw [HDR.out] at hcut3;have hnone:A=none→ln=0:=fun h=>by
      rcases ziV ln with h0 | h0
      · exact h0
      · obtain ⟨_,h1,_⟩:=hrd.2 h0
        rw [h] at h1;cases h1
     clear hrd HCP HQ2T HQ2F HMT HMEM HUP HV HTK HDR hw HWL HM;have i0':(0:Int)≤(f:Int):=by omega
     have i1':(f:Int)≤(ln:Int):=by omega
     have i2':(f:Int)≤(c:Int):=by omega
     have i3':(0:Int)≤(k:Int):=by omega
     have i4':(k:Int)≤(ln:Int):=by omega
     have i5':(ln:Int)≤(c:Int):=by omega
     have i6':(k:Int)≤(c:Int):=by omega
     rcases A with _ | ad
     · have hl0:=hnone rfl
       subst hl0;obtain rfl:k=0:=by omega
       obtain rfl:f=0:=by omega
       rw [Option.map_none,ite_self] at hcut3;go_upto_region 8 with fail;have hb0:Below wc.heap.size wc wc.drew:=(zif _ _).drew;refine wp_region_held_drew (S:=fun W=>Below wc.heap.size wc W) (by kernel_rfl) hb0 (fun hHeld=>?_)
       generalize hw0:wc.drew=w0 at hb0 hHeld ⊢;clear hw0;refine wT 0 72 ?_;refine wT 1 73 ?_;refine wT 2 74 ?_;refine wT 3 75 ?_;refine wT 4 76 ?_;refine wT 5 77 ?_;refine wT 6 78 ?_;refine wR 7 79 (fun K hK=>?_)
       go_simp;refine bD (K:=K _) ?_;intro w8 hb8 hB8;replace hb8:=hb0.trans (hb8.mono hb0.size);refine hK.out _ _ hb8 (fun hHeld=>?_)
       clear hK K;try simp only [pu,List.set]
       refine wR 8 80 (fun K hK=>?_)
       go_simp;refine (lH _ _ _ _ _ _ _ _ _ _ (l.take 0) (lf++ws++rt) (l.drop 0) (fun _=>True) _ (xP hB8 rfl) ((hpre.step hb8).more fun _ _=>trivial) ((aG.of_own (aD own7 hb8 (zic _))).more fun _ _=>trivial) ((hcut3.step hb8).more fun _ _=>trivial) (by omega)).mono ?_
       rintro x w9 ⟨A9,c9,rfl,own9,hb9⟩;go_wp2_with fail;refine hK.out _ _ (hb8.trans (hb9.mono hb8.size)) (fun hHeld=>?_)
       clear hK K;refine wT 9 8 ?_;refine wpAnyH_done (by kernel_rfl) ?_ _
       go_wp2;go_ret;have e0:0+(z1+wl+z2)+(0-0)=z1+wl+z2:=by omega
       rw [e0] at own9 ⊢;exact ⟨A9,c9,rfl,aO own9 (by have:=hb8.size;omega),hb7.trans ((hb8.trans (hb9.mono hb8.size)).mono hs7)⟩
     obtain ⟨A3,hA3⟩:∃ A3,(if c=k then some ad else some (ad.add (k*5)))=A3:=⟨_,rfl⟩;rw [show (if c=k then some ad else (some ad:Option Addr).map (·.add (k*5)))=A3 from hA3] at hcut3;clear hnone;go_upto_region 8 with fail;have hb0:Below wc.heap.size wc wc.drew:=(zif _ _).drew;refine wp_region_held_drew (S:=fun W=>Below wc.heap.size wc W) (by kernel_rfl) hb0 (fun hHeld=>?_)
     generalize hw0:wc.drew=w0 at hb0 hHeld ⊢;clear hw0;refine wT 0 72 ?_;refine wT 1 73 ?_;refine wT 2 74 ?_;refine wT 3 75 ?_;refine wT 4 76 ?_;refine wT 5 77 ?_;refine wT 6 78 ?_;refine wR 7 79 (fun K hK=>?_)
     go_simp;refine bD (K:=K _) ?_;intro w8 hb8 hB8;replace hb8:=hb0.trans (hb8.mono hb0.size);refine hK.out _ _ hb8 (fun hHeld=>?_)
     clear hK K;try simp only [pu,List.set]
     refine wR 8 80 (fun K hK=>?_)
     go_simp;refine (lH _ _ _ _ _ _ _ _ _ _ (l.take f) (lf++ws++rt) (l.drop k) (fun _=>True) _ (xP hB8 rfl) ((hpre.step hb8).more fun _ _=>trivial) ((aG.of_own (aD own7 hb8 (zic _))).more fun _ _=>trivial) ((hcut3.step hb8).more fun _ _=>trivial) (by omega)).mono ?_
     rintro x w9 ⟨A9,c9,rfl,own9,hb9⟩;go_wp2_with fail;refine hK.out _ _ (hb8.trans (hb9.mono hb8.size)) (fun hHeld=>?_)
     clear hK K;refine wT 9 8 ?_;refine wpAnyH_done (by kernel_rfl) ?_ _
     go_wp2;go_ret;exact ⟨A9,c9,rfl,aO own9 (by have:=hb8.size;omega),hb7.trans ((hb8.trans (hb9.mono hb8.size)).mono hs7)⟩
theorem zdh (e:Ex) (w:World) (hm:bO e) :
 Calls Tryz.prog 208 #[exV e] w fun x w'=>x=.returned (.bool false)∧Below w.heap.size w w':=by
 have E:=(Kn.start w).push 90 (exC e);obtain ⟨q0,f0,t0⟩:=E.rules m0;have hd:decide (bO e)=true:=ziu hm;go_enter Tryz.func208,Tryz.ntmps208
 go_wp2_with fail;refine (nK e _).mono ?_;rintro x w2 ⟨rfl,hb2⟩;rw [hd];go_wp2;go_ret;exact ⟨rfl,(E.step hb2).below⟩
theorem zeH (v:Value) (l:List Ex) (K:Nat→Prop) (w:World) (hv:IsL Rp.ex w K v l) (hm:∀ e∈l,bO e) :
 Calls Tryz.prog 217 #[v,.func (.func 208) #[] #[]] w fun e w'=>e=.returned (.int .i64 (-1))∧Below w.heap.size w w':=by
 have hv0:=hv;obtain ⟨A,c,rfl,hlc,hcc⟩:=hv.form;have hlen:=hv.len;go_enter Tryz.func217,Tryz.ntmps217
 go_wp2_with fail;go_loopw [5,8] (fun x i wr=>∃ j:Nat,i=.int .i64 j∧j≤l.length∧Below w.heap.size w wr∧(∃ y,x=y)) (fun _ i _=>l.length-(intOf i).toNat)
 case atStart=>exact ⟨0,rfl,zir _,zif _ _,_,rfl⟩
 case round=>
  obtain ⟨j,rfl,hj,hb,y,rfl⟩:=hrel;have hsz:=hb.size;by_cases hlt:j<l.length
  · have hje:=zib hlt
    have hem:=hm _ (ziD hlt);generalize l[j]=e at hje hem;obtain ⟨ad,rfl,-,c0,c1,c2,c3,c4⟩:=bY (hv0.step hb) hje;have j1:(j:Int)<(l.length:Int):=by omega
    have j0:(0:Int)≤(j:Int):=by omega
    clear hje;go_wp2_with fail;refine (zdh e _ hem).mono ?_;rintro x w2 ⟨rfl,hb2⟩;clear c0 c1 c2 c3 c4;go_wp2;go_roundw
    case rel=>exact ⟨j+1,by go_num,by omega,hb.trans (hb2.mono hsz),_,rfl⟩
    case measure=>simp [intOf];omega
  · obtain rfl:j=l.length:=by omega
    go_wp2;go_ret;exact ⟨rfl,hb⟩
theorem zdm (v:Value) (l:List Ex) (K:Nat→Prop) (w:World) (hv:IsL Rp.ex w K v l) (hm:∀ e∈l,bO e) :
 Calls Tryz.prog 207 #[v,.func (.func 208) #[] #[]] w fun e w'=>e=.returned (.bool false)∧Below w.heap.size w w':=by
 go_enter Tryz.func207,Tryz.ntmps207
 go_wp2_with fail;refine (zeH v l K _ hv hm).mono ?_;rintro x w2 ⟨rfl,hb2⟩;go_wp2;go_ret;exact ⟨rfl,hb2⟩
theorem vV {l:List Ex} {e:Ex} (h:aC 0 l) (he:bO e):aC 0 (sV l e):=qX h he.pos.2 ⟨he,zj7 _,trivial⟩ (zj7 _)
theorem jR:∀ {ws l:List Ex},aC 0 l→(∀ e∈ws,bO e)→aC 0 (ws.foldl sV l)
 | [],_,h,_=>h
 | e::_,l,h,hm=>jR (l:=sV l e) (vV h (hm e (zih ..))) fun x hx=>hm x (zii _ hx)
theorem zax (A:Option Addr) (c:Nat) (l:List Ex) (Aw:Option Addr) (cw:Nat) (ws:List Ex) (K K2:Nat→Prop) (w:World) (hv:IsL Rp.ex w K (.slice A l.length c) l) (hch:aC 0 l)
 (hw:IsL Rp.ex w K2 (.slice Aw ws.length cw) ws) (hm:∀ e∈ws,bO e) (hfew:(putE l ws).length≤10000) :
 Calls Tryz.prog 161 #[.slice A l.length c,.slice Aw ws.length cw] w fun x w'=>
  ∃ Ao co,x=.returned (.tuple #[.slice Ao (putE l ws).length co,.int .i64 0]) ∧
    w'.ownsRow w.heap.size 90 5 (.slice Ao (putE l ws).length co) (putE l ws).length (bB (putE l ws))∧Below w.heap.size w w':=by
 have hc:dZ l=0:=by unfold dZ;rw [zij hch]
 have hlen:=hw.len;have HV:=zia hv;have HW:=zia hw;have HCH:=zia hch;have HM:=zia hm;obtain ⟨pl,hpl⟩:∃ pl,putE l ws=pl:=⟨_,rfl⟩;rw [hpl] at hfew ⊢;have HPL:=zia hpl;clear hpl hch hm;have hck:=fun w hv=>cS (.slice A l.length c) l K w hv
 rw [hc] at hck;have HCK:=zia hck;clear hc hck;go_enter Tryz.func161,Tryz.ntmps161
 go_wp2_with fail;refine (HCK.out _ hv).mono ?_;rintro x w2 ⟨rfl,hb2⟩;go_wp2_with fail;refine (zdm _ ws K2 _ (hw.step hb2) HM.out).mono ?_;rintro x w3 ⟨rfl,hb3⟩;replace hb3:=hb2.trans (hb3.mono hb2.size);clear hb2;go_wp2_with fail;go_loopw [0,7,18] (fun x0 x7 i wr=>∃ (j:Nat) (Al:Option Addr) (cl nl:Nat) (ll:List Ex),x0=.slice Al nl cl∧i=.int .i64 j∧j≤ws.length∧Hid (ll=(ws.take j).foldl sV l∧nl=ll.length)∧(IsL Rp.ex wr (fun b=>K b∨w.heap.size≤b) (.slice Al nl cl) ll)∧Below w.heap.size w wr∧∃ y,x7=y) (fun _ _ i _=>ws.length-(intOf i).toNat)
 case atStart=>exact ⟨0,A,c,l.length,l,rfl,rfl,zir _,zia ⟨rfl,rfl⟩,(hv.step hb3).more fun _ h=>.inl h,hb3,_,rfl⟩
 case round=>
  obtain ⟨j,Al,cl,nl,ll,rfl,rfl,hj,HL,hll,hb,y,rfl⟩:=hrel;have hsz:=hb.size;by_cases hlt:j<ws.length
  case neg=>
   obtain rfl:j=ws.length:=by omega
   obtain ⟨h1,h2⟩:=HL.out;rw [ziQ] at h1;have hch:aC 0 ll:=by rw [h1];exact jR HCH.out HM.out
   have hjl:joinE ll=pl:=by rw [h1];exact HPL.out
   subst h2;have hcj:=fun w hv=>pB Al cl ll (fun b=>K b∨w3.heap.size≤b∨True) w hv hch
   rw [hjl] at hcj;have HCJ:=zia hcj;clear HL h1 hjl hcj hch;go_wp2_with fail;refine (HCJ.out _ (hll.more fun _ _=>.inr (.inr trivial))).mono ?_
   rintro x w4 ⟨Ao,co,rfl,hown,hb4⟩;have hfew':(pl.length:Int)≤10000:=by omega
   go_wp2;go_ret2;exact ⟨Ao,co,rfl,aO hown hsz,hb.trans (hb4.mono hsz)⟩
  have hje:=zib hlt;have hem:=HM.out _ (ziD hlt);generalize ws[j]=e at hje hem;obtain ⟨ad,rfl,-,c0,c1,c2,c3,c4⟩:=bY ((HW.out.step hb)) hje;obtain ⟨h1,h2⟩:=HL.out;subst h2;have hch:aC 0 ll:=by rw [h1];exact jR HCH.out fun x hx=>HM.out x (zjh hx)
  have hnx:sV ll e=(ws.take (j+1)).foldl sV l:=by rw [gG ws hje,zjp,←h1];rfl
  have HNX:=zia hnx;have HLC:=zia hch;clear h1 HL hnx hch hje;have j1:(j:Int)<(ws.length:Int):=by omega
  have j0:(0:Int)≤(j:Int):=by omega
  go_wp2_with fail;have hW1:IsL Rp.ex ((wr.alloc (.cells #[.int .i64 e.lba,.int .i64 e.n,.int .i64 e.ver,.int .i64 e.zone,.int .i64 e.off] 90)).alloc (.cells #[.int .i64 e.lba,.int .i64 e.n,.int .i64 e.ver,.int .i64 e.zone,.int .i64 e.off] 90)) (fun _=>True) (.slice (some ⟨wr.heap.size+1,0,none⟩) 1 1) [e]:=
   ⟨_,1,dM e,rfl,(aG.new (by rw [zid]) rfl rfl).more fun _ _=>trivial,eN.2 (by simp [bB]),by simp,by omega,by simp⟩
  have hbw:=(hb.alloc hsz (.cells (exC e) 90)).alloc (by rw [zid];omega) (.cells (exC e) 90)
  refine (rT Al cl ll e.lba e.n _ 1 [e] _ (fun _=>True) _ ((hll.alloc _).alloc _) HLC.out hem.1 hW1 (by simp)).mono ?_
  rintro x w5 ⟨A5,c5,rfl,own5,hb5⟩;clear c0 c1 c2 c3 c4 hW1;have hL5:=bI own5 rfl (by have:=eP (vV HLC.out hem);unfold sV at this;omega)
  have hbase:w.heap.size≤((wr.alloc (.cells (exC e) 90)).alloc (.cells (exC e) 90)).heap.size:=by rw [zid,zid];omega
  have hL6:IsL Rp.ex w5 (fun b=>K b∨w.heap.size≤b) (.slice A5 (sV ll e).length c5) (sV ll e):=hL5.more fun b hb=>.inr (zit hbase hb)
  have hb6:=hbw.trans (hb5.mono hbase);clear own5 hL5 hll hbw hb5 hbase;change IsL Rp.ex w5 (fun b=>K b∨w.heap.size≤b) (.slice A5 (replE ll e.lba e.n [e]).length c5) (replE ll e.lba e.n [e]) at hL6
  have HNX2:Hid (replE ll e.lba e.n [e]=(ws.take (j+1)).foldl sV l):=zia HNX.out;clear HNX;generalize replE ll e.lba e.n [e]=l2 at *;go_wp2;go_roundw
  case rel=>exact ⟨j+1,A5,c5,l2.length,l2,rfl,by go_num,by omega,zia ⟨HNX2.out,rfl⟩,hL6,hb6,_,rfl⟩
  case measure=>simp [intOf];omega
