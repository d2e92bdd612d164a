/- A part of the proof. -/
import Derived.Lib.AppendZerosOnto
import Derived.Lib.Walk
import Derived.Test.YthblkdnijhphhaaGreatExtWalk
set_option maxHeartbeats 4000000
set_option maxRecDepth 100000
namespace Go.Proofs.YthblkdnijhphhaaGreat
open Go.RowKit
theorem Tryz.infE:(Tryz.prog.info? 85).map (fun i=>(i.zero,i.size,i.bytes))=some (some (.agg #[.int .i64 0,.int .i64 0,.int .i64 0,.int .i64 0,.int .i64 0]),5,40):=by kernel_rfl
theorem zcX (A:Option Addr) (n c:Nat) (K:Nat→Prop) (xs:List Value) (w:World) (hr:za6 w K 5 A n xs) (h1:∀ u∈xs,u.oneCell'=true) (hn:n*40≤140737488355328) :
 Calls Tryz.prog 69 #[.slice A n c] w fun e w'=>∃ A' c',e=.returned (.slice A' n c')∧w'.ownsRow w.heap.size 85 5 (.slice A' n c') n xs∧Below w.heap.size w w':=by
 obtain ⟨i0,hi,hz0,hz1,hz2⟩:=info_parts Tryz.infE;rcases A with _ | ad
 · have hn0:n=0:=by
    rcases Nat.eq_zero_or_pos n with h | h
    · exact h
    · obtain ⟨_,h2,_⟩:=hr.2 h;cases h2
   subst hn0;have hx:xs=[]:=List.eq_nil_of_length_eq_zero (by simpa using hr.1)
   subst hx;have heq:=fun w=>Lib.run_eql_slice_nil (P:=Tryz.prog) w 36 85 none 0 c 0 0 Tryz.underlying36
   go_enter Tryz.func69,Tryz.ntmps69
   go_wp2;go_ret;exact ⟨none,0,rfl,World.ownsRow_nil _ _ _ _,Below.refl _ _⟩
 · have heq:=fun w=>Lib.run_eql_slice_nil (P:=Tryz.prog) w 36 85 (some ad) n c 0 0 Tryz.underlying36
   have hr':=hr.alloc (.cells #[] 85);go_enter Tryz.func69,Tryz.ntmps69
   go_wp2_with (at_builtin;refine za5 rfl _ _ _ rfl w.heap.size 85 i0 _ 5 40 Tryz.underlying36 hi hz0 hz1 hz2 rfl (by omega) rfl (zce _ _ _ _) rfl hr' h1 (by simp only [maxLen];omega) (by omega) (by simp) ?_;intro A' c' w1 hown1 hg1)
   go_ret;simp only [Nat.zero_add,List.nil_append] at hown1 ⊢;exact ⟨A',c',rfl,hown1,((Below.refl _ _).alloc (Nat.le_refl _) _).trans hg1.below⟩
theorem zkH (n:Nat) (w:World) (hn:n*40≤140737488355328) :
 Calls Tryz.prog 219 #[.slice none 0 0,.int .i64 n] w fun e w'=>∃ A' c',e=.returned (.slice A' 0 c')∧w'.ownsRow w.heap.size 85 5 (.slice A' 0 c') 0 []∧Below w.heap.size w w':=by
 obtain ⟨i0,hi,hz0,hz1,hz2⟩:=info_parts Tryz.infE;rcases Nat.eq_zero_or_pos n with h0 | h0
 · subst h0
   go_enter Tryz.func219,Tryz.ntmps219
   go_wp2;go_ret;exact ⟨none,0,rfl,World.ownsRow_nil _ _ _ _,Below.refl _ _⟩
 · have hold:(Builtin.firstCells i0.size 0 (.slice none 0 0)).run Tryz.prog w.drew=.ok ([]:List Value).toArray w.drew:=run_firstCells_none w.drew i0.size 0 0 0
   have hrz:∀ ty,(Builtin.append_ #[36,3] ty #[.slice none 0 0,.int .i64 (n:Int)]).run Tryz.prog w =
    .ok (.slice (some ⟨w.heap.size,0,none⟩) n (grownCap w n 0 85)) (w.drew.alloc (.cells (([]:List Value).toArray++Builtin.zeroCells (.agg #[.int .i64 0,.int .i64 0,.int .i64 0,.int .i64 0,.int .i64 0]:Value).cells n++Builtin.zeroCells (.agg #[.int .i64 0,.int .i64 0,.int .i64 0,.int .i64 0,.int .i64 0]:Value).cells (grownCap w n 0 85-n)) 85)):=fun ty=>by
    have h:=Lib.run_append_grow_zeros w 36 3 ty 85 i0 (.agg #[.int .i64 0,.int .i64 0,.int .i64 0,.int .i64 0,.int .i64 0]:Value) .i64 .i64 Tryz.underlying36 Tryz.underlying3 hi hz0 none 0 0 [] hold n (by omega) (by omega) (by omega) (by omega)
     (by rw [hz2];omega) (by rw [hz2];simp only [Nat.zero_add];exact growslice_fits h0 hn)
    simp only [Nat.zero_add] at h;exact h
   have hGn:n≤grownCap w n 0 85:=grownCap_ge w _ _ _;have hGm:grownCap w n 0 85≤maxLen:=grownCap_le_maxLen w n 0 85 (by unfold maxLen;omega)
   generalize grownCap w n 0 85=G at hrz hGn hGm;have hG63:G≤9223372036854775807:=by unfold maxLen at hGm;omega
   have hcs:(([]:List Value).toArray++Builtin.zeroCells (.agg #[.int .i64 0,.int .i64 0,.int .i64 0,.int .i64 0,.int .i64 0]:Value).cells n++Builtin.zeroCells (.agg #[.int .i64 0,.int .i64 0,.int .i64 0,.int .i64 0,.int .i64 0]:Value).cells (G-n)).size=G*5:=by
    have e:(.agg #[.int .i64 0,.int .i64 0,.int .i64 0,.int .i64 0,.int .i64 0]:Value).cells.size=5:=rfl;simp only [Array.size_append,size_zeroCells,e,List.size_toArray,List.length_nil];omega
   generalize ([]:List Value).toArray++Builtin.zeroCells (.agg #[.int .i64 0,.int .i64 0,.int .i64 0,.int .i64 0,.int .i64 0]:Value).cells n++Builtin.zeroCells (.agg #[.int .i64 0,.int .i64 0,.int .i64 0,.int .i64 0,.int .i64 0]:Value).cells (G-n)=cs at hrz hcs;have HM:=Lib.hid hGm;clear hGm;have HC:=Lib.hid hcs;clear hcs;clear hold;go_enter Tryz.func219,Tryz.ntmps219
   go_wp2_with (at_builtin;refine Lib.wpList_append_run _ rfl _ _ _ _ rfl _ _ rfl rfl _ _ (hrz _) ?_);all_goals
    go_ret;exact ⟨_,G,rfl,World.ownsRow_made w.drew cs G (Nat.le_refl _) HM.out HC.out,(Below.refl _ _).drew.alloc (Nat.le_refl _) _⟩
theorem zhN (SA:Option Addr) (k sc:Nat) (K K':Nat→Prop) (ps:List Part) (w:World) (hk:ps.length=k) (hs:za6 w K 1 SA k (ps.map Part.v))
 (hp:∀ p∈ps,za6 w K' 5 p.A p.n p.xs∧∀ u∈p.xs,u.oneCell'=true) (hn:sumN ps*40≤140737488355328) (hk63:k≤9223372036854775807) :
 Calls Tryz.prog 211 #[.slice SA k sc] w fun e w'=>∃ A' c',e=.returned (.slice A' (sumN ps) c')∧w'.ownsRow w.heap.size 85 5 (.slice A' (sumN ps) c') (sumN ps) (ps.flatMap Part.xs)∧Below w.heap.size w w':=by
 obtain ⟨i0,hi,hz0,hz1,hz2⟩:=info_parts Tryz.infE;subst hk;have HN:=Lib.hid hn;clear hn;go_enter Tryz.func211,Tryz.ntmps211
 go_wp2;go_loop [3,5,11] (fun size _ i=>∃ j:Nat,j≤ps.length∧i=.int .i64 j∧size=.int .i64 (sumN (ps.take j))) (fun _ _ i=>ps.length-(intOf i).toNat)
 case atStart=>exact ⟨0,Nat.zero_le _,rfl,rfl⟩
 case round=>
  obtain ⟨j,hj,rfl,rfl⟩:=hrel;have hle:=zcd ps j;have hle63:sumN (ps.take j)≤140737488355328:=by have:=HN.out;omega
  by_cases hlt:j<ps.length
  · obtain ⟨ad,u,rfl,hbB,hu,hc⟩:=hs.at_ hlt
    simp only [List.getElem?_map,List.getElem?_eq_getElem hlt,Option.map_some,Option.some.injEq] at hu;subst hu;unfold Part.v at hc;have hsn:=zdD ps hlt;have hle':=zcd ps (j+1);have hb2:sumN (ps.take j)+ps[j].n≤140737488355328:=by have:=HN.out;omega
    have hnn:¬((sumN (ps.take j):Int)+(ps[j].n:Int)<0):=by omega
    have HS:=Lib.hid hsn;clear hsn;generalize hP:ps[j]=P0 at hc hb2 hnn;have HP:=Lib.hid hP;clear hP;generalize hS0:sumN (ps.take j)=S0 at hb2 hnn hle hle63 ⊢;have HS0:=Lib.hid hS0;clear hS0;clear hle hle';go_wp2;go_round
    case rel=>exact ⟨j+1,by omega,by go_num,by rw [HS.out,HP.out,HS0.out];go_num⟩
    case measure=>simp [intOf];omega
  · obtain rfl:j=ps.length:=by omega
    have ht:sumN (ps.take ps.length)=sumN ps:=by rw [List.take_length]
    rw [ht] at hle63 ⊢;clear ht hle;generalize hS:sumN ps=S at hle63 ⊢;have HS:=Lib.hid hS;clear hS;go_wp2_with (go_at_call 219;refine (zkH S w (by have:=HN.out;have:=HS.out;omega)).mono ?_;rintro e w1 ⟨A1,c1,rfl,hown1,hb1⟩)
    go_loopw [6,8,27] (fun v _ i wr=>∃ (j:Nat) (A:Option Addr) (c:Nat),j≤ps.length∧i=.int .i64 j∧v=.slice A (sumN (ps.take j)) c∧wr.ownsRow w.heap.size 85 5 (.slice A (sumN (ps.take j)) c) (sumN (ps.take j)) ((ps.take j).flatMap Part.xs)∧Below w.heap.size w wr) (fun _ _ i _=>ps.length-(intOf i).toNat)
    case atStart=>exact ⟨0,A1,c1,Nat.zero_le _,rfl,rfl,hown1,hb1⟩
    case round=>
     obtain ⟨j,A,c,hj,rfl,rfl,hown,hb⟩:=hrel;have hsz:=hb.size;by_cases hlt:j<ps.length
     · obtain ⟨ad,u,rfl,hbB,hu,hc⟩:=(hs.step hb).at_ hlt
       simp only [List.getElem?_map,List.getElem?_eq_getElem hlt,Option.map_some,Option.some.injEq] at hu;subst hu;unfold Part.v at hc;have hsn:=zdD ps hlt;have hle':=zcd ps (j+1);have hxs:=zhz ps hlt;have hb2:(sumN (ps.take j)+ps[j].n)*40≤140737488355328:=by have:=HN.out;rw [←hsn];omega
       have hrp:=(hp ps[j] (List.getElem_mem hlt)).1;have hone:=(hp ps[j] (List.getElem_mem hlt)).2;have HSN:=Lib.hid hsn;clear hsn;have HX:=Lib.hid hxs;clear hxs;generalize hP:ps[j]=P0 at hc hb2 hrp hone;have HP:=Lib.hid hP;clear hP;generalize hS0:sumN (ps.take j)=S0 at hb2 hown ⊢;have HS0:=Lib.hid hS0;clear hS0;generalize hX0:(ps.take j).flatMap Part.xs=X0 at hown;have HX0:=Lib.hid hX0;clear hX0;clear hle';go_wp2_with (at_builtin;refine za5 rfl (.tmp 31) (.tmp 32) _ rfl w.heap.size 85 i0 _ 5 40 Tryz.underlying36 hi hz0 hz1 hz2 rfl (by omega) rfl hown rfl (hrp.step hb) hone (by simp only [maxLen];omega) hb2 hsz ?_;intro A' c' w2 hown2 hg2)
       go_roundw
       case rel=>exact ⟨j+1,A',c',by omega,by go_num,by rw [HSN.out,HP.out,HS0.out],by rw [HSN.out,HX.out,HP.out,HS0.out,HX0.out];exact hown2,hb.trans hg2.below⟩
       case measure=>simp [intOf];omega
     · obtain rfl:j=ps.length:=by omega
       rw [List.take_length,HS.out] at hown ⊢;go_wp2;go_ret;rw [HS.out];exact ⟨A,c,rfl,hown,hb⟩
theorem zhG {l:List Ex} {k:Nat} (hk:k≤l.length):(exLs l).take (k*5)=exLs (l.take k):=by
 conv=>lhs;rw [←List.take_append_drop k l,zaX]
 rw [List.take_append_of_le_length (by rw [zbw,List.length_take];omega),List.take_of_length_le (by rw [zbw,List.length_take];omega)]
theorem zlU {l:List Ex} {k:Nat} (hk:k≤l.length):(exLs l).drop (k*5)=exLs (l.drop k):=by
 conv=>lhs;rw [←List.take_append_drop k l,zaX]
 rw [List.drop_append_of_le_length (by rw [zbw,List.length_take];omega),List.drop_of_length_le (by rw [zbw,List.length_take];omega)]
 rfl
theorem zhE {w:World} {g:Nat} {t:TypeId} {cs:Array Value} (h:Blk w g t cs) {n:Nat} (hn:cs.size=n):za6 w (fun _=>True) 1 (some ⟨g,0,none⟩) n cs.toList:=by
 refine ⟨by simp [hn],fun _=>⟨_,rfl,trivial,fun j u hu=>?_⟩⟩
 have e:((⟨g,0,none⟩:Addr).add j)=⟨g,j,none⟩:=by unfold Addr.add;split <;> simp_all
 rw [e,h.cell];simpa using hu
theorem zdu (g:Nat) (A1 A2 A3:Option Addr) (n1 n2 n3 c1 c2 c3:Nat) (l1 l2 l3:List Ex) (K:Nat→Prop) (w:World)
 (hs:za6 w (fun _=>True) 1 (some ⟨g,0,none⟩) 3 [.slice A1 n1 c1,.slice A2 n2 c2,.slice A3 n3 c3])
 (h1:za6 w K 5 A1 n1 (exLs l1)) (h2:za6 w K 5 A2 n2 (exLs l2)) (h3:za6 w K 5 A3 n3 (exLs l3)) (hn:n1+n2+n3≤3000000000000) :
 Calls Tryz.prog 211 #[.slice (some ⟨g,0,none⟩) 3 3] w fun e w'=>∃ A' c',e=.returned (.slice A' (n1+n2+n3) c') ∧
  w'.ownsRow w.heap.size 85 5 (.slice A' (n1+n2+n3) c') (n1+n2+n3) (exLs (l1++l2++l3))∧Below w.heap.size w w':=by
 have h:=zhN (some ⟨g,0,none⟩) 3 3 (fun _=>True) K [⟨A1,n1,c1,exLs l1⟩,⟨A2,n2,c2,exLs l2⟩,⟨A3,n3,c3,exLs l3⟩] w rfl hs (by
  intro p hp;simp only [List.mem_cons,List.not_mem_nil,or_false] at hp;rcases hp with rfl | rfl | rfl
  · exact ⟨h1,zav l1⟩
  · exact ⟨h2,zav l2⟩
  · exact ⟨h3,zav l3⟩) (by simp [sumN];omega) (by omega)
 have e:sumN [⟨A1,n1,c1,exLs l1⟩,⟨A2,n2,c2,exLs l2⟩,⟨A3,n3,c3,exLs l3⟩]=n1+n2+n3:=by simp [sumN];omega
 rw [e] at h;refine h.mono ?_;rintro x w' ⟨A',c',h4,h5,h6⟩;refine ⟨A',c',h4,?_,h6⟩;rw [zaX,zaX];simpa using h5
def lftB (B:List Ex) (lba:Int):Bool:=match B with
 | []=>false
 | e::_=>decide (e.lba<lba)
def rgtB (B:List Ex) (k:Int):Bool:=match B.getLast? with
 | none=>false
 | some e=>decide (k<endE e)
theorem zoG (B:List Ex) (lba:Int) (h:lftB B lba=true):∃ e,0<B.length∧B[0]?=some e∧e.lba<lba∧leftE B lba=[uptoE e lba]:=by
 cases B with
 | nil=>cases h
 | cons e r=>
   have h1:e.lba<lba:=by simpa [lftB] using h
   exact ⟨e,by simp,rfl,h1,by unfold leftE;simp only;rw [if_pos h1]⟩
theorem zoF (B:List Ex) (lba:Int) (h:lftB B lba=false):leftE B lba=[]∧∀ e,B[0]?=some e→¬e.lba<lba:=by
 cases B with
 | nil=>exact ⟨rfl,fun e he=>by simp at he⟩
 | cons e r=>
   have h1:¬e.lba<lba:=by simpa [lftB] using h
   exact ⟨by unfold leftE;simp only;rw [if_neg h1],fun x hx=>by simp only [List.getElem?_cons_zero,Option.some.injEq] at hx;subst hx;exact h1⟩
theorem znP (B:List Ex) (k:Int) (h:rgtB B k=true):∃ e,0<B.length∧B[B.length-1]?=some e∧k<endE e∧rightE B k=[fromE e k]:=by
 unfold rgtB at h;unfold rightE;rw [←List.getLast?_eq_getElem?];cases hm:B.getLast? with
 | none=>rw [hm] at h;cases h
 | some e=>
   rw [hm] at h;have h1:k<endE e:=by simpa using h
   refine ⟨e,?_,rfl,h1,by simp only;rw [if_pos h1]⟩
   rcases Nat.eq_zero_or_pos B.length with h0 | h0
   · rw [List.eq_nil_of_length_eq_zero h0] at hm;cases hm
   · exact h0
theorem znU (B:List Ex) (k:Int) (h:rgtB B k=false):rightE B k=[]∧∀ e,B[B.length-1]?=some e→¬k<endE e:=by
 unfold rgtB at h;unfold rightE;rw [←List.getLast?_eq_getElem?];cases hm:B.getLast? with
 | none=>exact ⟨rfl,fun e he=>by cases he⟩
 | some e=>
   rw [hm] at h;have h1:¬k<endE e:=by simpa using h
   exact ⟨by simp only;rw [if_neg h1],fun x hx=>by injection hx with hx;subst hx;exact h1⟩
theorem zga (A:Option Addr) (c:Nat) (l:List Ex) (lba n:Int) (Aw:Option Addr) (cw:Nat) (ws:List Ex) (K K2:Nat→Prop) (w:World) (hv:IsL Rp.ex w K (.slice A l.length c) l) (hch:za2 0 l) (hb:za9 lba n)
 (hw:IsL Rp.ex w K2 (.slice Aw ws.length cw) ws) (hwl:ws.length≤1000000) :
 Calls Tryz.prog 192 #[.slice A l.length c,.int .i64 lba,.int .i64 n,.slice Aw ws.length cw] w fun x w'=>
  ∃ Ao co,x=.returned (.slice Ao (replE l lba n ws).length co) ∧
    w'.ownsRow w.heap.size 85 5 (.slice Ao (replE l lba n ws).length co) (replE l lba n ws).length (exLs (replE l lba n ws))∧Below w.heap.size w w':=by
 have hlen:=zby hch;obtain ⟨i0,hi,hz0,hz1,hz2⟩:=info_parts Tryz.infX;have hcp:=fun w hv=>zf7 A c l lba n K w hv hch hb
 have hle:=znv l lba n;have hmid:(l.drop (firstE l lba)).take (midE l lba n).length=midE l lba n:=(List.prefix_iff_eq_take.1 (List.takeWhile_prefix _)).symm;have hmt:∀ t,t<(midE l lba n).length→l[firstE l lba+t]?=(midE l lba n)[t]?:=fun t ht=>by
  conv=>rhs;rw [←hmid]
  rw [List.getElem?_take,if_pos ht,List.getElem?_drop]
 have hmem:=zai hch;have hup:=zcL hch lba n;have hbn:=hb;obtain ⟨b1,b2,b3,b4⟩:=hbn;unfold replE;generalize firstE l lba=f at *;generalize midE l lba n=mid at *;have hL:(leftE mid lba).length≤1:=by unfold leftE;split <;> (try split) <;> simp
 have hR:(rightE mid (lba+n)).length≤1:=by unfold rightE;split <;> (try split) <;> simp
 have hq1t:=zoG mid lba;have hq1f:=zoF mid lba;have hq2t:=znP mid (lba+n);have hq2f:=znU mid (lba+n);generalize lftB mid lba=q1 at *;generalize rgtB mid (lba+n)=q2 at *;generalize leftE mid lba=lf at *;generalize rightE mid (lba+n)=rt at *;have HQ1T:=Lib.hid hq1t;have HQ1F:=Lib.hid hq1f;have HQ2T:=Lib.hid hq2t;have HQ2F:=Lib.hid hq2f;have HMT:=Lib.hid hmt;have HMEM:=Lib.hid hmem;have HUP:=Lib.hid hup;have HV:=Lib.hid hv;clear hq1t hq1f hq2t hq2f hmt hmem hup hmid;obtain ⟨m,hm⟩:∃ m,mid.length=m:=⟨_,rfl⟩;rw [hm] at hle hcp HMT HQ1T HQ2T HQ2F ⊢;have HM:=Lib.hid hm;clear hm;obtain ⟨ln,hln⟩:∃ ln,l.length=ln:=⟨_,rfl⟩;have hrl:(l.take f++(lf++ws++rt)++l.drop (f+m)).length=f+(lf.length+ws.length+rt.length)+(ln-(f+m)):=by
  simp only [List.length_append,List.length_take,List.length_drop];omega
 have htk:(exLs l).take (f*5)=exLs (l.take f):=zhG (by omega)
 have hdr:(exLs l).drop ((f+m)*5)=exLs (l.drop (f+m)):=zlU (by omega)
 rw [hrl];rw [hln] at hlen hv hle hcp ⊢;obtain ⟨k,hk⟩:∃ k,f+m=k:=⟨_,rfl⟩;rw [hk] at hcp hdr hle ⊢;have hfk:f≤k:=by omega
 have HLN:=Lib.hid hln;have HTK:=Lib.hid htk;have HDR:=Lib.hid hdr;have HCP:=Lib.hid hcp;have HK:=Lib.hid hk;clear hln hrl htk hdr hcp hk;obtain ⟨wl,hwl2⟩:∃ wl,ws.length=wl:=⟨_,rfl⟩;rw [hwl2] at hw hwl ⊢;have HWL:=Lib.hid hwl2;clear hwl2 hch;obtain ⟨z1,hz1'⟩:∃ z1,lf.length=z1:=⟨_,rfl⟩;obtain ⟨z2,hz2'⟩:∃ z2,rt.length=z2:=⟨_,rfl⟩;rw [hz1'] at hL ⊢;rw [hz2'] at hR ⊢;have HZ1:=Lib.hid hz1';have HZ2:=Lib.hid hz2';clear hz1' hz2';go_enter Tryz.func192,Tryz.ntmps192
 go_wp2_with fail;refine (HCP.out _ hv).mono ?_;rintro x w2 ⟨Ao,co,rfl,-,hb2⟩;go_upto_region 3 with fail;go_cut [32] (fun x32 wx=>x32=.bool q1∧wx=w2)
 case first=>
  by_cases hm0:m=0
  · subst hm0
    cases q1 with
    | true=>obtain ⟨e,h,_⟩:=HQ1T.out rfl;omega
    | false=>
      obtain rfl:f=k:=by have:=HK.out;omega
      go_wp2;go_meet;exact ⟨rfl,rfl⟩
  obtain ⟨e,he⟩:∃ e,l[f]?=some e:=⟨_,List.getElem?_eq_getElem (by have:=HK.out;rw [HLN.out];omega)⟩
  have hme:mid[0]?=some e:=by rw [←HMT.out 0 (by omega)];exact he
  have hq1:q1=decide (e.lba<lba):=by
   cases q1 with
   | true=>obtain ⟨x,_,h1,h2,_⟩:=HQ1T.out rfl;rw [hme] at h1;injection h1 with h1;subst h1;rw [decide_eq_true h2]
   | false=>exact (decide_eq_false (by have:=(HQ1F.out rfl).2 e hme;omega)).symm
  obtain ⟨ad,rfl,-,c0,c1,c2,c3,c4⟩:=zb9 (HV.out.step hb2) he;have i0':(0:Int)≤(f:Int):=by omega
  have i1':(f:Int)<(ln:Int):=by have:=HK.out;omega
  have i2':(f:Int)<(k:Int):=by have:=HK.out;omega
  have HQ:=Lib.hid hq1;clear hq1 he hme c1 c2 c3 c4;go_wp2;go_meet;exact ⟨by rw [HQ.out],rfl⟩
 case rest=>
  obtain ⟨rfl,rfl⟩:=hcut;go_upto_if 32 with fail
  go_cut [12] (fun x12 wx=>∃ A1 c1,x12=.slice A1 z1 c1∧wx.ownsRow w.heap.size 85 5 (.slice A1 z1 c1) z1 (exLs lf)∧Below w.heap.size w wx)
  case first=>
   cases q1 with
   | false=>
     have hlf:=(HQ1F.out rfl).1;have hz:=HZ1.out;rw [hlf] at hz;have hz':z1=0:=hz.symm;have HLF:=Lib.hid hlf;subst hz';clear hlf hz HQ1F HQ1T HCP;go_wp2;go_meet;exact ⟨none,0,rfl,by rw [HLF.out];exact World.ownsRow_nil _ _ _ _,hb2⟩
   | true=>
     obtain ⟨e,hm0,hme,hel,hlf⟩:=HQ1T.out rfl;have he:l[f]?=some e:=by have:=HMT.out 0 hm0;rw [Nat.add_zero] at this;rw [this];exact hme
     have hz:=HZ1.out;rw [hlf] at hz;have hz':z1=1:=hz.symm;have HLF:=Lib.hid hlf;subst hz';have hem:mayE e:=(HMEM.out e (List.mem_of_getElem? he)).1;obtain ⟨ad,rfl,-,c0,c1,c2,c3,c4⟩:=zb9 (HV.out.step hb2) he;have i0':(0:Int)≤(f:Int):=by omega
     have i1':(f:Int)<(ln:Int):=by have:=HK.out;omega
     clear hlf hz HQ1F HQ1T HCP he hme;go_wp2_with fail;refine (zhI e lba _ hem.ok (by omega)).mono ?_
     rintro x w3 ⟨rfl,hb3⟩;clear c0 c1 c2 c3 c4;have hb4:=hb2.trans (hb3.mono hb2.size);have hs4:=hb4.size;generalize uptoE e lba=y at HLF ⊢;have own4:w3.ownsRow w.heap.size 85 5 (.slice none 0 0) 0 []:=World.ownsRow_nil _ _ _ _;go_wp2_with (at_builtin;refine za5 rfl _ _ _ rfl w.heap.size 85 i0 _ 5 40 Tryz.underlying36 hi hz0 hz1 hz2 rfl (by omega) rfl (own4.alloc _) rfl (za6.new (xs:=exCs (y)) (n:=1) rfl rfl rfl) (by intro u hu;exact zav [y] u (by simpa [exLs] using hu)) (by simp only [maxLen];omega) (by omega) (by simp;omega) ?_;intro A8 c8 w6 own8 hg8)
     go_meet;exact ⟨A8,c8,rfl,by rw [HLF.out];simpa [exLs] using own8,(hb4.alloc hs4 (.cells (exC y) 85)).trans (hg8.below.mono (Nat.le_refl _))⟩
  case rest=>
   obtain ⟨A1,c1,rfl,own1,hb3⟩:=hcut;clear HQ1F HQ1T;have hs3:=hb3.size;have hww:=hw.step hb3;go_upto_region 6 with (at_builtin;refine za5 rfl _ _ _ rfl w.heap.size 85 i0 _ 5 40 Tryz.underlying36 hi hz0 hz1 hz2 rfl (by omega) rfl own1 rfl (zcA hww) (zav ws) (by simp only [maxLen];omega) (by omega) (by omega) ?_;intro A5 c5 w5 own5 hg5)
   have hb5:=hb3.trans (hg5.below.mono (Nat.le_refl _));rw [←zaX] at own5;replace own5:w5.ownsRow w.heap.size 85 5 (.slice A5 (z1+wl) c5) (z1+wl) (exLs (lf++ws)):=own5;have hs5:=hb5.size;clear hg5 hww own1 hb3 hs3;go_cut [59] (fun x59 wx=>x59=.bool q2∧Below w5.heap.size w5 wx)
   case first=>
    by_cases hm0:m=0
    · subst hm0
      cases q2 with
      | true=>obtain ⟨e,h,_⟩:=HQ2T.out rfl;omega
      | false=>
        obtain rfl:f=k:=by have:=HK.out;omega
        go_wp2;go_meet;exact ⟨rfl,Below.refl _ _⟩
    obtain ⟨kp,rfl⟩:∃ kp,k=kp+1:=⟨k-1,by have:=HK.out;omega⟩
    obtain ⟨e,he⟩:∃ e,l[kp]?=some e:=⟨_,List.getElem?_eq_getElem (by rw [HLN.out];omega)⟩
    have hme:mid[m-1]?=some e:=by rw [←HMT.out (m-1) (by omega),show f+(m-1)=kp by have:=HK.out;omega];exact he
    have hq2:q2=decide (lba+n<endE e):=by
     cases q2 with
     | true=>obtain ⟨x,_,h1,h2,_⟩:=HQ2T.out rfl;rw [hme] at h1;injection h1 with h1;subst h1;rw [decide_eq_true h2]
     | false=>exact (decide_eq_false (by have:=(HQ2F.out rfl).2 e hme;omega)).symm
    have hem:mayE e:=(HMEM.out e (List.mem_of_getElem? he)).1;obtain ⟨ad,rfl,-,c0,c1,c2,c3,c4⟩:=zb9 (HV.out.step hb5) he;have i0':(0:Int)≤(kp:Int):=by omega
    have i1':(kp:Int)<(ln:Int):=by omega
    have i2':(f:Int)<(kp:Int)+1:=by have:=HK.out;omega
    have hwk:IntKind.i64.wrap (kp:Int)=kp:=IntWalk.i64_in _ (by omega)
    have HQ:=Lib.hid hq2;have hov:-9223372036854775808≤e.lba+e.n∧e.lba+e.n≤9223372036854775807:=by have:=hem.1;unfold za9 at this;omega
    clear hq2 he hme;go_wp2_with fail;refine (zdH e _ hov).mono ?_;rintro x w7 ⟨rfl,hb7⟩;go_wp2;go_meet;exact ⟨by rw [HQ.out],hb7⟩
   case rest=>
    obtain ⟨rfl,hb6⟩:=hcut;have own6:=za4 own5 hb6 (Nat.le_refl _);replace hb6:=hb5.trans (hb6.mono hs5);go_upto_if 59 with fail
    go_cut [12] (fun x12 wx=>∃ A1 c1,x12=.slice A1 (z1+wl+z2) c1∧wx.ownsRow w.heap.size 85 5 (.slice A1 (z1+wl+z2) c1) (z1+wl+z2) (exLs (lf++ws++rt))∧Below w.heap.size w wx)
    case first=>
     cases q2 with
     | false=>
       have hrt:=(HQ2F.out rfl).1;have hz:=HZ2.out;rw [hrt] at hz;have hz':z2=0:=hz.symm;have HRT:=Lib.hid hrt;subst hz';clear hrt hz HQ2F HQ2T HCP;go_wp2;go_meet;exact ⟨A5,c5,rfl,by rw [HRT.out,List.append_nil];exact own6,hb6⟩
     | true=>
       obtain ⟨e,hm0,hme,hel,hrt⟩:=HQ2T.out rfl;obtain ⟨kp,rfl⟩:∃ kp,k=kp+1:=⟨k-1,by have:=HK.out;omega⟩
       have he:l[kp]?=some e:=by have:=HMT.out (m-1) (by omega);rw [show f+(m-1)=kp by have:=HK.out;omega] at this;rw [this];exact hme
       have hz:=HZ2.out;rw [hrt] at hz;have hz':z2=1:=hz.symm;have HRT:=Lib.hid hrt;subst hz';have hem:mayE e:=(HMEM.out e (List.mem_of_getElem? he)).1;obtain ⟨ad,rfl,-,c0,c1,c2,c3,c4⟩:=zb9 (HV.out.step hb6) he;have i0':(0:Int)≤(kp:Int):=by omega
       have i1':(kp:Int)<(ln:Int):=by omega
       have hwk:IntKind.i64.wrap (kp:Int)=kp:=IntWalk.i64_in _ (by omega)
       clear hrt hz HQ2F HQ2T HCP he hme;go_wp2_with fail;refine (zff e (lba+n) _ hem.ok (by omega)).mono ?_
       rintro x w3 ⟨rfl,hb3⟩;clear c0 c1 c2 c3 c4;have own4:=za4 own6 hb3 (Nat.le_refl _);have hb4:=hb6.trans (hb3.mono hb6.size);have hs4:=hb4.size;generalize fromE e (lba+n)=y at HRT ⊢;go_wp2_with (at_builtin;refine za5 rfl _ _ _ rfl w.heap.size 85 i0 _ 5 40 Tryz.underlying36 hi hz0 hz1 hz2 rfl (by omega) rfl (own4.alloc _) rfl (za6.new (xs:=exCs (y)) (n:=1) rfl rfl rfl) (by intro u hu;exact zav [y] u (by simpa [exLs] using hu)) (by simp only [maxLen];omega) (by omega) (by simp;omega) ?_;intro A8 c8 w6 own8 hg8)
       go_meet;exact ⟨A8,c8,rfl,by rw [HRT.out,zbl];exact own8,(hb4.alloc hs4 (.cells (exC y) 85)).trans (hg8.below.mono (Nat.le_refl _))⟩
    case rest=>
     obtain ⟨A7,c7,rfl,own7,hb7⟩:=hcut;have hs7:=hb7.size;have hlc:ln≤c:=by rw [←HLN.out];exact (hv.open_).2.2.1
     have hc63:c≤9223372036854775807:=(hv.open_).2.2.2.1;have hrd:=zcA (hv.step hb7);have hpre:=hrd.pre (k:=f) (by omega)
     rw [HTK.out] at hpre;have hcut3:=hrd.cut (k:=k) (cap:=c) hle hlc;rw [HDR.out] at hcut3;have hnone:A=none→ln=0:=fun h=>by
      rcases Nat.eq_zero_or_pos ln with h0 | h0
      · exact h0
      · obtain ⟨_,h1,_⟩:=hrd.2 h0
        rw [h] at h1;cases h1
     clear hrd HCP HQ2T HQ2F HMT HMEM HUP HV HTK HDR hw HWL HM;have i0':(0:Int)≤(f:Int):=by omega
     have i1':(f:Int)≤(ln:Int):=by omega
     have i2':(f:Int)≤(c:Int):=by omega
     have i3':(0:Int)≤(k:Int):=by omega
     have i4':(k:Int)≤(ln:Int):=by omega
     have i5':(ln:Int)≤(c:Int):=by omega
     have i6':(k:Int)≤(c:Int):=by omega
     rcases A with _ | ad
     · have hl0:=hnone rfl
       subst hl0;obtain rfl:k=0:=by omega
       obtain rfl:f=0:=by omega
       rw [Option.map_none,ite_self] at hcut3;go_upto_region 8 with fail;have hb0:Below wc.heap.size wc wc.drew:=(Below.refl _ _).drew;refine wp_region_held_drew (S:=fun W=>Below wc.heap.size wc W) (by kernel_rfl) hb0 (fun hHeld=>?_)
       generalize hw0:wc.drew=w0 at hb0 hHeld ⊢;clear hw0;refine wT 0 72 ?_;refine wT 1 73 ?_;refine wT 2 74 ?_;refine wT 3 75 ?_;refine wT 4 76 ?_;refine wT 5 77 ?_;refine wT 6 78 ?_;refine wR 7 79 (fun K hK=>?_)
       go_simp;refine zao (K:=K _) ?_;intro w8 hb8 hB8;replace hb8:=hb0.trans (hb8.mono hb0.size);refine hK.out _ _ hb8 (fun hHeld=>?_)
       clear hK K;try simp only [pu,List.set]
       refine wR 8 80 (fun K hK=>?_)
       go_simp;refine (zdu _ _ _ _ _ _ _ _ _ _ (l.take 0) (lf++ws++rt) (l.drop 0) (fun _=>True) _ (zhE hB8 rfl) ((hpre.step hb8).more fun _ _=>trivial) ((za6.of_own (za4 own7 hb8 (Nat.le_refl _))).more fun _ _=>trivial) ((hcut3.step hb8).more fun _ _=>trivial) (by omega)).mono ?_
       rintro x w9 ⟨A9,c9,rfl,own9,hb9⟩;go_wp2_with fail;refine hK.out _ _ (hb8.trans (hb9.mono hb8.size)) (fun hHeld=>?_)
       clear hK K;refine wT 9 8 ?_;refine wpAnyH_done (by kernel_rfl) ?_ _
       go_wp2;go_ret;have e0:0+(z1+wl+z2)+(0-0)=z1+wl+z2:=by omega
       rw [e0] at own9 ⊢;exact ⟨A9,c9,rfl,zac own9 (by have:=hb8.size;omega),hb7.trans ((hb8.trans (hb9.mono hb8.size)).mono hs7)⟩
     obtain ⟨A3,hA3⟩:∃ A3,(if c=k then some ad else some (ad.add (k*5)))=A3:=⟨_,rfl⟩;rw [show (if c=k then some ad else (some ad:Option Addr).map (·.add (k*5)))=A3 from hA3] at hcut3;clear hnone;go_upto_region 8 with fail;have hb0:Below wc.heap.size wc wc.drew:=(Below.refl _ _).drew;refine wp_region_held_drew (S:=fun W=>Below wc.heap.size wc W) (by kernel_rfl) hb0 (fun hHeld=>?_)
     generalize hw0:wc.drew=w0 at hb0 hHeld ⊢;clear hw0;refine wT 0 72 ?_;refine wT 1 73 ?_;refine wT 2 74 ?_;refine wT 3 75 ?_;refine wT 4 76 ?_;refine wT 5 77 ?_;refine wT 6 78 ?_;refine wR 7 79 (fun K hK=>?_)
     go_simp;refine zao (K:=K _) ?_;intro w8 hb8 hB8;replace hb8:=hb0.trans (hb8.mono hb0.size);refine hK.out _ _ hb8 (fun hHeld=>?_)
     clear hK K;try simp only [pu,List.set]
     refine wR 8 80 (fun K hK=>?_)
     go_simp;refine (zdu _ _ _ _ _ _ _ _ _ _ (l.take f) (lf++ws++rt) (l.drop k) (fun _=>True) _ (zhE hB8 rfl) ((hpre.step hb8).more fun _ _=>trivial) ((za6.of_own (za4 own7 hb8 (Nat.le_refl _))).more fun _ _=>trivial) ((hcut3.step hb8).more fun _ _=>trivial) (by omega)).mono ?_
     rintro x w9 ⟨A9,c9,rfl,own9,hb9⟩;go_wp2_with fail;refine hK.out _ _ (hb8.trans (hb9.mono hb8.size)) (fun hHeld=>?_)
     clear hK K;refine wT 9 8 ?_;refine wpAnyH_done (by kernel_rfl) ?_ _
     go_wp2;go_ret;exact ⟨A9,c9,rfl,zac own9 (by have:=hb8.size;omega),hb7.trans ((hb8.trans (hb9.mono hb8.size)).mono hs7)⟩
theorem zlk (e:Ex) (w:World) (hm:mayE e) :
 Calls Tryz.prog 191 #[exV e] w fun x w'=>x=.returned (.bool false)∧Below w.heap.size w w':=by
 have E:=(Kn.start w).push 85 (exC e);obtain ⟨q0,f0,t0⟩:=E.rules m0;have hd:decide (mayE e)=true:=decide_eq_true hm;go_enter Tryz.func191,Tryz.ntmps191
 go_wp2_with fail;refine (zet e _).mono ?_;rintro x w2 ⟨rfl,hb2⟩;rw [hd];go_wp2;go_ret;exact ⟨rfl,(E.step hb2).below⟩
theorem zm4 (v:Value) (l:List Ex) (K:Nat→Prop) (w:World) (hv:IsL Rp.ex w K v l) (hm:∀ e∈l,mayE e) :
 Calls Tryz.prog 200 #[v,.func (.func 191) #[] #[]] w fun e w'=>e=.returned (.int .i64 (-1))∧Below w.heap.size w w':=by
 have hv0:=hv;obtain ⟨A,c,rfl,hlc,hcc⟩:=hv.form;have hlen:=hv.len;go_enter Tryz.func200,Tryz.ntmps200
 go_wp2_with fail;go_loopw [5,8] (fun x i wr=>∃ j:Nat,i=.int .i64 j∧j≤l.length∧Below w.heap.size w wr∧(∃ y,x=y)) (fun _ i _=>l.length-(intOf i).toNat)
 case atStart=>exact ⟨0,rfl,Nat.zero_le _,Below.refl _ _,_,rfl⟩
 case round=>
  obtain ⟨j,rfl,hj,hb,y,rfl⟩:=hrel;have hsz:=hb.size;by_cases hlt:j<l.length
  · have hje:=List.getElem?_eq_getElem hlt
    have hem:=hm _ (List.getElem_mem hlt);generalize l[j]=e at hje hem;obtain ⟨ad,rfl,-,c0,c1,c2,c3,c4⟩:=zb9 (hv0.step hb) hje;have j1:(j:Int)<(l.length:Int):=by omega
    have j0:(0:Int)≤(j:Int):=by omega
    clear hje;go_wp2_with fail;refine (zlk e _ hem).mono ?_;rintro x w2 ⟨rfl,hb2⟩;clear c0 c1 c2 c3 c4;go_wp2;go_roundw
    case rel=>exact ⟨j+1,by go_num,by omega,hb.trans (hb2.mono hsz),_,rfl⟩
    case measure=>simp [intOf];omega
  · obtain rfl:j=l.length:=by omega
    go_wp2;go_ret;exact ⟨rfl,hb⟩
theorem zld (v:Value) (l:List Ex) (K:Nat→Prop) (w:World) (hv:IsL Rp.ex w K v l) (hm:∀ e∈l,mayE e) :
 Calls Tryz.prog 190 #[v,.func (.func 191) #[] #[]] w fun e w'=>e=.returned (.bool false)∧Below w.heap.size w w':=by
 go_enter Tryz.func190,Tryz.ntmps190
 go_wp2_with fail;refine (zm4 v l K _ hv hm).mono ?_;rintro x w2 ⟨rfl,hb2⟩;go_wp2;go_ret;exact ⟨rfl,hb2⟩
theorem zh7 {l:List Ex} {e:Ex} (h:za2 0 l) (he:mayE e):za2 0 (put1 l e):=zfU h he.pos.2 ⟨he,Int.le_refl _,trivial⟩ (Int.le_refl _)
theorem zcQ:∀ {ws l:List Ex},za2 0 l→(∀ e∈ws,mayE e)→za2 0 (ws.foldl put1 l)
 | [],_,h,_=>h
 | e::_,l,h,hm=>zcQ (l:=put1 l e) (zh7 h (hm e (List.mem_cons_self ..))) fun x hx=>hm x (List.mem_cons_of_mem _ hx)
theorem ziD (A:Option Addr) (c:Nat) (l:List Ex) (Aw:Option Addr) (cw:Nat) (ws:List Ex) (K K2:Nat→Prop) (w:World) (hv:IsL Rp.ex w K (.slice A l.length c) l) (hch:za2 0 l)
 (hw:IsL Rp.ex w K2 (.slice Aw ws.length cw) ws) (hm:∀ e∈ws,mayE e) (hfew:(putE l ws).length≤10000) :
 Calls Tryz.prog 145 #[.slice A l.length c,.slice Aw ws.length cw] w fun x w'=>
  ∃ Ao co,x=.returned (.tuple #[.slice Ao (putE l ws).length co,.int .i64 0]) ∧
    w'.ownsRow w.heap.size 85 5 (.slice Ao (putE l ws).length co) (putE l ws).length (exLs (putE l ws))∧Below w.heap.size w w':=by
 have hc:chkE l=0:=by unfold chkE;rw [if_pos hch]
 have hlen:=hw.len;have HV:=Lib.hid hv;have HW:=Lib.hid hw;have HCH:=Lib.hid hch;have HM:=Lib.hid hm;obtain ⟨pl,hpl⟩:∃ pl,putE l ws=pl:=⟨_,rfl⟩;rw [hpl] at hfew ⊢;have HPL:=Lib.hid hpl;clear hpl hch hm;have hck:=fun w hv=>zaV (.slice A l.length c) l K w hv
 rw [hc] at hck;have HCK:=Lib.hid hck;clear hc hck;go_enter Tryz.func145,Tryz.ntmps145
 go_wp2_with fail;refine (HCK.out _ hv).mono ?_;rintro x w2 ⟨rfl,hb2⟩;go_wp2_with fail;refine (zld _ ws K2 _ (hw.step hb2) HM.out).mono ?_;rintro x w3 ⟨rfl,hb3⟩;replace hb3:=hb2.trans (hb3.mono hb2.size);clear hb2;go_wp2_with fail;go_loopw [0,7,18] (fun x0 x7 i wr=>∃ (j:Nat) (Al:Option Addr) (cl nl:Nat) (ll:List Ex),x0=.slice Al nl cl∧i=.int .i64 j∧j≤ws.length∧Hid (ll=(ws.take j).foldl put1 l∧nl=ll.length)∧(IsL Rp.ex wr (fun b=>K b∨w.heap.size≤b) (.slice Al nl cl) ll)∧Below w.heap.size w wr∧∃ y,x7=y) (fun _ _ i _=>ws.length-(intOf i).toNat)
 case atStart=>exact ⟨0,A,c,l.length,l,rfl,rfl,Nat.zero_le _,Lib.hid ⟨rfl,rfl⟩,(hv.step hb3).more fun _ h=>.inl h,hb3,_,rfl⟩
 case round=>
  obtain ⟨j,Al,cl,nl,ll,rfl,rfl,hj,HL,hll,hb,y,rfl⟩:=hrel;have hsz:=hb.size;by_cases hlt:j<ws.length
  case neg=>
   obtain rfl:j=ws.length:=by omega
   obtain ⟨h1,h2⟩:=HL.out;rw [List.take_length] at h1;have hch:za2 0 ll:=by rw [h1];exact zcQ HCH.out HM.out
   have hjl:joinE ll=pl:=by rw [h1];exact HPL.out
   subst h2;have hcj:=fun w hv=>zeJ Al cl ll (fun b=>K b∨w3.heap.size≤b∨True) w hv hch
   rw [hjl] at hcj;have HCJ:=Lib.hid hcj;clear HL h1 hjl hcj hch;go_wp2_with fail;refine (HCJ.out _ (hll.more fun _ _=>.inr (.inr trivial))).mono ?_
   rintro x w4 ⟨Ao,co,rfl,hown,hb4⟩;have hfew':(pl.length:Int)≤10000:=by omega
   go_wp2;go_ret2;exact ⟨Ao,co,rfl,zac hown hsz,hb.trans (hb4.mono hsz)⟩
  have hje:=List.getElem?_eq_getElem hlt;have hem:=HM.out _ (List.getElem_mem hlt);generalize ws[j]=e at hje hem;obtain ⟨ad,rfl,-,c0,c1,c2,c3,c4⟩:=zb9 ((HW.out.step hb)) hje;obtain ⟨h1,h2⟩:=HL.out;subst h2;have hch:za2 0 ll:=by rw [h1];exact zcQ HCH.out fun x hx=>HM.out x (List.mem_of_mem_take hx)
  have hnx:put1 ll e=(ws.take (j+1)).foldl put1 l:=by rw [zdo ws hje,List.foldl_append,←h1];rfl
  have HNX:=Lib.hid hnx;have HLC:=Lib.hid hch;clear h1 HL hnx hch hje;have j1:(j:Int)<(ws.length:Int):=by omega
  have j0:(0:Int)≤(j:Int):=by omega
  go_wp2_with fail;have hW1:IsL Rp.ex ((wr.alloc (.cells #[.int .i64 e.lba,.int .i64 e.n,.int .i64 e.ver,.int .i64 e.zone,.int .i64 e.off] 85)).alloc (.cells #[.int .i64 e.lba,.int .i64 e.n,.int .i64 e.ver,.int .i64 e.zone,.int .i64 e.off] 85)) (fun _=>True) (.slice (some ⟨wr.heap.size+1,0,none⟩) 1 1) [e]:=
   ⟨_,1,exCs e,rfl,(za6.new (by rw [World.size_alloc]) rfl rfl).more fun _ _=>trivial,zbv.2 (by simp [exLs]),by simp,by omega,by simp⟩
  have hbw:=(hb.alloc hsz (.cells (exC e) 85)).alloc (by rw [World.size_alloc];omega) (.cells (exC e) 85)
  refine (zga Al cl ll e.lba e.n _ 1 [e] _ (fun _=>True) _ ((hll.alloc _).alloc _) HLC.out hem.1 hW1 (by simp)).mono ?_
  rintro x w5 ⟨A5,c5,rfl,own5,hb5⟩;clear c0 c1 c2 c3 c4 hW1;have hL5:=zaA own5 rfl (by have:=zby (zh7 HLC.out hem);unfold put1 at this;omega)
  have hbase:w.heap.size≤((wr.alloc (.cells (exC e) 85)).alloc (.cells (exC e) 85)).heap.size:=by rw [World.size_alloc,World.size_alloc];omega
  have hL6:IsL Rp.ex w5 (fun b=>K b∨w.heap.size≤b) (.slice A5 (put1 ll e).length c5) (put1 ll e):=hL5.more fun b hb=>.inr (Nat.le_trans hbase hb)
  have hb6:=hbw.trans (hb5.mono hbase);clear own5 hL5 hll hbw hb5 hbase;change IsL Rp.ex w5 (fun b=>K b∨w.heap.size≤b) (.slice A5 (replE ll e.lba e.n [e]).length c5) (replE ll e.lba e.n [e]) at hL6
  have HNX2:Hid (replE ll e.lba e.n [e]=(ws.take (j+1)).foldl put1 l):=Lib.hid HNX.out;clear HNX;generalize replE ll e.lba e.n [e]=l2 at *;go_wp2;go_roundw
  case rel=>exact ⟨j+1,A5,c5,l2.length,l2,rfl,by go_num,by omega,Lib.hid ⟨HNX2.out,rfl⟩,hL6,hb6,_,rfl⟩
  case measure=>simp [intOf];omega
end Go.Proofs.YthblkdnijhphhaaGreat
