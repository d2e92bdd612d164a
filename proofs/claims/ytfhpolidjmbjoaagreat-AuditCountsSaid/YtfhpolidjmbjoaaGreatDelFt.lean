/- A part of the proof. -/
import Derived.Test.YtfhpolidjmbjoaaGreatCopyK
import Derived.Test.YtfhpolidjmbjoaaGreatExtWalk
import Derived.Shelf.Abstract
import Derived.BigQuiet
import Derived.Deep.WholeRow
set_option linter.unusedSimpArgs false
set_option maxHeartbeats 4000000
set_option maxRecDepth 100000
namespace Go.Proofs.YtfhpolidjmbjoaaGreat
open Go.RowKit
theorem setRow_turnedT {w:World} {g:Nat} {t:TypeId} {cs cs':Array Value} (hB:Blk w g t cs):(w.setRow g cs').heap.size=w.heap.size∧Turned w (w.setRow g cs') (fun b=>b=g)∧Blk (w.setRow g cs') g t cs':=by
 refine ⟨by simp [World.setRow],⟨rfl,rfl,rfl,by simp [World.setRow],fun k hk hn=>?_⟩,setRow_heap w g cs cs' t (0,0) hB⟩
 unfold World.setRow;simp only [Array.getElem?_modify];rw [if_neg (fun e=>hn e.symm)]
def ftCs (e:Ft):List Value:=[.int .i64 e.kind,.int .i64 e.zone,.int .i64 e.host,.int .i64 e.lba]
def ftLs:List Ft→List Value
 | []=>[]
 | e::l=>ftCs e++ftLs l
theorem ftLs_append (l m:List Ft):ftLs (l++m)=ftLs l++ftLs m:=by
 induction l with
 | nil=>rfl
 | cons e l ih=>simp [ftLs,ih]
theorem ftLs_one (l:List Ft):∀ u∈ftLs l,u.oneCell'=true:=by
 induction l with
 | nil=>simp [ftLs]
 | cons e l ih=>
   intro u hu;rcases List.mem_append.1 hu with hu | hu
   · simp only [ftCs,List.mem_cons,List.not_mem_nil,or_false] at hu
     rcases hu with rfl | rfl | rfl | rfl <;> rfl
   · exact ih u hu
theorem ft_cells {w:World} {K:Nat→Prop} {cs:List Value} {l:List Ft}:CellsL Rp.ft w K cs l↔cs=ftLs l:=by
 induction l generalizing cs with
 | nil=>exact ⟨fun h=>List.eq_nil_of_length_eq_zero (by have:=h.len;simpa using this),fun h=>by subst h;rfl⟩
 | cons e l ih=>
   constructor
   · rintro ⟨a,b,rfl,ha,hb⟩
     rw [ih.1 hb,show a=ftCs e from ha];rfl
   · rintro rfl
     exact ⟨ftCs e,ftLs l,rfl,rfl,ih.2 rfl⟩
theorem own_ftL {w:World} {base:Nat} {A:Option Addr} {n c:Nat} {l:List Ft} (h:w.ownsRow base 28 4 (.slice A n c) n (ftLs l)) (hn:l.length=n) (hl:n≤140737488355328):IsL Rp.ft w (fun b=>base≤b) (.slice A n c) l:=by
 subst hn;exact ⟨A,c,ftLs l,rfl,Reads.of_own_ge h,ft_cells.2 rfl,own_cap h,own_cap63 h,hl⟩
theorem ftL_reads {w:World} {K:Nat→Prop} {A:Option Addr} {n c:Nat} {l:List Ft} (h:IsL Rp.ft w K (.slice A n c) l):Reads w K 4 A n (ftLs l):=by
 obtain ⟨hn,⟨cs,hr,hc⟩,_⟩:=h.open_;rw [ft_cells.1 hc] at hr;rw [hn];exact hr
theorem ftLs_len (l:List Ft):(ftLs l).length=l.length*4:=by
 induction l with
 | nil=>rfl
 | cons e l ih=>simp only [ftLs,List.length_append,ih,List.length_cons,ftCs,List.length_nil];omega
theorem ftLs_take {l:List Ft} {k:Nat} (hk:k≤l.length):(ftLs l).take (k*4)=ftLs (l.take k):=by
 conv=>lhs;rw [←List.take_append_drop k l,ftLs_append]
 rw [List.take_append_of_le_length (by rw [ftLs_len,List.length_take];omega),List.take_of_length_le (by rw [ftLs_len,List.length_take];omega)]
theorem ixT_any (g:Nat) (eg:∀ args w,(callFunc g args).run Tryz.prog w=.ok (.enter g args) w) (cap:Array Value) (p:Ft→Bool) (A:Option Addr) (c:Nat) (l:List Ft) (K:Nat→Prop) (w:World) (hv:IsL Rp.ft w K (.slice A l.length c) l)
 (hp:∀ W e,Below w.heap.size w W→e∈l→Calls Tryz.prog g (#[.agg #[.int .i64 e.kind,.int .i64 e.zone,.int .i64 e.host,.int .i64 e.lba]]++cap) W fun r W'=>r=.returned (.bool (p e))∧Below W.heap.size W W') :
 Calls Tryz.prog 33 #[.slice A l.length c,.func (.func g) #[] cap] w fun r w'=>r=.returned (.int .i64 (if l.findIdx p<l.length then (l.findIdx p:Int) else -1))∧Below w.heap.size w w':=by
 have hlen:=hv.len;obtain ⟨n,hn⟩:∃ n,l.length=n:=⟨_,rfl⟩;rw [hn] at hv hlen ⊢;obtain ⟨q,hq⟩:∃ q,l.findIdx p=q:=⟨_,rfl⟩;rw [hq];have HN:=Lib.hid hn;have HQ:=Lib.hid hq;obtain ⟨res,hres⟩:∃ res,(if q<n then (q:Int) else -1)=res:=⟨_,rfl⟩;rw [hres];have HRES:=Lib.hid hres;clear hn hq hres;have E:=(Kn.start w).give Stable.list hv;go_enter Tryz.func33,Tryz.ntmps33
 go_wp2_with fail;go_loopw [5,8] (fun x i wr=>∃ j:Nat,i=.int .i64 j∧j≤n∧Hid (∀ k e,k<j→l[k]?=some e→p e=false)∧Below w.heap.size w wr∧(∃ y,x=y)) (fun _ i _=>n-(intOf i).toNat)
 case atStart=>exact ⟨0,rfl,Nat.zero_le _,Lib.hid fun k e hk=>by omega,Below.refl _ _,_,rfl⟩
 case round=>
  obtain ⟨j,rfl,hj,HI,hb,y,rfl⟩:=hrel;have hsz:=hb.size;have F:=E.step hb;by_cases hlt:j<n
  · have hlt':j<l.length:=by rw [HN.out];exact hlt
    have hje:l[j]?=some l[j]:=List.getElem?_eq_getElem hlt';obtain ⟨ad,rfl,-,c0,c1,c2,c3⟩:=ft_at (F.get m0) hje;have hp1:=hp wr _ hb (List.getElem_mem hlt');have HJ:=Lib.hid hje;generalize l[j]=e at HJ c0 c1 c2 c3 hp1;have j1:(j:Int)<(n:Int):=by omega
    have j0:(0:Int)≤(j:Int):=by omega
    clear hje hlt';have hp2:Calls Tryz.prog g (#[.agg #[.int .i64 e.kind,.int .i64 e.zone,.int .i64 e.host,.int .i64 e.lba]]++cap) wr fun r W'=>r=.returned (.bool (p e))∧Below wr.heap.size wr W'∧True:=hp1.mono fun _ _ h=>⟨h.1,h.2,trivial⟩
    clear hp1;cases hfr:p e with
    | true=>
      rw [hfr] at hp2;have hpj:q=j:=by
       rw [←HQ.out,List.findIdx_eq (by rw [HN.out];exact hlt)]
       have hje:=HJ.out;obtain ⟨hlt',e1⟩:=List.getElem?_eq_some_iff.1 hje;refine ⟨by rw [e1];exact hfr,fun k hk=>?_⟩
       have:=HI.out k _ hk (List.getElem?_eq_getElem (by omega))
       rw [this]
      have hr:res=(j:Int):=by rw [←HRES.out,hpj,if_pos hlt]
      subst hr;clear hpj hfr;go_wp2_with (go_at_fn g;refine hp2.mono ?_;rintro x w2 ⟨rfl,hb2,-⟩;clear hp2 c0 c1 c2 c3);go_ret;exact ⟨rfl,hb.trans (hb2.mono hsz)⟩
    | false=>
      rw [hfr] at hp2;have HI2:Hid (∀ k e,k<j+1→l[k]?=some e→p e=false):=Lib.hid fun k x hk hx=>by
       by_cases hkj:k=j
       · subst hkj
         rw [HJ.out] at hx;injection hx with hx;subst hx;exact hfr
       · exact HI.out k x (by omega) hx
      clear hfr;go_wp2_with (go_at_fn g;refine hp2.mono ?_;rintro x w2 ⟨rfl,hb2,-⟩;clear hp2 c0 c1 c2 c3);go_roundw
      case rel=>exact ⟨j+1,by go_num,by omega,HI2,hb.trans (hb2.mono hsz),_,rfl⟩
      case measure=>simp [intOf];omega
  · have hj':j=n:=by omega
    subst hj';have hr:res = -1:=by
     rw [←HRES.out];refine if_neg fun hq=>?_
     rw [←HQ.out,←HN.out] at hq;have h2:p (l[l.findIdx p])=true:=List.findIdx_getElem;have h3:=HI.out _ _ (by rw [←HN.out];exact hq) (List.getElem?_eq_getElem hq)
     rw [h2] at h3;cases h3
    subst hr;go_wp2;go_ret;exact ⟨rfl,hb⟩
theorem run_clear_rowT {P:Program} (w:World) (t e:TypeId) (z:Value) (k g o n:Nat) (cur:Array Value) (te:TypeId) (ht:P.underlying t=some (.slice e)) (hv:(zeroValue e).run P w=.ok z w) (hz:z.cells.size=k)
 (h1:∀ v∈z.cells,v.oneCell'=true) (hk:0<k) (hg:w.heap[g]?=some (.cells cur te (0,0))) (hn:0<n) (hfit:o+n*k≤cur.size) :
 ∃ cs:List Value,cs.length=n*k∧∀ ty c,(Builtin.clear_ #[t] ty #[.slice (some ⟨g,o,none⟩) n c]).run P w=.ok (.tuple #[]) (w.setRow g (cur.toList.take o++cs++cur.toList.drop (o+n*k)).toArray):=by
 refine ⟨(Builtin.zeroCells z.cells n).toList,by simp [Builtin.zeroCells,hz],fun ty c=>?_⟩
 have hl:(Builtin.zeroCells z.cells n).toList.length=n*k:=by simp [Builtin.zeroCells,hz]
 have hst:=run_storeCells_at (P:=P) g o te (Builtin.zeroCells z.cells n).toList 0 cur w hg (by rw [hl];simpa using hfit) (by
  intro v hv';simp only [Builtin.zeroCells,Array.toList_map,List.mem_map] at hv';obtain ⟨i,-,rfl⟩:=hv';have hi:i % z.cells.size<z.cells.size:=Nat.mod_lt _ (by omega)
  rw [getElem!_pos z.cells _ hi];exact h1 _ (Array.getElem_mem hi))
 rw [Nat.add_zero,hl] at hst;obtain ⟨m,rfl⟩:∃ m,n=m+1:=⟨n-1,by omega⟩
 simp [Builtin.clear_,run_underlying ht,hv,hst]
theorem own_cutRowT {w:World} {base g:Nat} {e te:TypeId} {size n c i:Nat} {xs cs:List Value} {cur:Array Value} (h:w.ownsRow base e size (.slice (some ⟨g,0,none⟩) n c) n xs) (hg:w.heap[g]?=some (.cells cur te (0,0))) (hi:i≤n)
 (hcs:cs.length=(n-i)*size):(w.setRow g (cur.toList.take (i*size)++cs++cur.toList.drop (i*size+(n-i)*size)).toArray).ownsRow base e size (.slice (some ⟨g,0,none⟩) i c) i (xs.take (i*size)):=by
 have hm:i*size+(n-i)*size=n*size:=by rw [←Nat.add_mul,Nat.add_sub_cancel' hi]
 have hle:i*size≤n*size:=Nat.mul_le_mul_right _ hi;refine ⟨by rw [List.length_take,h.1,Nat.min_eq_left hle],?_⟩
 rcases h.2 with ⟨h2,_⟩ | ⟨g',cap,cur',hv,hb,hh,h3,h4,h5,h6⟩
 · cases h2
 · injection hv with e1 e2 e3
   injection e1 with e1;injection e1 with e1 _ _;subst e1 e3;rw [hg] at hh;injection hh with hh;injection hh with hh1 hh2 hh3;subst hh1 hh2;have hcl:cur.toList.length=c*size:=by simpa using h5
   have hnc:n*size≤c*size:=Nat.mul_le_mul_right _ h3;refine .inr ⟨g,c,_,rfl,hb,setRow_heap w g cur _ te (0,0) hg,by omega,h4,?_,?_⟩
   · simp only [List.size_toArray,List.length_append,List.length_take,List.length_drop,hcl,hcs];omega
   · rw [List.append_assoc,List.take_append_of_le_length (by rw [List.length_take,hcl];omega),List.take_of_length_le (by rw [List.length_take];omega),←h6,List.take_take,Nat.min_eq_left hle]
structure DelT (p:Ft→Bool) (l L:List Ft) (n i j:Nat):Prop where
 len:L.length=n
 le:i<j
 take:L.take i=(l.take j).filter (fun e=>!p e)
 drop:L.drop j=l.drop j
theorem DelT.start {p:Ft→Bool} {l:List Ft} {n q:Nat} (hn:l.length=n) (hq:l.findIdx p=q) (hlt:q<n):DelT p l l n q (q+1):=by
 subst hn hq;refine ⟨rfl,Nat.lt_succ_self _,?_,rfl⟩;rw [List.take_add_one,List.filter_append,List.getElem?_eq_getElem hlt];have h1:p (l[l.findIdx p])=true:=List.findIdx_getElem;simp only [Option.toList,List.filter_cons,h1,Bool.not_true,List.filter_nil,Bool.false_eq_true,if_false,List.append_nil];refine (List.filter_eq_self.2 fun e he=>?_).symm
 obtain ⟨k,hk,rfl⟩:=List.mem_iff_getElem.1 he;rw [List.length_take] at hk;have hk2:k<l.findIdx p:=by omega
 rw [List.getElem_take,List.not_of_lt_findIdx hk2];rfl
theorem DelT.all {p:Ft→Bool} {l:List Ft} {n q:Nat} (hn:l.length=n) (hq:l.findIdx p=q) (hlt:¬q<n):l.filter (fun e=>!p e)=l:=by
 subst hn hq;refine List.filter_eq_self.2 fun e he=>?_
 cases h:p e with
 | false=>rfl
 | true=>exact absurd (List.findIdx_lt_length.2 ⟨e,he,h⟩) hlt
theorem DelT.at_ {p:Ft→Bool} {l L:List Ft} {n i j:Nat} (h:DelT p l L n i j) (hj:j<n) (hl:l.length=n):∃ e,L[j]?=some e∧l[j]?=some e:=by
 refine ⟨l[j]'(by omega),?_,List.getElem?_eq_getElem _⟩
 have:=congrArg (fun x=>x[0]?) h.drop
 simp only [List.getElem?_drop,Nat.add_zero] at this;rw [this,List.getElem?_eq_getElem (by omega)]
theorem DelT.out {p:Ft→Bool} {l L:List Ft} {n i j:Nat} {e:Ft} (h:DelT p l L n i j) (he:l[j]?=some e) (hp:p e=true):DelT p l L n i (j+1):=by
 refine ⟨h.len,Nat.lt_succ_of_lt h.le,?_,?_⟩
 · rw [List.take_add_one,List.filter_append,he,h.take]
   simp [hp]
 · have:=congrArg (List.drop 1) h.drop
   simpa only [List.drop_drop] using this
theorem DelT.stay {p:Ft→Bool} {l L:List Ft} {n i j:Nat} {e:Ft} (h:DelT p l L n i j) (hj:j<n) (he:l[j]?=some e) (hp:p e=false):DelT p l (L.set i e) n (i+1) (j+1):=by
 have hi:=h.le;have hl:=h.len;refine ⟨by rw [List.length_set];exact h.len,Nat.succ_lt_succ h.le,?_,?_⟩
 · rw [List.take_add_one (l:=l),List.filter_append,he,←h.take,List.take_add_one,List.take_set_of_le (Nat.le_refl _),List.getElem?_set_self (by omega)]
   simp [hp]
 · have:=congrArg (List.drop 1) h.drop
   rw [List.drop_set_of_lt (by omega)]
   simpa only [List.drop_drop] using this
theorem ftLs_set4:∀ (L:List Ft) (i:Nat) (e:Ft),i<L.length→ftLs (L.set i e)=((((ftLs L).set (i*4) (.int .i64 e.kind)).set (i*4+1) (.int .i64 e.zone)).set (i*4+2) (.int .i64 e.host)).set (i*4+3) (.int .i64 e.lba)
 | [],_,_,h=>absurd h (Nat.not_lt_zero _)
 | x::L,0,e,_=>rfl
 | x::L,i+1,e,h=>by
   have h1:=ftLs_set4 L i e (by simpa using h)
   have h2:∀ (v:Value) (m:Nat) (R:List Value),((ftCs x)++R).set ((i+1)*4+m) v=ftCs x++R.set (i*4+m) v:=fun v m R=>by
    rw [List.set_append_right _ _ (by simp [ftCs];omega)]
    congr 2
    simp [ftCs];omega
   show ftCs x++ftLs (L.set i e)=_;rw [h1];show _=(((((ftCs x++ftLs L).set _ _).set _ _).set _ _).set _ _);have h0:=h2 (.int .i64 e.kind) 0 (ftLs L);simp only [Nat.add_zero] at h0;rw [h0,h2,h2,h2]
theorem delT_any (gf:Nat) (eg:∀ args w,(callFunc gf args).run Tryz.prog w=.ok (.enter gf args) w) (cap:Array Value) (p:Ft→Bool) (base c:Nat) (A:Option Addr) (l:List Ft) (w:World) (hv:w.ownsRow base 28 4 (.slice A l.length c) l.length (ftLs l))
 (hl47:l.length≤140737488355328) (hp:∀ W e,Turned w W (fun b=>some b=(Value.slice A l.length c).ownBlock)→e∈l→Calls Tryz.prog gf (#[.agg #[.int .i64 e.kind,.int .i64 e.zone,.int .i64 e.host,.int .i64 e.lba]]++cap) W fun r W'=>r=.returned (.bool (p e))∧Below W.heap.size W W') :
 Calls Tryz.prog 12 #[.slice A l.length c,.func (.func gf) #[] cap] w fun r w'=>∃ l',l'=l.filter (fun e=>!p e)∧r=.returned (.slice A l'.length c)∧w'.ownsRow base 28 4 (.slice A l'.length c) l'.length (ftLs l')∧Turned w w' (fun b=>some b=(Value.slice A l.length c).ownBlock):=by
 have hix:=ixT_any gf eg cap p _ c l _ w (own_ftL hv rfl hl47) (fun W e hb he=>hp W e (Turned.of hb) he)
 obtain ⟨n,hn⟩:∃ n,l.length=n:=⟨_,rfl⟩;obtain ⟨q,hq⟩:∃ q,l.findIdx p=q:=⟨_,rfl⟩;have hqn:q≤n:=by rw [←hq,←hn];exact List.findIdx_le_length
 obtain ⟨l',hl'⟩:∃ l',l.filter (fun e=>!p e)=l':=⟨_,rfl⟩
 rw [hl'];rw [hn,hq] at hix;rw [hn] at hv hl47 hp ⊢;have HN:=Lib.hid hn;have HQ:=Lib.hid hq;have HL:=Lib.hid hl';clear hn hq hl';by_cases hlt:q<n
 case neg=>
  have hqe:q=n:=by omega
  have hall:=DelT.all HN.out HQ.out hlt;rw [HL.out] at hall;subst hall;rw [if_neg hlt] at hix;go_enter Tryz.func12,Tryz.ntmps12
  go_wp2_with (first | (refine hix.mono ?_;rintro x w1 ⟨rfl,hb1⟩;clear hix))
  go_ret;exact ⟨_,rfl,by rw [HN.out];rfl,by rw [HN.out];exact own_below hv hb1 (Nat.le_refl _),Turned.of hb1⟩
 obtain ⟨g,-,hA,-,-,-⟩:=own_row hv (by omega)
 subst hA;replace hp:∀ W e,Turned w W (fun b=>b=g)→e∈l→Calls Tryz.prog gf (#[.agg #[.int .i64 e.kind,.int .i64 e.zone,.int .i64 e.host,.int .i64 e.lba]]++cap) W fun r W'=>r=.returned (.bool (p e))∧Below W.heap.size W W':=fun W e ht he=>hp W e (ht.mono fun k hk=>by rw [hk];rfl) he
 refine Calls.mono (R:=fun r w'=>∃ l'',l''=l'∧r=.returned (.slice (some ⟨g,0,none⟩) l''.length c)∧w'.ownsRow base 28 4 (.slice (some ⟨g,0,none⟩) l''.length c) l''.length (ftLs l'')∧Turned w w' (fun b=>b=g)) ?_ ?_
 case refine_2=>
  rintro r w' ⟨l'',h1,h2,h3,h4⟩;exact ⟨l'',h1,h2,h3,h4.mono fun k hk=>by rw [hk];rfl⟩
 go_enter Tryz.func12,Tryz.ntmps12
 · rw [if_pos hlt] at hix
   go_wp2_with (first | (refine hix.mono ?_;rintro x w1 ⟨rfl,hb1⟩;clear hix))
   have hv1:=own_below hv hb1 (Nat.le_refl _);have hD:=DelT.start HN.out HQ.out hlt;have ht1:Turned w w1 (fun b=>b=g):=Turned.of hb1
   clear hv;have hq1:((q:Int) == -1)=false:=beq_eq_false_iff_ne.2 (by omega)
   rw [hq1];clear hq1;go_loopw [5,6] (fun x y wr=>∃ i j:Nat,x=.int .i64 i∧y=.int .i64 j∧j≤n∧∃ L,Hid (DelT p l L n i j)∧wr.ownsRow base 28 4 (.slice (some ⟨g,0,none⟩) n c) n (ftLs L)∧Turned w wr (fun b=>b=g)) (fun _ y _=>n-(intOf y).toNat)
   case atStart=>exact ⟨q,q+1,rfl,rfl,hlt,l,Lib.hid hD,hv1,ht1⟩
   case round=>
    obtain ⟨i,j,rfl,rfl,hj,L,HD,hvr,htr⟩:=hrel;by_cases hlt2:j<n
    · obtain ⟨e,hLe,hle⟩:=HD.out.at_ hlt2 HN.out
      have hIL:=own_ftL hvr HD.out.len hl47;obtain ⟨ad,had,-,c0,c1,c2,c3⟩:=ft_at hIL hLe;injection had with had;subst had;have hadd:(⟨g,0,none⟩:Addr).add (j*4)=⟨g,j*4,none⟩:=by unfold Addr.add;split <;> simp_all
      rw [hadd] at c0 c1 c2 c3;clear hadd;replace c1:wr.cell? ⟨g,j*4+1,none⟩=_:=c1;replace c2:wr.cell? ⟨g,j*4+2,none⟩=_:=c2;replace c3:wr.cell? ⟨g,j*4+3,none⟩=_:=c3;have j1:(j:Int)<(n:Int):=by omega
      have j0:(0:Int)≤(j:Int):=by omega
      have hp1:=fun W ht=>hp W e ht (List.mem_of_getElem? hle)
      go_wp2_with fail;refine (hp1 _ (htr.alloc _)).mono ?_;rintro x w3 ⟨rfl,hb3⟩;have hbB:Below wr.heap.size wr w3:=((Below.refl _ _).alloc (Nat.le_refl _) _).trans (hb3.mono (by rw [World.size_alloc];omega))
      have hBv:=(Blk.new wr 28 #[.int .i64 e.kind,.int .i64 e.zone,.int .i64 e.host,.int .i64 e.lba] rfl).step hb3;have ht3:Turned w w3 (fun b=>b=g):=htr.step hbB
      have own3:=own_below hvr hbB (Nat.le_refl _);clear c0 c1 c2 c3 hp1 hb3 hIL hvr htr;cases hpe:p e with
      | true=>
        have HD2:Hid (DelT p l L n i (j+1)):=Lib.hid (HD.out.out hle hpe);clear hLe hle hpe hBv;go_wp2;go_roundw
        case rel=>exact ⟨i,j+1,rfl,by go_num,by omega,L,HD2,own3,ht3⟩
        case measure=>simp [intOf];omega
      | false=>
        have hile:i<n:=by have:=HD.out.le;omega
        have HD2:Hid (DelT p l (L.set i e) n (i+1) (j+1)):=Lib.hid (HD.out.stay hlt2 hle hpe);have hX:=ftLs_set4 L i e (by rw [HD.out.len];omega)
        have HX:=Lib.hid hX;obtain ⟨g',cur,hA,-,hB3,hcur⟩:=own_row own3 (by omega)
        injection hA with hA;injection hA with hA;subst hA;have hcl:∀ k,k<4→∃ u,w3.cell? ⟨g,i*4+k,none⟩=some u:=fun k hk=>by
         have h5:i*4+k<(ftLs L).length:=by rw [ftLs_len,HD.out.len];omega
         exact ⟨_,(hB3.cell _).trans (hcur _ _ (List.getElem?_eq_getElem h5))⟩
        obtain ⟨u0,e0⟩:=hcl 0 (by omega)
        obtain ⟨u1,e1⟩:=hcl 1 (by omega)
        obtain ⟨u2,e2⟩:=hcl 2 (by omega)
        obtain ⟨u3,e3⟩:=hcl 3 (by omega)
        rw [Nat.add_zero] at e0;have f0:=hB3.frozen;obtain ⟨b0,b1⟩:=hBv.rules;have i1:(i:Int)<(n:Int):=by omega
        have i0:(0:Int)≤(i:Int):=by omega
        clear hLe hle hpe hcur hX hcl hBv hB3;go_wp2_with fail;go_roundw
        case rel=>
         refine ⟨i+1,j+1,by go_num,by go_num,by omega,L.set i e,HD2,?_,?_⟩
         · rw [HX.out]
           exact own_setN (own_setN (own_setN (own_setN own3 _ _) _ _) _ _) _ _
         · exact (((ht3.set rfl _ _).set rfl _ _).set rfl _ _).set rfl _ _
        case measure=>simp [intOf];omega
    · have hjn:j=n:=by omega
      have hile:i<n:=by have:=HD.out.le;omega
      have hli:L.take i=l':=by rw [HD.out.take,hjn,←HN.out,List.take_length];exact HL.out
      have hil:l'.length=i:=by rw [←hli,List.length_take,HD.out.len];omega
      obtain ⟨g',cur,hA,-,hB3,-⟩:=own_row hvr (by omega)
      injection hA with hA;injection hA with hA;subst hA;have hcs:cur.size=c*4:=by
       rcases hvr.2 with ⟨h2,_⟩ | ⟨g',cap,cur',hv,hb,hh,h3,h4,h5,h6⟩
       · cases h2
       · injection hv with e1 e2 e3
         injection e1 with e1;injection e1 with e1 _ _;subst e1 e3;have hB4:wr.heap[g]?=_:=hB3;rw [hB4] at hh;injection hh with hh;injection hh with hh1 hh2 hh3;subst hh1;exact h5
      have hnc:=own_cap hvr;obtain ⟨cs,hcl,hcr⟩:∃ cs:List Value,cs.length=(n-i)*4∧∀ ty c',(Builtin.clear_ #[22] ty #[.slice (some ⟨g,i*4,none⟩) (n-i) c']).run Tryz.prog wr=.ok (.tuple #[]) (wr.setRow g (cur.toList.take (i*4)++cs++cur.toList.drop (i*4+(n-i)*4)).toArray):=by
       exact run_clear_rowT (P:=Tryz.prog) wr 22 28 (.agg #[.int .i64 0,.int .i64 0,.int .i64 0,.int .i64 0]) 4 g (i*4) (n-i) cur _ rfl rfl rfl (by decide) (by omega) hB3 (by omega) (by omega)
      have hown:=own_cutRowT hvr hB3 (Nat.le_of_lt hile) hcl;have hset:=setRow_turnedT hB3 (cs':=(cur.toList.take (i*4)++cs++cur.toList.drop (i*4+(n-i)*4)).toArray);generalize wr.setRow g (cur.toList.take (i*4)++cs++cur.toList.drop (i*4+(n-i)*4)).toArray=w9 at hcr hown hset;rw [ftLs_take (by rw [HD.out.len];omega),hli] at hown
      go_wp2_with fail;go_ret;exact ⟨rfl,hown,htr.trans hset.2.1⟩
end Go.Proofs.YtfhpolidjmbjoaaGreat
