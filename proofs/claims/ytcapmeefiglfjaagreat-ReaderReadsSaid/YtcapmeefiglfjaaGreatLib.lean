/- A part of the proof. -/
import Derived.WalkSpells
import Derived.WalkLawsBesides
import Derived.Lib.Hide
import Derived.Deep.AppendLies
import Derived.Lib.SlBytesConst
import Derived.ProofKit
import Derived.OpenShut
import Derived.Deep.Slices
import Derived.Deep.RegionLaw
namespace Go.Proofs.YtcapmeefiglfjaaGreat
open Go.RowKit
theorem zia:type_of% @Lib.hid:=@Lib.hid
theorem zib:type_of% @List.getElem?_eq_getElem:=@List.getElem?_eq_getElem
theorem zic:type_of% @Nat.le_refl:=@Nat.le_refl
theorem zid:type_of% @World.size_alloc:=@World.size_alloc
theorem zie:type_of% @List.length_append:=@List.length_append
theorem zif:type_of% @Below.refl:=@Below.refl
theorem zig:type_of% @if_neg:=@if_neg
theorem zih:type_of% @List.mem_cons_self:=@List.mem_cons_self
theorem zii:type_of% @List.mem_cons_of_mem:=@List.mem_cons_of_mem
theorem zij:type_of% @if_pos:=@if_pos
theorem zik:type_of% @bodyPost_ret:=@bodyPost_ret
theorem zil:type_of% @List.getElem?_eq_some_iff:=@List.getElem?_eq_some_iff
theorem zim:type_of% @List.mem_cons:=@List.mem_cons
theorem zin:type_of% @World.ownsRow_nil:=@World.ownsRow_nil
theorem zio:type_of% @List.length_take:=@List.length_take
theorem zip:type_of% @List.take_of_length_le:=@List.take_of_length_le
theorem ziq:type_of% @List.append_assoc:=@List.append_assoc
theorem zir:type_of% @Nat.zero_le:=@Nat.zero_le
theorem zis:type_of% @List.eq_nil_of_length_eq_zero:=@List.eq_nil_of_length_eq_zero
theorem zit:type_of% @Nat.le_trans:=@Nat.le_trans
theorem ziu:type_of% @decide_eq_true:=@decide_eq_true
theorem ziv:type_of% @decide_eq_false:=@decide_eq_false
theorem ziw:type_of% @List.mem_singleton:=@List.mem_singleton
theorem zix:type_of% @List.mem_of_getElem?:=@List.mem_of_getElem?
theorem ziy:type_of% @List.take_succ_eq_append_getElem:=@List.take_succ_eq_append_getElem
theorem ziz:type_of% @List.append_nil:=@List.append_nil
theorem ziA:type_of% @List.mem_append:=@List.mem_append
theorem ziB:type_of% @World.block_lt_of_cell?:=@World.block_lt_of_cell?
theorem ziC:type_of% @List.length_replicate:=@List.length_replicate
theorem ziD:type_of% @List.getElem_mem:=@List.getElem_mem
theorem ziE:type_of% @Nat.lt_of_lt_of_le:=@Nat.lt_of_lt_of_le
theorem ziF:type_of% @List.getD_eq_getElem?_getD:=@List.getD_eq_getElem?_getD
theorem ziG:type_of% @List.length_drop:=@List.length_drop
theorem ziH:type_of% @info_parts:=@info_parts
theorem ziI:type_of% @IntWalk.i64_in:=@IntWalk.i64_in
theorem ziJ:type_of% @List.not_mem_nil:=@List.not_mem_nil
theorem ziK:type_of% @run_underlying:=@run_underlying
theorem ziL:type_of% @Option.some.injEq:=@Option.some.injEq
theorem ziM:type_of% @decide_eq_true_eq:=@decide_eq_true_eq
theorem ziN:type_of% @beq_eq_false_iff_ne:=@beq_eq_false_iff_ne
theorem ziO:type_of% @List.size_toArray:=@List.size_toArray
theorem ziP:type_of% @List.take_append_drop:=@List.take_append_drop
theorem ziQ:type_of% @List.take_length:=@List.take_length
theorem ziR:type_of% @List.mem_append_right:=@List.mem_append_right
theorem ziS:type_of% @List.flatMap_append:=@List.flatMap_append
theorem ziT:type_of% @Decidable.not_not:=@Decidable.not_not
theorem ziU:type_of% @Array.getElem?_toList:=@Array.getElem?_toList
theorem ziV:type_of% @Nat.eq_zero_or_pos:=@Nat.eq_zero_or_pos
theorem ziW:type_of% @List.take_append_of_le_length:=@List.take_append_of_le_length
theorem ziX:type_of% @List.getElem?_eq_none:=@List.getElem?_eq_none
theorem ziY:type_of% @List.setIfInBounds_toArray:=@List.setIfInBounds_toArray
theorem ziZ:type_of% @List.map_append:=@List.map_append
theorem zj0:type_of% @List.nodup_cons:=@List.nodup_cons
theorem zj1:type_of% @List.getElem?_map:=@List.getElem?_map
theorem zj2:type_of% @List.map_cons:=@List.map_cons
theorem zj3:type_of% @List.length_filter_le:=@List.length_filter_le
theorem zj4:type_of% @Prod.mk.injEq:=@Prod.mk.injEq
theorem zj5:type_of% @Nat.zero_add:=@Nat.zero_add
theorem zj6:type_of% @Lib.run_eql_slice_nil:=@Lib.run_eql_slice_nil
theorem zj7:type_of% @Int.le_refl:=@Int.le_refl
theorem zj8:type_of% @List.filter_append:=@List.filter_append
theorem zj9:type_of% @List.filter_cons:=@List.filter_cons
theorem zja:type_of% @List.mem_map:=@List.mem_map
theorem zjb:type_of% @Nat.lt_or_ge:=@Nat.lt_or_ge
theorem zjc:type_of% @List.findIdx_getElem:=@List.findIdx_getElem
theorem zjd:type_of% @List.getElem?_take:=@List.getElem?_take
theorem zje:type_of% @List.find?_eq_none:=@List.find?_eq_none
theorem zjf:type_of% @getD_set_ne:=@getD_set_ne
theorem zjg:type_of% @World.cell?_of_block:=@World.cell?_of_block
theorem zjh:type_of% @List.mem_of_mem_take:=@List.mem_of_mem_take
theorem zji:type_of% @List.mem_filter:=@List.mem_filter
theorem zjj:type_of% @congrArg:=@congrArg
theorem zjk:type_of% @List.drop_eq_getElem_cons:=@List.drop_eq_getElem_cons
theorem zjl:type_of% @Array.getElem?_eq_getElem:=@Array.getElem?_eq_getElem
theorem zjm:type_of% @Nat.mul_le_mul_right:=@Nat.mul_le_mul_right
theorem zjn:type_of% @List.flatMap_cons:=@List.flatMap_cons
theorem zjo:type_of% @Array.getElem?_eq_none:=@Array.getElem?_eq_none
theorem zjp:type_of% @List.foldl_append:=@List.foldl_append
theorem zjq:type_of% @List.mem_map_of_mem:=@List.mem_map_of_mem
theorem zjr:type_of% @List.length_map:=@List.length_map
theorem zjs:type_of% @List.length_set:=@List.length_set
theorem zjt:type_of% @List.getElem?_append_right:=@List.getElem?_append_right
theorem zju:type_of% @or_false:=@or_false
theorem zjv:type_of% @List.mem_append_left:=@List.mem_append_left
theorem zjw:type_of% @List.drop_append_of_le_length:=@List.drop_append_of_le_length
theorem zjx:type_of% @List.getElem?_append_left:=@List.getElem?_append_left
theorem zjy:type_of% @List.pairwise_iff_getElem:=@List.pairwise_iff_getElem
theorem zjz:type_of% @List.drop_of_length_le:=@List.drop_of_length_le
theorem zjA:type_of% @Nat.le_of_eq:=@Nat.le_of_eq
theorem zjB:type_of% @Bool.eq_iff_iff:=@Bool.eq_iff_iff
theorem zjC:type_of% @Bool.and_eq_true:=@Bool.and_eq_true
theorem zjD:type_of% @List.getElem?_toArray:=@List.getElem?_toArray
theorem zjE:type_of% @List.nodup_append:=@List.nodup_append
theorem zjF:type_of% @Array.getElem?_eq_some_iff:=@Array.getElem?_eq_some_iff
theorem zjG:type_of% @if_false:=@if_false
theorem zjH:type_of% @World.cell?_setCell_other:=@World.cell?_setCell_other
theorem zjI:type_of% @List.filter_eq_self:=@List.filter_eq_self
theorem zjJ:type_of% @of_decide_eq_true:=@of_decide_eq_true
theorem zjK:type_of% @getElem!_pos:=@getElem!_pos
theorem zjL:type_of% @grownCap_le_maxLen:=@grownCap_le_maxLen
theorem zjM:type_of% @decide_eq_false_iff_not:=@decide_eq_false_iff_not
theorem zjN:type_of% @List.map_nil:=@List.map_nil
theorem zjO:type_of% @List.mem_range:=@List.mem_range
theorem zjP:type_of% @Array.size_append:=@Array.size_append
theorem zjQ:type_of% @List.take_add_one:=@List.take_add_one
theorem zjR:type_of% @List.length_pos_iff:=@List.length_pos_iff
theorem zjS:type_of% @Array.toList_append:=@Array.toList_append
theorem zjT:type_of% @setRow_heap:=@setRow_heap
theorem zjU:type_of% @List.range_succ:=@List.range_succ
theorem zjV:type_of% @List.mem_of_find?_eq_some:=@List.mem_of_find?_eq_some
theorem zjW:type_of% @Array.getElem?_modify:=@Array.getElem?_modify
theorem zjX:type_of% @Bool.false_eq_true:=@Bool.false_eq_true
theorem zjY:type_of% @List.map_replicate:=@List.map_replicate
theorem zjZ:type_of% @Nat.zero_mul:=@Nat.zero_mul
theorem zk0:type_of% @Nat.mul_one:=@Nat.mul_one
theorem zk1:type_of% @List.take_left:=@List.take_left
theorem zk2:type_of% @List.find?_append:=@List.find?_append
theorem zk3:type_of% @not_true_eq_false:=@not_true_eq_false
theorem zk4:type_of% @List.findIdx_eq:=@List.findIdx_eq
theorem zk5:type_of% @results_none:=@results_none
theorem zk6:type_of% @Nat.add_mul:=@Nat.add_mul
theorem zk7:type_of% @List.map_toArray:=@List.map_toArray
theorem zk8:type_of% @IntKind.wrap_i64:=@IntKind.wrap_i64
theorem zk9:type_of% @List.getElem?_drop:=@List.getElem?_drop
theorem zka:type_of% @List.drop_drop:=@List.drop_drop
theorem zkb:type_of% @beq_iff_eq:=@beq_iff_eq
theorem zkc:type_of% @List.Nodup.sublist:=@List.Nodup.sublist
theorem zkd:type_of% @List.set_append_right:=@List.set_append_right
theorem zke:type_of% @Nat.min_eq_left:=@Nat.min_eq_left
theorem zkf:type_of% @wpList_plain:=@wpList_plain
theorem zkg:type_of% @Sem.run_bind:=@Sem.run_bind
theorem zkh:type_of% @if_true:=@if_true
theorem zki:type_of% @List.ext_getElem?:=@List.ext_getElem?
theorem zkj:type_of% @List.dropLast_concat:=@List.dropLast_concat
theorem zkk:type_of% @callsIn_wide:=@callsIn_wide
theorem zkl:type_of% @List.takeWhile_cons:=@List.takeWhile_cons
theorem zkm:type_of% @List.getElem_of_mem:=@List.getElem_of_mem
theorem zkn:type_of% @true_and:=@true_and
theorem zko:type_of% @size_zeroCells:=@size_zeroCells
theorem zkp:type_of% @List.not_of_lt_findIdx:=@List.not_of_lt_findIdx
theorem zkq:type_of% @setRow_other:=@setRow_other
theorem zkr:type_of% @List.append_of_mem:=@List.append_of_mem
theorem zks:type_of% @and_true:=@and_true
theorem zkt:type_of% @Nat.lt_irrefl:=@Nat.lt_irrefl
theorem zku:type_of% @Bool.true_and:=@Bool.true_and
theorem zkv:type_of% @List.length_range:=@List.length_range
theorem zkw:type_of% @growslice_fits:=@growslice_fits
theorem zkx:type_of% @grownCap_ge:=@grownCap_ge
theorem zky:type_of% @List.mem_of_mem_drop:=@List.mem_of_mem_drop
theorem zkz:type_of% @List.perm_middle:=@List.perm_middle
theorem zkA:type_of% @decide_eq_decide:=@decide_eq_decide
theorem zkB:type_of% @List.mem_flatMap:=@List.mem_flatMap
theorem zkC:type_of% @Array.all_toList:=@Array.all_toList
theorem zkD:type_of% @List.any_eq_true:=@List.any_eq_true
theorem zkE:type_of% @heap_alloc_new:=@heap_alloc_new
theorem zkF:type_of% @Eq.trans:=@Eq.trans
theorem zkG:type_of% @Nat.one_mul:=@Nat.one_mul
theorem zBA {w:World} {o:Obj}:Below w.heap.size w (w.alloc o):=(zif _ _).alloc (zic _) _
theorem bR (a:Addr) (n:Nat):(a.add n).block=a.block:=by unfold Addr.add;split <;> rfl
theorem mI (a:Addr) (i j:Nat):(a.add i).add j=a.add (i+j):=by
 unfold Addr.add;by_cases hi:i=0 <;> by_cases hj:j=0 <;> simp [hi,hj,Nat.add_assoc]
def aG (w:World) (K:Nat→Prop) (size:Nat) (A:Option Addr) (n:Nat) (xs:List Value):Prop:=
 xs.length=n*size∧(0<n→∃ ad,A=some ad∧K ad.block∧∀ j u,xs[j]?=some u→w.cell? (ad.add j)=some u)
section
variable {w w':World} {K K':Nat→Prop} {B size n:Nat} {A:Option Addr} {xs:List Value}
theorem aG.none_:aG w K size A 0 []:=⟨by simp,fun h=>absurd h (by omega)⟩
theorem aG.at_ {k:Nat} (h:aG w K 1 A n xs) (hk:k<n):∃ ad u,A=some ad∧K ad.block∧xs[k]?=some u∧w.cell? (ad.add k)=some u:=by
 obtain ⟨ad,e,hb,hc⟩:=h.2 (by omega)
 have hl:k<xs.length:=by have:=h.1;omega
 exact ⟨ad,xs[k],e,hb,zib hl,hc k _ (zib hl)⟩
theorem aG.keep (h:aG w K size A n xs) (hk:∀ p:Addr,K p.block→p.block<w.heap.size→w'.cell? p=w.cell? p):aG w' K size A n xs:=
 ⟨h.1,fun hn=>by
  obtain ⟨ad,e,hb,hc⟩:=h.2 hn;refine ⟨ad,e,hb,fun j u hu=>(hk _ (by rw [bR];exact hb) ?_).trans (hc j u hu)⟩
  exact ziB w _ (hc j u hu)⟩
theorem aG.more (h:aG w K size A n xs) (hK:∀ b,K b→K' b):aG w K' size A n xs:=
 ⟨h.1,fun hn=>by
  obtain ⟨ad,e,hb,hc⟩:=h.2 hn;exact ⟨ad,e,hK _ hb,hc⟩⟩
theorem aG.lt (h:aG w K size A n xs) (hs:0<size):aG w (fun b=>K b∧b<w.heap.size) size A n xs:=
 ⟨h.1,fun hn=>by
  obtain ⟨ad,e,hb,hc⟩:=h.2 hn;have hl:0<xs.length:=by rw [h.1];exact Nat.mul_pos hn hs
  have:=ziB w _ (hc 0 _ (zib hl));exact ⟨ad,e,⟨hb,by rwa [bR] at this⟩,hc⟩⟩
theorem aG.step (h:aG w K size A n xs) (hb:Below w.heap.size w w'):aG w' K size A n xs:=h.keep fun _ _ hp=>hb.cell hp
theorem aG.alloc (h:aG w K size A n xs) (o:Obj):aG (w.alloc o) K size A n xs:=h.keep fun p _ hp=>World.cell?_alloc_lt w o p hp
theorem aG.cut (h:aG w K size A n xs) {k cap:Nat} (hk:k≤n) (hc:n≤cap) :
 aG w K size (if cap=k then A else A.map (·.add (k*size))) (n-k) (xs.drop (k*size)):=by
 refine ⟨by rw [ziG,h.1,Nat.sub_mul],fun hn=>?_⟩
 obtain ⟨ad,rfl,hb,hcell⟩:=h.2 (by omega)
 rw [zig (by omega)]
 refine ⟨ad.add (k*size),rfl,by rw [bR];exact hb,fun j u hu=>?_⟩
 rw [mI];exact hcell _ u (by rw [←hu,zk9])
theorem aG.from_ (h:aG w K size A n xs) {k:Nat} (hk:k≤n):aG w K size (A.map (·.add (k*size))) (n-k) (xs.drop (k*size)):=by
 have:=h.cut (cap:=n+k+1) hk (by omega)
 rwa [zig (by omega)] at this
theorem aG.pre (h:aG w K size A n xs) {k:Nat} (hk:k≤n):aG w K size A k (xs.take (k*size)):=by
 refine ⟨by rw [zio,h.1];exact zke (zjm _ hk),fun hn=>?_⟩
 obtain ⟨ad,rfl,hb,hcell⟩:=h.2 (by omega)
 refine ⟨ad,rfl,hb,fun j u hu=>hcell j u ?_⟩
 rw [zjd] at hu;split at hu
 · exact hu
 · cases hu
theorem aG.of_own {base:Nat} {e:TypeId} {c:Nat} (h:w.ownsRow base e size (.slice A n c) n xs):aG w (fun b=>some b=(Value.slice A n c).ownBlock) size A n xs:=by
 refine ⟨h.1,fun hn=>?_⟩
 obtain ⟨g,cap,hv,_,hlt⟩:=h.form hn;have hA:A=some ⟨g,0,none⟩:=by injection hv
 subst hA;exact ⟨_,rfl,rfl,h.cells (g:=g) rfl⟩
theorem aG.of_own_ge {base:Nat} {e:TypeId} {c:Nat} (h:w.ownsRow base e size (.slice A n c) n xs):aG w (fun b=>base≤b) size A n xs:=
 (aG.of_own h).more fun b hb=>(h.lt b hb.symm).1
end
theorem vX {W w1:World} (hb:Below W.heap.size W w1):(∀ b o,b<W.heap.size→w1.cell? ⟨b,o,none⟩=W.cell? ⟨b,o,none⟩)∧(∀ b o,b<W.heap.size→w1.frozen? ⟨b,o,none⟩=W.frozen? ⟨b,o,none⟩):=
 ⟨fun b o h=>hb.cell (p:=⟨b,o,none⟩) h,fun b o h=>hb.frozen (p:=⟨b,o,none⟩) h⟩
theorem aS {B:Nat} {a w:World} (h:Below B a w) (n:Nat):Below B a (w.drewN n):=⟨h.os,h.tape,h.output,h.size,h.block⟩
section
variable {P:Program} (w:World)
theorem mK (base:Nat) (t ty e:TypeId) (i:TypeInfo) (size:Nat) (ht:P.underlying t=some (.slice e)) (hi:P.info? e=some i)
 (v:Value) (n:Nat) (xs:List Value) (hown:w.ownsRow base e size v n xs) (c:Nat):(Builtin.append_ #[t,t] ty #[v,.slice none 0 c]).run P w=.ok v w:=by
 rcases hown.2 with ⟨rfl,rfl⟩ | ⟨g,cap,cur,rfl,_,_,hnc,_⟩
 · simp [Builtin.append_,ziK ht,sizeOf,typeInfo,hi,Builtin.lenOf,Builtin.firstCells]
 · simp [Builtin.append_,ziK ht,sizeOf,typeInfo,hi,Builtin.lenOf,Builtin.firstCells,hnc,storeCells]
theorem kB (base:Nat) (t ty e:TypeId) (i:TypeInfo) (z:Value) (size bytes:Nat) (ht:P.underlying t=some (.slice e)) (hi:P.info? e=some i) (hz:i.zero=some z)
 (hsize:i.size=size) (hby:i.bytes=bytes) (hzs:z.cells.size=size) (hsz:0<size)
 (v:Value) (n:Nat) (xs:List Value) (hown:w.ownsRow base e size v n xs)
 (K:Nat→Prop) (A:Option Addr) (m c:Nat) (news:List Value) (hr:aG w K size A m news) (h1:∀ u∈news,u.oneCell'=true)
 (h63:n+m≤maxLen) (hbytes:(n+m)*bytes≤140737488355328) (hbase:base≤w.heap.size) :
 ∃ v' w',(Builtin.append_ #[t,t] ty #[v,.slice A m c]).run P w=.ok v' w'∧w'.ownsRow base e size v' (n+m) (xs++news)∧w.grownBy w' v.ownBlock ∧
   (v'.ownBlock=v.ownBlock∨v'.ownBlock=some w.heap.size):=by
 rcases A with _ | ad
 · have hm:m=0:=by
    rcases ziV m with h0 | h0
    · exact h0
    · obtain ⟨ad,h,_⟩:=hr.2 h0
      cases h
   subst hm;have hn:news=[]:=zis (by simpa using hr.1)
   subst hn;exact ⟨v,w,mK w base t ty e i size ht hi v n xs hown c,by simpa using hown,World.grownBy.refl w _,.inl rfl⟩
 · have hcells:∀ j u,news[j]?=some u→w.cell? (ad.add j)=some u:=by
    intro j u hu;rcases ziV m with h0 | h0
    · subst h0
      have hn:news=[]:=zis (by simpa using hr.1)
      subst hn;simp at hu
    · obtain ⟨ad',h,_,hc⟩:=hr.2 h0
      injection h with h;subst h;exact hc j u hu
   obtain ⟨v',w',hrun,h2,h3,_,h5⟩:=run_append_own_at (P:=P) w base t ty e i z size bytes ht hi hz hsize hby hzs hsz v n xs hown ad m c news hr.1 hcells h1 h63 hbytes hbase;exact ⟨v',w',hrun,h2,h3,h5⟩
end
structure xZ (base:Nat) (w w':World) (v v':Value):Prop where
 below:Below base w w'
 grown:w.grownBy w' v.ownBlock
 at_:v'.ownBlock=v.ownBlock∨∃ g,v'.ownBlock=some g∧w.heap.size≤g
theorem gC {w:World} {base:Nat} {e:TypeId} {size:Nat} {v:Value} {n:Nat} {xs:List Value} (h:w.ownsRow base e size v n xs):∃ A c,v=.slice A n c:=by
 rcases h.2 with ⟨rfl,rfl⟩ | ⟨g,cap,cur,rfl,_⟩
 · exact ⟨_,_,rfl⟩
 · exact ⟨_,_,rfl⟩
theorem cD {w:World} {base:Nat} {e:TypeId} {size:Nat} {A:Option Addr} {c n:Nat} {xs:List Value} (h:w.ownsRow base e size (.slice A n c) n xs):n≤c:=by
 rcases h.2 with ⟨h1,h2⟩ | ⟨g,cap,cur,h1,_,_,h2,_⟩
 · omega
 · injection h1 with h3 h4 h5;omega
theorem jW {w:World} {base:Nat} {e:TypeId} {size:Nat} {v:Value} {n:Nat} {xs:List Value} (h:w.ownsRow base e size v n xs):∀ k,v.ownBlock=some k→base≤k:=fun k hk=>(h.lt k hk).1
theorem aO {w:World} {base base':Nat} {e:TypeId} {size:Nat} {v:Value} {n:Nat} {xs:List Value} (h:w.ownsRow base e size v n xs) (hb:base'≤base):w.ownsRow base' e size v n xs:=by
 refine ⟨h.1,?_⟩;rcases h.2 with h2 | ⟨g,cap,cur,hv,hg,r⟩
 · exact .inl h2
 · exact .inr ⟨g,cap,cur,hv,by omega,r⟩
theorem aD {w w':World} {base B:Nat} {e:TypeId} {size:Nat} {v:Value} {n:Nat} {xs:List Value} (h:w.ownsRow base e size v n xs) (hb:Below B w w') (hB:w.heap.size≤B):w'.ownsRow base e size v n xs:=by
 refine ⟨h.1,?_⟩;rcases h.2 with h2 | ⟨g,cap,cur,hv,hg,hh,r⟩
 · exact .inl h2
 · have hlt:=(zjF.1 hh).1
   exact .inr ⟨g,cap,cur,hv,hg,by rw [hb.block g (by omega)];exact hh,r⟩
section
variable {P:Program} {w:World} {ops:Array Oper} {rest:List Oper} {o:Oper} {a:Act} {Q:Exit→Act→World→Prop}
theorem aF (hgd:o.guard=none) (s x:Operand) (t:TypeId)
 (ho:o.op=.call { callee:=.builtin .append,args:=#[s,x],argTypes:=#[t,t] })
 (base:Nat) (e:TypeId) (i:TypeInfo) (z:Value) (size bytes:Nat) (ht:P.underlying t=some (.slice e)) (hi:P.info? e=some i) (hz:i.zero=some z)
 (hsize:i.size=size) (hby:i.bytes=bytes) (hzs:z.cells.size=size) (hsz:0<size)
 {v:Value} {n:Nat} {xs:List Value} (hs:a.eval s=v) (hown:w.ownsRow base e size v n xs)
 {K:Nat→Prop} {A:Option Addr} {m c:Nat} {news:List Value} (hx:a.eval x=.slice A m c) (hr:aG w K size A m news) (h1:∀ u∈news,u.oneCell'=true)
 (h63:n+m≤maxLen) (hbytes:(n+m)*bytes≤140737488355328) (hbase:base≤w.heap.size)
 (h:∀ A' c' w',w'.ownsRow base e size (.slice A' (n+m) c') (n+m) (xs++news)→xZ base w w' v (.slice A' (n+m) c')→wpList P ops Q rest (a.put o.dst (.slice A' (n+m) c')) w') :
 wpList P ops Q (o::rest) a w:=
 zkf hgd fun _ hK=>by
  obtain ⟨v',w',hrun,h2,h3,h4⟩:=kB (P:=P) w base t o.type e i z size bytes ht hi hz hsize hby hzs hsz v n xs hown K A m c news hr h1 h63 hbytes hbase;obtain ⟨A',c',rfl⟩:=gC h2;unfold Oper.wp execOp;simp only [ho,resolve,invoke,builtin,zkg,Sem.run_pure,Result.andThen_ok,zk7,zj2,zjN,hs,hx,hrun];refine hK _ _ (h A' c' w' h2 ⟨(zif _ _).grown h3 hbase (jW hown),h3,?_⟩);rcases h4 with h4 | h4
  · exact .inl h4
  · exact .inr ⟨_,h4,zic _⟩
theorem kK (hgd:o.guard=none) (s x:Operand) (t:TypeId)
 (ho:o.op=.call { callee:=.builtin .append,args:=#[s,x],argTypes:=#[t,t] })
 (base:Nat) (e:TypeId) (i:TypeInfo) (z:Value) (bytes:Nat) (ht:P.underlying t=some (.slice e)) (hi:P.info? e=some i) (hz:i.zero=some z)
 (hsize:i.size=1) (hby:i.bytes=bytes) (hzs:z.cells.size=1)
 {v:Value} {n:Nat} {xs:List Value} (hs:a.eval s=v) (hown:w.ownsRow base e 1 v n xs)
 {u:Value} (hx:a.eval x=.slice (some ⟨w.heap.size,0,none⟩) 1 1) (h1:u.oneCell'=true)
 (h63:n+1≤maxLen) (hbytes:(n+1)*bytes≤140737488355328) (hbase:base≤w.heap.size)
 (h:∀ A' c' w',w'.ownsRow base e 1 (.slice A' (n+1) c') (n+1) (xs++[u])→xZ base w w' v (.slice A' (n+1) c')→wpList P ops Q rest (a.put o.dst (.slice A' (n+1) c')) w') :
 wpList P ops Q (o::rest) a (w.alloc (.cells #[u] e)):=by
 have hc:aG (w.alloc (.cells #[u] e)) (fun _=>True) 1 (some ⟨w.heap.size,0,none⟩) 1 [u]:=⟨rfl,fun _=>⟨_,rfl,trivial,cell_one_new _ _ _⟩⟩
 refine aF (w:=w.alloc (.cells #[u] e)) hgd s x t ho base e i z 1 bytes ht hi hz hsize hby hzs (by omega) hs (hown.alloc _) hx hc (by simpa using h1) h63 hbytes (by simp;omega) ?_
 intro A' c' w' h2 h3;refine h A' c' w' h2 ⟨((zif _ _).alloc hbase _).trans h3.below,⟨h3.grown.os,h3.grown.tape,h3.grown.output,?_,fun k hk hne=>?_⟩,?_⟩
 · have:=h3.grown.size;simp at this;omega
 · exact (h3.grown.block k (by simp;omega) hne).trans (Below.heap_alloc _ _ _ hk)
 · rcases h3.at_ with h4 | ⟨g,h4,h5⟩
   · exact .inl h4
   · exact .inr ⟨g,h4,by simp at h5;omega⟩
end
def B8 (c:UInt8):Value:=.int .u8 (c.toNat:Int)
def aE (l:List UInt8):List Value:=l.map B8
theorem pP (l:List UInt8) (c:UInt8):aE (l++[c])=aE l++[B8 c]:=by simp [aE]
theorem aZ (l m:List UInt8):aE (l++m)=aE l++aE m:=by simp [aE]
theorem eK (l:List UInt8):(aE l).length=l.length:=by simp [aE]
theorem aW (l:List UInt8):∀ u∈aE l,u.oneCell'=true:=by
 intro u hu;simp only [aE,zja] at hu;obtain ⟨c,_,rfl⟩:=hu;rfl
theorem yF (l:List UInt8) (k:Nat):(aE l).take k=aE (l.take k):=by simp [aE,List.map_take]
theorem aG.new {w:World} {e:TypeId} {cs:Array Value} {fr:Nat × Nat} {xs:List Value} {n size g:Nat} (hg:w.heap.size=g) (hx:cs.toList=xs) (hn:cs.size=n*size) :
 aG (w.alloc (.cells cs e fr)) (fun b=>b=g) size (some ⟨g,0,none⟩) n xs:=by
 subst hx hg;refine ⟨by simpa using hn,fun _=>⟨_,rfl,rfl,fun j u hj=>?_⟩⟩
 have hadd:(⟨w.heap.size,0,none⟩:Addr).add j=⟨w.heap.size,j,none⟩:=by unfold Addr.add;split <;> simp_all
 rw [hadd,cell_of_row _ w.heap.size j cs e fr (zkE w _)];simpa using hj
theorem cL {P:Program} {K:Nat→Prop} {cap:Nat} {A:Option Addr} {l:List UInt8} (w:World) (src dst e:TypeId) (hs:P.underlying src=some (.slice e)) (he:P.underlying e=some (.int .u8)) (hd:P.underlying dst=some .string)
 {n:Nat} (hn:l.length=n) (hr:aG w K 1 A n (aE l)):(convert src dst (.slice A n cap)).run P w=.ok (.string ⟨l.toArray⟩) w:=by
 subst hn;rcases ziV l.length with h0 | h0
 · have hl:l=[]:=zis h0
   subst hl;rcases A with _ | ad
   · simp [convert,ziK hs,ziK he,ziK hd,Conv.bytesToString];rfl
   · exact run_convert_bytes_back w src dst e ad cap [] hs he hd (fun j hj=>absurd hj (by simp))
 · obtain ⟨ad,rfl,_,hc⟩:=hr.2 h0
   exact run_convert_bytes_back w src dst e ad cap l hs he hd (fun j hj=>hc j _ (by simp [aE,B8,zib hj]))
theorem fV (w:World) (B:Nat) (e:TypeId) (size:Nat) (hB:B≤w.heap.size:=by omega):(w.alloc (.cells #[] e)).ownsRow B e size (.slice (some ⟨w.heap.size,0,none⟩) 0 0) 0 []:=
 World.ownsRow_made w #[] 0 hB (zir _) (by simp)
structure mY where
 A:Option Addr
 n:Nat
 c:Nat
 xs:List Value
def mY.v (p:mY):Value:=.slice p.A p.n p.c
def eC:List mY→Nat
 | []=>0
 | p::l=>p.n+eC l
theorem oQ (l m:List mY):eC (l++m)=eC l+eC m:=by
 induction l with
 | nil=>simp [eC]
 | cons p l ih=>simp only [List.cons_append,eC,ih];omega
theorem gH (l:List mY) (j:Nat):eC (l.take j)≤eC l:=by
 have h:=oQ (l.take j) (l.drop j);rw [ziP] at h;omega
theorem lQ (l:List mY) {j:Nat} (h:j<l.length):eC (l.take (j+1))=eC (l.take j)+l[j].n:=by
 rw [ziy h,oQ];simp [eC]
theorem xH (l:List mY) {j:Nat} (h:j<l.length):(l.take (j+1)).flatMap mY.xs=(l.take j).flatMap mY.xs++l[j].xs:=by
 rw [ziy h,ziS];simp only [zjn,List.flatMap_nil,ziz]
def IsB (w:World) (K:Nat→Prop) (v:Value) (l:List UInt8):Prop:=
 ∃ A c,v=.slice A l.length c∧aG w K 1 A l.length (aE l)∧l.length≤c∧c≤9223372036854775807∧l.length≤140737488355328
theorem IsB.step {w w':World} {K:Nat→Prop} {v:Value} {l:List UInt8} (h:IsB w K v l) (hb:Below w.heap.size w w'):IsB w' K v l:=by
 obtain ⟨A,c,rfl,hr,h1⟩:=h;exact ⟨A,c,rfl,hr.step hb,h1⟩
theorem IsB.alloc {w:World} {K:Nat→Prop} {v:Value} {l:List UInt8} (h:IsB w K v l) (o:Obj):IsB (w.alloc o) K v l:=by
 obtain ⟨A,c,rfl,hr,h1⟩:=h;exact ⟨A,c,rfl,hr.alloc o,h1⟩
theorem IsB.drew {w:World} {K:Nat→Prop} {v:Value} {l:List UInt8} (h:IsB w K v l):IsB w.drew K v l:=h
theorem IsB.more {w:World} {K K':Nat→Prop} {v:Value} {l:List UInt8} (h:IsB w K v l) (hK:∀ b,K b→K' b):IsB w K' v l:=by
 obtain ⟨A,c,rfl,hr,h1⟩:=h;exact ⟨A,c,rfl,hr.more hK,h1⟩
theorem IsB.keep {w w':World} {K:Nat→Prop} {v:Value} {l:List UInt8} (h:IsB w K v l) (hk:∀ p:Addr,K p.block→p.block<w.heap.size→w'.cell? p=w.cell? p):IsB w' K v l:=by
 obtain ⟨A,c,rfl,hr,h1⟩:=h;exact ⟨A,c,rfl,hr.keep hk,h1⟩
theorem IsB.open_ {w:World} {K:Nat→Prop} {A:Option Addr} {n c:Nat} {l:List UInt8} (h:IsB w K (.slice A n c) l) :
 n=l.length∧aG w K 1 A l.length (aE l)∧l.length≤c∧c≤9223372036854775807∧l.length≤140737488355328:=by
 obtain ⟨A',c',hv,hr,h1⟩:=h;injection hv with h2 h3 h4;subst h2;subst h4;exact ⟨h3,hr,h1⟩
theorem IsB.len {w:World} {K:Nat→Prop} {v:Value} {l:List UInt8} (h:IsB w K v l):l.length≤140737488355328:=by
 obtain ⟨A,c,rfl,hr,h1,h2,h3⟩:=h;exact h3
theorem bF {w:World} {base:Nat} {e:TypeId} {size:Nat} {A:Option Addr} {c n:Nat} {xs:List Value} (h:w.ownsRow base e size (.slice A n c) n xs):c≤9223372036854775807:=by
 rcases h.2 with ⟨h1,h2⟩ | ⟨g,cap,cur,h1,_,_,_,h2,_⟩
 · injection h1 with h3 h4 h5;omega
 · injection h1 with h3 h4 h5;unfold maxLen at h2;omega
theorem IsB.of_own {w:World} {base:Nat} {e:TypeId} {A:Option Addr} {c:Nat} {l:List UInt8} (h:w.ownsRow base e 1 (.slice A l.length c) l.length (aE l)) (hl:l.length≤140737488355328):IsB w (fun b=>base≤b) (.slice A l.length c) l:=
 ⟨A,c,rfl,aG.of_own_ge h,cD h,bF h,hl⟩
theorem eL {w:World} {base base' g:Nat} {e:TypeId} {size:Nat} {v:Value} {n:Nat} {xs:List Value} {x y z:Value} (h:w.ownsRow base e size v n xs) (hg:g<base) (hb:base'≤base) :
 (((w.setCell ⟨g,0,none⟩ x).setCell ⟨g,1,none⟩ y).setCell ⟨g,2,none⟩ z).ownsRow base' e size v n xs:=
 aO (ownsRow_setCell_below (ownsRow_setCell_below (ownsRow_setCell_below h hg _) hg _) hg _) hb
theorem aP {a w:World} {B g:Nat} {x y z:Value} (h:Below B a w) (hg:B≤g):Below B a (((w.setCell ⟨g,0,none⟩ x).setCell ⟨g,1,none⟩ y).setCell ⟨g,2,none⟩ z):=
 ((h.setCell hg _).setCell hg _).setCell hg _
def Blk (w:World) (g:Nat) (t:TypeId) (cs:Array Value):Prop:=w.heap[g]?=some (.cells cs t (0,0))
section
variable {w w':World} {g:Nat} {t:TypeId} {cs:Array Value}
theorem Blk.lt (h:Blk w g t cs):g<w.heap.size:=by
 rcases zjb g w.heap.size with hlt | hge
 · exact hlt
 · unfold Blk at h;rw [zjo hge] at h;cases h
theorem Blk.cell (h:Blk w g t cs) (i:Nat):w.cell? ⟨g,i,none⟩=cs[i]?:=cell_of_row w g i cs t (0,0) h
theorem Blk.frozen (h:Blk w g t cs) (i:Nat):w.frozen? ⟨g,i,none⟩=false:=by
 unfold Blk at h;simp [World.frozen?,h]
theorem Blk.rules (h:Blk w g t cs):(∀ o,w.cell? ⟨g,o,none⟩=cs[o]?)∧(∀ o,w.frozen? ⟨g,o,none⟩=false):=⟨h.cell,h.frozen⟩
theorem Blk.new (w:World) (t:TypeId) (cs:Array Value) {g:Nat} (hg:w.heap.size=g):Blk (w.alloc (.cells cs t)) g t cs:=by subst hg;exact zkE w _
theorem Blk.drew (h:Blk w g t cs):Blk w.drew g t cs:=h
theorem Blk.alloc (h:Blk w g t cs) (o:Obj):Blk (w.alloc o) g t cs:=(Below.heap_alloc w o g h.lt).trans h
theorem Blk.set_ (h:Blk w g t cs) (i:Nat) (u:Value):Blk (w.setCell ⟨g,i,none⟩ u) g t (cs.setIfInBounds i u):=by
 unfold Blk at h ⊢;simp [World.setCell,zjW,h]
theorem Blk.far (h:Blk w g t cs) {p:Addr} (hp:g≠p.block) (u:Value):Blk (w.setCell p u) g t cs:=(Below.heap_setCell w p u g hp).trans h
theorem Blk.step (h:Blk w g t cs) (hb:Below w.heap.size w w'):Blk w' g t cs:=(hb.block g h.lt).trans h
theorem Blk.grown {row:Option Nat} (h:Blk w g t cs) (hb:w.grownBy w' row) (hg:some g≠row):Blk w' g t cs:=(hb.block g h.lt hg).trans h
theorem Blk.ne_ {g':Nat} {t':TypeId} {cs':Array Value} (h:Blk w g t cs) (h':Blk w g' t' cs') (hne:t≠t'):g≠g':=by
 rintro rfl;unfold Blk at h h';rw [h] at h';injection h' with h';injection h' with _ ht;exact hne ht
theorem jD {base:Nat} {e:TypeId} {size n:Nat} {v:Value} {xs:List Value} (h:w.ownsRow base e size v n xs) (hg:Blk w g t cs) (hne:e≠t):v.ownBlock≠some g:=by
 rcases h.2 with ⟨rfl,_⟩ | ⟨g',cap,cur,rfl,_,hh,_⟩
 · simp [Value.ownBlock]
 · intro he
   have:g'=g:=by simpa [Value.ownBlock] using he
   subst this;exact Blk.ne_ (t:=e) hh hg hne rfl
end
theorem IsB.nil_ (w:World) (K:Nat→Prop):IsB w K (.slice none 0 0) []:=⟨none,0,rfl,aG.none_,by simp,by omega,by simp⟩
theorem IsB.pre {w:World} {K:Nat→Prop} {A:Option Addr} {n c:Nat} {l:List UInt8} (h:IsB w K (.slice A n c) l) {k:Nat} (hk:k≤l.length):IsB w K (.slice A k c) (l.take k):=by
 obtain ⟨rfl,hr,h1,h2,h3⟩:=h.open_;have e:(l.take k).length=k:=by rw [zio];omega
 refine ⟨A,c,by rw [e],?_,by omega,h2,by omega⟩
 rw [e,←yF];simpa using hr.pre hk
theorem IsB.mid {w:World} {K:Nat→Prop} {A:Option Addr} {n c:Nat} {l:List UInt8} (h:IsB w K (.slice A n c) l) {i k c':Nat} (hk:i+k≤l.length) (hc:k≤c') (hc':c'≤9223372036854775807) :
 IsB w K (.slice (A.map (·.add i)) k c') ((l.drop i).take k):=by
 obtain ⟨rfl,hr,h1,h2,h3⟩:=h.open_;have e:((l.drop i).take k).length=k:=by rw [zio,ziG];omega
 refine ⟨A.map (·.add i),c',by rw [e],?_,by omega,hc',by omega⟩
 have h4:=(hr.from_ (k:=i) (by omega)).pre (k:=k) (by omega)
 rw [e];simpa [aE,List.map_drop,List.map_take] using h4
def I64 (c:Int):Value:=.int .i64 c
theorem xW {w:World} {base base':Nat} {e e':TypeId} {size size' n n':Nat} {v v':Value} {xs xs':List Value} (h:w.ownsRow base e size v n xs) (h':w.ownsRow base' e' size' v' n' xs') (hne:e≠e') :
 v.ownBlock=none∨v.ownBlock≠v'.ownBlock:=by
 rcases h.2 with ⟨rfl,_⟩ | ⟨g,cap,cur,rfl,_,hh,_⟩
 · exact .inl rfl
 · refine .inr ?_
   rcases h'.2 with ⟨rfl,_⟩ | ⟨g',cap',cur',rfl,_,hh',_⟩
   · simp [Value.ownBlock]
   · simp only [Value.ownBlock,ne_eq,ziL]
     intro he;rw [he,hh'] at hh;injection hh with hh;injection hh with _ h3;exact hne h3.symm
theorem qQ {w:World} {base:Nat} {e t:TypeId} {size n g:Nat} {v:Value} {xs:List Value} {cs:Array Value} (h:w.ownsRow base e size v n xs) (hB:Blk w g t cs) (hne:e≠t) (i:Nat) (u:Value) :
 (w.setCell ⟨g,i,none⟩ u).ownsRow base e size v n xs:=by
 refine ⟨h.1,?_⟩;rcases h.2 with h2 | ⟨g',cap,cur,hv,hg,hh,r⟩
 · exact .inl h2
 · have hgg:g'≠g:=Blk.ne_ (t:=e) hh hB hne
   exact .inr ⟨g',cap,cur,hv,hg,by rw [Below.heap_setCell _ _ _ _ (by simpa using hgg)];exact hh,r⟩
theorem fG {w w':World} {base base':Nat} {e e':TypeId} {size size' n n':Nat} {v v0 v1:Value} {xs xs':List Value} (h:w.ownsRow base e size v n xs) (h':w.ownsRow base' e' size' v0 n' xs') (hne:e≠e') (hg:xZ base' w w' v0 v1) :
 w'.ownsRow base e size v n xs:=h.kept hg.grown (xW h h' hne)
theorem Blk.grew {w w':World} {g:Nat} {t e':TypeId} {cs:Array Value} {base' size' n':Nat} {v0 v1:Value} {xs':List Value} (h:Blk w g t cs) (h':w.ownsRow base' e' size' v0 n' xs') (hne:e'≠t) (hg:xZ base' w w' v0 v1):Blk w' g t cs:=
 h.grown hg.grown (fun e=>jD h' h hne e.symm)
theorem dB {P:Program} {w:World} {ops:Array Oper} {rest:List Oper} {o:Oper} {a:Act} {Q:Exit→Act→World→Prop} (hgd:o.guard=none) (s x:Operand) (t:TypeId)
 (ho:o.op=.call { callee:=.builtin .append,args:=#[s,x],argTypes:=#[t,t] })
 (base:Nat) (e:TypeId) (i:TypeInfo) (z:Value) (bytes:Nat) (ht:P.underlying t=some (.slice e)) (hi:P.info? e=some i) (hz:i.zero=some z)
 (hsize:i.size=1) (hby:i.bytes=bytes) (hzs:z.cells.size=1)
 {v:Value} {n:Nat} {xs:List Value} (hs:a.eval s=v) (hown:w.ownsRow base e 1 v n xs)
 {u:Value} {g:Nat} (hx:a.eval x=.slice (some ⟨g,0,none⟩) 1 1) (hg:w.heap.size=g) (h1:u.oneCell'=true)
 (h63:n+1≤maxLen) (hbytes:(n+1)*bytes≤140737488355328) (hbase:base≤w.heap.size)
 (h:∀ A' c' w',w'.ownsRow base e 1 (.slice A' (n+1) c') (n+1) (xs++[u])→xZ base w w' v (.slice A' (n+1) c')→wpList P ops Q rest (a.put o.dst (.slice A' (n+1) c')) w') :
 wpList P ops Q (o::rest) a (w.alloc (.cells #[u] e)):=by
 subst hg;exact kK hgd s x t ho base e i z bytes ht hi hz hsize hby hzs hs hown hx h1 h63 hbytes hbase h
end Go.Proofs.YtcapmeefiglfjaaGreat
namespace Go.Proofs.YtcapmeefiglfjaaGreat
section
variable {α:Type} {a b c d e f g h i j:α} {l:List α}
theorem m0:a∈a::l:=zih ..
theorem m1:b∈a::b::l:=zii _ m0
theorem m2:c∈a::b::c::l:=zii _ m1
theorem m3:d∈a::b::c::d::l:=zii _ m2
theorem m4:e∈a::b::c::d::e::l:=zii _ m3
theorem m5:f∈a::b::c::d::e::f::l:=zii _ m4
theorem m6:g∈a::b::c::d::e::f::g::l:=zii _ m5
theorem m7:h∈a::b::c::d::e::f::g::h::l:=zii _ m6
theorem m8:i∈a::b::c::d::e::f::g::h::i::l:=zii _ m7
end
end Go.Proofs.YtcapmeefiglfjaaGreat
namespace Go.Proofs.YtcapmeefiglfjaaGreat
open Go.RowKit Go.WideShapes Go.ChangeShapes Go.Deep
section
variable {H:Type} {enc:TypeId × Value→H} {P:Program} {w:World}
def Small (P:Program) (t:TypeId) (d:DataW H):Prop:=∀ n∈d.weights P t,n≤reachBytes
theorem Small.of_args {ts:List TypeId} {ds:List (DataW H)} (h:(DataW.weightsEach P ts ds).all (·≤reachBytes)=true) {j:Nat} {t:TypeId} {d:DataW H} (ht:ts[j]?=some t) (hd:ds[j]?=some d):Small P t d:=by
 intro n hn;have:=List.all_eq_true.1 h _ (DataW.weights_mem_each ht hd n hn);simpa using this
theorem pR {e:TypeId} {l:List (DataW H)} {d:DataW H} (hd:d∈l) {n:Nat} (hn:n∈d.weights P e):n∈DataW.weightsAll P e l:=by
 induction l with
 | nil=>cases hd
 | cons a l ih=>
   simp only [DataW.weightsAll,ziA];rcases zim.1 hd with rfl | hd
   · exact .inl hn
   · exact .inr (ih hd)
theorem Small.slice {t e:TypeId} {elems spare:List (DataW H)} (ht:P.underlying t=some (.slice e)) (h:Small P t (.slice elems spare)) :
 (elems.length+spare.length)*P.bytesOf e≤reachBytes∧∀ d∈elems,Small P e d:=by
 refine ⟨h _ (by simp [DataW.weights,ht]),fun d hd n hn=>h n ?_⟩
 simp only [DataW.weights,ht,zim,ziA];exact .inr (.inl (pR hd hn))
theorem zgf:reachBytes≤140737488351232:=by decide
theorem zdJ {t:TypeId} (hl:laidOutB P=true) (hr:P.readableRec t=true) (hrow:t<P.types.size) {W W':World} {v:Value} {d:DataW H} {ps:List MemPlace}
 (h:DataW.Trod enc P W 0 (fun _=>true) true t v d ps) (hb:Below W.heap.size W W') (hlt:∀ x∈ps,x.block<W.heap.size) {sp:Nat→Bool} (hsp:∀ x∈ps,sp x.block=true) :
 DataW.Trod enc P W' 0 sp true t v d ps:=
 WideElems.Trod_stays hl hr hrow h (fun x hx=>hb.same (hlt x hx)) hsp
end
end Go.Proofs.YtcapmeefiglfjaaGreat
namespace Go.Proofs.YtcapmeefiglfjaaGreat
open Go.RowKit
theorem dX {P:Program} {w:World} {ops:Array Oper} {o:Oper} {a:Act} {K0:Act→World→Prop} {Q:Exit→Act→World→Prop} {E:Prop} (hgd:o.guard=none) (s x:Operand) (t:TypeId)
 (ho:o.op=.call { callee:=.builtin .append,args:=#[s,x],argTypes:=#[t,t] })
 (base:Nat) (e:TypeId) (i:TypeInfo) (z:Value) (size bytes:Nat) (ht:P.underlying t=some (.slice e)) (hi:P.info? e=some i) (hz:i.zero=some z)
 (hsize:i.size=size) (hby:i.bytes=bytes) (hzs:z.cells.size=size) (hsz:0<size)
 {v:Value} {n:Nat} {xs:List Value} (hs:a.eval s=v) (hown:w.ownsRow base e size v n xs)
 {K:Nat→Prop} {A:Option Addr} {m c:Nat} {news:List Value} (hx:a.eval x=.slice A m c) (hr:aG w K size A m news) (h1:∀ u∈news,u.oneCell'=true)
 (h63:n+m≤maxLen) (hbytes:(n+m)*bytes≤140737488355328) (hbase:base≤w.heap.size)
 (h:∀ A' c' w',w'.ownsRow base e size (.slice A' (n+m) c') (n+m) (xs++news)→xZ base w w' v (.slice A' (n+m) c')→K0 (a.put o.dst (.slice A' (n+m) c')) w') :
 if Region.wanted o (yielded ops a.tmps)=true then Oper.wp P o a w K0 Q else E:=by
 have hw:Region.wanted o (yielded ops a.tmps)=true:=by simp [Region.wanted,hgd]
 rw [zij hw];obtain ⟨v',w',hrun,h2,h3,h4⟩:=kB (P:=P) w base t o.type e i z size bytes ht hi hz hsize hby hzs hsz v n xs hown K A m c news hr h1 h63 hbytes hbase;obtain ⟨A',c',rfl⟩:=gC h2;unfold Oper.wp execOp;simp only [ho,resolve,invoke,builtin,zkg,Sem.run_pure,Result.andThen_ok,zk7,zj2,zjN,hs,hx,hrun];refine h A' c' w' h2 ⟨(zif _ _).grown h3 hbase (jW hown),h3,?_⟩;rcases h4 with h4 | h4
 · exact .inl h4
 · exact .inr ⟨_,h4,zic _⟩
