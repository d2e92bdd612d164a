/- A part of the proof. -/
import Derived.Test.YthblkdnijhphhaaGreatWireRd
import Derived.Test.YthblkdnijhphhaaGreatMapP
import Derived.Test.YthblkdnijhphhaaGreatSlS
set_option maxHeartbeats 1000000
set_option maxRecDepth 100000
namespace Go.Proofs.YthblkdnijhphhaaGreat
open Go.RowKit
theorem zhC {need old:Nat} (h:old<need) (hb:need≤180000000000000):Builtin.nextslicecap need old*1≤281474976710656:=by
 rw [Nat.mul_one];unfold Builtin.nextslicecap;split
 · omega
 · split
   · omega
   · rw [growBy_four]
     repeat' split
     all_goals omega
section
variable {P:Program} (w:World)
theorem zft (base:Nat) (t ty e:TypeId) (i:TypeInfo) (z:Value) (size bytes:Nat) (ht:P.underlying t=some (.slice e)) (hi:P.info? e=some i) (hz:i.zero=some z)
 (hsize:i.size=size) (hby:i.bytes=bytes) (hzs:z.cells.size=size) (hsz:0<size)
 (v:Value) (n:Nat) (xs:List Value) (hown:w.ownsRow base e size v n xs)
 (ad:Addr) (m c:Nat) (news:List Value) (hl:news.length=m*size) (hnews:∀ j u,news[j]?=some u→w.cell? (ad.add j)=some u) (h1:∀ u∈news,u.oneCell'=true)
 (h63:n+m≤maxLen) (hfit:∀ old,old<n+m→Builtin.nextslicecap (n+m) old*bytes≤281474976710656) (hbase:base≤w.heap.size) :
 ∃ v' w',(Builtin.append_ #[t,t] ty #[v,.slice (some ad) m c]).run P w=.ok v' w'∧w'.ownsRow base e size v' (n+m) (xs++news)∧w.grownBy w' v.ownBlock∧(v'.ownBlock=v.ownBlock∨v'.ownBlock=some w.heap.size):=by
 subst hsize hby;have h63i:((n+m:Nat):Int)≤9223372036854775807:=by unfold maxLen at h63;omega
 have hlen:(xs++news).length=(n+m)*i.size:=by rw [List.length_append,hown.1,hl,Nat.add_mul]
 have grown:∀ (old:Nat),old<n+m→∀ (row:Option Nat),
  (w.drew.alloc (.cells (xs.toArray++news.toArray++Builtin.zeroCells z.cells (grownCap w (n+m) old e-(n+m))) e)).ownsRow base e i.size
   (.slice (some ⟨w.heap.size,0,none⟩) (n+m) (grownCap w (n+m) old e)) (n+m) (xs++news) ∧
  w.grownBy (w.drew.alloc (.cells (xs.toArray++news.toArray++Builtin.zeroCells z.cells (grownCap w (n+m) old e-(n+m))) e)) row:=by
  intro old ho row;have hge:=grownCap_ge w (n+m) old e;have hcm:grownCap w (n+m) old e≤maxLen:=grownCap_le_maxLen w (n+m) old e h63;refine ⟨⟨hlen,.inr ⟨w.heap.size,_,_,rfl,hbase,heap_alloc_new w.drew _,hge,hcm,?_,?_⟩⟩,⟨rfl,rfl,rfl,by simp,fun k hk _=>Below.heap_alloc w.drew _ k hk⟩⟩
  · simp only [Array.size_append,List.size_toArray,size_zeroCells,hzs,hown.1,hl,←Nat.add_mul]
    congr 1
    omega
  · simp only [Array.toList_append,List.append_assoc]
    rw [←List.append_assoc,←hlen];exact List.take_left
 rcases hown.2 with ⟨rfl,rfl⟩ | ⟨g,cap,cur,rfl,hbg,hg,hnc,hcm,hcs,htake⟩
 · have hx:xs=[]:=List.eq_nil_of_length_eq_zero (by simpa using hown.1)
   subst hx;by_cases hm:m=0
   · subst hm
     have hn:news=[]:=List.eq_nil_of_length_eq_zero (by simpa using hl)
     subst hn;refine ⟨.slice none 0 0,w,?_,World.ownsRow_nil w base e i.size,⟨rfl,rfl,rfl,Nat.le_refl _,fun _ _ _=>rfl⟩,Or.inl rfl⟩
     simp [Builtin.append_,run_underlying ht,sizeOf,typeInfo,hi,Builtin.lenOf,Builtin.firstCells,loadCells,loadCellsFrom]
   · have h0:=hfit 0 (by omega)
     simp only [Nat.zero_add] at h0;rw [nextslicecap_zero (by omega)] at h0
     have hr:=run_append_nil (P:=P) w t ty e i z ht hi hz ad m c news hl hnews (by omega) (by omega) h0
     have hgr:=grown 0 (by omega) (Value.ownBlock (.slice none 0 0))
     simp only [Nat.zero_add,List.nil_append,Array.empty_append] at hgr ⊢;exact ⟨_,_,hr,hgr.1,hgr.2,Or.inr rfl⟩
 · by_cases hroom:n+m≤cap
   · have hfit2:n*i.size+news.length≤cur.size:=by rw [hl,hcs,←Nat.add_mul];exact Nat.mul_le_mul_right _ hroom
     have hr:=run_append_room (P:=P) w t ty e i ht hi g n cap cur hg ad m c news hl hnews h1 hroom hfit2;refine ⟨_,_,hr,⟨hlen,.inr ⟨g,cap,_,rfl,hbg,setRow_heap w g cur _ e _ hg,hroom,hcm,?_,?_⟩⟩,⟨rfl,rfl,rfl,by simp,fun k _ hk=>setRow_other w g k _ (fun e=>hk (by simp [Value.ownBlock,e]))⟩,Or.inl rfl⟩
     · simp only [List.size_toArray,List.length_append,List.length_take,List.length_drop,Array.length_toList]
       omega
     · rw [htake,←hlen]
       exact List.take_left
   · have holds:∀ j u,xs[j]?=some u→w.cell? ((⟨g,0,none⟩:Addr).add j)=some u:=hown.cells (g:=g) rfl
     have hr:=run_append_grow (P:=P) w t ty e i z ht hi hz ⟨g,0,none⟩ n cap xs hown.1 holds ad m c news hl hnews (by omega) (by omega) (hfit cap (by omega))
     have hgr:=grown cap (by omega) (Value.ownBlock (.slice (some ⟨g,0,none⟩) n cap))
     exact ⟨_,_,hr,hgr.1,hgr.2,Or.inr rfl⟩
end
theorem zgy {P:Program} {w:World} {ops:Array Oper} {rest:List Oper} {o:Oper} {a:Act} {Q:Exit→Act→World→Prop} (hgd:o.guard=none) (s x:Operand) (t:TypeId)
 (ho:o.op=.call { callee:=.builtin .append,args:=#[s,x],argTypes:=#[t,t] })
 (base:Nat) (e:TypeId) (i:TypeInfo) (z:Value) (ht:P.underlying t=some (.slice e)) (hi:P.info? e=some i) (hz:i.zero=some z)
 (hsize:i.size=1) (hby:i.bytes=1) (hzs:z.cells.size=1)
 {v:Value} {n:Nat} {xs:List Value} (hs:a.eval s=v) (hown:w.ownsRow base e 1 v n xs)
 {K:Nat→Prop} {A:Option Addr} {m c:Nat} {news:List Value} (hx:a.eval x=.slice A m c) (hr:za6 w K 1 A m news) (h1:∀ u∈news,u.oneCell'=true)
 (h63:n+m≤180000000000000) (hbase:base≤w.heap.size)
 (h:∀ A' c' w',w'.ownsRow base e 1 (.slice A' (n+m) c') (n+m) (xs++news)→Grew base w w' v (.slice A' (n+m) c')→wpList P ops Q rest (a.put o.dst (.slice A' (n+m) c')) w') :
 wpList P ops Q (o::rest) a w:=by
 rcases Nat.lt_or_ge m 1 with hm | hm
 · obtain rfl:m=0:=by omega
   have hcap:n≤maxLen:=by unfold maxLen;omega
   have hnw:news=[]:=List.eq_nil_of_length_eq_zero (by simpa using hr.1)
   subst hnw;refine wpList_plain hgd fun _ hK=>?_
   obtain ⟨A',c',rfl⟩:=zcb hown;have hrun:(Builtin.append_ #[t,t] o.type #[.slice A' n c',.slice A 0 c]).run P w=.ok (.slice A' n c') w:=by
    rcases hown.2 with ⟨h2,rfl⟩ | ⟨g,cap,cur,h2,_,_,hnc,_⟩
    · injection h2 with h3 h4 h5
      subst h3 h5;rcases A with _ | ad <;> simp [Builtin.append_,run_underlying ht,sizeOf,typeInfo,hi,Builtin.lenOf,Builtin.firstCells,loadCells,loadCellsFrom]
    · injection h2 with h3 h4 h5
      subst h3 h5;rcases A with _ | ad
      · simp [Builtin.append_,run_underlying ht,sizeOf,typeInfo,hi,Builtin.lenOf,Builtin.firstCells,hnc,storeCells]
      · simp [Builtin.append_,run_underlying ht,sizeOf,typeInfo,hi,Builtin.lenOf,Builtin.firstCells,hnc,storeCells,loadCells,loadCellsFrom]
   unfold Oper.wp execOp;simp only [ho,resolve,invoke,builtin,Sem.run_bind,Sem.run_pure,Result.andThen_ok,List.map_toArray,List.map_cons,List.map_nil,hs,hx,hrun];exact hK _ _ (h A' c' w (by simpa using hown) ⟨Below.refl _ _,World.grownBy.refl w _,.inl rfl⟩)
 · obtain ⟨ad,rfl,_,hc⟩:=hr.2 (by omega)
   refine wpList_plain hgd fun _ hK=>?_
   obtain ⟨v',w',hrun,h2,h3,h4⟩:=zft (P:=P) w base t o.type e i z 1 1 ht hi hz hsize hby hzs (by omega) v n xs hown ad m c news hr.1 hc h1 (by unfold maxLen;omega) (fun old ho=>zhC ho h63) hbase
   obtain ⟨A',c',rfl⟩:=zcb h2;unfold Oper.wp execOp;simp only [ho,resolve,invoke,builtin,Sem.run_bind,Sem.run_pure,Result.andThen_ok,List.map_toArray,List.map_cons,List.map_nil,hs,hx,hrun];refine hK _ _ (h A' c' w' h2 ⟨(Below.refl _ _).grown h3 hbase (zdb hown),h3,?_⟩);rcases h4 with h4 | h4
   · exact .inl h4
   · exact .inr ⟨_,h4,Nat.le_refl _⟩
def flatN (l:List Int):List UInt8:=(l.map fun n=>putL n.toNat).flatten
def zc4 (l:List Int):List UInt8 × Int:=if ∀ n∈l,0≤n then (flatN l,0) else ([],1)
def vecL (l:List UInt8):List UInt8 × Int:=if l.length≤65536 then (putL l.length++l,0) else ([],2)
theorem zjW (l:List Int) {j:Nat} (h:j<l.length):flatN (l.take (j+1))=flatN (l.take j)++putL l[j].toNat:=by
 unfold flatN;rw [List.take_succ_eq_append_getElem h,List.map_append,List.flatten_append];simp
theorem zc9 {l:List Int} (h:I63 l):(flatN l).length≤10*l.length:=by
 induction l with
 | nil=>simp [flatN]
 | cons n l ih=>
   have h1:=ih fun m hm=>h m (List.mem_cons_of_mem _ hm)
   have h2:=zbg (n:=n.toNat) (by have:=h n (List.mem_cons_self ..);omega)
   unfold flatN at h1 ⊢;simp only [List.map_cons,List.flatten_cons,List.length_append,List.length_cons];omega
theorem zfn (v:Value) (l:List Int) (K:Nat→Prop) (w:World) (hv:IsL Rp.int w K v l) (hl:l.length≤17592186043909) :
 Calls Tryz.prog 129 #[v] w fun e w'=>∃ A' c',e=.returned (.tuple #[.slice A' (zc4 l).1.length c',.int .i64 (zc4 l).2]) ∧
  w'.ownsRow w.heap.size 5 1 (.slice A' (zc4 l).1.length c') (zc4 l).1.length (za3 (zc4 l).1)∧Below w.heap.size w w':=by
 obtain ⟨i0,hi,hz0,hz1,hz2⟩:=info_parts Tryz.info5;have hv0:=hv;obtain ⟨A,c,cs,rfl,hr,hcl,hlc,hcc,_⟩:=hv;obtain ⟨rfl,h63⟩:=zfz hcl;have hfl:=fun j=>zc9 (l:=l.take j) (fun n hn=>h63 n (List.mem_of_mem_take hn))
 have HFL:=Lib.hid hfl;clear hfl;go_enter Tryz.func129,Tryz.ntmps129
 go_wp2;go_loopw [4,9] (fun b i wr=>∃ (j:Nat) (acc:List UInt8) (A4:Option Addr) (c4:Nat),i=.int .i64 j∧j≤l.length∧b=.slice A4 acc.length c4∧wr.ownsRow w.heap.size 5 1 (.slice A4 acc.length c4) acc.length (za3 acc)∧acc=flatN (l.take j) ∧
  (∀ n∈l.take j,0≤n)∧Below w.heap.size w wr) (fun _ i _=>l.length-(intOf i).toNat)
 case atStart=>exact ⟨0,[],none,0,rfl,Nat.zero_le _,rfl,World.ownsRow_nil _ _ _ _,rfl,by simp,Below.refl _ _⟩
 case round=>
  obtain ⟨j,acc,A4,c4,rfl,hj,rfl,hown,hacc,hpos,hb⟩:=hrel;have hal:acc.length≤175921860439090:=by rw [hacc];have h1:=HFL.out j;have h2:=List.length_take_le j l;omega
  have HACC:=Lib.hid hacc;clear hacc;have HPOS:=Lib.hid hpos;clear hpos;have hsz:=hb.size;by_cases hlt:j<l.length
  · obtain ⟨ad,u,rfl,_,hu,hc⟩:=(hr.step hb).at_ hlt
    simp only [List.getElem?_map,List.getElem?_eq_getElem hlt,Option.map_some,Option.some.injEq] at hu;subst hu;unfold I64 at hc;have hmem:=h63 l[j] (List.getElem_mem hlt);have hsn:=zjW l hlt;have htk:l.take (j+1)=l.take j++[l[j]]:=List.take_succ_eq_append_getElem hlt;have hmm:l[j]∈l:=List.getElem_mem hlt;generalize l[j]=n at hc hmem hsn htk hmm;have HSN:=Lib.hid hsn;clear hsn;have HTK:=Lib.hid htk;clear htk;have HMM:=Lib.hid hmm;clear hmm;obtain ⟨-,hn63⟩:=hmem;by_cases hneg:n<0
    · go_wp2
      go_ret2;have hx:zc4 l=([],1):=if_neg (fun h=>by have:=h n HMM.out;omega)
      rw [hx];exact ⟨none,0,rfl,World.ownsRow_nil _ _ _ _,hb⟩
    · obtain ⟨k,rfl⟩:∃ k:Nat,n=(k:Int):=⟨n.toNat,by omega⟩
      have hp10:(putL k).length≤10:=zbg (by omega)
      have hput:=fun W=>zkQ k hp10 W
      have HPUT:=Lib.hid hput;clear hput;rw [Int.toNat_natCast] at HSN;generalize putL k=pk at hp10 HPUT HSN;go_wp2_with (first
       | (go_at_call 180;refine (HPUT.out _).mono ?_;rintro e w1 ⟨A5,c5,rfl,own5,hb5⟩;have own4:=za4 hown hb5 (Nat.le_refl _);have hr5:=za6.of_own own5;have hs5:=hb5.size)
       | (at_builtin;refine zgy rfl (.tmp 15) (.tmp 18) _ rfl w.heap.size 5 i0 _ Tryz.underlying32 hi hz0 hz1 hz2 rfl rfl own4 rfl hr5 (zan _) (by omega) (by omega) ?_;intro A6 c6 w2 own6 hg6))
      go_roundw
      case rel=>
       refine ⟨j+1,acc++pk,A6,c6,by go_num,by omega,by simp,?_,by rw [HSN.out,HACC.out],?_,(hb.trans (hb5.mono hsz)).trans hg6.below⟩
       · rw [List.length_append,zaH];exact own6
       · rw [HTK.out]
         intro n hn;rcases List.mem_append.1 hn with hn | hn
         · exact HPOS.out n hn
         · rw [List.mem_singleton.1 hn];omega
      case measure=>simp [intOf];omega
  · obtain rfl:j=l.length:=by omega
    have hx:zc4 l=(acc,0):=by
     have h1:=HPOS.out;have h2:=HACC.out;rw [List.take_length] at h1 h2;rw [h2];exact if_pos h1
    have HX:=Lib.hid hx;clear hx;go_wp2;go_ret2;rw [HX.out];exact ⟨A4,c4,rfl,hown,hb⟩
theorem zg6 (v:Value) (l:List UInt8) (K:Nat→Prop) (w:World) (hv:IsB w K v l) :
 Calls Tryz.prog 130 #[v] w fun e w'=>∃ A' c',e=.returned (.tuple #[.slice A' (vecL l).1.length c',.int .i64 (vecL l).2]) ∧
  w'.ownsRow w.heap.size 5 1 (.slice A' (vecL l).1.length c') (vecL l).1.length (za3 (vecL l).1)∧Below w.heap.size w w':=by
 have hv0:=hv;obtain ⟨A,c,rfl,hr,hlc,hcc,_⟩:=hv;unfold vecL;by_cases h:l.length≤65536
 · rw [if_pos h]
   have hp10:(putL l.length).length≤10:=zbg (by omega)
   have hput:=fun W=>zkQ l.length hp10 W
   have HPUT:=Lib.hid hput;clear hput;generalize putL l.length=pk at hp10 HPUT;go_enter Tryz.func130,Tryz.ntmps130
   go_wp2_with fail;refine (HPUT.out _).mono ?_;rintro e w1 ⟨A5,c5,rfl,own5,hb5⟩;have hr5:=(za6.of_own own5).alloc (.cells #[.slice A5 pk.length c5,.slice A l.length c] 32);have hr6:=(hr.step hb5).alloc (.cells #[.slice A5 pk.length c5,.slice A l.length c] 32);go_wp2_with fail;refine (zeP w1.heap.size c5 c A5 A pk l (fun _=>True) _ ((za6.new rfl rfl rfl).more (fun _ _=>trivial)) (hr5.more (fun _ _=>trivial)) (hr6.more (fun _ _=>trivial)) (by omega)).mono ?_
   rintro e w2 ⟨A7,c7,rfl,own7,hb7⟩;go_wp2;go_ret2;exact ⟨A7,c7,by rw [List.length_append];rfl,zac own7 (by have:=hb5.size;simp;omega),(hb5.alloc hb5.size _).trans (hb7.mono (by have:=hb5.size;simp;omega))⟩
 · rw [if_neg h]
   have h':(65536:Int)<(l.length:Int):=by omega
   go_enter Tryz.func130,Tryz.ntmps130
   go_wp2;go_ret2;exact ⟨none,0,rfl,World.ownsRow_nil _ _ _ _,Below.refl _ _⟩
end Go.Proofs.YthblkdnijhphhaaGreat
