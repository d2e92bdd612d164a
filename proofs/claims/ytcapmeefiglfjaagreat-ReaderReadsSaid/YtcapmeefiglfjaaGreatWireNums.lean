/- A part of the proof. -/
import Derived.Test.YtcapmeefiglfjaaGreatWireRd
import Derived.Test.YtcapmeefiglfjaaGreatMapP
import Derived.Test.YtcapmeefiglfjaaGreatSlS
set_option maxHeartbeats 1000000
set_option maxRecDepth 100000
namespace Go.Proofs.YtcapmeefiglfjaaGreat
open Go.RowKit
theorem xO {need old:Nat} (h:old<need) (hb:need≤180000000000000):Builtin.nextslicecap need old*1≤281474976710656:=by
 rw [zk0];unfold Builtin.nextslicecap;split
 · omega
 · split
   · omega
   · rw [growBy_four]
     repeat' split
     all_goals omega
section
variable {P:Program} (w:World)
theorem pZ (base:Nat) (t ty e:TypeId) (i:TypeInfo) (z:Value) (size bytes:Nat) (ht:P.underlying t=some (.slice e)) (hi:P.info? e=some i) (hz:i.zero=some z)
 (hsize:i.size=size) (hby:i.bytes=bytes) (hzs:z.cells.size=size) (hsz:0<size)
 (v:Value) (n:Nat) (xs:List Value) (hown:w.ownsRow base e size v n xs)
 (ad:Addr) (m c:Nat) (news:List Value) (hl:news.length=m*size) (hnews:∀ j u,news[j]?=some u→w.cell? (ad.add j)=some u) (h1:∀ u∈news,u.oneCell'=true)
 (h63:n+m≤maxLen) (hfit:∀ old,old<n+m→Builtin.nextslicecap (n+m) old*bytes≤281474976710656) (hbase:base≤w.heap.size) :
 ∃ v' w',(Builtin.append_ #[t,t] ty #[v,.slice (some ad) m c]).run P w=.ok v' w'∧w'.ownsRow base e size v' (n+m) (xs++news)∧w.grownBy w' v.ownBlock∧(v'.ownBlock=v.ownBlock∨v'.ownBlock=some w.heap.size):=by
 subst hsize hby;have h63i:((n+m:Nat):Int)≤9223372036854775807:=by unfold maxLen at h63;omega
 have hlen:(xs++news).length=(n+m)*i.size:=by rw [zie,hown.1,hl,zk6]
 have grown:∀ (old:Nat),old<n+m→∀ (row:Option Nat),
  (w.drew.alloc (.cells (xs.toArray++news.toArray++Builtin.zeroCells z.cells (grownCap w (n+m) old e-(n+m))) e)).ownsRow base e i.size
   (.slice (some ⟨w.heap.size,0,none⟩) (n+m) (grownCap w (n+m) old e)) (n+m) (xs++news) ∧
  w.grownBy (w.drew.alloc (.cells (xs.toArray++news.toArray++Builtin.zeroCells z.cells (grownCap w (n+m) old e-(n+m))) e)) row:=by
  intro old ho row;have hge:=zkx w (n+m) old e;have hcm:grownCap w (n+m) old e≤maxLen:=zjL w (n+m) old e h63;refine ⟨⟨hlen,.inr ⟨w.heap.size,_,_,rfl,hbase,zkE w.drew _,hge,hcm,?_,?_⟩⟩,⟨rfl,rfl,rfl,by simp,fun k hk _=>Below.heap_alloc w.drew _ k hk⟩⟩
  · simp only [zjP,ziO,zko,hzs,hown.1,hl,←zk6]
    congr 1
    omega
  · simp only [zjS,ziq]
    rw [←ziq,←hlen];exact zk1
 rcases hown.2 with ⟨rfl,rfl⟩ | ⟨g,cap,cur,rfl,hbg,hg,hnc,hcm,hcs,htake⟩
 · have hx:xs=[]:=zis (by simpa using hown.1)
   subst hx;by_cases hm:m=0
   · subst hm
     have hn:news=[]:=zis (by simpa using hl)
     subst hn;refine ⟨.slice none 0 0,w,?_,zin w base e i.size,⟨rfl,rfl,rfl,zic _,fun _ _ _=>rfl⟩,Or.inl rfl⟩
     simp [Builtin.append_,ziK ht,sizeOf,typeInfo,hi,Builtin.lenOf,Builtin.firstCells,loadCells,loadCellsFrom]
   · have h0:=hfit 0 (by omega)
     simp only [zj5] at h0;rw [nextslicecap_zero (by omega)] at h0
     have hr:=run_append_nil (P:=P) w t ty e i z ht hi hz ad m c news hl hnews (by omega) (by omega) h0
     have hgr:=grown 0 (by omega) (Value.ownBlock (.slice none 0 0))
     simp only [zj5,List.nil_append,Array.empty_append] at hgr ⊢;exact ⟨_,_,hr,hgr.1,hgr.2,Or.inr rfl⟩
 · by_cases hroom:n+m≤cap
   · have hfit2:n*i.size+news.length≤cur.size:=by rw [hl,hcs,←zk6];exact zjm _ hroom
     have hr:=run_append_room (P:=P) w t ty e i ht hi g n cap cur hg ad m c news hl hnews h1 hroom hfit2;refine ⟨_,_,hr,⟨hlen,.inr ⟨g,cap,_,rfl,hbg,zjT w g cur _ e _ hg,hroom,hcm,?_,?_⟩⟩,⟨rfl,rfl,rfl,by simp,fun k _ hk=>zkq w g k _ (fun e=>hk (by simp [Value.ownBlock,e]))⟩,Or.inl rfl⟩
     · simp only [ziO,zie,zio,ziG,Array.length_toList]
       omega
     · rw [htake,←hlen]
       exact zk1
   · have holds:∀ j u,xs[j]?=some u→w.cell? ((⟨g,0,none⟩:Addr).add j)=some u:=hown.cells (g:=g) rfl
     have hr:=run_append_grow (P:=P) w t ty e i z ht hi hz ⟨g,0,none⟩ n cap xs hown.1 holds ad m c news hl hnews (by omega) (by omega) (hfit cap (by omega))
     have hgr:=grown cap (by omega) (Value.ownBlock (.slice (some ⟨g,0,none⟩) n cap))
     exact ⟨_,_,hr,hgr.1,hgr.2,Or.inr rfl⟩
end
theorem sK {P:Program} {w:World} {ops:Array Oper} {rest:List Oper} {o:Oper} {a:Act} {Q:Exit→Act→World→Prop} (hgd:o.guard=none) (s x:Operand) (t:TypeId)
 (ho:o.op=.call { callee:=.builtin .append,args:=#[s,x],argTypes:=#[t,t] })
 (base:Nat) (e:TypeId) (i:TypeInfo) (z:Value) (ht:P.underlying t=some (.slice e)) (hi:P.info? e=some i) (hz:i.zero=some z)
 (hsize:i.size=1) (hby:i.bytes=1) (hzs:z.cells.size=1)
 {v:Value} {n:Nat} {xs:List Value} (hs:a.eval s=v) (hown:w.ownsRow base e 1 v n xs)
 {K:Nat→Prop} {A:Option Addr} {m c:Nat} {news:List Value} (hx:a.eval x=.slice A m c) (hr:aG w K 1 A m news) (h1:∀ u∈news,u.oneCell'=true)
 (h63:n+m≤180000000000000) (hbase:base≤w.heap.size)
 (h:∀ A' c' w',w'.ownsRow base e 1 (.slice A' (n+m) c') (n+m) (xs++news)→xZ base w w' v (.slice A' (n+m) c')→wpList P ops Q rest (a.put o.dst (.slice A' (n+m) c')) w') :
 wpList P ops Q (o::rest) a w:=by
 rcases zjb m 1 with hm | hm
 · obtain rfl:m=0:=by omega
   have hcap:n≤maxLen:=by unfold maxLen;omega
   have hnw:news=[]:=zis (by simpa using hr.1)
   subst hnw;refine zkf hgd fun _ hK=>?_
   obtain ⟨A',c',rfl⟩:=gC hown;have hrun:(Builtin.append_ #[t,t] o.type #[.slice A' n c',.slice A 0 c]).run P w=.ok (.slice A' n c') w:=by
    rcases hown.2 with ⟨h2,rfl⟩ | ⟨g,cap,cur,h2,_,_,hnc,_⟩
    · injection h2 with h3 h4 h5
      subst h3 h5;rcases A with _ | ad <;> simp [Builtin.append_,ziK ht,sizeOf,typeInfo,hi,Builtin.lenOf,Builtin.firstCells,loadCells,loadCellsFrom]
    · injection h2 with h3 h4 h5
      subst h3 h5;rcases A with _ | ad
      · simp [Builtin.append_,ziK ht,sizeOf,typeInfo,hi,Builtin.lenOf,Builtin.firstCells,hnc,storeCells]
      · simp [Builtin.append_,ziK ht,sizeOf,typeInfo,hi,Builtin.lenOf,Builtin.firstCells,hnc,storeCells,loadCells,loadCellsFrom]
   unfold Oper.wp execOp;simp only [ho,resolve,invoke,builtin,zkg,Sem.run_pure,Result.andThen_ok,zk7,zj2,zjN,hs,hx,hrun];exact hK _ _ (h A' c' w (by simpa using hown) ⟨zif _ _,World.grownBy.refl w _,.inl rfl⟩)
 · obtain ⟨ad,rfl,_,hc⟩:=hr.2 (by omega)
   refine zkf hgd fun _ hK=>?_
   obtain ⟨v',w',hrun,h2,h3,h4⟩:=pZ (P:=P) w base t o.type e i z 1 1 ht hi hz hsize hby hzs (by omega) v n xs hown ad m c news hr.1 hc h1 (by unfold maxLen;omega) (fun old ho=>xO ho h63) hbase
   obtain ⟨A',c',rfl⟩:=gC h2;unfold Oper.wp execOp;simp only [ho,resolve,invoke,builtin,zkg,Sem.run_pure,Result.andThen_ok,zk7,zj2,zjN,hs,hx,hrun];refine hK _ _ (h A' c' w' h2 ⟨(zif _ _).grown h3 hbase (jW hown),h3,?_⟩);rcases h4 with h4 | h4
   · exact .inl h4
   · exact .inr ⟨_,h4,zic _⟩
def flatN (l:List Int):List UInt8:=(l.map fun n=>putL n.toNat).flatten
def fP (l:List Int):List UInt8 × Int:=if ∀ n∈l,0≤n then (flatN l,0) else ([],1)
def mZ (l:List UInt8):List UInt8 × Int:=if l.length≤65536 then (putL l.length++l,0) else ([],2)
theorem zaR (l:List Int) {j:Nat} (h:j<l.length):flatN (l.take (j+1))=flatN (l.take j)++putL l[j].toNat:=by
 unfold flatN;rw [ziy h,ziZ,List.flatten_append];simp
theorem fZ {l:List Int} (h:I63 l):(flatN l).length≤10*l.length:=by
 induction l with
 | nil=>simp [flatN]
 | cons n l ih=>
   have h1:=ih fun m hm=>h m (zii _ hm)
   have h2:=dR (n:=n.toNat) (by have:=h n (zih ..);omega)
   unfold flatN at h1 ⊢;simp only [zj2,List.flatten_cons,zie,List.length_cons];omega
theorem oD (v:Value) (l:List Int) (K:Nat→Prop) (w:World) (hv:IsL Rp.int w K v l) (hl:l.length≤17592186043909) :
 Calls Tryz.prog 145 #[v] w fun e w'=>∃ A' c',e=.returned (.tuple #[.slice A' (fP l).1.length c',.int .i64 (fP l).2]) ∧
  w'.ownsRow w.heap.size 5 1 (.slice A' (fP l).1.length c') (fP l).1.length (aE (fP l).1)∧Below w.heap.size w w':=by
 obtain ⟨i0,hi,hz0,hz1,hz2⟩:=ziH Tryz.info5;have hv0:=hv;obtain ⟨A,c,cs,rfl,hr,hcl,hlc,hcc,_⟩:=hv;obtain ⟨rfl,h63⟩:=qA hcl;have hfl:=fun j=>fZ (l:=l.take j) (fun n hn=>h63 n (zjh hn))
 have HFL:=zia hfl;clear hfl;go_enter Tryz.func145,Tryz.ntmps145
 go_wp2;go_loopw [4,9] (fun b i wr=>∃ (j:Nat) (acc:List UInt8) (A4:Option Addr) (c4:Nat),i=.int .i64 j∧j≤l.length∧b=.slice A4 acc.length c4∧wr.ownsRow w.heap.size 5 1 (.slice A4 acc.length c4) acc.length (aE acc)∧acc=flatN (l.take j) ∧
  (∀ n∈l.take j,0≤n)∧Below w.heap.size w wr) (fun _ i _=>l.length-(intOf i).toNat)
 case atStart=>exact ⟨0,[],none,0,rfl,zir _,rfl,zin _ _ _ _,rfl,by simp,zif _ _⟩
 case round=>
  obtain ⟨j,acc,A4,c4,rfl,hj,rfl,hown,hacc,hpos,hb⟩:=hrel;have hal:acc.length≤175921860439090:=by rw [hacc];have h1:=HFL.out j;have h2:=List.length_take_le j l;omega
  have HACC:=zia hacc;clear hacc;have HPOS:=zia hpos;clear hpos;have hsz:=hb.size;by_cases hlt:j<l.length
  · obtain ⟨ad,u,rfl,_,hu,hc⟩:=(hr.step hb).at_ hlt
    simp only [zj1,zib hlt,Option.map_some,ziL] at hu;subst hu;unfold I64 at hc;have hmem:=h63 l[j] (ziD hlt);have hsn:=zaR l hlt;have htk:l.take (j+1)=l.take j++[l[j]]:=ziy hlt;have hmm:l[j]∈l:=ziD hlt;generalize l[j]=n at hc hmem hsn htk hmm;have HSN:=zia hsn;clear hsn;have HTK:=zia htk;clear htk;have HMM:=zia hmm;clear hmm;obtain ⟨-,hn63⟩:=hmem;by_cases hneg:n<0
    · go_wp2
      go_ret2;have hx:fP l=([],1):=zig (fun h=>by have:=h n HMM.out;omega)
      rw [hx];exact ⟨none,0,rfl,zin _ _ _ _,hb⟩
    · obtain ⟨k,rfl⟩:∃ k:Nat,n=(k:Int):=⟨n.toNat,by omega⟩
      have hp10:(putL k).length≤10:=dR (by omega)
      have hput:=fun W=>zce k hp10 W
      have HPUT:=zia hput;clear hput;rw [Int.toNat_natCast] at HSN;generalize putL k=pk at hp10 HPUT HSN;go_wp2_with (first
       | (go_at_call 197;refine (HPUT.out _).mono ?_;rintro e w1 ⟨A5,c5,rfl,own5,hb5⟩;have own4:=aD hown hb5 (zic _);have hr5:=aG.of_own own5;have hs5:=hb5.size)
       | (at_builtin;refine sK rfl (.tmp 15) (.tmp 18) _ rfl w.heap.size 5 i0 _ Tryz.underlying31 hi hz0 hz1 hz2 rfl rfl own4 rfl hr5 (aW _) (by omega) (by omega) ?_;intro A6 c6 w2 own6 hg6))
      go_roundw
      case rel=>
       refine ⟨j+1,acc++pk,A6,c6,by go_num,by omega,by simp,?_,by rw [HSN.out,HACC.out],?_,(hb.trans (hb5.mono hsz)).trans hg6.below⟩
       · rw [zie,aZ];exact own6
       · rw [HTK.out]
         intro n hn;rcases ziA.1 hn with hn | hn
         · exact HPOS.out n hn
         · rw [ziw.1 hn];omega
      case measure=>simp [intOf];omega
  · obtain rfl:j=l.length:=by omega
    have hx:fP l=(acc,0):=by
     have h1:=HPOS.out;have h2:=HACC.out;rw [ziQ] at h1 h2;rw [h2];exact zij h1
    have HX:=zia hx;clear hx;go_wp2;go_ret2;rw [HX.out];exact ⟨A4,c4,rfl,hown,hb⟩
theorem rP (v:Value) (l:List UInt8) (K:Nat→Prop) (w:World) (hv:IsB w K v l) :
 Calls Tryz.prog 146 #[v] w fun e w'=>∃ A' c',e=.returned (.tuple #[.slice A' (mZ l).1.length c',.int .i64 (mZ l).2]) ∧
  w'.ownsRow w.heap.size 5 1 (.slice A' (mZ l).1.length c') (mZ l).1.length (aE (mZ l).1)∧Below w.heap.size w w':=by
 have hv0:=hv;obtain ⟨A,c,rfl,hr,hlc,hcc,_⟩:=hv;unfold mZ;by_cases h:l.length≤65536
 · rw [zij h]
   have hp10:(putL l.length).length≤10:=dR (by omega)
   have hput:=fun W=>zce l.length hp10 W
   have HPUT:=zia hput;clear hput;generalize putL l.length=pk at hp10 HPUT;go_enter Tryz.func146,Tryz.ntmps146
   go_wp2_with fail;refine (HPUT.out _).mono ?_;rintro e w1 ⟨A5,c5,rfl,own5,hb5⟩;have hr5:=(aG.of_own own5).alloc (.cells #[.slice A5 pk.length c5,.slice A l.length c] 31);have hr6:=(hr.step hb5).alloc (.cells #[.slice A5 pk.length c5,.slice A l.length c] 31);go_wp2_with fail;refine (oR w1.heap.size c5 c A5 A pk l (fun _=>True) _ ((aG.new rfl rfl rfl).more (fun _ _=>trivial)) (hr5.more (fun _ _=>trivial)) (hr6.more (fun _ _=>trivial)) (by omega)).mono ?_
   rintro e w2 ⟨A7,c7,rfl,own7,hb7⟩;go_wp2;go_ret2;exact ⟨A7,c7,by rw [zie];rfl,aO own7 (by have:=hb5.size;simp;omega),(hb5.alloc hb5.size _).trans (hb7.mono (by have:=hb5.size;simp;omega))⟩
 · rw [zig h]
   have h':(65536:Int)<(l.length:Int):=by omega
   go_enter Tryz.func146,Tryz.ntmps146
   go_wp2;go_ret2;exact ⟨none,0,rfl,zin _ _ _ _,zif _ _⟩
