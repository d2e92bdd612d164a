/- A part of the proof. -/
import Derived.Test.YtjahaflkdpmhpaaGreatMapW
import Derived.Test.YtjahaflkdpmhpaaGreatAppZG
import Derived.Test.YtjahaflkdpmhpaaGreatHostDef
set_option maxHeartbeats 8000000
set_option maxRecDepth 100000
namespace Go.Proofs.YtjahaflkdpmhpaaGreat
open Go.RowKit
theorem GoodX.mono {B C:Int} {x:Rc × Int × Int} (h:GoodX B x) (hBC:B≤C):GoodX C x:=
 ⟨⟨h.1.kind,⟨h.1.lba.1,h.1.lba.2.1,Int.le_trans h.1.lba.2.2 hBC⟩,h.1.n,h.1.ver,h.1.rest,h.1.data,h.1.trim⟩,h.2⟩
theorem last_no {log:List (Nat × Rc)} {b:Int} (hn:∀ x∈log,¬covR x.2 b):lastC log b=none:=by
 unfold lastC;rw [Option.map_eq_none_iff,List.find?_eq_none];intro x hx;have:=hn x (List.mem_reverse.1 hx);simp only [decide_eq_true_eq];exact this
def contO:Option Rc→Int→List UInt8
 | none,_=>zeros 16
 | some r,b=>contR r b
section
variable {n:Nat} {B:Int} {log:List (Nat × Rc)} {m:List Ex}
end
section
variable {Z:Nat} {log:List (Nat × Rc)}
end
def zbH (H:Nat→Hd) (log:List (Nat × Rc)) (k:Nat):List UInt8:=if rsOf log k=[] then [] else (headL (H k)).1++frsL (rsOf log k)
def OkHead (h:Hd):Prop:=OkHd h∧(headL h).2=0∧(headL h).1.length≤45
structure GoodLogH (H:Nat→Hd) (n:Nat) (B:Int) (log:List (Nat × Rc)):Prop where
 hd:∀ k,OkHead (H k)
 zone:∀ x∈log,x.1<n
 good:∀ x∈log,GoodR B x.2
 rise:log.Pairwise (fun x y=>x.2.ver<y.2.ver)
 fits:∀ k,(zbH H log k).length≤4000
def fdH (H:Nat→Hd) (log:List (Nat × Rc)) (k:Nat):Fd:=if rsOf log k=[] then f0d else ⟨true,H k,rsOf log k,atsL (headL (H k)).1.length (rsOf log k),(headL (H k)).1.length+(frsL (rsOf log k)).length⟩
def entsH (H:Nat→Hd) (log:List (Nat × Rc)) (ks:List Nat):List (Rc × Int × Int):=ks.flatMap fun k=>entsF k (fdH H log k)
section
variable {H:Nat→Hd} {n:Nat} {B:Int} {log:List (Nat × Rc)}
theorem GoodLogH.recs (h:GoodLogH H n B log) (hB:B≤1000000) (k:Nat):errL (rsOf log k)=0∧∀ r∈rsOf log k,OkRc r:=
 ⟨errL_of fun _ hr=>(h.good _ (rsOf_mem.1 hr)).fit hB,fun _ hr=>(h.good _ (rsOf_mem.1 hr)).ok hB⟩
theorem zbH_nil (h:GoodLogH H n B log) (hB:B≤1000000) {k:Nat}:zbH H log k=[]↔rsOf log k=[]:=by
 unfold zbH;split
 · rename_i h;simp [h]
 · rename_i hne
   simp only [hne,iff_false];intro he;obtain ⟨r,l,e⟩:=List.exists_cons_of_ne_nil hne;have hg:=h.good _ (rsOf_mem.1 (show r∈rsOf log k by rw [e];exact List.mem_cons_self ..))
   have h5:=((recL_len (hg.ok hB)).2 (hg.fit hB)).2;dsimp only at h5;have h2:=congrArg List.length he;rw [e] at h2;simp only [frsL,List.length_append,List.length_nil] at h2;omega
theorem ents_atH (h:GoodLogH H n B log) (hB:B≤1000000) {k:Nat} {x:Rc × Int × Int} :
 x∈entsF k (fdH H log k)↔∃ (i:Nat) (o:Int),(rsOf log k)[i]?=some x.1∧(plsL (headL (H k)).1.length (rsOf log k))[i]?=some o∧x=(x.1,(k:Int),o):=by
 unfold fdH entsF;by_cases hr:rsOf log k=[]
 · rw [if_pos hr,hr]
   simp [f0d]
 · rw [if_neg hr]
   simp only;have hp:=ents_pls (rsOf log k) (headL (H k)).1.length fun r hr=>(h.good _ (rsOf_mem.1 hr)).fit hB
   rw [←hp,List.mem_iff_getElem?];constructor
   · rintro ⟨i,hi⟩
     rw [List.getElem?_zipWith] at hi;split at hi
     · rename_i a b ha hb
       injection hi with hi;subst hi;exact ⟨i,b+dataL a,ha,by rw [List.getElem?_zipWith,ha,hb],rfl⟩
     · cases hi
   · rintro ⟨i,o,h1,h2,h3⟩
     refine ⟨i,?_⟩;rw [List.getElem?_zipWith,h1] at h2 ⊢;split at h2
     · rename_i a b ha hb
       injection h2 with h2;injection ha with ha;subst ha;rw [h2];exact congrArg some h3.symm
     · cases h2
theorem GoodLogH.ent (h:GoodLogH H n B log) (hB:B≤1000000) {k:Nat} {x:Rc × Int × Int} (hx:x∈entsF k (fdH H log k)) :
 (k,x.1)∈log∧x.2.1=k∧0≤x.2.2∧x.2.2+x.1.data.length≤((zbH H log k).length:Int)∧((zbH H log k).drop x.2.2.toNat).take x.1.data.length=x.1.data:=by
 obtain ⟨i,o,h1,h2,h3⟩:=(ents_atH h hB).1 hx;obtain ⟨h4,h5⟩:=h.recs hB k;have hp:=place_data h4 h5 h1 h2;have hne:rsOf log k≠[]:=fun e=>by rw [e] at h1;simp at h1
 have hz:zbH H log k=(headL (H k)).1++frsL (rsOf log k):=by unfold zbH;rw [if_neg hne]
 have e1:x.2.1=k:=by rw [h3]
 have e2:x.2.2=o:=by rw [h3]
 rw [e1,e2,hz];exact ⟨rsOf_mem.1 (List.mem_of_getElem? h1),rfl,hp⟩
theorem GoodLogH.has (h:GoodLogH H n B log) (hB:B≤1000000) {k:Nat} {r:Rc} (hr:(k,r)∈log):∃ x∈entsF k (fdH H log k),x.1=r:=by
 obtain ⟨i,hi⟩:=List.mem_iff_getElem?.1 (rsOf_mem.2 hr);have hl:i<(plsL (headL (H k)).1.length (rsOf log k)).length:=by rw [plsL_len];exact (List.getElem?_eq_some_iff.1 hi).1
 exact ⟨(r,(k:Int),_),(ents_atH h hB).2 ⟨i,_,hi,List.getElem?_eq_getElem hl,rfl⟩,rfl⟩
theorem GoodLogH.same (h:GoodLogH H n B log) {x y:Nat × Rc} (hx:x∈log) (hy:y∈log) (hv:x.2.ver=y.2.ver):x=y:=by
 obtain ⟨i,hi,rfl⟩:=List.getElem_of_mem hx;obtain ⟨j,hj,rfl⟩:=List.getElem_of_mem hy;have hp:=List.pairwise_iff_getElem.1 h.rise;rcases Nat.lt_trichotomy i j with hij | hij | hij
 · have:=hp i j hi hj hij;omega
 · subst hij;rfl
 · have:=hp j i hj hi hij;omega
theorem GoodLogH.entX (h:GoodLogH H n B log) (hn:n≤1000) (hB:B≤1000000) {k:Nat} {x:Rc × Int × Int} (hx:x∈entsF k (fdH H log k)):GoodX B x:=by
 obtain ⟨h1,h2,h3,h4,_⟩:=h.ent hB hx;have h5:=h.zone _ h1;have h6:=h.fits k;simp only at h5;exact ⟨h.good _ h1,by omega,by omega⟩
theorem run_seeH (h:GoodLogH H n B log) (hB:B≤1000000) {m:List Ex} {b:Int} (hm:Best ((entsH H log (List.range n)).map extX) b (see m b)) :
 (see m b=none∧∀ x∈log,¬covR x.2 b) ∨
 ∃ x∈log,covR x.2 b∧(∀ y∈log,covR y.2 b→y.2.ver≤x.2.ver)∧∃ t,see m b=some t∧t.1=x.2.ver ∧
   ((x.2.kind=2∧t.2.1 = -1)∨(x.2.kind=1∧t.2.1=x.1∧0≤t.2.2∧t.2.2+16≤((zbH H log x.1).length:Int)∧((zbH H log x.1).drop t.2.2.toNat).take 16=contR x.2 b)):=by
 have hall:∀ y∈log,∃ z∈(entsH H log (List.range n)).map extX,z.ver=y.2.ver∧(hasE z b=true↔covR y.2 b):=by
  intro y hy;obtain ⟨z,hz,hzr⟩:=h.has hB (k:=y.1) (r:=y.2) hy;refine ⟨extX z,List.mem_map.2 ⟨z,List.mem_flatMap.2 ⟨y.1,List.mem_range.2 (h.zone y hy),hz⟩,rfl⟩,?_,?_⟩
  · rw [←hzr];rfl
  · rw [ext_has,hzr]
 cases hs:see m b with
 | none=>
   rw [hs] at hm;refine .inl ⟨rfl,fun x hx hc=>?_⟩
   obtain ⟨z,hz,_,hzc⟩:=hall x hx;have:=hm z hz;rw [hzc.2 hc] at this;cases this
 | some t=>
   rw [hs] at hm;obtain ⟨e,e1,e2,e3,e4⟩:=hm;obtain ⟨x,hx,rfl⟩:=List.mem_map.1 e1;obtain ⟨k,_,hx⟩:=List.mem_flatMap.1 hx;obtain ⟨g1,g2,g3,g4,g5⟩:=h.ent hB hx;have hc:=(ext_has x b).1 e2;refine .inr ⟨(k,x.1),g1,hc,fun y hy hyc=>?_,t,rfl,?_,?_⟩
   · obtain ⟨z,hz,hzv,hzc⟩:=hall y hy
     rw [←hzv];exact e4 z hz (hzc.2 hyc)
   · rw [←e3];rfl
   · have hg:=h.good _ g1
     have hlb:=hg.lba;simp only at hlb;unfold covR at hc;rcases hg.kind with hk | hk
     · simp only at hk
       refine .inr ⟨hk,?_⟩;have hd:=hg.data hk;simp only at hd;have hz1:¬((k:Int) = -1):=by omega
       have ht:t=(x.1.ver,(k:Int),x.2.2+(b-x.1.lba)*16):=by
        rw [←e3];unfold seeE extX extOf;have hk2:¬x.1.kind=2:=by omega
        have hk3:¬x.1.kind=3:=by omega
        simp only [hk2,hk3,if_false,g2,hz1]
       rw [ht];refine ⟨rfl,by simp only;omega,by simp only;omega,?_⟩
       simp only;unfold contR;rw [if_neg (by omega),←g5]
       have e5:(x.2.2+(b-x.1.lba)*16).toNat=x.2.2.toNat+(16*(b-x.1.lba)).toNat:=by omega
       rw [e5,List.drop_take,List.drop_drop,List.take_take,Nat.min_eq_left (by omega)]
     · simp only at hk
       refine .inl ⟨hk,?_⟩;rw [←e3];unfold seeE extX extOf;simp [hk]
theorem last_isH (h:GoodLogH H n B log) {x:Nat × Rc} {b:Int} (hx:x∈log) (hc:covR x.2 b) (hn:∀ y∈log,covR y.2 b→y.2.ver≤x.2.ver):lastC log b=some x.2:=by
 cases hl:lastC log b with
 | none=>exact absurd hc (lastC_none hl x hx)
 | some r=>
   obtain ⟨z,hz,hzc,hzn⟩:=lastC_some h.rise hl;have:=h.same hz hx (Int.le_antisymm (hn _ hz hzc) (hzn _ hx hc));rw [←this]
def DevH (H:Nat→Hd) (log:List (Nat × Rc)) (n:Nat) (zs:List Zn):Prop:=zs.length=n∧∀ k<n,(zs.getD k z0).d=zbH H log k
variable {zs:List Zn} {m:List Ex}
def IsMapH (H:Nat→Hd) (log:List (Nat × Rc)) (n:Nat) (m:List Ex):Prop:=chainE 0 m∧∀ b,Best ((entsH H log (List.range n)).map extX) b (see m b)
theorem block_lastH (h:GoodLogH H n B log) (hB:B≤1000000) (hz:DevH H log n zs) (hm:IsMapH H log n m) (b:Int):blockB zs m b=contO (lastC log b) b:=by
 rcases run_seeH h hB (hm.2 b) with ⟨h1,h2⟩ | ⟨x,hx,hc,hnew,t,h1,_,h3⟩
 · unfold blockB
   rw [h1,last_no h2];rfl
 · unfold blockB
   rw [h1,last_isH h hx hc hnew];show _=contR x.2 b;rcases h3 with ⟨hk,ht⟩ | ⟨hk,ht,h0,h16,hd⟩
   · have:t.2.1<0:=by omega
     simp only [this,if_true];unfold contR;rw [if_pos hk]
   · have hzn:=h.zone x hx
     have h2:¬t.2.1<0:=by omega
     simp only [h2,if_false];rw [ht,Int.toNat_natCast,hz.2 _ hzn];exact hd
theorem fitH (h:GoodLogH H n B log) (hB:B≤1000000) (hz:DevH H log n zs) (hm:IsMapH H log n m):FitE zs m:=by
 intro b t ht;rcases run_seeH h hB (hm.2 b) with ⟨h1,h2⟩ | ⟨x,hx,hc,hnew,t',h1,_,h3⟩
 · rw [h1] at ht;cases ht
 · rw [h1] at ht
   injection ht with ht;subst ht;rcases h3 with ⟨hk,ht⟩ | ⟨hk,ht,h0,h16,hd⟩
   · exact .inl (by omega)
   · have hzn:=h.zone x hx
     refine .inr ⟨by rw [hz.1,ht];omega,h0,?_⟩
     rw [ht,Int.toNat_natCast,hz.2 _ hzn];exact h16
end
def entsP (k:Nat) (rs:List Rc) (at_:List Int):List (Rc × Int × Int):=List.zipWith (fun r o=>(r,(k:Int),o)) rs at_
def updH (H:Nat→Hd) (k:Nat) (hd:Hd):Nat→Hd:=fun j=>if j=k then hd else H j
section
variable {H:Nat→Hd} {n:Nat} {B:Int} {log:List (Nat × Rc)}
theorem rsOf_adds (log:List (Nat × Rc)) (k:Nat) (rs:List Rc):rsOf (log++rs.map (k,·)) k=rsOf log k++rs:=by
 have e:(rs.map (k,·)).filter (fun x=>x.1 == k)=rs.map (k,·):=List.filter_eq_self.2 (fun x hx=>by obtain ⟨r,_,rfl⟩:=List.mem_map.1 hx;simp)
 unfold rsOf;rw [List.filter_append,List.map_append,e,List.map_map];congr 1
 exact List.map_id rs
theorem rsOf_adds' (log:List (Nat × Rc)) {j k:Nat} (rs:List Rc) (h:j≠k):rsOf (log++rs.map (k,·)) j=rsOf log j:=by
 have e:(rs.map (k,·)).filter (fun x=>x.1 == j)=[]:=List.filter_eq_nil_iff.2 (fun x hx=>by obtain ⟨r,_,rfl⟩:=List.mem_map.1 hx;simp;omega)
 unfold rsOf;rw [List.filter_append,List.map_append,e];simp
theorem zbH_upd {k:Nat} {hd:Hd} (h:rsOf log k=[]) (j:Nat):zbH (updH H k hd) log j=zbH H log j:=by
 unfold zbH updH;by_cases hj:j=k
 · subst hj;rw [if_pos h,if_pos h]
 · rw [if_neg hj]
theorem fdH_upd {k:Nat} {hd:Hd} (h:rsOf log k=[]) (j:Nat):fdH (updH H k hd) log j=fdH H log j:=by
 unfold fdH updH;by_cases hj:j=k
 · subst hj;rw [if_pos h,if_pos h]
 · rw [if_neg hj]
theorem entsH_upd {k:Nat} {hd:Hd} (h:rsOf log k=[]) (ks:List Nat):entsH (updH H k hd) log ks=entsH H log ks:=by
 unfold entsH;exact fm_congr fun j _=>by rw [fdH_upd h]
theorem GoodLogH.upd {k:Nat} {hd:Hd} (h:GoodLogH H n B log) (hk:rsOf log k=[]) (hh:OkHead hd):GoodLogH (updH H k hd) n B log:=
 ⟨fun j=>by unfold updH;split;exact hh;exact h.hd j,h.zone,h.good,h.rise,fun j=>by rw [zbH_upd hk];exact h.fits j⟩
theorem zbH_adds (k:Nat) {rs:List Rc} (hrs:rs≠[]):zbH H (log++rs.map (k,·)) k=zbH H log k++((if rsOf log k=[] then (headL (H k)).1 else [])++frsL rs):=by
 unfold zbH;rw [rsOf_adds,if_neg (by simp [hrs]),frsL_append]
 by_cases h:rsOf log k=[]
 · rw [if_pos h,if_pos h,h];simp [frsL]
 · rw [if_neg h,if_neg h];simp
theorem zbH_adds' {j k:Nat} (rs:List Rc) (h:j≠k):zbH H (log++rs.map (k,·)) j=zbH H log j:=by
 unfold zbH;rw [rsOf_adds' log rs h]
theorem GoodLogH.adds {k:Nat} {rs:List Rc} (h:GoodLogH H n B log) (hk:k<n) (hr:∀ r∈rs,GoodR B r) (hv:∀ x∈log,∀ r∈rs,x.2.ver<r.ver) (hp:rs.Pairwise (fun x y=>x.ver<y.ver)) (hf:(zbH H (log++rs.map (k,·)) k).length≤4000) :
 GoodLogH H n B (log++rs.map (k,·)):=by
 refine ⟨h.hd,fun x hx=>?_,fun x hx=>?_,?_,fun j=>?_⟩
 · rcases List.mem_append.1 hx with hx | hx
   · exact h.zone x hx
   · obtain ⟨r,_,rfl⟩:=List.mem_map.1 hx;exact hk
 · rcases List.mem_append.1 hx with hx | hx
   · exact h.good x hx
   · obtain ⟨r,hr',rfl⟩:=List.mem_map.1 hx;exact hr r hr'
 · rw [List.pairwise_append]
   refine ⟨h.rise,List.pairwise_map.2 hp,fun x hx y hy=>?_⟩
   obtain ⟨r,hr',rfl⟩:=List.mem_map.1 hy;exact hv x hx r hr'
 · by_cases hj:j=k
   · subst hj;exact hf
   · rw [zbH_adds' rs hj];exact h.fits j
theorem entsF_H (h:GoodLogH H n B log) (hB:B≤1000000) (k:Nat):entsF k (fdH H log k)=entsP k (rsOf log k) (plsL (headL (H k)).1.length (rsOf log k)):=by
 unfold fdH entsF entsP;by_cases hr:rsOf log k=[]
 · rw [if_pos hr,hr];rfl
 · rw [if_neg hr]
   simp only;rw [←ents_pls (rsOf log k) (headL (H k)).1.length fun r hr=>(h.good _ (rsOf_mem.1 hr)).fit hB]
   refine List.ext_getElem? fun i=>?_
   rw [List.getElem?_zipWith,List.getElem?_zipWith,List.getElem?_zipWith];cases (rsOf log k)[i]? <;> cases (atsL (headL (H k)).1.length (rsOf log k))[i]? <;> rfl
theorem entsP_append (k:Nat) (rs rs':List Rc) (a a':List Int) (h:rs.length=a.length):entsP k (rs++rs') (a++a')=entsP k rs a++entsP k rs' a':=by
 unfold entsP;exact List.zipWith_append h
theorem entsH_adds {k:Nat} {rs:List Rc} (h:GoodLogH H n B (log++rs.map (k,·))) (h0:GoodLogH H n B log) (hB:B≤1000000) (hk:k<n) (e:Rc × Int × Int) :
 e∈entsH H (log++rs.map (k,·)) (List.range n)↔e∈entsH H log (List.range n)∨e∈entsP k rs (plsL ((headL (H k)).1.length+(frsL (rsOf log k)).length) rs):=by
 have hk1:entsF k (fdH H (log++rs.map (k,·)) k)=entsF k (fdH H log k)++entsP k rs (plsL ((headL (H k)).1.length+(frsL (rsOf log k)).length) rs):=by
  rw [entsF_H h hB,entsF_H h0 hB,rsOf_adds,plsL_append,entsP_append _ _ _ _ _ (plsL_len _ _).symm]
 have hk2:∀ j,j≠k→entsF j (fdH H (log++rs.map (k,·)) j)=entsF j (fdH H log j):=fun j hj=>by unfold fdH;rw [rsOf_adds' log rs hj]
 unfold entsH;simp only [List.mem_flatMap,List.mem_range];constructor
 · rintro ⟨j,hj,hx⟩
   by_cases hjk:j=k
   · subst hjk
     rw [hk1] at hx;rcases List.mem_append.1 hx with hx | hx
     · exact .inl ⟨j,hj,hx⟩
     · exact .inr hx
   · rw [hk2 j hjk] at hx
     exact .inl ⟨j,hj,hx⟩
 · rintro (⟨j,hj,hx⟩ | hx)
   · by_cases hjk:j=k
     · subst hjk
       exact ⟨j,hj,by rw [hk1];exact List.mem_append_left _ hx⟩
     · exact ⟨j,hj,by rw [hk2 j hjk];exact hx⟩
   · exact ⟨k,hk,by rw [hk1];exact List.mem_append_right _ hx⟩
theorem Best.congr {L L':List Ex} {b:Int} {o:Option (Int × Int × Int)} (hL:∀ e,e∈L↔e∈L') (h:Best L b o):Best L' b o:=by
 cases o with
 | none=>exact fun e he=>h e ((hL e).2 he)
 | some t=>
   obtain ⟨e,e1,e2,e3,e4⟩:=h;exact ⟨e,(hL e).1 e1,e2,e3,fun x hx=>e4 x ((hL x).2 hx)⟩
theorem IsMapH.adds {k:Nat} {rs:List Rc} {m:List Ex} (h:GoodLogH H n B (log++rs.map (k,·))) (h0:GoodLogH H n B log) (hB:0≤B∧B≤10000) (hn:n≤1000) (hk:k<n) (hm:IsMapH H log n m) :
 ∃ m',mapGo (entsP k rs (plsL ((headL (H k)).1.length+(frsL (rsOf log k)).length) rs)) m=(m',0)∧IsMapH H (log++rs.map (k,·)) n m'∧(m'.length:Int)≤max B m.length:=by
 have hx:∀ x∈entsP k rs (plsL ((headL (H k)).1.length+(frsL (rsOf log k)).length) rs),GoodX B x:=fun x hx=>by
  obtain ⟨j,hj,hx2⟩:=List.mem_flatMap.1 ((entsH_adds h h0 (by omega) hk x).2 (.inr hx))
  exact h.entX hn (by omega) hx2
 have hend:∀ e∈(entsH H log (List.range n)).map extX,endE e≤B:=fun e he=>by
  obtain ⟨x,hx,rfl⟩:=List.mem_map.1 he;obtain ⟨j,_,hx⟩:=List.mem_flatMap.1 hx;exact (h0.entX hn (by omega) hx).1.lba.2.2
 obtain ⟨m',h1,h2,h3,h4⟩:=mapGo_good hB _ _ m hx hm.1 hm.2 hend;refine ⟨m',h1,⟨h2,fun b=>(h3 b).congr fun e=>?_⟩,h4⟩
 rw [List.mem_append,List.mem_map,List.mem_map,List.mem_map];constructor
 · rintro (⟨x,hx,rfl⟩ | ⟨x,hx,rfl⟩)
   · exact ⟨x,(entsH_adds h h0 (by omega) hk x).2 (.inl hx),rfl⟩
   · exact ⟨x,(entsH_adds h h0 (by omega) hk x).2 (.inr hx),rfl⟩
 · rintro ⟨x,hx,rfl⟩
   rcases (entsH_adds h h0 (by omega) hk x).1 hx with hx | hx
   · exact .inl ⟨x,hx,rfl⟩
   · exact .inr ⟨x,hx,rfl⟩
end
theorem blockB_le (zs:List Zn) (m:List Ex) (b:Int):(blockB zs m b).length≤16:=by
 unfold blockB;split
 · simp [zeros]
 · split
   · simp [zeros]
   · rw [List.length_take];omega
theorem flat_le {f:Nat→List UInt8}:∀ (n:Nat),(∀ i,(f i).length≤16)→((List.range n).flatMap f).length≤16*n
 | 0,_=>by simp
 | n+1,h=>by
   have ih:=flat_le n h;have:=h n;rw [List.range_succ,List.flatMap_append,List.length_append];simp only [List.flatMap_cons,List.flatMap_nil,List.append_nil];omega
def readH (zs:List Zn) (h:Ho) (lba n:Int):List UInt8 × Int:=
 if ¬someB lba n 256 then ([],63) else if mineS h.s lba n=false then ([],62) else bytesL zs h.m lba n
theorem hread_any (d:Zd) (A:Option Addr) (c:Nat) (h:Ho) (v:Value) (lba n:Int) (K K':Nat→Prop) (w:World) (hd:IsL Rp.zone w K (.slice A d.z.length c) d.z) (hv:IsHo w K' v h) (hok:okD d) (hch:chainE 0 h.m) (hf:FitE d.z h.m) :
 Calls Tryz.prog 24 #[.agg #[.int .i64 d.cap,.int .i64 d.opn,.int .i64 d.act,.slice A d.z.length c],v,.int .i64 lba,.int .i64 n] w fun e w'=>
  ∃ Ao co,e=.returned (.tuple #[.slice Ao (readH d.z h lba n).1.length co,.int .i64 (readH d.z h lba n).2])∧IsB w' (fun b=>w.heap.size≤b) (.slice Ao (readH d.z h lba n).1.length co) (readH d.z h lba n).1∧Below w.heap.size w w':=by
 have hv0:=hv;obtain ⟨vo,vs,vb,vl,vm,rfl,h1,h2,h3,h4,h5⟩:=hv;obtain ⟨Ao,co,rfl,-⟩:=h1.form;obtain ⟨As,cs,rfl,-⟩:=h2.form;obtain ⟨Ab,cb,rfl,-⟩:=isB_form h3;obtain ⟨Al,cl,rfl,-⟩:=h4.form;obtain ⟨Am,cm,rfl,-⟩:=h5.form;have hso:=fun W=>hsome_any lba n 256 W (by decide)
 have hmi:=fun vv W hW=>hmine_any h vv lba n K' W hW
 have hby:=fun W hz hm hb hn=>rbytes_any d A c Am cm h.m lba n K K' W hz hm hok hch hb hn hf
 have E:=((Kn.start w).give Stable.list hd).give Stable.list h5 |>.give Stable.ho hv0 |>.push 28 #[.int .i64 d.cap,.int .i64 d.opn,.int .i64 d.act,.slice A d.z.length c] |>.push 42 (hoS h Ao co As cs Ab cb Al cl Am cm)
 rw [World.size_alloc] at E;clear h1 h2 h3 h4 h5 hv0;obtain ⟨r,hr⟩:∃ r,readH d.z h lba n=r:=⟨_,rfl⟩;rw [hr];have HR:=Lib.hid hr;clear hr;by_cases hs:someB lba n 256
 case neg=>
  have hre:r=([],63):=by rw [←HR.out];unfold readH;rw [if_pos hs]
  subst hre;rw [decide_eq_false hs] at hso;go_enter Tryz.func24,Tryz.ntmps24
  go_wp2_with fail;refine (hso _).mono ?_;rintro e w2 ⟨rfl,hb2⟩;replace E:=E.step hb2;go_wp2;refine bodyPost_ret (v:=.tuple #[.slice none 0 0,.int .i64 63]) (by simp [results,Tryz.results24,go_sem]) rfl ⟨none,0,rfl,IsB.nil_ _ _,E.below⟩
 by_cases hm:mineS h.s lba n=false
 · have hre:r=([],62):=by rw [←HR.out];unfold readH;rw [if_neg (fun h=>h hs),if_pos hm]
   subst hre;rw [decide_eq_true hs] at hso;rw [hm] at hmi;go_enter Tryz.func24,Tryz.ntmps24
   go_wp2_with fail;refine (hso _).mono ?_;rintro e w2 ⟨rfl,hb2⟩;replace E:=E.step hb2;obtain ⟨q0,f0,t0⟩:=E.rules m0;go_wp2_with fail;refine (hmi _ _ (E.get m0)).mono ?_;rintro e w3 ⟨rfl,hb3⟩;replace E:=E.step hb3;clear q0 f0 t0;go_wp2;refine bodyPost_ret (v:=.tuple #[.slice none 0 0,.int .i64 62]) (by simp [results,Tryz.results24,go_sem]) rfl ⟨none,0,rfl,IsB.nil_ _ _,E.below⟩
 have hre:bytesL d.z h.m lba n=r:=by rw [←HR.out];unfold readH;rw [if_neg (fun h=>h hs),if_neg hm]
 have hsm:=hs;unfold someB at hsm;have hbk:blocksE lba n:=by unfold blocksE;omega
 have hfit:=bytesL_ok hch hbk (by omega) hf
 have hlen:r.1.length≤140737488355328∧r.2=0:=by
  rw [←hre,hfit];refine ⟨?_,rfl⟩;have:=flat_le (f:=fun i=>blockB d.z h.m (lba+(i:Nat))) n.toNat (fun i=>blockB_le _ _ _)
  simp only;omega
 have hb1:=fun W hz hm=>hby W hz hm hbk (by omega)
 rw [hre] at hb1;have hm2:mineS h.s lba n=true:=by simpa using hm
 rw [decide_eq_true hs] at hso;rw [hm2] at hmi;obtain ⟨rl,hrl⟩:∃ rl,r.1.length=rl:=⟨_,rfl⟩;have h0:=hlen.2;have hl47:=hlen.1;rw [hrl] at hb1 hl47 ⊢;rw [h0];have HRL:=Lib.hid hrl;clear hrl hby hre hfit hlen h0 hm hm2 hs hsm;go_enter Tryz.func24,Tryz.ntmps24
 go_wp2_with fail;refine (hso _).mono ?_;rintro e w2 ⟨rfl,hb2⟩;replace E:=E.step hb2;obtain ⟨q0,f0,t0⟩:=E.rules m0;go_wp2_with fail;refine (hmi _ _ (E.get m0)).mono ?_;rintro e w3 ⟨rfl,hb3⟩;replace E:=E.step hb3;clear q0 f0 t0 hso hmi;obtain ⟨q0,f0,t0⟩:=E.rules m0;obtain ⟨q1,f1,t1⟩:=E.rules m1;go_wp2_with fail;refine (hb1 _ (E.get m2) (E.get m1)).mono ?_;rintro e w4 ⟨A4,c4,rfl,own4,hb4⟩;have hB4:IsB w4 (fun b=>w3.heap.size≤b) (.slice A4 rl c4) r.1:=by
  have:=HRL.out;subst this;exact IsB.of_own own4 hl47
 have hbe:=E.below;replace E:=E.step hb4;have hs3:=hbe.size;clear q0 f0 t0 q1 f1 t1;go_wp2;refine bodyPost_ret (v:=.tuple #[.slice A4 rl c4,.int .i64 0]) (by simp [results,Tryz.results24,go_sem]) rfl ⟨A4,c4,rfl,hB4.more (fun b hb=>by omega),E.below⟩
def newH (id:Int) (mm:List Ex) (n:Int):Ho:=⟨id,[],[],false,p0k,mm,n+1,0⟩
theorem hnew_any (id:Int) (d:Zd) (A:Option Addr) (c:Nat) (K:Nat→Prop) (w:World) (hid:0≤id∧id<8) (hd:okD d) (hv:IsL Rp.zone w K (.slice A d.z.length c) d.z)
 (hgood:∀ x∈entsU (foundL d.z) [] d.z.length,GoodX 10000 x) (hat:∀ f∈foundL d.z,f.at_.length=f.l.length∧f.l.length≤1000000000) (hnw:newF 0 (foundL d.z)≤1000000000) (hn0:0≤newF 0 (foundL d.z)) :
 Calls Tryz.prog 12 #[.int .i64 id,.agg #[.int .i64 d.cap,.int .i64 d.opn,.int .i64 d.act,.slice A d.z.length c]] w fun e w'=>∃ vh mm,e=.returned (.tuple #[vh,.int .i64 0]) ∧
  mapGo (entsU (foundL d.z) [] d.z.length) []=(mm,0)∧chainE 0 mm∧mm.length≤10000∧IsHo w' (fun b=>w.heap.size≤b) vh (newH id mm (newF 0 (foundL d.z)))∧Below w.heap.size w w':=by
 have hck:=fun W hW=>zchk_any d (.slice A d.z.length c) K W hW
 have hc0:chkD d=0:=by unfold chkD;rw [if_pos hd]
 rw [hc0] at hck;have hmp:=fun W hW=>rmap_any d A c [] none 0 K (fun _=>True) W hd hW (IsL.nil_ _ _) (by simp) hgood hat
 simp only [List.length_nil] at hmp;have hne:=fun W hW=>rnewest_any d A c K W hW hd
 generalize newF 0 (foundL d.z)=nv at hne hnw hn0 ⊢;have E:=((Kn.start w).give Stable.list hv).push 28 #[.int .i64 d.cap,.int .i64 d.opn,.int .i64 d.act,.slice A d.z.length c] |>.push 42 #[.int .i64 0,.slice none 0 0,.slice none 0 0,.bool false,.int .i64 0,.int .i64 0,.int .i64 0,.int .i64 0,.int .i64 0,.int .i64 0,.slice none 0 0,.slice none 0 0,.slice none 0 0,.int .i64 0,.int .i64 0]
 rw [World.size_alloc] at E;have i0:=hid.1;have i1:=hid.2;clear hgood hat hc0 hid;go_enter Tryz.func12,Tryz.ntmps12
 go_wp2_with fail;refine (hck _ (E.get m0)).mono ?_;rintro e w2 ⟨rfl,hb2⟩;replace E:=E.step hb2;have hgm:w.heap.size+1<w2.heap.size:=(E.at_ m0).lt;clear hck hb2;obtain ⟨q0,f0,t0⟩:=E.rules m1;go_wp2_with fail;refine (hmp _ (E.get m0)).mono ?_;rintro e w3 ⟨mm,Am,cm,rfl,g1,g2,g3,hL,hb3⟩;have G1:=Lib.hid g1;have G2:=Lib.hid g2;have hbe:=E.below.size;replace E:=(E.step hb3).give Stable.list hL;clear hmp hb3 hL g1 g2 q0 f0 t0;obtain ⟨q0,f0,t0⟩:=E.rules m1;go_wp2_with fail;refine (hne _ (E.get m1)).mono ?_;rintro e w4 ⟨rfl,hb4⟩;replace E:=E.step hb4;clear hne hb4 q0 f0 t0;obtain ⟨q0,f0,t0⟩:=E.rules m0;go_wp2;refine at_st15 (K:=fun W=>bodyPost _ _ _ _ _ W) (E.at_ m0) _ _ _ _ _ _ _ _ _ _ _ _ _ _ _ ?_
 intro w5 hs5 ht5 hB5;obtain ⟨q1,f1⟩:=hB5.rules;have hm:=(E.get m0).turned ht5 (fun b hb e=>by have h1:=hb;have h2:w.heap.size+1<w2.heap.size:=hgm;omega)
 refine bodyPost_ret (v:=.tuple #[.agg (hoC (newH id mm nv) (.slice none 0 0) (.slice none 0 0) (.slice none 0 0) (.slice none 0 0) (.slice Am mm.length cm)),.int .i64 0]) (by simp [results,Tryz.results12,go_sem,q1,newH,p0k]) rfl
  ⟨_,mm,rfl,G1.out,G2.out,g3,⟨_,_,_,_,_,rfl,IsL.nil_ _ _,IsL.nil_ _ _,IsB.nil_ _ _,IsL.nil_ _ _,hm.more (fun b hb=>by omega)⟩,Turned.upon E.below ht5 (by omega) (Nat.le_refl _)⟩
end Go.Proofs.YtjahaflkdpmhpaaGreat
