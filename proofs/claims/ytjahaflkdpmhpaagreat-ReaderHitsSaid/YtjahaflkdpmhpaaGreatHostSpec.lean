/- A part of the proof. -/
import Derived.Test.YtjahaflkdpmhpaaGreatHostRead
import Derived.Test.YtjahaflkdpmhpaaGreatHostCommit
namespace Go.Proofs.YtjahaflkdpmhpaaGreat
open Go.RowKit
theorem okHead_of {h:Hd} (h0:0≤h.host∧h.host≤1000000) (h1:0≤h.epoch∧h.epoch≤1000000) (h2:0≤h.seq∧h.seq≤1000000):OkHead h:=by
 have h3:OkHd h:=by unfold OkHd;omega
 have h4:numsL (headN h)=(flatN (headN h),0):=by
  unfold numsL;rw [if_pos];intro n hn;simp only [headN,List.mem_cons,List.not_mem_nil,or_false] at hn;omega
 have h5:=flatN_len h3.i63;have h6:(headN h).length=4:=rfl;have h7:headL h=(frB (flatN (headN h)),0):=by
  unfold headL;rw [h4];simp only [ne_eq,not_true_eq_false,if_false];exact frameL_ok (by omega)
 refine ⟨h3,by rw [h7],?_⟩
 rw [h7];show (frB (flatN (headN h))).length≤45;rw [frB_len,putL_lt (by omega)]
 simp only [List.length_cons,List.length_nil];omega
theorem landZ_more {e:Int} {b x:List UInt8} {M:Int} (he:0≤e) (hx:x≠[]) (hf:(b.length:Int)+x.length≤M) (hM:1≤M∧M≤65536):roomZ (landZ e M b) M x=0∧grownZ (landZ e M b) M x=landZ e M (b++x):=by
 have hxl:=List.length_pos_iff.2 hx;have hz:=landZ_ok (e:=e) (b:=b) he hM (by omega)
 have h4:(landZ e M b).st≠4:=by
  unfold landZ;simp only;split
  · omega
  · split
    · omega
    · omega
 constructor
 · unfold roomZ
   rw [if_neg (by simp only [not_or,Decidable.not_not];exact ⟨hz,by omega⟩),if_neg h4,if_pos (by show (b.length:Int)+x.length≤M;exact hf)]
 · have hbx:b++x≠[]:=by simp [hx]
   unfold grownZ landZ;simp only [hbx,if_false,List.length_append,Int.natCast_add];by_cases hf:(b.length:Int)+x.length=M
   · simp only [hf,if_true]
   · simp only [hf,if_false]
     have h2:¬x.length=0:=by omega
     simp only [h2,if_false];have h3:¬(if b=[] then (0:Int) else if (b.length:Int)=M then 4 else 1)=2:=by
      split
      · omega
      · split <;> omega
     simp only [h3,if_false]
structure HInv (n:Nat) (M:Int) (F:Nat→Int) (B:Int) (S:List Sp) (d:Zd) (h:Ho) (H:Nat→Hd) (log:List (Nat × Rc)):Prop where
 dev:d=devA M d.z
 ok:OkA M d.z
 most:M≤4000
 bnd:0≤B∧B≤10000
 good:GoodLogH H n B log
 bytes:DevH H log n d.z
 fe:∀ k,k<n→(d.z.getD k z0).fe=F k
 F0:∀ k,k<n→0≤F k∧F k≤1000000
 id:h.id=1
 own:h.own=(List.range n).map fun (k:Nat)=>⟨(k:Int),1,F k⟩
 s:h.s=S
 map:IsMapH H log n h.m
 few:h.m.length≤10000
 ver:h.ver=1+log.length
 old:∀ x∈log,x.2.ver<h.ver
 seq:0≤h.seq∧h.seq≤log.length
 opened:h.opn=true→∃ k,k<n∧rsOf log k≠[]∧h.p=⟨H k,k,M,(zbH H log k).length,[],[]⟩∧(H k).epoch=F k∧d.z.getD k z0=landZ (F k) M (zbH H log k)
 shut:h.opn=false→h.p=p0k
section
variable {n:Nat} {M B:Int} {F:Nat→Int} {S:List Sp} {d:Zd} {h:Ho} {H:Nat→Hd} {log:List (Nat × Rc)}
theorem HInv.n64 (hi:HInv n M F B S d h H log):1≤n∧n≤64:=by have:=hi.ok.2.1;rw [hi.bytes.1] at this;exact this
theorem getD_some {zs:List Zn} {k:Nat} (hk:k<zs.length):zs[k]?=some (zs.getD k z0):=by
 rw [List.getD_eq_getElem?_getD,List.getElem?_eq_getElem hk];rfl
theorem getD_set {zs:List Zn} {k j:Nat} {z:Zn} (hk:k<zs.length):(zs.set k z).getD j z0=if j=k then z else zs.getD j z0:=by
 rw [List.getD_eq_getElem?_getD,List.getElem?_set,List.getD_eq_getElem?_getD];by_cases hj:k=j
 · subst hj;rw [if_pos rfl,if_pos hk,if_pos rfl];rfl
 · rw [if_neg hj,if_neg (fun e=>hj e.symm)]
theorem put_step {zs:List Zn} {k:Nat} {rs:List Rc} {h1:Ho} (hok:OkA M zs) (hM:M≤4000) (hB:B≤1000000) (hz:DevH H log n zs) (hk:k<n) (hF:0≤F k)
 (hep:(H k).epoch=F k) (hl:zs.getD k z0=landZ (F k) M (zbH H log k)) (hr:∀ r∈rs,GoodR B r) (hrs:rs≠[])
 (hp:h1.p=⟨H k,k,M,(zbH H log k).length,if rsOf log k=[] then (headL (H k)).1 else [],[]⟩) (hroom:((frsL rs).length:Int)≤roomL h1.p) :
 putW (devA M zs) h1 rs=(devA M (zs.set k (landZ (F k) M (zbH H (log++rs.map (k,·)) k))),withP h1 ⟨H k,k,M,(zbH H (log++rs.map (k,·)) k).length,[],[]⟩,plsL (((headL (H k)).1.length:Int)+(frsL (rsOf log k)).length) rs,0) ∧
  (zbH H (log++rs.map (k,·)) k).length≤4000∧(((zbH H (log++rs.map (k,·)) k).length:Int))≤M:=by
 have herr:errL rs=0:=errL_of fun r hr'=>(hr r hr').fit hB
 have hpos:0<(frsL rs).length:=by
  obtain ⟨r,l,rfl⟩:=List.exists_cons_of_ne_nil hrs;have hg:=hr r (List.mem_cons_self ..);have h5:=((recL_len (hg.ok hB)).2 (hg.fit hB)).2;simp only [frsL,List.length_append];omega
 have hadd:=add_fits h1.p herr (by omega)
 rw [hp] at hadd hroom;unfold roomL at hroom;simp only at hroom;have hnb:zbH H (log++rs.map (k,·)) k=zbH H log k++((if rsOf log k=[] then (headL (H k)).1 else [])++frsL rs):=zbH_adds k hrs;obtain ⟨bf,hbf⟩:∃ bf,(if rsOf log k=[] then (headL (H k)).1 else [])=bf:=⟨_,rfl⟩;rw [hbf] at hadd hroom hnb hp;have hle:((zbH H log k).length:Int)+(bf++frsL rs).length≤M:=by rw [List.length_append];omega
 have hne:bf++frsL rs≠[]:=fun e=>by have:=congrArg List.length e;rw [List.length_append,List.length_nil] at this;omega
 obtain ⟨g1,g2⟩:=landZ_more (e:=F k) (b:=zbH H log k) (M:=M) hF hne hle hok.1;have hdo:=devA_append (x:=bf++frsL rs) hok (getD_some (by rw [hz.1];exact hk))
 rw [hl,if_pos g1,g2,←hnb,show (landZ (F k) M (zbH H log k)).fe=F k from rfl] at hdo;have hat:((zbH H log k).length:Int)+(bf.length:Int)=((headL (H k)).1.length:Int)+(frsL (rsOf log k)).length:=by
  unfold zbH;rw [←hbf];by_cases h0:rsOf log k=[]
  · rw [if_pos h0,if_pos h0,h0];simp [frsL]
  · rw [if_neg h0,if_neg h0,List.length_append];simp
 have hlen:(zbH H (log++rs.map (k,·)) k).length=(zbH H log k).length+(bf++frsL rs).length:=by rw [hnb,List.length_append]
 refine ⟨?_,by omega,by omega⟩
 unfold putW;rw [hp,hadd];simp only;rw [if_neg (by simp),if_neg hne,hep,hdo]
 simp only;rw [if_neg (by simp),hat]
 unfold flushP;simp only;rw [if_neg hne,hlen];simp
theorem HInv.adds {zs:List Zn} {k:Nat} {rs:List Rc} {m:List Ex} {hd:Hd} {sq:Int} {q:Pk} (hi:HInv n M F B S d h H log) (hz:DevH H log n zs) (hok:OkA M zs) (hfe:∀ k,k<n→(zs.getD k z0).fe=F k) (hk:k<n)
 (hG:GoodLogH (updH H k hd) n B (log++rs.map (k,·))) (h0:rsOf log k=[]∨hd=H k) (hep:hd.epoch=F k) (hlen:((zbH (updH H k hd) (log++rs.map (k,·)) k).length:Int)≤M) (hrs:rs≠[])
 (hv:∀ r∈rs,r.ver<h.ver+rs.length) (hsq:0≤sq∧sq≤log.length+rs.length) (hm:IsMapH (updH H k hd) (log++rs.map (k,·)) n m) (hml:m.length≤10000)
 (hq:q=⟨hd,k,M,(zbH (updH H k hd) (log++rs.map (k,·)) k).length,[],[]⟩) :
 HInv n M F B S (devA M (zs.set k (landZ (F k) M (zbH (updH H k hd) (log++rs.map (k,·)) k)))) ⟨h.id,h.own,h.s,true,q,m,h.ver+rs.length,sq⟩ (updH H k hd) (log++rs.map (k,·)):=by
 have hkz:k<zs.length:=by rw [hz.1];exact hk
 have hoth:∀ j,j≠k→zbH (updH H k hd) (log++rs.map (k,·)) j=zbH H log j:=fun j hj=>by
  rw [zbH_adds' rs hj];unfold zbH updH;rw [if_neg hj]
 have hHk:updH H k hd k=hd:=by unfold updH;rw [if_pos rfl]
 refine ⟨by simp [devA],?_,hi.most,hi.bnd,hG,⟨?_,fun j hj=>?_⟩,fun j hj=>?_,hi.F0,hi.id,hi.own,hi.s,hm,hml,?_,fun x hx=>?_,?_,fun _=>⟨k,hk,?_,?_,?_,?_⟩,fun e=>by cases e⟩
 · exact hok.set (landZ_ok (hi.F0 k hk).1 hok.1 hlen)
 · show (zs.set k _).length=n
   rw [List.length_set];exact hz.1
 · show ((zs.set k _).getD j z0).d=_
   rw [getD_set hkz];by_cases hjk:j=k
   · subst hjk;rw [if_pos rfl];rfl
   · rw [if_neg hjk,hz.2 j hj,hoth j hjk]
 · show ((zs.set k _).getD j z0).fe=_
   rw [getD_set hkz];by_cases hjk:j=k
   · subst hjk;rw [if_pos rfl];rfl
   · rw [if_neg hjk];exact hfe j hj
 · show h.ver+rs.length=1+((log++rs.map (k,·)).length:Int)
   rw [List.length_append,List.length_map,hi.ver];omega
 · show x.2.ver<h.ver+rs.length
   rcases List.mem_append.1 hx with hx | hx
   · have:=hi.old x hx;omega
   · obtain ⟨r,hr,rfl⟩:=List.mem_map.1 hx;exact hv r hr
 · show 0≤sq∧sq≤((log++rs.map (k,·)).length:Int)
   rw [List.length_append,List.length_map];omega
 · rw [rsOf_adds];simp [hrs]
 · show q=_
   rw [hq,hHk]
 · rw [hHk];exact hep
 · show (zs.set k _).getD k z0=_
   rw [getD_set hkz,if_pos rfl]
theorem offs_go:∀ {xs:List (Rc × Int × Int)} {m m':List Ex},mapGo xs m=(m',0)→m'=offs xs m
 | [],m,m',h=>by injection h with h;exact h.symm
 | x::l,m,m',h=>by
   rw [mapGo_cons] at h;split at h
   · rename_i hne;injection h with _ h2;exact absurd h2 hne
   · rename_i he
     rw [Decidable.not_not] at he;have:=offs_go h;rw [this];show _=offs l (offer1 m (extX x));congr 1
     unfold applyE at he ⊢;split at he
     · cases he
     · rename_i g1
       rw [if_neg g1];split at he
       · cases he
       · rename_i g2
         rw [if_neg g2];split at he
         · cases he
         · rename_i g3
           rw [if_neg g3];rfl
theorem mapOk_good {xs:List (Rc × Int × Int)} {m L:List Ex} {B:Int} (hB:0≤B∧B≤10000) (hx:∀ x∈xs,GoodX B x) (hc:chainE 0 m) (hb:∀ b,Best L b (see m b)) (hL:∀ e∈L,endE e≤B) (hm:m.length≤10000):MapOk xs m:=by
 have hp:∀ j,∃ n,mapGo (xs.take j) m=(n,0)∧n=offs (xs.take j) m∧chainE 0 n∧n.length≤10000:=fun j=>by
  obtain ⟨n,h1,h2,_,h4⟩:=mapGo_good hB (xs.take j) L m (fun x h=>hx x (List.mem_of_mem_take h)) hc hb hL
  exact ⟨n,h1,offs_go h1,h2,by omega⟩
 refine ⟨fun j x hj=>?_,?_⟩
 · obtain ⟨n,_,rfl,h2,h3⟩:=hp j
   obtain ⟨n',_,rfl,h5,h6⟩:=hp (j+1);rw [offs_take hj] at h5 h6;have:=(join_ok h2).2.2;exact ⟨(hx x (List.mem_of_getElem? hj)).mono hB.2,h2,by omega,h6⟩
 · obtain ⟨n,h1,rfl,_⟩:=hp xs.length
   rw [List.take_length] at h1;exact h1
def PutOk (d:Zd) (h:Ho) (rs:List Rc):Prop:=(putH d h rs).2.2.2=0→(putH d h rs).2.1.p.zone≤1000000∧(putH d h rs).2.1.ver≤100000000000∧0≤(putH d h rs).2.1.ver∧MapOk (entsC (putH d h rs).2.1 rs (putH d h rs).2.2.1) (putH d h rs).2.1.m
theorem commit_step (hi:HInv n M F B S d h H log) {g:List Io} (hg:g≠[]) (he:∀ o∈g,ioErr S o=0) (hr:∀ o∈g,∀ v:Int,0≤v∧v≤1000000→GoodR B (recI v o)) (hl:log.length+g.length≤900000) :
 ((∃ k d' h' H',k<n∧commitH d h g=(d',h',0)∧HInv n M F B S d' h' H' (log++(recsI h.ver g).map (k,·)))∨(commitH d h g).2.2=64)∧PutOk d h (recsI h.ver g):=by
 obtain ⟨rs,hrs⟩:∃ rs,recsI h.ver g=rs:=⟨_,rfl⟩;rw [hrs];have hrl:rs.length=g.length:=by rw [←hrs,recsI_len]
 have hgl:0<g.length:=List.length_pos_iff.2 hg;have hver:=hi.ver;have hrne:rs≠[]:=fun e=>by rw [e] at hrl;simp at hrl;omega
 have hgood:∀ r∈rs,GoodR B r:=fun r hr'=>by
  rw [←hrs] at hr';obtain ⟨i,o,h1,h2,rfl⟩:=recsI_mem hr';exact hr o h2 _ (by omega)
 have hnew:∀ r∈rs,h.ver≤r.ver∧r.ver<h.ver+rs.length:=fun r hr'=>by
  rw [←hrs] at hr';obtain ⟨i,o,h1,h2,rfl⟩:=recsI_mem hr';show h.ver≤h.ver+(i:Int)∧h.ver+(i:Int)<_;omega
 have hrise:rs.Pairwise (fun x y=>x.ver<y.ver):=by rw [←hrs];exact recsI_rise _ _
 have herr:errI h.s g=0:=by rw [hi.s];exact errI_all he
 have hB:=hi.bnd;have hn:=hi.n64;have herl:errL rs=0:=errL_of fun r hr'=>(hgood r hr').fit (by omega)
 have hck:chkD d=0:=by
  unfold chkD;rw [if_pos (by rw [hi.dev];exact hi.ok.ok)]
 have hcom:∀ d2 h2 zs k hd sq,roomH d h (frsL rs).length=(d2,h2,true)→d2=devA M zs→OkA M zs→DevH H log n zs→(∀ k,k<n→(zs.getD k z0).fe=F k)→k<n →
  rsOf log k=[]∨hd=H k→OkHead hd→hd.epoch=F k→zs.getD k z0=landZ (F k) M (zbH H log k)→h2=⟨h.id,h.own,h.s,true,h2.p,h.m,h.ver,sq⟩→0≤sq∧sq≤log.length+1 →
  h2.p=⟨hd,k,M,(zbH H log k).length,if rsOf log k=[] then (headL hd).1 else [],[]⟩→((frsL rs).length:Int)≤roomL h2.p →
  (∃ k d' h' H',k<n∧commitH d h g=(d',h',0)∧HInv n M F B S d' h' H' (log++rs.map (k,·)))∧PutOk d h rs:=by
  intro d2 h2 zs k hd sq e1 e2 o1 o2 o3 hk o4 o5 o6 o7 o8 o9 o10 o11;have hHk:updH H k hd k=hd:=by unfold updH;rw [if_pos rfl]
  have hup:updH H k hd=H∨rsOf log k=[]:=o4.elim .inr fun e=>.inl (by funext j;unfold updH;split;(rename_i hj;rw [hj,e]);rfl)
  have hG0:GoodLogH (updH H k hd) n B log:=hup.elim (fun e=>by rw [e];exact hi.good) fun e=>hi.good.upd e o5
  have hzb:zbH (updH H k hd) log=zbH H log:=hup.elim (fun e=>by rw [e]) fun e=>funext fun j=>zbH_upd e j
  have hz2:DevH (updH H k hd) log n zs:=⟨o2.1,fun j hj=>by rw [hzb];exact o2.2 j hj⟩
  obtain ⟨p1,p2,p3⟩:=put_step (h1:=h2) (F:=F) o1 hi.most (by omega) hz2 hk (hi.F0 k hk).1 (by rw [hHk];exact o6) (by rw [hzb];exact o7) hgood hrne (by rw [hHk,hzb];exact o10) o11
  have hG1:GoodLogH (updH H k hd) n B (log++rs.map (k,·)):=hG0.adds hk hgood (fun x hx r hr'=>by have:=hi.old x hx;have:=(hnew r hr').1;omega) hrise p2
  have hmap0:IsMapH (updH H k hd) log n h.m:=hup.elim (fun e=>by rw [e];exact hi.map) fun e=>⟨hi.map.1,fun b=>by rw [entsH_upd e];exact hi.map.2 b⟩
  obtain ⟨m',m1,m2,m3⟩:=IsMapH.adds hG1 hG0 hB (by omega) hk hmap0
  have hfew:=hi.few;have hml:m'.length≤10000:=by omega
  have hI:=hi.adds (zs:=zs) (k:=k) (rs:=rs) (m:=m') (hd:=hd) (sq:=sq) o2 o1 o3 hk hG1 o4 o6 p3 hrne (fun r hr'=>(hnew r hr').2) (by omega) m2 hml (q:=⟨hd,k,M,(zbH (updH H k hd) (log++rs.map (k,·)) k).length,[],[]⟩) rfl
  have hput:putH d h rs=putW (devA M zs) h2 rs:=by
   unfold putH;rw [if_neg (by rw [hck];simp),if_neg (by rw [herl];simp),e1]
   simp only [Bool.true_eq_false,if_false];rw [e2]
  refine ⟨⟨k,_,_,_,hk,?_,hI⟩,fun _=>?_⟩
  rotate_left
  · rw [hput,p1]
    have hm2:h2.m=h.m:=by rw [o8]
    have hv2:h2.ver=h.ver:=by rw [o8]
    show (k:Int)≤1000000∧h2.ver≤100000000000∧0≤h2.ver∧MapOk (entsP k rs (plsL ((headL (updH H k hd k)).1.length+(frsL (rsOf log k)).length) rs)) h2.m;rw [hm2,hv2];refine ⟨by omega,by omega,by omega,mapOk_good hB (fun x hx=>?_) hmap0.1 hmap0.2 (fun e he=>?_) hi.few⟩
    · obtain ⟨j,hj,hx2⟩:=List.mem_flatMap.1 ((entsH_adds hG1 hG0 (by omega) hk x).2 (.inr hx))
      exact hG1.entX (by omega) (by omega) hx2
    · obtain ⟨x,hx,rfl⟩:=List.mem_map.1 he
      obtain ⟨j,_,hx⟩:=List.mem_flatMap.1 hx;exact (hG0.entX (by omega) (by omega) hx).1.lba.2.2
  unfold commitH;rw [if_neg (by rw [herr];simp),if_neg hg,hrs,hput,p1]
  simp only;rw [if_neg (by simp)]
  have hmp:mapP (withP h2 ⟨updH H k hd k,k,M,(zbH (updH H k hd) (log++rs.map (k,·)) k).length,[],[]⟩) rs (plsL (((headL (updH H k hd k)).1.length:Int)+(frsL (rsOf log k)).length) rs)=(m',0):=by
   unfold mapP;rw [show (withP h2 ⟨updH H k hd k,k,M,(zbH (updH H k hd) (log++rs.map (k,·)) k).length,[],[]⟩).m=h.m by rw [o8];rfl]
   exact m1
  rw [hmp,hHk,o8];simp only [withM,withP,hrl]
 by_cases hfit:h.opn=true∧((frsL rs).length:Int)≤roomL h.p
 · obtain ⟨k,hk,k1,k2,k3,k4⟩:=hi.opened hfit.1
   refine (fun (q:(∃ k d' h' H',k<n∧commitH d h g=(d',h',0)∧HInv n M F B S d' h' H' (log++rs.map (k,·)))∧PutOk d h rs)=>⟨.inl q.1,q.2⟩) ?_
   refine hcom d h d.z k (H k) h.seq (by unfold roomH;rw [if_pos hfit]) hi.dev hi.ok hi.bytes hi.fe hk (.inr rfl) (hi.good.hd k) k3 k4 (by rw [←hfit.1]) (by have:=hi.seq;omega) (by rw [k2,if_neg k1]) hfit.2
 · have hfin:∃ zs,finD d h=devA M zs∧OkA M zs∧DevH H log n zs∧∀ k,k<n→(zs.getD k z0).fe=F k:=by
    unfold finD;cases hop:h.opn with
    | false=>exact ⟨d.z,by simpa using hi.dev,hi.ok,hi.bytes,hi.fe⟩
    | true=>
      obtain ⟨k,hk,k1,k2,k3,k4⟩:=hi.opened hop;have hkz:k<d.z.length:=by rw [hi.bytes.1];exact hk
      have hf:=devA_finish hi.ok (getD_some hkz);rw [hi.fe k hk] at hf;refine ⟨d.z.set k (finZ (d.z.getD k z0)),?_,hi.ok.set (fin_ok (hi.ok.2.2 _ (List.mem_of_getElem? (getD_some hkz)))),⟨by rw [List.length_set];exact hi.bytes.1,fun j hj=>?_⟩,fun j hj=>?_⟩
      · rw [if_pos rfl,k2,k3,hi.dev]
        simp only;rw [show (devA M d.z).z=d.z from rfl,hf]
      · rw [getD_set hkz]
        split
        · rename_i e;subst e;exact hi.bytes.2 _ hj
        · exact hi.bytes.2 _ hj
      · rw [getD_set hkz]
        split
        · rename_i e;subst e;exact hi.fe _ hj
        · exact hi.fe _ hj
   obtain ⟨zs,z1,z2,z3,z4⟩:=hfin;have hno:(roomH d h (frsL rs).length).2.2=false→((∃ k d' h' H',k<n∧commitH d h g=(d',h',0)∧HInv n M F B S d' h' H' (log++rs.map (k,·)))∨(commitH d h g).2.2=64)∧PutOk d h rs:=fun e=>by
    have hput:putH d h rs=(zd0,ho0,[],64):=by
     unfold putH;rw [if_neg (by rw [hck];simp),if_neg (by rw [herl];simp),if_pos e]
    refine ⟨.inr ?_,fun h0=>by rw [hput] at h0;simp at h0⟩
    unfold commitH;rw [if_neg (by rw [herr];simp),if_neg hg,hrs,hput,if_pos (by simp)]
   have hroom:roomH d h (frsL rs).length=match h.own[h.own.findIdx (freeF (devA M zs))]? with
    | none=>(devA M zs,h,false)
    | some f=>(devA M zs,⟨h.id,h.own,h.s,true,(begP (devA M zs) h f).1,h.m,h.ver,h.seq+1⟩,decide ((begP (devA M zs) h f).2=0) && decide (((frsL rs).length:Int)≤roomL (begP (devA M zs) h f).1)):=by
    unfold roomH;rw [if_neg hfit,z1];rfl
   cases hf:h.own[h.own.findIdx (freeF (devA M zs))]? with
   | none=>rw [hf] at hroom;exact hno (by rw [hroom])
   | some f=>
     rw [hf] at hroom;simp only at hroom;cases hb:(decide ((begP (devA M zs) h f).2=0) && decide (((frsL rs).length:Int)≤roomL (begP (devA M zs) h f).1)) with
     | false=>exact hno (by rw [hroom];exact hb)
     | true=>
       simp only [Bool.and_eq_true,decide_eq_true_eq] at hb;have hfree:freeF (devA M zs) f=true:=by
        obtain ⟨hlt,e⟩:=List.getElem?_eq_some_iff.1 hf;rw [←e];exact List.findIdx_getElem
       have hmem:=List.mem_of_getElem? hf;rw [hi.own] at hmem;obtain ⟨k,hk,rfl⟩:=List.mem_map.1 hmem;have hk:=List.mem_range.1 hk;unfold freeF at hfree;simp only [Bool.and_eq_true,decide_eq_true_eq,Int.toNat_natCast] at hfree;obtain ⟨_,hst,hfe⟩:=hfree;have hkz:k<zs.length:=by rw [z3.1];exact hk
       have hokz:=z2.2.2 _ (List.mem_of_getElem? (getD_some hkz));have hst':(zs.getD k z0).st=0:=hst;have hd0:(zs.getD k z0).d=[]:=by
        obtain ⟨_,_,_,h4⟩:=hokz;rcases h4 with h4 | h4 | h4 | h4
        · exact List.length_eq_zero_iff.1 h4.2
        · rcases h4.1 with h5 | h5 <;> omega
        · omega
        · omega
       have hzb:zbH H log k=[]:=by rw [←z3.2 k hk];exact hd0
       have hr0:rsOf log k=[]:=(zbH_nil hi.good (by omega)).1 hzb
       have hfk:=hi.F0 k hk;have hsq:=hi.seq;have hOk:OkHead ⟨h.id,F k,h.seq⟩:=okHead_of (by show 0≤h.id∧h.id≤1000000;rw [hi.id];omega) hfk (by show 0≤h.seq∧h.seq≤1000000;omega)
       have hM:=z2.1;have hnp:begP (devA M zs) h ⟨k,1,F k⟩=(⟨⟨h.id,F k,h.seq⟩,k,M,0,(headL ⟨h.id,F k,h.seq⟩).1,[]⟩,0):=by
        have h2:=hb.1;unfold begP at h2 ⊢;unfold beginL at h2 ⊢;simp only at h2 ⊢;have hcap:(devA M zs).cap=M:=rfl;rw [hcap] at h2 ⊢;rw [if_neg (by rw [hOk.2.1];simp),if_neg (by simp only [Decidable.not_not];omega)] at h2 ⊢
        by_cases hlen:M<(headL ⟨h.id,F k,h.seq⟩).1.length
        · rw [if_pos hlen] at h2;simp at h2
        · rw [if_neg hlen]
       rw [hnp] at hroom hb;refine (fun (q:(∃ k d' h' H',k<n∧commitH d h g=(d',h',0)∧HInv n M F B S d' h' H' (log++rs.map (k,·)))∧PutOk d h rs)=>⟨.inl q.1,q.2⟩) (hcom (devA M zs) ⟨h.id,h.own,h.s,true,⟨⟨h.id,F k,h.seq⟩,k,M,0,(headL ⟨h.id,F k,h.seq⟩).1,[]⟩,h.m,h.ver,h.seq+1⟩ zs k ⟨h.id,F k,h.seq⟩ (h.seq+1) (hroom.trans ?_) rfl z2 z3 z4 hk (.inl hr0) hOk rfl ?_ rfl (by omega) ?_ ?_)
       · have h2:=hb.2
         simp only [decide_true,Bool.true_and,h2]
       · rw [hzb]
         have hfe':(zs.getD k z0).fe=F k:=hfe;show zs.getD k z0=⟨if ([]:List UInt8)=[] then 0 else _,F k,[]⟩;rw [if_pos rfl,←hst',←hfe',←hd0]
       · rw [hzb,if_pos hr0];rfl
       · exact hb.2
end
end Go.Proofs.YtjahaflkdpmhpaaGreat
