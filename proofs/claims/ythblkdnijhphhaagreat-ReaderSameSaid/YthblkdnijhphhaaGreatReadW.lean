/- A part of the proof. -/
import Derived.Test.YthblkdnijhphhaaGreatMapW
import Derived.Test.YthblkdnijhphhaaGreatReplayB
import Derived.Test.YthblkdnijhphhaaGreatHostCommit
set_option linter.unusedSimpArgs false
set_option maxHeartbeats 8000000
set_option maxRecDepth 100000
namespace Go.Proofs.YthblkdnijhphhaaGreat
open Go.RowKit
theorem zdg.mono {B C:Int} {x:Rc × Int × Int} (h:zdg B x) (hBC:B≤C):zdg C x:=
 ⟨⟨h.1.kind,⟨h.1.lba.1,h.1.lba.2.1,Int.le_trans h.1.lba.2.2 hBC⟩,h.1.n,h.1.ver,h.1.rest,h.1.data,h.1.trim⟩,h.2⟩
def zns (h:Hd):Prop:=OkHd h∧(zbX h).2=0∧(zbX h).1.length≤45
theorem zki {h:Hd} (h0:0≤h.host∧h.host≤1000000) (h1:0≤h.epoch∧h.epoch≤1000000) (h2:0≤h.seq∧h.seq≤1000000):zns h:=by
 have h3:OkHd h:=by unfold OkHd;omega
 have h4:zc4 (zd5 h)=(flatN (zd5 h),0):=by
  unfold zc4;rw [if_pos];intro n hn;simp only [zd5,List.mem_cons,List.not_mem_nil,or_false] at hn;omega
 have h5:=zc9 h3.i63;have h6:(zd5 h).length=4:=rfl;have h7:zbX h=(frB (flatN (zd5 h)),0):=by
  unfold zbX;rw [h4];simp only [ne_eq,not_true_eq_false,if_false];exact zeT (by omega)
 refine ⟨h3,by rw [h7],?_⟩
 rw [h7];show (frB (flatN (zd5 h))).length≤45;rw [zkl,zdr (by omega)]
 simp only [List.length_cons,List.length_nil];omega
theorem zjQ {e:Int} {b x:List UInt8} {M:Int} (he:0≤e) (hx:x≠[]) (hf:(b.length:Int)+x.length≤M) (hM:1≤M∧M≤65536):zbh (zcm e M b) M x=0∧zcv (zcm e M b) M x=zcm e M (b++x):=by
 have hxl:=List.length_pos_iff.2 hx;have hz:=zj2 (e:=e) (b:=b) he hM (by omega)
 have h4:(zcm e M b).st≠4:=by
  unfold zcm;simp only;split
  · omega
  · split
    · omega
    · omega
 constructor
 · unfold zbh
   rw [if_neg (by simp only [not_or,Decidable.not_not];exact ⟨hz,by omega⟩),if_neg h4,if_pos (by show (b.length:Int)+x.length≤M;exact hf)]
 · have hbx:b++x≠[]:=by simp [hx]
   unfold zcv zcm;simp only [hbx,if_false,List.length_append,Int.natCast_add];by_cases hf:(b.length:Int)+x.length=M
   · simp only [hf,if_true]
   · simp only [hf,if_false]
     have h2:¬x.length=0:=by omega
     simp only [h2,if_false];have h3:¬(if b=[] then (0:Int) else if (b.length:Int)=M then 4 else 1)=2:=by
      split
      · omega
      · split <;> omega
     simp only [h3,if_false]
section
variable {n:Nat} {M B:Int} {F:Nat→Int} {S:List Sp} {d:Zd} {h:Ho} {H:Nat→Hd} {log:List (Nat × Rc)}
theorem getD_some {zs:List Zn} {k:Nat} (hk:k<zs.length):zs[k]?=some (zs.getD k z0):=by
 rw [List.getD_eq_getElem?_getD,List.getElem?_eq_getElem hk];rfl
theorem zci {zs:List Zn} {k j:Nat} {z:Zn} (hk:k<zs.length):(zs.set k z).getD j z0=if j=k then z else zs.getD j z0:=by
 rw [List.getD_eq_getElem?_getD,List.getElem?_set,List.getD_eq_getElem?_getD];by_cases hj:k=j
 · subst hj;rw [if_pos rfl,if_pos hk,if_pos rfl];rfl
 · rw [if_neg hj,if_neg (fun e=>hj e.symm)]
theorem zln:∀ {xs:List (Rc × Int × Int)} {m m':List Ex},zbL xs m=(m',0)→m'=offs xs m
 | [],m,m',h=>by injection h with h;exact h.symm
 | x::l,m,m',h=>by
   rw [zcY] at h;split at h
   · rename_i hne;injection h with _ h2;exact absurd h2 hne
   · rename_i he
     rw [Decidable.not_not] at he;have:=zln h;rw [this];show _=offs l (zam m (extX x));congr 1
     unfold zcu at he ⊢;split at he
     · cases he
     · rename_i g1
       rw [if_neg g1];split at he
       · cases he
       · rename_i g2
         rw [if_neg g2];split at he
         · cases he
         · rename_i g3
           rw [if_neg g3];rfl
theorem zk0 {xs:List (Rc × Int × Int)} {m L:List Ex} {B:Int} (hB:0≤B∧B≤10000) (hx:∀ x∈xs,zdg B x) (hc:za2 0 m) (hb:∀ b,Best L b (see m b)) (hL:∀ e∈L,endE e≤B) (hm:m.length≤10000):zjE xs m:=by
 have hp:∀ j,∃ n,zbL (xs.take j) m=(n,0)∧n=offs (xs.take j) m∧za2 0 n∧n.length≤10000:=fun j=>by
  obtain ⟨n,h1,h2,_,h4⟩:=ze5 hB (xs.take j) L m (fun x h=>hx x (List.mem_of_mem_take h)) hc hb hL
  exact ⟨n,h1,zln h1,h2,by omega⟩
 refine ⟨fun j x hj=>?_,?_⟩
 · obtain ⟨n,_,rfl,h2,h3⟩:=hp j
   obtain ⟨n',_,rfl,h5,h6⟩:=hp (j+1);rw [zhw hj] at h5 h6;have:=(zck h2).2.2;exact ⟨(hx x (List.mem_of_getElem? hj)).mono hB.2,h2,by omega,h6⟩
 · obtain ⟨n,h1,rfl,_⟩:=hp xs.length
   rw [List.take_length] at h1;exact h1
def zo0 (d:Zd) (h:Ho) (rs:List Rc):Prop:=(putH d h rs).2.2.2=0→(putH d h rs).2.1.p.zone≤1000000∧(putH d h rs).2.1.ver≤100000000000∧0≤(putH d h rs).2.1.ver∧zjE (zfr (putH d h rs).2.1 rs (putH d h rs).2.2.1) (putH d h rs).2.1.m
end
def fz (F:Nat→Int) (n j:Nat):List Zn:=(List.range n).map fun k=>if k<j then ⟨0,F k,[]⟩ else z0
def fo (F:Nat→Int) (j:Nat):List Fn:=(List.range j).map fun (k:Nat)=>⟨(k:Int),1,F k⟩
def ziU (S:List Sp) (F:Nat→Int) (j:Nat):Ho:=⟨1,fo F j,S,false,p0k,[],1,0⟩
section
variable {n j:Nat} {M:Int} {F:Nat→Int} {S:List Sp}
theorem zei:(fz F n j).length=n:=by simp [fz]
theorem zoq {k:Nat} (hk:k<n):(fz F n j)[k]?=some (if k<j then ⟨0,F k,[]⟩ else z0):=by
 unfold fz;rw [List.getElem?_map,List.getElem?_range hk];rfl
theorem zne (hM:1≤M∧M≤65536) (hn:1≤n∧n≤64) (hF:∀ k,k<n→0≤F k):OkA M (fz F n j):=by
 refine ⟨hM,by rw [zei];exact hn,fun z hz=>?_⟩
 obtain ⟨k,hk,rfl⟩:=List.mem_map.1 hz;have:=hF k (List.mem_range.1 hk);unfold okZ;split
 · exact ⟨hM.1,hM.2,this,.inl ⟨rfl,rfl⟩⟩
 · exact ⟨hM.1,hM.2,by decide,.inl ⟨rfl,rfl⟩⟩
theorem zoR (hj:j<n):(fz F n j).set j ⟨0,F j,[]⟩=fz F n (j+1):=by
 refine List.ext_getElem? fun k=>?_
 rw [List.getElem?_set];by_cases hk:k<n
 · rw [zoq hk,zoq hk,zei]
   by_cases hjk:j=k
   · subst hjk;rw [if_pos rfl,if_pos hj,if_pos (by omega)]
   · rw [if_neg hjk]
     by_cases h1:k<j
     · rw [if_pos h1,if_pos (by omega)]
     · rw [if_neg h1,if_neg (by omega)]
 · rw [if_neg (by omega),List.getElem?_eq_none (by rw [zei];omega),List.getElem?_eq_none (by rw [zei];omega)]
theorem zmW (hM:1≤M∧M≤65536) (hn:1≤n∧n≤64) (hF:∀ k,k<n→0<F k) (hj:j<n) :
 doZ (devA M (fz F n j)) ⟨7,j,F j,0,0,[]⟩=(devA M (fz F n (j+1)),dn0):=by
 rw [zjv (z:=z0) (zne hM hn fun k hk=>by have:=hF k hk;omega) (by rw [zoq hj,if_neg (Nat.lt_irrefl j)]) (hF j hj)]
 rw [←zoR hj];rfl
theorem zmw {k:Nat} {e:Fn} (h:(fo F j)[k]?=some e):k<j∧e=⟨(k:Int),1,F k⟩:=by
 unfold fo at h;rw [List.getElem?_map] at h;obtain ⟨x,hx,rfl⟩:=Option.map_eq_some_iff.1 h;obtain ⟨h1,rfl⟩:=List.getElem?_eq_some_iff.1 hx;rw [List.length_range] at h1;exact ⟨h1,by rw [List.getElem_range]⟩
theorem zfA:(fo F j).length=j:=by simp [fo]
theorem zor:zhY (ziU S F j) j (F j)=ziU S F (j+1):=by
 have hp:posF (fo F j) (j:Int)=j:=zlG (by rw [zfA];exact Nat.le_refl _) (fun k e hk he=>by obtain ⟨_,rfl⟩:=zmw he;show (k:Int)<j;omega) (fun e he=>by have:=(zmw he).1;omega)
 have hh:hasF (fo F j) (j:Int)=false:=by
  unfold hasF;rw [hp,List.getElem?_eq_none (by rw [zfA];exact Nat.le_refl _)]
 have hput:putF (fo F j) (j:Int) 1 (F j)=fo F (j+1):=by
  unfold putF;rw [hh,hp,if_neg (by simp),List.take_of_length_le (by rw [zfA];exact Nat.le_refl _),List.drop_of_length_le (by rw [zfA];exact Nat.le_refl _),List.append_nil]
  unfold fo;rw [List.range_succ,List.map_append];rfl
 unfold zhY ziU;rw [if_neg (by simp),hput]
theorem znI:(fo F j).Pairwise (fun a b=>a.zone<b.zone):=by
 rw [List.pairwise_iff_getElem];intro a b ha hb hab;have h1:=zmw (List.getElem?_eq_getElem ha);have h2:=zmw (List.getElem?_eq_getElem hb);rw [h1.2,h2.2];show (a:Int)<b;omega
end
abbrev zdC (d:Zd) (A:Option Addr) (c:Nat):Array Value:=#[.int .i64 d.cap,.int .i64 d.opn,.int .i64 d.act,.slice A d.z.length c]
theorem ziH {w:World} {K:Nat→Prop} {v:Value} {h:Ho} (hh:IsHo w K v h):∃ Ao co As cs Ab cb Al cl Am cm,v=.agg (hoS h Ao co As cs Ab cb Al cl Am cm):=by
 obtain ⟨vo,vs,vb,vl,vm,rfl,a1,a2,a3,a4,a5⟩:=hh;obtain ⟨Ao,co,rfl,-⟩:=a1.form;obtain ⟨As,cs,rfl,-⟩:=a2.form;obtain ⟨Ab,cb,rfl,-⟩:=zab a3;obtain ⟨Al,cl,rfl,-⟩:=a4.form;obtain ⟨Am,cm,rfl,-⟩:=a5.form;exact ⟨Ao,co,As,cs,Ab,cb,Al,cl,Am,cm,rfl⟩
theorem zbu {w:World} {K:Nat→Prop} {v:Value} {h:Ho} (hh:IsHo w K v h):∃ cs:Array Value,v=.agg cs∧cs.size=15∧cs.toList.all (·.oneCell')=true∧cs[3]?=some (.bool h.opn):=by
 obtain ⟨Ao,co,As,cs,Ab,cb,Al,cl,Am,cm,rfl⟩:=ziH hh;exact ⟨_,rfl,rfl,rfl,rfl⟩
theorem zgL {w:World} {g g':Nat} {t t':TypeId} {cs cs':Array Value} (h:Blk w g t cs) (h':Blk w g' t' cs') (ht:t≠t'):g≠g':=fun e=>by
 subst e;unfold Blk at h h';rw [h] at h';injection h' with h';injection h' with _ h2 _;exact ht h2
section
variable {ops:Array Oper} {o:Oper} {a:Act} {w:World} {K:Act→World→Prop} {Q:Exit→Act→World→Prop} {x y:Operand} {g:Nat} {t:TypeId} {cs cs':Array Value}
theorem zde (hw:Region.wanted o (yielded ops a.tmps)=true) (hB:Blk w g t cs) (hn:cs.size=15) (ho:o.op=.store 38 x y) (hx:a.eval x=.pointer (some ⟨g,0,none⟩)) (hy:a.eval y=.agg cs') (hn':cs'.size=15) (h1:cs'.toList.all (·.oneCell')=true)
 (h:∀ w',w'.heap.size=w.heap.size→za0 w w' (fun b=>b=g)→Blk w' g t cs'→K (a.put o.dst undef) w'):if Region.wanted o (yielded ops a.tmps)=true then Oper.wp Tryz.prog o a w K Q else K (a.put o.dst undef) w:=by
 rw [if_pos hw];exact wp_store_row _ x y ho g cs' hx hy t cs hB (by rw [zdq,hn']) (by rw [hn,hn']) (by rw [←Array.all_toList];exact h1) (h _ (zah hB).1 (zah hB).2.1 (zah hB).2.2)
theorem zc2 (hw:Region.wanted o (yielded ops a.tmps)=true) (hB:Blk w g t cs) (hn:cs.size=4) (ho:o.op=.store 27 x y) (hx:a.eval x=.pointer (some ⟨g,0,none⟩)) (hy:a.eval y=.agg cs') (hn':cs'.size=4) (h1:cs'.toList.all (·.oneCell')=true)
 (h:∀ w',w'.heap.size=w.heap.size→za0 w w' (fun b=>b=g)→Blk w' g t cs'→K (a.put o.dst undef) w'):if Region.wanted o (yielded ops a.tmps)=true then Oper.wp Tryz.prog o a w K Q else K (a.put o.dst undef) w:=by
 rw [if_pos hw];exact wp_store_row _ x y ho g cs' hx hy t cs hB (by rw [zgq,hn']) (by rw [hn,hn']) (by rw [←Array.all_toList];exact h1) (h _ (zah hB).1 (zah hB).2.1 (zah hB).2.2)
end
theorem zlA (zs:List Zn) (m:List Ex) (b:Int):(zaa zs m b).length≤16:=by
 unfold zaa;split
 · simp [zaI]
 · split
   · simp [zaI]
   · rw [List.length_take];omega
theorem zlI {f:Nat→List UInt8}:∀ (n:Nat),(∀ i,(f i).length≤16)→((List.range n).flatMap f).length≤16*n
 | 0,_=>by simp
 | n+1,h=>by
   have ih:=zlI n h;have:=h n;rw [List.range_succ,List.flatMap_append,List.length_append];simp only [List.flatMap_cons,List.flatMap_nil,List.append_nil];omega
def zaK (zs:List Zn) (h:Ho) (lba n:Int):List UInt8 × Int:=
 if ¬zbO lba n 256 then ([],63) else if zeW h.s lba n=false then ([],62) else zbp zs h.m lba n
theorem zgX (d:Zd) (A:Option Addr) (c:Nat) (h:Ho) (v:Value) (lba n:Int) (K K':Nat→Prop) (w:World) (hd:IsL Rp.zone w K (.slice A d.z.length c) d.z) (hv:IsHo w K' v h) (hok:okD d) (hch:za2 0 h.m) (hf:FitE d.z h.m) :
 Calls Tryz.prog 14 #[.agg #[.int .i64 d.cap,.int .i64 d.opn,.int .i64 d.act,.slice A d.z.length c],v,.int .i64 lba,.int .i64 n] w fun e w'=>
  ∃ Ao co,e=.returned (.tuple #[.slice Ao (zaK d.z h lba n).1.length co,.int .i64 (zaK d.z h lba n).2])∧IsB w' (fun b=>w.heap.size≤b) (.slice Ao (zaK d.z h lba n).1.length co) (zaK d.z h lba n).1∧Below w.heap.size w w':=by
 have hv0:=hv;obtain ⟨vo,vs,vb,vl,vm,rfl,h1,h2,h3,h4,h5⟩:=hv;obtain ⟨Ao,co,rfl,-⟩:=h1.form;obtain ⟨As,cs,rfl,-⟩:=h2.form;obtain ⟨Ab,cb,rfl,-⟩:=zab h3;obtain ⟨Al,cl,rfl,-⟩:=h4.form;obtain ⟨Am,cm,rfl,-⟩:=h5.form;have hso:=fun W=>zfc lba n 256 W (by decide)
 have hmi:=fun vv W hW=>zgS h vv lba n K' W hW
 have hby:=fun W hz hm hb hn=>ze0 d A c Am cm h.m lba n K K' W hz hm hok hch hb hn hf
 have E:=((Kn.start w).give za1.list hd).give za1.list h5 |>.give za1.ho hv0 |>.push 27 #[.int .i64 d.cap,.int .i64 d.opn,.int .i64 d.act,.slice A d.z.length c] |>.push 38 (hoS h Ao co As cs Ab cb Al cl Am cm)
 rw [World.size_alloc] at E;clear h1 h2 h3 h4 h5 hv0;obtain ⟨r,hr⟩:∃ r,zaK d.z h lba n=r:=⟨_,rfl⟩;rw [hr];have HR:=Lib.hid hr;clear hr;by_cases hs:zbO lba n 256
 case neg=>
  have hre:r=([],63):=by rw [←HR.out];unfold zaK;rw [if_pos hs]
  subst hre;rw [decide_eq_false hs] at hso;go_enter Tryz.func14,Tryz.ntmps14
  go_wp2_with fail;refine (hso _).mono ?_;rintro e w2 ⟨rfl,hb2⟩;replace E:=E.step hb2;go_wp2;refine bodyPost_ret (v:=.tuple #[.slice none 0 0,.int .i64 63]) (by simp [results,Tryz.results14,go_sem]) rfl ⟨none,0,rfl,IsB.nil_ _ _,E.below⟩
 by_cases hm:zeW h.s lba n=false
 · have hre:r=([],62):=by rw [←HR.out];unfold zaK;rw [if_neg (fun h=>h hs),if_pos hm]
   subst hre;rw [decide_eq_true hs] at hso;rw [hm] at hmi;go_enter Tryz.func14,Tryz.ntmps14
   go_wp2_with fail;refine (hso _).mono ?_;rintro e w2 ⟨rfl,hb2⟩;replace E:=E.step hb2;obtain ⟨q0,f0,t0⟩:=E.rules m0;go_wp2_with fail;refine (hmi _ _ (E.get m0)).mono ?_;rintro e w3 ⟨rfl,hb3⟩;replace E:=E.step hb3;clear q0 f0 t0;go_wp2;refine bodyPost_ret (v:=.tuple #[.slice none 0 0,.int .i64 62]) (by simp [results,Tryz.results14,go_sem]) rfl ⟨none,0,rfl,IsB.nil_ _ _,E.below⟩
 have hre:zbp d.z h.m lba n=r:=by rw [←HR.out];unfold zaK;rw [if_neg (fun h=>h hs),if_neg hm]
 have hsm:=hs;unfold zbO at hsm;have hbk:za9 lba n:=by unfold za9;omega
 have hfit:=zbG hch hbk (by omega) hf
 have hlen:r.1.length≤140737488355328∧r.2=0:=by
  rw [←hre,hfit];refine ⟨?_,rfl⟩;have:=zlI (f:=fun i=>zaa d.z h.m (lba+(i:Nat))) n.toNat (fun i=>zlA _ _ _)
  simp only;omega
 have hb1:=fun W hz hm=>hby W hz hm hbk (by omega)
 rw [hre] at hb1;have hm2:zeW h.s lba n=true:=by simpa using hm
 rw [decide_eq_true hs] at hso;rw [hm2] at hmi;obtain ⟨rl,hrl⟩:∃ rl,r.1.length=rl:=⟨_,rfl⟩;have h0:=hlen.2;have hl47:=hlen.1;rw [hrl] at hb1 hl47 ⊢;rw [h0];have HRL:=Lib.hid hrl;clear hrl hby hre hfit hlen h0 hm hm2 hs hsm;go_enter Tryz.func14,Tryz.ntmps14
 go_wp2_with fail;refine (hso _).mono ?_;rintro e w2 ⟨rfl,hb2⟩;replace E:=E.step hb2;obtain ⟨q0,f0,t0⟩:=E.rules m0;go_wp2_with fail;refine (hmi _ _ (E.get m0)).mono ?_;rintro e w3 ⟨rfl,hb3⟩;replace E:=E.step hb3;clear q0 f0 t0 hso hmi;obtain ⟨q0,f0,t0⟩:=E.rules m0;obtain ⟨q1,f1,t1⟩:=E.rules m1;go_wp2_with fail;refine (hb1 _ (E.get m2) (E.get m1)).mono ?_;rintro e w4 ⟨A4,c4,rfl,own4,hb4⟩;have hB4:IsB w4 (fun b=>w3.heap.size≤b) (.slice A4 rl c4) r.1:=by
  have:=HRL.out;subst this;exact IsB.of_own own4 hl47
 have hbe:=E.below;replace E:=E.step hb4;have hs3:=hbe.size;clear q0 f0 t0 q1 f1 t1;go_wp2;refine bodyPost_ret (v:=.tuple #[.slice A4 rl c4,.int .i64 0]) (by simp [results,Tryz.results14,go_sem]) rfl ⟨A4,c4,rfl,hB4.more (fun b hb=>by omega),E.below⟩
def newH (id:Int) (mm:List Ex) (n:Int):Ho:=⟨id,[],[],false,p0k,mm,n+1,0⟩
theorem zng (id:Int) (d:Zd) (A:Option Addr) (c:Nat) (K:Nat→Prop) (w:World) (hid:0≤id∧id<8) (hd:okD d) (hS:∀ z∈d.z,zgI z.d) (hv:IsL Rp.zone w K (.slice A d.z.length c) d.z)
 (hgood:∀ x∈zb8 (zak d.z) [] d.z.length,zdg 10000 x) (hat:∀ f∈zak d.z,f.at_.length=f.l.length∧f.l.length≤1000000000) (hnw:newF 0 (zak d.z)≤1000000000) (hn0:0≤newF 0 (zak d.z)) :
 Calls Tryz.prog 18 #[.int .i64 id,.agg #[.int .i64 d.cap,.int .i64 d.opn,.int .i64 d.act,.slice A d.z.length c]] w fun e w'=>∃ vh mm,e=.returned (.tuple #[vh,.int .i64 0]) ∧
  zbL (zb8 (zak d.z) [] d.z.length) []=(mm,0)∧za2 0 mm∧mm.length≤10000∧IsHo w' (fun b=>w.heap.size≤b) vh (newH id mm (newF 0 (zak d.z)))∧Below w.heap.size w w':=by
 have hck:=fun W hW=>zcW d (.slice A d.z.length c) K W hW
 have hc0:chkD d=0:=by unfold chkD;rw [if_pos hd]
 rw [hc0] at hck;have hmp:=fun W hW=>znl d A c [] none 0 K (fun _=>True) W hd hS hW (IsL.nil_ _ _) (by simp) hgood hat
 simp only [List.length_nil] at hmp;have hne:=fun W hW=>zhP d A c K W hW hd hS
 generalize newF 0 (zak d.z)=nv at hne hnw hn0 ⊢;have E:=((Kn.start w).give za1.list hv).push 27 #[.int .i64 d.cap,.int .i64 d.opn,.int .i64 d.act,.slice A d.z.length c] |>.push 38 #[.int .i64 0,.slice none 0 0,.slice none 0 0,.bool false,.int .i64 0,.int .i64 0,.int .i64 0,.int .i64 0,.int .i64 0,.int .i64 0,.slice none 0 0,.slice none 0 0,.slice none 0 0,.int .i64 0,.int .i64 0]
 rw [World.size_alloc] at E;have i0:=hid.1;have i1:=hid.2;clear hgood hat hc0 hid;go_enter Tryz.func18,Tryz.ntmps18
 go_wp2_with fail;refine (hck _ (E.get m0)).mono ?_;rintro e w2 ⟨rfl,hb2⟩;replace E:=E.step hb2;have hgm:w.heap.size+1<w2.heap.size:=(E.at_ m0).lt;clear hck hb2;obtain ⟨q0,f0,t0⟩:=E.rules m1;go_wp2_with fail;refine (hmp _ (E.get m0)).mono ?_;rintro e w3 ⟨mm,Am,cm,rfl,g1,g2,g3,hL,hb3⟩;have G1:=Lib.hid g1;have G2:=Lib.hid g2;have hbe:=E.below.size;replace E:=(E.step hb3).give za1.list hL;clear hmp hb3 hL g1 g2 q0 f0 t0;obtain ⟨q0,f0,t0⟩:=E.rules m1;go_wp2_with fail;refine (hne _ (E.get m1)).mono ?_;rintro e w4 ⟨rfl,hb4⟩;replace E:=E.step hb4;clear hne hb4 q0 f0 t0;obtain ⟨q0,f0,t0⟩:=E.rules m0;go_wp2;refine zbA (K:=fun W=>bodyPost _ _ _ _ _ W) (E.at_ m0) _ _ _ _ _ _ _ _ _ _ _ _ _ _ _ ?_
 intro w5 hs5 ht5 hB5;obtain ⟨q1,f1⟩:=hB5.rules;have hm:=(E.get m0).turned ht5 (fun b hb e=>by have h1:=hb;have h2:w.heap.size+1<w2.heap.size:=hgm;omega)
 refine bodyPost_ret (v:=.tuple #[.agg (hoC (newH id mm nv) (.slice none 0 0) (.slice none 0 0) (.slice none 0 0) (.slice none 0 0) (.slice Am mm.length cm)),.int .i64 0]) (by simp [results,Tryz.results18,go_sem,q1,newH,p0k]) rfl
  ⟨_,mm,rfl,G1.out,G2.out,g3,⟨_,_,_,_,_,rfl,IsL.nil_ _ _,IsL.nil_ _ _,IsB.nil_ _ _,IsL.nil_ _ _,hm.more (fun b hb=>by omega)⟩,za0.upon E.below ht5 (by omega) (Nat.le_refl _)⟩
end Go.Proofs.YthblkdnijhphhaaGreat
namespace Go.Proofs.YthblkdnijhphhaaGreat
open Go.RowKit Go.WideMaps
def zhy (L:List En) (lba ver:Int):Option En:=L.find? fun y=>y.lba == lba && y.ver == ver
def blkC (k:Ca) (lba ver:Int) (B:List UInt8):Ca × List UInt8:=
 match zhy k.l lba ver with
 | some y=>(⟨k.most,y::zcs k.l lba,k.hit+1,k.miss⟩,y.b)
 | none=>(⟨k.most,zel k.most k.l ⟨lba,ver,B⟩,k.hit,k.miss+1⟩,B)
def IsRd (Kd:Nat→Prop) (w:World) (gr c m:Nat) (ns:List Nat) (k:Ca) (t:Int):Prop:=Blk w gr 58 #[.pointer (some ⟨c,0,none⟩),.int .i64 t]∧IsCa Kd w c m ns k
abbrev OfRd (gr c m:Nat) (ns:List Nat) (b:Nat):Prop:=b=gr∨b=m∨b∈c::ns
def zat (Kd:Nat→Prop) (w w':World) (gr c m:Nat) (ns:List Nat) (k:Ca) (t:Int):Prop:=∃ ns',IsRd Kd w' gr c m ns' k t∧za0 w w' (OfRd gr c m ns)∧∀ g∈ns',g∈ns∨w.heap.size≤g
section
variable {Kd:Nat→Prop} {w w' w'':World} {gr c m g:Nat} {ns:List Nat} {k k':Ca} {t t':Int}
theorem IsCa.step (h:IsCa Kd w c m ns k) (hb:Below w.heap.size w w'):IsCa Kd w' c m ns k:=by obtain ⟨dt,ah,af,h1,h2⟩:=h;exact ⟨dt,ah,af,h1.step hb,h2⟩
theorem IsRd.step (h:IsRd Kd w gr c m ns k t) (hb:Below w.heap.size w w'):IsRd Kd w' gr c m ns k t:=⟨h.1.step hb,h.2.step hb⟩
theorem IsCa.lt (h:IsCa Kd w c m ns k):m<w.heap.size∧∀ b∈c::ns,b<w.heap.size:=by obtain ⟨dt,ah,af,h1,h2⟩:=h;exact ⟨h1.map.lt,h1.lt⟩
theorem IsRd.lt (h:IsRd Kd w gr c m ns k t) {b:Nat} (hb:OfRd gr c m ns b):b<w.heap.size:=by
 rcases hb with rfl | rfl | hb
 · exact h.1.lt
 · exact h.2.lt.1
 · exact h.2.lt.2 b hb
theorem IsRd.apart (h:IsRd Kd w gr c m ns k t):¬(gr=m∨gr∈c::ns):=fun h9=>by
 obtain ⟨hB,dt,ah,af,h1,h2⟩:=h;rcases h9 with h9 | h9
 · subst h9
   obtain ⟨D,⟨es,k,hm,_⟩,_⟩:=h1.map;unfold Blk at hB;rw [hB] at hm;injection hm with hm;cases hm
 · rcases List.mem_cons.1 h9 with h8 | h8
   · exact zgL hB h1.nd.ca (by decide) h8
   · obtain ⟨v,h3,_⟩:=h1.nd.en _ h8
     exact zgL hB h3 (by decide) rfl
theorem IsRd.len (h:IsRd Kd w gr c m ns k t):ns.length=k.l.length:=by obtain ⟨_,dt,ah,af,h1,h2⟩:=h;rw [←h2,List.length_map]
theorem zat.same (h:IsRd Kd w gr c m ns k t) (hb:Below w.heap.size w w'):zat Kd w w' gr c m ns k t:=⟨ns,h.step hb,za0.of hb,fun _ hg=>.inl hg⟩
theorem zat.on {ns1:List Nat} (t1:za0 w w' (OfRd gr c m ns)) (s1:∀ g∈ns1,g∈ns∨w.heap.size≤g) (h':zat Kd w' w'' gr c m ns1 k' t'):zat Kd w w'' gr c m ns k' t':=by
 obtain ⟨ns2,h2,t2,s2⟩:=h';have hz:=t1.size;refine ⟨ns2,h2,((t1.mono (S':=fun b=>OfRd gr c m ns b∨w.heap.size≤b) fun b hb=>.inl hb).trans (t2.mono fun b hb=>?_)).fresh fun b hb=>hb,fun g hg=>?_⟩
 · rcases hb with hb | hb | hb
   · exact .inl (.inl hb)
   · exact .inl (.inr (.inl hb))
   · rcases List.mem_cons.1 hb with h8 | h8
     · exact .inl (.inr (.inr (by rw [h8];exact List.mem_cons_self ..)))
     · rcases s1 b h8 with h7 | h7
       · exact .inl (.inr (.inr (List.mem_cons_of_mem _ h7)))
       · exact .inr h7
 · rcases s2 g hg with h8 | h8
   · exact s1 g h8
   · exact .inr (by omega)
theorem zat.pre (hb:Below w.heap.size w w') (h':zat Kd w' w'' gr c m ns k' t'):zat Kd w w'' gr c m ns k' t':=zat.on (za0.of hb) (fun _ hg=>.inl hg) h'
theorem zat.post (h:zat Kd w w' gr c m ns k t) (hb:Below w'.heap.size w' w''):zat Kd w w'' gr c m ns k t:=by
 obtain ⟨ns1,h1,t1,s1⟩:=h;exact ⟨ns1,h1.step hb,t1.trans (za0.of hb),s1⟩
theorem zdd.rd (h:IsRd Kd w gr c m ns k t) (hm:zdd Kd w w' c m ns k'):zat Kd w w' gr c m ns k' t:=by
 obtain ⟨ns',h1,t1,s1⟩:=hm;exact ⟨ns',⟨h.1.turned t1 h.apart,h1⟩,t1.mono fun b hb=>.inr hb,s1⟩
theorem zfo {L:List En} {lba ver:Int} {y:En} (h:zhy L lba ver=some y):y∈L∧y.lba=lba∧y.ver=ver:=by
 have h1:=List.find?_some h;simp only [Bool.and_eq_true,beq_iff_eq] at h1;exact ⟨List.mem_of_find?_eq_some h,h1⟩
theorem zk5 (h:IsCa Kd w c m ns k) (lba ver:Int) (hl:0≤lba∧lba≤9223372036854775807) (hm:0≤k.miss∧k.miss<9223372036854775807) (hg:zhy k.l lba ver=none) :
 Calls Tryz.prog 61 #[.pointer (some ⟨c,0,none⟩),.int .i64 lba,.int .i64 ver] w fun r w'=>r=.returned (.tuple #[.slice none 0 0,.bool false])∧zdd Kd w w' c m ns ⟨k.most,k.l,k.hit,k.miss+1⟩:=by
 obtain ⟨dt,ah,af,h1,h2⟩:=h;refine (zn9 h1 lba ver hl hm fun g hf hv=>?_).mono ?_
 · have h3:=List.find?_eq_none.1 hg (dt g) (by rw [←h2];exact List.mem_map_of_mem (zbS hf).1)
   simp [(zbS hf).2,hv] at h3
 · rintro r w' ⟨rfl,h3,t3⟩
   exact ⟨rfl,ns,⟨dt,ah,af,h3,h2⟩,t3.mono fun b hb=>.inr (by rw [hb];exact List.mem_cons_self ..),fun g hg=>.inl hg⟩
theorem zmM (h:IsCa Kd w c m ns k) (lba ver:Int) (hm:0≤k.hit∧k.hit<9223372036854775807) {y:En} (hg:zhy k.l lba ver=some y) :
 Calls Tryz.prog 61 #[.pointer (some ⟨c,0,none⟩),.int .i64 lba,.int .i64 ver] w fun r w'=>∃ v,r=.returned (.tuple #[v,.bool true])∧IsB w' (fun b=>w.heap.size≤b) v y.b∧zdd Kd w w' c m ns ⟨k.most,y::zcs k.l lba,k.hit+1,k.miss⟩:=by
 obtain ⟨dt,ah,af,h1,h2⟩:=h;obtain ⟨g1,g2,g3⟩:=zfo hg;rw [←h2] at g1;obtain ⟨g,hgm,rfl⟩:=List.mem_map.1 g1;obtain ⟨l,r,rfl⟩:=List.append_of_mem hgm;subst g2 g3;refine (znV h1 hm).mono ?_;rintro r' w' ⟨v,ah',af',rfl,hv,h3,t3⟩;have hperm:(l++g::r).Perm (g::(l++r)):=List.perm_middle;exact ⟨v,rfl,hv,_,⟨dt,ah',af',h3,by
  show dt g::(l++r).map dt=dt g::zcs k.l (dt g).lba;rw [←h2,(zeu (x:=dt g) h1.lbas rfl).2]⟩,t3.mono fun b hb=>.inr hb,fun y hy=>.inl (hperm.mem_iff.2 hy)⟩
theorem zp9 (h:IsRd Kd w gr c m ns k t) (x:En) (hx:0≤x.lba∧x.lba≤9223372036854775807∧0≤x.ver∧x.ver≤9223372036854775807∧x.b.length=16) {K:Nat→Prop} {v:Value} (hv:IsB w K v x.b) (hns:(k.l.length:Int)≤1000000) (hKd:∀ b,w.heap.size≤b→Kd b) :
 Calls Tryz.prog 62 #[.pointer (some ⟨c,0,none⟩),.int .i64 x.lba,.int .i64 x.ver,v] w fun r' w'=>r'=.returned (.int .i64 0)∧zat Kd w w' gr c m ns ⟨k.most,zel k.most k.l x,k.hit,k.miss⟩ t:=by
 have hlen:=h.len;obtain ⟨hB,dt,ah,af,h1,h2⟩:=h;refine (zni h1 x hx hv (by omega) hKd).mono ?_
 rintro r' w' ⟨rfl,h3⟩;rw [h2] at h3;exact ⟨rfl,zdd.rd ⟨hB,dt,ah,af,h1,h2⟩ h3⟩
theorem IsCa.turnedK {S Kd':Nat→Prop} (h:IsCa Kd w c m ns k) (ht:za0 w w' S) (h1:¬S m∧∀ b∈c::ns,¬S b) (h2:∀ b,Kd b→b<w.heap.size→¬S b∧Kd' b):IsCa Kd' w' c m ns k:=by
 obtain ⟨dt,ah,af,⟨⟨n1,n2⟩,n3,n4,n5,n6⟩,n7⟩:=h;refine ⟨dt,ah,af,⟨⟨n1.turned ht (h1.2 c (List.mem_cons_self ..)),fun g hg=>?_⟩,n3,n4.turned ht h1.1,n5,n6⟩,n7⟩
 obtain ⟨v,e1,e2⟩:=n2 g hg;exact ⟨v,e1.turned ht (h1.2 g (List.mem_cons_of_mem _ hg)),(e2.lt.turned ht fun b hb=>(h2 b hb.1 hb.2).1).more fun b hb=>(h2 b hb.1 hb.2).2⟩
theorem IsRd.turnedK {S Kd':Nat→Prop} (h:IsRd Kd w gr c m ns k t) (ht:za0 w w' S) (h1:∀ b,OfRd gr c m ns b→¬S b) (h2:∀ b,Kd b→b<w.heap.size→¬S b∧Kd' b):IsRd Kd' w' gr c m ns k t:=
 ⟨h.1.turned ht (h1 gr (.inl rfl)),h.2.turnedK ht ⟨h1 m (.inr (.inl rfl)),fun b hb=>h1 b (.inr (.inr hb))⟩ h2⟩
theorem IsRd.moreK {Kd':Nat→Prop} (h:IsRd Kd w gr c m ns k t) (h2:∀ b,Kd b→b<w.heap.size→Kd' b):IsRd Kd' w gr c m ns k t:=
 h.turnedK (za0.refl w fun _=>False) (fun _ _ h=>h) fun b hb hl=>⟨fun h=>h,h2 b hb hl⟩
theorem IsRd.own {base n:Nat} {v:Value} {xs:List Value} (h:IsRd Kd w gr c m ns k t) (how:w.ownsRow base 5 1 v n xs):∀ b,OfRd gr c m ns b→some b≠v.ownBlock:=fun b hb e=>by
 obtain ⟨hB,dt,ah,af,h1,h2⟩:=h;rcases hb with rfl | rfl | hb
 · exact zcR how hB (by decide) e.symm
 · obtain ⟨D,⟨es,kk,hm,_⟩,_⟩:=h1.map
   rcases how.2 with ⟨rfl,_⟩ | ⟨g',cap,cur,rfl,_,hh,_⟩
   · simp [Value.ownBlock] at e
   · have:g'=b:=by simpa [Value.ownBlock] using e.symm
     subst this;rw [hm] at hh;injection hh with hh;cases hh
 · rcases List.mem_cons.1 hb with h8 | h8
   · subst h8;exact zcR how h1.nd.ca (by decide) e.symm
   · obtain ⟨v3,h3,_⟩:=h1.nd.en _ h8
     exact zcR how h3 (by decide) e.symm
abbrev KO (Kd:Nat→Prop) (v:Value) (b:Nat):Prop:=Kd b∧some b≠v.ownBlock
theorem IsRd.grew {base n:Nat} {v v':Value} {xs:List Value} (h:IsRd (KO Kd v) w gr c m ns k t) (how:w.ownsRow base 5 1 v n xs) (hg:Grew base w w' v v'):IsRd (KO Kd v') w' gr c m ns k t:=by
 have hl:=h.own how;have hg1:=hg.grown;have ht:za0 w w' (fun b=>some b=v.ownBlock):=⟨hg1.os,hg1.tape,hg1.output,hg1.size,fun i hi hn=>hg1.block i hi hn⟩
 refine h.turnedK ht hl fun b hb hlt=>⟨hb.2,hb.1,fun e=>?_⟩
 rcases hg.at_ with h9 | ⟨g,h9,h8⟩
 · exact hb.2 (e.trans h9)
 · rw [h9] at e
   injection e with e;omega
theorem IsRd.trims (h:IsRd Kd w gr c m ns k t) (u:Int) {K:World→Prop} (hk:∀ wy,wy.heap.size=w.heap.size→za0 w wy (fun b=>b=gr)→IsRd Kd wy gr c m ns k u→K wy):K (w.setCell ⟨gr,1,none⟩ (.int .i64 u)):=by
 have hap:=h.apart;obtain ⟨hB,dt,ah,af,h1,h2⟩:=h;have ht:=(za0.refl w (fun b=>b=gr)).set (g:=gr) rfl 1 (.int .i64 u)
 have hN:NoB #[Value.pointer (some ⟨c,0,none⟩),.int .i64 t]:=by
  intro o n;rcases Nat.lt_or_ge o 2 with h | h
  · match o,h with
    | 0,_ | 1,_=>simp
  · rw [Array.getElem?_eq_none (by simpa using h)];simp
 have hne:∀ b,b=m∨b∈c::ns→¬b=gr:=fun b hb e=>hap (by rw [←e];exact hb)
 exact hk _ (by simp) ht ⟨hB.set_ 1 _,dt,ah,af,⟨h1.nd.turned hB hN ht (fun e=>hne c (.inr (List.mem_cons_self ..)) e.symm) (fun h9=>hne gr (.inr (List.mem_cons_of_mem _ h9)) rfl),h1.ring,h1.map.turned ht (hne m (.inl rfl)),h1.lbas,h1.good⟩,h2⟩
theorem zjo (hr:IsRd Kd w gr c m ns k t) (d:Zd) (A:Option Addr) (cA:Nat) (h:Ho) (v:Value) (lba ver:Int) (B:List UInt8) (K K':Nat→Prop) (hd:IsL Rp.zone w K (.slice A d.z.length cA) d.z) (hv:IsHo w K' v h)
 (hK:∀ b,K b→¬OfRd gr c m ns b∧b<w.heap.size) (hK':∀ b,K' b→¬OfRd gr c m ns b∧b<w.heap.size)
 (hok:okD d) (hch:za2 0 h.m) (hf:FitE d.z h.m) (hbl:za9 lba 1) (hB:(zbp d.z h.m lba 1).1=B) (hB16:B.length=16)
 (hl:0≤lba∧lba≤9223372036854775807) (hver:0≤ver∧ver≤9223372036854775807) (hhit:0≤k.hit∧k.hit<9223372036854775807) (hmiss:0≤k.miss∧k.miss<9223372036854775807) (hns:(k.l.length:Int)≤1000000) (hKd:∀ b,w.heap.size≤b→Kd b) :
 Calls Tryz.prog 25 #[.pointer (some ⟨gr,0,none⟩),.agg (zdC d A cA),v,.int .i64 lba,.int .i64 ver] w fun r w'=>
  ∃ vb,r=.returned (.tuple #[vb,.int .i64 0])∧IsB w' (fun b=>w.heap.size≤b) vb (blkC k lba ver B).2∧zat Kd w w' gr c m ns (blkC k lba ver B).1 t:=by
 obtain ⟨vo,vs,vb,vl,vm,rfl,h1,h2,h3,h4,h5⟩:=hv;obtain ⟨Ao,co,rfl,-⟩:=h1.form;obtain ⟨As,cs,rfl,-⟩:=h2.form;obtain ⟨Ab,cb,rfl,-⟩:=zab h3;obtain ⟨Al,cl,rfl,-⟩:=h4.form;obtain ⟨Am,cm,rfl,-⟩:=h5.form;have hby:=fun W hz hm=>ze0 d A cA Am cm h.m lba 1 K K' W hz hm hok hch hbl (by decide) hf
 rw [hB] at hby;have E:=((Kn.start w).give za1.list hd).give za1.list h5 |>.push 27 (zdC d A cA) |>.push 38 (hoS h Ao co As cs Ab cb Al cl Am cm)
 rw [World.size_alloc] at E;have H16:=Lib.hid hB16;clear h1 h2 h3 h4 h5 hd hB16 hB;go_enter Tryz.func25,Tryz.ntmps25
 go_upto_region 1 with fail;have h0:=hr.step E.below;have hlt:=fun {b}=>hr.lt (b:=b)
 generalize (w.alloc (.cells (zdC d A cA) 27)).alloc (.cells (hoS h Ao co As cs Ab cb Al cl Am cm) 38)=w2 at E h0 ⊢;obtain ⟨q0,f0⟩:=h0.1.rules;have u0:=h0.1.lt;cases hg:zhy k.l lba ver with
 | some y=>
   have hget:=zmM h0.2 lba ver hhit hg;go_wp2_with fail;refine hget.mono ?_;rintro r' w3 ⟨v3,rfl,hb3,hm3⟩;go_wp2_with fail;go_ret2;unfold blkC;rw [hg];exact ⟨_,rfl,hb3.more fun b hb=>Nat.le_trans E.below.size hb,zat.pre E.below (zdd.rd h0 hm3)⟩
 | none=>
   have hget:=zk5 h0.2 lba ver hl hmiss hg;go_wp2_with fail;refine hget.mono ?_;rintro r' w3 ⟨rfl,hm3⟩;obtain ⟨ns3,h3,t3,s3⟩:=zdd.rd h0 hm3;have hBd:=(E.at_ m1).turned t3 (fun h9=>by have:=hlt h9;omega)
   have hBh:=(E.at_ m0).turned t3 (fun h9=>by have:=hlt h9;omega)
   have hzl:=(E.get m1).turned t3 (fun b hb=>(hK b hb).1)
   have hml:=(E.get m0).turned t3 (fun b hb=>(hK' b hb).1)
   have hbE:=E.below;clear q0 f0 u0 hget E hm3;obtain ⟨q0,f0⟩:=hBd.rules;have u0:=hBd.lt;obtain ⟨q1,f1⟩:=hBh.rules;have u1:=hBh.lt;go_wp2_with fail;refine (hby _ hzl hml).mono ?_;rintro r' w4 ⟨A4,c4,rfl,hown,hb4⟩;have h4:=h3.step hb4;have hv4:=IsB.of_own hown (by rw [H16.out];decide)
   have hpu:=zp9 h4 ⟨lba,ver,B⟩ ⟨hl.1,hl.2,hver.1,hver.2,H16.out⟩ hv4 hns (fun b hb=>hKd b (by have:=hbE.size;have:=t3.size;have:=hb4.size;omega))
   obtain ⟨q2,f2⟩:=h4.1.rules;have u2:=h4.1.lt;clear q0 f0 u0 q1 f1 u1 hby;go_wp2_with fail;refine hpu.mono ?_;rintro r' w5 ⟨rfl,hm5⟩;obtain ⟨ns5,h5,t5,s5⟩:=hm5;have hv5:=hv4.turned t5 (fun b hb h9=>by have:=h3.lt h9;omega)
   clear q2 f2 u2 hpu;go_wp2_with fail;go_ret2;unfold blkC;rw [hg];have hz1:=hbE.size;have hz3:=t3.size;exact ⟨_,rfl,hv5.more fun b hb=>by omega,zat.pre hbE (zat.on t3 s3 (zat.pre hb4 ⟨ns5,h5,t5,s5⟩))⟩
end
end Go.Proofs.YthblkdnijhphhaaGreat
