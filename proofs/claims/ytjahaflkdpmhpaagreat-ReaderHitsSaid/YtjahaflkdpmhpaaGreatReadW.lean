/- A part of the proof. -/
import Derived.Test.YtjahaflkdpmhpaaGreatHostSpec
set_option linter.unusedSimpArgs false
set_option maxHeartbeats 8000000
set_option maxRecDepth 100000
namespace Go.Proofs.YtjahaflkdpmhpaaGreat
open Go.RowKit
def fz (F:Nat→Int) (n j:Nat):List Zn:=(List.range n).map fun k=>if k<j then ⟨0,F k,[]⟩ else z0
def fo (F:Nat→Int) (j:Nat):List Fn:=(List.range j).map fun (k:Nat)=>⟨(k:Int),1,F k⟩
def startH (S:List Sp) (F:Nat→Int) (j:Nat):Ho:=⟨1,fo F j,S,false,p0k,[],1,0⟩
section
variable {n j:Nat} {M:Int} {F:Nat→Int} {S:List Sp}
theorem fz_len:(fz F n j).length=n:=by simp [fz]
theorem fz_at {k:Nat} (hk:k<n):(fz F n j)[k]?=some (if k<j then ⟨0,F k,[]⟩ else z0):=by
 unfold fz;rw [List.getElem?_map,List.getElem?_range hk];rfl
theorem fz_ok (hM:1≤M∧M≤65536) (hn:1≤n∧n≤64) (hF:∀ k,k<n→0≤F k):OkA M (fz F n j):=by
 refine ⟨hM,by rw [fz_len];exact hn,fun z hz=>?_⟩
 obtain ⟨k,hk,rfl⟩:=List.mem_map.1 hz;have:=hF k (List.mem_range.1 hk);unfold okZ;split
 · exact ⟨hM.1,hM.2,this,.inl ⟨rfl,rfl⟩⟩
 · exact ⟨hM.1,hM.2,by decide,.inl ⟨rfl,rfl⟩⟩
theorem fz_set (hj:j<n):(fz F n j).set j ⟨0,F j,[]⟩=fz F n (j+1):=by
 refine List.ext_getElem? fun k=>?_
 rw [List.getElem?_set];by_cases hk:k<n
 · rw [fz_at hk,fz_at hk,fz_len]
   by_cases hjk:j=k
   · subst hjk;rw [if_pos rfl,if_pos hj,if_pos (by omega)]
   · rw [if_neg hjk]
     by_cases h1:k<j
     · rw [if_pos h1,if_pos (by omega)]
     · rw [if_neg h1,if_neg (by omega)]
 · rw [if_neg (by omega),List.getElem?_eq_none (by rw [fz_len];omega),List.getElem?_eq_none (by rw [fz_len];omega)]
theorem fence_at (hM:1≤M∧M≤65536) (hn:1≤n∧n≤64) (hF:∀ k,k<n→0<F k) (hj:j<n) :
 doZ (devA M (fz F n j)) ⟨7,j,F j,0,0,[]⟩=(devA M (fz F n (j+1)),dn0):=by
 rw [devA_fence (z:=z0) (fz_ok hM hn fun k hk=>by have:=hF k hk;omega) (by rw [fz_at hj,if_neg (Nat.lt_irrefl j)]) (hF j hj)]
 rw [←fz_set hj];rfl
theorem fo_at {k:Nat} {e:Fn} (h:(fo F j)[k]?=some e):k<j∧e=⟨(k:Int),1,F k⟩:=by
 unfold fo at h;rw [List.getElem?_map] at h;obtain ⟨x,hx,rfl⟩:=Option.map_eq_some_iff.1 h;obtain ⟨h1,rfl⟩:=List.getElem?_eq_some_iff.1 hx;rw [List.length_range] at h1;exact ⟨h1,by rw [List.getElem_range]⟩
theorem fo_len:(fo F j).length=j:=by simp [fo]
theorem gain_at:gainH (startH S F j) j (F j)=startH S F (j+1):=by
 have hp:posF (fo F j) (j:Int)=j:=posF_is (by rw [fo_len];exact Nat.le_refl _) (fun k e hk he=>by obtain ⟨_,rfl⟩:=fo_at he;show (k:Int)<j;omega) (fun e he=>by have:=(fo_at he).1;omega)
 have hh:hasF (fo F j) (j:Int)=false:=by
  unfold hasF;rw [hp,List.getElem?_eq_none (by rw [fo_len];exact Nat.le_refl _)]
 have hput:putF (fo F j) (j:Int) 1 (F j)=fo F (j+1):=by
  unfold putF;rw [hh,hp,if_neg (by simp),List.take_of_length_le (by rw [fo_len];exact Nat.le_refl _),List.drop_of_length_le (by rw [fo_len];exact Nat.le_refl _),List.append_nil]
  unfold fo;rw [List.range_succ,List.map_append];rfl
 unfold gainH startH;rw [if_neg (by simp),hput]
theorem fo_rise:(fo F j).Pairwise (fun a b=>a.zone<b.zone):=by
 rw [List.pairwise_iff_getElem];intro a b ha hb hab;have h1:=fo_at (List.getElem?_eq_getElem ha);have h2:=fo_at (List.getElem?_eq_getElem hb);rw [h1.2,h2.2];show (a:Int)<b;omega
theorem HInv.start (hM:1≤M∧M≤4000) (hn:1≤n∧n≤64) (hF:∀ k,k<n→0<F k∧F k≤1000000):HInv n M F 10000 S (devA M (fz F n n)) (startH S F n) (fun _=>⟨1,0,0⟩) []:=by
 have hz:∀ k,k<n→(fz F n n).getD k z0=⟨0,F k,[]⟩:=fun k hk=>by
  rw [List.getD_eq_getElem?_getD,fz_at hk,if_pos hk];rfl
 refine ⟨by simp [devA],fz_ok ⟨hM.1,by omega⟩ hn fun k hk=>by have:=hF k hk;omega,hM.2,by decide,⟨fun _=>okHead_of (by decide) (by decide) (by decide),by simp,by simp,by simp,fun k=>by simp [zbH,rsOf]⟩,⟨fz_len,fun k hk=>by
  show ((fz F n n).getD k z0).d=_;rw [hz k hk];simp [zbH,rsOf]⟩,fun k hk=>by
  show ((fz F n n).getD k z0).fe=_;rw [hz k hk],fun k hk=>by have:=hF k hk;omega,rfl,rfl,rfl,?_,by simp [startH],by simp [startH],by simp,by simp [startH],(fun h=>by cases h),fun _=>rfl⟩
 refine ⟨trivial,fun b=>?_⟩
 have:entsH (fun _=>(⟨1,0,0⟩:Hd)) ([]:List (Nat × Rc)) (List.range n)=[]:=by
  unfold entsH;rw [List.flatMap_eq_nil_iff];intro k _;simp [entsF,fdH,rsOf,f0d]
 rw [this];show Best [] b (see [] b);rw [see_nil];intro e he;cases he
end
section
variable {n:Nat} {M:Int} {F:Nat→Int} {d:Zd} {h:Ho} {H:Nat→Hd} {log:List (Nat × Rc)}
end
abbrev zdC (d:Zd) (A:Option Addr) (c:Nat):Array Value:=#[.int .i64 d.cap,.int .i64 d.opn,.int .i64 d.act,.slice A d.z.length c]
theorem ho_formX {w:World} {K:Nat→Prop} {v:Value} {h:Ho} (hh:IsHo w K v h):∃ Ao co As cs Ab cb Al cl Am cm,v=.agg (hoS h Ao co As cs Ab cb Al cl Am cm):=by
 obtain ⟨vo,vs,vb,vl,vm,rfl,a1,a2,a3,a4,a5⟩:=hh;obtain ⟨Ao,co,rfl,-⟩:=a1.form;obtain ⟨As,cs,rfl,-⟩:=a2.form;obtain ⟨Ab,cb,rfl,-⟩:=isB_form a3;obtain ⟨Al,cl,rfl,-⟩:=a4.form;obtain ⟨Am,cm,rfl,-⟩:=a5.form;exact ⟨Ao,co,As,cs,Ab,cb,Al,cl,Am,cm,rfl⟩
theorem ho_cs {w:World} {K:Nat→Prop} {v:Value} {h:Ho} (hh:IsHo w K v h):∃ cs:Array Value,v=.agg cs∧cs.size=15∧cs.toList.all (·.oneCell')=true∧cs[3]?=some (.bool h.opn):=by
 obtain ⟨Ao,co,As,cs,Ab,cb,Al,cl,Am,cm,rfl⟩:=ho_formX hh;exact ⟨_,rfl,rfl,rfl,rfl⟩
theorem blk_ne {w:World} {g g':Nat} {t t':TypeId} {cs cs':Array Value} (h:Blk w g t cs) (h':Blk w g' t' cs') (ht:t≠t'):g≠g':=fun e=>by
 subst e;unfold Blk at h h';rw [h] at h';injection h' with h';injection h' with _ h2 _;exact ht h2
section
variable {ops:Array Oper} {o:Oper} {a:Act} {w:World} {K:Act→World→Prop} {Q:Exit→Act→World→Prop} {x y:Operand} {g:Nat} {t:TypeId} {cs cs':Array Value}
theorem st_hoI (hw:Region.wanted o (yielded ops a.tmps)=true) (hB:Blk w g t cs) (hn:cs.size=15) (ho:o.op=.store 42 x y) (hx:a.eval x=.pointer (some ⟨g,0,none⟩)) (hy:a.eval y=.agg cs') (hn':cs'.size=15) (h1:cs'.toList.all (·.oneCell')=true)
 (h:∀ w',w'.heap.size=w.heap.size→Turned w w' (fun b=>b=g)→Blk w' g t cs'→K (a.put o.dst undef) w'):if Region.wanted o (yielded ops a.tmps)=true then Oper.wp Tryz.prog o a w K Q else K (a.put o.dst undef) w:=by
 rw [if_pos hw];exact wp_store_row _ x y ho g cs' hx hy t cs hB (by rw [ho_size,hn']) (by rw [hn,hn']) (by rw [←Array.all_toList];exact h1) (h _ (setRow_turned hB).1 (setRow_turned hB).2.1 (setRow_turned hB).2.2)
theorem st_znsI (hw:Region.wanted o (yielded ops a.tmps)=true) (hB:Blk w g t cs) (hn:cs.size=4) (ho:o.op=.store 28 x y) (hx:a.eval x=.pointer (some ⟨g,0,none⟩)) (hy:a.eval y=.agg cs') (hn':cs'.size=4) (h1:cs'.toList.all (·.oneCell')=true)
 (h:∀ w',w'.heap.size=w.heap.size→Turned w w' (fun b=>b=g)→Blk w' g t cs'→K (a.put o.dst undef) w'):if Region.wanted o (yielded ops a.tmps)=true then Oper.wp Tryz.prog o a w K Q else K (a.put o.dst undef) w:=by
 rw [if_pos hw];exact wp_store_row _ x y ho g cs' hx hy t cs hB (by rw [zns_size,hn']) (by rw [hn,hn']) (by rw [←Array.all_toList];exact h1) (h _ (setRow_turned hB).1 (setRow_turned hB).2.1 (setRow_turned hB).2.2)
end
section
variable {w wr wr':World} {gd gh:Nat} {d d':Zd} {h h':Ho}
end
section
variable {n:Nat} {M:Int} {F:Nat→Int} {d:Zd} {h:Ho} {H:Nat→Hd} {log:List (Nat × Rc)}
end
end Go.Proofs.YtjahaflkdpmhpaaGreat
namespace Go.Proofs.YtjahaflkdpmhpaaGreat
open Go.RowKit Go.WideMaps
def getCa (L:List En) (lba ver:Int):Option En:=L.find? fun y=>y.lba == lba && y.ver == ver
def blkC (k:Ca) (lba ver:Int) (B:List UInt8):Ca × List UInt8:=
 match getCa k.l lba ver with
 | some y=>(⟨k.most,y::dropCa k.l lba,k.hit+1,k.miss⟩,y.b)
 | none=>(⟨k.most,putCa k.most k.l ⟨lba,ver,B⟩,k.hit,k.miss+1⟩,B)
def IsRd (Kd:Nat→Prop) (w:World) (gr c m:Nat) (ns:List Nat) (k:Ca) (t:Int):Prop:=Blk w gr 87 #[.pointer (some ⟨c,0,none⟩),.int .i64 t]∧IsCa Kd w c m ns k
abbrev OfRd (gr c m:Nat) (ns:List Nat) (b:Nat):Prop:=b=gr∨b=m∨b∈c::ns
def RdMade (Kd:Nat→Prop) (w w':World) (gr c m:Nat) (ns:List Nat) (k:Ca) (t:Int):Prop:=∃ ns',IsRd Kd w' gr c m ns' k t∧Turned w w' (OfRd gr c m ns)∧∀ g∈ns',g∈ns∨w.heap.size≤g
section
variable {Kd:Nat→Prop} {w w' w'':World} {gr c m g:Nat} {ns:List Nat} {k k':Ca} {t t':Int}
theorem IsCa.step (h:IsCa Kd w c m ns k) (hb:Below w.heap.size w w'):IsCa Kd w' c m ns k:=by obtain ⟨dt,ah,af,h1,h2⟩:=h;exact ⟨dt,ah,af,h1.step hb,h2⟩
theorem IsRd.step (h:IsRd Kd w gr c m ns k t) (hb:Below w.heap.size w w'):IsRd Kd w' gr c m ns k t:=⟨h.1.step hb,h.2.step hb⟩
theorem IsCa.lt (h:IsCa Kd w c m ns k):m<w.heap.size∧∀ b∈c::ns,b<w.heap.size:=by obtain ⟨dt,ah,af,h1,h2⟩:=h;exact ⟨h1.map.lt,h1.lt⟩
theorem IsRd.lt (h:IsRd Kd w gr c m ns k t) {b:Nat} (hb:OfRd gr c m ns b):b<w.heap.size:=by
 rcases hb with rfl | rfl | hb
 · exact h.1.lt
 · exact h.2.lt.1
 · exact h.2.lt.2 b hb
theorem IsRd.apart (h:IsRd Kd w gr c m ns k t):¬(gr=m∨gr∈c::ns):=fun h9=>by
 obtain ⟨hB,dt,ah,af,h1,h2⟩:=h;rcases h9 with h9 | h9
 · subst h9
   obtain ⟨D,⟨es,k,hm,_⟩,_⟩:=h1.map;unfold Blk at hB;rw [hB] at hm;injection hm with hm;cases hm
 · rcases List.mem_cons.1 h9 with h8 | h8
   · exact blk_ne hB h1.nd.ca (by decide) h8
   · obtain ⟨v,h3,_⟩:=h1.nd.en _ h8
     exact blk_ne hB h3 (by decide) rfl
theorem IsRd.len (h:IsRd Kd w gr c m ns k t):ns.length=k.l.length:=by obtain ⟨_,dt,ah,af,h1,h2⟩:=h;rw [←h2,List.length_map]
theorem RdMade.same (h:IsRd Kd w gr c m ns k t) (hb:Below w.heap.size w w'):RdMade Kd w w' gr c m ns k t:=⟨ns,h.step hb,Turned.of hb,fun _ hg=>.inl hg⟩
theorem RdMade.on {ns1:List Nat} (t1:Turned w w' (OfRd gr c m ns)) (s1:∀ g∈ns1,g∈ns∨w.heap.size≤g) (h':RdMade Kd w' w'' gr c m ns1 k' t'):RdMade Kd w w'' gr c m ns k' t':=by
 obtain ⟨ns2,h2,t2,s2⟩:=h';have hz:=t1.size;refine ⟨ns2,h2,((t1.mono (S':=fun b=>OfRd gr c m ns b∨w.heap.size≤b) fun b hb=>.inl hb).trans (t2.mono fun b hb=>?_)).fresh fun b hb=>hb,fun g hg=>?_⟩
 · rcases hb with hb | hb | hb
   · exact .inl (.inl hb)
   · exact .inl (.inr (.inl hb))
   · rcases List.mem_cons.1 hb with h8 | h8
     · exact .inl (.inr (.inr (by rw [h8];exact List.mem_cons_self ..)))
     · rcases s1 b h8 with h7 | h7
       · exact .inl (.inr (.inr (List.mem_cons_of_mem _ h7)))
       · exact .inr h7
 · rcases s2 g hg with h8 | h8
   · exact s1 g h8
   · exact .inr (by omega)
theorem RdMade.pre (hb:Below w.heap.size w w') (h':RdMade Kd w' w'' gr c m ns k' t'):RdMade Kd w w'' gr c m ns k' t':=RdMade.on (Turned.of hb) (fun _ hg=>.inl hg) h'
theorem RdMade.post (h:RdMade Kd w w' gr c m ns k t) (hb:Below w'.heap.size w' w''):RdMade Kd w w'' gr c m ns k t:=by
 obtain ⟨ns1,h1,t1,s1⟩:=h;exact ⟨ns1,h1.step hb,t1.trans (Turned.of hb),s1⟩
theorem CaMade.rd (h:IsRd Kd w gr c m ns k t) (hm:CaMade Kd w w' c m ns k'):RdMade Kd w w' gr c m ns k' t:=by
 obtain ⟨ns',h1,t1,s1⟩:=hm;exact ⟨ns',⟨h.1.turned t1 h.apart,h1⟩,t1.mono fun b hb=>.inr hb,s1⟩
theorem getCa_mem {L:List En} {lba ver:Int} {y:En} (h:getCa L lba ver=some y):y∈L∧y.lba=lba∧y.ver=ver:=by
 have h1:=List.find?_some h;simp only [Bool.and_eq_true,beq_iff_eq] at h1;exact ⟨List.mem_of_find?_eq_some h,h1⟩
theorem cget_miss (h:IsCa Kd w c m ns k) (lba ver:Int) (hl:0≤lba∧lba≤9223372036854775807) (hm:0≤k.miss∧k.miss<9223372036854775807) (hg:getCa k.l lba ver=none) :
 Calls Tryz.prog 128 #[.pointer (some ⟨c,0,none⟩),.int .i64 lba,.int .i64 ver] w fun r w'=>r=.returned (.tuple #[.slice none 0 0,.bool false])∧CaMade Kd w w' c m ns ⟨k.most,k.l,k.hit,k.miss+1⟩:=by
 obtain ⟨dt,ah,af,h1,h2⟩:=h;refine (get_miss h1 lba ver hl hm fun g hf hv=>?_).mono ?_
 · have h3:=List.find?_eq_none.1 hg (dt g) (by rw [←h2];exact List.mem_map_of_mem (fnd_some hf).1)
   simp [(fnd_some hf).2,hv] at h3
 · rintro r w' ⟨rfl,h3,t3⟩
   exact ⟨rfl,ns,⟨dt,ah,af,h3,h2⟩,t3.mono fun b hb=>.inr (by rw [hb];exact List.mem_cons_self ..),fun g hg=>.inl hg⟩
theorem cget_hit (h:IsCa Kd w c m ns k) (lba ver:Int) (hm:0≤k.hit∧k.hit<9223372036854775807) {y:En} (hg:getCa k.l lba ver=some y) :
 Calls Tryz.prog 128 #[.pointer (some ⟨c,0,none⟩),.int .i64 lba,.int .i64 ver] w fun r w'=>∃ v,r=.returned (.tuple #[v,.bool true])∧IsB w' (fun b=>w.heap.size≤b) v y.b∧CaMade Kd w w' c m ns ⟨k.most,y::dropCa k.l lba,k.hit+1,k.miss⟩:=by
 obtain ⟨dt,ah,af,h1,h2⟩:=h;obtain ⟨g1,g2,g3⟩:=getCa_mem hg;rw [←h2] at g1;obtain ⟨g,hgm,rfl⟩:=List.mem_map.1 g1;obtain ⟨l,r,rfl⟩:=List.append_of_mem hgm;subst g2 g3;refine (get_hit h1 hm).mono ?_;rintro r' w' ⟨v,ah',af',rfl,hv,h3,t3⟩;have hperm:(l++g::r).Perm (g::(l++r)):=List.perm_middle;exact ⟨v,rfl,hv,_,⟨dt,ah',af',h3,by
  show dt g::(l++r).map dt=dt g::dropCa k.l (dt g).lba;rw [←h2,(old_some (x:=dt g) h1.lbas rfl).2]⟩,t3.mono fun b hb=>.inr hb,fun y hy=>.inl (hperm.mem_iff.2 hy)⟩
theorem cputR (h:IsRd Kd w gr c m ns k t) (x:En) (hx:0≤x.lba∧x.lba≤9223372036854775807∧0≤x.ver∧x.ver≤9223372036854775807∧x.b.length=16) {K:Nat→Prop} {v:Value} (hv:IsB w K v x.b) (hns:(k.l.length:Int)≤1000000) (hKd:∀ b,w.heap.size≤b→Kd b) :
 Calls Tryz.prog 129 #[.pointer (some ⟨c,0,none⟩),.int .i64 x.lba,.int .i64 x.ver,v] w fun r' w'=>r'=.returned (.int .i64 0)∧RdMade Kd w w' gr c m ns ⟨k.most,putCa k.most k.l x,k.hit,k.miss⟩ t:=by
 have hlen:=h.len;obtain ⟨hB,dt,ah,af,h1,h2⟩:=h;refine (cput_any h1 x hx hv (by omega) hKd).mono ?_
 rintro r' w' ⟨rfl,h3⟩;rw [h2] at h3;exact ⟨rfl,CaMade.rd ⟨hB,dt,ah,af,h1,h2⟩ h3⟩
theorem IsCa.turnedK {S Kd':Nat→Prop} (h:IsCa Kd w c m ns k) (ht:Turned w w' S) (h1:¬S m∧∀ b∈c::ns,¬S b) (h2:∀ b,Kd b→b<w.heap.size→¬S b∧Kd' b):IsCa Kd' w' c m ns k:=by
 obtain ⟨dt,ah,af,⟨⟨n1,n2⟩,n3,n4,n5,n6⟩,n7⟩:=h;refine ⟨dt,ah,af,⟨⟨n1.turned ht (h1.2 c (List.mem_cons_self ..)),fun g hg=>?_⟩,n3,n4.turned ht h1.1,n5,n6⟩,n7⟩
 obtain ⟨v,e1,e2⟩:=n2 g hg;exact ⟨v,e1.turned ht (h1.2 g (List.mem_cons_of_mem _ hg)),(e2.lt.turned ht fun b hb=>(h2 b hb.1 hb.2).1).more fun b hb=>(h2 b hb.1 hb.2).2⟩
theorem IsRd.turnedK {S Kd':Nat→Prop} (h:IsRd Kd w gr c m ns k t) (ht:Turned w w' S) (h1:∀ b,OfRd gr c m ns b→¬S b) (h2:∀ b,Kd b→b<w.heap.size→¬S b∧Kd' b):IsRd Kd' w' gr c m ns k t:=
 ⟨h.1.turned ht (h1 gr (.inl rfl)),h.2.turnedK ht ⟨h1 m (.inr (.inl rfl)),fun b hb=>h1 b (.inr (.inr hb))⟩ h2⟩
theorem IsRd.moreK {Kd':Nat→Prop} (h:IsRd Kd w gr c m ns k t) (h2:∀ b,Kd b→b<w.heap.size→Kd' b):IsRd Kd' w gr c m ns k t:=
 h.turnedK (Turned.refl w fun _=>False) (fun _ _ h=>h) fun b hb hl=>⟨fun h=>h,h2 b hb hl⟩
theorem IsRd.own {base n:Nat} {v:Value} {xs:List Value} (h:IsRd Kd w gr c m ns k t) (how:w.ownsRow base 5 1 v n xs):∀ b,OfRd gr c m ns b→some b≠v.ownBlock:=fun b hb e=>by
 obtain ⟨hB,dt,ah,af,h1,h2⟩:=h;rcases hb with rfl | rfl | hb
 · exact own_blk_ne how hB (by decide) e.symm
 · obtain ⟨D,⟨es,kk,hm,_⟩,_⟩:=h1.map
   rcases how.2 with ⟨rfl,_⟩ | ⟨g',cap,cur,rfl,_,hh,_⟩
   · simp [Value.ownBlock] at e
   · have:g'=b:=by simpa [Value.ownBlock] using e.symm
     subst this;rw [hm] at hh;injection hh with hh;cases hh
 · rcases List.mem_cons.1 hb with h8 | h8
   · subst h8;exact own_blk_ne how h1.nd.ca (by decide) e.symm
   · obtain ⟨v3,h3,_⟩:=h1.nd.en _ h8
     exact own_blk_ne how h3 (by decide) e.symm
abbrev KO (Kd:Nat→Prop) (v:Value) (b:Nat):Prop:=Kd b∧some b≠v.ownBlock
theorem IsRd.grew {base n:Nat} {v v':Value} {xs:List Value} (h:IsRd (KO Kd v) w gr c m ns k t) (how:w.ownsRow base 5 1 v n xs) (hg:Grew base w w' v v'):IsRd (KO Kd v') w' gr c m ns k t:=by
 have hl:=h.own how;have hg1:=hg.grown;have ht:Turned w w' (fun b=>some b=v.ownBlock):=⟨hg1.os,hg1.tape,hg1.output,hg1.size,fun i hi hn=>hg1.block i hi hn⟩
 refine h.turnedK ht hl fun b hb hlt=>⟨hb.2,hb.1,fun e=>?_⟩
 rcases hg.at_ with h9 | ⟨g,h9,h8⟩
 · exact hb.2 (e.trans h9)
 · rw [h9] at e
   injection e with e;omega
theorem IsRd.trims (h:IsRd Kd w gr c m ns k t) (u:Int) {K:World→Prop} (hk:∀ wy,wy.heap.size=w.heap.size→Turned w wy (fun b=>b=gr)→IsRd Kd wy gr c m ns k u→K wy):K (w.setCell ⟨gr,1,none⟩ (.int .i64 u)):=by
 have hap:=h.apart;obtain ⟨hB,dt,ah,af,h1,h2⟩:=h;have ht:=(Turned.refl w (fun b=>b=gr)).set (g:=gr) rfl 1 (.int .i64 u)
 have hN:NoB #[Value.pointer (some ⟨c,0,none⟩),.int .i64 t]:=by
  intro o n;rcases Nat.lt_or_ge o 2 with h | h
  · match o,h with
    | 0,_ | 1,_=>simp
  · rw [Array.getElem?_eq_none (by simpa using h)];simp
 have hne:∀ b,b=m∨b∈c::ns→¬b=gr:=fun b hb e=>hap (by rw [←e];exact hb)
 exact hk _ (by simp) ht ⟨hB.set_ 1 _,dt,ah,af,⟨h1.nd.turned hB hN ht (fun e=>hne c (.inr (List.mem_cons_self ..)) e.symm) (fun h9=>hne gr (.inr (List.mem_cons_of_mem _ h9)) rfl),h1.ring,h1.map.turned ht (hne m (.inl rfl)),h1.lbas,h1.good⟩,h2⟩
theorem rblock_any (hr:IsRd Kd w gr c m ns k t) (d:Zd) (A:Option Addr) (cA:Nat) (h:Ho) (v:Value) (lba ver:Int) (B:List UInt8) (K K':Nat→Prop) (hd:IsL Rp.zone w K (.slice A d.z.length cA) d.z) (hv:IsHo w K' v h)
 (hK:∀ b,K b→¬OfRd gr c m ns b∧b<w.heap.size) (hK':∀ b,K' b→¬OfRd gr c m ns b∧b<w.heap.size)
 (hok:okD d) (hch:chainE 0 h.m) (hf:FitE d.z h.m) (hbl:blocksE lba 1) (hB:(bytesL d.z h.m lba 1).1=B) (hB16:B.length=16)
 (hl:0≤lba∧lba≤9223372036854775807) (hver:0≤ver∧ver≤9223372036854775807) (hhit:0≤k.hit∧k.hit<9223372036854775807) (hmiss:0≤k.miss∧k.miss<9223372036854775807) (hns:(k.l.length:Int)≤1000000) (hKd:∀ b,w.heap.size≤b→Kd b) :
 Calls Tryz.prog 71 #[.pointer (some ⟨gr,0,none⟩),.agg (zdC d A cA),v,.int .i64 lba,.int .i64 ver] w fun r w'=>
  ∃ vb,r=.returned (.tuple #[vb,.int .i64 0])∧IsB w' (fun b=>w.heap.size≤b) vb (blkC k lba ver B).2∧RdMade Kd w w' gr c m ns (blkC k lba ver B).1 t:=by
 obtain ⟨vo,vs,vb,vl,vm,rfl,h1,h2,h3,h4,h5⟩:=hv;obtain ⟨Ao,co,rfl,-⟩:=h1.form;obtain ⟨As,cs,rfl,-⟩:=h2.form;obtain ⟨Ab,cb,rfl,-⟩:=isB_form h3;obtain ⟨Al,cl,rfl,-⟩:=h4.form;obtain ⟨Am,cm,rfl,-⟩:=h5.form;have hby:=fun W hz hm=>rbytes_any d A cA Am cm h.m lba 1 K K' W hz hm hok hch hbl (by decide) hf
 rw [hB] at hby;have E:=((Kn.start w).give Stable.list hd).give Stable.list h5 |>.push 28 (zdC d A cA) |>.push 42 (hoS h Ao co As cs Ab cb Al cl Am cm)
 rw [World.size_alloc] at E;have H16:=Lib.hid hB16;clear h1 h2 h3 h4 h5 hd hB16 hB;go_enter Tryz.func71,Tryz.ntmps71
 go_upto_region 1 with fail;have h0:=hr.step E.below;have hlt:=fun {b}=>hr.lt (b:=b)
 generalize (w.alloc (.cells (zdC d A cA) 28)).alloc (.cells (hoS h Ao co As cs Ab cb Al cl Am cm) 42)=w2 at E h0 ⊢;obtain ⟨q0,f0⟩:=h0.1.rules;have u0:=h0.1.lt;cases hg:getCa k.l lba ver with
 | some y=>
   have hget:=cget_hit h0.2 lba ver hhit hg;go_wp2_with fail;refine hget.mono ?_;rintro r' w3 ⟨v3,rfl,hb3,hm3⟩;go_wp2_with fail;go_ret2;unfold blkC;rw [hg];exact ⟨_,rfl,hb3.more fun b hb=>Nat.le_trans E.below.size hb,RdMade.pre E.below (CaMade.rd h0 hm3)⟩
 | none=>
   have hget:=cget_miss h0.2 lba ver hl hmiss hg;go_wp2_with fail;refine hget.mono ?_;rintro r' w3 ⟨rfl,hm3⟩;obtain ⟨ns3,h3,t3,s3⟩:=CaMade.rd h0 hm3;have hBd:=(E.at_ m1).turned t3 (fun h9=>by have:=hlt h9;omega)
   have hBh:=(E.at_ m0).turned t3 (fun h9=>by have:=hlt h9;omega)
   have hzl:=(E.get m1).turned t3 (fun b hb=>(hK b hb).1)
   have hml:=(E.get m0).turned t3 (fun b hb=>(hK' b hb).1)
   have hbE:=E.below;clear q0 f0 u0 hget E hm3;obtain ⟨q0,f0⟩:=hBd.rules;have u0:=hBd.lt;obtain ⟨q1,f1⟩:=hBh.rules;have u1:=hBh.lt;go_wp2_with fail;refine (hby _ hzl hml).mono ?_;rintro r' w4 ⟨A4,c4,rfl,hown,hb4⟩;have h4:=h3.step hb4;have hv4:=IsB.of_own hown (by rw [H16.out];decide)
   have hpu:=cputR h4 ⟨lba,ver,B⟩ ⟨hl.1,hl.2,hver.1,hver.2,H16.out⟩ hv4 hns (fun b hb=>hKd b (by have:=hbE.size;have:=t3.size;have:=hb4.size;omega))
   obtain ⟨q2,f2⟩:=h4.1.rules;have u2:=h4.1.lt;clear q0 f0 u0 q1 f1 u1 hby;go_wp2_with fail;refine hpu.mono ?_;rintro r' w5 ⟨rfl,hm5⟩;obtain ⟨ns5,h5,t5,s5⟩:=hm5;have hv5:=hv4.turned t5 (fun b hb h9=>by have:=h3.lt h9;omega)
   clear q2 f2 u2 hpu;go_wp2_with fail;go_ret2;unfold blkC;rw [hg];have hz1:=hbE.size;have hz3:=t3.size;exact ⟨_,rfl,hv5.more fun b hb=>by omega,RdMade.pre hbE (RdMade.on t3 s3 (RdMade.pre hb4 ⟨ns5,h5,t5,s5⟩))⟩
end
end Go.Proofs.YtjahaflkdpmhpaaGreat
