/- A part of the proof. -/
import Derived.Test.YthblkdnijhphhaaGreatHostSpans
import Derived.Deep.WholeRow
set_option linter.unusedSimpArgs false
set_option maxHeartbeats 4000000
set_option maxRecDepth 100000
namespace Go.Proofs.YthblkdnijhphhaaGreat
open Go.RowKit
end Go.Proofs.YthblkdnijhphhaaGreat
namespace Go.Proofs.YthblkdnijhphhaaGreat
open Go.RowKit Go.WideShapes Go.ChangeShapes Go.Deep Go.Joins
end Go.Proofs.YthblkdnijhphhaaGreat
namespace Go.Proofs.YthblkdnijhphhaaGreat
open Go.RowKit
theorem zha (r:Rc) (v:Value) (K:Nat→Prop) (w:World) (hr:OkRc r) (hv:IsB w K v r.data) :
 Calls Tryz.prog 152 #[rcV r v] w fun e w'=>e=.returned (.tuple #[.int .i64 (zgq r),.int .i64 (recL r).2])∧Below w.heap.size w w':=by
 have hv0:=hv;obtain ⟨A,c,rfl,hl47⟩:=zab hv;have hrec:=fun W h=>zim r (.slice A r.data.length c) K W hr h
 have hln:=zdJ hr;unfold zgq;generalize recL r=y at hrec hln ⊢;obtain ⟨fb,fe⟩:=y;simp only at hrec hln ⊢;unfold rcV at hrec ⊢;have E:=((Kn.start w).give za1.bytes hv0).push 109 #[.int .i64 r.kind,.int .i64 r.lba,.int .i64 r.n,.int .i64 r.ver,.int .i64 r.zone,.int .i64 r.off,.slice A r.data.length c];obtain ⟨h1,h2⟩:=hln;by_cases hfe:fe=0
 · subst hfe
   have h3:=h2 rfl;rw [if_neg (by simp)]
   clear h2;go_enter Tryz.func152,Tryz.ntmps152
   go_wp2_with fail;refine (hrec _ (E.get m0)).mono ?_;rintro e w1 ⟨A4,c4,rfl,own4,hb4⟩;replace E:=E.step hb4;obtain ⟨q0,f0,t0⟩:=E.rules m0;go_wp2;refine bodyPost_ret (v:=.tuple #[.int .i64 (fb.length-4-r.data.length),.int .i64 0]) (by simp [results,Tryz.results152,go_sem]) rfl ⟨rfl,E.below⟩
 · rw [if_pos hfe]
   have hf2:(fe != 0)=true:=by simpa using hfe
   clear h2 hfe;go_enter Tryz.func152,Tryz.ntmps152
   go_wp2_with fail;refine (hrec _ (E.get m0)).mono ?_;rintro e w1 ⟨A4,c4,rfl,own4,hb4⟩;replace E:=E.step hb4;obtain ⟨q0,f0,t0⟩:=E.rules m0;go_wp2;refine bodyPost_ret (v:=.tuple #[.int .i64 0,.int .i64 fe]) (by simp [results,Tryz.results152,go_sem]) rfl ⟨rfl,E.below⟩
theorem IsL.fd_at {w:World} {K:Nat→Prop} {A:Option Addr} {n c:Nat} {l:List Fd} (h:IsL Rp.fd w K (.slice A n c) l) {j:Nat} {f:Fd} (hj:l[j]?=some f) :
 ∃ ad A1 c1 A2 c2,A=some ad∧K ad.block∧IsL Rp.rc w K (.slice A1 f.l.length c1) f.l∧IsL Rp.int w K (.slice A2 f.at_.length c2) f.at_ ∧
   w.cell? (ad.add (j*7))=some (.bool f.head)∧w.cell? ⟨(ad.add (j*7)).block,(ad.add (j*7)).off+1,none⟩=some (.int .i64 f.h.host)∧w.cell? ⟨(ad.add (j*7)).block,(ad.add (j*7)).off+2,none⟩=some (.int .i64 f.h.epoch) ∧
   w.cell? ⟨(ad.add (j*7)).block,(ad.add (j*7)).off+3,none⟩=some (.int .i64 f.h.seq)∧w.cell? ⟨(ad.add (j*7)).block,(ad.add (j*7)).off+4,none⟩=some (.slice A1 f.l.length c1)∧w.cell? ⟨(ad.add (j*7)).block,(ad.add (j*7)).off+5,none⟩=some (.slice A2 f.at_.length c2) ∧
   w.cell? ⟨(ad.add (j*7)).block,(ad.add (j*7)).off+6,none⟩=some (.int .i64 f.used):=by
 obtain ⟨ad,es,hA,hKad,hes,hcell⟩:=h.at_ hj;obtain ⟨vl,va,rfl,h1,h2⟩:=hes;obtain ⟨A1,c1,rfl,_⟩:=h1.form;obtain ⟨A2,c2,rfl,_⟩:=h2.form;have hsz7:Rp.fd.size=7:=rfl;rw [hsz7] at hcell;refine ⟨ad,A1,c1,A2,c2,hA,hKad,h1,h2,?_,?_,?_,?_,?_,?_,?_⟩
 · rw [←zbu (ad.add (j*7))];exact hcell 0 _ rfl
 · rw [←zaC _ 1 (by decide)];exact hcell 1 _ rfl
 · rw [←zaC _ 2 (by decide)];exact hcell 2 _ rfl
 · rw [←zaC _ 3 (by decide)];exact hcell 3 _ rfl
 · rw [←zaC _ 4 (by decide)];exact hcell 4 _ rfl
 · rw [←zaC _ 5 (by decide)];exact hcell 5 _ rfl
 · rw [←zaC _ 6 (by decide)];exact hcell 6 _ rfl
def newR (n:Int) (l:List Rc):Int:=l.foldl (fun n r=>max n r.ver) n
def newF (n:Int) (l:List Fd):Int:=l.foldl (fun n f=>newR n f.l) n
theorem zlI {l:List Rc} {j:Nat} (n:Int) (hj:j<l.length):newR n (l.take (j+1))=max (newR n (l.take j)) l[j].ver:=by
 unfold newR;rw [zde (r:=l[j]) _ (List.getElem?_eq_getElem hj),List.foldl_append];rfl
theorem zkQ {l:List Fd} {j:Nat} (n:Int) (hj:j<l.length):newF n (l.take (j+1))=newR (newF n (l.take j)) l[j].l:=by
 unfold newF;rw [zde (r:=l[j]) _ (List.getElem?_eq_getElem hj),List.foldl_append];rfl
theorem zih (d:Zd) (A:Option Addr) (c:Nat) (K:Nat→Prop) (w:World) (hv:IsL Rp.zone w K (.slice A d.z.length c) d.z) (hd:okD d) (hS:∀ z∈d.z,zhs z.d) :
 Calls Tryz.prog 37 #[.agg #[.int .i64 d.cap,.int .i64 d.opn,.int .i64 d.act,.slice A d.z.length c]] w fun e w'=>e=.returned (.int .i64 (newF 0 (zal d.z)))∧Below w.heap.size w w':=by
 have hfo:=fun W h=>zgZ d A c K W h hd hS
 have hfl:(zal d.z).length=d.z.length:=by unfold zal;rw [List.length_map]
 have E:=((Kn.start w).give za1.list hv).push 27 #[.int .i64 d.cap,.int .i64 d.opn,.int .i64 d.act,.slice A d.z.length c];obtain ⟨n,hn⟩:∃ n,d.z.length=n:=⟨_,rfl⟩;have hn64:=hd.1.2.1;obtain ⟨fs,hfs⟩:∃ fs,zal d.z=fs:=⟨_,rfl⟩;rw [hfs] at hfl hfo ⊢;rw [hn] at hfo hfl hn64 E hv ⊢;have HFL:=Lib.hid hfl;clear hfl hn hd hfs;go_enter Tryz.func37,Tryz.ntmps37
 go_wp2_with fail;refine (hfo _ (E.get m0)).mono ?_;rintro x w2 ⟨Ao,co,rfl,hfd,hb2⟩;replace E:=(E.step hb2).give za1.list hfd;clear hfo hv hb2;have hE:=E.below.size;go_wp2_with fail;go_loopw [3,5,7,11] (fun x3 x5 x7 x11 wr=>∃ j:Nat,x11=.int .i64 j∧j≤n∧x3=.int .i64 (newF 0 (fs.take j))∧Below w2.heap.size w2 wr∧(∃ y,x5=y)∧∃ y,x7=y) (fun _ _ _ x11 _=>n-(intOf x11).toNat)
 case atStart=>exact ⟨0,rfl,Nat.zero_le _,rfl,Below.refl _ _,⟨_,rfl⟩,_,rfl⟩
 case round=>
  obtain ⟨j,rfl,hj,rfl,hb,⟨y,rfl⟩,y7,rfl⟩:=hrel;have F:=E.step hb;by_cases hlt:j<n
  case neg=>
   obtain rfl:j=n:=by omega
   rw [List.take_of_length_le (by rw [HFL.out];exact Nat.le_refl _)]
   clear E;go_wp2;go_ret;exact ⟨rfl,F.below⟩
  have hlt':j<fs.length:=by rw [HFL.out];exact hlt
  have HN:=Lib.hid (zkQ 0 hlt');obtain ⟨ad,A1,c1,A2,c2,rfl,hK,hl,-,k0,k1,k2,k3,k4,k5,k6⟩:=IsL.fd_at (F.get m0) (List.getElem?_eq_getElem hlt');generalize fs[j]=f at hl HN k0 k1 k2 k3 k4 k5 k6;generalize newF 0 (fs.take j)=N0 at HN ⊢;have j1:(j:Int)<(n:Int):=by omega
  have j0:(0:Int)≤(j:Int):=by omega
  obtain ⟨fn,hfn⟩:∃ fn,f.l.length=fn:=⟨_,rfl⟩;have hfn2:=hl.len;rw [hfn] at hl k4 hfn2;have HFN:=Lib.hid hfn;clear hfn;go_wp2_with fail;replace F:=(F.give za1.list hl).push 182 #[.bool f.head,.int .i64 f.h.host,.int .i64 f.h.epoch,.int .i64 f.h.seq,.slice A1 fn c1,.slice A2 f.at_.length c2,.int .i64 f.used];clear k0 k1 k2 k3 k4 k5 k6 E;have hbo:=hb.alloc hb.size (.cells #[.bool f.head,.int .i64 f.h.host,.int .i64 f.h.epoch,.int .i64 f.h.seq,.slice A1 fn c1,.slice A2 f.at_.length c2,.int .i64 f.used] 182);clear hl hb;generalize wr.alloc (.cells #[.bool f.head,.int .i64 f.h.host,.int .i64 f.h.epoch,.int .i64 f.h.seq,.slice A1 fn c1,.slice A2 f.at_.length c2,.int .i64 f.used] 182)=wo at F hbo ⊢;generalize wr.heap.size=go at F ⊢;clear wr;go_loopw [3,7,18] (fun x3 x7 x18 wr=>∃ i:Nat,x18=.int .i64 i∧i≤fn∧x3=.int .i64 (newR N0 (f.l.take i))∧Below wo.heap.size wo wr∧∃ y,x7=y) (fun _ _ x18 _=>fn-(intOf x18).toNat)
  case atStart=>exact ⟨0,rfl,Nat.zero_le _,rfl,Below.refl _ _,_,rfl⟩
  case round=>
   obtain ⟨i,rfl,hi,rfl,hb,y,rfl⟩:=hrel;have G:=F.step hb;by_cases hilt:i<fn
   case neg=>
    obtain rfl:i=fn:=by omega
    rw [List.take_of_length_le (by rw [HFN.out];exact Nat.le_refl _)]
    clear F;go_wp2_with fail;go_roundw
    case rel=>exact ⟨j+1,by go_num,by omega,by rw [HN.out],hbo.trans (hb.mono hbo.size),⟨_,rfl⟩,_,rfl⟩
    case measure=>simp [intOf];omega
   have hilt':i<f.l.length:=by rw [HFN.out];exact hilt
   have HR:=Lib.hid (zlI N0 hilt');obtain ⟨ad',Ad,cd,rfl,hKa,-,-,k0,k1,k2,k3,k4,k5,k6⟩:=zjk (G.get m0) (List.getElem?_eq_getElem hilt');generalize f.l[i]=r at HR k0 k1 k2 k3 k4 k5 k6;generalize newR N0 (f.l.take i)=N1 at HR ⊢;have i1:(i:Int)<(fn:Int):=by omega
   have i0:(0:Int)≤(i:Int):=by omega
   go_wp2_with fail;go_roundw
   case rel=>exact ⟨i+1,by go_num,by omega,by rw [HR.out,Int.max_comm],hb.alloc hb.size _,_,rfl⟩
   case measure=>simp [intOf];omega
theorem zdo:(Tryz.prog.info? 38).map (·.size)=some 15:=by kernel_rfl
theorem zep:∃ d,Tryz.prog.underlying 38=some d∧d.isRow=true:=⟨_,Tryz.underlying38,rfl⟩
theorem zbi {W:World} {g:Nat} {cs:Array Value} {o:Oper} {x:Operand} {a:Act} (hS:∀ o,W.cell? ⟨g,o,none⟩=cs[o]?) (hn:cs.size=15) (ho:o.op=.load 38 x) (hx:a.eval x=.pointer (some ⟨g,0,none⟩)) :
 (execOp a.eval o).run Tryz.prog W=.ok (.value (.agg cs)) W:=by
 obtain ⟨d,hu,hd⟩:=zep;have hr:W.rangeAt g 0 cs.toList:=fun j v hv=>by rw [Nat.zero_add,hS j,←hv,Array.getElem?_toList]
 have:=run_loadVar_mid (P:=Tryz.prog) W g 0 38 cs.toList d hr hu hd (by rw [zdo,Array.length_toList,hn])
 unfold execOp;simp only [ho,hx,Instr.loadAt,Instr.sureAddr,Sem.run_bind,Sem.run_pure,Result.andThen_ok,this,Array.toArray_toList]
section
variable {ops:Array Oper} {rest:List Oper} {o:Oper} {a:Act} {w:World} {Q:Exit→Act→World→Prop} {x y:Operand} {g:Nat} {t:TypeId} {cs cs':Array Value}
theorem zbN (hB:Blk w g t cs) (hn:cs.size=15) (hgd:o.guard=none) (ho:o.op=.load 38 x) (hx:a.eval x=.pointer (some ⟨g,0,none⟩))
 (h:wpList Tryz.prog ops Q rest (a.put o.dst (.agg cs)) w):wpList Tryz.prog ops Q (o::rest) a w:=by
 obtain ⟨d,hu,hd⟩:=zep;exact wpList_load_row hgd _ x ho g hx t cs (0,0) d hB hu (by cases d <;> simp_all [TypeDesc.isRow]) (by rw [zdo,hn]) h
theorem zag (hB:Blk w g t cs):(w.setRow g cs').heap.size=w.heap.size∧za0 w (w.setRow g cs') (fun b=>b=g)∧Blk (w.setRow g cs') g t cs':=by
 refine ⟨by simp [World.setRow],⟨rfl,rfl,rfl,by simp [World.setRow],fun k hk hn=>?_⟩,setRow_heap w g cs cs' t (0,0) hB⟩
 unfold World.setRow;simp only [Array.getElem?_modify];rw [if_neg (fun e=>hn e.symm)]
theorem zd3 (hB:Blk w g t cs) (hn:cs.size=15) (hgd:o.guard=none) (ho:o.op=.store 38 x y) (hx:a.eval x=.pointer (some ⟨g,0,none⟩)) (hy:a.eval y=.agg cs') (hn':cs'.size=15) (h1:cs'.toList.all (·.oneCell')=true)
 (h:∀ w',w'.heap.size=w.heap.size→za0 w w' (fun b=>b=g)→Blk w' g t cs'→wpList Tryz.prog ops Q rest (a.put o.dst undef) w'):wpList Tryz.prog ops Q (o::rest) a w:=
 wpList_store_row hgd _ x y ho g cs' hx hy t cs hB (by rw [zdo,hn']) (by rw [hn,hn']) (by rw [←Array.all_toList];exact h1) (h _ (zag hB).1 (zag hB).2.1 (zag hB).2.2)
theorem zgs:(Tryz.prog.info? 27).map (·.size)=some 4:=by kernel_rfl
theorem zbM (hB:Blk w g t cs) (hn:cs.size=4) (hgd:o.guard=none) (ho:o.op=.store 27 x y) (hx:a.eval x=.pointer (some ⟨g,0,none⟩)) (hy:a.eval y=.agg cs') (hn':cs'.size=4) (h1:cs'.toList.all (·.oneCell')=true)
 (h:∀ w',w'.heap.size=w.heap.size→za0 w w' (fun b=>b=g)→Blk w' g t cs'→wpList Tryz.prog ops Q rest (a.put o.dst undef) w'):wpList Tryz.prog ops Q (o::rest) a w:=
 wpList_store_row hgd _ x y ho g cs' hx hy t cs hB (by rw [zgs,hn']) (by rw [hn,hn']) (by rw [←Array.all_toList];exact h1) (h _ (zag hB).1 (zag hB).2.1 (zag hB).2.2)
theorem zcA (hgd:o.guard=none) (ho:o.op=.store 38 x y) (hx:a.eval x=.pointer (some ⟨w.heap.size,0,none⟩)) (hy:a.eval y=.agg cs') (hn:cs.size=15) (hn':cs'.size=15) (h1:cs'.toList.all (·.oneCell')=true)
 (h:wpList Tryz.prog ops Q rest (a.put o.dst undef) (w.alloc (.cells cs' t))):wpList Tryz.prog ops Q (o::rest) a (w.alloc (.cells cs t)):=by
 refine wpList_store_row hgd _ x y ho w.heap.size cs' hx hy t cs (Blk.new w t cs rfl) (by rw [zdo,hn']) (by rw [hn,hn']) (by rw [←Array.all_toList];exact h1) ?_
 rw [World.setRow_alloc_new];exact h
end
end Go.Proofs.YthblkdnijhphhaaGreat
namespace Go.Proofs.YthblkdnijhphhaaGreat
open Go.RowKit Go.WideMaps
structure En where
 lba:Int
 ver:Int
 b:List UInt8
def ofs (c g:Nat):Nat:=if g=c then 2 else 0
theorem zl9 {c:Nat}:ofs c c=2:=if_pos rfl
theorem zgI {c g:Nat} (h:g≠c):ofs c g=0:=if_neg h
abbrev adV (c g:Nat):Value:=.pointer (some ⟨g,ofs c g,none⟩)
abbrev enC (c:Nat) (x:En) (v:Value) (p q:Nat):Array Value:=#[.int .i64 x.lba,.int .i64 x.ver,v,adV c p,adV c q]
abbrev caC (most:Int) (m c p q:Nat) (hit miss:Int):Array Value:=#[.int .i64 most,.map (some m),.int .i64 0,.int .i64 0,.slice none 0 0,adV c p,adV c q,.int .i64 hit,.int .i64 miss]
theorem zfy (most:Int) (m c p q:Nat) (hit miss:Int):NoB (caC most m c p q hit miss):=by
 intro o n;rcases Nat.lt_or_ge o 9 with h | h
 · match o,h with
   | 0,_ | 1,_ | 2,_ | 3,_ | 4,_ | 5,_ | 6,_ | 7,_ | 8,_=>simp [caC]
 · rw [Array.getElem?_eq_none (by simpa [caC] using h)];simp
theorem zoT (c:Nat) (x:En) (A:Option Addr) (l k p q:Nat):NoB (enC c x (.slice A l k) p q):=by
 intro o n;rcases Nat.lt_or_ge o 5 with h | h
 · match o,h with
   | 0,_ | 1,_ | 2,_ | 3,_ | 4,_=>simp [enC]
 · rw [Array.getElem?_eq_none (by simpa [enC] using h)];simp
theorem IsB.off {w:World} {K:Nat→Prop} {v:Value} {l:List UInt8} {b:Nat} (h:IsB w K v l) (hc:∀ p:Addr,p.block=b→∀ n:Int,w.cell? p≠some (.int .u8 n)):IsB w (fun x=>K x∧x≠b) v l:=by
 obtain ⟨A,c,rfl,⟨h1,h2⟩,h3⟩:=h;refine ⟨A,c,rfl,⟨h1,fun hn=>?_⟩,h3⟩
 obtain ⟨ad,e,hK,hc'⟩:=h2 hn;refine ⟨ad,e,⟨hK,fun hb=>?_⟩,hc'⟩
 obtain ⟨x,l',rfl⟩:∃ x l',l=x::l':=by
  cases l with
  | nil=>exact absurd hn (Nat.lt_irrefl _)
  | cons x l'=>exact ⟨x,l',rfl⟩
 have h0:=hc' 0 (B8 x) rfl;rw [zbu] at h0;exact hc ad hb _ h0
structure Nd (Kd:Nat→Prop) (w:World) (c m:Nat) (most:Int) (ns:List Nat) (dt:Nat→En) (ah af:Nat→Nat) (hit miss:Int):Prop where
 ca:Blk w c 96 (caC most m c (ah c) (af c) hit miss)
 en:∀ g,g∈ns→∃ v,Blk w g 89 (enC c (dt g) v (ah g) (af g))∧IsB w Kd v (dt g).b
section
variable {Kd:Nat→Prop} {w w':World} {c m g:Nat} {most hit miss:Int} {ns:List Nat} {dt:Nat→En} {ah af:Nat→Nat}
theorem Nd.ne (h:Nd Kd w c m most ns dt ah af hit miss) (hg:g∈ns):g≠c:=by
 obtain ⟨v,h1,_⟩:=h.en g hg;rintro rfl;have h2:=h.ca;unfold Blk at h1 h2;rw [h1] at h2;injection h2 with h2;injection h2 with _ h2 _;exact absurd h2 (by decide)
theorem Nd.step (h:Nd Kd w c m most ns dt ah af hit miss) (hb:Below w.heap.size w w'):Nd Kd w' c m most ns dt ah af hit miss:=
 ⟨h.ca.step hb,fun g hg=>by obtain ⟨v,h1,h2⟩:=h.en g hg;exact ⟨v,h1.step hb,h2.step hb⟩⟩
theorem Nd.more (h:Nd Kd w c m most ns dt ah af hit miss) {ns':List Nat} (hs:∀ g∈ns',g∈ns):Nd Kd w c m most ns' dt ah af hit miss:=⟨h.ca,fun g hg=>h.en g (hs g hg)⟩
theorem Nd.away (h:Nd Kd w c m most ns dt ah af hit miss) {x:Nat} {t:TypeId} {cs:Array Value} (hB:Blk w x t cs) (hn:NoB cs) (ht:za0 w w' (fun b=>b=x)) {g:Nat} (hg:g∈ns) :
 ∃ v,(g≠x→Blk w' g 89 (enC c (dt g) v (ah g) (af g)))∧Blk w g 89 (enC c (dt g) v (ah g) (af g))∧IsB w' Kd v (dt g).b:=by
 obtain ⟨v,h1,h2⟩:=h.en g hg;exact ⟨v,fun hne=>h1.turned ht hne,h1,h2.boxed hB hn ht⟩
theorem Nd.noB (h:Nd Kd w c m most ns dt ah af hit miss) (hg:g∈ns) {cs:Array Value} (hB:Blk w g 89 cs):NoB cs:=by
 obtain ⟨v,h1,h2⟩:=h.en g hg;obtain ⟨A,k,rfl,-⟩:=zab h2;unfold Blk at h1 hB;rw [hB] at h1;injection h1 with h1;injection h1 with h1 _ _;rw [h1];exact zoT _ _ _ _ _ _ _
theorem Nd.turned (h:Nd Kd w c m most ns dt ah af hit miss) {x:Nat} {t:TypeId} {cs:Array Value} (hB:Blk w x t cs) (hn:NoB cs) (ht:za0 w w' (fun b=>b=x)) (hxc:x≠c) (hx:x∉ns):Nd Kd w' c m most ns dt ah af hit miss:=
 ⟨h.ca.turned ht (fun e=>hxc e.symm),fun g hg=>by obtain ⟨v,h1,_,h2⟩:=h.away hB hn ht hg;exact ⟨v,h1 (fun e=>hx (by rw [←e];exact hg)),h2⟩⟩
theorem Nd.map (h:Nd Kd w c m most ns dt ah af hit miss) (hm:∃ es k,w.heap[m]?=some (.map es k)) (ht:za0 w w' (fun b=>b=m)):Nd Kd w' c m most ns dt ah af hit miss:=by
 obtain ⟨es,k,hm⟩:=hm;have hne:∀ {g t cs},Blk w g t cs→g≠m:=fun hB e=>by
  subst e;unfold Blk at hB;rw [hB] at hm;injection hm with hm;cases hm
 refine ⟨h.ca.turned ht (hne h.ca),fun g hg=>?_⟩
 obtain ⟨v,h1,h2⟩:=h.en g hg;exact ⟨v,h1.turned ht (hne h1),((h2.off fun p hp n h9=>by
  obtain ⟨pb,po,pz⟩:=p;have hp:pb=m:=hp;subst hp;simp [World.cell?,hm] at h9).turned ht (fun b hb e=>hb.2 e)).more fun _ hb=>hb.1⟩
theorem Nd.stAf (h:Nd Kd w c m most ns dt ah af hit miss) (hc:c∉ns) (hg:g∈c::ns) (x:Nat) {K:World→Prop}
 (hk:∀ wy,wy.heap.size=w.heap.size→za0 w wy (fun b=>b=g)→Nd Kd wy c m most ns dt ah (upd af g x) hit miss→K wy):K (w.setCell ⟨g,ofs c g+4,none⟩ (adV c x)):=by
 have ht:=(za0.refl w (fun b=>b=g)).set (g:=g) rfl (ofs c g+4) (adV c x)
 refine hk _ (by simp) ht ?_
 by_cases e:g=c
 · subst e
   refine ⟨?_,fun y hy=>?_⟩
   · rw [zl9,zaK]
     exact h.ca.set_ 6 _
   · obtain ⟨v,h1,_,h2⟩:=h.away h.ca (zfy _ _ _ _ _ _ _) ht hy
     have hne:y≠g:=fun e=>hc (by rw [←e];exact hy)
     exact ⟨v,by rw [zaZ hne];exact h1 hne,h2⟩
 · have hg':g∈ns:=(List.mem_cons.1 hg).resolve_left e
   obtain ⟨vg,hgB,_⟩:=h.en g hg';have hn:=h.noB hg' hgB;refine ⟨?_,fun y hy=>?_⟩
   · rw [zaZ (fun e'=>e e'.symm)]
     exact h.ca.turned ht (fun e'=>e e'.symm)
   · obtain ⟨v,h1,h3,h2⟩:=h.away hgB hn ht hy
     by_cases hyg:y=g
     · subst hyg
       refine ⟨v,?_,h2⟩;rw [zaK,zgI e];exact h3.set_ 4 _
     · exact ⟨v,by rw [zaZ hyg];exact h1 hyg,h2⟩
theorem Nd.stAh (h:Nd Kd w c m most ns dt ah af hit miss) (hc:c∉ns) (hg:g∈c::ns) (x:Nat) {K:World→Prop}
 (hk:∀ wy,wy.heap.size=w.heap.size→za0 w wy (fun b=>b=g)→Nd Kd wy c m most ns dt (upd ah g x) af hit miss→K wy):K (w.setCell ⟨g,ofs c g+3,none⟩ (adV c x)):=by
 have ht:=(za0.refl w (fun b=>b=g)).set (g:=g) rfl (ofs c g+3) (adV c x)
 refine hk _ (by simp) ht ?_
 by_cases e:g=c
 · subst e
   refine ⟨?_,fun y hy=>?_⟩
   · rw [zl9,zaK]
     exact h.ca.set_ 5 _
   · obtain ⟨v,h1,_,h2⟩:=h.away h.ca (zfy _ _ _ _ _ _ _) ht hy
     have hne:y≠g:=fun e=>hc (by rw [←e];exact hy)
     exact ⟨v,by rw [zaZ hne];exact h1 hne,h2⟩
 · have hg':g∈ns:=(List.mem_cons.1 hg).resolve_left e
   obtain ⟨vg,hgB,_⟩:=h.en g hg';have hn:=h.noB hg' hgB;refine ⟨?_,fun y hy=>?_⟩
   · rw [zaZ (fun e'=>e e'.symm)]
     exact h.ca.turned ht (fun e'=>e e'.symm)
   · obtain ⟨v,h1,h3,h2⟩:=h.away hgB hn ht hy
     by_cases hyg:y=g
     · subst hyg
       refine ⟨v,?_,h2⟩;rw [zaK,zgI e];exact h3.set_ 3 _
     · exact ⟨v,by rw [zaZ hyg];exact h1 hyg,h2⟩
theorem Nd.at_ (h:Nd Kd w c m most ns dt ah af hit miss) (hg:g∈c::ns):w.cell? ⟨g,ofs c g+3,none⟩=some (adV c (ah g))∧w.cell? ⟨g,ofs c g+4,none⟩=some (adV c (af g))∧(∀ o,w.frozen? ⟨g,o,none⟩=false)∧g<w.heap.size:=by
 by_cases e:g=c
 · subst e
   obtain ⟨q,f⟩:=h.ca.rules;rw [zl9];exact ⟨q 5,q 6,f,h.ca.lt⟩
 · obtain ⟨v,hB,_⟩:=h.en g ((List.mem_cons.1 hg).resolve_left e)
   obtain ⟨q,f⟩:=hB.rules;rw [zgI e];exact ⟨q 3,q 4,f,hB.lt⟩
theorem zkN {e:Nat} (h:Nd Kd w c m most ns dt ah af hit miss) (hc:c∉ns) (he:e∈ns) (hp:ah e∈c::ns) (hq:af e∈c::ns) (hpe:ah e≠e) (hqe:af e≠e) :
 Calls Tryz.prog 127 #[.pointer (some ⟨e,0,none⟩)] w fun r w'=>r=.returned (.tuple #[])∧Nd Kd w' c m most ns dt (upd ah (af e) (ah e)) (upd af (ah e) (af e)) hit miss∧za0 w w' (fun b=>b∈c::ns)∧w'.heap.size=w.heap.size:=by
 obtain ⟨p,hpp⟩:∃ p,ah e=p:=⟨_,rfl⟩;obtain ⟨q,hqq⟩:∃ q,af e=q:=⟨_,rfl⟩;obtain ⟨v,hB,-⟩:=h.en e he;rw [hpp,hqq] at hB ⊢;rw [hpp] at hp hpe;rw [hqq] at hq hqe;clear hpp hqq;go_enter Tryz.func127,Tryz.ntmps127
 have h0:Nd Kd w.drew c m most ns dt ah af hit miss:=h.step (Below.refl _ _).drew;have t0:za0 w w.drew (fun b=>b∈c::ns):=za0.of (Below.refl _ _).drew
 have s0:w.drew.heap.size=w.heap.size:=rfl;replace hB:Blk w.drew e 89 (enC c (dt e) v p q):=hB;refine wp_region_held_drew (S:=fun W=>∀ o,W.cell? ⟨e,o,none⟩=(enC c (dt e) v p q)[o]?) (by kernel_rfl) hB.rules.1 (fun hHeld=>?_)
 generalize w.drew=w1 at h0 t0 s0 hB hHeld ⊢;refine wT 0 2 ?_;refine wT 1 3 ?_;refine wT 2 4 ?_;refine wT 3 5 ?_;refine wT 4 6 ?_;refine wT 5 7 ?_;refine wT 6 8 ?_;refine wT 7 9 ?_;refine wT 8 10 ?_;refine wT 9 11 ?_;refine wT 10 12 ?_;refine wT 11 13 ?_;refine wT 12 14 ?_;refine wT 13 15 ?_;refine wT 14 16 ?_;refine wT 15 17 ?_;refine wT 16 18 ?_;refine wT 17 19 ?_;refine wRn 18 (fun K hK=>?_)
 obtain ⟨a0,a1,a2,a3⟩:=h0.at_ hp;go_simp;refine h0.stAf hc hp q (K:=K _) ?_;intro w2 s2 t2 h2;replace hB:=hB.turned t2 (show ¬e=p by omega)
 refine hK.out _ _ hB.rules.1 (fun hHeld=>?_)
 clear a0 a1 a2 a3;clear hK K;refine wT 19 20 ?_;refine wT 20 21 ?_;refine wRn 21 (fun K hK=>?_)
 obtain ⟨a0,a1,a2,a3⟩:=h2.at_ hq;go_simp;refine h2.stAh hc hq p (K:=K _) ?_;intro w3 s3 t3 h3;replace hB:=hB.turned t3 (show ¬e=q by omega)
 refine hK.out _ _ hB.rules.1 (fun hHeld=>?_)
 clear a0 a1 a2 a3;clear hK K;try simp only [pu,List.set]
 refine wpAnyH_done (by kernel_rfl) ?_ _
 go_wp2_with fail;go_end0;exact ⟨rfl,h3,(t0.trans (t2.mono fun b hb=>by rw [hb];exact hp)).trans (t3.mono fun b hb=>by rw [hb];exact hq),by rw [s3,s2,s0]⟩
theorem Nd.push (h:Nd Kd w c m most ns dt ah af hit miss) {e p q:Nat} {v:Value} (he:e∉c::ns) (hE:Blk w e 89 (enC c (dt e) v p q)) (hv:IsB w Kd v (dt e).b):Nd Kd w c m most (e::ns) dt (upd ah e p) (upd af e q) hit miss:=by
 have hec:c≠e:=fun x=>he (by rw [x];exact List.mem_cons_self ..)
 refine ⟨by rw [zaZ hec,zaZ hec];exact h.ca,fun g hg=>?_⟩
 by_cases hge:g=e
 · subst hge
   exact ⟨v,by rw [zaK,zaK];exact hE,hv⟩
 · obtain ⟨v',h1,h2⟩:=h.en g ((List.mem_cons.1 hg).resolve_left hge)
   exact ⟨v',by rw [zaZ hge,zaZ hge];exact h1,h2⟩
theorem zgL {e:Nat} {v x y:Value} (h:Nd Kd w c m most ns dt ah af hit miss) (hc:c∉ns) (he:e∉c::ns) (hE:Blk w e 89 #[.int .i64 (dt e).lba,.int .i64 (dt e).ver,v,x,y]) (hN:NoB #[.int .i64 (dt e).lba,.int .i64 (dt e).ver,v,x,y]) (hv:IsB w Kd v (dt e).b) (hq:af c∈c::ns) :
 Calls Tryz.prog 128 #[.pointer (some ⟨c,0,none⟩),.pointer (some ⟨e,0,none⟩)] w fun r w'=>r=.returned (.tuple #[])∧Nd Kd w' c m most (e::ns) dt (upd (upd ah e c) (af c) e) (upd (upd af e (af c)) c e) hit miss∧za0 w w' (fun b=>b∈c::e::ns)∧w'.heap.size=w.heap.size:=by
 obtain ⟨q,hqq⟩:∃ q,af c=q:=⟨_,rfl⟩;have hce:c≠e:=fun x=>he (by rw [x];exact List.mem_cons_self ..)
 have hen:e∉ns:=fun x=>he (List.mem_cons_of_mem _ x)
 have hpc:c∈c::e::ns:=List.mem_cons_self ..;have hpe:e∈c::e::ns:=List.mem_cons_of_mem _ (List.mem_cons_self ..);have hc':c∉e::ns:=fun h9=>by
  rcases List.mem_cons.1 h9 with h8 | h8
  · exact hce h8
  · exact hc h8
 have hoe:=zgI (c:=c) (g:=e) (fun x=>hce x.symm)
 have hoc:=zl9 (c:=c);have hB:=h.ca;obtain ⟨Av,kv,rfl,-⟩:=zab hv;rw [hqq] at hB hq ⊢;have hqe:q≠e:=fun x=>he (by rw [←x];exact hq)
 have hq':q∈c::e::ns:=by
  rcases List.mem_cons.1 hq with h9 | h9
  · rw [h9];exact hpc
  · exact List.mem_cons_of_mem _ (List.mem_cons_of_mem _ h9)
 go_enter Tryz.func128,Tryz.ntmps128
 have h0:Nd Kd w.drew c m most ns dt ah af hit miss:=h.step (Below.refl _ _).drew;have t0:za0 w w.drew (fun b=>b∈c::e::ns):=za0.of (Below.refl _ _).drew
 have s0:w.drew.heap.size=w.heap.size:=rfl;replace hB:Blk w.drew c 96 (caC most m c (ah c) q hit miss):=hB;replace hE:=hE.drew;replace hv:=hv.drew;have a7:=hB.rules.1 6;go_upto_region 0 with fail;refine wp_region_held_drew (S:=fun W=>W.cell? ⟨c,6,none⟩=some (adV c q)) (by kernel_rfl) a7 (fun hHeld=>?_)
 clear a7;generalize w.drew=w1 at h0 t0 s0 hB hE hv hHeld ⊢;have HN:=Lib.hid hN;clear hN;refine wT 0 4 ?_;refine wT 1 5 ?_;refine wT 2 6 ?_;refine wT 3 7 ?_;refine wT 4 8 ?_;refine wT 5 9 ?_;refine wT 6 10 ?_;refine wT 7 11 ?_;refine wT 8 12 ?_;refine wT 9 13 ?_;refine wT 10 14 ?_;refine wT 11 15 ?_;refine wRn 12 (fun K hK=>?_)
 obtain ⟨a0,a1⟩:=hE.rules;have a2:=hE.lt;go_simp;rw [show (Value.pointer (some ⟨c,2,none⟩))=adV c c by unfold adV;rw [hoc]]
 refine zaS (K:=K _) hE 3 _ ?_;intro w2 s2 t2 hE2;replace hB:=hB.turned t2 hce;refine hK.out _ _ (hB.rules.1 6) (fun hHeld=>?_)
 clear a0 a1 a2;clear hK K;refine wT 13 16 ?_;refine wT 14 17 ?_;refine wRn 15 (fun K hK=>?_)
 obtain ⟨a0,a1⟩:=hE2.rules;have a2:=hE2.lt;go_simp;refine zaS (K:=K _) hE2 4 _ ?_;intro w3 s3 t3 hE3;replace hB:=hB.turned t3 hce;refine hK.out _ _ (hB.rules.1 6) (fun hHeld=>?_)
 clear a0 a1 a2 hHeld;clear hK K;try simp only [pu,List.set]
 refine wpAnyH_done (by kernel_rfl) ?_ _
 clear hB;have t23:za0 w1 w3 (fun b=>b=e):=t2.trans t3
 replace hE3:Blk w3 e 89 (enC c (dt e) (.slice Av (dt e).b.length kv) c q):=hE3;have hv3:=hv.boxed hE HN.out t23;have h3:=(h0.turned hE HN.out t23 (fun x=>hce x.symm) hen).push he hE3 hv3
 clear hE hE2 hE3 hv;go_upto_region 1 with fail;replace h3:Nd Kd w3.drew c m most (e::ns) dt (upd ah e c) (upd af e q) hit miss:=h3.step (Below.refl _ _).drew;replace t3:za0 w1 w3.drew (fun b=>b=e):=t23.trans (za0.of (Below.refl _ _).drew)
 replace s3:w3.drew.heap.size=w2.heap.size:=s3;obtain ⟨v,hB,-⟩:=h3.en e (List.mem_cons_self ..);rw [zaK,zaK] at hB;refine wp_region_held_drew (S:=fun W=>∀ o,W.cell? ⟨e,o,none⟩=(enC c (dt e) v c q)[o]?) (by kernel_rfl) hB.rules.1 (fun hHeld=>?_)
 clear hv3 t23;generalize w3.drew=w3 at h3 t3 s3 hB hHeld ⊢;refine wT 0 18 ?_;refine wT 1 19 ?_;refine wT 2 20 ?_;refine wT 3 21 ?_;refine wT 4 22 ?_;refine wT 5 23 ?_;refine wT 6 24 ?_;refine wT 7 25 ?_;refine wT 8 26 ?_;refine wT 9 27 ?_;refine wT 10 28 ?_;refine wT 11 29 ?_;refine wRn 12 (fun K hK=>?_)
 obtain ⟨a0,a1,a2,a3⟩:=h3.at_ hpc;rw [hoc] at a0 a1;go_simp;rw [show (⟨c,6,none⟩:Addr)=⟨c,ofs c c+4,none⟩ by rw [hoc],show (Value.pointer (some ⟨e,0,none⟩))=adV c e by unfold adV;rw [hoe]]
 refine h3.stAf hc' hpc e (K:=K _) ?_;intro w4 s4 t4 h4;replace hB:=hB.turned t4 (fun x=>hce x.symm)
 refine hK.out _ _ hB.rules.1 (fun hHeld=>?_)
 clear a0 a1 a2 a3;clear hK K;refine wT 13 30 ?_;refine wT 14 31 ?_;refine wRn 15 (fun K hK=>?_)
 obtain ⟨a0,a1,a2,a3⟩:=h4.at_ hq';go_simp;rw [show (Value.pointer (some ⟨e,0,none⟩))=adV c e by unfold adV;rw [hoe]]
 refine h4.stAh hc' hq' e (K:=K _) ?_;intro w5 s5 t5 h5;replace hB:=hB.turned t5 (fun x=>hqe x.symm)
 refine hK.out _ _ hB.rules.1 (fun hHeld=>?_)
 clear a0 a1 a2 a3;clear hK K;try simp only [pu,List.set]
 refine wpAnyH_done (by kernel_rfl) ?_ _
 go_wp2_with fail;go_end0;exact ⟨rfl,h5,(((t0.trans (t3.mono fun b hb=>by rw [hb];exact hpe)).trans (t4.mono fun b hb=>by rw [hb];exact hpc)).trans (t5.mono fun b hb=>by rw [hb];exact hq')),by rw [s5,s4,s3,s2,s0]⟩
theorem Nd.hit_ (h:Nd Kd w c m most ns dt ah af hit miss) (x:Int):Nd Kd (w.setCell ⟨c,7,none⟩ (.int .i64 x)) c m most ns dt ah af x miss∧za0 w (w.setCell ⟨c,7,none⟩ (.int .i64 x)) (fun b=>b=c):=by
 have ht:=(za0.refl w (fun b=>b=c)).set (g:=c) rfl 7 (.int .i64 x)
 refine ⟨⟨h.ca.set_ 7 _,fun g hg=>?_⟩,ht⟩
 obtain ⟨v,h1,_,h2⟩:=h.away h.ca (zfy _ _ _ _ _ _ _) ht hg;exact ⟨v,h1 (h.ne hg),h2⟩
theorem Nd.miss_ (h:Nd Kd w c m most ns dt ah af hit miss) (x:Int):Nd Kd (w.setCell ⟨c,8,none⟩ (.int .i64 x)) c m most ns dt ah af hit x∧za0 w (w.setCell ⟨c,8,none⟩ (.int .i64 x)) (fun b=>b=c):=by
 have ht:=(za0.refl w (fun b=>b=c)).set (g:=c) rfl 8 (.int .i64 x)
 refine ⟨⟨h.ca.set_ 8 _,fun g hg=>?_⟩,ht⟩
 obtain ⟨v,h1,_,h2⟩:=h.away h.ca (zfy _ _ _ _ _ _ _) ht hg;exact ⟨v,h1 (h.ne hg),h2⟩
end
end Go.Proofs.YthblkdnijhphhaaGreat
namespace Go.Proofs.YthblkdnijhphhaaGreat
open Go.RowKit
theorem zfG (by_:UInt8) (n:Nat) (w:World) (hn:n≤65536) :
 Calls Tryz.prog 16 #[.int .u8 (by_.toNat:Int),.int .i64 n] w fun e w'=>∃ A c,e=.returned (.slice A n c)∧w'.ownsRow w.heap.size 5 1 (.slice A n c) n (za3 (List.replicate n by_))∧Below w.heap.size w w':=by
 obtain ⟨i0,hi,hz0,hz1,hz2⟩:=info_parts Tryz.info5;go_enter Tryz.func16,Tryz.ntmps16
 go_wp2_with (at_make;refine wpList_make_full _ rfl _ _ 32 rfl w.heap.size 5 i0 _ 1 Tryz.underlying32 hi hz0 hz1 _ _ _ _ n rfl rfl rfl rfl (by rw [hz2];omega) (by unfold maxLen;omega) (Nat.le_refl _) ?_;intro w1 how hg1)
 have hb1:Below w.heap.size w w1:=(Below.refl _ _).grown hg1 (Nat.le_refl _) (fun k hk=>by cases hk)
 rw [Nat.mul_one,show (Value.int .u8 0).cells=#[.int .u8 0] from rfl,zlM] at how;clear hg1;go_wp2_with fail;go_loopw [6,11] (fun x6 x11 wr=>∃ j m:Nat,j+m=n∧x11=.int .i64 j∧wr.ownsRow w.heap.size 5 1 (.slice (some ⟨w.heap.size,0,none⟩) n n) n (za3 (List.replicate j by_++List.replicate m 0))∧Below w.heap.size w wr∧∃ y,x6=y) (fun _ x11 _=>n-(intOf x11).toNat)
 case atStart=>exact ⟨0,n,by omega,rfl,how,hb1,_,rfl⟩
 case round=>
  obtain ⟨j,m,hjm,rfl,hown,hb,y,rfl⟩:=hrel;rcases m with _ | m
  · obtain rfl:j=n:=by omega
    rw [List.replicate_zero,List.append_nil] at hown;go_wp2;go_ret;exact ⟨_,_,rfl,hown,hb⟩
  · have hlt:j<n:=by omega
    obtain ⟨hg6,hgl,hfz,hcs⟩:=zod hown;have hc8:=hcs j (.int .u8 0) (by unfold za3;rw [List.getElem?_map,List.getElem?_append_right (by simp),List.length_replicate,Nat.sub_self];rfl)
    have own8:=zny hown j (.int .u8 (by_.toNat:Int));rw [zmw] at own8;have hb8:=hb.setCell (p:=⟨w.heap.size,j,none⟩) (Nat.le_refl _) (.int .u8 (by_.toNat:Int));have hfz8:=hfz j;have hbl:=by_.toNat_lt;have j1:(j:Int)<(n:Int):=by omega
    have j0:(0:Int)≤(j:Int):=by omega
    clear hfz hcs hown hb1 how;go_wp2;go_roundw
    case rel=>exact ⟨j+1,m,by omega,by go_num,own8,hb8,_,rfl⟩
    case measure=>simp [intOf];omega
end Go.Proofs.YthblkdnijhphhaaGreat
