/- A part of the proof. -/
import Derived.Test.YtcapmeefiglfjaaGreatLive24j
set_option linter.unusedSimpArgs false
set_option maxHeartbeats 8000000
set_option maxRecDepth 100000
namespace Go.Proofs.YtcapmeefiglfjaaGreat
open Go.RowKit
abbrev zbw (b:List UInt8):Value:=.string ⟨b.toArray⟩
def zaU (x:En):List Value:=[.int .i64 x.lba,.int .i64 x.ver,zbw x.b]
def Rp.re:Rp En:=⟨3,fun _ _ cs o=>cs=zaU o,by rintro _ _ _ _ rfl;rfl,fun h _=>h,fun h _=>h,by
 rintro _ _ _ _ rfl u hu;simp only [zaU,zim,ziJ,zju] at hu;rcases hu with rfl | rfl | rfl <;> rfl⟩
abbrev mM (l:List En):List Value:=l.flatMap zaU
theorem jE (l:List En):∀ u∈mM l,u.oneCell'=true:=fun u hu=>by
 obtain ⟨x,_,h⟩:=zkB.1 hu;simp only [zaU,zim,ziJ,zju] at h;rcases h with rfl | rfl | rfl <;> rfl
theorem zdB (l:List En) (e:En):mM (l++[e])=mM l++zaU e:=by simp [mM]
theorem za9 {w:World} {K:Nat→Prop} {cs:List Value} {l:List En}:aI Rp.re w K cs l↔cs=mM l:=by
 induction l generalizing cs with
 | nil=>exact ⟨fun h=>zis (by have:=h.len;simpa using this),fun h=>by subst h;rfl⟩
 | cons e l ih=>
   constructor
   · rintro ⟨a,b,rfl,ha,hb⟩
     rw [ih.1 hb,show a=zaU e from ha];rfl
   · rintro rfl
     exact ⟨zaU e,mM l,rfl,rfl,ih.2 rfl⟩
theorem kP {w:World} {base:Nat} {A:Option Addr} {n c:Nat} {l:List En} (h:w.ownsRow base 86 3 (.slice A n c) n (mM l)) (hn:l.length=n) (hl:n≤140737488355328):IsL Rp.re w (fun b=>base≤b) (.slice A n c) l:=by
 subst hn;exact ⟨A,c,mM l,rfl,aG.of_own_ge h,za9.2 rfl,cD h,bF h,hl⟩
theorem iX {w:World} {K:Nat→Prop} {A:Option Addr} {n c:Nat} {l:List En} (h:IsL Rp.re w K (.slice A n c) l):aG w K 3 A n (mM l):=by
 obtain ⟨hn,⟨cs,hr,hc⟩,_⟩:=h.open_;rw [za9.1 hc] at hr;rw [hn];exact hr
theorem pX {w:World} {K:Nat→Prop} {A:Option Addr} {n c:Nat} {l:List En} (h:IsL Rp.re w K (.slice A n c) l) {j:Nat} {x:En} (hj:l[j]?=some x) :
 ∃ ad,A=some ad∧K ad.block∧w.cell? (ad.add (j*3))=some (.int .i64 x.lba)∧w.cell? ⟨(ad.add (j*3)).block,(ad.add (j*3)).off+1,none⟩=some (.int .i64 x.ver)∧w.cell? ⟨(ad.add (j*3)).block,(ad.add (j*3)).off+2,none⟩=some (zbw x.b):=by
 obtain ⟨ad,es,hA,hKad,hes,hcell⟩:=h.at_ hj;obtain rfl:es=_:=hes;have hsz:Rp.re.size=3:=rfl;rw [hsz] at hcell;refine ⟨ad,hA,hKad,?_,?_,?_⟩
 · rw [←cW (ad.add (j*3))];exact hcell 0 _ rfl
 · rw [←bT _ 1 (by decide)];exact hcell 1 _ rfl
 · rw [←bT _ 2 (by decide)];exact hcell 2 _ rfl
theorem Tryz.infRe:(Tryz.prog.info? 86).map (fun i=>(i.zero,i.size,i.bytes))=some (some (.agg #[.int .i64 0,.int .i64 0,.string ⟨#[]⟩]),3,32):=by kernel_rfl
def fiC (L:List En) (lba:Int):Int:=match L.findIdx? (·.lba == lba) with
 | some i=>i
 | none=>-1
theorem zfP {L:List En} {lba:Int} (h:∀ y∈L,y.lba≠lba):fiC L lba = -1:=by
 unfold fiC;rw [List.findIdx?_eq_none_iff.2 fun y hy=>by simpa using h y hy]
theorem zdz {L:List En} {lba:Int} {j:Nat} {y:En} (hy:L[j]?=some y) (hl:y.lba=lba) (h:∀ z∈L.take j,z.lba≠lba):fiC L lba=j:=by
 unfold fiC;obtain ⟨hj,rfl⟩:=zil.1 hy;rw [List.findIdx?_eq_some_iff_getElem.2 ⟨hj,by simpa using hl,fun i hi=>by
  have:=h (L[i]) (List.mem_take_iff_getElem.2 ⟨i,by omega,rfl⟩)
  simpa using this⟩]
abbrev rkC (most:Int) (v:Value) (hit miss:Int):Array Value:=#[.int .i64 most,v,.int .i64 hit,.int .i64 miss]
section
variable {w:World} {gk:Nat} {most hit miss:Int} {v:Value} {K:Nat→Prop} {L:List En}
theorem oP (hB:Blk w gk 62 (rkC most v hit miss)) (hL:IsL Rp.re w K v L) (lba:Int) :
 Calls Tryz.prog 75 #[.pointer (some ⟨gk,0,none⟩),.int .i64 lba] w fun e w'=>e=.returned (.int .i64 (fiC L lba))∧Below w.heap.size w w':=by
 obtain ⟨A,c,rfl,-⟩:=hL.form;have hlen:=hL.len;obtain ⟨n,hn⟩:∃ n,L.length=n:=⟨_,rfl⟩;rw [hn] at hlen hL hB;have HN:=zia hn;obtain ⟨q0,f0⟩:=hB.rules;have t0:=hB.lt;obtain ⟨r,hr⟩:∃ r,fiC L lba=r:=⟨_,rfl⟩;rw [hr];have HR:=zia hr;clear hr hn;go_enter Tryz.func75,Tryz.ntmps75
 go_upto_region 2 with fail;go_loopw [5,6,12] (fun x5 x6 x12 wr=>∃ j:Nat,x12=.int .i64 j∧j≤n∧Hid (∀ z∈L.take j,z.lba≠lba)∧Below w.heap.size w wr∧(∃ y,x5=y)∧∃ y,x6=y) (fun _ _ x12 _=>n-(intOf x12).toNat)
 case atStart=>exact ⟨0,rfl,zir _,zia (by simp),zif _ _,⟨_,rfl⟩,_,rfl⟩
 case round=>
  obtain ⟨j,rfl,hj,hz,hb,⟨y,rfl⟩,y',rfl⟩:=hrel;have hsz:=hb.size;by_cases hlt:j<n
  case neg=>
   obtain rfl:j=n:=by omega
   have:r = -1:=by rw [←HR.out];exact zfP fun y hy=>hz.out y (by rw [zip (by rw [HN.out];exact zic _)];exact hy)
   subst this;clear hL hB q0 f0 t0;go_wp2;go_ret;exact ⟨rfl,hb⟩
  obtain ⟨e,he⟩:∃ e,L[j]?=some e:=⟨_,zib (by rw [HN.out];exact hlt)⟩
  obtain ⟨ad,rfl,-,c0,c1,c2⟩:=pX (hL.step hb) he;have j0:(0:Int)≤(j:Int):=by omega
  have j1:(j:Int)<(n:Int):=by omega
  clear q0 f0 t0;by_cases heq:e.lba=lba
  · have:r=j:=by rw [←HR.out];exact zdz he heq hz.out
    subst this;have hq:(e.lba == lba)=true:=by simpa using heq
    clear heq hB he;go_wp2;go_ret;exact ⟨rfl,hb.alloc hsz _⟩
  · have hq:(e.lba == lba)=false:=by simpa using heq
    have HZ:Hid (∀ z∈L.take (j+1),z.lba≠lba):=zia fun z hz9=>by
     rw [gG L he] at hz9;rcases ziA.1 hz9 with h | h
     · exact hz.out z h
     · rw [ziw.1 h];exact heq
    clear heq hB he;go_wp2;go_roundw
    case rel=>exact ⟨j+1,by go_num,by omega,HZ,hb.alloc hsz _,⟨_,rfl⟩,_,rfl⟩
    case measure=>simp [intOf];omega
theorem zc1 (L:List En) (i:Nat):(mM L).take (i*3)=mM (L.take i)∧(mM L).drop (i*3)=mM (L.drop i):=by
 induction i generalizing L with
 | zero=>simp
 | succ i ih=>
   cases L with
   | nil=>simp
   | cons x L=>
     have h3:(zaU x).length=3:=rfl;have e:(i+1)*3=3+i*3:=by omega
     obtain ⟨h1,h2⟩:=ih L;constructor
     · show (zaU x++mM L).take _=zaU x++mM (L.take i)
       rw [List.take_append,h3,zip (by omega),show (i+1)*3-3=i*3 by omega,h1]
     · show (zaU x++mM L).drop _=mM (L.drop i)
       rw [List.drop_append,h3,List.drop_eq_nil_of_le (by omega),show (i+1)*3-3=i*3 by omega,h2]
       rfl
theorem mN (hB:Blk w gk 62 (rkC most v hit miss)) (hL:IsL Rp.re w K v L) (i:Nat) (hi:i<L.length) (hl:L.length≤1000000) :
 Calls Tryz.prog 76 #[.pointer (some ⟨gk,0,none⟩),.int .i64 i] w fun e w'=>∃ A c,e=.returned (.slice A (L.length-1) c)∧w'.ownsRow w.heap.size 86 3 (.slice A (L.length-1) c) (L.length-1) (mM (L.take i++L.drop (i+1)))∧Below w.heap.size w w':=by
 obtain ⟨i0,hi0,hz0,hz1,hz2⟩:=ziH Tryz.infRe;obtain ⟨A,c,rfl,hlc,hc63⟩:=hL.form;obtain ⟨ad,rfl,-⟩:=pX hL (zib hi);obtain ⟨n,hn⟩:∃ n,L.length=n:=⟨_,rfl⟩;rw [hn] at hi hL hB hlc hl ⊢;have HN:=zia hn;obtain ⟨j,hj⟩:∃ j,i+1=j:=⟨_,rfl⟩;have h1:Hid (∀ W,Below w.heap.size w W→aG W K 3 (some ad) i (mM (L.take i))):=zia fun W h=>by rw [←(zc1 L i).1];exact (iX (hL.step h)).pre (by omega)
 have h2:Hid (∀ W,Below w.heap.size w W→aG W K 3 (if c=j then some ad else some (ad.add (j*3))) (n-j) (mM (L.drop j))):=zia fun W h=>by rw [←(zc1 L j).2];exact (iX (hL.step h)).cut (by omega) hlc
 have HK:Hid (∀ W,Below w.heap.size w W→∀ o,W.cell? ⟨gk,o,none⟩=(rkC most (.slice (some ad) n c) hit miss)[o]?):=zia fun W h=>(hB.step h).rules.1
 have o1:=jE (L.take i);have o2:=jE (L.drop j);have hcat:Hid (mM (L.take i)++mM (L.drop j)=mM (L.take i++L.drop j)):=zia (by simp [mM])
 rw [hj];have wj:IntKind.i64.wrap ((i:Int)+1)=(j:Int):=by rw [ziI _ (by omega)];omega
 have w1:(i:Int)≤(c:Int):=by omega
 have w2:(0:Int)≤(i:Int):=by omega
 have w3:(j:Int)≤(n:Int):=by omega
 have w4:(0:Int)≤(j:Int):=by omega
 have hij:i+(n-j)=n-1:=by omega
 have hj':j≤n:=by omega
 have w5:i≤j:=by omega
 have w6:i≤c:=by omega
 clear hn hL;have hb0:Below w.heap.size w w.drew:=(zif _ _).drew;by_cases hcj:c=j
 · rw [zij hcj] at h2
   go_enter Tryz.func76,Tryz.ntmps76
   go_upto_region 1 with fail;refine wp_region_held_drew (S:=fun W=>∀ o,W.cell? ⟨gk,o,none⟩=(rkC most (.slice (some ad) n c) hit miss)[o]?) (by kernel_rfl) (HK.out _ hb0) (fun hHeld=>?_)
   refine wT 0 5 ?_;refine wT 1 6 ?_;refine wT 2 7 ?_;refine wT 3 8 ?_;refine wT 4 9 ?_;refine wT 5 10 ?_;refine wT 7 12 ?_;refine wT 8 13 ?_;refine wT 9 14 ?_;refine wT 10 15 ?_;refine wT 11 16 ?_;refine wT 12 17 ?_;refine wT 13 18 ?_;refine wR 6 11 (fun K hK=>?_)
   refine dX (by rfl) (.const (.slice none 0 0)) (.tmp 10) _ (by rfl) w.heap.size 86 i0 _ 3 32 Tryz.underlying60 hi0 hz0 hz1 hz2 rfl (by omega) (by rfl) (zin _ _ _ _) (by rfl) (h1.out _ hb0) o1 (by simp only [maxLen];omega) (by omega) (zic _) ?_
   intro A8 c8 w7 own8 hg8;go_simp;have hb7:Below w.heap.size w w7:=hb0.trans (hg8.below.mono (zic _));refine hK.out _ _ (HK.out _ hb7) (fun hHeld=>?_)
   clear hK K;try simp only [pu,List.set]
   refine wR 14 19 (fun K hK=>?_)
   rw [zj5] at own8;refine dX (by rfl) (.tmp 11) (.tmp 18) _ (by rfl) w.heap.size 86 i0 _ 3 32 Tryz.underlying60 hi0 hz0 hz1 hz2 rfl (by omega) (by rfl) own8 (by rfl) (h2.out _ hb7) o2 (by simp only [maxLen];omega) (by omega) hb7.size ?_
   intro A9 c9 w9 own9 hg9;go_simp;have hb9:Below w.heap.size w w9:=hb7.trans (hg9.below.mono (zic _));refine hK.out _ _ (HK.out _ hb9) (fun hHeld=>?_)
   clear hK K;refine wT 15 4 ?_;refine wpAnyH_done (by kernel_rfl) ?_ _
   go_wp2;go_ret;rw [hij,List.nil_append,hcat.out] at own9;exact ⟨A9,c9,by rw [←hij];rfl,own9,hb9⟩
 · rw [zig hcj] at h2
   go_enter Tryz.func76,Tryz.ntmps76
   go_upto_region 1 with fail;refine wp_region_held_drew (S:=fun W=>∀ o,W.cell? ⟨gk,o,none⟩=(rkC most (.slice (some ad) n c) hit miss)[o]?) (by kernel_rfl) (HK.out _ hb0) (fun hHeld=>?_)
   refine wT 0 5 ?_;refine wT 1 6 ?_;refine wT 2 7 ?_;refine wT 3 8 ?_;refine wT 4 9 ?_;refine wT 5 10 ?_;refine wT 7 12 ?_;refine wT 8 13 ?_;refine wT 9 14 ?_;refine wT 10 15 ?_;refine wT 11 16 ?_;refine wT 12 17 ?_;refine wT 13 18 ?_;refine wR 6 11 (fun K hK=>?_)
   refine dX (by rfl) (.const (.slice none 0 0)) (.tmp 10) _ (by rfl) w.heap.size 86 i0 _ 3 32 Tryz.underlying60 hi0 hz0 hz1 hz2 rfl (by omega) (by rfl) (zin _ _ _ _) (by rfl) (h1.out _ hb0) o1 (by simp only [maxLen];omega) (by omega) (zic _) ?_
   intro A8 c8 w7 own8 hg8;go_simp;have hb7:Below w.heap.size w w7:=hb0.trans (hg8.below.mono (zic _));refine hK.out _ _ (HK.out _ hb7) (fun hHeld=>?_)
   clear hK K;try simp only [pu,List.set]
   refine wR 14 19 (fun K hK=>?_)
   rw [zj5] at own8;refine dX (by rfl) (.tmp 11) (.tmp 18) _ (by rfl) w.heap.size 86 i0 _ 3 32 Tryz.underlying60 hi0 hz0 hz1 hz2 rfl (by omega) (by rfl) own8 (by rfl) (h2.out _ hb7) o2 (by simp only [maxLen];omega) (by omega) hb7.size ?_
   intro A9 c9 w9 own9 hg9;go_simp;have hb9:Below w.heap.size w w9:=hb7.trans (hg9.below.mono (zic _));refine hK.out _ _ (HK.out _ hb9) (fun hHeld=>?_)
   clear hK K;refine wT 15 4 ?_;refine wpAnyH_done (by kernel_rfl) ?_ _
   go_wp2;go_ret;rw [hij,List.nil_append,hcat.out] at own9;exact ⟨A9,c9,by rw [←hij];rfl,own9,hb9⟩
end
def oK (X:Nat→Prop) (w:World) (gk:Nat) (k:Ca):Prop:=∃ v,Blk w gk 62 (rkC k.most v k.hit k.miss)∧IsL Rp.re w (fun b=>¬X b∧b≠gk∧b<w.heap.size) v k.l
def cJ (X:Nat→Prop) (w w':World) (gk:Nat) (k:Ca):Prop:=oK X w' gk k∧aA w w' (fun b=>b=gk)
section
variable {X X' Y:Nat→Prop} {w w' w'':World} {gk:Nat} {k k':Ca}
theorem oK.turned (h:oK X w gk k) (ht:aA w w' Y) (hY:∀ b,Y b→X b) (hg:¬Y gk) (hX:∀ b,X' b→X b∨w.heap.size≤b):oK X' w' gk k:=by
 obtain ⟨v,h1,h2⟩:=h;refine ⟨v,h1.turned ht hg,(h2.turned ht fun b hb hy=>hb.1 (hY b hy)).more fun b hb=>⟨fun hx=>?_,hb.2.1,ziE hb.2.2 ht.size⟩⟩
 rcases hX b hx with h9 | h9
 · exact hb.1 h9
 · have:=hb.2.2;omega
theorem oK.step (h:oK X w gk k) (hb:Below w.heap.size w w'):oK X w' gk k:=h.turned (Y:=fun _=>False) (aA.of hb) (fun _ h=>h.elim) id (fun _ h=>.inl h)
theorem cJ.set {w2:World} {v x:Value} {i:Nat} (hL:IsL Rp.re w (fun b=>¬X b∧b≠gk∧b<w.heap.size) v k'.l) (hb:Below w.heap.size w w2) (hB':Blk (w2.setCell ⟨gk,i,none⟩ x) gk 62 (rkC k'.most v k'.hit k'.miss)):cJ X w (w2.setCell ⟨gk,i,none⟩ x) gk k':=by
 have ht:aA w (w2.setCell ⟨gk,i,none⟩ x) (fun b=>b=gk):=(aA.of hb).trans ((aA.refl w2 (fun b=>b=gk)).set (g:=gk) rfl i x)
 exact ⟨⟨v,hB',(hL.turned ht fun b hb=>hb.2.1).more fun b hb=>⟨hb.1,hb.2.1,ziE hb.2.2 ht.size⟩⟩,ht⟩
theorem cJ.row {w6 w7:World} {v:Value} (ht:aA w w6 (fun b=>b=gk)) (hX:∀ b,X b→b<w.heap.size) (hg:gk<w.heap.size) (hL:IsL Rp.re w6 (fun b=>w.heap.size≤b) v k'.l) (ht7:aA w6 w7 (fun b=>b=gk)) (hB7:Blk w7 gk 62 (rkC k'.most v k'.hit k'.miss)):cJ X w w7 gk k':=by
 have hl:=IsL.ltG (fun _ _ h=>h) (by decide) hL
 have hs:=ht.size;exact ⟨⟨v,hB7,(hl.turned ht7 fun b hb e=>by have:=hb.1;omega).more fun b hb=>⟨fun h=>by have:=hX b h;have:=hb.1;omega,by have:=hb.1;omega,ziE hb.2 ht7.size⟩⟩,ht.trans ht7⟩
theorem cJ.post (h:cJ X w w' gk k) (hb:Below w'.heap.size w' w''):cJ X w w'' gk k:=⟨h.1.step hb,h.2.trans (aA.of hb)⟩
theorem qV (w:World) (b:List UInt8):(convert 9 31 (zbw b)).run Tryz.prog w=.ok (.slice (some ⟨w.heap.size,0,none⟩) b.length (grownCap w b.length 0 5)) (Lib.bytesWorld w 5 ⟨b.toArray⟩):=by
 have h:=Lib.run_convert_string_bytes (P:=Tryz.prog) w 9 31 5 ⟨b.toArray⟩ Tryz.underlying9 Tryz.underlying31 Tryz.underlying5;have e:(⟨b.toArray⟩:ByteArray).size=b.length:=by show b.toArray.size=_;simp
 rwa [e] at h
theorem nd_split {L:List En} {lba:Int} (hn:(L.map (·.lba)).Nodup):(∀ y∈L,y.lba≠lba)∨∃ (j:Nat) (y:En),L[j]?=some y∧y.lba=lba∧(∀ z∈L.take j,z.lba≠lba)∧bH L lba=L.take j++L.drop (j+1)∧∀ z∈L,z.lba=lba→z=y:=by
 by_cases h:∃ y∈L,y.lba=lba
 · obtain ⟨y,hy,rfl⟩:=h
   obtain ⟨l,r,rfl⟩:=zkr hy;rw [ziZ,zj2,zjE] at hn;have hl:∀ z∈l,z.lba≠y.lba:=fun z hz=>hn.2.2 _ (zjq hz) _ (zih ..)
   have hr:∀ z∈r,z.lba≠y.lba:=fun z hz e=>(zj0.1 hn.2.1).1 (by rw [←e];exact zjq hz)
   refine .inr ⟨l.length,y,by simp,rfl,by rw [zk1];exact hl,?_,fun z hz e=>?_⟩
   · rw [zk1,show l++y::r=(l++[y])++r by simp,List.drop_left' (by simp)]
     unfold bH;rw [zj8,zj8,zj9,zig (by simp),List.filter_nil,ziz,zjI.2 fun z hz=>by simpa using hl z hz,zjI.2 fun z hz=>by simpa using hr z hz]
   · rcases ziA.1 hz with h | h
     · exact absurd e (hl z h)
     · rcases zim.1 h with h | h
       · exact h
       · exact absurd e (hr z h)
 · exact .inl fun y hy e=>h ⟨y,hy,e⟩
theorem zfS (h:oK X w gk k) (hn:(k.l.map (·.lba)).Nodup) (lba ver:Int) (hm:0≤k.miss∧k.miss<9223372036854775807) (hg:nC k.l lba ver=none) :
 Calls Tryz.prog 31 #[.pointer (some ⟨gk,0,none⟩),.int .i64 lba,.int .i64 ver] w fun e w'=>e=.returned (.tuple #[.slice none 0 0,.bool false])∧cJ X w w' gk ⟨k.most,k.l,k.hit,k.miss+1⟩:=by
 obtain ⟨v,hB,hL⟩:=h;obtain ⟨A,c,rfl,-⟩:=hL.form;have hfi:=oP hB hL lba;obtain ⟨n,hnl⟩:∃ n,k.l.length=n:=⟨_,rfl⟩;rw [hnl] at hL hB;have HN:=zia hnl;clear hnl;rcases nd_split (lba:=lba) hn with h1 | ⟨j,y,hy,hyl,hz,-,-⟩
 · rw [zfP h1] at hfi
   clear hn h1 hg;go_enter Tryz.func31,Tryz.ntmps31
   go_wp2_with fail;refine hfi.mono ?_;rintro e w2 ⟨rfl,hb2⟩;have hB2:=hB.step hb2;obtain ⟨q0,f0⟩:=hB2.rules;have t0:=hB2.lt;clear hfi;go_wp2;go_ret2;exact ⟨rfl,cJ.set (k':=⟨k.most,k.l,k.hit,k.miss+1⟩) hL hb2 (hB2.set_ 3 _)⟩
 · rw [zdz hy hyl hz] at hfi
   have hv:¬y.ver=ver:=fun e=>by
    have:=zje.1 hg y (zix hy);simp [hyl,e] at this
   have hj:j<n:=by rw [←HN.out];exact (zil.1 hy).1
   have hj0:(0:Int)≤(j:Int):=by omega
   have hj1:(j:Int)<(n:Int):=by omega
   obtain ⟨ad,rfl,-⟩:=pX hL hy;go_enter Tryz.func31,Tryz.ntmps31
   go_wp2_with fail;refine hfi.mono ?_;rintro e w2 ⟨rfl,hb2⟩;have hB2:=hB.step hb2;obtain ⟨q0,f0⟩:=hB2.rules;have t0:=hB2.lt;obtain ⟨ad',e9,-,c0,c1,c2⟩:=pX (hL.step hb2) hy;injection e9 with e9;subst e9;have hv':(y.ver != ver)=true:=by simpa using hv
   clear hfi hn hg hy hz hv;go_wp2;go_ret2;exact ⟨rfl,cJ.set (k':=⟨k.most,k.l,k.hit,k.miss+1⟩) hL hb2 (hB2.set_ 3 _)⟩
theorem zhx {L:List En} {lba ver:Int} {y:En} (hn:(L.map (·.lba)).Nodup) (hg:nC L lba ver=some y):∃ j:Nat,L[j]?=some y∧y.lba=lba∧y.ver=ver∧(∀ z∈L.take j,z.lba≠lba)∧bH L lba=L.take j++L.drop (j+1):=by
 obtain ⟨g1,g2,g3⟩:=gI hg;rcases nd_split (lba:=lba) hn with h1 | ⟨j,y',hy,hyl,hz,hd,hu⟩
 · exact absurd g2 (h1 y g1)
 · obtain rfl:=hu y g1 g2
   exact ⟨j,hy,g2,g3,hz,hd⟩
theorem xQ (w:World) (b:List UInt8) (hb:b.length≤1000000):IsB (Lib.bytesWorld w 5 ⟨b.toArray⟩) (fun x=>w.heap.size≤x) (.slice (some ⟨w.heap.size,0,none⟩) b.length (grownCap w b.length 0 5)) b:=by
 have h1:=zkx w b.length 0 5;have h2:=zjL w b.length 0 5 (by unfold maxLen;omega)
 refine ⟨_,_,rfl,⟨by simp [aE],fun hn=>⟨_,rfl,zic _,fun i u hu=>?_⟩⟩,h1,by unfold maxLen at h2;omega,by omega⟩
 have hi:i<b.length:=by have:=(zil.1 hu).1;simpa [aE] using this
 have e:(⟨w.heap.size,0,none⟩:Addr).add i=⟨w.heap.size,i,none⟩:=by simp [Addr.add];omega
 rw [e,Lib.bytesWorld_cell w _ _ i (by show i<b.toArray.size;simpa using hi)]
 simp only [aE,zj1,zib hi,Option.map_some] at hu;rw [←hu];simp [hi,B8]
theorem zgE {B:Nat} {a wc:World} (hb:Below B a wc) (hB:B≤wc.heap.size) (y:En):Below B a (wc.alloc (.cells #[.int .i64 y.lba,.int .i64 y.ver,zbw y.b] 86))∧(wc.alloc (.cells #[.int .i64 y.lba,.int .i64 y.ver,zbw y.b] 86)).ownsRow B 86 3 (.slice (some ⟨wc.heap.size,0,none⟩) 1 1) 1 (zaU y):=
 ⟨hb.alloc hB _,World.ownsRow_lit (size:=3) wc _ 1 hB (by decide) rfl⟩
theorem zfg (h:oK X w gk k) (hn:(k.l.map (·.lba)).Nodup) (hX:∀ b,X b→b<w.heap.size) (lba ver:Int) (hm:0≤k.hit∧k.hit<9223372036854775807) (hl:k.l.length≤1000000) {y:En} (hg:nC k.l lba ver=some y) (hyb:y.b.length≤1000000) :
 Calls Tryz.prog 31 #[.pointer (some ⟨gk,0,none⟩),.int .i64 lba,.int .i64 ver] w fun e w'=>∃ vb,e=.returned (.tuple #[vb,.bool true])∧IsB w' (fun b=>w.heap.size≤b) vb y.b∧cJ X w w' gk ⟨k.most,y::bH k.l lba,k.hit+1,k.miss⟩:=by
 obtain ⟨i0,hi0,hz0,hz1,hz2⟩:=ziH Tryz.infRe;obtain ⟨v,hB,hL⟩:=h;have hgw:=hB.lt;obtain ⟨A,c,rfl,-⟩:=hL.form;obtain ⟨j,hy,hyl,hyv,hz,hd⟩:=zhx hn hg;have hfi:=oP hB hL lba;rw [zdz hy hyl hz] at hfi;have hj:=(zil.1 hy).1;have hwo:=fun w' hB hL=>mN (w:=w') (gk:=gk) (most:=k.most) (hit:=k.hit+1) (miss:=k.miss) (v:=.slice A k.l.length c) (K:=fun b=>¬X b∧b≠gk∧b<w.heap.size) (L:=k.l) hB hL j hj hl
 obtain ⟨n,hnl⟩:∃ n,k.l.length=n:=⟨_,rfl⟩;rw [hnl] at hL hB hj hl;simp only [hnl] at hwo;have HN:=zia hnl;have HD:=zia hd;have hj0:(0:Int)≤(j:Int):=by omega
 have hj1:(j:Int)<(n:Int):=by omega
 obtain ⟨ad,rfl,-⟩:=pX hL hy;subst hyl hyv;clear hnl hd hn hg hz;go_enter Tryz.func31,Tryz.ntmps31
 go_wp2_with fail;refine hfi.mono ?_;rintro e w2 ⟨rfl,hb2⟩;have hB2:=hB.step hb2;obtain ⟨q0,f0⟩:=hB2.rules;have t0:=hB2.lt;obtain ⟨ad',e9,hKa,c0,c1,c2⟩:=pX (hL.step hb2) hy;injection e9 with e9;subst e9;have hv':(y.ver != y.ver)=false:=by simp
 clear hfi;go_upto_region 6 with fail;have ht3:aA w (w2.setCell ⟨gk,2,none⟩ (.int .i64 (k.hit+1))) (fun b=>b=gk):=(aA.of hb2).trans ((aA.refl w2 (fun b=>b=gk)).set (g:=gk) rfl 2 _)
 have hB3:Blk (w2.setCell ⟨gk,2,none⟩ (.int .i64 (k.hit+1))) gk 62 (rkC k.most (.slice (some ad) n c) (k.hit+1) k.miss):=hB2.set_ 2 _;have hL3:=hL.turned ht3 fun b hb=>hb.2.1
 clear q0 f0 t0 c0 c1 c2 hB2 hb2 hB hv';generalize w2.setCell ⟨gk,2,none⟩ (.int .i64 (k.hit+1))=w3 at ht3 hB3 hL3 ⊢;have hs3:=ht3.size;obtain ⟨q0,f0⟩:=hB3.rules;have t0:=hB3.lt;obtain ⟨ad',e9,-,c0,c1,c2⟩:=pX hL3 hy;injection e9 with e9;subst e9;go_upto_region 7 with fail;have ha:=(zif w3.heap.size w3).alloc (zic _) (.cells #[.int .i64 y.lba,.int .i64 y.ver,zbw y.b] 86);have hE:=Blk.new w3 86 #[.int .i64 y.lba,.int .i64 y.ver,zbw y.b] rfl;have hB4:=hB3.step ha;have hL4:=hL3.step ha;have ht4:=ht3.trans (aA.of ha);obtain ⟨ge,hge⟩:∃ ge,w3.heap.size=ge:=⟨_,rfl⟩;have hget:gk≠ge:=by rw [←hge];omega
 have hwge:w.heap.size≤ge:=by rw [←hge];exact hs3
 clear q0 f0 t0 c0 c1 c2 hB3 hL3 ht3 ha hs3;generalize w3.alloc (.cells #[.int .i64 y.lba,.int .i64 y.ver,zbw y.b] 86)=w4 at hB4 hL4 ht4 hE ⊢;rw [hge] at hE ⊢;have hb0:Below w4.heap.size w4 w4.drew:=(zif _ _).drew;have HK:Hid (∀ W,Below w4.heap.size w4 W→∀ o,W.cell? ⟨ge,o,none⟩=(#[.int .i64 y.lba,.int .i64 y.ver,zbw y.b]:Array Value)[o]?):=zia fun W h=>(hE.step h).rules.1
 refine wp_region_held_drew (S:=fun W=>∀ o,W.cell? ⟨ge,o,none⟩=(#[.int .i64 y.lba,.int .i64 y.ver,zbw y.b]:Array Value)[o]?) (by kernel_rfl) (HK.out _ hb0) (fun hHeld=>?_)
 obtain ⟨L',hL'⟩:∃ L',k.l.take j++k.l.drop (j+1)=L':=⟨_,rfl⟩;have hLn:L'.length=n-1:=by rw [←hL',zie,zio,ziG,HN.out];omega
 rw [hL'] at hwo;have hbc:=hb0;clear hb0;refine wT 0 48 ?_;refine wT 1 49 ?_;refine wT 3 51 ?_;refine wT 4 52 ?_;refine wpAnyH_ready (rs:=[2,5]) (by kernel_rfl) (by simp) ?_
 refine AllReadyH.cons (o:=⟨some 50,_,_,_,_,_⟩) rfl (fun K hK=>?_) ?_
 · go_simp
   obtain ⟨hbc,hro⟩:=zgE hbc hbc.size y;try replace hre:=hre.alloc (.cells #[.int .i64 y.lba,.int .i64 y.ver,zbw y.b] 86)
   refine hK.out _ _ (HK.out _ hbc) (fun hHeld=>?_)
   clear hK K;try simp only [pu,List.set]
   refine wR 5 53 (fun K hK=>?_)
   go_simp;refine (hwo _ (hB4.step hbc) (hL4.step hbc)).mono ?_;rintro e w5 ⟨A9,c9,rfl,own9,hb9⟩;have hs5:=hbc.size;try replace hro:=aD hro hb9 (zic _)
   have hre:=(kP own9 hLn (by omega)).more (K':=fun b=>w4.heap.size≤b) fun b hb=>zit hs5 hb
   replace hbc:=hbc.trans (hb9.mono hs5);go_wp2_with fail;refine hK.out _ _ (HK.out _ hbc) (fun hHeld=>?_)
   clear hK K;try simp only [pu,List.set]
   refine wR 6 54 (fun K hK=>?_)
   refine dX (by rfl) (.tmp 50) (.tmp 53) _ (by rfl) w4.heap.size 86 i0 _ 3 32 Tryz.underlying60 hi0 hz0 hz1 hz2 rfl (by omega) (by rfl) hro (by rfl) (iX hre) (jE _) (by simp only [maxLen];omega) (by omega) hbc.size ?_
   intro A6 c6 w6 own6 hg6;go_simp;replace hbc:=hbc.trans (hg6.below.mono (zic _));refine hK.out _ _ (HK.out _ hbc) (fun hHeld=>?_)
   clear hK K;refine wT 7 55 ?_;refine wT 8 56 ?_;refine wRn 9 (fun K hK=>?_)
   have hB6:=hB4.step hbc;obtain ⟨q0,f0⟩:=hB6.rules;have t0:=hB6.lt;go_simp;refine cF (K:=K _) hB6 1 _ ?_;intro w7 hsE ht7 hB7;clear hsE;refine hK.out _ _ ((hE.step hbc).turned ht7 (fun e=>hget e.symm)).rules.1 (fun hHeld=>?_)
   clear hK K;try simp only [pu,List.set]
   refine wpAnyH_done (by kernel_rfl) ?_ _
   have hE7:=(hE.step hbc).turned ht7 (fun e=>hget e.symm)
   obtain ⟨q1,f1⟩:=hE7.rules;have hcv:=qV w7 y.b;have hs7:=ht4.size;have hlt7:w4.heap.size≤w7.heap.size:=zit hbc.size ht7.size;have hl6:=(kP (l:=y::L') own6 (by rw [List.length_cons,hLn];omega) (by omega)).more (K':=fun b=>w.heap.size≤b) fun b hb=>zit hs7 hb
   have hmd:cJ X w w7 gk ⟨k.most,y::L',k.hit+1,k.miss⟩:=cJ.row (ht4.trans (aA.of hbc)) hX hgw hl6 ht7 hB7;clear q0 f0 t0 hB6 hB7 own6 hl6 hbc hB4 hL4 hro hre;go_wp2;go_ret2;exact ⟨_,rfl,(xQ w7 y.b hyb).more fun b hb=>zit (zit hs7 hlt7) hb,by rw [HD.out,hL'];exact hmd.post (Go.Joins.below_bytesWorld _ _ _ _ (zic _))⟩
 refine AllReadyH.cons (o:=⟨some 53,_,_,_,_,_⟩) rfl (fun K hK=>?_) ?_
 · go_simp
   refine (hwo _ (hB4.step hbc) (hL4.step hbc)).mono ?_;rintro e w5 ⟨A9,c9,rfl,own9,hb9⟩;have hs5:=hbc.size;try replace hro:=aD hro hb9 (zic _)
   have hre:=(kP own9 hLn (by omega)).more (K':=fun b=>w4.heap.size≤b) fun b hb=>zit hs5 hb
   replace hbc:=hbc.trans (hb9.mono hs5);go_wp2_with fail;refine hK.out _ _ (HK.out _ hbc) (fun hHeld=>?_)
   clear hK K;try simp only [pu,List.set]
   refine wR 2 50 (fun K hK=>?_)
   go_simp;obtain ⟨hbc,hro⟩:=zgE hbc hbc.size y;try replace hre:=hre.alloc (.cells #[.int .i64 y.lba,.int .i64 y.ver,zbw y.b] 86)
   refine hK.out _ _ (HK.out _ hbc) (fun hHeld=>?_)
   clear hK K;try simp only [pu,List.set]
   refine wR 6 54 (fun K hK=>?_)
   refine dX (by rfl) (.tmp 50) (.tmp 53) _ (by rfl) w4.heap.size 86 i0 _ 3 32 Tryz.underlying60 hi0 hz0 hz1 hz2 rfl (by omega) (by rfl) hro (by rfl) (iX hre) (jE _) (by simp only [maxLen];omega) (by omega) hbc.size ?_
   intro A6 c6 w6 own6 hg6;go_simp;replace hbc:=hbc.trans (hg6.below.mono (zic _));refine hK.out _ _ (HK.out _ hbc) (fun hHeld=>?_)
   clear hK K;refine wT 7 55 ?_;refine wT 8 56 ?_;refine wRn 9 (fun K hK=>?_)
   have hB6:=hB4.step hbc;obtain ⟨q0,f0⟩:=hB6.rules;have t0:=hB6.lt;go_simp;refine cF (K:=K _) hB6 1 _ ?_;intro w7 hsE ht7 hB7;clear hsE;refine hK.out _ _ ((hE.step hbc).turned ht7 (fun e=>hget e.symm)).rules.1 (fun hHeld=>?_)
   clear hK K;try simp only [pu,List.set]
   refine wpAnyH_done (by kernel_rfl) ?_ _
   have hE7:=(hE.step hbc).turned ht7 (fun e=>hget e.symm)
   obtain ⟨q1,f1⟩:=hE7.rules;have hcv:=qV w7 y.b;have hs7:=ht4.size;have hlt7:w4.heap.size≤w7.heap.size:=zit hbc.size ht7.size;have hl6:=(kP (l:=y::L') own6 (by rw [List.length_cons,hLn];omega) (by omega)).more (K':=fun b=>w.heap.size≤b) fun b hb=>zit hs7 hb
   have hmd:cJ X w w7 gk ⟨k.most,y::L',k.hit+1,k.miss⟩:=cJ.row (ht4.trans (aA.of hbc)) hX hgw hl6 ht7 hB7;clear q0 f0 t0 hB6 hB7 own6 hl6 hbc hB4 hL4 hro hre;go_wp2;go_ret2;exact ⟨_,rfl,(xQ w7 y.b hyb).more fun b hb=>zit (zit hs7 hlt7) hb,by rw [HD.out,hL'];exact hmd.post (Go.Joins.below_bytesWorld _ _ _ _ (zic _))⟩
 exact AllReadyH.nil
theorem IsL.pre1 {α:Type} {R:Rp α} {w:World} {K:Nat→Prop} {A:Option Addr} {n c:Nat} {l:List α} (h:IsL R w K (.slice A n c) l) {k:Nat} (hk:k≤n):IsL R w K (.slice A k c) (l.take k):=by
 obtain ⟨rfl,⟨cs,h1,h2⟩,h3,h4,h5⟩:=h.open_;have e:(l.take k).length=k:=by rw [zio];omega
 exact ⟨A,c,cs.take (k*R.size),by rw [e],by rw [e];exact h1.pre hk,h2.take k,by omega,h4,by omega⟩
theorem zcW {L:List En} {x:En} (hn:(L.map (·.lba)).Nodup):((∀ y∈L,y.lba≠x.lba)∧nT L x=false∧bH L x.lba=L)∨∃ (j:Nat) (y:En),L[j]?=some y∧y.lba=x.lba∧(∀ z∈L.take j,z.lba≠x.lba)∧bH L x.lba=L.take j++L.drop (j+1)∧(nT L x=true↔y.ver > x.ver):=by
 rcases nd_split (lba:=x.lba) hn with h1 | ⟨j,y,hy,hyl,hz,hd,hu⟩
 · refine .inl ⟨h1,?_,zbL h1⟩
   unfold nT;rw [List.any_eq_false];intro y hy;simp [h1 y hy]
 · refine .inr ⟨j,y,hy,hyl,hz,hd,?_⟩
   unfold nT;rw [zkD];constructor
   · rintro ⟨z,hz,h⟩
     simp only [zjC,zkb,ziM] at h;rw [←hu z hz h.1];exact h.2
   · intro h
     exact ⟨y,zix hy,by simp only [zjC,zkb,ziM];exact ⟨hyl,h⟩⟩
theorem zf0 (h:oK X w gk k) (hn:(k.l.map (·.lba)).Nodup) (hX:∀ b,X b→b<w.heap.size) (x:En) (hx:0≤x.lba∧0≤x.ver∧x.b.length=16) {K:Nat→Prop} {vb:Value} (hvb:IsB w K vb x.b) (hl:k.l.length≤1000000) (hm:(k.l.length:Int)≤k.most) :
 Calls Tryz.prog 33 #[.pointer (some ⟨gk,0,none⟩),.int .i64 x.lba,.int .i64 x.ver,vb] w fun e w'=>e=.returned (.int .i64 0)∧cJ X w w' gk ⟨k.most,iR k.most k.l x,k.hit,k.miss⟩:=by
 obtain ⟨i0,hi0,hz0,hz1,hz2⟩:=ziH Tryz.infRe;obtain ⟨v,hB,hL⟩:=h;have hgw:=hB.lt;obtain ⟨A,c,rfl,-⟩:=hL.form;obtain ⟨Av,kv,rfl,-⟩:=aK hvb;obtain ⟨hx1,hx2,hx3⟩:=hx;have hvr:=hvb.open_.2.1;rw [hx3] at hvr hvb ⊢;have g1:¬x.lba<0:=by omega
 have g2:¬x.ver<0:=by omega
 have hfi:=oP hB hL x.lba;have hwo:=fun w' hB hL j hj=>mN (w:=w') (gk:=gk) (most:=k.most) (hit:=k.hit) (miss:=k.miss) (v:=.slice A k.l.length c) (K:=fun b=>¬X b∧b≠gk∧b<w.heap.size) (L:=k.l) hB hL j hj hl
 obtain ⟨res,hres⟩:∃ res,iR k.most k.l x=res:=⟨_,rfl⟩;rw [hres];unfold iR at hres;have HRES:=zia hres;obtain ⟨n,hnl⟩:∃ n,k.l.length=n:=⟨_,rfl⟩;rw [hnl] at hL hB hl hm;simp only [hnl] at hwo;have HN:=zia hnl;have HX3:=zia hx3;clear hnl hres hx3;go_enter Tryz.func33,Tryz.ntmps33
 obtain ⟨q0,f0⟩:=hB.rules;have t0:=hB.lt;obtain ⟨r,hr⟩:∃ r,fiC k.l x.lba=r:=⟨_,rfl⟩;rw [hr] at hfi;have HR:=zia hr;clear hr;go_wp2_with fail;refine hfi.mono ?_;rintro e w2 ⟨rfl,hb2⟩;have hB2:=hB.step hb2;have hvb2:=hvb.step hb2;have h0:oK X w gk k:=⟨.slice A n c,hB,hL⟩;clear hfi q0 f0 t0 hvb hvr hB;obtain ⟨q0,f0⟩:=hB2.rules;have t0:=hB2.lt;have hsp:=zcW (x:=x) hn;clear hn;by_cases hold:nT k.l x=true
 case pos=>
  rcases hsp with ⟨h1,ho,-⟩ | ⟨j,y,hy,hyl,hz,-,ho⟩
  · rw [ho] at hold;cases hold
  have hres:res=k.l:=by rw [←HRES.out,zij hold]
  have hgt:=ho.1 hold;obtain rfl:r=j:=by rw [←HR.out];exact zdz hy hyl hz
  have hj:j<n:=by rw [←HN.out];exact (zil.1 hy).1
  have hj0:(0:Int)≤(j:Int):=by omega
  have hj1:(j:Int)<(n:Int):=by omega
  obtain ⟨ad,e9,-,c0,c1,c2⟩:=pX (hL.step hb2) hy;subst e9 hres;clear hwo hy hyl hz ho hold;go_wp2_with fail;go_ret;exact ⟨rfl,h0.step hb2,aA.of hb2⟩
 case neg=>
  have hres:Hid (res=mV k.most (x::bH k.l x.lba)):=zia (by rw [←HRES.out,zig hold])
  go_upto_if 30 with fail
  go_cut [9] (fun x9 wx=>∃ (A9:Option Addr) (n9 c9:Nat) (L':List En),x9=.slice A9 n9 c9∧Hid (L'=bH k.l x.lba)∧Hid (L'.length=n9)∧n9≤n∧IsL Rp.re wx (fun b=>¬X b∧b≠gk∧b<wx.heap.size) x9 L'∧Below w2.heap.size w2 wx)
  case first=>
   rcases hsp with ⟨h1,-,hd⟩ | ⟨j,y,hy,hyl,hz,hd,ho⟩
   · obtain rfl:r = -1:=by rw [←HR.out];exact zfP h1
     clear h1 hwo;go_wp2_with fail;go_meet;exact ⟨A,n,c,k.l,rfl,zia hd.symm,HN,zic _,(hL.step hb2).more fun b hb=>⟨hb.1,hb.2.1,ziE hb.2.2 hb2.size⟩,zif _ _⟩
   · have hgt:¬y.ver > x.ver:=fun h=>hold (ho.2 h)
     obtain rfl:r=j:=by rw [←HR.out];exact zdz hy hyl hz
     have hj:j<n:=by rw [←HN.out];exact (zil.1 hy).1
     have hj0:(0:Int)≤(j:Int):=by omega
     have hj1:(j:Int)<(n:Int):=by omega
     obtain ⟨ad,e9,-,c0,c1,c2⟩:=pX (hL.step hb2) hy;have HL':Hid ((k.l.take j++k.l.drop (j+1)).length=n-1):=zia (by rw [zie,zio,ziG,HN.out];omega)
     have hwo2:=hwo w2 hB2 (hL.step hb2) j hj;have HD:=zia hd.symm;subst e9;clear hwo hy hyl hz ho hold hd;go_wp2_with fail;refine hwo2.mono ?_;rintro e w3 ⟨A9,c9,rfl,own9,hb9⟩;clear hwo2;have hs2:=hb2.size;go_wp2_with fail;go_meet;refine ⟨A9,n-1,c9,_,rfl,HD,HL',by omega,?_,hb9⟩
     exact (IsL.ltG (fun _ _ h=>h) (by decide) (kP own9 HL'.out (by omega))).more fun b hb=>⟨fun h=>by have:=hX b h;have:=hb.1;omega,by have:=hb.1;omega,hb.2⟩
  case rest=>
   obtain ⟨A9,n9,c9,L',rfl,hd,hLn,hn9,hL9,hb9⟩:=hcut;have hB3:=hB2.step hb9;have z1:=cL (P:=Tryz.prog) (cap:=kv) (n:=16) (l:=x.b) wc 31 9 5 Tryz.underlying31 Tryz.underlying5 Tryz.underlying9 HX3.out (by have:=(IsB.open_ (hvb2.step hb9)).2.1;rwa [HX3.out] at this)
   clear hwo q0 f0 t0 hvb2 hsp hold;obtain ⟨q0,f0⟩:=hB3.rules;have t0:=hB3.lt;have hbc:=hb2.trans (hb9.mono hb2.size);obtain ⟨hba,hro⟩:=zgE (zif wc.heap.size wc) (zic _) x;have hrd:=iX (hL9.step hba);have hsc:=hbc.size;go_wp2_with (at_builtin;refine aF rfl _ _ _ rfl wc.heap.size 86 i0 _ 3 32 Tryz.underlying60 hi0 hz0 hz1 hz2 rfl (by omega) rfl hro rfl hrd (jE _) (by simp only [maxLen];omega) (by omega) (by rw [zid];omega) ?_;intro A6 c6 w6 own6 hg6;have hB6:=(hB3.step hba).grown hg6.grown (fun e=>by have h9:some gk=some wc.heap.size:=e;injection h9 with h9;omega);obtain ⟨q6,f6⟩:=hB6.rules)
   have hl6:=(kP (l:=x::L') own6 (by rw [List.length_cons,hLn.out];omega) (by omega)).more (K':=fun b=>w.heap.size≤b) fun b hb=>zit hsc hb
   have hb6:=(hbc.alloc hsc (.cells #[.int .i64 x.lba,.int .i64 x.ver,zbw x.b] 86)).trans (hg6.below.mono hsc);have hB7:Blk (w6.setCell ⟨gk,1,none⟩ (.slice A6 (1+n9) c6)) gk 62 (rkC k.most (.slice A6 (1+n9) c6) k.hit k.miss):=hB6.set_ 1 _;have ht7:=(aA.refl w6 (fun b=>b=gk)).set (g:=gk) rfl 1 (.slice A6 (1+n9) c6)
   have hcap:=cD own6;have hR:Hid (res=mV k.most (x::L')):=zia (by rw [hres.out,hd.out])
   have hxl:Hid ((x::L').length=1+n9):=zia (by rw [List.length_cons,hLn.out];omega)
   clear q0 f0 t0 hro hrd hba hg6 own6 hB6 q6 f6 hbc hB3 z1 hb9 hL9 hsc;generalize w6.setCell ⟨gk,1,none⟩ (.slice A6 (1+n9) c6)=w7 at hB7 ht7 ⊢;obtain ⟨q0,f0⟩:=hB7.rules;have t0:=hB7.lt;obtain ⟨n1,hn1⟩:∃ n1,1+n9=n1:=⟨_,rfl⟩;rw [hn1] at q0 hB7 hl6 hcap hxl ⊢;go_quiet (fail);have hmd:cJ X w w7 gk ⟨k.most,x::L',k.hit,k.miss⟩:=cJ.row (aA.of hb6) hX hgw hl6 ht7 hB7;have hb8:Below w7.heap.size w7 (w7.drewN nq):=aS (zif _ _) _;replace hmd:=hmd.post hb8;have hB8:=hB7.step hb8;have hl8:=((IsL.ltG (fun _ _ h=>h) (by decide) hl6).turned ht7 fun b hb e=>by have:=hb.1;omega).step hb8
   have ht8:=((aA.of hb6).trans ht7).trans (aA.of hb8);clear q0 f0 t0 hb6 ht7 hl6 hB7;generalize w7.drewN nq=w8 at hmd hB8 hl8 ht8 ⊢;clear hb8;by_cases hgt:k.most<(n1:Int)
   case neg=>
    have hgt':¬(n1:Int) > k.most:=hgt;have hre:Hid (res=x::L'):=zia (by rw [hR.out];unfold mV;rw [zig (by rw [hxl.out];exact hgt)])
    rw [←hre.out] at hmd;clear hl8 ht8;obtain ⟨q0,f0⟩:=hB8.rules;go_wp2_with fail;go_ret;exact ⟨rfl,hmd⟩
   case pos=>
    have hgt':(n1:Int) > k.most:=hgt;have hmo:k.most=(n9:Int):=by omega
    have hre:Hid (res=(x::L').take n9):=zia (by
     rw [hR.out];unfold mV;rw [zij (by rw [hxl.out];exact hgt),List.dropLast_eq_take,hxl.out,←hn1,Nat.add_sub_cancel_left])
    rw [hmo] at hB8;have hw9:n9≤c6:=by omega
    have HMO:=zia hmo;obtain ⟨q0,f0⟩:=hB8.rules;have t0:=hB8.lt;clear hmo hmd;go_upto_region 11 with fail;clear hgt hgt';have hb0:Below w8.heap.size w8 w8.drew:=(zif _ _).drew;have HK:Hid (∀ W,Below w8.heap.size w8 W→∀ o,W.cell? ⟨gk,o,none⟩=(rkC n9 (.slice A6 n1 c6) k.hit k.miss)[o]?):=zia fun W h=>(hB8.step h).rules.1
    refine cZ (S:=fun (L:Array Bool) (W:World)=>L.getD 12 false=true∨(∀ o,W.cell? ⟨gk,o,none⟩=(rkC n9 (.slice A6 n1 c6) k.hit k.miss)[o]?)) (by kernel_rfl) (.inr (HK.out _ hb0)) (fun hDn hSn=>?_)
    have hB9:=hB8.step hb0;have ht9:=ht8.trans (aA.of hb0);have hl9:=hl8.step hb0;clear q0 f0 t0 hB8 ht8 hl8 hb0;generalize w8.drew=w9 at hB9 ht9 hl9 hDn hSn ⊢;refine wD 0 65 (fun hDn hSn=>?_)
    refine wD 1 66 (fun hDn hSn=>?_)
    refine wD 2 67 (fun hDn hSn=>?_)
    refine wD 3 68 (fun hDn hSn=>?_)
    refine aN (i:=4) (oi:=⟨some 69,_,_,_,_,_⟩) (v:=?_) (Si:=fun W=>∀ o,W.cell? ⟨gk,o,none⟩=(rkC n9 (.slice A6 n1 c6) k.hit k.miss)[o]?) rfl (by kernel_rfl) (by kernel_rfl) (by kernel_rfl) (fun _ _ _ h=>h) (fun L W hD hu hS=>hS.resolve_left (fun h=>by have h:=hD.2 12 _ rfl h ⟨4,.phase⟩ (by simp) rfl;rw [hu] at h;cases h)) (fun L W=>by simp only [zjf false (show (4:Nat)≠12 by omega)]) (Or.inl ⟨by rfl,?hy⟩) (by assumption) (by assumption) (fun hDn hSn=>?_)
    case hy=>intro w hSw;(try dsimp only at hSw);go_simp;with_reducible rfl
    refine wD 5 70 (fun hDn hSn=>?_)
    refine wD 6 71 (fun hDn hSn=>?_)
    refine wD 7 72 (fun hDn hSn=>?_)
    refine aN (i:=8) (oi:=⟨some 73,_,_,_,_,_⟩) (v:=?_) (Si:=fun W=>∀ o,W.cell? ⟨gk,o,none⟩=(rkC n9 (.slice A6 n1 c6) k.hit k.miss)[o]?) rfl (by kernel_rfl) (by kernel_rfl) (by kernel_rfl) (fun _ _ _ h=>h) (fun L W hD hu hS=>hS.resolve_left (fun h=>by have h:=hD.2 12 _ rfl h ⟨8,.phase⟩ (by simp) rfl;rw [hu] at h;cases h)) (fun L W=>by simp only [zjf false (show (8:Nat)≠12 by omega)]) (Or.inl ⟨by rfl,?hy⟩) (by assumption) (by assumption) (fun hDn hSn=>?_)
    case hy=>intro w hSw;(try dsimp only at hSw);go_simp;with_reducible rfl
    refine wD 9 74 (fun hDn hSn=>?_)
    refine wD 10 75 (fun hDn hSn=>?_)
    refine wD 11 76 (fun hDn hSn=>?_)
    refine aR (i:=12) (o:=⟨none,_,_,_,_,_⟩) (by kernel_rfl) rfl (by assumption) (fun K hK=>?_)
    obtain ⟨q0,f0⟩:=hB9.rules;have t0:=hB9.lt;go_simp;refine cF (K:=K _) hB9 1 _ ?_;intro wz hsE htz hBz;clear hsE;refine hK.out _ _ (.inl (by kernel_rfl)) (fun hDn hSn=>?_)
    clear hK K;try simp only [pu,List.set]
    refine cX (by kernel_rfl) ?_ _
    have hpre:=(hl9.pre1 (k:=n9) (by omega)).more (K':=fun b=>w.heap.size≤b) fun b hb=>hb.1
    rw [←hre.out] at hpre;have hfin:cJ X w wz gk ⟨k.most,res,k.hit,k.miss⟩:=cJ.row ht9 hX hgw hpre htz (by rw [HMO.out];exact hBz)
    clear hB9 hBz hl9 ht9 htz hpre hb2 h0 hB2 hL;go_wp2_with fail;go_ret;exact ⟨rfl,hfin⟩
theorem zcz (h:oK X w gk k) (hX:∀ b,X b→b<w.heap.size) (lba n:Int) (hlb:0≤lba) (hv:∀ y∈k.l,0≤y.lba∧y.lba≤9223372036854775807) (hl:k.l.length≤1000000) :
 Calls Tryz.prog 10 #[.pointer (some ⟨gk,0,none⟩),.int .i64 lba,.int .i64 n] w fun e w'=>e=.returned (.int .i64 (k.l.length-(eQ lba n k.l).length:Int))∧cJ X w w' gk ⟨k.most,eQ lba n k.l,k.hit,k.miss⟩:=by
 obtain ⟨i0,hi0,hz0,hz1,hz2⟩:=ziH Tryz.infRe;obtain ⟨v,hB,hL⟩:=h;have hgw:=hB.lt;obtain ⟨A,c,rfl,-⟩:=hL.form;obtain ⟨N,hN⟩:∃ N,k.l.length=N:=⟨_,rfl⟩;obtain ⟨D,hD⟩:∃ D,eQ lba n k.l=D:=⟨_,rfl⟩;have hDl:D.length≤N:=by rw [←hD,←hN];exact zj3 _ _
 rw [hD];rw [hN] at hL hB hl ⊢;have HN:=zia hN;have HD:=zia hD;have HV:=zia hv;obtain ⟨dn,hdn⟩:∃ dn,D.length=dn:=⟨_,rfl⟩;rw [hdn] at hDl ⊢;have HDN:=zia hdn;clear hN hD hv hdn;obtain ⟨q0,f0⟩:=hB.rules;go_enter Tryz.func10,Tryz.ntmps10
 go_upto_region 3 with fail;clear q0 f0;go_loopw [7,9,16] (fun x7 x9 x16 wr=>∃ (j t:Nat) (Ao:Option Addr) (co:Nat),x16=.int .i64 j∧j≤N∧x7=.slice Ao t co∧Hid ((eQ lba n (k.l.take j)).length=t)∧t≤N∧wr.ownsRow w.heap.size 86 3 (.slice Ao t co) t (mM (eQ lba n (k.l.take j)))∧Below w.heap.size w wr∧∃ y,x9=y) (fun _ _ x16 _=>N-(intOf x16).toNat)
 case atStart=>exact ⟨0,0,none,0,rfl,zir _,rfl,zia rfl,zir _,zin _ _ _ _,zif _ _,_,rfl⟩
 case round=>
  obtain ⟨j,t,Ao,co,rfl,hj,rfl,ht,htn,hown,hb,y,rfl⟩:=hrel;have hsz:=hb.size;by_cases hlt:j<N
  case neg=>
   obtain rfl:j=N:=by omega
   rw [zip (by rw [HN.out];exact zic _),HD.out] at hown ht
   have htd:t=dn:=by rw [←ht.out,HDN.out]
   subst htd;have hB2:=hB.step hb;obtain ⟨q0,f0⟩:=hB2.rules;have t0:=hB2.lt;have hl2:=kP hown ht.out (by omega)
   have hfin:cJ X w (wr.setCell ⟨gk,1,none⟩ (.slice Ao t co)) gk ⟨k.most,D,k.hit,k.miss⟩:=cJ.row (aA.of hb) hX hgw hl2 ((aA.refl wr (fun b=>b=gk)).set (g:=gk) rfl 1 _) (hB2.set_ 1 _)
   clear hB hL hB2 hl2 hown;go_wp2;go_ret;exact ⟨rfl,hfin⟩
  obtain ⟨e,he⟩:∃ e,k.l[j]?=some e:=⟨_,zib (by rw [HN.out];exact hlt)⟩
  obtain ⟨v1,v2⟩:=HV.out e (zix he);obtain ⟨ad,rfl,-,c0,c1,c2⟩:=pX (hL.step hb) he;have HT:=zia (gG k.l he);have j0:(0:Int)≤(j:Int):=by omega
  have j1:(j:Int)<(N:Int):=by omega
  have hs1:Hid (eQ lba n (k.l.take (j+1))=eQ lba n (k.l.take j)++eQ lba n [e]):=zia (by rw [HT.out];unfold eQ;rw [zj8])
  clear he hL;have w9:lba≤e.lba→IntKind.i64.wrap (e.lba-lba)=e.lba-lba:=fun h=>ziI _ (by omega)
  by_cases hin:lba≤e.lba∧e.lba-lba<n
  · have hd1:Hid (eQ lba n [e]=[]):=zia (by unfold eQ inR;simp [hin.1,hin.2])
    have g1:¬e.lba<lba:=by omega
    have g2:¬n≤0:=by omega
    have g3:¬e.lba-lba≥n:=by omega
    have w8:=w9 hin.1;clear hin w9;go_wp2;go_roundw
    case rel=>exact ⟨j+1,t,Ao,co,by go_num,by omega,rfl,zia (by rw [hs1.out,hd1.out,ziz,ht.out]),htn,by rw [hs1.out,hd1.out,ziz];exact hown.alloc _,hb.alloc hsz _,_,rfl⟩
    case measure=>simp [intOf];omega
  · have hd1:Hid (eQ lba n [e]=[e]):=zia (by unfold eQ inR;simp;omega)
    have hc:e.lba<lba∨(¬e.lba<lba∧n≤0)∨(¬e.lba<lba∧¬n≤0∧e.lba-lba≥n):=by omega
    have hbound:t<N:=by
     have h1:(eQ lba n (k.l.take j)).length≤(k.l.take j).length:=zj3 _ _;rw [ht.out,zio] at h1;omega
    have w8:¬e.lba<lba→IntKind.i64.wrap (e.lba-lba)=e.lba-lba:=fun h=>w9 (by omega)
    clear hin w9;rcases hc with g1 | ⟨g1,g2⟩ | ⟨g1,g2,g3⟩ <;> (try replace w8:=w8 g1)
    all_goals
     go_wp2_with (at_builtin;refine aF rfl _ _ _ rfl w.heap.size 86 i0 _ 3 32 Tryz.underlying60 hi0 hz0 hz1 hz2 rfl (by omega) rfl ((hown.alloc _).alloc _) rfl (aG.new (xs:=zaU e) (n:=1) (zid ..) rfl rfl) (by intro u hu;exact jE [e] u (by simpa [mM] using hu)) (by simp only [maxLen];omega) (by omega) (by simp;omega) ?_;intro A8 c8 w6 own8 hg8)
     go_roundw
     case rel=>exact ⟨j+1,t+1,A8,c8,by go_num,by omega,rfl,zia (by rw [hs1.out,hd1.out,zie,ht.out];rfl),by omega,by rw [hs1.out,hd1.out,zdB];exact own8,((hb.alloc hsz _).alloc (by rw [zid];omega) _).trans (hg8.below.mono (zic _)),_,rfl⟩
     case measure=>simp [intOf];omega
theorem zds (room:Int) (w:World) :
 Calls Tryz.prog 7 #[.int .i64 room] w fun e w'=>∃ gk,e=.returned (.pointer (some ⟨gk+1,0,none⟩))∧w.heap.size≤gk∧Blk w' (gk+1) 51 #[.pointer (some ⟨gk,0,none⟩),.int .i64 0]∧(∀ X:Nat→Prop,oK X w' gk ⟨max room 0,[],0,0⟩)∧Below w.heap.size w w':=by
 have c1:∀ w,(Builtin.max_ #[3,3] 3 #[.int .i64 room,.int .i64 0]).run Tryz.prog w=.ok (.int .i64 (max room 0)) w:=fun w=>by
  by_cases h:room≤0
  · rw [Int.max_eq_right h];simp [go_sem];try omega
  · rw [Int.max_eq_left (by omega)];simp [go_sem];try omega
 have hn:Calls Tryz.prog 23 #[.int .i64 room] w fun e w'=>e=.returned (.pointer (some ⟨w.heap.size,0,none⟩))∧w'=w.alloc (.cells (rkC (max room 0) (.slice none 0 0) 0 0) 62):=by
  generalize max room 0=most at c1 ⊢;go_enter Tryz.func23,Tryz.ntmps23
  go_wp2;go_ret;exact ⟨rfl,rfl⟩
 clear c1;generalize max room 0=most at hn ⊢;go_enter Tryz.func7,Tryz.ntmps7
 go_wp2_with fail;refine hn.mono ?_;rintro e w2 ⟨rfl,rfl⟩;clear hn;go_wp2_with fail;go_ret;have hb1:=(zif w.heap.size w).alloc (zic _) (.cells (rkC most (.slice none 0 0) 0 0) 62);refine ⟨w.heap.size,by simp,zic _,?_,fun X=>⟨_,(Blk.new w _ _ rfl).alloc _,IsL.nil_ _ _⟩,hb1.alloc (by simp) _⟩
 have:=Blk.new (w.alloc (.cells (rkC most (.slice none 0 0) 0 0) 62)) 51 #[.pointer (some ⟨w.heap.size,0,none⟩),.int .i64 0] rfl;rwa [zid] at this
end
