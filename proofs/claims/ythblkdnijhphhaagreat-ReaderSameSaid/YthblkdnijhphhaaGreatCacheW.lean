/- A part of the proof. -/
import Derived.Test.YthblkdnijhphhaaGreatHostRecs
set_option linter.unusedSimpArgs false
set_option maxHeartbeats 4000000
set_option maxRecDepth 100000
namespace Go.Proofs.YthblkdnijhphhaaGreat
open Go.RowKit
theorem zjG (B g:Nat) (h:Ho) (vo vs vb vl vm:Value) (d:Zd) (A:Option Addr) (cz:Nat) (f:Fn) (K:Nat→Prop) (w:World) (hBB:Blk w B 156 #[.pointer (some ⟨g,0,none⟩)]) (hB:Blk w g 158 (wrC h vo vs vb vl vm d (.slice A d.z.length cz))) (hz:IsL Rp.zone w K (.slice A d.z.length cz) d.z) (h0:0≤f.zone) :
 Calls Tryz.prog 135 #[.agg #[.int .i64 f.zone,.int .i64 f.host,.int .i64 f.epoch],.pointer (some ⟨B,0,none⟩)] w fun e w'=>e=.returned (.bool (zbB d f))∧Below w.heap.size w w':=by
 obtain ⟨fz,fh,fe⟩:=f;obtain ⟨k,rfl⟩:∃ k:Nat,fz=k:=⟨fz.toNat,by simp only at h0;omega⟩
 simp only;have E:=(((Kn.start w).know hBB).know hB).give za1.list hz |>.push 130 #[.int .i64 k,.int .i64 fh,.int .i64 fe]
 have hb1:=(Below.refl w.heap.size w).alloc (Nat.le_refl _) (.cells #[.int .i64 k,.int .i64 fh,.int .i64 fe] 130);obtain ⟨res,hres⟩:∃ res,zbB d ⟨k,fh,fe⟩=res:=⟨_,rfl⟩;rw [hres];unfold zbB at hres;simp only [Int.toNat_natCast] at hres;have HRES:=Lib.hid hres;obtain ⟨n,hn⟩:∃ n,d.z.length=n:=⟨_,rfl⟩;have HN:=Lib.hid hn;have hlen:=hz.len;rw [hn] at E hlen HRES;clear hBB hB hz hres h0 hn;go_enter Tryz.func135,Tryz.ntmps135
 go_upto_region 1 with fail;generalize w.alloc (.cells #[.int .i64 k,.int .i64 fh,.int .i64 fe] 130)=w1 at E hb1 ⊢;obtain ⟨q0,f0,t0⟩:=E.rules m0;obtain ⟨q1,f1,t1⟩:=E.rules m1;obtain ⟨q2,f2,t2⟩:=E.rules m2;have k0:(0:Int)≤(k:Int):=by omega
 by_cases h1:k<n
 case neg=>
  have d1:decide ((k:Int)<(n:Int))=false:=by simp only [decide_eq_false_iff_not];omega
  have hr:res=false:=by rw [←HRES.out,d1];rfl
  subst hr;go_quiet (fail);go_wp2;go_ret;exact ⟨rfl,zaF hb1 _⟩
 have h1':k<d.z.length:=by rw [HN.out];exact h1
 obtain ⟨adz,Bz,cB,rfl,-,-,-,c0,c1,c2⟩:=IsL.zone_at (E.get m0) (List.getElem?_eq_getElem h1');have hgd:d.z.getD k z0=d.z[k]:=by rw [List.getD_eq_getElem?_getD,List.getElem?_eq_getElem h1'];rfl
 simp only [hgd] at HRES;generalize d.z[k]=z at HRES c0 c1 c2;have d1:decide ((k:Int)<(n:Int))=true:=by simp only [decide_eq_true_eq];omega
 have i1:(k:Int)<(n:Int):=by omega
 obtain ⟨zst,zfe,zd⟩:=z;simp only at HRES c0 c1 c2;by_cases h2:zst=0
 case neg=>
  have d2:decide (zst=0)=false:=decide_eq_false h2;have d3:(zst == (0:Int))=false:=by simpa using h2
  have hr:res=false:=by rw [←HRES.out,d1,d2];rfl
  subst hr;go_quiet (fail);go_wp2;go_ret;exact ⟨rfl,zaF hb1 _⟩
 subst h2;have hr:res=decide (zfe=fe):=by rw [←HRES.out,d1];rfl
 subst hr;go_quiet (fail);go_wp2;go_ret;exact ⟨rfl,zaF hb1 _⟩
theorem zjd (B g:Nat) (h:Ho) (vo vs vb vl vm:Value) (d:Zd) (A:Option Addr) (cz:Nat) (Ao:Option Addr) (co:Nat) (l:List Fn) (K Ko:Nat→Prop) (w:World) (hBB:Blk w B 156 #[.pointer (some ⟨g,0,none⟩)]) (hB:Blk w g 158 (wrC h vo vs vb vl vm d (.slice A d.z.length cz))) (hz:IsL Rp.zone w K (.slice A d.z.length cz) d.z)
 (hv:IsL Rp.fn w Ko (.slice Ao l.length co) l) (h0:∀ f∈l,0≤f.zone) :
 Calls Tryz.prog 114 #[.slice Ao l.length co,.func (.func 135) #[] #[.pointer (some ⟨B,0,none⟩)]] w fun e w'=>
  e=.returned (.int .i64 (if l.findIdx (zbB d)<l.length then (l.findIdx (zbB d):Int) else -1))∧Below w.heap.size w w':=by
 have hlen:=hv.len;obtain ⟨n,hn⟩:∃ n,l.length=n:=⟨_,rfl⟩;rw [hn] at hv hlen ⊢;obtain ⟨p,hp⟩:∃ p,l.findIdx (zbB d)=p:=⟨_,rfl⟩;rw [hp];have HN:=Lib.hid hn;have HP:=Lib.hid hp;obtain ⟨res,hres⟩:∃ res,(if p<n then (p:Int) else -1)=res:=⟨_,rfl⟩;rw [hres];have HRES:=Lib.hid hres;clear hn hp hres;have E:=((((Kn.start w).give za1.list hv).know hBB).know hB).give za1.list hz;go_enter Tryz.func114,Tryz.ntmps114
 go_wp2_with fail;go_loopw [5,8] (fun x i wr=>∃ j:Nat,i=.int .i64 j∧j≤n∧Hid (∀ k e,k<j→l[k]?=some e→zbB d e=false)∧Below w.heap.size w wr∧(∃ y,x=y)) (fun _ i _=>n-(intOf i).toNat)
 case atStart=>exact ⟨0,rfl,Nat.zero_le _,Lib.hid fun k e hk=>by omega,Below.refl _ _,_,rfl⟩
 case round=>
  obtain ⟨j,rfl,hj,HI,hb,y,rfl⟩:=hrel;have hsz:=hb.size;have F:=E.step hb;by_cases hlt:j<n
  · have hlt':j<l.length:=by rw [HN.out];exact hlt
    have hje:l[j]?=some l[j]:=List.getElem?_eq_getElem hlt';obtain ⟨ad,rfl,-,c0,c1,c2⟩:=zjy (F.get m1) hje;have he0:=h0 _ (List.getElem_mem hlt');have HJ:=Lib.hid hje;generalize l[j]=e at HJ c0 c1 c2 he0;have j1:(j:Int)<(n:Int):=by omega
    have j0:(0:Int)≤(j:Int):=by omega
    have hm1:=fun W a b c=>zjG B g h vo vs vb vl vm d A cz e K W a b c he0
    clear hje hlt';go_wp2_with fail;refine (hm1 wr (F.at_ m1) (F.at_ m0) (F.get m0)).mono ?_;rintro x w2 ⟨rfl,hb2⟩;clear hm1 c0 c1 c2;have hb3:=hb.trans (hb2.mono hsz);cases hfr:zbB d e with
    | true=>
      have hpj:p=j:=by
       rw [←HP.out,List.findIdx_eq (by rw [HN.out];exact hlt)]
       have hje:=HJ.out;obtain ⟨hlt',e1⟩:=List.getElem?_eq_some_iff.1 hje;refine ⟨by rw [e1];exact hfr,fun k hk=>?_⟩
       have:=HI.out k _ hk (List.getElem?_eq_getElem (by omega))
       rw [this]
      have hr:res=(j:Int):=by rw [←HRES.out,hpj,if_pos hlt]
      subst hr;clear hpj;go_wp2;go_ret;exact ⟨rfl,hb3⟩
    | false=>
      have HI2:Hid (∀ k e,k<j+1→l[k]?=some e→zbB d e=false):=Lib.hid fun k x hk hx=>by
       by_cases hkj:k=j
       · subst hkj
         rw [HJ.out] at hx;injection hx with hx;subst hx;exact hfr
       · exact HI.out k x (by omega) hx
      clear hfr;go_wp2;go_roundw
      case rel=>exact ⟨j+1,by go_num,by omega,HI2,hb3,_,rfl⟩
      case measure=>simp [intOf];omega
  · obtain rfl:j=n:=by omega
    have hpj:¬p<j:=by
     rw [←HP.out,←HN.out];intro h;have h2:zbB d (l[l.findIdx (zbB d)])=true:=List.findIdx_getElem;have h3:=HI.out _ _ (by rw [←HN.out];exact h) (List.getElem?_eq_getElem h)
     rw [h2] at h3;cases h3
    have hr:res = -1:=by rw [←HRES.out,if_neg hpj]
    subst hr;clear hpj;go_wp2;go_ret;exact ⟨rfl,hb⟩
def b8 (x:Int):UInt8:=UInt8.ofNat (x % 256).toNat
theorem zoC (x:Int):((b8 x).toNat:Int)=IntKind.u8.wrap x:=by
 unfold b8;have h:(x % 256).toNat<256:=by omega
 rw [UInt8.toNat_ofNat',Nat.mod_eq_of_lt (by omega)]
 simp only [IntKind.wrap,IntKind.bits,IntKind.signed];simp;omega
end Go.Proofs.YthblkdnijhphhaaGreat
namespace Go.Proofs.YthblkdnijhphhaaGreat
open Go.RowKit Go.WideShapes Go.ChangeShapes Go.Deep
end Go.Proofs.YthblkdnijhphhaaGreat
namespace Go.Proofs.YthblkdnijhphhaaGreat
open Go.RowKit
theorem zkO:zgI []:=by
 intro v K w hv;obtain ⟨A,c,rfl,hl47⟩:=zab hv;rw [zmD];go_enter Tryz.func194,Tryz.ntmps194
 go_wp2_with fail;refine (zex _).mono ?_;rintro e w1 ⟨g,rfl,hg,hT1,hb1⟩;rw [World.size_alloc] at hg;have E:=(((Kn.start w).push 182 #[.bool false,.int .i64 0,.int .i64 0,.int .i64 0,.slice none 0 0,.slice none 0 0,.int .i64 0]).step hb1).push 225 #[.pointer (some ⟨g,0,none⟩)];have hgl:=hT1.lt;go_wp2_with fail;have hT1':=hT1.step ((Below.refl _ _).alloc (Nat.le_refl _) (.cells #[.pointer (some ⟨g,0,none⟩)] 225));generalize w1.alloc (.cells #[.pointer (some ⟨g,0,none⟩)] 225)=w2 at E hT1' ⊢;have htf:zdj []=([],0,false):=by kernel_rfl
 have hcall:=fun W h=>zkT g (.slice A 0 c) [] (fun _=>False) W h ⟨A,c,rfl,⟨rfl,fun h=>absurd h (by decide)⟩,by simp,by have:=(IsB.open_ hv).2.2.2.1;omega,by simp⟩
 rw [htf] at hcall;dsimp only [List.length_nil] at hcall;go_loopw [] (fun wr=>wr=w2) (fun _=>1)
 case atStart=>exact rfl
 case round=>
  subst hrel;go_upto_region 2 with fail;have hb0:Below wr.heap.size wr wr.drew:=(Below.refl _ _).drew;replace E:=E.step hb0;have hT2:=hT1'.step hb0;refine wp_region_held_drew (S:=fun W=>(∀ o,W.cell? ⟨w.heap.size,o,none⟩=(#[.bool false,.int .i64 0,.int .i64 0,.int .i64 0,.slice none 0 0,.slice none 0 0,.int .i64 0]:Array Value)[o]?)∧∀ o,W.cell? ⟨w1.heap.size,o,none⟩=(#[.pointer (some ⟨g,0,none⟩)]:Array Value)[o]?) (by kernel_rfl) ⟨(E.rules m1).1,(E.rules m0).1⟩ (fun hHeld=>?_)
  generalize wr.drew=wx at E hT2 hHeld ⊢;clear hT1' hb0;refine wT 0 13 ?_;refine wT 1 14 ?_;refine wT 2 15 ?_;refine wT 3 16 ?_;refine wT 4 17 ?_;refine wR 5 18 (fun K hK=>?_)
  go_simp;refine (hcall _ hT2).mono ?_;rintro e w5 ⟨A6,c6,rfl,-,hT6,ht6⟩;have B0:=(E.at_ m1).turned ht6 (show ¬w.heap.size=g by omega)
  have B1:=(E.at_ m0).turned ht6 (show ¬w1.heap.size=g by omega)
  have hbw:=E.below.trans (ht6.below (B:=w.heap.size) (fun k hk=>by subst hk;omega) E.below.size)
  go_wp2_with fail;refine hK.out _ _ ⟨B0.rules.1,B1.rules.1⟩ (fun hHeld=>?_)
  clear hK K;refine wT 6 12 ?_;refine wT 7 19 ?_;refine wT 8 20 ?_;refine wT 9 21 ?_;refine wT 10 4 ?_;refine wT 11 5 ?_;refine wT 12 6 ?_;refine wpAnyH_done (by kernel_rfl) ?_ _
  obtain ⟨q0,f0⟩:=B0.rules;have t0:=B0.lt;clear E hcall htf hT2 hHeld;go_wp2_with fail;refine zj1 (K:=fun W=>bodyPost _ _ _ _ _ W) B0 _ _ _ _ _ _ _ ?_
  intro w8 ht8 hB8;obtain ⟨q9,f9⟩:=hB8.rules;have hb9:=za0.upon hbw ht8 (Nat.le_refl _) (Nat.le_refl _);refine bodyPost_ret (v:=.agg #[.bool false,.int .i64 0,.int .i64 0,.int .i64 0,.slice none 0 0,.slice none 0 0,.int .i64 0]) (by simp [results,Tryz.results194,go_sem,q9]) rfl ⟨none,0,none,0,rfl,IsL.nil_ _ _,IsL.nil_ _ _,hb9⟩
end Go.Proofs.YthblkdnijhphhaaGreat
namespace Go.Proofs.YthblkdnijhphhaaGreat
open Go.RowKit Go.WideMaps
structure En where
 lba:Int
 ver:Int
 b:List UInt8
def ofs (c g:Nat):Nat:=if g=c then 2 else 0
theorem ziq {c:Nat}:ofs c c=2:=if_pos rfl
theorem zeK {c g:Nat} (h:g≠c):ofs c g=0:=if_neg h
abbrev adV (c g:Nat):Value:=.pointer (some ⟨g,ofs c g,none⟩)
abbrev enC (c:Nat) (x:En) (v:Value) (p q:Nat):Array Value:=#[.int .i64 x.lba,.int .i64 x.ver,v,adV c p,adV c q]
abbrev caC (most:Int) (m c p q:Nat) (hit miss:Int):Array Value:=#[.int .i64 most,.map (some m),.int .i64 0,.int .i64 0,.slice none 0 0,adV c p,adV c q,.int .i64 hit,.int .i64 miss]
theorem zg0 (most:Int) (m c p q:Nat) (hit miss:Int):NoB (caC most m c p q hit miss):=by
 intro o n;rcases Nat.lt_or_ge o 9 with h | h
 · match o,h with
   | 0,_ | 1,_ | 2,_ | 3,_ | 4,_ | 5,_ | 6,_ | 7,_ | 8,_=>simp [caC]
 · rw [Array.getElem?_eq_none (by simpa [caC] using h)];simp
theorem zoW (c:Nat) (x:En) (A:Option Addr) (l k p q:Nat):NoB (enC c x (.slice A l k) p q):=by
 intro o n;rcases Nat.lt_or_ge o 5 with h | h
 · match o,h with
   | 0,_ | 1,_ | 2,_ | 3,_ | 4,_=>simp [enC]
 · rw [Array.getElem?_eq_none (by simpa [enC] using h)];simp
theorem IsB.off {w:World} {K:Nat→Prop} {v:Value} {l:List UInt8} {b:Nat} (h:IsB w K v l) (hc:∀ p:Addr,p.block=b→∀ n:Int,w.cell? p≠some (.int .u8 n)):IsB w (fun x=>K x∧x≠b) v l:=by
 obtain ⟨A,c,rfl,⟨h1,h2⟩,h3⟩:=h;refine ⟨A,c,rfl,⟨h1,fun hn=>?_⟩,h3⟩
 obtain ⟨ad,e,hK,hc'⟩:=h2 hn;refine ⟨ad,e,⟨hK,fun hb=>?_⟩,hc'⟩
 obtain ⟨x,l',rfl⟩:∃ x l',l=x::l':=by
  cases l with
  | nil=>exact absurd hn (Nat.lt_irrefl _)
  | cons x l'=>exact ⟨x,l',rfl⟩
 have h0:=hc' 0 (B8 x) rfl;rw [zbN] at h0;exact hc ad hb _ h0
structure Nd (Kd:Nat→Prop) (w:World) (c m:Nat) (most:Int) (ns:List Nat) (dt:Nat→En) (ah af:Nat→Nat) (hit miss:Int):Prop where
 ca:Blk w c 96 (caC most m c (ah c) (af c) hit miss)
 en:∀ g,g∈ns→∃ v,Blk w g 89 (enC c (dt g) v (ah g) (af g))∧IsB w Kd v (dt g).b
section
variable {Kd:Nat→Prop} {w w':World} {c m g:Nat} {most hit miss:Int} {ns:List Nat} {dt:Nat→En} {ah af:Nat→Nat}
theorem Nd.ne (h:Nd Kd w c m most ns dt ah af hit miss) (hg:g∈ns):g≠c:=by
 obtain ⟨v,h1,_⟩:=h.en g hg;rintro rfl;have h2:=h.ca;unfold Blk at h1 h2;rw [h1] at h2;injection h2 with h2;injection h2 with _ h2 _;exact absurd h2 (by decide)
theorem Nd.step (h:Nd Kd w c m most ns dt ah af hit miss) (hb:Below w.heap.size w w'):Nd Kd w' c m most ns dt ah af hit miss:=
 ⟨h.ca.step hb,fun g hg=>by obtain ⟨v,h1,h2⟩:=h.en g hg;exact ⟨v,h1.step hb,h2.step hb⟩⟩
theorem Nd.more (h:Nd Kd w c m most ns dt ah af hit miss) {ns':List Nat} (hs:∀ g∈ns',g∈ns):Nd Kd w c m most ns' dt ah af hit miss:=⟨h.ca,fun g hg=>h.en g (hs g hg)⟩
theorem Nd.away (h:Nd Kd w c m most ns dt ah af hit miss) {x:Nat} {t:TypeId} {cs:Array Value} (hB:Blk w x t cs) (hn:NoB cs) (ht:za0 w w' (fun b=>b=x)) {g:Nat} (hg:g∈ns) :
 ∃ v,(g≠x→Blk w' g 89 (enC c (dt g) v (ah g) (af g)))∧Blk w g 89 (enC c (dt g) v (ah g) (af g))∧IsB w' Kd v (dt g).b:=by
 obtain ⟨v,h1,h2⟩:=h.en g hg;exact ⟨v,fun hne=>h1.turned ht hne,h1,h2.boxed hB hn ht⟩
theorem Nd.noB (h:Nd Kd w c m most ns dt ah af hit miss) (hg:g∈ns) {cs:Array Value} (hB:Blk w g 89 cs):NoB cs:=by
 obtain ⟨v,h1,h2⟩:=h.en g hg;obtain ⟨A,k,rfl,-⟩:=zab h2;unfold Blk at h1 hB;rw [hB] at h1;injection h1 with h1;injection h1 with h1 _ _;rw [h1];exact zoW _ _ _ _ _ _ _
theorem Nd.turned (h:Nd Kd w c m most ns dt ah af hit miss) {x:Nat} {t:TypeId} {cs:Array Value} (hB:Blk w x t cs) (hn:NoB cs) (ht:za0 w w' (fun b=>b=x)) (hxc:x≠c) (hx:x∉ns):Nd Kd w' c m most ns dt ah af hit miss:=
 ⟨h.ca.turned ht (fun e=>hxc e.symm),fun g hg=>by obtain ⟨v,h1,_,h2⟩:=h.away hB hn ht hg;exact ⟨v,h1 (fun e=>hx (by rw [←e];exact hg)),h2⟩⟩
theorem Nd.map (h:Nd Kd w c m most ns dt ah af hit miss) (hm:∃ es k,w.heap[m]?=some (.map es k)) (ht:za0 w w' (fun b=>b=m)):Nd Kd w' c m most ns dt ah af hit miss:=by
 obtain ⟨es,k,hm⟩:=hm;have hne:∀ {g t cs},Blk w g t cs→g≠m:=fun hB e=>by
  subst e;unfold Blk at hB;rw [hB] at hm;injection hm with hm;cases hm
 refine ⟨h.ca.turned ht (hne h.ca),fun g hg=>?_⟩
 obtain ⟨v,h1,h2⟩:=h.en g hg;exact ⟨v,h1.turned ht (hne h1),((h2.off fun p hp n h9=>by
  obtain ⟨pb,po,pz⟩:=p;have hp:pb=m:=hp;subst hp;simp [World.cell?,hm] at h9).turned ht (fun b hb e=>hb.2 e)).more fun _ hb=>hb.1⟩
theorem Nd.stAf (h:Nd Kd w c m most ns dt ah af hit miss) (hc:c∉ns) (hg:g∈c::ns) (x:Nat) {K:World→Prop}
 (hk:∀ wy,wy.heap.size=w.heap.size→za0 w wy (fun b=>b=g)→Nd Kd wy c m most ns dt ah (upd af g x) hit miss→K wy):K (w.setCell ⟨g,ofs c g+4,none⟩ (adV c x)):=by
 have ht:=(za0.refl w (fun b=>b=g)).set (g:=g) rfl (ofs c g+4) (adV c x)
 refine hk _ (by simp) ht ?_
 by_cases e:g=c
 · subst e
   refine ⟨?_,fun y hy=>?_⟩
   · rw [ziq,zaL]
     exact h.ca.set_ 6 _
   · obtain ⟨v,h1,_,h2⟩:=h.away h.ca (zg0 _ _ _ _ _ _ _) ht hy
     have hne:y≠g:=fun e=>hc (by rw [←e];exact hy)
     exact ⟨v,by rw [zb0 hne];exact h1 hne,h2⟩
 · have hg':g∈ns:=(List.mem_cons.1 hg).resolve_left e
   obtain ⟨vg,hgB,_⟩:=h.en g hg';have hn:=h.noB hg' hgB;refine ⟨?_,fun y hy=>?_⟩
   · rw [zb0 (fun e'=>e e'.symm)]
     exact h.ca.turned ht (fun e'=>e e'.symm)
   · obtain ⟨v,h1,h3,h2⟩:=h.away hgB hn ht hy
     by_cases hyg:y=g
     · subst hyg
       refine ⟨v,?_,h2⟩;rw [zaL,zeK e];exact h3.set_ 4 _
     · exact ⟨v,by rw [zb0 hyg];exact h1 hyg,h2⟩
theorem Nd.stAh (h:Nd Kd w c m most ns dt ah af hit miss) (hc:c∉ns) (hg:g∈c::ns) (x:Nat) {K:World→Prop}
 (hk:∀ wy,wy.heap.size=w.heap.size→za0 w wy (fun b=>b=g)→Nd Kd wy c m most ns dt (upd ah g x) af hit miss→K wy):K (w.setCell ⟨g,ofs c g+3,none⟩ (adV c x)):=by
 have ht:=(za0.refl w (fun b=>b=g)).set (g:=g) rfl (ofs c g+3) (adV c x)
 refine hk _ (by simp) ht ?_
 by_cases e:g=c
 · subst e
   refine ⟨?_,fun y hy=>?_⟩
   · rw [ziq,zaL]
     exact h.ca.set_ 5 _
   · obtain ⟨v,h1,_,h2⟩:=h.away h.ca (zg0 _ _ _ _ _ _ _) ht hy
     have hne:y≠g:=fun e=>hc (by rw [←e];exact hy)
     exact ⟨v,by rw [zb0 hne];exact h1 hne,h2⟩
 · have hg':g∈ns:=(List.mem_cons.1 hg).resolve_left e
   obtain ⟨vg,hgB,_⟩:=h.en g hg';have hn:=h.noB hg' hgB;refine ⟨?_,fun y hy=>?_⟩
   · rw [zb0 (fun e'=>e e'.symm)]
     exact h.ca.turned ht (fun e'=>e e'.symm)
   · obtain ⟨v,h1,h3,h2⟩:=h.away hgB hn ht hy
     by_cases hyg:y=g
     · subst hyg
       refine ⟨v,?_,h2⟩;rw [zaL,zeK e];exact h3.set_ 3 _
     · exact ⟨v,by rw [zb0 hyg];exact h1 hyg,h2⟩
theorem Nd.at_ (h:Nd Kd w c m most ns dt ah af hit miss) (hg:g∈c::ns):w.cell? ⟨g,ofs c g+3,none⟩=some (adV c (ah g))∧w.cell? ⟨g,ofs c g+4,none⟩=some (adV c (af g))∧(∀ o,w.frozen? ⟨g,o,none⟩=false)∧g<w.heap.size:=by
 by_cases e:g=c
 · subst e
   obtain ⟨q,f⟩:=h.ca.rules;rw [ziq];exact ⟨q 5,q 6,f,h.ca.lt⟩
 · obtain ⟨v,hB,_⟩:=h.en g ((List.mem_cons.1 hg).resolve_left e)
   obtain ⟨q,f⟩:=hB.rules;rw [zeK e];exact ⟨q 3,q 4,f,hB.lt⟩
theorem zl7 {e:Nat} (h:Nd Kd w c m most ns dt ah af hit miss) (hc:c∉ns) (he:e∈ns) (hp:ah e∈c::ns) (hq:af e∈c::ns) (hpe:ah e≠e) (hqe:af e≠e) :
 Calls Tryz.prog 127 #[.pointer (some ⟨e,0,none⟩)] w fun r w'=>r=.returned (.tuple #[])∧Nd Kd w' c m most ns dt (upd ah (af e) (ah e)) (upd af (ah e) (af e)) hit miss∧za0 w w' (fun b=>b∈c::ns)∧w'.heap.size=w.heap.size:=by
 obtain ⟨p,hpp⟩:∃ p,ah e=p:=⟨_,rfl⟩;obtain ⟨q,hqq⟩:∃ q,af e=q:=⟨_,rfl⟩;obtain ⟨v,hB,-⟩:=h.en e he;rw [hpp,hqq] at hB ⊢;rw [hpp] at hp hpe;rw [hqq] at hq hqe;clear hpp hqq;go_enter Tryz.func127,Tryz.ntmps127
 have h0:Nd Kd w.drew c m most ns dt ah af hit miss:=h.step (Below.refl _ _).drew;have t0:za0 w w.drew (fun b=>b∈c::ns):=za0.of (Below.refl _ _).drew
 have s0:w.drew.heap.size=w.heap.size:=rfl;replace hB:Blk w.drew e 89 (enC c (dt e) v p q):=hB;refine wp_region_held_drew (S:=fun W=>∀ o,W.cell? ⟨e,o,none⟩=(enC c (dt e) v p q)[o]?) (by kernel_rfl) hB.rules.1 (fun hHeld=>?_)
 generalize w.drew=w1 at h0 t0 s0 hB hHeld ⊢;refine wT 0 2 ?_;refine wT 1 3 ?_;refine wT 2 4 ?_;refine wT 3 5 ?_;refine wT 4 6 ?_;refine wT 5 7 ?_;refine wT 6 8 ?_;refine wT 7 9 ?_;refine wT 8 10 ?_;refine wT 9 11 ?_;refine wT 10 12 ?_;refine wT 11 13 ?_;refine wT 12 14 ?_;refine wT 13 15 ?_;refine wT 14 16 ?_;refine wT 15 17 ?_;refine wT 16 18 ?_;refine wT 17 19 ?_;refine wRn 18 (fun K hK=>?_)
 obtain ⟨a0,a1,a2,a3⟩:=h0.at_ hp;go_simp;refine h0.stAf hc hp q (K:=K _) ?_;intro w2 s2 t2 h2;replace hB:=hB.turned t2 (show ¬e=p by omega)
 refine hK.out _ _ hB.rules.1 (fun hHeld=>?_)
 clear a0 a1 a2 a3;clear hK K;refine wT 19 20 ?_;refine wT 20 21 ?_;refine wRn 21 (fun K hK=>?_)
 obtain ⟨a0,a1,a2,a3⟩:=h2.at_ hq;go_simp;refine h2.stAh hc hq p (K:=K _) ?_;intro w3 s3 t3 h3;replace hB:=hB.turned t3 (show ¬e=q by omega)
 refine hK.out _ _ hB.rules.1 (fun hHeld=>?_)
 clear a0 a1 a2 a3;clear hK K;try simp only [pu,List.set]
 refine wpAnyH_done (by kernel_rfl) ?_ _
 go_wp2_with fail;go_end0;exact ⟨rfl,h3,(t0.trans (t2.mono fun b hb=>by rw [hb];exact hp)).trans (t3.mono fun b hb=>by rw [hb];exact hq),by rw [s3,s2,s0]⟩
theorem Nd.push (h:Nd Kd w c m most ns dt ah af hit miss) {e p q:Nat} {v:Value} (he:e∉c::ns) (hE:Blk w e 89 (enC c (dt e) v p q)) (hv:IsB w Kd v (dt e).b):Nd Kd w c m most (e::ns) dt (upd ah e p) (upd af e q) hit miss:=by
 have hec:c≠e:=fun x=>he (by rw [x];exact List.mem_cons_self ..)
 refine ⟨by rw [zb0 hec,zb0 hec];exact h.ca,fun g hg=>?_⟩
 by_cases hge:g=e
 · subst hge
   exact ⟨v,by rw [zaL,zaL];exact hE,hv⟩
 · obtain ⟨v',h1,h2⟩:=h.en g ((List.mem_cons.1 hg).resolve_left hge)
   exact ⟨v',by rw [zb0 hge,zb0 hge];exact h1,h2⟩
theorem zha {e:Nat} {v x y:Value} (h:Nd Kd w c m most ns dt ah af hit miss) (hc:c∉ns) (he:e∉c::ns) (hE:Blk w e 89 #[.int .i64 (dt e).lba,.int .i64 (dt e).ver,v,x,y]) (hN:NoB #[.int .i64 (dt e).lba,.int .i64 (dt e).ver,v,x,y]) (hv:IsB w Kd v (dt e).b) (hq:af c∈c::ns) :
 Calls Tryz.prog 128 #[.pointer (some ⟨c,0,none⟩),.pointer (some ⟨e,0,none⟩)] w fun r w'=>r=.returned (.tuple #[])∧Nd Kd w' c m most (e::ns) dt (upd (upd ah e c) (af c) e) (upd (upd af e (af c)) c e) hit miss∧za0 w w' (fun b=>b∈c::e::ns)∧w'.heap.size=w.heap.size:=by
 obtain ⟨q,hqq⟩:∃ q,af c=q:=⟨_,rfl⟩;have hce:c≠e:=fun x=>he (by rw [x];exact List.mem_cons_self ..)
 have hen:e∉ns:=fun x=>he (List.mem_cons_of_mem _ x)
 have hpc:c∈c::e::ns:=List.mem_cons_self ..;have hpe:e∈c::e::ns:=List.mem_cons_of_mem _ (List.mem_cons_self ..);have hc':c∉e::ns:=fun h9=>by
  rcases List.mem_cons.1 h9 with h8 | h8
  · exact hce h8
  · exact hc h8
 have hoe:=zeK (c:=c) (g:=e) (fun x=>hce x.symm)
 have hoc:=ziq (c:=c);have hB:=h.ca;obtain ⟨Av,kv,rfl,-⟩:=zab hv;rw [hqq] at hB hq ⊢;have hqe:q≠e:=fun x=>he (by rw [←x];exact hq)
 have hq':q∈c::e::ns:=by
  rcases List.mem_cons.1 hq with h9 | h9
  · rw [h9];exact hpc
  · exact List.mem_cons_of_mem _ (List.mem_cons_of_mem _ h9)
 go_enter Tryz.func128,Tryz.ntmps128
 have h0:Nd Kd w.drew c m most ns dt ah af hit miss:=h.step (Below.refl _ _).drew;have t0:za0 w w.drew (fun b=>b∈c::e::ns):=za0.of (Below.refl _ _).drew
 have s0:w.drew.heap.size=w.heap.size:=rfl;replace hB:Blk w.drew c 96 (caC most m c (ah c) q hit miss):=hB;replace hE:=hE.drew;replace hv:=hv.drew;have a7:=hB.rules.1 6;go_upto_region 0 with fail;refine wp_region_held_drew (S:=fun W=>W.cell? ⟨c,6,none⟩=some (adV c q)) (by kernel_rfl) a7 (fun hHeld=>?_)
 clear a7;generalize w.drew=w1 at h0 t0 s0 hB hE hv hHeld ⊢;have HN:=Lib.hid hN;clear hN;refine wT 0 4 ?_;refine wT 1 5 ?_;refine wT 2 6 ?_;refine wT 3 7 ?_;refine wT 4 8 ?_;refine wT 5 9 ?_;refine wT 6 10 ?_;refine wT 7 11 ?_;refine wT 8 12 ?_;refine wT 9 13 ?_;refine wT 10 14 ?_;refine wT 11 15 ?_;refine wRn 12 (fun K hK=>?_)
 obtain ⟨a0,a1⟩:=hE.rules;have a2:=hE.lt;go_simp;rw [show (Value.pointer (some ⟨c,2,none⟩))=adV c c by unfold adV;rw [hoc]]
 refine zaR (K:=K _) hE 3 _ ?_;intro w2 s2 t2 hE2;replace hB:=hB.turned t2 hce;refine hK.out _ _ (hB.rules.1 6) (fun hHeld=>?_)
 clear a0 a1 a2;clear hK K;refine wT 13 16 ?_;refine wT 14 17 ?_;refine wRn 15 (fun K hK=>?_)
 obtain ⟨a0,a1⟩:=hE2.rules;have a2:=hE2.lt;go_simp;refine zaR (K:=K _) hE2 4 _ ?_;intro w3 s3 t3 hE3;replace hB:=hB.turned t3 hce;refine hK.out _ _ (hB.rules.1 6) (fun hHeld=>?_)
 clear a0 a1 a2 hHeld;clear hK K;try simp only [pu,List.set]
 refine wpAnyH_done (by kernel_rfl) ?_ _
 clear hB;have t23:za0 w1 w3 (fun b=>b=e):=t2.trans t3
 replace hE3:Blk w3 e 89 (enC c (dt e) (.slice Av (dt e).b.length kv) c q):=hE3;have hv3:=hv.boxed hE HN.out t23;have h3:=(h0.turned hE HN.out t23 (fun x=>hce x.symm) hen).push he hE3 hv3
 clear hE hE2 hE3 hv;go_upto_region 1 with fail;replace h3:Nd Kd w3.drew c m most (e::ns) dt (upd ah e c) (upd af e q) hit miss:=h3.step (Below.refl _ _).drew;replace t3:za0 w1 w3.drew (fun b=>b=e):=t23.trans (za0.of (Below.refl _ _).drew)
 replace s3:w3.drew.heap.size=w2.heap.size:=s3;obtain ⟨v,hB,-⟩:=h3.en e (List.mem_cons_self ..);rw [zaL,zaL] at hB;refine wp_region_held_drew (S:=fun W=>∀ o,W.cell? ⟨e,o,none⟩=(enC c (dt e) v c q)[o]?) (by kernel_rfl) hB.rules.1 (fun hHeld=>?_)
 clear hv3 t23;generalize w3.drew=w3 at h3 t3 s3 hB hHeld ⊢;refine wT 0 18 ?_;refine wT 1 19 ?_;refine wT 2 20 ?_;refine wT 3 21 ?_;refine wT 4 22 ?_;refine wT 5 23 ?_;refine wT 6 24 ?_;refine wT 7 25 ?_;refine wT 8 26 ?_;refine wT 9 27 ?_;refine wT 10 28 ?_;refine wT 11 29 ?_;refine wRn 12 (fun K hK=>?_)
 obtain ⟨a0,a1,a2,a3⟩:=h3.at_ hpc;rw [hoc] at a0 a1;go_simp;rw [show (⟨c,6,none⟩:Addr)=⟨c,ofs c c+4,none⟩ by rw [hoc],show (Value.pointer (some ⟨e,0,none⟩))=adV c e by unfold adV;rw [hoe]]
 refine h3.stAf hc' hpc e (K:=K _) ?_;intro w4 s4 t4 h4;replace hB:=hB.turned t4 (fun x=>hce x.symm)
 refine hK.out _ _ hB.rules.1 (fun hHeld=>?_)
 clear a0 a1 a2 a3;clear hK K;refine wT 13 30 ?_;refine wT 14 31 ?_;refine wRn 15 (fun K hK=>?_)
 obtain ⟨a0,a1,a2,a3⟩:=h4.at_ hq';go_simp;rw [show (Value.pointer (some ⟨e,0,none⟩))=adV c e by unfold adV;rw [hoe]]
 refine h4.stAh hc' hq' e (K:=K _) ?_;intro w5 s5 t5 h5;replace hB:=hB.turned t5 (fun x=>hqe x.symm)
 refine hK.out _ _ hB.rules.1 (fun hHeld=>?_)
 clear a0 a1 a2 a3;clear hK K;try simp only [pu,List.set]
 refine wpAnyH_done (by kernel_rfl) ?_ _
 go_wp2_with fail;go_end0;exact ⟨rfl,h5,(((t0.trans (t3.mono fun b hb=>by rw [hb];exact hpe)).trans (t4.mono fun b hb=>by rw [hb];exact hpc)).trans (t5.mono fun b hb=>by rw [hb];exact hq')),by rw [s5,s4,s3,s2,s0]⟩
theorem Nd.hit_ (h:Nd Kd w c m most ns dt ah af hit miss) (x:Int):Nd Kd (w.setCell ⟨c,7,none⟩ (.int .i64 x)) c m most ns dt ah af x miss∧za0 w (w.setCell ⟨c,7,none⟩ (.int .i64 x)) (fun b=>b=c):=by
 have ht:=(za0.refl w (fun b=>b=c)).set (g:=c) rfl 7 (.int .i64 x)
 refine ⟨⟨h.ca.set_ 7 _,fun g hg=>?_⟩,ht⟩
 obtain ⟨v,h1,_,h2⟩:=h.away h.ca (zg0 _ _ _ _ _ _ _) ht hg;exact ⟨v,h1 (h.ne hg),h2⟩
theorem Nd.miss_ (h:Nd Kd w c m most ns dt ah af hit miss) (x:Int):Nd Kd (w.setCell ⟨c,8,none⟩ (.int .i64 x)) c m most ns dt ah af hit x∧za0 w (w.setCell ⟨c,8,none⟩ (.int .i64 x)) (fun b=>b=c):=by
 have ht:=(za0.refl w (fun b=>b=c)).set (g:=c) rfl 8 (.int .i64 x)
 refine ⟨⟨h.ca.set_ 8 _,fun g hg=>?_⟩,ht⟩
 obtain ⟨v,h1,_,h2⟩:=h.away h.ca (zg0 _ _ _ _ _ _ _) ht hg;exact ⟨v,h1 (h.ne hg),h2⟩
end
end Go.Proofs.YthblkdnijhphhaaGreat
