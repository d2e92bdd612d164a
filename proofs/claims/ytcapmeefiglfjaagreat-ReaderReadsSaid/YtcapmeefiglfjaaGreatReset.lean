/- A part of the proof. -/
import Derived.Test.YtcapmeefiglfjaaGreatJClean
set_option linter.unusedSimpArgs false
set_option maxHeartbeats 16000000
set_option maxRecDepth 100000
namespace Go.Proofs.YtcapmeefiglfjaaGreat
open Go.RowKit
abbrev Kq (K:Nat→Prop) (s r:Nat) (b:Nat):Prop:=(K b∧b<s)∨r<b
structure Q4 (K:Nat→Prop) (w:World) (gd gh rd rh:Nat) (wr:World) (d:Zd) (A:Option Addr) (c:Nat) (h:Ho) (cs:Array Value):Prop where
 below:Below w.heap.size w wr
 ord:w.heap.size≤gd∧gd<gh∧gh<rd∧rd<rh
 dev:Blk wr gd 26 (zdC d A c)
 zl:IsL Rp.zone wr (Kq K w.heap.size rh) (.slice A d.z.length c) d.z
 host:Blk wr gh 37 cs
 n:cs.size=15
 one:cs.toList.all (·.oneCell')=true
 hv:aY wr (Kq K w.heap.size rh) (.agg cs) h
 rd:∃ a0 a1 a2 a3,Blk wr rd 26 #[a0,a1,a2,a3]
 rh:∃ cs',Blk wr rh 37 cs'∧cs'.size=15
section
variable {K:Nat→Prop} {w wr wr':World} {gd gh rd rh:Nat} {d d':Zd} {A A':Option Addr} {c c':Nat} {h h':Ho} {cs cs':Array Value}
theorem Q4.lt (q:Q4 K w gd gh rd rh wr d A c h cs):rh<wr.heap.size:=by obtain ⟨cs',hB,_⟩:=q.rh;exact hB.lt
theorem Q4.step (q:Q4 K w gd gh rd rh wr d A c h cs) (hb:Below wr.heap.size wr wr'):Q4 K w gd gh rd rh wr' d A c h cs:=by
 obtain ⟨a0,a1,a2,a3,hr⟩:=q.rd;obtain ⟨cs',hr',hn⟩:=q.rh;exact ⟨q.below.trans (hb.mono q.below.size),q.ord,q.dev.step hb,q.zl.step hb,q.host.step hb,q.n,q.one,q.hv.step hb,⟨a0,a1,a2,a3,hr.step hb⟩,cs',hr'.step hb,hn⟩
theorem Q4.start (hz:IsL Rp.zone w K (.slice A d.z.length c) d.z) (hv:aY w K (.agg cs) h) (hn:cs.size=15) (h1:cs.toList.all (·.oneCell')=true) (hK:∀ b,K b→b<w.heap.size) {a0 a1 a2 a3:Value} {cr:Array Value} (hcr:cr.size=15) :
 Q4 K w w.heap.size (w.heap.size+1) (w.heap.size+1+1) (w.heap.size+1+1+1) ((((w.alloc (.cells (zdC d A c) 26)).alloc (.cells cs 37)).alloc (.cells #[a0,a1,a2,a3] 26)).alloc (.cells cr 37)) d A c h cs:=by
 have E:=((((((Kn.start w).give aB.list hz).give aB.ho hv).push 26 (zdC d A c)).push 37 cs).push 26 #[a0,a1,a2,a3]).push 37 cr;simp only [zid] at E;exact ⟨E.below,by omega,E.at_ m3,IsL.more (E.get m1) fun b hb=>.inl ⟨hb,hK b hb⟩,E.at_ m2,hn,h1,aY.more (E.get m0) fun b hb=>.inl ⟨hb,hK b hb⟩,⟨a0,a1,a2,a3,E.at_ m1⟩,cr,E.at_ m0,hcr⟩
theorem Q4.start2 (hz:IsL Rp.zone w K (.slice A d.z.length c) d.z) (hv:aY w K (.agg cs) h) (hn:cs.size=15) (h1:cs.toList.all (·.oneCell')=true) (hK:∀ b,K b→b<w.heap.size) (cm:Array Value) (tm:TypeId) {a0 a1 a2 a3:Value} {cr:Array Value} (hcr:cr.size=15) :
 Q4 K w w.heap.size (w.heap.size+1) (w.heap.size+1+1+1) (w.heap.size+1+1+1+1) (((((w.alloc (.cells (zdC d A c) 26)).alloc (.cells cs 37)).alloc (.cells cm tm)).alloc (.cells #[a0,a1,a2,a3] 26)).alloc (.cells cr 37)) d A c h cs ∧
  Blk (((((w.alloc (.cells (zdC d A c) 26)).alloc (.cells cs 37)).alloc (.cells cm tm)).alloc (.cells #[a0,a1,a2,a3] 26)).alloc (.cells cr 37)) (w.heap.size+1+1) tm cm:=by
 have E:=(((((((Kn.start w).give aB.list hz).give aB.ho hv).push 26 (zdC d A c)).push 37 cs).push tm cm).push 26 #[a0,a1,a2,a3]).push 37 cr;simp only [zid] at E;exact ⟨⟨E.below,by omega,E.at_ m4,IsL.more (E.get m1) fun b hb=>.inl ⟨hb,hK b hb⟩,E.at_ m3,hn,h1,aY.more (E.get m0) fun b hb=>.inl ⟨hb,hK b hb⟩,⟨a0,a1,a2,a3,E.at_ m1⟩,cr,E.at_ m0,hcr⟩,E.at_ m2⟩
theorem Q4.far (q:Q4 K w gd gh rd rh wr d A c h cs) {b:Nat} (hb:Kq K w.heap.size rh b):b≠gd∧b≠gh∧b≠rd∧b≠rh:=by
 have:=q.ord;rcases hb with ⟨_,hb⟩ | hb <;> omega
theorem Q4.tRd (q:Q4 K w gd gh rd rh wr d A c h cs) (ht:aA wr wr' (fun b=>b=rd)) {a0 a1 a2 a3:Value} (hB:Blk wr' rd 26 #[a0,a1,a2,a3]):Q4 K w gd gh rd rh wr' d A c h cs:=by
 obtain ⟨cr,hr',hn⟩:=q.rh;have ho:=q.ord;exact ⟨aA.upon q.below ht (by omega) (zic _),q.ord,q.dev.turned ht (by omega),q.zl.turned ht (fun b hb e=>(q.far hb).2.2.1 e),q.host.turned ht (by omega),q.n,q.one,aY.keep q.hv (ht.cells (K:=Kq K w.heap.size rh) fun b hb e=>(q.far hb).2.2.1 e),⟨a0,a1,a2,a3,hB⟩,cr,hr'.turned ht (by omega),hn⟩
theorem Q4.tRh (q:Q4 K w gd gh rd rh wr d A c h cs) (ht:aA wr wr' (fun b=>b=rh)) {cr:Array Value} (hB:Blk wr' rh 37 cr) (hn:cr.size=15):Q4 K w gd gh rd rh wr' d A c h cs:=by
 obtain ⟨a0,a1,a2,a3,hr⟩:=q.rd;have ho:=q.ord;exact ⟨aA.upon q.below ht (by omega) (zic _),q.ord,q.dev.turned ht (by omega),q.zl.turned ht (fun b hb e=>(q.far hb).2.2.2 e),q.host.turned ht (by omega),q.n,q.one,aY.keep q.hv (ht.cells (K:=Kq K w.heap.size rh) fun b hb e=>(q.far hb).2.2.2 e),⟨a0,a1,a2,a3,hr.turned ht (by omega)⟩,cr,hB,hn⟩
theorem Q4.tD (q:Q4 K w gd gh rd rh wr d A c h cs) (ht:aA wr wr' (fun b=>b=gd)) (hB:Blk wr' gd 26 (zdC d' A' c')) (hz:IsL Rp.zone wr (Kq K w.heap.size rh) (.slice A' d'.z.length c') d'.z):Q4 K w gd gh rd rh wr' d' A' c' h cs:=by
 obtain ⟨a0,a1,a2,a3,hr⟩:=q.rd;obtain ⟨cr,hr',hn⟩:=q.rh;have ho:=q.ord;exact ⟨aA.upon q.below ht (by omega) (zic _),q.ord,hB,hz.turned ht (fun b hb e=>(q.far hb).1 e),q.host.turned ht (by omega),q.n,q.one,aY.keep q.hv (ht.cells (K:=Kq K w.heap.size rh) fun b hb e=>(q.far hb).1 e),⟨a0,a1,a2,a3,hr.turned ht (by omega)⟩,cr,hr'.turned ht (by omega),hn⟩
theorem Q4.tH (q:Q4 K w gd gh rd rh wr d A c h cs) (ht:aA wr wr' (fun b=>b=gh)) (hB:Blk wr' gh 37 cs') (hn:cs'.size=15) (h1:cs'.toList.all (·.oneCell')=true) (hv:aY wr (Kq K w.heap.size rh) (.agg cs') h'):Q4 K w gd gh rd rh wr' d A c h' cs':=by
 obtain ⟨a0,a1,a2,a3,hr⟩:=q.rd;obtain ⟨cr,hr',hn'⟩:=q.rh;have ho:=q.ord;exact ⟨aA.upon q.below ht (by omega) (zic _),q.ord,q.dev.turned ht (by omega),q.zl.turned ht (fun b hb e=>(q.far hb).2.1 e),hB,hn,h1,aY.keep hv (ht.cells (K:=Kq K w.heap.size rh) fun b hb e=>(q.far hb).2.1 e),⟨a0,a1,a2,a3,hr.turned ht (by omega)⟩,cr,hr'.turned ht (by omega),hn'⟩
theorem Q4.tDH (q:Q4 K w gd gh rd rh wr d A c h cs) {wy wz:World} (ht:aA wr wy (fun b=>b=gd)) (hB:Blk wy gd 26 (zdC d' A' c')) (hz:IsL Rp.zone wr (Kq K w.heap.size rh) (.slice A' d'.z.length c') d'.z) (ht':aA wy wz (fun b=>b=gh)) (hB':Blk wz gh 37 cs') (hn:cs'.size=15) (h1:cs'.toList.all (·.oneCell')=true) (hv:aY wr (Kq K w.heap.size rh) (.agg cs') h'):Q4 K w gd gh rd rh wz d' A' c' h' cs':=
 (q.tD ht hB hz).tH ht' hB' hn h1 (aY.keep hv (ht.cells (K:=Kq K w.heap.size rh) fun _ hb e=>(q.far hb).1 e))
theorem Q4.kz (q:Q4 K w gd gh rd rh wr d A c h cs) {wx:World} {l:List Zn} {v:Value} (hz:IsL Rp.zone wx (fun b=>(Kq K w.heap.size rh b∧b<wr.heap.size)∨wr.heap.size≤b) v l):IsL Rp.zone wx (Kq K w.heap.size rh) v l:=
 hz.more fun b hb=>by have:=q.lt;rcases hb with hb | hb;exact hb.1;exact .inr (by omega)
theorem Q4.kh (q:Q4 K w gd gh rd rh wr d A c h cs) {wx:World} {l:Ho} {v:Value} (hz:aY wx (fun b=>(Kq K w.heap.size rh b∧b<wr.heap.size)∨wr.heap.size≤b) v l):aY wx (Kq K w.heap.size rh) v l:=
 hz.more fun b hb=>by have:=q.lt;rcases hb with hb | hb;exact hb.1;exact .inr (by omega)
theorem Q4.out (q:Q4 K w gd gh rd rh wr d A c h cs) (v:Value) (hv:v=.agg cs):mG wr (fun b=>K b∨w.heap.size≤b) (.agg (zdC d A c)) v d h:=by
 subst hv;have:=q.ord;exact ⟨⟨A,c,rfl,q.zl.more fun b hb=>by rcases hb with hb | hb;exact .inl hb.1;exact .inr (by omega)⟩,q.hv.more fun b hb=>by rcases hb with hb | hb;exact .inl hb.1;exact .inr (by omega)⟩
end
section
variable {ops:Array Oper} {rest:List Oper} {o:Oper} {a:Act} {w:World} {Q:Exit→Act→World→Prop} {x:Operand} {g:Nat} {t:TypeId} {cs:Array Value}
theorem zh2 (hB:Blk w g t cs) (hn:cs.size=15) (hw:Region.wanted o (yielded ops a.tmps)=true) (ho:o.op=.load 37 x) (hx:a.eval x=.pointer (some ⟨g,0,none⟩))
 (h:wpList Tryz.prog ops Q rest (a.put o.dst (.agg cs)) w):wpList Tryz.prog ops Q (o::rest) a w:=by
 obtain ⟨d,hu,hd⟩:=nG;refine wpList_step fun K hK=>?_
 rw [zij hw];exact wp_load_row _ x ho g hx t cs (0,0) d hB hu (by cases d <;> simp_all [TypeDesc.isRow]) (by rw [kJ,hn]) (hK _ _ h)
end
theorem vG {w:World} {K:Nat→Prop} {h:Ho} {cs:Array Value} (hh:aY w K (.agg cs) h):∃ Am cm,cs[12]?=some (.slice Am h.m.length cm)∧IsL Rp.ex w K (.slice Am h.m.length cm) h.m∧cs[13]?=some (.int .i64 h.ver):=by
 obtain ⟨vo,vs,vb,vl,vm,e,h1,h2,h3,h4,h5⟩:=hh;obtain ⟨Am,cm,rfl,-⟩:=h5.form;injection e with e;rw [e];exact ⟨Am,cm,rfl,h5,rfl⟩
theorem zfH (m:List Ex):m.filter (fun e=>!decide (0≤e.zone))=goneE m:=rfl
theorem zet:∀ args w,(callFunc 180 args).run Tryz.prog w=.ok (.enter 180 args) w:=enters_of Tryz.func180 (by kernel_rfl) rfl
theorem zeC (d:Zd) (Az:Option Addr) (cz:Nat) (h:Ho) (v:Value) (z:Int) (K:Nat→Prop) (w:World) (hz:IsL Rp.zone w K (.slice Az d.z.length cz) d.z) (hv:aY w K v h) (hK:∀ b,K b→b<w.heap.size)
 (hd:okD d) (ho:zdT h) (hs:eB h) (hch:aC 0 (goneE h.m)) (hvr:0≤h.ver∧h.ver≤100000000000) (hver:∀ e∈goneE h.m,e.ver≤9223372036854775807) (hlong:(mW (goneE h.m)).length≤32768) (herr:eY [lV h]=0) :
 Calls Tryz.prog 132 #[.agg (zdC d Az cz),v,.int .i64 z] w fun e w'=>∃ dv vh,e=.returned (.tuple #[dv,vh,.int .i64 (dP d h z).2.2])∧mG w' (fun b=>K b∨w.heap.size≤b) dv vh (dP d h z).1 (dP d h z).2.1∧Below w.heap.size w w':=by
 obtain ⟨hc,rfl,hn15,h115,-⟩:=eJ hv;have Q:=Q4.start (a0:=.int .i64 0) (a1:=.int .i64 0) (a2:=.int .i64 0) (a3:=.slice none 0 0) (cr:=#[.int .i64 0,.slice none 0 0,.slice none 0 0,.bool false,.int .i64 0,.int .i64 0,.int .i64 0,.int .i64 0,.int .i64 0,.int .i64 0,.slice none 0 0,.slice none 0 0,.slice none 0 0,.int .i64 0,.int .i64 0]) hz hv hn15 h115 hK rfl;have hHR:∃ R,dP d h z=R:=⟨_,rfl⟩;obtain ⟨R,hR⟩:=hHR;rw [hR];have HR:=zia hR;clear hz hv hR;go_enter Tryz.func132,Tryz.ntmps132
 go_upto_region 1 with fail;generalize (((w.alloc (.cells (zdC d Az cz) 26)).alloc (.cells hc 37)).alloc (.cells #[.int .i64 0,.int .i64 0,.int .i64 0,.slice none 0 0] 26)).alloc (.cells #[.int .i64 0,.slice none 0 0,.slice none 0 0,.bool false,.int .i64 0,.int .i64 0,.int .i64 0,.int .i64 0,.int .i64 0,.int .i64 0,.slice none 0 0,.slice none 0 0,.slice none 0 0,.int .i64 0,.int .i64 0] 37)=w1 at Q ⊢;obtain ⟨Am,cm,c12,hm,c13⟩:=vG Q.hv;have k12:=(Q.host.cell 12).trans c12;have f2:=Q.host.rules.2;have hml:=hs.m;go_wp2_with fail;refine (jP Am h.m.length cm _ (bB h.m) _ (iH hm) (aU h.m) (by omega)).mono ?_
 rintro x w3 ⟨A3,c3,rfl,own3,hb3⟩;have Q3:=Q.step hb3;go_wp2_with fail;refine (zab 180 zet #[] (fun e=>decide (0≤e.zone)) w1.heap.size c3 A3 h.m w3 own3 (by omega) (fun W e ht _=>zcr e W)).mono ?_
 rintro x w4 ⟨l',hl',rfl,own4,ht4⟩;rw [zfH] at hl';subst hl';have hb4:Below w1.heap.size w1 w4:=hb3.trans (ht4.below (fun k hk=>jW own3 _ hk.symm) hb3.size)
 replace Q:=Q.step hb4;clear Q3 hb3 ht4 own3 c12 c13 k12 f2 hm;by_cases hg:goneE h.m=[]
 case pos=>
  have hRR:R=(d,h,0):=by rw [←HR.out];unfold dP;rw [zij hg]
  rw [hg] at own4 ⊢;clear hg HR own4;go_upto_region 3 with fail;have hb0:Below w4.heap.size w4 w4.drew:=(zif _ _).drew;have Qd:=Q.step hb0;refine wp_region_held_drew (S:=fun W=>(∀ o,W.cell? ⟨w.heap.size,o,none⟩=(zdC d Az cz)[o]?)∧∀ o,W.cell? ⟨w.heap.size+1,o,none⟩=hc[o]?) (by kernel_rfl) ⟨Qd.dev.rules.1,Qd.host.rules.1⟩ (fun hHeld=>?_)
  obtain ⟨a0,a1,a2,a3,hRd⟩:=Qd.rd;obtain ⟨cr,hRh,hnr⟩:=Qd.rh;generalize w4.drew=wx at Qd hRd hRh hHeld ⊢;refine wT 0 19 ?_;refine wT 1 20 ?_ (hy:=by intro w hSw;(try dsimp only at hSw);refine zkF (dU hSw.2 Qd.n rfl rfl) ?_;with_reducible rfl)
  refine wRn 2 (fun K hK=>?_)
  refine fN rfl hRd rfl rfl rfl rfl rfl (by rfl) ?_
  intro wy hsy hty hBy;have Qy:=Qd.tRd hty hBy;refine hK.out _ _ ⟨Qy.dev.rules.1,Qy.host.rules.1⟩ (fun hHeld=>?_)
  clear hK K;try simp only [pu,List.set]
  refine wRn 3 (fun K hK=>?_)
  refine jX rfl (hRh.turned hty (by omega)) hnr rfl rfl rfl Qd.n Qd.one ?_
  intro wz hsz htz hBz;have Qz:=Qy.tRh htz hBz Qd.n;have hBy2:=hBy.turned htz (by omega)
  refine hK.out _ _ ⟨Qz.dev.rules.1,Qz.host.rules.1⟩ (fun hHeld=>?_)
  clear hK K;refine wT 4 8 ?_;refine wpAnyH_done (by kernel_rfl) ?_ _
  go_wp2_with fail;have hl1:=eR hBz Qd.n;have hl0:=cY hBy2 rfl;refine zik (v:=.tuple #[.agg (zdC d Az cz),.agg hc,.int .i64 0]) (by simp [results,Tryz.results132,asAddr,hl0,hl1,Result.andThen]) rfl ?_
  rw [hRR];exact ⟨_,_,rfl,Qz.out _ rfl,Qz.below⟩
 case neg=>
  have hbs:¬32768<(mW (goneE h.m)).length:=by omega
  have hRR:R=((bP d h [lV h]).1,(bP d h [lV h]).2.1,if (bP d h [lV h]).2.2.2=0∧bK (bP d h [lV h]).2.1 z=true then 60 else (bP d h [lV h]).2.2.2):=by rw [←HR.out];unfold dP;rw [zig hg,zig hbs]
  have HRR:=zia hRR;have hgl:(goneE h.m).length≤h.m.length:=zj3 _ _;have hvw:=zbz A3 c3 (goneE h.m) _ w4 (bI own4 rfl (by omega)) hch hver (by omega)
  rw [zig hbs] at hvw;have hrk:(lV h).data=mW (goneE h.m):=rfl;have hrv:lV h=⟨4,0,0,max (h.ver-1) 0,0,0,mW (goneE h.m)⟩:=rfl;have hpos:¬(goneE h.m).length=0:=fun e=>hg (zis e)
  generalize goneE h.m=gn at hvw hrk hrv hpos hlong hgl own4 ⊢;obtain ⟨ln,hln⟩:∃ ln,gn.length=ln:=⟨_,rfl⟩;rw [hln] at hvw hpos hgl own4 ⊢;have hp1:¬(ln:Int)=0:=by omega
  clear hg HR hRR hch hver hln own4 hbs;go_wp2_with fail;refine hvw.mono ?_;rintro x w5 ⟨Ab,cb,bs,rfl,hbs,own5,hb5⟩;rw [zig (by omega)] at hbs
  subst hbs;have Q5:=Q.step hb5;obtain ⟨Am5,cm5,-,-,c13⟩:=vG Q5.hv;have k13:=(Q5.host.cell 13).trans c13;have f13:=Q5.host.rules.2;obtain ⟨qd,fd⟩:=Q5.dev.rules;have wv:IntKind.i64.wrap (h.ver-1)=h.ver-1:=ziI _ (by omega)
  clear hvw hp1 hpos c13 Q;have hok:lZ (lV h):=by
   rw [hrv];intro x hx;simp only [kE,zim,ziJ,zju] at hx;omega
  have hrec:=zfU (w:=w5) (K:=fun b=>w4.heap.size≤b) (A:=Ab) (c:=cb) (r:=lV h) rfl (by rw [hrk];exact IsB.of_own (l:=mW gn) own5 (by omega)) hok
  rw [hrv] at hrec;have Q6:=Q5.step ((zif _ _).alloc (zic _) (.cells #[.int .i64 4,.int .i64 0,.int .i64 0,.int .i64 (max (h.ver-1) 0),.int .i64 0,.int .i64 0,.slice Ab (mW gn).length cb] 117));obtain ⟨r,hr⟩:∃ r,bP d h [lV h]=r:=⟨_,rfl⟩;obtain ⟨w6,hw6⟩:∃ w6,w5.alloc (.cells #[.int .i64 4,.int .i64 0,.int .i64 0,.int .i64 (max (h.ver-1) 0),.int .i64 0,.int .i64 0,.slice Ab (mW gn).length cb] 117)=w6:=⟨_,rfl⟩;rw [hw6] at Q6;have hrec':IsL Rp.rc w6 (fun b=>b=w5.heap.size∨w4.heap.size≤b) (.slice (some ⟨w5.heap.size,0,none⟩) 1 1) [lV h]:=by rw [←hw6,hrv];exact hrec
  have hpu:=kS d Az cz h (.agg hc) (.slice (some ⟨w5.heap.size,0,none⟩) 1 1) [lV h] (fun b=>Kq K w.heap.size (w.heap.size+1+1+1) b∧b<w6.heap.size) _ w6 Q6.zl.zlt (aY.lt Q6.hv) hrec' (fun b hb=>hb.2) hd ho hs (by simp) herr (by simp)
  rw [hr] at HRR hpu;have HPU:=zia hpu;clear hok hrk hrv hr hpu own5 herr hd ho hs hrec hrec';go_wp2_with (refine eG Q5.host Q5.n rfl rfl rfl ?_);clear hw6;refine HPU.out.mono ?_;rintro u w7 ⟨dv,vh,Aa,ca,rfl,-,⟨⟨Az7,cz7,rfl,hz7⟩,hv7⟩,hb7⟩;obtain ⟨hc7,rfl,hn7,h17,-⟩:=eJ hv7;have Q7:=Q6.step hb7;replace hz7:=Q6.kz hz7;replace hv7:=Q6.kh hv7;have q0:=Q7.dev;have q1:=Q7.host;clear HPU qd fd k13 f13 Q5 Q6 hb5 hb7;obtain ⟨e0,he0⟩:∃ e0,r.2.2.2=e0:=⟨_,rfl⟩;rw [he0] at HRR ⊢;clear he0;go_upto_region 8 with (first | (refine eU q0 rfl rfl rfl rfl rfl (by rfl) (by rfl) ?_;intro w8 hs8 ht8 hB8) | (refine jT (q1.turned ht8 (by omega)) Q7.n rfl rfl rfl rfl hn7 h17 ?_;intro w9 hs9 ht9 hB9))
  have Q8:=Q7.tDH (d':=r.1) (h':=r.2.1) ht8 hB8 hz7 ht9 hB9 hn7 h17 hv7;clear q0 q1 hs8 hs9 ht8 ht9 hB8 hB9 hz7 hv7 Q7;obtain ⟨b0,hb0⟩:∃ b0,decide (e0=0∧bK r.2.1 z=true)=b0:=⟨_,rfl⟩;have hR2:R=(r.1,r.2.1,if b0=true then 60 else e0):=by rw [HRR.out,←hb0];simp
  have HB0:=zia hb0;obtain ⟨e9,he9⟩:∃ e9,(if b0=true then 60 else e0)=e9:=⟨_,rfl⟩;rw [he9] at hR2;have HE9:=zia he9;subst hR2;clear he9;clear HRR hb0;go_cut [52] (fun x52 wx=>x52=.bool b0∧Q4 K w w.heap.size (w.heap.size+1) (w.heap.size+1+1) (w.heap.size+1+1+1) wx r.1 Az7 cz7 r.2.1 hc7)
  case first=>
   by_cases h0:e0=0
   case pos=>
    subst h0;have hbw:b0=bK r.2.1 z:=by rw [←HB0.out];cases bK r.2.1 z <;> simp
    have hwr:=lY r.2.1 z (.agg hc7) _ w9 Q8.hv;rw [←hbw] at hwr;clear hbw;go_wp2_with (refine zh2 Q8.host Q8.n (by rfl) rfl rfl ?_)
    refine hwr.mono ?_;rintro u w10 ⟨rfl,hb10⟩;go_wp2_with fail;go_meet;exact ⟨rfl,Q8.step hb10⟩
   case neg=>
    have hbf:b0=false:=by rw [←HB0.out];simp [h0]
    subst hbf;go_wp2_with fail;go_meet;exact ⟨rfl,Q8⟩
  case rest=>
   clear Q8;obtain ⟨rfl,Q8⟩:=hcut;go_upto_if 52 with fail
   go_cut [11] (fun x11 wx=>x11=.int .i64 e9∧wx=wc)
   case first=>
    cases b0 with
    | true=>
      obtain rfl:60=e9:=HE9.out;go_wp2_with fail;go_meet;exact ⟨rfl,rfl⟩
    | false=>
      obtain rfl:e0=e9:=HE9.out;go_wp2_with fail;go_meet;exact ⟨rfl,rfl⟩
   case rest=>
    obtain ⟨rfl,rfl⟩:=hcut;clear HB0;go_upto_region 10 with fail;have hb0:Below wc.heap.size wc wc.drew:=(zif _ _).drew;have Qd:=Q8.step hb0;refine wp_region_held_drew (S:=fun W=>(∀ o,W.cell? ⟨w.heap.size,o,none⟩=(zdC r.1 Az7 cz7)[o]?)∧∀ o,W.cell? ⟨w.heap.size+1,o,none⟩=hc7[o]?) (by kernel_rfl) ⟨Qd.dev.rules.1,Qd.host.rules.1⟩ (fun hHeld=>?_)
    obtain ⟨a0,a1,a2,a3,hRd⟩:=Qd.rd;obtain ⟨cr,hRh,hnr⟩:=Qd.rh;generalize wc.drew=wx at Qd hRd hRh hHeld ⊢;refine wT 0 53 ?_;refine wT 1 54 ?_ (hy:=by intro w hSw;(try dsimp only at hSw);refine zkF (dU hSw.2 Qd.n rfl rfl) ?_;with_reducible rfl)
    refine wT 2 55 ?_;refine wRn 3 (fun K hK=>?_)
    refine fN rfl hRd rfl rfl rfl rfl rfl (by rfl) ?_
    intro wy hsy hty hBy;have Qy:=Qd.tRd hty hBy;refine hK.out _ _ ⟨Qy.dev.rules.1,Qy.host.rules.1⟩ (fun hHeld=>?_)
    clear hK K;try simp only [pu,List.set]
    refine wRn 4 (fun K hK=>?_)
    refine jX rfl (hRh.turned hty (by omega)) hnr rfl rfl rfl Qd.n Qd.one ?_
    intro wz hsz htz hBz;have Qz:=Qy.tRh htz hBz Qd.n;have hBy2:=hBy.turned htz (by omega)
    refine hK.out _ _ ⟨Qz.dev.rules.1,Qz.host.rules.1⟩ (fun hHeld=>?_)
    clear hK K;refine wT 5 8 ?_;refine wpAnyH_done (by kernel_rfl) ?_ _
    go_wp2_with fail;have hl1:=eR hBz Qd.n;have hl0:=cY hBy2 rfl;refine zik (v:=.tuple #[.agg (zdC r.1 Az7 cz7),.agg hc7,.int .i64 e9]) (by simp [results,Tryz.results132,asAddr,hl0,hl1,Result.andThen]) rfl ?_
    exact ⟨_,_,rfl,Qz.out _ rfl,Qz.below⟩
theorem zgv (g:Nat) (eg:∀ args w,(callFunc g args).run Tryz.prog w=.ok (.enter g args) w) (cap:Array Value) (p:Fn→Bool) (A:Option Addr) (c:Nat) (l:List Fn) (K:Nat→Prop) (w:World) (hv:IsL Rp.fn w K (.slice A l.length c) l)
 (hp:∀ W e,Below w.heap.size w W→e∈l→Calls Tryz.prog g (#[.agg #[.int .i64 e.zone,.int .i64 e.host,.int .i64 e.epoch]]++cap) W fun r W'=>r=.returned (.bool (p e))∧Below W.heap.size W W') :
 Calls Tryz.prog 127 #[.slice A l.length c,.func (.func g) #[] cap] w fun r w'=>r=.returned (.int .i64 (if l.findIdx p<l.length then (l.findIdx p:Int) else -1))∧Below w.heap.size w w':=by
 have hlen:=hv.len;obtain ⟨n,hn⟩:∃ n,l.length=n:=⟨_,rfl⟩;rw [hn] at hv hlen ⊢;obtain ⟨q,hq⟩:∃ q,l.findIdx p=q:=⟨_,rfl⟩;rw [hq];have HN:=zia hn;have HQ:=zia hq;obtain ⟨res,hres⟩:∃ res,(if q<n then (q:Int) else -1)=res:=⟨_,rfl⟩;rw [hres];have HRES:=zia hres;clear hn hq hres;have E:=(Kn.start w).give aB.list hv;go_enter Tryz.func127,Tryz.ntmps127
 go_wp2_with fail;go_loopw [5,8] (fun x i wr=>∃ j:Nat,i=.int .i64 j∧j≤n∧Hid (∀ k e,k<j→l[k]?=some e→p e=false)∧Below w.heap.size w wr∧(∃ y,x=y)) (fun _ i _=>n-(intOf i).toNat)
 case atStart=>exact ⟨0,rfl,zir _,zia fun k e hk=>by omega,zif _ _,_,rfl⟩
 case round=>
  obtain ⟨j,rfl,hj,HI,hb,y,rfl⟩:=hrel;have hsz:=hb.size;have F:=E.step hb;by_cases hlt:j<n
  · have hlt':j<l.length:=by rw [HN.out];exact hlt
    have hje:l[j]?=some l[j]:=zib hlt';obtain ⟨ad,rfl,-,c0,c1,c2⟩:=zbl (F.get m0) hje;have hp1:=hp wr _ hb (ziD hlt');have HJ:=zia hje;generalize l[j]=e at HJ c0 c1 c2 hp1;have j1:(j:Int)<(n:Int):=by omega
    have j0:(0:Int)≤(j:Int):=by omega
    clear hje hlt';have hp2:Calls Tryz.prog g (#[.agg #[.int .i64 e.zone,.int .i64 e.host,.int .i64 e.epoch]]++cap) wr fun r W'=>r=.returned (.bool (p e))∧Below wr.heap.size wr W'∧True:=hp1.mono fun _ _ h=>⟨h.1,h.2,trivial⟩
    clear hp1;cases hfr:p e with
    | true=>
      rw [hfr] at hp2;have hpj:q=j:=by
       rw [←HQ.out,zk4 (by rw [HN.out];exact hlt)]
       have hje:=HJ.out;obtain ⟨hlt',e1⟩:=zil.1 hje;refine ⟨by rw [e1];exact hfr,fun k hk=>?_⟩
       have:=HI.out k _ hk (zib (by omega))
       rw [this]
      have hr:res=(j:Int):=by rw [←HRES.out,hpj,zij hlt]
      subst hr;clear hpj hfr;go_wp2_with (go_at_fn g;refine hp2.mono ?_;rintro x w2 ⟨rfl,hb2,-⟩;clear hp2 c0 c1 c2);go_ret;exact ⟨rfl,hb.trans (hb2.mono hsz)⟩
    | false=>
      rw [hfr] at hp2;have HI2:Hid (∀ k e,k<j+1→l[k]?=some e→p e=false):=zia fun k x hk hx=>by
       by_cases hkj:k=j
       · subst hkj
         rw [HJ.out] at hx;injection hx with hx;subst hx;exact hfr
       · exact HI.out k x (by omega) hx
      clear hfr;go_wp2_with (go_at_fn g;refine hp2.mono ?_;rintro x w2 ⟨rfl,hb2,-⟩;clear hp2 c0 c1 c2);go_roundw
      case rel=>exact ⟨j+1,by go_num,by omega,HI2,hb.trans (hb2.mono hsz),_,rfl⟩
      case measure=>simp [intOf];omega
  · have hj':j=n:=by omega
    subst hj';have hr:res = -1:=by
     rw [←HRES.out];refine zig fun hq=>?_
     rw [←HQ.out,←HN.out] at hq;have h2:p (l[l.findIdx p])=true:=zjc;have h3:=HI.out _ _ (by rw [←HN.out];exact hq) (zib hq)
     rw [h2] at h3;cases h3
    subst hr;go_wp2;go_ret;exact ⟨rfl,hb⟩
theorem oM (e:Int) (w:World):Calls Tryz.prog 126 #[.int .i64 e] w fun x w'=>∃ dv vh,x=.returned (.tuple #[dv,vh,.int .i64 e])∧mG w' (fun _=>False) dv vh cQ fY∧Below w.heap.size w w':=by
 have E:=((Kn.start w).push 26 #[.int .i64 0,.int .i64 0,.int .i64 0,.slice none 0 0]).push 37 #[.int .i64 0,.slice none 0 0,.slice none 0 0,.bool false,.int .i64 0,.int .i64 0,.int .i64 0,.int .i64 0,.int .i64 0,.int .i64 0,.slice none 0 0,.slice none 0 0,.slice none 0 0,.int .i64 0,.int .i64 0];rw [zid] at E;go_enter Tryz.func126,Tryz.ntmps126
 go_upto_region 1 with fail;generalize (w.alloc (.cells #[.int .i64 0,.int .i64 0,.int .i64 0,.slice none 0 0] 26)).alloc (.cells #[.int .i64 0,.slice none 0 0,.slice none 0 0,.bool false,.int .i64 0,.int .i64 0,.int .i64 0,.int .i64 0,.int .i64 0,.int .i64 0,.slice none 0 0,.slice none 0 0,.slice none 0 0,.int .i64 0,.int .i64 0] 37)=w1 at E ⊢;have q0:=E.at_ m1;have q1:=E.at_ m0;have hb1:=E.below;clear E;go_wp2_with (first | (refine eU q0 rfl rfl rfl rfl rfl (by rfl) (by rfl) ?_;intro w8 hs8 ht8 hB8) | (refine jT (q1.turned ht8 (by omega)) rfl rfl rfl rfl rfl rfl rfl ?_;intro w9 hs9 ht9 hB9))
 have hl1:=eR hB9 rfl;have hl0:=cY (hB8.turned ht9 (by omega)) rfl
 have hb9:=aA.upon (aA.upon hb1 ht8 (zic _) (zic _)) ht9 (by omega) (zic _)
 refine zik (v:=.tuple #[.agg #[.int .i64 0,.int .i64 0,.int .i64 0,.slice none 0 0],.agg #[.int .i64 0,.slice none 0 0,.slice none 0 0,.bool false,.int .i64 0,.int .i64 0,.int .i64 0,.int .i64 0,.int .i64 0,.int .i64 0,.slice none 0 0,.slice none 0 0,.slice none 0 0,.int .i64 0,.int .i64 0],.int .i64 e]) (by simp [results,Tryz.results126,asAddr,hl0,hl1,Result.andThen]) rfl ?_
 exact ⟨_,_,rfl,⟨⟨none,0,rfl,IsL.nil_ _ _⟩,⟨_,_,_,_,_,rfl,IsL.nil_ _ _,IsL.nil_ _ _,IsB.nil_ _ _,IsL.nil_ _ _,IsL.nil_ _ _⟩⟩,hb9⟩
theorem zfo {w:World} {K:Nat→Prop} {h:Ho} {cs:Array Value} (hh:aY w K (.agg cs) h):∃ Ao co,cs[1]?=some (.slice Ao h.own.length co)∧IsL Rp.fn w K (.slice Ao h.own.length co) h.own:=by
 obtain ⟨vo,vs,vb,vl,vm,e,h1,h2,h3,h4,h5⟩:=hh;obtain ⟨Ao,co,rfl,-⟩:=h1.form;injection e with e;rw [e];exact ⟨Ao,co,rfl,h1⟩
theorem yJ (f:Fn) (z:Int) (g:Nat) (w:World) (hz:Blk w g 3 #[.int .i64 z]):Calls Tryz.prog 128 #[.agg #[.int .i64 f.zone,.int .i64 f.host,.int .i64 f.epoch],.pointer (some ⟨g,0,none⟩)] w fun x w'=>x=.returned (.bool (decide (f.zone=z)))∧Below w.heap.size w w':=by
 have E:=((Kn.start w).know hz).push 138 #[.int .i64 f.zone,.int .i64 f.host,.int .i64 f.epoch];obtain ⟨q0,f0,t0⟩:=E.rules m0;obtain ⟨q1,f1,t1⟩:=E.rules m1;obtain ⟨r,hr⟩:∃ r,decide (f.zone=z)=r:=⟨_,rfl⟩;rw [hr];have hr2:(f.zone == z)=r:=by rw [←hr];by_cases h:f.zone=z <;> simp [h]
 clear hr;go_enter Tryz.func128,Tryz.ntmps128
 go_wp2;go_ret;exact ⟨rfl,E.below⟩
theorem zdo:∀ args w,(callFunc 128 args).run Tryz.prog w=.ok (.enter 128 args) w:=enters_of Tryz.func128 (by kernel_rfl) rfl
theorem zaJ (f:Value) (w:World):Calls Tryz.prog 130 #[.slice none 0 0,f] w fun x w'=>x=.returned (.bool false)∧w'=w:=by
 have hix:∀ w,Calls Tryz.prog 178 #[.slice none 0 0,f] w fun x w'=>x=.returned (.int .i64 (-1))∧w'=w:=fun w=>by
  go_enter Tryz.func178,Tryz.ntmps178
  go_wp2_with fail;go_loopw [5,8] (fun x i wr=>i=.int .i64 0∧wr=w∧∃ y,x=y) (fun _ _ _=>0)
  case atStart=>exact ⟨rfl,rfl,_,rfl⟩
  case round=>
   obtain ⟨rfl,rfl,y,rfl⟩:=hrel;go_wp2_with fail;go_ret;exact ⟨rfl,rfl⟩
 go_enter Tryz.func130,Tryz.ntmps130
 go_wp2_with fail;refine (hix _).mono ?_;rintro x w1 ⟨rfl,rfl⟩;go_wp2_with fail;go_ret;exact ⟨rfl,rfl⟩
theorem zbv {n:Nat} {M B:Int} {F:Nat→Int} {S:List Sp} {d:Zd} {h:Ho} (hi:eZ n M F B S d h) (hS:S.length≤1000000) (hv:h.ver≤900000) (hsq:h.seq≤900000) (z:Int) (hz:0≤z∧z<n) (Az:Option Addr) (cz:Nat) (v:Value) (K:Nat→Prop) (w:World) (hzl:IsL Rp.zone w K (.slice Az d.z.length cz) d.z) (hho:aY w K v h) (hK:∀ b,K b→b<w.heap.size) :
 Calls Tryz.prog 60 #[.agg (zdC d Az cz),v,.int .i64 z,.slice none 0 0] w fun e w'=>∃ dv vh,e=.returned (.tuple #[dv,vh,.int .i64 (eD d h z).2.2])∧mG w' (fun b=>K b∨w.heap.size≤b) dv vh (eD d h z).1 (eD d h z).2.1∧Below w.heap.size w w':=by
 obtain ⟨hc,rfl,hn15,h115,-⟩:=eJ hho;obtain ⟨Q,hZ⟩:=Q4.start2 (a0:=.int .i64 0) (a1:=.int .i64 0) (a2:=.int .i64 0) (a3:=.slice none 0 0) (cr:=#[.int .i64 0,.slice none 0 0,.slice none 0 0,.bool false,.int .i64 0,.int .i64 0,.int .i64 0,.int .i64 0,.int .i64 0,.int .i64 0,.slice none 0 0,.slice none 0 0,.slice none 0 0,.int .i64 0,.int .i64 0]) hzl hho hn15 h115 hK #[.int .i64 z] 3 rfl;obtain ⟨a1,a2,a3⟩:=vW hi hz;obtain ⟨R,hR⟩:∃ R,eD d h z=R:=⟨_,rfl⟩;rw [hR];have HR:=zia hR;have HO:=zia a3;have HA2:=zia a2;have HA1:=zia a1;have hn:=hi.n64;clear hzl hho hR a1 a2 a3;go_enter Tryz.func60,Tryz.ntmps60
 go_upto_region 1 with fail;generalize ((((w.alloc (.cells (zdC d Az cz) 26)).alloc (.cells hc 37)).alloc (.cells #[.int .i64 z] 3)).alloc (.cells #[.int .i64 0,.int .i64 0,.int .i64 0,.slice none 0 0] 26)).alloc (.cells #[.int .i64 0,.slice none 0 0,.slice none 0 0,.bool false,.int .i64 0,.int .i64 0,.int .i64 0,.int .i64 0,.int .i64 0,.int .i64 0,.slice none 0 0,.slice none 0 0,.slice none 0 0,.int .i64 0,.int .i64 0] 37)=w1 at Q hZ ⊢;obtain ⟨Ao,co,c1,hown⟩:=zfo Q.hv;have k1:=(Q.host.cell 1).trans c1;have f1:=Q.host.rules.2;have hix:=zgv 128 zdo #[.pointer (some ⟨w.heap.size+1+1,0,none⟩)] (fun f=>decide (f.zone=z)) Ao co h.own _ w1 hown (fun W e hb _=>yJ e z _ W (hZ.step hb))
 have hfi:h.own.findIdx (fun f=>decide (f.zone=z))=z.toNat:=HA1.out
 have hlo:z.toNat<h.own.length:=by have:=HA2.out;rw [HA1.out] at this;exact this
 rw [hfi,zij hlo,show ((z.toNat:Nat):Int)=z by omega] at hix
 obtain ⟨lo,hlo9⟩:∃ lo,h.own.length=lo:=⟨_,rfl⟩;rw [hlo9] at hix k1 c1 hlo;have HLO:=zia hlo9;have z0:¬z<0:=by omega
 have hvO:=Q.hv;clear hfi hown c1 hlo9;go_wp2_with fail;refine hix.mono ?_;rintro x w2 ⟨rfl,hb2⟩;have Q2:=Q.step hb2;have hZ2:=hZ.step hb2;obtain ⟨qz,fz⟩:=hZ2.rules;have tz:=hZ2.lt;clear hix k1 f1 Q hZ hb2 hvO;go_wp2_with (refine eG Q2.host Q2.n rfl rfl rfl ?_);refine (lY h z _ _ _ Q2.hv).mono ?_;rintro x w3 ⟨rfl,hb3⟩;have Q3:=Q2.step hb3;have hZ3:=hZ2.step hb3;clear qz fz tz Q2 hZ2 hb3;cases hw1:bK h z with
 | true=>
   have hRR:R=(cQ,fY,60):=by rw [←HR.out];unfold eD;rw [zig (fun e=>e HA2.out),zij (.inl hw1)]
   clear HR;go_wp2_with fail;refine (oM 60 _).mono ?_;rintro x wf ⟨dv,vh,rfl,⟨⟨A9,c9,rfl,hz9⟩,hh9⟩,hbf⟩;obtain ⟨hc9,rfl,hn9,h19,-⟩:=eJ hh9;have Qf:=Q3.step hbf;obtain ⟨a0,a1,a2,a3,hRd⟩:=Qf.rd;obtain ⟨cr,hRh,hnr⟩:=Qf.rh;have hbw:=Qf.below;go_wp2_with (first | (refine eU hRd rfl rfl rfl rfl rfl (by rfl) (by rfl) ?_;intro w8 hs8 ht8 hB8) | (refine jT (hRh.turned ht8 (by omega)) hnr rfl rfl rfl rfl hn9 h19 ?_;intro w9 hs9 ht9 hB9))
   have hl1:=eR hB9 hn9;have hl0:=cY (hB8.turned ht9 (by omega)) rfl
   have hb9:=aA.upon (aA.upon hbw ht8 (by omega) (zic _)) ht9 (by omega) (zic _)
   refine zik (v:=.tuple #[.agg #[.int .i64 cQ.cap,.int .i64 cQ.opn,.int .i64 cQ.act,.slice A9 cQ.z.length c9],.agg hc9,.int .i64 60]) (by simp [results,Tryz.results60,asAddr,hl0,hl1,Result.andThen]) rfl ?_
   rw [hRR];exact ⟨_,_,rfl,⟨⟨A9,c9,rfl,((hz9.turned ht8 (fun b hb=>hb.elim)).turned ht9 (fun b hb=>hb.elim)).more fun b hb=>hb.elim⟩,aY.more (aY.keep (aY.keep hh9 (ht8.cells (K:=fun _=>False) fun _ hb=>hb.elim)) (ht9.cells (K:=fun _=>False) fun _ hb=>hb.elim)) fun b hb=>hb.elim⟩,hb9⟩
 | false=>
   obtain ⟨qz,fz⟩:=hZ3.rules;have tz:=hZ3.lt;obtain ⟨Am,cm,c12,hm,-⟩:=vG Q3.hv;have k12:=(Q3.host.cell 12).trans c12;have f12:=Q3.host.rules.2;have hml:h.m.length≤3518437208883:=by have:=hi.len9;have:=hi.bnd;omega
   have hne:=zbW (.slice Am h.m.length cm) h.m _ z w3 hm hml;clear c12 hm hml;go_wp2_with fail;refine hne.mono ?_;rintro x w4 ⟨rfl,hb4⟩;have Q4':=Q3.step hb4;have hZ4:=hZ3.step hb4;clear hne qz fz tz k12 f12 Q3 hZ3 hb4;cases hw2:iU h.m z with
   | true=>
     have hRR:R=(cQ,fY,60):=by rw [←HR.out];unfold eD;rw [zig (fun e=>e HA2.out),zij (.inr hw2)]
     clear HR;go_wp2_with fail;refine (oM 60 _).mono ?_;rintro x wf ⟨dv,vh,rfl,⟨⟨A9,c9,rfl,hz9⟩,hh9⟩,hbf⟩;obtain ⟨hc9,rfl,hn9,h19,-⟩:=eJ hh9;have Qf:=Q4'.step hbf;obtain ⟨a0,a1,a2,a3,hRd⟩:=Qf.rd;obtain ⟨cr,hRh,hnr⟩:=Qf.rh;have hbw:=Qf.below;go_wp2_with (first | (refine eU hRd rfl rfl rfl rfl rfl (by rfl) (by rfl) ?_;intro w8 hs8 ht8 hB8) | (refine jT (hRh.turned ht8 (by omega)) hnr rfl rfl rfl rfl hn9 h19 ?_;intro w9 hs9 ht9 hB9))
     have hl1:=eR hB9 hn9;have hl0:=cY (hB8.turned ht9 (by omega)) rfl
     have hb9:=aA.upon (aA.upon hbw ht8 (by omega) (zic _)) ht9 (by omega) (zic _)
     refine zik (v:=.tuple #[.agg #[.int .i64 cQ.cap,.int .i64 cQ.opn,.int .i64 cQ.act,.slice A9 cQ.z.length c9],.agg hc9,.int .i64 60]) (by simp [results,Tryz.results60,asAddr,hl0,hl1,Result.andThen]) rfl ?_
     rw [hRR];exact ⟨_,_,rfl,⟨⟨A9,c9,rfl,((hz9.turned ht8 (fun b hb=>hb.elim)).turned ht9 (fun b hb=>hb.elim)).more fun b hb=>hb.elim⟩,aY.more (aY.keep (aY.keep hh9 (ht8.cells (K:=fun _=>False) fun _ hb=>hb.elim)) (ht9.cells (K:=fun _=>False) fun _ hb=>hb.elim)) fun b hb=>hb.elim⟩,hb9⟩
   | false=>
     go_wp2_with fail;refine (zaJ _ _).mono ?_;rintro x w5 ⟨rfl,rfl⟩;have hget:h.own[z.toNat]?=some ⟨z,1,F z.toNat⟩:=by
      have h1:=HO.out;rw [HA1.out,ziF,zib (by rw [HLO.out];exact hlo)] at h1
      rw [zib (by rw [HLO.out];exact hlo)]
      exact zjj some h1
     obtain ⟨Ao5,co5,c1,hown⟩:=zfo Q4'.hv;obtain ⟨ad,rfl,-,-,-,ce⟩:=zbl hown hget;have k1:=(Q4'.host.cell 1).trans c1;have hzt:((z.toNat:Nat):Int)=z:=by omega
     rw [HLO.out] at k1;have f1:=Q4'.host.rules.2;have z1:z<(lo:Int):=by omega
     clear hget c1 hown;dsimp only at ce;obtain ⟨qz,fz⟩:=hZ4.rules;have tz:=hZ4.lt;have hgo:=hi.gone hv;have hkp:=zeC d Az cz h (.agg hc) z (fun b=>Kq K w.heap.size (w.heap.size+1+1+1+1) b∧b<w5.heap.size) w5 Q4'.zl.zlt (aY.lt Q4'.hv) (fun b hb=>hb.2) hi.okd (hi.okho (by omega)) (hi.small hS) hgo.1 ⟨hi.ver,by omega⟩ hgo.2.2.2 (by omega) (hi.rec4 hv).2
     have hkj:=hi.kept (z:=z) hv hsq hw1;obtain ⟨r,hr⟩:∃ r,dP d h z=r:=⟨_,rfl⟩;rw [hr] at hkp hkj;have HR2:Hid (R=if r.2.2≠0 then (cQ,fY,r.2.2) else if (doZ r.1 ⟨3,z,F z.toNat,0,0,[]⟩).2.e≠0 then (cQ,fY,(doZ r.1 ⟨3,z,F z.toNat,0,0,[]⟩).2.e) else ((doZ r.1 ⟨3,z,F z.toNat,0,0,[]⟩).1,r.2.1,0)):=zia (by
      rw [←HR.out];unfold eD zgY;rw [zig (fun e=>e HA2.out),zig (by rw [hw1,hw2];simp),HO.out,hr])
     have HKJ:=zia hkj;obtain ⟨qd,fd⟩:=Q4'.dev.rules;clear hgo hr hkj HR hw1 hw2;go_wp2_with (refine eG Q4'.host Q4'.n rfl rfl rfl ?_);refine hkp.mono ?_;rintro x w6 ⟨dv,vh,rfl,⟨⟨Az6,cz6,rfl,hz6⟩,hv6⟩,hb6⟩;obtain ⟨hc6,rfl,hn6,h16,-⟩:=eJ hv6;have Q6:=Q4'.step hb6;have hZ6:=hZ4.step hb6;replace hz6:=Q4'.kz hz6;replace hv6:=Q4'.kh hv6;have q0:=Q6.dev;have q1:=Q6.host;clear hkp qz fz tz k1 f1 ce Q4' hZ4 hb6 z1 qd fd;obtain ⟨e0,he0⟩:∃ e0,r.2.2=e0:=⟨_,rfl⟩;rw [he0];have HE0:=zia he0;clear he0;go_upto_region 11 with (first | (refine eU q0 rfl rfl rfl rfl rfl (by rfl) (by rfl) ?_;intro w8 hs8 ht8 hB8) | (refine jT (q1.turned ht8 (by omega)) Q6.n rfl rfl rfl rfl hn6 h16 ?_;intro w9 hs9 ht9 hB9))
     have Q8:=Q6.tDH (d':=r.1) (h':=r.2.1) ht8 hB8 hz6 ht9 hB9 hn6 h16 hv6;have hZ8:=(hZ6.turned ht8 (by omega)).turned ht9 (by omega)
     clear q0 q1 hs8 hs9 ht8 ht9 hB8 hB9 hz6 hv6 Q6 hZ6;by_cases h0:e0=0
     case neg=>
      have hRR:R=(cQ,fY,e0):=by rw [HR2.out,HE0.out,zij h0]
      have h0b:(e0 != 0)=true:=by simpa using h0
      go_wp2_with fail;refine (oM e0 _).mono ?_;rintro x wf ⟨dv,vh,rfl,⟨⟨A9,c9,rfl,hz9⟩,hh9⟩,hbf⟩;obtain ⟨hc9,rfl,hn9,h19,-⟩:=eJ hh9;have Qf:=Q8.step hbf;obtain ⟨a0,a1,a2,a3,hRd⟩:=Qf.rd;obtain ⟨cr,hRh,hnr⟩:=Qf.rh;have hbw:=Qf.below;go_wp2_with (first | (refine eU hRd rfl rfl rfl rfl rfl (by rfl) (by rfl) ?_;intro w8 hs8 ht8 hB8) | (refine jT (hRh.turned ht8 (by omega)) hnr rfl rfl rfl rfl hn9 h19 ?_;intro w9 hs9 ht9 hB9))
      have hl1:=eR hB9 hn9;have hl0:=cY (hB8.turned ht9 (by omega)) rfl
      have hb9:=aA.upon (aA.upon hbw ht8 (by omega) (zic _)) ht9 (by omega) (zic _)
      refine zik (v:=.tuple #[.agg #[.int .i64 cQ.cap,.int .i64 cQ.opn,.int .i64 cQ.act,.slice A9 cQ.z.length c9],.agg hc9,.int .i64 e0]) (by simp [results,Tryz.results60,asAddr,hl0,hl1,Result.andThen]) rfl ?_
      rw [hRR];exact ⟨_,_,rfl,⟨⟨A9,c9,rfl,((hz9.turned ht8 (fun b hb=>hb.elim)).turned ht9 (fun b hb=>hb.elim)).more fun b hb=>hb.elim⟩,aY.more (aY.keep (aY.keep hh9 (ht8.cells (K:=fun _=>False) fun _ hb=>hb.elim)) (ht9.cells (K:=fun _=>False) fun _ hb=>hb.elim)) fun b hb=>hb.elim⟩,hb9⟩
     case pos=>
      subst h0;obtain ⟨j1,-⟩:=HKJ.out HE0.out;have hkz:z.toNat<r.1.z.length:=by rw [j1.len];omega
      have hX:=qI j1.ok (getD_some hkz);rw [j1.fe _ (by omega),←j1.dev,show ((z.toNat:Nat):Int)=z by omega] at hX
      obtain ⟨X,hXe⟩:∃ X,doZ r.1 ⟨3,z,F z.toNat,0,0,[]⟩=X:=⟨_,rfl⟩;have hX2:X.2=dn0:=by rw [←hXe,hX]
      have hRR:R=(X.1,r.2.1,0):=by rw [HR2.out,HE0.out,zig (by simp),hXe,hX2,zig (by simp [dn0])]
      have hdo:=zca r.1 ⟨3,z,F z.toNat,0,0,[]⟩ Az6 cz6 none 0 (fun b=>Kq K w.heap.size (w.heap.size+1+1+1+1) b∧b<w9.heap.size) w9 Q8.zl.zlt (fun b hb=>hb.2) (IsB.nil_ _ _) (by have:=j1.len;omega) (by show (0:Int)≤_;decide)
      rw [hXe] at hdo;have HRR:=zia hRR;obtain ⟨qd,fd⟩:=Q8.dev.rules;obtain ⟨qz,fz⟩:=hZ8.rules;have tz:=hZ8.lt;clear hX hXe hRR j1 HKJ HR2 hkz;go_wp2_with fail;refine hdo.mono ?_;rintro x w10 ⟨v1,v2,rfl,⟨A7,c7,rfl,hz7,-⟩,⟨A8,c8,rfl,-⟩,hb10⟩;rw [hX2];have Q9:=Q8.step hb10;have hzx:=Q8.kz hz7;clear hdo qd fd qz fz tz hZ8 Q8 hb10 hz7 hX2;go_upto_region 16 with fail;have hBx:=(Blk.new w10 26 (zdC X.1 A7 c7) rfl).alloc (.cells #[.int .i64 dn0.e,.int .i64 dn0.at_,.slice A8 dn0.data.length c8] 76);have hb11:Below w10.heap.size w10 ((w10.alloc (.cells (zdC X.1 A7 c7) 26)).alloc (.cells #[.int .i64 dn0.e,.int .i64 dn0.at_,.slice A8 dn0.data.length c8] 76)):=(zBA).alloc (by rw [zid];omega) _
      have hg9:=Q9.lt;replace hzx:=hzx.step hb11;replace Q9:=Q9.step hb11;obtain ⟨gx,hgx⟩:∃ gx,w10.heap.size=gx:=⟨_,rfl⟩;generalize (w10.alloc (.cells (zdC X.1 A7 c7) 26)).alloc (.cells #[.int .i64 dn0.e,.int .i64 dn0.at_,.slice A8 dn0.data.length c8] 76)=w11 at Q9 hBx hzx ⊢;rw [hgx] at hBx hg9 ⊢;clear hb11 hgx;have hb0:Below w11.heap.size w11 w11.drew:=(zif _ _).drew;have Qd:=Q9.step hb0;replace hBx:=hBx.step hb0;replace hzx:=hzx.step hb0;refine wp_region_held_drew (S:=fun W=>(∀ o,W.cell? ⟨gx,o,none⟩=(zdC X.1 A7 c7)[o]?)∧∀ o,W.cell? ⟨w.heap.size+1,o,none⟩=hc6[o]?) (by kernel_rfl) ⟨hBx.rules.1,Qd.host.rules.1⟩ (fun hHeld=>?_)
      obtain ⟨a0,a1,a2,a3,hRd⟩:=Qd.rd;obtain ⟨cr,hRh,hnr⟩:=Qd.rh;generalize w11.drew=wx at Qd hRd hRh hBx hzx hHeld ⊢;refine wT 0 85 ?_;refine wT 1 86 ?_ (hy:=by intro w hSw;(try dsimp only at hSw);refine zkF (dU hSw.2 Qd.n rfl rfl) ?_;with_reducible rfl)
      refine wRn 2 (fun K hK=>?_)
      refine fN rfl hRd rfl rfl rfl rfl rfl (by rfl) ?_
      intro wy hsy hty hBy;have Qy:=Qd.tRd hty hBy;have hBx2:=hBx.turned hty (by omega)
      have hzx2:=hzx.turned hty (fun b hb e=>(Qd.far hb).2.2.1 e)
      refine hK.out _ _ ⟨hBx2.rules.1,Qy.host.rules.1⟩ (fun hHeld=>?_)
      clear hK K;try simp only [pu,List.set]
      refine wRn 3 (fun K hK=>?_)
      refine jX rfl (hRh.turned hty (by omega)) hnr rfl rfl rfl Qd.n Qd.one ?_
      intro wz hsz htz hBz;have Qz:=Qy.tRh htz hBz Qd.n;have hBy2:=hBy.turned htz (by omega)
      have hBx3:=hBx2.turned htz (by omega)
      have hzx3:=hzx2.turned htz (fun b hb e=>(Qd.far hb).2.2.2 e)
      refine hK.out _ _ ⟨hBx3.rules.1,Qz.host.rules.1⟩ (fun hHeld=>?_)
      clear hK K;refine wT 4 10 ?_;refine wpAnyH_done (by kernel_rfl) ?_ _
      go_wp2_with fail;have hl1:=eR hBz Qd.n;have hl0:=cY hBy2 rfl;refine zik (v:=.tuple #[.agg (zdC X.1 A7 c7),.agg hc6,.int .i64 0]) (by simp [results,Tryz.results60,asAddr,hl0,hl1,Result.andThen]) rfl ?_
      rw [HRR.out];exact ⟨_,_,rfl,⟨⟨A7,c7,rfl,hzx3.more fun b hb=>by rcases hb with hb | hb;exact .inl hb.1;exact .inr (by omega)⟩,(Qz.out _ rfl).2⟩,Qz.below⟩
