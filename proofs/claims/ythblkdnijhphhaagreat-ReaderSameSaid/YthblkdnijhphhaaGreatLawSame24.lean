/- A part of the proof. -/
import Derived.Test.YthblkdnijhphhaaGreatRun18
import Derived.Test.YthblkdnijhphhaaGreatLive24j
set_option linter.unusedSimpArgs false
set_option maxHeartbeats 16000000
set_option maxRecDepth 100000
namespace Go.Proofs.YthblkdnijhphhaaGreat
open Go.RowKit
abbrev J24 (d:Zd) (h:Ho):Prop:=JInv 4 400 f24 60 s60 d h
structure zh2 (d:Zd) (h:Ho) (d':Zd) (h':Ho):Prop where
 j:J24 d' h'
 on:zdt d.z h.m h.ver d'.z h'.m h'.ver
 ver:h'.ver≤h.ver+1
 seq:h'.seq≤h.seq+61
def oqN (o:Oq):Int:=1+(o.n.tmod 4+4) % 4
def oqL (o:Oq):Int:=(o.lba.tmod 56+56) % 56
theorem zpa (o:Oq):1≤oqN o∧oqN o≤4∧0≤oqL o∧oqL o<56:=by
 unfold oqN oqL;omega
theorem zdt.of_commit {d d':Zd} {h h':Ho} {r:Rc} (hv:h'.ver=h.ver+1) (hb:∀ b,(covR r b→∃ t,see h'.m b=some t∧t.1=h.ver∧(t.2.1<0↔r.kind=2)∧zaa d'.z h'.m b=zie r b)∧(¬covR r b→see h'.m b=see h.m b∧zaa d'.z h'.m b=zaa d.z h.m b)) :
 zdt d.z h.m h.ver d'.z h'.m h'.ver:=⟨by omega,fun b=>by
 by_cases hc:covR r b
 · obtain ⟨t,h1,h2,_⟩:=(hb b).1 hc
   exact .inr ⟨t,h1,by omega⟩
 · obtain ⟨h1,h2⟩:=(hb b).2 hc
   exact .inl ⟨by rw [h1],h2⟩⟩
theorem zo5 {L N:Nat} {by_:UInt8} (h:1≤N∧N≤4∧L<56):zbk s60 ⟨1,L,N,List.replicate (16*N) by_⟩=0∧∀ v:Int,0≤v∧v≤1000000→zdN 60 (recI v ⟨1,L,N,List.replicate (16*N) by_⟩):=by
 have hm:=zh8 (a:=L) (m:=N) (by omega) (by omega) (by omega)
 refine ⟨?_,fun v hv=>⟨.inl rfl,⟨by show (0:Int)≤L;omega,by show (1:Int)≤N;omega,by show (L:Int)+N≤60;omega⟩,by show (N:Int)≤256;omega,hv,⟨rfl,rfl⟩,fun _=>by show ((List.replicate (16*N) by_).length:Int)=16*N;rw [List.length_replicate];omega,fun h=>by have h9:(1:Int)=2:=h;omega⟩⟩
 unfold zbk;rw [if_neg (by rw [Decidable.not_not];exact ⟨⟨by show (0:Int)≤L;omega,by show (1:Int)≤N;omega,by show (N:Int)≤256;omega,by show (L:Int)≤1099511627776-N;omega⟩,by show ((List.replicate (16*N) by_).length:Int)=16*N;rw [List.length_replicate];omega⟩),if_pos hm]
theorem zov {L N:Nat} (h:1≤N∧N≤4∧L<56):zbk s60 ⟨2,L,N,[]⟩=0∧∀ v:Int,0≤v∧v≤1000000→zdN 60 (recI v ⟨2,L,N,[]⟩):=by
 have hm:=zh8 (a:=L) (m:=N) (by omega) (by omega) (by omega)
 refine ⟨?_,fun v hv=>⟨.inr rfl,⟨by show (0:Int)≤L;omega,by show (1:Int)≤N;omega,by show (L:Int)+N≤60;omega⟩,by show (N:Int)≤256;omega,hv,⟨rfl,rfl⟩,fun h=>by have h9:(2:Int)=1:=h;omega,fun _=>rfl⟩⟩
 unfold zbk;rw [if_neg (by rw [Decidable.not_not];exact ⟨⟨by show (0:Int)≤L;omega,by show (1:Int)≤N;omega,by show (N:Int)≤1048576;omega,by show (L:Int)≤1099511627776-N;omega⟩,rfl⟩),if_pos hm]
abbrev Kz (K:Nat→Prop) (s r g:Nat) (b:Nat):Prop:=(Kq K s r b∧b<g)∨g+1+1<b
structure S6 (K:Nat→Prop) (w:World) (gd gh rd rh g:Nat) (wr:World) (d:Zd) (A:Option Addr) (c:Nat) (h:Ho) (cs:Array Value) (d':Zd) (A':Option Addr) (c':Nat) (h':Ho) (cs':Array Value):Prop where
 below:Below w.heap.size w wr
 ord:w.heap.size≤gd∧gd<gh∧gh<rd∧rd<rh∧rh<g
 dev:Blk wr gd 27 (zdC d A c)
 zl:IsL Rp.zone wr (Kz K w.heap.size rh g) (.slice A d.z.length c) d.z
 host:Blk wr gh 38 cs
 n:cs.size=15
 one:cs.toList.all (·.oneCell')=true
 hv:IsHo wr (Kz K w.heap.size rh g) (.agg cs) h
 brd:∃ a0 a1 a2 a3,Blk wr rd 27 #[a0,a1,a2,a3]
 brh:∃ cs',Blk wr rh 38 cs'∧cs'.size=15
 x:Blk wr (g+1) 27 (zdC d' A' c')
 xz:IsL Rp.zone wr (Kz K w.heap.size rh g) (.slice A' d'.z.length c') d'.z
 k:Blk wr (g+1+1) 38 cs'
 n':cs'.size=15
 one':cs'.toList.all (·.oneCell')=true
 hk:IsHo wr (Kz K w.heap.size rh g) (.agg cs') h'
section
variable {K:Nat→Prop} {w wr wr':World} {gd gh rd rh g:Nat} {d d' d9:Zd} {A A' A9:Option Addr} {c c' c9:Nat} {h h' h9:Ho} {cs cs' cs9:Array Value}
theorem S6.step (q:S6 K w gd gh rd rh g wr d A c h cs d' A' c' h' cs') (hb:Below wr.heap.size wr wr'):S6 K w gd gh rd rh g wr' d A c h cs d' A' c' h' cs':=by
 obtain ⟨a0,a1,a2,a3,hr⟩:=q.brd;obtain ⟨cs',hr',hn⟩:=q.brh;exact ⟨q.below.trans (hb.mono q.below.size),q.ord,q.dev.step hb,q.zl.step hb,q.host.step hb,q.n,q.one,q.hv.step hb,⟨a0,a1,a2,a3,hr.step hb⟩,⟨cs',hr'.step hb,hn⟩,q.x.step hb,q.xz.step hb,q.k.step hb,q.n',q.one',q.hk.step hb⟩
theorem S6.far (q:S6 K w gd gh rd rh g wr d A c h cs d' A' c' h' cs') {b:Nat} (hb:Kz K w.heap.size rh g b):b≠gd∧b≠gh∧b≠rd∧b≠rh∧b≠g+1∧b≠g+1+1:=by
 have:=q.ord;rcases hb with ⟨⟨_,hb⟩ | hb,h9⟩ | hb <;> omega
theorem S6.lt (q:S6 K w gd gh rd rh g wr d A c h cs d' A' c' h' cs'):g+1+1<wr.heap.size:=q.k.lt
theorem S6.turn (q:S6 K w gd gh rd rh g wr d A c h cs d' A' c' h' cs') {y:Nat} (ht:za0 wr wr' (fun b=>b=y)) (hy:y=rd∨y=rh) (hrd:∃ a0 a1 a2 a3,Blk wr' rd 27 #[a0,a1,a2,a3]) (hrh:∃ cs',Blk wr' rh 38 cs'∧cs'.size=15):S6 K w gd gh rd rh g wr' d A c h cs d' A' c' h' cs':=by
 have ho:=q.ord;have hf:∀ b,Kz K w.heap.size rh g b→¬b=y:=fun b hb e=>by have:=q.far hb;omega
 exact ⟨za0.upon q.below ht (by omega) (Nat.le_refl _),q.ord,q.dev.turned ht (by omega),q.zl.turned ht hf,q.host.turned ht (by omega),q.n,q.one,IsHo.keep q.hv (ht.cells (K:=Kz K w.heap.size rh g) hf),hrd,hrh,q.x.turned ht (by omega),q.xz.turned ht hf,q.k.turned ht (by omega),q.n',q.one',IsHo.keep q.hk (ht.cells (K:=Kz K w.heap.size rh g) hf)⟩
theorem S6.tRd (q:S6 K w gd gh rd rh g wr d A c h cs d' A' c' h' cs') (ht:za0 wr wr' (fun b=>b=rd)) {a0 a1 a2 a3:Value} (hB:Blk wr' rd 27 #[a0,a1,a2,a3]):S6 K w gd gh rd rh g wr' d A c h cs d' A' c' h' cs':=by
 obtain ⟨cr,hr',hn⟩:=q.brh;have ho:=q.ord;exact q.turn ht (.inl rfl) ⟨_,_,_,_,hB⟩ ⟨cr,hr'.turned ht (by omega),hn⟩
theorem S6.tRh (q:S6 K w gd gh rd rh g wr d A c h cs d' A' c' h' cs') (ht:za0 wr wr' (fun b=>b=rh)) {cr:Array Value} (hB:Blk wr' rh 38 cr) (hn:cr.size=15):S6 K w gd gh rd rh g wr' d A c h cs d' A' c' h' cs':=by
 obtain ⟨a0,a1,a2,a3,hr⟩:=q.brd;have ho:=q.ord;exact q.turn ht (.inr rfl) ⟨a0,a1,a2,a3,hr.turned ht (by omega)⟩ ⟨cr,hB,hn⟩
theorem S6.tX (q:S6 K w gd gh rd rh g wr d A c h cs d' A' c' h' cs') {wy wz:World} (ht:za0 wr wy (fun b=>b=g+1)) (hB:Blk wy (g+1) 27 (zdC d9 A9 c9)) (hz:IsL Rp.zone wr (Kz K w.heap.size rh g) (.slice A9 d9.z.length c9) d9.z) (ht':za0 wy wz (fun b=>b=g+1+1)) (hB':Blk wz (g+1+1) 38 cs9) (hn:cs9.size=15) (h1:cs9.toList.all (·.oneCell')=true) (hh:IsHo wr (Kz K w.heap.size rh g) (.agg cs9) h9) :
 S6 K w gd gh rd rh g wz d A c h cs d9 A9 c9 h9 cs9:=by
 have ho:=q.ord;obtain ⟨a0,a1,a2,a3,hr⟩:=q.brd;obtain ⟨cr,hr',hnr⟩:=q.brh;have f1:∀ b,Kz K w.heap.size rh g b→¬b=g+1:=fun b hb e=>(q.far hb).2.2.2.2.1 e
 have f2:∀ b,Kz K w.heap.size rh g b→¬b=g+1+1:=fun b hb e=>(q.far hb).2.2.2.2.2 e
 exact ⟨za0.upon (za0.upon q.below ht (by omega) (Nat.le_refl _)) ht' (by omega) (Nat.le_refl _),q.ord,(q.dev.turned ht (by omega)).turned ht' (by omega),(q.zl.turned ht f1).turned ht' f2,(q.host.turned ht (by omega)).turned ht' (by omega),q.n,q.one,IsHo.keep (IsHo.keep q.hv (ht.cells (K:=Kz K w.heap.size rh g) f1)) (ht'.cells (K:=Kz K w.heap.size rh g) f2),
  ⟨a0,a1,a2,a3,(hr.turned ht (by omega)).turned ht' (by omega)⟩,⟨cr,(hr'.turned ht (by omega)).turned ht' (by omega),hnr⟩,hB.turned ht' (by omega),(hz.turned ht f1).turned ht' f2,hB',hn,h1,IsHo.keep (IsHo.keep hh (ht.cells (K:=Kz K w.heap.size rh g) f1)) (ht'.cells (K:=Kz K w.heap.size rh g) f2)⟩
theorem S6.kz (q:S6 K w gd gh rd rh g wr d A c h cs d' A' c' h' cs') {wx:World} {l:List Zn} {v:Value} (hz:IsL Rp.zone wx (fun b=>(Kz K w.heap.size rh g b∧b<wr.heap.size)∨wr.heap.size≤b) v l):IsL Rp.zone wx (Kz K w.heap.size rh g) v l:=
 hz.more fun b hb=>by have:=q.lt;rcases hb with hb | hb;exact hb.1;exact .inr (by omega)
theorem S6.kh (q:S6 K w gd gh rd rh g wr d A c h cs d' A' c' h' cs') {wx:World} {l:Ho} {v:Value} (hz:IsHo wx (fun b=>(Kz K w.heap.size rh g b∧b<wr.heap.size)∨wr.heap.size≤b) v l):IsHo wx (Kz K w.heap.size rh g) v l:=
 hz.more fun b hb=>by have:=q.lt;rcases hb with hb | hb;exact hb.1;exact .inr (by omega)
theorem Kz.out {s r b:Nat} (hr:s≤r) (hg:r<g) (hb:Kz K s r g b):K b∨s≤b:=by
 rcases hb with ⟨⟨hb,_⟩ | hb,_⟩ | hb;exact .inl hb;exact .inr (by omega);exact .inr (by omega)
end
theorem zeM {d:Zd} {h:Ho} (hi:J24 d h) (hv:1≤h.ver∧h.ver≤1000) (hsq:h.seq≤100000) {o:Io} (he:zbk s60 o=0) (hr:∀ v:Int,0≤v∧v≤1000000→zdN 60 (recI v o)):zo0 d h [recI h.ver o]∧((zau d h [o]).2.2=0→zh2 d h (zau d h [o]).1 (zau d h [o]).2.1):=by
 obtain ⟨h1,h2⟩:=ziM hi he (hr _ (by omega)) (by omega) (by omega)
 refine ⟨h1,fun h0=>?_⟩
 rcases h2 with h2 | ⟨d',h',e,j,hv',hs',hb⟩
 · rw [h2] at h0;cases h0
 · rw [e]
   exact ⟨j,zdt.of_commit hv' hb,by show h'.ver≤_;omega,by show h'.seq≤_;omega⟩
theorem zjM {d:Zd} {h:Ho} (hi:J24 d h) (hv:1≤h.ver∧h.ver≤1000) (hsq:h.seq≤100000) (o:Oq) (i:Int) (hii:0≤i∧i≤1000) (Az:Option Addr) (cz:Nat) (v:Value) (K:Nat→Prop) (w:World) (hzl:IsL Rp.zone w K (.slice Az d.z.length cz) d.z) (hho:IsHo w K v h) (hK:∀ b,K b→b<w.heap.size) :
 Calls Tryz.prog 7 #[.agg (zdC d Az cz),v,.agg #[.int .i64 o.op,.int .i64 o.lba,.int .i64 o.n],.int .i64 i] w fun e w'=>∃ dv vh d' h',e=.returned (.tuple #[dv,vh])∧ze6 w' (fun b=>K b∨w.heap.size≤b) dv vh d' h'∧zh2 d h d' h'∧Below w.heap.size w w':=by
 obtain ⟨hc,rfl,hn15,h115,-⟩:=zbu hho;obtain ⟨Q,hZ⟩:=Q4.start2 (a0:=.int .i64 0) (a1:=.int .i64 0) (a2:=.int .i64 0) (a3:=.slice none 0 0) (cr:=#[.int .i64 0,.slice none 0 0,.slice none 0 0,.bool false,.int .i64 0,.int .i64 0,.int .i64 0,.int .i64 0,.int .i64 0,.int .i64 0,.slice none 0 0,.slice none 0 0,.slice none 0 0,.int .i64 0,.int .i64 0]) hzl hho hn15 h115 hK #[.int .i64 o.op,.int .i64 o.lba,.int .i64 o.n] 42 rfl;have hin:=zpa o;have b1:=Int.tmod_lt_of_pos o.lba (show (0:Int)<56 by omega)
 have b2:=Int.lt_tmod_of_pos o.lba (show (0:Int)<56 by omega)
 have b3:=Int.tmod_lt_of_pos o.n (show (0:Int)<4 by omega)
 have b4:=Int.lt_tmod_of_pos o.n (show (0:Int)<4 by omega)
 clear hzl hho;go_enter Tryz.func7,Tryz.ntmps7
 go_upto_region 1 with fail;generalize ((((w.alloc (.cells (zdC d Az cz) 27)).alloc (.cells hc 38)).alloc (.cells #[.int .i64 o.op,.int .i64 o.lba,.int .i64 o.n] 42)).alloc (.cells #[.int .i64 0,.int .i64 0,.int .i64 0,.slice none 0 0] 27)).alloc (.cells #[.int .i64 0,.slice none 0 0,.slice none 0 0,.bool false,.int .i64 0,.int .i64 0,.int .i64 0,.int .i64 0,.int .i64 0,.int .i64 0,.slice none 0 0,.slice none 0 0,.slice none 0 0,.int .i64 0,.int .i64 0] 38)=w1 at Q hZ ⊢;obtain ⟨qz,fz⟩:=hZ.rules;have tz:=hZ.lt;go_upto_region 3 with fail;obtain ⟨N,hN⟩:∃ N:Nat,(1+o.n.tmod 4 % 4).toNat=N:=⟨_,rfl⟩;obtain ⟨L,hL⟩:∃ L:Nat,((o.lba.tmod 56+56) % 56).toNat=L:=⟨_,rfl⟩;have hN1:1+o.n.tmod 4 % 4=(N:Int):=by omega
 have hL1:(o.lba.tmod 56+56) % 56=(L:Int):=by omega
 have hNL:1≤N∧N≤4∧L<56:=by omega
 rw [hN1,hL1];generalize (o.n.tmod 4+4) % 4=x1;generalize o.n.tmod 4+4=x5;generalize o.n.tmod 4=x2;generalize o.lba.tmod 56+56=x3;generalize o.lba.tmod 56=x4;have h8:IntKind.u8.wrap (1+i)=((b8 (1+i)).toNat:Int):=(zoC _).symm;have wi:IntKind.i64.wrap (1+i)=1+i:=IntWalk.i64_in _ (by omega)
 have wm:IntKind.i64.wrap (16*(N:Int))=((16*N:Nat):Int):=IntWalk.i64_in _ (by omega)
 have hfi:=fun W=>zfD (b8 (1+i)) (16*N) W (by omega)
 generalize b8 (1+i)=by_ at h8 hfi;clear hN hL hN1 hL1 b1 b2 b3 b4 hin;go_wp2_with fail;refine (hfi _).mono ?_;rintro e w2 ⟨A2,c2,rfl,own2,hb2⟩;have Q2:=Q.step hb2;have hZ2:=hZ.step hb2;have hIB:IsB w2 (fun b=>w1.heap.size≤b) (.slice A2 (16*N) c2) (List.replicate (16*N) by_):=by
  have h9:=IsB.of_own (l:=List.replicate (16*N) by_) (by rw [List.length_replicate];exact own2) (by rw [List.length_replicate];omega)
  rwa [List.length_replicate] at h9
 clear qz fz tz Q hZ hfi h8 wi wm own2 hb2;obtain ⟨qz,fz⟩:=hZ2.rules;have tz:=hZ2.lt;go_upto_region 7 with fail;have E:=(((Kn.start w2).push 67 #[.int .i64 1,.int .i64 L,.int .i64 N,.slice A2 (16*N) c2]).push 27 #[.int .i64 0,.int .i64 0,.int .i64 0,.slice none 0 0]).push 38 #[.int .i64 0,.slice none 0 0,.slice none 0 0,.bool false,.int .i64 0,.int .i64 0,.int .i64 0,.int .i64 0,.int .i64 0,.int .i64 0,.slice none 0 0,.slice none 0 0,.slice none 0 0,.int .i64 0,.int .i64 0];simp only [World.size_alloc] at E;have Q3:=Q2.step E.below;have hZ3:=hZ2.step E.below;have hIB3:=hIB.step E.below;have hlt3:=Q2.lt;have hzl3:=Q2.zl.zlt.step E.below;have hhv3:=(IsHo.lt Q2.hv).step E.below;generalize ((w2.alloc (.cells #[.int .i64 1,.int .i64 L,.int .i64 N,.slice A2 (16*N) c2] 67)).alloc (.cells #[.int .i64 0,.int .i64 0,.int .i64 0,.slice none 0 0] 27)).alloc (.cells #[.int .i64 0,.slice none 0 0,.slice none 0 0,.bool false,.int .i64 0,.int .i64 0,.int .i64 0,.int .i64 0,.int .i64 0,.int .i64 0,.slice none 0 0,.slice none 0 0,.slice none 0 0,.int .i64 0,.int .i64 0] 38)=w3 at E Q3 hZ3 hIB3 hzl3 hhv3 ⊢;have hW3:=E.at_ m2;have hX3:=E.at_ m1;have hY3:=E.at_ m0;obtain ⟨g,hg⟩:∃ g,w2.heap.size=g:=⟨_,rfl⟩;rw [hg] at hW3 hX3 hY3 hlt3 hzl3 hhv3 ⊢;clear E Q2 hZ2 hIB qz fz tz hg;go_cut [37] (fun x37 wx=>∃ p:Int,x37=.int .i64 p∧wx=w3)
 case first=>
  obtain ⟨qz,fz⟩:=hZ3.rules;have tz:=hZ3.lt;go_wp2_with fail;go_meet;exact ⟨_,rfl,rfl⟩
 case rest=>
  obtain ⟨p,rfl,rfl⟩:=hcut;rename_i a9;refine a9 _ _ ?_;have hord:=Q3.ord;have T3:S6 K w w.heap.size (w.heap.size+1) (w.heap.size+1+1+1) (w.heap.size+1+1+1+1) g wc d Az cz h hc zaS none 0 zc5 #[.int .i64 0,.slice none 0 0,.slice none 0 0,.bool false,.int .i64 0,.int .i64 0,.int .i64 0,.int .i64 0,.int .i64 0,.int .i64 0,.slice none 0 0,.slice none 0 0,.slice none 0 0,.int .i64 0,.int .i64 0]:=
   { below:=Q3.below,ord:=by omega,dev:=Q3.dev,zl:=hzl3.more fun b hb=>.inl hb,host:=Q3.host,n:=Q3.n,one:=Q3.one,hv:=hhv3.more fun b hb=>.inl hb,brd:=Q3.rd,brh:=Q3.rh,x:=hX3,xz:=IsL.nil_ _ _,k:=hY3,n':=rfl,one':=rfl,hk:=⟨_,_,_,_,_,rfl,IsL.nil_ _ _,IsL.nil_ _ _,IsB.nil_ _ _,IsL.nil_ _ _,IsL.nil_ _ _⟩ }
  clear Q3 hzl3 hhv3 hX3 hY3 hord;go_cut [15] from 37 to 72 (fun x15 wx=>∃ (e:Int) (d':Zd) (h':Ho) (A7:Option Addr) (c7:Nat) (cs7:Array Value),x15=.int .i64 e∧S6 K w w.heap.size (w.heap.size+1) (w.heap.size+1+1+1) (w.heap.size+1+1+1+1) g wx d Az cz h hc d' A7 c7 h' cs7∧(e=0→zh2 d h d' h'))
  case first=>
   by_cases h0:p=0
   case pos=>
    subst h0;have hcm:=zeM hi hv hsq ((zo5 (by_:=by_) hNL)).1 ((zo5 (by_:=by_) hNL)).2;have herl:errL (zap h.ver [⟨1,L,N,List.replicate (16*N) by_⟩])=0:=zdn fun r hr=>by rw [List.mem_singleton.1 hr];exact (((zo5 (by_:=by_) hNL)).2 _ (by omega)).fit (by decide)
    have hio:=zi7 (w:=wc) (o:=⟨1,L,N,List.replicate (16*N) by_⟩) rfl hIB3 ⟨by dsimp only;omega,by dsimp only;omega,by dsimp only;omega⟩
    have T4:=T3.step ((Below.refl _ _).alloc (Nat.le_refl _) (.cells #[.int .i64 1,.int .i64 L,.int .i64 N,.slice A2 (16*N) c2] 67));have hlw:=World.size_alloc wc (.cells #[.int .i64 1,.int .i64 L,.int .i64 N,.slice A2 (16*N) c2] 67);obtain ⟨w4,hw4⟩:∃ w4,wc.alloc (.cells #[.int .i64 1,.int .i64 L,.int .i64 N,.slice A2 (16*N) c2] 67)=w4:=⟨_,rfl⟩;rw [hw4] at T4 hio;have hco:=zdh d Az cz h (.agg hc) (some ⟨wc.heap.size,0,none⟩) 1 [⟨1,L,N,List.replicate (16*N) by_⟩] (fun b=>Kz K w.heap.size (w.heap.size+1+1+1+1) g b∧b<w4.heap.size) _ w4 T4.zl.zlt (IsHo.lt T4.hv) hio (fun b hb=>hb.2) hi.okd (hi.okho (by omega)) (hi.small (by decide)) (by omega) (by simp) (by simp) (fun _=>herl) (fun _ h0=>hcm.1 h0)
    obtain ⟨r,hr⟩:∃ r,zau d h [⟨1,L,N,List.replicate (16*N) by_⟩]=r:=⟨_,rfl⟩;rw [hr] at hco hcm;have HCM:=Lib.hid hcm.2;obtain ⟨qd,fd⟩:=T3.dev.rules;obtain ⟨qw,fw⟩:=hW3.rules;clear herl hcm hr;go_wp2_with (refine zbM T3.host T3.n rfl rfl rfl ?_);try rw [hw4]
    refine hco.mono ?_;rintro e w5 ⟨dv,vh,rfl,⟨⟨A7,c7,rfl,hz7⟩,hh7⟩,hb5⟩;obtain ⟨cs7,rfl,hn7,h17,-⟩:=zbu hh7;have T5:=T4.step hb5;replace hz7:=T4.kz hz7;replace hh7:=T4.kh hh7;have q0:=T5.x;have q1:=T5.k;clear hco qd fd T3 T4 hb5 hw4 hlw hio;go_wp2_with (first | (refine zbE q0 rfl rfl rfl rfl rfl (by rfl) (by rfl) ?_;intro w8 hs8 ht8 hB8) | (refine zd3 (q1.turned ht8 (by omega)) T5.n' rfl rfl rfl rfl hn7 h17 ?_;intro w9 hs9 ht9 hB9))
    have T9:=T5.tX (d9:=r.1) (h9:=r.2.1) ht8 hB8 hz7 ht9 hB9 hn7 h17 hh7;go_meet;exact ⟨r.2.2,r.1,r.2.1,A7,c7,cs7,rfl,T9,HCM.out⟩
   case neg=>
    by_cases h1:p=1
    case pos=>
     subst h1;have hcm:=zeM hi hv hsq ((zov hNL)).1 ((zov hNL)).2;have herl:errL (zap h.ver [⟨2,L,N,[]⟩])=0:=zdn fun r hr=>by rw [List.mem_singleton.1 hr];exact (((zov hNL)).2 _ (by omega)).fit (by decide)
     have hio:=zi7 (w:=wc) (K:=fun _=>False) (A:=none) (c:=0) (n:=0) (o:=⟨2,L,N,[]⟩) rfl (IsB.nil_ _ _) ⟨by dsimp only;omega,by dsimp only;omega,by dsimp only;omega⟩
     have T4:=T3.step ((Below.refl _ _).alloc (Nat.le_refl _) (.cells #[.int .i64 2,.int .i64 L,.int .i64 N,.slice none 0 0] 67));have hlw:=World.size_alloc wc (.cells #[.int .i64 2,.int .i64 L,.int .i64 N,.slice none 0 0] 67);obtain ⟨w4,hw4⟩:∃ w4,wc.alloc (.cells #[.int .i64 2,.int .i64 L,.int .i64 N,.slice none 0 0] 67)=w4:=⟨_,rfl⟩;rw [hw4] at T4 hio;have hco:=zdh d Az cz h (.agg hc) (some ⟨wc.heap.size,0,none⟩) 1 [⟨2,L,N,[]⟩] (fun b=>Kz K w.heap.size (w.heap.size+1+1+1+1) g b∧b<w4.heap.size) _ w4 T4.zl.zlt (IsHo.lt T4.hv) hio (fun b hb=>hb.2) hi.okd (hi.okho (by omega)) (hi.small (by decide)) (by omega) (by simp) (by simp) (fun _=>herl) (fun _ h0=>hcm.1 h0)
     obtain ⟨r,hr⟩:∃ r,zau d h [⟨2,L,N,[]⟩]=r:=⟨_,rfl⟩;rw [hr] at hco hcm;have HCM:=Lib.hid hcm.2;obtain ⟨qd,fd⟩:=T3.dev.rules;clear herl hcm hr;go_wp2_with (refine zbM T3.host T3.n rfl rfl rfl ?_);try rw [hw4]
     refine hco.mono ?_;rintro e w5 ⟨dv,vh,rfl,⟨⟨A7,c7,rfl,hz7⟩,hh7⟩,hb5⟩;obtain ⟨cs7,rfl,hn7,h17,-⟩:=zbu hh7;have T5:=T4.step hb5;replace hz7:=T4.kz hz7;replace hh7:=T4.kh hh7;have q0:=T5.x;have q1:=T5.k;clear hco qd fd T3 T4 hb5 hw4 hlw hio;go_wp2_with (first | (refine zbE q0 rfl rfl rfl rfl rfl (by rfl) (by rfl) ?_;intro w8 hs8 ht8 hB8) | (refine zd3 (q1.turned ht8 (by omega)) T5.n' rfl rfl rfl rfl hn7 h17 ?_;intro w9 hs9 ht9 hB9))
     have T9:=T5.tX (d9:=r.1) (h9:=r.2.1) ht8 hB8 hz7 ht9 hB9 hn7 h17 hh7;go_meet;exact ⟨r.2.2,r.1,r.2.1,A7,c7,cs7,rfl,T9,HCM.out⟩
    case neg=>
     by_cases h2:p=2
     case pos=>
      subst h2;have hru:=fun z hz=>zo8 hi (by decide) (by omega) (by omega) z hz Az cz (.agg hc) (fun b=>Kz K w.heap.size (w.heap.size+1+1+1+1) g b∧b<wc.heap.size) wc T3.zl.zlt (IsHo.lt T3.hv) (fun b hb=>hb.2)
      have b5:=Int.tmod_lt_of_pos (L:Int) (show (0:Int)<4 by omega)
      have b6:=Int.tmod_nonneg 4 (show (0:Int)≤L by omega)
      obtain ⟨qd,fd⟩:=T3.dev.rules;go_wp2_with (refine zbM T3.host T3.n rfl rfl rfl ?_);refine (hru _ (by constructor <;> first | assumption | omega)).mono ?_
      rintro e w5 ⟨dv,vh,er,d',h',rfl,⟨⟨A7,c7,rfl,hz7⟩,hh7⟩,hst,hb5⟩;obtain ⟨cs7,rfl,hn7,h17,-⟩:=zbu hh7;have T5:=T3.step hb5;replace hz7:=T3.kz hz7;replace hh7:=T3.kh hh7;have q0:=T5.x;have q1:=T5.k;have HST:Hid (er=0→zh2 d h d' h'):=Lib.hid fun e=>by
       obtain ⟨u1,u2,u3,u4⟩:=hst e;exact ⟨u1,by rw [u3];exact zdt.of_same u2,by omega,by omega⟩
      clear hru qd fd T3 hb5 hst b5 b6;go_wp2_with (first | (refine zbE q0 rfl rfl rfl rfl rfl (by rfl) (by rfl) ?_;intro w8 hs8 ht8 hB8) | (refine zd3 (q1.turned ht8 (by omega)) T5.n' rfl rfl rfl rfl hn7 h17 ?_;intro w9 hs9 ht9 hB9))
      have T9:=T5.tX (d9:=d') (h9:=h') ht8 hB8 hz7 ht9 hB9 hn7 h17 hh7;go_meet;exact ⟨er,d',h',A7,c7,cs7,rfl,T9,HST.out⟩
     case neg=>
      go_wp2_with fail;go_meet;exact ⟨1,zaS,zc5,none,0,_,rfl,T3,fun h=>absurd h (by decide)⟩
  case rest=>
   clear T3 hZ3 hW3 hIB3;obtain ⟨e,d',h',A7,c7,cs7,rfl,T3,hst⟩:=hcut;have HST:=Lib.hid hst;clear hst a9;by_cases he:e=0
   case neg=>
    have heb:(e != 0)=true:=by simpa using he
    go_upto_region 15 with fail;have hb0:Below wc.heap.size wc wc.drew:=(Below.refl _ _).drew;have Td:=T3.step hb0;have hord:=Td.ord;refine wp_region_held_drew (S:=fun W=>(∀ o,W.cell? ⟨w.heap.size,o,none⟩=(zdC d Az cz)[o]?)∧∀ o,W.cell? ⟨w.heap.size+1,o,none⟩=hc[o]?) (by kernel_rfl) ⟨Td.dev.rules.1,Td.host.rules.1⟩ (fun hHeld=>?_)
    obtain ⟨a0,a1,a2,a3,hRd⟩:=Td.brd;obtain ⟨cr,hRh,hnr⟩:=Td.brh;generalize wc.drew=wx at Td hRd hRh hHeld ⊢;clear T3 hb0;refine wT 0 75 ?_;refine wT 1 76 ?_ (hy:=by intro w hSw;(try dsimp only at hSw);refine Eq.trans (zbi hSw.2 Td.n rfl rfl) ?_;with_reducible rfl)
    refine wRn 2 (fun K hK=>?_)
    refine zc2 rfl hRd rfl rfl rfl rfl rfl (by rfl) ?_
    intro wy hsy hty hBy;have Ty:=Td.tRd hty hBy;refine hK.out _ _ ⟨Ty.dev.rules.1,Ty.host.rules.1⟩ (fun hHeld=>?_)
    clear hK K;try simp only [Act.put,List.setIfInBounds_toArray,List.set_cons_zero,List.set_cons_succ]
    refine wRn 3 (fun K hK=>?_)
    refine zde rfl (hRh.turned hty (by omega)) hnr rfl rfl rfl Td.n Td.one ?_
    intro wz hsz htz hBz;have Tz:=Ty.tRh htz hBz Td.n;have hBy2:=hBy.turned htz (by omega)
    refine hK.out _ _ ⟨Tz.dev.rules.1,Tz.host.rules.1⟩ (fun hHeld=>?_)
    clear hK K;try simp only [Act.put,List.setIfInBounds_toArray,List.set_cons_zero,List.set_cons_succ]
    refine wpAnyH_done (by kernel_rfl) ?_ _
    go_wp2_with fail;have hl1:=zbz hBz Td.n;have hl0:=zaY hBy2 rfl;exact bodyPost_ret (v:=.tuple #[.agg (zdC d Az cz),.agg hc]) (by simp [results,Tryz.results7,asAddr,hl0,hl1,Result.andThen]) rfl ⟨_,_,d,h,rfl,⟨⟨Az,cz,rfl,Tz.zl.more fun b hb=>Kz.out (by omega) (by omega) hb⟩,IsHo.more Tz.hv fun b hb=>Kz.out (by omega) (by omega) hb⟩,⟨hi,zdt.of_same (zcN.refl _ _),by omega,by omega⟩,Tz.below⟩
   case pos=>
    subst he;go_upto_region 16 with fail;have hb0:Below wc.heap.size wc wc.drew:=(Below.refl _ _).drew;have Td:=T3.step hb0;have hord:=Td.ord;refine wp_region_held_drew (S:=fun W=>(∀ o,W.cell? ⟨g+1,o,none⟩=(zdC d' A7 c7)[o]?)∧∀ o,W.cell? ⟨g+1+1,o,none⟩=cs7[o]?) (by kernel_rfl) ⟨Td.x.rules.1,Td.k.rules.1⟩ (fun hHeld=>?_)
    obtain ⟨a0,a1,a2,a3,hRd⟩:=Td.brd;obtain ⟨cr,hRh,hnr⟩:=Td.brh;generalize wc.drew=wx at Td hRd hRh hHeld ⊢;clear T3 hb0;refine wT 0 77 ?_;refine wT 1 78 ?_ (hy:=by intro w hSw;(try dsimp only at hSw);refine Eq.trans (zbi hSw.2 Td.n' rfl rfl) ?_;with_reducible rfl)
    refine wRn 2 (fun K hK=>?_)
    refine zc2 rfl hRd rfl rfl rfl rfl rfl (by rfl) ?_
    intro wy hsy hty hBy;have Ty:=Td.tRd hty hBy;refine hK.out _ _ ⟨Ty.x.rules.1,Ty.k.rules.1⟩ (fun hHeld=>?_)
    clear hK K;try simp only [Act.put,List.setIfInBounds_toArray,List.set_cons_zero,List.set_cons_succ]
    refine wRn 3 (fun K hK=>?_)
    refine zde rfl (hRh.turned hty (by omega)) hnr rfl rfl rfl Td.n' Td.one' ?_
    intro wz hsz htz hBz;have Tz:=Ty.tRh htz hBz Td.n';have hBy2:=hBy.turned htz (by omega)
    refine hK.out _ _ ⟨Tz.x.rules.1,Tz.k.rules.1⟩ (fun hHeld=>?_)
    clear hK K;try simp only [Act.put,List.setIfInBounds_toArray,List.set_cons_zero,List.set_cons_succ]
    refine wpAnyH_done (by kernel_rfl) ?_ _
    go_wp2_with fail;have hl1:=zbz hBz Td.n';have hl0:=zaY hBy2 rfl;exact bodyPost_ret (v:=.tuple #[.agg (zdC d' A7 c7),.agg cs7]) (by simp [results,Tryz.results7,asAddr,hl0,hl1,Result.andThen]) rfl ⟨_,_,rfl,d',h',⟨⟨A7,c7,rfl,Tz.xz.more fun b hb=>Kz.out (by omega) (by omega) hb⟩,IsHo.more Tz.hk fun b hb=>Kz.out (by omega) (by omega) hb⟩,HST.out trivial,Tz.below⟩
theorem zds {gr c m N b:Nat} {ns ns':List Nat} (s:∀ g∈ns',g∈ns∨N≤g) (h:OfRd gr c m ns' b):OfRd gr c m ns b∨N≤b:=by
 rcases h with h | h | h
 · exact .inl (.inl h)
 · exact .inl (.inr (.inl h))
 · rcases List.mem_cons.1 h with h | h
   · exact .inl (.inr (.inr (by rw [h];exact List.mem_cons_self ..)))
   · rcases s b h with h | h
     · exact .inl (.inr (.inr (List.mem_cons_of_mem _ h)))
     · exact .inr h
structure SD (w:World) (gd:Nat) (wr:World) (d:Zd) (A:Option Addr) (c:Nat) (h:Ho) (cs:Array Value) (X:Nat→Prop):Prop where
 below:Below w.heap.size w wr
 g0:w.heap.size≤gd
 dev:Blk wr gd 27 (zdC d A c)
 host:Blk wr (gd+1) 38 cs
 n:cs.size=15
 one:cs.toList.all (·.oneCell')=true
 xl:∀ b,X b→gd+1<b∧b<wr.heap.size
 at_:∃ K:Nat→Prop,IsL Rp.zone wr K (.slice A d.z.length c) d.z∧IsHo wr K (.agg cs) h∧∀ b,K b→b<wr.heap.size∧b≠gd∧b≠gd+1∧¬X b
section
variable {w wr wr' wy wz:World} {gd:Nat} {d d':Zd} {A A':Option Addr} {c c':Nat} {h h':Ho} {cs cs':Array Value} {X X':Nat→Prop}
theorem SD.step (q:SD w gd wr d A c h cs X) (hb:Below wr.heap.size wr wr'):SD w gd wr' d A c h cs X:=by
 obtain ⟨K,h1,h2,h3⟩:=q.at_;exact ⟨q.below.trans (hb.mono q.below.size),q.g0,q.dev.step hb,q.host.step hb,q.n,q.one,fun b hb'=>⟨(q.xl b hb').1,Nat.lt_of_lt_of_le (q.xl b hb').2 hb.size⟩,K,h1.step hb,h2.step hb,fun b hb'=>⟨Nat.lt_of_lt_of_le (h3 b hb').1 hb.size,(h3 b hb').2⟩⟩
theorem SD.read (q:SD w gd wr d A c h cs X) {Y:Nat→Prop} (ht:za0 wr wr' Y) (hY:∀ b,Y b→X b) (hX:∀ b,X' b→(X b∨wr.heap.size≤b)∧b<wr'.heap.size):SD w gd wr' d A c h cs X':=by
 obtain ⟨K,h1,h2,h3⟩:=q.at_;have hl:=q.host.lt;have hK:∀ b,K b→¬Y b:=fun b hb hy=>(h3 b hb).2.2.2 (hY b hy)
 refine ⟨q.below.trans (ht.below (fun k hk=>by have:=(q.xl k (hY k hk)).1;have:=q.g0;omega) q.below.size),q.g0,q.dev.turned ht (fun hy=>by have:=(q.xl _ (hY _ hy)).1;omega),q.host.turned ht (fun hy=>by have:=(q.xl _ (hY _ hy)).1;omega),q.n,q.one,fun b hb=>⟨?_,(hX b hb).2⟩,K,h1.turned ht hK,IsHo.keep h2 (ht.cells hK),fun b hb=>⟨Nat.lt_of_lt_of_le (h3 b hb).1 ht.size,(h3 b hb).2.1,(h3 b hb).2.2.1,fun hx=>?_⟩⟩
 · rcases (hX b hb).1 with h9 | h9
   · exact (q.xl b h9).1
   · omega
 · rcases (hX b hx).1 with h9 | h9
   · exact (h3 b hb).2.2.2 h9
   · have:=(h3 b hb).1;omega
theorem SD.move (q:SD w gd wr d A c h cs X) {K:Nat→Prop} (hz:IsL Rp.zone wr K (.slice A' d'.z.length c') d'.z) (hh:IsHo wr K (.agg cs') h') (hK:∀ b,K b→b≠gd∧b≠gd+1∧¬X b) (hn:cs'.size=15) (h1:cs'.toList.all (·.oneCell')=true)
 (ht:za0 wr wy (fun b=>b=gd)) (hB:Blk wy gd 27 (zdC d' A' c')) (ht':za0 wy wz (fun b=>b=gd+1)) (hB':Blk wz (gd+1) 38 cs'):SD w gd wz d' A' c' h' cs' X:=by
 have t2:za0 wr wz (fun b=>b=gd∨b=gd+1):=(ht.mono fun b hb=>.inl hb).trans (ht'.mono fun b hb=>.inr hb)
 have hf:∀ b,K b∧b<wr.heap.size→¬(b=gd∨b=gd+1):=fun b hb e=>by have:=hK b hb.1;omega
 exact ⟨za0.upon (za0.upon q.below ht q.g0 (Nat.le_refl _)) ht' (by have:=q.g0;omega) (Nat.le_refl _),q.g0,hB.turned ht' (by omega),hB',hn,h1,fun b hb=>⟨(q.xl b hb).1,Nat.lt_of_lt_of_le (q.xl b hb).2 t2.size⟩,_,hz.zlt.turned t2 hf,IsHo.keep (IsHo.lt hh) (t2.cells hf),fun b hb=>⟨Nat.lt_of_lt_of_le hb.2 t2.size,hK b hb.1⟩⟩
end
structure Pl (a b:Nat) (d:Zd) (h:Ho) (k:Ca) (t:Int):Prop where
 j:J24 d h
 ver:1≤h.ver∧h.ver≤1+a
 seq:h.seq≤61*a
 fr:zaT d.z h.m h.ver k
 hit:0≤k.hit∧k.hit≤256*b
 miss:0≤k.miss∧k.miss≤256*b
 trims:0≤t∧t≤256*b
 len:k.l.length≤256*b
section
variable {a b:Nat} {d d':Zd} {h h':Ho} {k:Ca} {t:Int}
theorem Pl.step (p:Pl a b d h k t) (s:zh2 d h d' h'):Pl (a+1) b d' h' k t:=
 ⟨s.j,by have:=s.on.1;have:=s.ver;have:=p.ver;omega,by have:=s.seq;have:=p.seq;omega,p.fr.on s.on,p.hit,p.miss,p.trims,p.len⟩
theorem Pl.drop (p:Pl a b d h k t) (lba n:Int):Pl a b d h ⟨k.most,zgp lba n k.l,k.hit,k.miss⟩ t:=
 ⟨p.j,p.ver,p.seq,p.fr.drop lba n,p.hit,p.miss,p.trims,Nat.le_trans (List.length_filter_le _ _) p.len⟩
theorem Pl.read (p:Pl a b d h k t) (lba n:Int):Pl a (b+1) d h (zbK d.z h k t lba n).1 (zbK d.z h k t lba n).2.1∧(zbK d.z h k t lba n).2.2=(zaK d.z h lba n).1:=by
 obtain ⟨h1,h2⟩:=p.fr.read p.j t lba n;obtain ⟨⟨g1,g2,g3,g4,g5⟩,g6,g7⟩:=zmx (d:=d) (k:=k) p.j.chain t lba n p.hit.1 p.miss.1;have q1:=p.hit;have q2:=p.miss;have q3:=p.trims;have q4:=p.len;exact ⟨⟨p.j,p.ver,p.seq,h1,by omega,by omega,by omega,by omega⟩,h2⟩
theorem Pl.start (most:Int):Pl 0 0 (d24 4) (h24 4) ⟨most,[],0,0⟩ 0:=⟨zdU,by decide,by decide,zaT.nil _ _ _ _ _ _,by simp,by simp,by simp,by simp⟩
theorem Pl.all60 (p:Pl a b d h k t):(zaK d.z h 0 60).2=0:=by
 unfold zaK;rw [if_neg (fun e=>e ⟨by decide,by decide,by decide,by decide⟩),p.j.s,zh8 (by decide) (by decide) (by decide),if_neg (by simp),zbG p.j.chain ⟨by decide,by decide,by decide,by decide⟩ (by decide) p.j.fit]
theorem Pl.vers (p:Pl a b d h k t) (ha:a≤1000):∀ e∈h.m,e.ver≤9223372036854775807:=fun e he=>by have:=p.j.oldE e he;have:=p.ver;omega
theorem Pl.rreadK (p:Pl a b d h k t) (ha:a≤1000) (hb:b≤1000) {W:World} {gr c m:Nat} {ns:List Nat} {A:Option Addr} {cA:Nat} {vh:Value} {Kd K:Nat→Prop} (h1:IsL Rp.zone W K (.slice A d.z.length cA) d.z) (h2:IsHo W K vh h) (hK:∀ b,K b→¬OfRd gr c m ns b) (r:IsRd Kd W gr c m ns k t) (hKd:∀ b,W.heap.size≤b→Kd b) (lba n:Int) :
 Calls Tryz.prog 10 #[.pointer (some ⟨gr,0,none⟩),.agg (zdC d A cA),vh,.int .i64 lba,.int .i64 n] W fun e w'=>
  ∃ Ao co k' t',e=.returned (.tuple #[.slice Ao (zaK d.z h lba n).1.length co,.int .i64 (zaK d.z h lba n).2])∧IsB w' (fun b=>W.heap.size≤b) (.slice Ao (zaK d.z h lba n).1.length co) (zaK d.z h lba n).1∧k'=(zbK d.z h k t lba n).1∧t'=(zbK d.z h k t lba n).2.1∧Pl a (b+1) d h k' t'∧zat Kd W w' gr c m ns k' t':=by
 have q1:=p.hit;have q2:=p.miss;have q3:=p.trims;have q4:=p.len;refine (zf3 r hKd d A cA h vh lba n K K h1 h2 hK hK p.j.okd p.j.chain p.j.fit (p.vers ha) (by omega) (by omega) (by omega) (by omega)).mono ?_
 rintro e w' ⟨vb,rfl,hv,hm⟩;obtain ⟨g1,g2⟩:=p.read lba n;rw [g2] at hv;obtain ⟨Ao,co,rfl,-⟩:=zab hv;exact ⟨Ao,co,_,_,rfl,hv,rfl,rfl,g1,hm⟩
theorem Pl.rread (p:Pl a b d h k t) (ha:a≤1000) (hb:b≤1000) {w W:World} {gd gr c m:Nat} {ns:List Nat} {A:Option Addr} {cA:Nat} {cs:Array Value} {X Kd:Nat→Prop} (q:SD w gd W d A cA h cs X) (r:IsRd Kd W gr c m ns k t) (hKd:∀ b,W.heap.size≤b→Kd b) (hX:∀ b,OfRd gr c m ns b→X b) (lba n:Int) :
 Calls Tryz.prog 10 #[.pointer (some ⟨gr,0,none⟩),.agg (zdC d A cA),.agg cs,.int .i64 lba,.int .i64 n] W fun e w'=>
  ∃ Ao co k' t',e=.returned (.tuple #[.slice Ao (zaK d.z h lba n).1.length co,.int .i64 (zaK d.z h lba n).2])∧IsB w' (fun b=>W.heap.size≤b) (.slice Ao (zaK d.z h lba n).1.length co) (zaK d.z h lba n).1∧k'=(zbK d.z h k t lba n).1∧t'=(zbK d.z h k t lba n).2.1∧Pl a (b+1) d h k' t'∧zat Kd W w' gr c m ns k' t':=by
 obtain ⟨K,h1,h2,h3⟩:=q.at_;exact p.rreadK ha hb h1 h2 (fun b hb ho=>(h3 b hb).2.2.2 (hX b ho)) r hKd lba n
theorem Pl.hread (p:Pl a b d h k t) {w W:World} {gd:Nat} {A:Option Addr} {cA:Nat} {cs:Array Value} {X:Nat→Prop} (q:SD w gd W d A cA h cs X) (lba n:Int) :
 Calls Tryz.prog 14 #[.agg (zdC d A cA),.agg cs,.int .i64 lba,.int .i64 n] W fun e w'=>
  ∃ Ao co,e=.returned (.tuple #[.slice Ao (zaK d.z h lba n).1.length co,.int .i64 (zaK d.z h lba n).2])∧IsB w' (fun b=>W.heap.size≤b) (.slice Ao (zaK d.z h lba n).1.length co) (zaK d.z h lba n).1∧Below W.heap.size W w':=by
 obtain ⟨K,h1,h2,-⟩:=q.at_;exact zgX d A cA h (.agg cs) lba n K K W h1 h2 p.j.okd p.j.chain p.j.fit
end
theorem zfs (room:Int) (l:List Oq) (v:Value) (K:Nat→Prop) (w:World) (hv:IsL Rp.oq w K v l) :
 Calls Tryz.prog 4 #[.int .i64 room,v] w fun e w'=>e=.returned (.bool true)∧Below w.heap.size w w':=by
 obtain ⟨Al,cl,rfl,-⟩:=hv.form;obtain ⟨n,hn⟩:∃ n,l.length=n:=⟨_,rfl⟩;have hnl:=hv.len;rw [hn] at hv hnl ⊢;have HN:=Lib.hid hn;clear hn;have hbe:=fun W=>zeO W
 have hnw:=fun (Kd:Nat→Prop) W=>zix (Kd:=Kd) room W
 obtain ⟨most,hmo⟩:∃ x,max room 0=x:=⟨_,rfl⟩;rw [hmo] at hnw;clear hmo;go_enter Tryz.func4,Tryz.ntmps4
 go_wp2_with fail;refine (zjF _).mono ?_;rintro e w1 ⟨rfl,hb1⟩;by_cases h50:(n:Int) > 50
 case pos=>
  go_wp2_with fail;go_ret;exact ⟨rfl,hb1⟩
 go_wp2_with fail;refine (hbe _).mono ?_;rintro e w2 ⟨dv,vh,rfl,⟨⟨A,cA,rfl,hz⟩,hho⟩,hb2⟩;obtain ⟨c5,rfl,hn5,h15,-⟩:=zbu hho;clear hbe;go_upto_region 5 with (refine zcJ rfl rfl (by first | rfl | simp [Act.eval,World.size_alloc]) rfl rfl hn5 h15 ?_)
 have E:=(((Kn.start w).step (hb1.trans (hb2.mono hb1.size))).give za1.list hz.zlt).give za1.ho hho.lt |>.push 27 (zdC (d24 4) A cA) |>.push 38 c5
 rw [World.size_alloc] at E;obtain ⟨gd,hgd⟩:∃ g,w2.heap.size=g:=⟨_,rfl⟩;have hgw:w.heap.size≤gd:=by rw [←hgd];exact Nat.le_trans hb1.size hb2.size
 generalize (w2.alloc (.cells (zdC (d24 4) A cA) 27)).alloc (.cells c5 38)=w3 at E ⊢;rw [hgd] at E ⊢;have S3:SD w gd w3 (d24 4) A cA (h24 4) c5 (fun _=>False):=⟨E.below,hgw,E.at_ m1,E.at_ m0,hn5,h15,fun _ h=>h.elim,_,E.get m1,E.get m0,fun b hb=>by have:=hb.2;have:=(E.at_ m0).lt;exact ⟨by omega,by omega,by omega,fun h=>h⟩⟩
 clear E hz hho hb1 hb2 hgd hgw hn5 h15;have hs3:=S3.host.lt;go_wp2_with fail;refine (hnw (fun b=>gd+1<b) _).mono ?_
 rintro e w4 ⟨gr,c,m,rfl,R4,hof,hb4⟩;have S4:SD w gd w4 (d24 4) A cA (h24 4) c5 (OfRd gr c m []):=S3.read (Y:=fun _=>False) (za0.of hb4) (fun _ h=>h) fun b hb=>⟨.inr (hof b hb),R4.lt hb⟩
 clear hnw hb4 S3 hs3;go_upto_region 9 with fail;go_loopw [10,11,12,13,14,15,16,17,18,19,36] (fun x10 x11 x12 x13 x14 x15 x16 x17 x18 x19 x36 wr=>∃ (i:Nat) (d:Zd) (A:Option Addr) (cA:Nat) (h:Ho) (cs:Array Value) (k:Ca) (t:Int) (ns:List Nat),x36=.int .i64 i∧i≤n∧SD w gd wr d A cA h cs (OfRd gr c m ns)∧IsRd (fun b=>gd+1<b) wr gr c m ns k t∧Hid (Pl i (2*i) d h k t)∧(∃ y,x10=y)∧(∃ y,x11=y)∧(∃ y,x12=y)∧(∃ y,x13=y)∧(∃ y,x14=y)∧(∃ y,x15=y)∧(∃ y,x16=y)∧(∃ y,x17=y)∧(∃ y,x18=y)∧∃ y,x19=y) (fun _ _ _ _ _ _ _ _ _ _ x36 _=>n-(intOf x36).toNat)
 case atStart=>exact ⟨0,_,_,_,_,_,_,_,_,rfl,by omega,S4,R4,Lib.hid (Pl.start most),⟨_,rfl⟩,⟨_,rfl⟩,⟨_,rfl⟩,⟨_,rfl⟩,⟨_,rfl⟩,⟨_,rfl⟩,⟨_,rfl⟩,⟨_,rfl⟩,⟨_,rfl⟩,_,rfl⟩
 case round=>
  clear S4 R4;obtain ⟨i,d,A,cA,h,cs,k,t,ns,rfl,hi,S,R,HP,⟨y1,rfl⟩,⟨y2,rfl⟩,⟨y3,rfl⟩,⟨y4,rfl⟩,⟨y5,rfl⟩,⟨y6,rfl⟩,⟨y7,rfl⟩,⟨y8,rfl⟩,⟨y9,rfl⟩,y10,rfl⟩:=hrel;by_cases hin:i<n
  case neg=>
   obtain rfl:i=n:=by omega
   go_wp2_with fail;go_ret;exact ⟨rfl,S.below⟩
  have i1:(i:Int)<(n:Int):=by omega
  have i0:(0:Int)≤(i:Int):=by omega
  have hlt:i<l.length:=by rw [HN.out];exact hin
  obtain ⟨ad,rfl,-,c0,c1,c2,r0,r1,r2⟩:=zp7 (hv.step S.below) (List.getElem?_eq_getElem hlt);generalize l[i]=o at c0 c1 c2 r0 r1 r2;clear hlt;go_upto_region 11 with fail;have hba:Below wr.heap.size wr (wr.alloc (.cells #[.int .i64 o.op,.int .i64 o.lba,.int .i64 o.n] 42)):=(Below.refl _ _).alloc (Nat.le_refl _) _;have B0:=Blk.new wr 42 #[.int .i64 o.op,.int .i64 o.lba,.int .i64 o.n] rfl;have hg0:=S.host.lt;have hng:¬OfRd gr c m ns wr.heap.size:=fun h=>Nat.lt_irrefl _ (R.lt h)
  replace S:=S.step hba;replace R:=R.step hba;generalize wr.alloc (.cells #[.int .i64 o.op,.int .i64 o.lba,.int .i64 o.n] 42)=w5 at B0 S R ⊢;generalize wr.heap.size=g0 at B0 hg0 hng ⊢;clear hba c0 c1 c2;obtain ⟨K5,hz5,hh5,hK5⟩:=S.at_;have hst:=zjM HP.out.j (by have:=HP.out.ver;omega) (by have:=HP.out.seq;omega) o i (by omega) A cA (.agg cs) K5 w5 hz5 hh5 (fun b hb=>(hK5 b hb).1)
  have hxl:=S.xl;obtain ⟨q0,f0⟩:=S.dev.rules;have t0:=S.dev.lt;obtain ⟨q1,f1⟩:=B0.rules;have t1:=B0.lt;go_wp2_with (refine zbM S.host S.n rfl rfl rfl ?_);refine hst.mono ?_;rintro e w6 ⟨dv,vh,d',h',rfl,⟨⟨A7,c7,rfl,hz7⟩,hh7⟩,hs,hb6⟩;obtain ⟨cs7,rfl,hn7,h17,-⟩:=zbu hh7;have hS6:=S.step hb6;have R6:=R.step hb6;have B6:=B0.step hb6;have p0:=hS6.dev;have p1:=hS6.host;have HP6:=Lib.hid (HP.out.step hs);clear hst q0 f0 q1 f1 B0 R HP hb6 hs hz5 hh5;go_upto_region 12 with (first | (refine zbE p0 rfl rfl rfl rfl rfl (by rfl) (by rfl) ?_;intro w8 hs8 ht8 hB8) | (refine zd3 (p1.turned ht8 (by omega)) hS6.n rfl rfl rfl rfl hn7 h17 ?_;intro w9 hs9 ht9 hB9))
  have t89:za0 w6 w9 (fun b=>b=gd∨b=gd+1):=(ht8.mono fun b hb=>.inl hb).trans (ht9.mono fun b hb=>.inr hb)
  have S9:=hS6.move hz7 hh7 (fun b hb=>by rcases hb with hb | hb;exact (hK5 b hb).2;exact ⟨by omega,by omega,fun e=>by have:=(hxl b e).2;omega⟩) hn7 h17 ht8 hB8 ht9 hB9
  have R9:=R6.turnedK (Kd':=fun b=>gd+1<b) t89 (fun b hb e=>by have:=(hxl b hb).1;omega) (fun b hb _=>⟨by omega,hb⟩)
  have B9:=B6.turned t89 (by omega)
  clear S hS6 R6 B6 p0 p1 hz7 hh7 hn7 h17 ht8 hB8 ht9 hB9 t89 hs8 hs9 hK5 t0 t1 hxl;simp only [Act.put];go_cut [56] (fun x56 wx=>wx=w9∧∃ b:Bool,x56=.bool b∧(b=true→0≤o.lba))
  case first=>
   obtain ⟨q1,f1⟩:=B9.rules;have t1:=B9.lt;by_cases h3:o.op=3
   · by_cases h4:0≤o.lba
     · go_wp2_with fail
       go_meet;exact ⟨rfl,true,by simp [h4],fun _=>h4⟩
     · go_wp2_with fail
       go_meet;exact ⟨rfl,false,by simp [h4],fun h=>by cases h⟩
   · go_wp2_with fail
     go_meet;exact ⟨rfl,false,rfl,fun h=>by cases h⟩
  case rest=>
  obtain ⟨rfl,b,rfl,hb4⟩:=hcut;rename_i a9;refine a9 _ _ ?_;go_cut [9] from 56 to 62 (fun x9 wx=>x9=.pointer (some ⟨gr,0,none⟩)∧∃ (k':Ca) (ns':List Nat),SD w gd wx d' A7 c7 h' cs7 (OfRd gr c m ns')∧IsRd (fun b=>gd+1<b) wx gr c m ns' k' t∧Hid (Pl (i+1) (2*i) d' h' k' t)∧Blk wx g0 42 #[.int .i64 o.op,.int .i64 o.lba,.int .i64 o.n]∧¬OfRd gr c m ns' g0)
  case first=>
   obtain ⟨q1,f1⟩:=B9.rules;have t1:=B9.lt;cases b with
   | true=>
     have hfo:=zip R9 (by have:=HP6.out.len;omega) o.lba o.n ⟨hb4 rfl,r1.2⟩
     go_wp2_with fail;refine hfo.mono ?_;rintro e wf ⟨rfl,ns',R',tf,sf⟩;have Sf:=S9.read tf (fun _ h=>h) (X':=OfRd gr c m ns') fun b hb=>⟨zds sf hb,R'.lt hb⟩
     go_wp2_with fail;go_meet;exact ⟨rfl,_,ns',Sf,R',Lib.hid (HP6.out.drop _ _),B9.turned tf hng,fun h=>(zds sf h).elim hng (by omega)⟩
   | false=>
     go_wp2_with fail;go_meet;exact ⟨rfl,_,_,S9,R9,HP6,B9,hng⟩
  case rest=>
  clear S9 R9 B9 HP6 hng a9 hb4;obtain ⟨rfl,k1,ns1,S,R,HP,B,hng⟩:=hcut;obtain ⟨q1,f1⟩:=B.rules;have t1:=B.lt;obtain ⟨q0,f0⟩:=S.dev.rules;have t0:=S.dev.lt;have h60:=HP.out.all60;have hc1:=HP.out.rread (by omega) (by omega) S R (fun b hb=>by omega) (fun _ h=>h) o.lba o.n
  obtain ⟨ra,hra⟩:∃ ra,zaK d'.z h' o.lba o.n=ra:=⟨_,rfl⟩;obtain ⟨rb,hrb⟩:∃ rb,zaK d'.z h' 0 60=rb:=⟨_,rfl⟩;have HRA:=Lib.hid hra;have HRB:=Lib.hid hrb;rw [hra] at hc1;rw [hrb] at h60;obtain ⟨la,ea⟩:=ra;obtain ⟨lb,eb⟩:=rb;obtain rfl:eb=0:=h60;obtain ⟨na,hna⟩:∃ na,la.length=na:=⟨_,rfl⟩;obtain ⟨nb,hnb⟩:∃ nb,lb.length=nb:=⟨_,rfl⟩;dsimp only at hc1;have HNA:=Lib.hid hna;have HNB:=Lib.hid hnb;rw [hna] at hc1;clear hra hrb hna hnb;go_wp2_with (refine zbM S.host S.n rfl rfl rfl ?_);refine hc1.mono ?_;rintro e wa ⟨A1,c1,k2,t2,rfl,hva,-,-,P1,ns2,R1,tf1,sf1⟩;have S1:=S.read tf1 (fun _ h=>h) (X':=OfRd gr c m ns2) fun b hb=>⟨zds sf1 hb,R1.lt hb⟩
  have B1:=B.turned tf1 hng;have hc2:=P1.hread S1 o.lba o.n;rw [HRA.out] at hc2;dsimp only at hc2;rw [HNA.out] at hc2;clear q1 f1 t1 q0 f0 t0 hc1 S R HP B hng tf1 sf1 HRA;obtain ⟨q1,f1⟩:=B1.rules;have t1:=B1.lt;obtain ⟨q0,f0⟩:=S1.dev.rules;have t0:=S1.dev.lt;go_wp2_with (refine zbM S1.host S1.n rfl rfl rfl ?_);refine hc2.mono ?_;rintro e wb ⟨A2,c2,rfl,hvb,hbb⟩;have S2:=S1.step hbb;have R2:=R1.step hbb;replace hva:=hva.step hbb;have hc3:=P1.rread (by omega) (by omega) S2 R2 (fun b hb=>by have:=S2.host.lt;omega) (fun _ h=>h) 0 60
  rw [HRB.out] at hc3;dsimp only at hc3;rw [HNB.out] at hc3;clear q1 f1 t1 q0 f0 t0 hc2 S1 R1 B1 hbb;obtain ⟨q0,f0⟩:=S2.dev.rules;have t0:=S2.dev.lt;go_wp2_with (refine zbM S2.host S2.n rfl rfl rfl ?_);refine hc3.mono ?_;rintro e wq ⟨A3,c3,k3,t3,rfl,hvc,-,-,P3,ns3,R3,tf3,sf3⟩;have S3:=S2.read tf3 (fun _ h=>h) (X':=OfRd gr c m ns3) fun b hb=>⟨zds sf3 hb,R3.lt hb⟩
  replace hva:=R2.bytes hva tf3;replace hvb:=R2.bytes hvb tf3;have hc4:=P3.hread S3 0 60;rw [HRB.out] at hc4;dsimp only at hc4;rw [HNB.out] at hc4;clear q0 f0 t0 hc3 S2 R2 P1 tf3 sf3;obtain ⟨q0,f0⟩:=S3.dev.rules;have t0:=S3.dev.lt;go_wp2_with (refine zbM S3.host S3.n rfl rfl rfl ?_);refine hc4.mono ?_;rintro e wd ⟨A4,c4,rfl,hvd,hbd⟩;have S4:=S3.step hbd;have R4:=R3.step hbd;have z1:=zaG (P:=Tryz.prog) (cap:=c1) (n:=na) (l:=la) wd 32 9 5 Tryz.underlying32 Tryz.underlying5 Tryz.underlying9 HNA.out (by have:=(IsB.open_ (hva.step hbd)).2.1;rwa [HNA.out] at this)
  have z2:=zaG (P:=Tryz.prog) (cap:=c2) (n:=na) (l:=la) wd 32 9 5 Tryz.underlying32 Tryz.underlying5 Tryz.underlying9 HNA.out (by have:=(IsB.open_ (hvb.step hbd)).2.1;rwa [HNA.out] at this)
  have z3:=zaG (P:=Tryz.prog) (cap:=c3) (n:=nb) (l:=lb) wd 32 9 5 Tryz.underlying32 Tryz.underlying5 Tryz.underlying9 HNB.out (by have:=(IsB.open_ (hvc.step hbd)).2.1;rwa [HNB.out] at this)
  have z4:=zaG (P:=Tryz.prog) (cap:=c4) (n:=nb) (l:=lb) wd 32 9 5 Tryz.underlying32 Tryz.underlying5 Tryz.underlying9 HNB.out (by have:=(IsB.open_ hvd).2.1;rwa [HNB.out] at this)
  clear q0 f0 t0 hc4 S3 R3 hva hvb hvc hvd hbd;go_wp2_with fail;go_roundw
  case rel=>exact ⟨i+1,_,_,_,_,_,_,_,_,by go_num,by omega,S4,R4,Lib.hid P3,⟨_,rfl⟩,⟨_,rfl⟩,⟨_,rfl⟩,⟨_,rfl⟩,⟨_,rfl⟩,⟨_,rfl⟩,⟨_,rfl⟩,⟨_,rfl⟩,⟨_,rfl⟩,_,rfl⟩
  case measure=>simp [intOf];omega
end Go.Proofs.YthblkdnijhphhaaGreat
