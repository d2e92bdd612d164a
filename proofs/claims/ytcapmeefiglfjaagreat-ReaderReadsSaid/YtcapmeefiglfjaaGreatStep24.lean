/- A part of the proof. -/
import Derived.Test.YtcapmeefiglfjaaGreatRef16
import Derived.Test.YtcapmeefiglfjaaGreatLive24j
set_option linter.unusedSimpArgs false
set_option maxHeartbeats 16000000
set_option maxRecDepth 100000
namespace Go.Proofs.YtcapmeefiglfjaaGreat
open Go.RowKit
abbrev J24 (d:Zd) (h:Ho):Prop:=eZ 4 400 f24 60 s60 d h
structure tU (d:Zd) (h:Ho) (d':Zd) (h':Ho):Prop where
 j:J24 d' h'
 on:mP d.z h.m h.ver d'.z h'.m h'.ver
 ver:h'.ver≤h.ver+1
 seq:h'.seq≤h.seq+61
def oqN (o:Oq):Int:=1+(o.n.tmod 4+4) % 4
def oqL (o:Oq):Int:=(o.lba.tmod 56+56) % 56
theorem zhP (o:Oq):1≤oqN o∧oqN o≤4∧0≤oqL o∧oqL o<56:=by
 unfold oqN oqL;omega
theorem mP.of_commit {d d':Zd} {h h':Ho} {r:Rc} (hv:h'.ver=h.ver+1) (hb:∀ b,(yT r b→∃ t,see h'.m b=some t∧t.1=h.ver∧(t.2.1<0↔r.kind=2)∧blockB d'.z h'.m b=zY r b)∧(¬yT r b→see h'.m b=see h.m b∧blockB d'.z h'.m b=blockB d.z h.m b)) :
 mP d.z h.m h.ver d'.z h'.m h'.ver:=⟨by omega,fun b=>by
 by_cases hc:yT r b
 · obtain ⟨t,h1,h2,_⟩:=(hb b).1 hc
   exact .inr ⟨t,h1,by omega⟩
 · obtain ⟨h1,h2⟩:=(hb b).2 hc
   exact .inl ⟨by rw [h1],h2⟩⟩
theorem zgt {L N:Nat} {by_:UInt8} (h:1≤N∧N≤4∧L<56):dW s60 ⟨1,L,N,List.replicate (16*N) by_⟩=0∧∀ v:Int,0≤v∧v≤1000000→lU 60 (recI v ⟨1,L,N,List.replicate (16*N) by_⟩):=by
 have hm:=zas (a:=L) (m:=N) (by omega) (by omega) (by omega)
 refine ⟨?_,fun v hv=>⟨.inl rfl,⟨by show (0:Int)≤L;omega,by show (1:Int)≤N;omega,by show (L:Int)+N≤60;omega⟩,by show (N:Int)≤256;omega,hv,⟨rfl,rfl⟩,fun _=>by show ((List.replicate (16*N) by_).length:Int)=16*N;rw [ziC];omega,fun h=>by have h9:(1:Int)=2:=h;omega⟩⟩
 unfold dW;rw [zig (by rw [ziT];exact ⟨⟨by show (0:Int)≤L;omega,by show (1:Int)≤N;omega,by show (N:Int)≤256;omega,by show (L:Int)≤1099511627776-N;omega⟩,by show ((List.replicate (16*N) by_).length:Int)=16*N;rw [ziC];omega⟩),zij hm]
theorem zgI {L N:Nat} (h:1≤N∧N≤4∧L<56):dW s60 ⟨2,L,N,[]⟩=0∧∀ v:Int,0≤v∧v≤1000000→lU 60 (recI v ⟨2,L,N,[]⟩):=by
 have hm:=zas (a:=L) (m:=N) (by omega) (by omega) (by omega)
 refine ⟨?_,fun v hv=>⟨.inr rfl,⟨by show (0:Int)≤L;omega,by show (1:Int)≤N;omega,by show (L:Int)+N≤60;omega⟩,by show (N:Int)≤256;omega,hv,⟨rfl,rfl⟩,fun h=>by have h9:(2:Int)=1:=h;omega,fun _=>rfl⟩⟩
 unfold dW;rw [zig (by rw [ziT];exact ⟨⟨by show (0:Int)≤L;omega,by show (1:Int)≤N;omega,by show (N:Int)≤1048576;omega,by show (L:Int)≤1099511627776-N;omega⟩,rfl⟩),zij hm]
abbrev Kz (K:Nat→Prop) (s r g:Nat) (b:Nat):Prop:=(Kq K s r b∧b<g)∨g+1+1<b
structure S6 (K:Nat→Prop) (w:World) (gd gh rd rh g:Nat) (wr:World) (d:Zd) (A:Option Addr) (c:Nat) (h:Ho) (cs:Array Value) (d':Zd) (A':Option Addr) (c':Nat) (h':Ho) (cs':Array Value):Prop where
 below:Below w.heap.size w wr
 ord:w.heap.size≤gd∧gd<gh∧gh<rd∧rd<rh∧rh<g
 dev:Blk wr gd 26 (zdC d A c)
 zl:IsL Rp.zone wr (Kz K w.heap.size rh g) (.slice A d.z.length c) d.z
 host:Blk wr gh 37 cs
 n:cs.size=15
 one:cs.toList.all (·.oneCell')=true
 hv:aY wr (Kz K w.heap.size rh g) (.agg cs) h
 brd:∃ a0 a1 a2 a3,Blk wr rd 26 #[a0,a1,a2,a3]
 brh:∃ cs',Blk wr rh 37 cs'∧cs'.size=15
 x:Blk wr (g+1) 26 (zdC d' A' c')
 xz:IsL Rp.zone wr (Kz K w.heap.size rh g) (.slice A' d'.z.length c') d'.z
 k:Blk wr (g+1+1) 37 cs'
 n':cs'.size=15
 one':cs'.toList.all (·.oneCell')=true
 hk:aY wr (Kz K w.heap.size rh g) (.agg cs') h'
section
variable {K:Nat→Prop} {w wr wr':World} {gd gh rd rh g:Nat} {d d' d9:Zd} {A A' A9:Option Addr} {c c' c9:Nat} {h h' h9:Ho} {cs cs' cs9:Array Value}
theorem S6.step (q:S6 K w gd gh rd rh g wr d A c h cs d' A' c' h' cs') (hb:Below wr.heap.size wr wr'):S6 K w gd gh rd rh g wr' d A c h cs d' A' c' h' cs':=by
 obtain ⟨a0,a1,a2,a3,hr⟩:=q.brd;obtain ⟨cs',hr',hn⟩:=q.brh;exact ⟨q.below.trans (hb.mono q.below.size),q.ord,q.dev.step hb,q.zl.step hb,q.host.step hb,q.n,q.one,q.hv.step hb,⟨a0,a1,a2,a3,hr.step hb⟩,⟨cs',hr'.step hb,hn⟩,q.x.step hb,q.xz.step hb,q.k.step hb,q.n',q.one',q.hk.step hb⟩
theorem S6.far (q:S6 K w gd gh rd rh g wr d A c h cs d' A' c' h' cs') {b:Nat} (hb:Kz K w.heap.size rh g b):b≠gd∧b≠gh∧b≠rd∧b≠rh∧b≠g+1∧b≠g+1+1:=by
 have:=q.ord;rcases hb with ⟨⟨_,hb⟩ | hb,h9⟩ | hb <;> omega
theorem S6.lt (q:S6 K w gd gh rd rh g wr d A c h cs d' A' c' h' cs'):g+1+1<wr.heap.size:=q.k.lt
theorem S6.turn (q:S6 K w gd gh rd rh g wr d A c h cs d' A' c' h' cs') {y:Nat} (ht:aA wr wr' (fun b=>b=y)) (hy:y=rd∨y=rh) (hrd:∃ a0 a1 a2 a3,Blk wr' rd 26 #[a0,a1,a2,a3]) (hrh:∃ cs',Blk wr' rh 37 cs'∧cs'.size=15):S6 K w gd gh rd rh g wr' d A c h cs d' A' c' h' cs':=by
 have ho:=q.ord;have hf:∀ b,Kz K w.heap.size rh g b→¬b=y:=fun b hb e=>by have:=q.far hb;omega
 exact ⟨aA.upon q.below ht (by omega) (zic _),q.ord,q.dev.turned ht (by omega),q.zl.turned ht hf,q.host.turned ht (by omega),q.n,q.one,aY.keep q.hv (ht.cells (K:=Kz K w.heap.size rh g) hf),hrd,hrh,q.x.turned ht (by omega),q.xz.turned ht hf,q.k.turned ht (by omega),q.n',q.one',aY.keep q.hk (ht.cells (K:=Kz K w.heap.size rh g) hf)⟩
theorem S6.tRd (q:S6 K w gd gh rd rh g wr d A c h cs d' A' c' h' cs') (ht:aA wr wr' (fun b=>b=rd)) {a0 a1 a2 a3:Value} (hB:Blk wr' rd 26 #[a0,a1,a2,a3]):S6 K w gd gh rd rh g wr' d A c h cs d' A' c' h' cs':=by
 obtain ⟨cr,hr',hn⟩:=q.brh;have ho:=q.ord;exact q.turn ht (.inl rfl) ⟨_,_,_,_,hB⟩ ⟨cr,hr'.turned ht (by omega),hn⟩
theorem S6.tRh (q:S6 K w gd gh rd rh g wr d A c h cs d' A' c' h' cs') (ht:aA wr wr' (fun b=>b=rh)) {cr:Array Value} (hB:Blk wr' rh 37 cr) (hn:cr.size=15):S6 K w gd gh rd rh g wr' d A c h cs d' A' c' h' cs':=by
 obtain ⟨a0,a1,a2,a3,hr⟩:=q.brd;have ho:=q.ord;exact q.turn ht (.inr rfl) ⟨a0,a1,a2,a3,hr.turned ht (by omega)⟩ ⟨cr,hB,hn⟩
theorem S6.tX (q:S6 K w gd gh rd rh g wr d A c h cs d' A' c' h' cs') {wy wz:World} (ht:aA wr wy (fun b=>b=g+1)) (hB:Blk wy (g+1) 26 (zdC d9 A9 c9)) (hz:IsL Rp.zone wr (Kz K w.heap.size rh g) (.slice A9 d9.z.length c9) d9.z) (ht':aA wy wz (fun b=>b=g+1+1)) (hB':Blk wz (g+1+1) 37 cs9) (hn:cs9.size=15) (h1:cs9.toList.all (·.oneCell')=true) (hh:aY wr (Kz K w.heap.size rh g) (.agg cs9) h9) :
 S6 K w gd gh rd rh g wz d A c h cs d9 A9 c9 h9 cs9:=by
 have ho:=q.ord;obtain ⟨a0,a1,a2,a3,hr⟩:=q.brd;obtain ⟨cr,hr',hnr⟩:=q.brh;have f1:∀ b,Kz K w.heap.size rh g b→¬b=g+1:=fun b hb e=>(q.far hb).2.2.2.2.1 e
 have f2:∀ b,Kz K w.heap.size rh g b→¬b=g+1+1:=fun b hb e=>(q.far hb).2.2.2.2.2 e
 exact ⟨aA.upon (aA.upon q.below ht (by omega) (zic _)) ht' (by omega) (zic _),q.ord,(q.dev.turned ht (by omega)).turned ht' (by omega),(q.zl.turned ht f1).turned ht' f2,(q.host.turned ht (by omega)).turned ht' (by omega),q.n,q.one,aY.keep (aY.keep q.hv (ht.cells (K:=Kz K w.heap.size rh g) f1)) (ht'.cells (K:=Kz K w.heap.size rh g) f2),
  ⟨a0,a1,a2,a3,(hr.turned ht (by omega)).turned ht' (by omega)⟩,⟨cr,(hr'.turned ht (by omega)).turned ht' (by omega),hnr⟩,hB.turned ht' (by omega),(hz.turned ht f1).turned ht' f2,hB',hn,h1,aY.keep (aY.keep hh (ht.cells (K:=Kz K w.heap.size rh g) f1)) (ht'.cells (K:=Kz K w.heap.size rh g) f2)⟩
theorem S6.kz (q:S6 K w gd gh rd rh g wr d A c h cs d' A' c' h' cs') {wx:World} {l:List Zn} {v:Value} (hz:IsL Rp.zone wx (fun b=>(Kz K w.heap.size rh g b∧b<wr.heap.size)∨wr.heap.size≤b) v l):IsL Rp.zone wx (Kz K w.heap.size rh g) v l:=
 hz.more fun b hb=>by have:=q.lt;rcases hb with hb | hb;exact hb.1;exact .inr (by omega)
theorem S6.kh (q:S6 K w gd gh rd rh g wr d A c h cs d' A' c' h' cs') {wx:World} {l:Ho} {v:Value} (hz:aY wx (fun b=>(Kz K w.heap.size rh g b∧b<wr.heap.size)∨wr.heap.size≤b) v l):aY wx (Kz K w.heap.size rh g) v l:=
 hz.more fun b hb=>by have:=q.lt;rcases hb with hb | hb;exact hb.1;exact .inr (by omega)
theorem Kz.out {s r b:Nat} (hr:s≤r) (hg:r<g) (hb:Kz K s r g b):K b∨s≤b:=by
 rcases hb with ⟨⟨hb,_⟩ | hb,_⟩ | hb;exact .inl hb;exact .inr (by omega);exact .inr (by omega)
end
theorem nU {d:Zd} {h:Ho} (hi:J24 d h) (hv:1≤h.ver∧h.ver≤1000) (hsq:h.seq≤100000) {o:Io} (he:dW s60 o=0) (hr:∀ v:Int,0≤v∧v≤1000000→lU 60 (recI v o)):zgQ d h [recI h.ver o]∧((bJ d h [o]).2.2=0→tU d h (bJ d h [o]).1 (bJ d h [o]).2.1):=by
 obtain ⟨h1,h2⟩:=zaB hi he (hr _ (by omega)) (by omega) (by omega)
 refine ⟨h1,fun h0=>?_⟩
 rcases h2 with h2 | ⟨d',h',e,j,hv',hs',hb⟩
 · rw [h2] at h0;cases h0
 · rw [e]
   exact ⟨j,mP.of_commit hv' hb,by show h'.ver≤_;omega,by show h'.seq≤_;omega⟩
theorem zbr {d:Zd} {h:Ho} (hi:J24 d h) (hv:1≤h.ver∧h.ver≤1000) (hsq:h.seq≤100000) (o:Oq) (i:Int) (hii:0≤i∧i≤1000) (Az:Option Addr) (cz:Nat) (v:Value) (K:Nat→Prop) (w:World) (hzl:IsL Rp.zone w K (.slice Az d.z.length cz) d.z) (hho:aY w K v h) (hK:∀ b,K b→b<w.heap.size) :
 Calls Tryz.prog 8 #[.agg (zdC d Az cz),v,.agg #[.int .i64 o.op,.int .i64 o.lba,.int .i64 o.n],.int .i64 i] w fun e w'=>∃ dv vh d' h',e=.returned (.tuple #[dv,vh])∧mG w' (fun b=>K b∨w.heap.size≤b) dv vh d' h'∧tU d h d' h'∧Below w.heap.size w w':=by
 obtain ⟨hc,rfl,hn15,h115,-⟩:=eJ hho;obtain ⟨Q,hZ⟩:=Q4.start2 (a0:=.int .i64 0) (a1:=.int .i64 0) (a2:=.int .i64 0) (a3:=.slice none 0 0) (cr:=#[.int .i64 0,.slice none 0 0,.slice none 0 0,.bool false,.int .i64 0,.int .i64 0,.int .i64 0,.int .i64 0,.int .i64 0,.int .i64 0,.slice none 0 0,.slice none 0 0,.slice none 0 0,.int .i64 0,.int .i64 0]) hzl hho hn15 h115 hK #[.int .i64 o.op,.int .i64 o.lba,.int .i64 o.n] 45 rfl;have hin:=zhP o;have b1:=Int.tmod_lt_of_pos o.lba (show (0:Int)<56 by omega)
 have b2:=Int.lt_tmod_of_pos o.lba (show (0:Int)<56 by omega)
 have b3:=Int.tmod_lt_of_pos o.n (show (0:Int)<4 by omega)
 have b4:=Int.lt_tmod_of_pos o.n (show (0:Int)<4 by omega)
 clear hzl hho;go_enter Tryz.func8,Tryz.ntmps8
 go_upto_region 1 with fail;generalize ((((w.alloc (.cells (zdC d Az cz) 26)).alloc (.cells hc 37)).alloc (.cells #[.int .i64 o.op,.int .i64 o.lba,.int .i64 o.n] 45)).alloc (.cells #[.int .i64 0,.int .i64 0,.int .i64 0,.slice none 0 0] 26)).alloc (.cells #[.int .i64 0,.slice none 0 0,.slice none 0 0,.bool false,.int .i64 0,.int .i64 0,.int .i64 0,.int .i64 0,.int .i64 0,.int .i64 0,.slice none 0 0,.slice none 0 0,.slice none 0 0,.int .i64 0,.int .i64 0] 37)=w1 at Q hZ ⊢;obtain ⟨qz,fz⟩:=hZ.rules;have tz:=hZ.lt;go_upto_region 3 with fail;obtain ⟨N,hN⟩:∃ N:Nat,(1+o.n.tmod 4 % 4).toNat=N:=⟨_,rfl⟩;obtain ⟨L,hL⟩:∃ L:Nat,((o.lba.tmod 56+56) % 56).toNat=L:=⟨_,rfl⟩;have hN1:1+o.n.tmod 4 % 4=(N:Int):=by omega
 have hL1:(o.lba.tmod 56+56) % 56=(L:Int):=by omega
 have hNL:1≤N∧N≤4∧L<56:=by omega
 rw [hN1,hL1];generalize (o.n.tmod 4+4) % 4=x1;generalize o.n.tmod 4+4=x5;generalize o.n.tmod 4=x2;generalize o.lba.tmod 56+56=x3;generalize o.lba.tmod 56=x4;have h8:IntKind.u8.wrap (1+i)=((b8 (1+i)).toNat:Int):=(zgw _).symm;have wi:IntKind.i64.wrap (1+i)=1+i:=ziI _ (by omega)
 have wm:IntKind.i64.wrap (16*(N:Int))=((16*N:Nat):Int):=ziI _ (by omega)
 have hfi:=fun W=>qY (b8 (1+i)) (16*N) W (by omega)
 generalize b8 (1+i)=by_ at h8 hfi;clear hN hL hN1 hL1 b1 b2 b3 b4 hin;go_wp2_with fail;refine (hfi _).mono ?_;rintro e w2 ⟨A2,c2,rfl,own2,hb2⟩;have Q2:=Q.step hb2;have hZ2:=hZ.step hb2;have hIB:IsB w2 (fun b=>w1.heap.size≤b) (.slice A2 (16*N) c2) (List.replicate (16*N) by_):=by
  have h9:=IsB.of_own (l:=List.replicate (16*N) by_) (by rw [ziC];exact own2) (by rw [ziC];omega)
  rwa [ziC] at h9
 clear qz fz tz Q hZ hfi h8 wi wm own2 hb2;obtain ⟨qz,fz⟩:=hZ2.rules;have tz:=hZ2.lt;go_upto_region 7 with fail;have E:=(((Kn.start w2).push 69 #[.int .i64 1,.int .i64 L,.int .i64 N,.slice A2 (16*N) c2]).push 26 #[.int .i64 0,.int .i64 0,.int .i64 0,.slice none 0 0]).push 37 #[.int .i64 0,.slice none 0 0,.slice none 0 0,.bool false,.int .i64 0,.int .i64 0,.int .i64 0,.int .i64 0,.int .i64 0,.int .i64 0,.slice none 0 0,.slice none 0 0,.slice none 0 0,.int .i64 0,.int .i64 0];simp only [zid] at E;have Q3:=Q2.step E.below;have hZ3:=hZ2.step E.below;have hIB3:=hIB.step E.below;have hlt3:=Q2.lt;have hzl3:=Q2.zl.zlt.step E.below;have hhv3:=(aY.lt Q2.hv).step E.below;generalize ((w2.alloc (.cells #[.int .i64 1,.int .i64 L,.int .i64 N,.slice A2 (16*N) c2] 69)).alloc (.cells #[.int .i64 0,.int .i64 0,.int .i64 0,.slice none 0 0] 26)).alloc (.cells #[.int .i64 0,.slice none 0 0,.slice none 0 0,.bool false,.int .i64 0,.int .i64 0,.int .i64 0,.int .i64 0,.int .i64 0,.int .i64 0,.slice none 0 0,.slice none 0 0,.slice none 0 0,.int .i64 0,.int .i64 0] 37)=w3 at E Q3 hZ3 hIB3 hzl3 hhv3 ⊢;have hW3:=E.at_ m2;have hX3:=E.at_ m1;have hY3:=E.at_ m0;obtain ⟨g,hg⟩:∃ g,w2.heap.size=g:=⟨_,rfl⟩;rw [hg] at hW3 hX3 hY3 hlt3 hzl3 hhv3 ⊢;clear E Q2 hZ2 hIB qz fz tz hg;go_cut [37] (fun x37 wx=>∃ p:Int,x37=.int .i64 p∧wx=w3)
 case first=>
  obtain ⟨qz,fz⟩:=hZ3.rules;have tz:=hZ3.lt;go_wp2_with fail;go_meet;exact ⟨_,rfl,rfl⟩
 case rest=>
  obtain ⟨p,rfl,rfl⟩:=hcut;rename_i a9;refine a9 _ _ ?_;have hord:=Q3.ord;have T3:S6 K w w.heap.size (w.heap.size+1) (w.heap.size+1+1+1) (w.heap.size+1+1+1+1) g wc d Az cz h hc cQ none 0 fY #[.int .i64 0,.slice none 0 0,.slice none 0 0,.bool false,.int .i64 0,.int .i64 0,.int .i64 0,.int .i64 0,.int .i64 0,.int .i64 0,.slice none 0 0,.slice none 0 0,.slice none 0 0,.int .i64 0,.int .i64 0]:=
   { below:=Q3.below,ord:=by omega,dev:=Q3.dev,zl:=hzl3.more fun b hb=>.inl hb,host:=Q3.host,n:=Q3.n,one:=Q3.one,hv:=hhv3.more fun b hb=>.inl hb,brd:=Q3.rd,brh:=Q3.rh,x:=hX3,xz:=IsL.nil_ _ _,k:=hY3,n':=rfl,one':=rfl,hk:=⟨_,_,_,_,_,rfl,IsL.nil_ _ _,IsL.nil_ _ _,IsB.nil_ _ _,IsL.nil_ _ _,IsL.nil_ _ _⟩ }
  clear Q3 hzl3 hhv3 hX3 hY3 hord;go_cut [15] from 37 to 72 (fun x15 wx=>∃ (e:Int) (d':Zd) (h':Ho) (A7:Option Addr) (c7:Nat) (cs7:Array Value),x15=.int .i64 e∧S6 K w w.heap.size (w.heap.size+1) (w.heap.size+1+1+1) (w.heap.size+1+1+1+1) g wx d Az cz h hc d' A7 c7 h' cs7∧(e=0→tU d h d' h'))
  case first=>
   by_cases h0:p=0
   case pos=>
    subst h0;have hcm:=nU hi hv hsq ((zgt (by_:=by_) hNL)).1 ((zgt (by_:=by_) hNL)).2;have herl:eY (bE h.ver [⟨1,L,N,List.replicate (16*N) by_⟩])=0:=kL fun r hr=>by rw [ziw.1 hr];exact (((zgt (by_:=by_) hNL)).2 _ (by omega)).fit (by decide)
    have hio:=zQ (w:=wc) (o:=⟨1,L,N,List.replicate (16*N) by_⟩) rfl hIB3 ⟨by dsimp only;omega,by dsimp only;omega,by dsimp only;omega⟩
    have T4:=T3.step ((zif _ _).alloc (zic _) (.cells #[.int .i64 1,.int .i64 L,.int .i64 N,.slice A2 (16*N) c2] 69));have hlw:=zid wc (.cells #[.int .i64 1,.int .i64 L,.int .i64 N,.slice A2 (16*N) c2] 69);obtain ⟨w4,hw4⟩:∃ w4,wc.alloc (.cells #[.int .i64 1,.int .i64 L,.int .i64 N,.slice A2 (16*N) c2] 69)=w4:=⟨_,rfl⟩;rw [hw4] at T4 hio;have hco:=kM d Az cz h (.agg hc) (some ⟨wc.heap.size,0,none⟩) 1 [⟨1,L,N,List.replicate (16*N) by_⟩] (fun b=>Kz K w.heap.size (w.heap.size+1+1+1+1) g b∧b<w4.heap.size) _ w4 T4.zl.zlt (aY.lt T4.hv) hio (fun b hb=>hb.2) hi.okd (hi.okho (by omega)) (hi.small (by decide)) (by omega) (by simp) (by simp) (fun _=>herl) (fun _ h0=>hcm.1 h0)
    obtain ⟨r,hr⟩:∃ r,bJ d h [⟨1,L,N,List.replicate (16*N) by_⟩]=r:=⟨_,rfl⟩;rw [hr] at hco hcm;have HCM:=zia hcm.2;obtain ⟨qd,fd⟩:=T3.dev.rules;obtain ⟨qw,fw⟩:=hW3.rules;clear herl hcm hr;go_wp2_with (refine eG T3.host T3.n rfl rfl rfl ?_);try rw [hw4]
    refine hco.mono ?_;rintro e w5 ⟨dv,vh,rfl,⟨⟨A7,c7,rfl,hz7⟩,hh7⟩,hb5⟩;obtain ⟨cs7,rfl,hn7,h17,-⟩:=eJ hh7;have T5:=T4.step hb5;replace hz7:=T4.kz hz7;replace hh7:=T4.kh hh7;have q0:=T5.x;have q1:=T5.k;clear hco qd fd T3 T4 hb5 hw4 hlw hio;go_wp2_with (first | (refine eU q0 rfl rfl rfl rfl rfl (by rfl) (by rfl) ?_;intro w8 hs8 ht8 hB8) | (refine jT (q1.turned ht8 (by omega)) T5.n' rfl rfl rfl rfl hn7 h17 ?_;intro w9 hs9 ht9 hB9))
    have T9:=T5.tX (d9:=r.1) (h9:=r.2.1) ht8 hB8 hz7 ht9 hB9 hn7 h17 hh7;go_meet;exact ⟨r.2.2,r.1,r.2.1,A7,c7,cs7,rfl,T9,HCM.out⟩
   case neg=>
    by_cases h1:p=1
    case pos=>
     subst h1;have hcm:=nU hi hv hsq ((zgI hNL)).1 ((zgI hNL)).2;have herl:eY (bE h.ver [⟨2,L,N,[]⟩])=0:=kL fun r hr=>by rw [ziw.1 hr];exact (((zgI hNL)).2 _ (by omega)).fit (by decide)
     have hio:=zQ (w:=wc) (K:=fun _=>False) (A:=none) (c:=0) (n:=0) (o:=⟨2,L,N,[]⟩) rfl (IsB.nil_ _ _) ⟨by dsimp only;omega,by dsimp only;omega,by dsimp only;omega⟩
     have T4:=T3.step ((zif _ _).alloc (zic _) (.cells #[.int .i64 2,.int .i64 L,.int .i64 N,.slice none 0 0] 69));have hlw:=zid wc (.cells #[.int .i64 2,.int .i64 L,.int .i64 N,.slice none 0 0] 69);obtain ⟨w4,hw4⟩:∃ w4,wc.alloc (.cells #[.int .i64 2,.int .i64 L,.int .i64 N,.slice none 0 0] 69)=w4:=⟨_,rfl⟩;rw [hw4] at T4 hio;have hco:=kM d Az cz h (.agg hc) (some ⟨wc.heap.size,0,none⟩) 1 [⟨2,L,N,[]⟩] (fun b=>Kz K w.heap.size (w.heap.size+1+1+1+1) g b∧b<w4.heap.size) _ w4 T4.zl.zlt (aY.lt T4.hv) hio (fun b hb=>hb.2) hi.okd (hi.okho (by omega)) (hi.small (by decide)) (by omega) (by simp) (by simp) (fun _=>herl) (fun _ h0=>hcm.1 h0)
     obtain ⟨r,hr⟩:∃ r,bJ d h [⟨2,L,N,[]⟩]=r:=⟨_,rfl⟩;rw [hr] at hco hcm;have HCM:=zia hcm.2;obtain ⟨qd,fd⟩:=T3.dev.rules;clear herl hcm hr;go_wp2_with (refine eG T3.host T3.n rfl rfl rfl ?_);try rw [hw4]
     refine hco.mono ?_;rintro e w5 ⟨dv,vh,rfl,⟨⟨A7,c7,rfl,hz7⟩,hh7⟩,hb5⟩;obtain ⟨cs7,rfl,hn7,h17,-⟩:=eJ hh7;have T5:=T4.step hb5;replace hz7:=T4.kz hz7;replace hh7:=T4.kh hh7;have q0:=T5.x;have q1:=T5.k;clear hco qd fd T3 T4 hb5 hw4 hlw hio;go_wp2_with (first | (refine eU q0 rfl rfl rfl rfl rfl (by rfl) (by rfl) ?_;intro w8 hs8 ht8 hB8) | (refine jT (q1.turned ht8 (by omega)) T5.n' rfl rfl rfl rfl hn7 h17 ?_;intro w9 hs9 ht9 hB9))
     have T9:=T5.tX (d9:=r.1) (h9:=r.2.1) ht8 hB8 hz7 ht9 hB9 hn7 h17 hh7;go_meet;exact ⟨r.2.2,r.1,r.2.1,A7,c7,cs7,rfl,T9,HCM.out⟩
    case neg=>
     by_cases h2:p=2
     case pos=>
      subst h2;have hru:=fun z hz=>zgh hi (by decide) (by omega) (by omega) z hz Az cz (.agg hc) (fun b=>Kz K w.heap.size (w.heap.size+1+1+1+1) g b∧b<wc.heap.size) wc T3.zl.zlt (aY.lt T3.hv) (fun b hb=>hb.2)
      have b5:=Int.tmod_lt_of_pos (L:Int) (show (0:Int)<4 by omega)
      have b6:=Int.tmod_nonneg 4 (show (0:Int)≤L by omega)
      obtain ⟨qd,fd⟩:=T3.dev.rules;go_wp2_with (refine eG T3.host T3.n rfl rfl rfl ?_);refine (hru _ (by constructor <;> first | assumption | omega)).mono ?_
      rintro e w5 ⟨dv,vh,er,d',h',rfl,⟨⟨A7,c7,rfl,hz7⟩,hh7⟩,hst,hb5⟩;obtain ⟨cs7,rfl,hn7,h17,-⟩:=eJ hh7;have T5:=T3.step hb5;replace hz7:=T3.kz hz7;replace hh7:=T3.kh hh7;have q0:=T5.x;have q1:=T5.k;have HST:Hid (er=0→tU d h d' h'):=zia fun e=>by
       obtain ⟨u1,u2,u3,u4⟩:=hst e;exact ⟨u1,by rw [u3];exact mP.of_same u2,by omega,by omega⟩
      clear hru qd fd T3 hb5 hst b5 b6;go_wp2_with (first | (refine eU q0 rfl rfl rfl rfl rfl (by rfl) (by rfl) ?_;intro w8 hs8 ht8 hB8) | (refine jT (q1.turned ht8 (by omega)) T5.n' rfl rfl rfl rfl hn7 h17 ?_;intro w9 hs9 ht9 hB9))
      have T9:=T5.tX (d9:=d') (h9:=h') ht8 hB8 hz7 ht9 hB9 hn7 h17 hh7;go_meet;exact ⟨er,d',h',A7,c7,cs7,rfl,T9,HST.out⟩
     case neg=>
      go_wp2_with fail;go_meet;exact ⟨1,cQ,fY,none,0,_,rfl,T3,fun h=>absurd h (by decide)⟩
  case rest=>
   clear T3 hZ3 hW3 hIB3;obtain ⟨e,d',h',A7,c7,cs7,rfl,T3,hst⟩:=hcut;have HST:=zia hst;clear hst a9;by_cases he:e=0
   case neg=>
    have heb:(e != 0)=true:=by simpa using he
    go_upto_region 15 with fail;have hb0:Below wc.heap.size wc wc.drew:=(zif _ _).drew;have Td:=T3.step hb0;have hord:=Td.ord;refine wp_region_held_drew (S:=fun W=>(∀ o,W.cell? ⟨w.heap.size,o,none⟩=(zdC d Az cz)[o]?)∧∀ o,W.cell? ⟨w.heap.size+1,o,none⟩=hc[o]?) (by kernel_rfl) ⟨Td.dev.rules.1,Td.host.rules.1⟩ (fun hHeld=>?_)
    obtain ⟨a0,a1,a2,a3,hRd⟩:=Td.brd;obtain ⟨cr,hRh,hnr⟩:=Td.brh;generalize wc.drew=wx at Td hRd hRh hHeld ⊢;clear T3 hb0;refine wT 0 75 ?_;refine wT 1 76 ?_ (hy:=by intro w hSw;(try dsimp only at hSw);refine zkF (dU hSw.2 Td.n rfl rfl) ?_;with_reducible rfl)
    refine wRn 2 (fun K hK=>?_)
    refine fN rfl hRd rfl rfl rfl rfl rfl (by rfl) ?_
    intro wy hsy hty hBy;have Ty:=Td.tRd hty hBy;refine hK.out _ _ ⟨Ty.dev.rules.1,Ty.host.rules.1⟩ (fun hHeld=>?_)
    clear hK K;try simp only [Act.put,ziY,List.set_cons_zero,List.set_cons_succ]
    refine wRn 3 (fun K hK=>?_)
    refine jX rfl (hRh.turned hty (by omega)) hnr rfl rfl rfl Td.n Td.one ?_
    intro wz hsz htz hBz;have Tz:=Ty.tRh htz hBz Td.n;have hBy2:=hBy.turned htz (by omega)
    refine hK.out _ _ ⟨Tz.dev.rules.1,Tz.host.rules.1⟩ (fun hHeld=>?_)
    clear hK K;try simp only [Act.put,ziY,List.set_cons_zero,List.set_cons_succ]
    refine wpAnyH_done (by kernel_rfl) ?_ _
    go_wp2_with fail;have hl1:=eR hBz Td.n;have hl0:=cY hBy2 rfl;exact zik (v:=.tuple #[.agg (zdC d Az cz),.agg hc]) (by simp [results,Tryz.results8,asAddr,hl0,hl1,Result.andThen]) rfl ⟨_,_,d,h,rfl,⟨⟨Az,cz,rfl,Tz.zl.more fun b hb=>Kz.out (by omega) (by omega) hb⟩,aY.more Tz.hv fun b hb=>Kz.out (by omega) (by omega) hb⟩,⟨hi,mP.of_same (iO.refl _ _),by omega,by omega⟩,Tz.below⟩
   case pos=>
    subst he;go_upto_region 16 with fail;have hb0:Below wc.heap.size wc wc.drew:=(zif _ _).drew;have Td:=T3.step hb0;have hord:=Td.ord;refine wp_region_held_drew (S:=fun W=>(∀ o,W.cell? ⟨g+1,o,none⟩=(zdC d' A7 c7)[o]?)∧∀ o,W.cell? ⟨g+1+1,o,none⟩=cs7[o]?) (by kernel_rfl) ⟨Td.x.rules.1,Td.k.rules.1⟩ (fun hHeld=>?_)
    obtain ⟨a0,a1,a2,a3,hRd⟩:=Td.brd;obtain ⟨cr,hRh,hnr⟩:=Td.brh;generalize wc.drew=wx at Td hRd hRh hHeld ⊢;clear T3 hb0;refine wT 0 77 ?_;refine wT 1 78 ?_ (hy:=by intro w hSw;(try dsimp only at hSw);refine zkF (dU hSw.2 Td.n' rfl rfl) ?_;with_reducible rfl)
    refine wRn 2 (fun K hK=>?_)
    refine fN rfl hRd rfl rfl rfl rfl rfl (by rfl) ?_
    intro wy hsy hty hBy;have Ty:=Td.tRd hty hBy;refine hK.out _ _ ⟨Ty.x.rules.1,Ty.k.rules.1⟩ (fun hHeld=>?_)
    clear hK K;try simp only [Act.put,ziY,List.set_cons_zero,List.set_cons_succ]
    refine wRn 3 (fun K hK=>?_)
    refine jX rfl (hRh.turned hty (by omega)) hnr rfl rfl rfl Td.n' Td.one' ?_
    intro wz hsz htz hBz;have Tz:=Ty.tRh htz hBz Td.n';have hBy2:=hBy.turned htz (by omega)
    refine hK.out _ _ ⟨Tz.x.rules.1,Tz.k.rules.1⟩ (fun hHeld=>?_)
    clear hK K;try simp only [Act.put,ziY,List.set_cons_zero,List.set_cons_succ]
    refine wpAnyH_done (by kernel_rfl) ?_ _
    go_wp2_with fail;have hl1:=eR hBz Td.n';have hl0:=cY hBy2 rfl;exact zik (v:=.tuple #[.agg (zdC d' A7 c7),.agg cs7]) (by simp [results,Tryz.results8,asAddr,hl0,hl1,Result.andThen]) rfl ⟨_,_,rfl,d',h',⟨⟨A7,c7,rfl,Tz.xz.more fun b hb=>Kz.out (by omega) (by omega) hb⟩,aY.more Tz.hk fun b hb=>Kz.out (by omega) (by omega) hb⟩,HST.out trivial,Tz.below⟩
