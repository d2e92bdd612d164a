/- A part of the proof. -/
import Derived.Test.YthblkdnijhphhaaGreatStep24
set_option linter.unusedSimpArgs false
set_option maxHeartbeats 16000000
set_option maxRecDepth 100000
namespace Go.Proofs.YthblkdnijhphhaaGreat
open Go.RowKit
section
variable {Kd Kd':Nat→Prop} {w w':World} {gr c m gr' c' m':Nat} {ns ns':List Nat} {k k':Ca} {t t':Int}
theorem IsRd.beside (q:IsRd Kd' w gr' c' m' ns' k' t') (h:IsRd Kd w gr c m ns k t) (ht:za0 w w' (OfRd gr c m ns)) (hap:∀ b,OfRd gr' c' m' ns' b→¬OfRd gr c m ns b):IsRd Kd' w' gr' c' m' ns' k' t':=by
 obtain ⟨hB,dt,ah,af,⟨⟨n1,n2⟩,n3,n4,n5,n6⟩,n7⟩:=q;refine ⟨hB.turned ht (hap gr' (.inl rfl)),dt,ah,af,⟨⟨n1.turned ht (hap c' (.inr (.inr (List.mem_cons_self ..)))),fun g hg=>?_⟩,n3,n4.turned ht (hap m' (.inr (.inl rfl))),n5,n6⟩,n7⟩
 obtain ⟨v,e1,e2⟩:=n2 g hg;exact ⟨v,e1.turned ht (hap g (.inr (.inr (List.mem_cons_of_mem _ hg)))),h.bytes e2 ht⟩
end
theorem zbC {gr c m N b:Nat} {ns ns':List Nat} (s:∀ g∈ns',g∈ns∨N≤g) (h:OfRd gr c m ns' b):OfRd gr c m ns b∨N≤b:=by
 rcases h with h | h | h
 · exact .inl (.inl h)
 · exact .inl (.inr (.inl h))
 · rcases List.mem_cons.1 h with h | h
   · exact .inl (.inr (.inr (by rw [h];exact List.mem_cons_self ..)))
   · rcases s b h with h | h
     · exact .inl (.inr (.inr (List.mem_cons_of_mem _ h)))
     · exact .inr h
structure SD (w:World) (gd:Nat) (wr:World) (d:Zd) (A:Option Addr) (c:Nat) (h:Ho) (cs:Array Value) (X:Nat→Prop):Prop where
 below:Below w.heap.size w wr
 g0:w.heap.size≤gd
 dev:Blk wr gd 27 (zdC d A c)
 host:Blk wr (gd+1) 38 cs
 n:cs.size=15
 one:cs.toList.all (·.oneCell')=true
 xl:∀ b,X b→gd+1<b∧b<wr.heap.size
 at_:∃ K:Nat→Prop,IsL Rp.zone wr K (.slice A d.z.length c) d.z∧IsHo wr K (.agg cs) h∧∀ b,K b→b<wr.heap.size∧b≠gd∧b≠gd+1∧¬X b
section
variable {w wr wr' wy wz:World} {gd:Nat} {d d':Zd} {A A':Option Addr} {c c':Nat} {h h':Ho} {cs cs':Array Value} {X X':Nat→Prop}
theorem SD.step (q:SD w gd wr d A c h cs X) (hb:Below wr.heap.size wr wr'):SD w gd wr' d A c h cs X:=by
 obtain ⟨K,h1,h2,h3⟩:=q.at_;exact ⟨q.below.trans (hb.mono q.below.size),q.g0,q.dev.step hb,q.host.step hb,q.n,q.one,fun b hb'=>⟨(q.xl b hb').1,Nat.lt_of_lt_of_le (q.xl b hb').2 hb.size⟩,K,h1.step hb,h2.step hb,fun b hb'=>⟨Nat.lt_of_lt_of_le (h3 b hb').1 hb.size,(h3 b hb').2⟩⟩
theorem SD.read (q:SD w gd wr d A c h cs X) {Y:Nat→Prop} (ht:za0 wr wr' Y) (hY:∀ b,Y b→X b) (hX:∀ b,X' b→(X b∨wr.heap.size≤b)∧b<wr'.heap.size):SD w gd wr' d A c h cs X':=by
 obtain ⟨K,h1,h2,h3⟩:=q.at_;have hl:=q.host.lt;have hK:∀ b,K b→¬Y b:=fun b hb hy=>(h3 b hb).2.2.2 (hY b hy)
 refine ⟨q.below.trans (ht.below (fun k hk=>by have:=(q.xl k (hY k hk)).1;have:=q.g0;omega) q.below.size),q.g0,q.dev.turned ht (fun hy=>by have:=(q.xl _ (hY _ hy)).1;omega),q.host.turned ht (fun hy=>by have:=(q.xl _ (hY _ hy)).1;omega),q.n,q.one,fun b hb=>⟨?_,(hX b hb).2⟩,K,h1.turned ht hK,IsHo.keep h2 (ht.cells hK),fun b hb=>⟨Nat.lt_of_lt_of_le (h3 b hb).1 ht.size,(h3 b hb).2.1,(h3 b hb).2.2.1,fun hx=>?_⟩⟩
 · rcases (hX b hb).1 with h9 | h9
   · exact (q.xl b h9).1
   · omega
 · rcases (hX b hx).1 with h9 | h9
   · exact (h3 b hb).2.2.2 h9
   · have:=(h3 b hb).1;omega
theorem SD.move (q:SD w gd wr d A c h cs X) {K:Nat→Prop} (hz:IsL Rp.zone wr K (.slice A' d'.z.length c') d'.z) (hh:IsHo wr K (.agg cs') h') (hK:∀ b,K b→b≠gd∧b≠gd+1∧¬X b) (hn:cs'.size=15) (h1:cs'.toList.all (·.oneCell')=true)
 (ht:za0 wr wy (fun b=>b=gd)) (hB:Blk wy gd 27 (zdC d' A' c')) (ht':za0 wy wz (fun b=>b=gd+1)) (hB':Blk wz (gd+1) 38 cs'):SD w gd wz d' A' c' h' cs' X:=by
 have t2:za0 wr wz (fun b=>b=gd∨b=gd+1):=(ht.mono fun b hb=>.inl hb).trans (ht'.mono fun b hb=>.inr hb)
 have hf:∀ b,K b∧b<wr.heap.size→¬(b=gd∨b=gd+1):=fun b hb e=>by have:=hK b hb.1;omega
 exact ⟨za0.upon (za0.upon q.below ht q.g0 (Nat.le_refl _)) ht' (by have:=q.g0;omega) (Nat.le_refl _),q.g0,hB.turned ht' (by omega),hB',hn,h1,fun b hb=>⟨(q.xl b hb).1,Nat.lt_of_lt_of_le (q.xl b hb).2 t2.size⟩,_,hz.zlt.turned t2 hf,IsHo.keep (IsHo.lt hh) (t2.cells hf),fun b hb=>⟨Nat.lt_of_lt_of_le hb.2 t2.size,hK b hb.1⟩⟩
end
structure Pl (a b:Nat) (d:Zd) (h:Ho) (k:Ca) (t:Int):Prop where
 j:J24 d h
 ver:1≤h.ver∧h.ver≤1+a
 seq:h.seq≤61*a
 fr:zb9 d.z h.m h.ver k
 hit:0≤k.hit∧k.hit≤256*b
 miss:0≤k.miss∧k.miss≤256*b
 trims:0≤t∧t≤256*b
 len:k.l.length≤256*b
section
variable {a b:Nat} {d d':Zd} {h h':Ho} {k:Ca} {t:Int}
theorem Pl.step (p:Pl a b d h k t) (s:zhI d h d' h'):Pl (a+1) b d' h' k t:=
 ⟨s.j,by have:=s.on.1;have:=s.ver;have:=p.ver;omega,by have:=s.seq;have:=p.seq;omega,p.fr.on s.on,p.hit,p.miss,p.trims,p.len⟩
theorem Pl.read (p:Pl a b d h k t) (lba n:Int):Pl a (b+1) d h (zbt d.z h k t lba n).1 (zbt d.z h k t lba n).2.1∧(zbt d.z h k t lba n).2.2=(zaH d.z h lba n).1:=by
 obtain ⟨h1,h2⟩:=p.fr.read p.j t lba n;obtain ⟨⟨g1,g2,g3,g4,g5⟩,g6,g7⟩:=zn0 (d:=d) (k:=k) p.j.chain t lba n p.hit.1 p.miss.1;have q1:=p.hit;have q2:=p.miss;have q3:=p.trims;have q4:=p.len;exact ⟨⟨p.j,p.ver,p.seq,h1,by omega,by omega,by omega,by omega⟩,h2⟩
theorem Pl.start (most:Int):Pl 0 0 (d24 4) (h24 4) ⟨most,[],0,0⟩ 0:=⟨zdD,by decide,by decide,zb9.nil _ _ _ _ _ _,by simp,by simp,by simp,by simp⟩
theorem Pl.vers (p:Pl a b d h k t) (ha:a≤1000):∀ e∈h.m,e.ver≤9223372036854775807:=fun e he=>by have:=p.j.oldE e he;have:=p.ver;omega
theorem Pl.rreadK (p:Pl a b d h k t) (ha:a≤1000) (hb:b≤1000) {W:World} {gr c m:Nat} {ns:List Nat} {A:Option Addr} {cA:Nat} {vh:Value} {Kd K:Nat→Prop} (h1:IsL Rp.zone W K (.slice A d.z.length cA) d.z) (h2:IsHo W K vh h) (hK:∀ b,K b→¬OfRd gr c m ns b) (r:IsRd Kd W gr c m ns k t) (hKd:∀ b,W.heap.size≤b→Kd b) (lba n:Int) :
 Calls Tryz.prog 10 #[.pointer (some ⟨gr,0,none⟩),.agg (zdC d A cA),vh,.int .i64 lba,.int .i64 n] W fun e w'=>
  ∃ Ao co k' t',e=.returned (.tuple #[.slice Ao (zaH d.z h lba n).1.length co,.int .i64 (zaH d.z h lba n).2])∧IsB w' (fun b=>W.heap.size≤b) (.slice Ao (zaH d.z h lba n).1.length co) (zaH d.z h lba n).1∧k'=(zbt d.z h k t lba n).1∧t'=(zbt d.z h k t lba n).2.1∧Pl a (b+1) d h k' t'∧zak Kd W w' gr c m ns k' t':=by
 have q1:=p.hit;have q2:=p.miss;have q3:=p.trims;have q4:=p.len;refine (zeQ r hKd d A cA h vh lba n K K h1 h2 hK hK p.j.okd p.j.chain p.j.fit (p.vers ha) (by omega) (by omega) (by omega) (by omega)).mono ?_
 rintro e w' ⟨vb,rfl,hv,hm⟩;obtain ⟨g1,g2⟩:=p.read lba n;rw [g2] at hv;obtain ⟨Ao,co,rfl,-⟩:=zab hv;exact ⟨Ao,co,_,_,rfl,hv,rfl,rfl,g1,hm⟩
theorem Pl.rread (p:Pl a b d h k t) (ha:a≤1000) (hb:b≤1000) {w W:World} {gd gr c m:Nat} {ns:List Nat} {A:Option Addr} {cA:Nat} {cs:Array Value} {X Kd:Nat→Prop} (q:SD w gd W d A cA h cs X) (r:IsRd Kd W gr c m ns k t) (hKd:∀ b,W.heap.size≤b→Kd b) (hX:∀ b,OfRd gr c m ns b→X b) (lba n:Int) :
 Calls Tryz.prog 10 #[.pointer (some ⟨gr,0,none⟩),.agg (zdC d A cA),.agg cs,.int .i64 lba,.int .i64 n] W fun e w'=>
  ∃ Ao co k' t',e=.returned (.tuple #[.slice Ao (zaH d.z h lba n).1.length co,.int .i64 (zaH d.z h lba n).2])∧IsB w' (fun b=>W.heap.size≤b) (.slice Ao (zaH d.z h lba n).1.length co) (zaH d.z h lba n).1∧k'=(zbt d.z h k t lba n).1∧t'=(zbt d.z h k t lba n).2.1∧Pl a (b+1) d h k' t'∧zak Kd W w' gr c m ns k' t':=by
 obtain ⟨K,h1,h2,h3⟩:=q.at_;exact p.rreadK ha hb h1 h2 (fun b hb ho=>(h3 b hb).2.2.2 (hX b ho)) r hKd lba n
end
section
variable {Kd:Nat→Prop} {w w':World} {gr c m:Nat} {ns:List Nat} {k:Ca} {t:Int}
theorem IsRd.ownE {base n size:Nat} {e:TypeId} {v:Value} {xs:List Value} (he:e≠58∧e≠96∧e≠89) (h:IsRd Kd w gr c m ns k t) (how:w.ownsRow base e size v n xs):∀ b,OfRd gr c m ns b→some b≠v.ownBlock:=fun b hb e'=>by
 obtain ⟨hB,dt,ah,af,h1,h2⟩:=h;rcases hb with rfl | rfl | hb
 · exact zba how hB he.1 e'.symm
 · obtain ⟨D,⟨es,kk,hm,_⟩,_⟩:=h1.map
   rcases how.2 with ⟨rfl,_⟩ | ⟨g',cap,cur,rfl,_,hh,_⟩
   · simp [Value.ownBlock] at e'
   · have:g'=b:=by simpa [Value.ownBlock] using e'.symm
     subst this;rw [hm] at hh;injection hh with hh;cases hh
 · rcases List.mem_cons.1 hb with h8 | h8
   · subst h8;exact zba how h1.nd.ca he.2.1 e'.symm
   · obtain ⟨v3,h3,_⟩:=h1.nd.en _ h8
     exact zba how h3 he.2.2 e'.symm
theorem IsRd.grewE {base n size:Nat} {e:TypeId} {v v':Value} {xs:List Value} (he:e≠58∧e≠96∧e≠89) (h:IsRd (KO Kd v) w gr c m ns k t) (how:w.ownsRow base e size v n xs) (hg:Grew base w w' v v'):IsRd (KO Kd v') w' gr c m ns k t:=by
 have hl:=h.ownE he how;have hg1:=hg.grown;have ht:za0 w w' (fun b=>some b=v.ownBlock):=⟨hg1.os,hg1.tape,hg1.output,hg1.size,fun i hi hn=>hg1.block i hi hn⟩
 refine h.turnedK ht hl fun b hb hlt=>⟨hb.2,hb.1,fun e=>?_⟩
 rcases hg.at_ with h9 | ⟨g,h9,h8⟩
 · exact hb.2 (e.trans h9)
 · rw [h9] at e
   injection e with e;omega
theorem za8.besideB {K:Nat→Prop} (r:IsRd Kd w gr c m ns k t) (ht:za0 w w' (OfRd gr c m ns)):∀ {cs:List Value} {l:List (List UInt8)},za8 Rp.bytes w K cs l→za8 Rp.bytes w' K cs l
 | _,[],h=>h
 | _,_::_,⟨c1,c2,e,⟨v,e1,hv⟩,h⟩=>⟨c1,c2,e,⟨v,e1,r.bytes hv ht⟩,za8.besideB r ht h⟩
theorem OwnR.besideB {base:Nat} {X:Nat→Prop} {v:Value} {l:List (List UInt8)} (h:OwnR Rp.bytes w base 32 X v l) (r:IsRd Kd w gr c m ns k t) (ht:za0 w w' (OfRd gr c m ns)):OwnR Rp.bytes w' base 32 X v l:=by
 obtain ⟨A,c',cs,rfl,h1,h2⟩:=h;exact ⟨A,c',cs,rfl,zfn h1 ht (r.ownE (by decide) h1),(za8.besideB r ht h2).more fun b hb=>⟨hb.1,Nat.lt_of_lt_of_le hb.2.1 ht.size,hb.2.2⟩⟩
end
theorem Tryz.infBs:(Tryz.prog.info? 32).map (fun i=>(i.zero,i.size,i.bytes))=some (some (.slice none 0 0),1,24):=by kernel_rfl
def rdS (d:Zd) (h:Ho) (s:Ca × Int) (p:A2):Ca × Int:=((zbt d.z h s.1 s.2 p.a p.b).1,(zbt d.z h s.1 s.2 p.a p.b).2.1)
abbrev outP (d:Zd) (h:Ho) (p:A2):List UInt8:=(zaH d.z h p.a p.b).1
abbrev errP (d:Zd) (h:Ho) (p:A2):Int:=(zaH d.z h p.a p.b).2
theorem zk6 {a b:Nat} {d:Zd} {h:Ho} {k:Ca} {t:Int} (p:Pl a b d h k t) (ha:a≤1000) {gr c m:Nat} {ns:List Nat} {Kd K Kl:Nat→Prop} (l:List A2) (hb:b+l.length≤1000) (Al:Option Addr) (cl:Nat) (A:Option Addr) (cA:Nat) (vh:Value) (w:World) (hz:IsL Rp.zone w K (.slice A d.z.length cA) d.z) (hh:IsHo w K vh h) (hK:∀ b,K b→b<w.heap.size∧¬OfRd gr c m ns b) (r:IsRd Kd w gr c m ns k t) (hKd:∀ b,w.heap.size≤b→Kd b) (hl:IsL Rp.a2 w Kl (.slice Al l.length cl) l) (hKl:∀ b,Kl b→b<w.heap.size∧¬OfRd gr c m ns b) :
 Calls Tryz.prog 9 #[.pointer (some ⟨gr,0,none⟩),.agg (zdC d A cA),vh,.slice Al l.length cl] w fun e w'=>
  ∃ vb er k' t',e=.returned (.tuple #[vb,.int .i64 er])∧zak Kd w w' gr c m ns k' t' ∧
    ((er=0∧(∀ p∈l,errP d h p=0)∧(k',t')=l.foldl (rdS d h) (k,t)∧Pl a (b+l.length) d h k' t'∧∃ Ao co,vb=.slice Ao l.length co∧IsL Rp.bytes w' (fun x=>w.heap.size≤x) vb (l.map (outP d h))) ∨
      (er≠0∧vb=.slice none 0 0∧∃ (j:Nat) (p:A2),l[j]?=some p∧er=errP d h p∧∀ (i:Nat) (q:A2),i<j→l[i]?=some q→errP d h q=0)):=by
 obtain ⟨hc,rfl,hn15,h115,-⟩:=zbo hh;obtain ⟨n,hn⟩:∃ n,l.length=n:=⟨_,rfl⟩;have hnl:=hl.len;rw [hn] at hl hb hnl ⊢;have HN:=Lib.hid hn;clear hn;have E:=(((Kn.start w).give za1.list hz).give za1.ho hh |>.push 27 (zdC d A cA) |>.push 38 hc)
 rw [World.size_alloc] at E;go_enter Tryz.func9,Tryz.ntmps9
 go_upto_region 2 with fail;have hbE:=E.below;have r2:=r.step hbE;have hl2:=hl.step hbE;have hz2:=E.get m1;have hh2:=E.get m0;have hB0:=E.at_ m1;have hB1:=E.at_ m0;have hsz2:((w.alloc (.cells (zdC d A cA) 27)).alloc (.cells hc 38)).heap.size=w.heap.size+1+1:=by simp [World.size_alloc]
 generalize (w.alloc (.cells (zdC d A cA) 27)).alloc (.cells hc 38)=w2 at r2 hl2 hz2 hh2 hB0 hB1 hbE hsz2 ⊢;have hw2:w.heap.size+1<w2.heap.size:=by omega
 have hrl:=fun {b}=>r.lt (b:=b)
 clear E hsz2 r hz hh hl;obtain ⟨i7,hi7,hx0,hx1,hx2⟩:=info_parts Tryz.infBs;go_upto_region 3 with fail;go_loopw [10,12,13,14,17] (fun x10 x12 x13 x14 x17 wr=>∃ (j:Nat) (A5:Option Addr) (c5:Nat) (k':Ca) (t':Int),x17=.int .i64 j∧j≤n∧x10=.slice A5 j c5∧OwnR Rp.bytes wr w2.heap.size 32 (fun b=>w2.heap.size≤b) (.slice A5 j c5) ((l.take j).map (outP d h))∧zak (KO Kd (.slice A5 j c5)) w2 wr gr c m ns k' t'∧Hid (Pl a (b+j) d h k' t'∧(k',t')=(l.take j).foldl (rdS d h) (k,t)∧∀ (i:Nat) (q:A2),i<j→l[i]?=some q→errP d h q=0)∧(∃ y,x12=y)∧(∃ y,x13=y)∧∃ y,x14=y) (fun _ _ _ _ x17 _=>n-(intOf x17).toNat)
 case atStart=>exact ⟨0,none,0,k,t,rfl,Nat.zero_le _,rfl,OwnR.nil_ _ _ _ _,zak.same (r2.moreK fun b hb _=>⟨hb,by simp [Value.ownBlock]⟩) (Below.refl _ _),Lib.hid ⟨p,rfl,fun i q hi=>absurd hi (Nat.not_lt_zero i)⟩,⟨_,rfl⟩,⟨_,rfl⟩,_,rfl⟩
 case round=>
  clear r2;obtain ⟨j,A5,c5,k',t',rfl,hj,rfl,hown,⟨ns1,R1,T1,s1⟩,HP,⟨y1,rfl⟩,⟨y2,rfl⟩,y3,rfl⟩:=hrel;by_cases hjn:j<n
  case neg=>
   obtain rfl:j=n:=by omega
   obtain ⟨P1,P2,P3⟩:=HP.out;have htk:l.take j=l:=List.take_of_length_le (by rw [HN.out];exact Nat.le_refl _)
   rw [htk] at P2 hown;have hil:=OwnR.isL hown (X':=fun x=>w.heap.size≤x) (by rw [List.length_map,HN.out];exact hnl) (fun b hb=>by omega) (fun b hb=>by omega)
   have hall:∀ p∈l,errP d h p=0:=fun p hp=>by
    obtain ⟨i,hi,rfl⟩:=List.getElem_of_mem hp;exact P3 i _ (by rw [←HN.out];exact hi) (List.getElem?_eq_getElem hi)
   have hrm:zak Kd w wr gr c m ns k' t':=zak.pre hbE ⟨ns1,R1.moreK (fun b hb _=>hb.1),T1,s1⟩
   clear hown HP R1 T1 s1 P3 htk;go_wp2_with fail;go_ret2;exact ⟨_,_,k',t',rfl,hrm,.inl ⟨rfl,hall,P2,P1,A5,c5,rfl,hil⟩⟩
  have j1:(j:Int)<(n:Int):=by omega
  have j0:(0:Int)≤(j:Int):=by omega
  have hlt:j<l.length:=by rw [HN.out];exact hjn
  have hje:=List.getElem?_eq_getElem hlt;have hl3:=hl2.turned T1 (fun b hb=>(hKl b hb).2)
  obtain ⟨ad,rfl,-,c0,c1,r0,r1⟩:=zo2 hl3 hje;generalize l[j]=e at c0 c1 r0 r1 hje;have HJE:=Lib.hid hje;clear hje hlt hl3;go_upto_region 5 with fail;have hba:Below wr.heap.size wr (wr.alloc (.cells #[.int .i64 e.a,.int .i64 e.b] 51)):=(Below.refl _ _).alloc (Nat.le_refl _) _;have hsa:=World.size_alloc wr (.cells #[.int .i64 e.a,.int .i64 e.b] 51);have Bp:=Blk.new wr 51 #[.int .i64 e.a,.int .i64 e.b] rfl;have T5:=T1.step hba;have R5:=R1.step hba;have hown5:=hown.step hba;have HSA:=Lib.hid hsa;generalize wr.alloc (.cells #[.int .i64 e.a,.int .i64 e.b] 51)=w5 at Bp T5 R5 hown5 HSA ⊢;have hs1:=T1.size;clear hsa hba R1 T1 hown c0 c1;have hz5:=hz2.turned T5 (fun b hb=>(hK b hb).2)
  have hh5:=IsHo.keep hh2 (T5.cells fun b hb=>(hK b hb).2)
  have hlt1:∀ b,K b→¬OfRd gr c m ns1 b:=fun b hb h9=>(zbC s1 h9).elim (hK b hb).2 (by have:=(hK b hb).1;omega)
  have hB05:=hB0.turned T5 (fun h9=>by have:=hrl h9;omega)
  have hB15:=hB1.turned T5 (fun h9=>by have:=hrl h9;omega)
  have hw5:=HSA.out;have hc1:=HP.out.1.rreadK ha (by omega) hz5 hh5 hlt1 R5 (fun b hb=>⟨hKd b (by omega),fun h9=>by have:=(OwnR.lt hown5 b h9.symm).2;omega⟩) e.a e.b
  have HEO:=Lib.hid (show errP d h e=(zaH d.z h e.a e.b).2 from rfl);have HLO:=Lib.hid (show outP d h e=(zaH d.z h e.a e.b).1 from rfl);obtain ⟨ro,hro⟩:∃ ro,zaH d.z h e.a e.b=ro:=⟨_,rfl⟩;rw [hro] at hc1 HEO HLO;obtain ⟨lo,eo⟩:=ro;obtain ⟨no,hno⟩:∃ no,lo.length=no:=⟨_,rfl⟩;dsimp only at hc1 HEO HLO;rw [hno] at hc1;have HNO:=Lib.hid hno;obtain ⟨q0,f0⟩:=hB05.rules;have t0:=hB05.lt;obtain ⟨q1,f1⟩:=Bp.rules;have t1:=Bp.lt;clear hro hno hz5 hh5 hw5;go_wp2_with (refine zbN hB15 hn15 rfl rfl rfl ?_);refine hc1.mono ?_;rintro x wa ⟨A6,c6,k6,t6,rfl,hv6,hk6,ht6,P6,ns6,R6,T6,s6⟩;clear hc1 q0 f0 t0 q1 f1 t1 hB05 hB15 Bp;by_cases he0:eo=0
  case neg=>
   have hrm:zak Kd w wa gr c m ns k6 t6:=zak.pre hbE (zak.on T5 s1 ⟨ns6,R6.moreK (fun b hb _=>hb.1),T6,s6⟩)
   go_wp2_with fail;go_ret2;exact ⟨_,_,k6,t6,rfl,hrm,.inr ⟨he0,rfl,j,e,HJE.out,HEO.out.symm,HP.out.2.2⟩⟩
  subst he0;have hw5:=HSA.out;have hown6:=hown5.besideB R5 T6;have hwa:=T6.size;have hown0:=hown6;obtain ⟨hjq,xs,hrow,hcl⟩:=hown6.open_;rw [←hjq] at hrow hcl;have HOL:=Lib.hid (OwnR.lt hown0);have HOL5:=Lib.hid (OwnR.lt hown5);have HJQ:=Lib.hid hjq;have hst:Below wa.heap.size wa (wa.alloc (.cells #[.slice A6 no c6] 32)):=(Below.refl _ _).alloc (Nat.le_refl _) _;have hrow':=za4 hrow hst (Nat.le_refl _);have hrn:za6 (wa.alloc (.cells #[.slice A6 no c6] 32)) (fun b=>b=wa.heap.size) 1 (some ⟨wa.heap.size,0,none⟩) 1 [.slice A6 no c6]:=za6.new rfl rfl rfl
  have hdb:=hv6.lt.step hst;have R6':=R6.step hst;have hw2a:w2.heap.size≤wa.heap.size:=by omega
  have hwra:wr.heap.size≤wa.heap.size:=by omega
  clear hjq hown5 hown0 hv6 hrow hw5;go_wp2_with (at_builtin;go_must (refine za5 rfl _ _ _ rfl w2.heap.size 32 i7 _ 1 24 Tryz.underlying47 hi7 hx0 hx1 hx2 rfl (by omega) rfl hrow' rfl hrn (by simp [Value.oneCell']) (by simp only [maxLen];omega) (by omega) (by simp;omega) ?_);intro A10 c10 w10 own10 hg10)
  have hX:Rp.bytes.is (wa.alloc (.cells #[.slice A6 no c6] 32)) (fun b=>w2.heap.size≤b∧b<(wa.alloc (.cells #[.slice A6 no c6] 32)).heap.size∧some b≠(Value.slice A5 j c5).ownBlock) [.slice A6 no c6] (outP d h e):=by
   have hw5:=HSA.out;rw [HLO.out];exact ⟨_,rfl,hdb.more fun b hb=>⟨by have:=hb.1;omega,by have:=hb.2;have:=hst.size;omega,fun e9=>by have:=(HOL5.out b e9.symm).2;have:=hb.1;omega⟩⟩
  have hlj:l.length=n:=HN.out;have hq0:((l.take j).map (outP d h)).length=j:=by rw [List.length_map,List.length_take];omega
  have hq1:((l.take j).map (outP d h)++[outP d h e]).length=j+1:=by rw [List.length_append,hq0];rfl
  have hpush:=OwnR.appL (R:=Rp.bytes) hq0 hq1 ((hcl.step hst).more fun b hb=>⟨hb.1,by have:=hb.2.1;have:=hst.size;omega,hb.2.2⟩) ⟨[.slice A6 no c6],[],(List.append_nil _).symm,hX,rfl⟩ own10 hg10
  have htk:l.take (j+1)=l.take j++[e]:=by
   have h9:=HJE.out;obtain ⟨hlt,h8⟩:=List.getElem?_eq_some_iff.1 h9;rw [List.take_succ_eq_append_getElem hlt,h8]
  rw [show (l.take j).map (outP d h)++[outP d h e]=(l.take (j+1)).map (outP d h) by rw [htk,List.map_append];rfl] at hpush
  have R10:=R6'.grewE (by decide) hrow' hg10
  have T10:za0 w2 w10 (OfRd gr c m ns):=by
   have t9:za0 wa w10 (fun b=>some b=(Value.slice A5 j c5).ownBlock):=(za0.of hst).trans ⟨hg10.grown.os,hg10.grown.tape,hg10.grown.output,hg10.grown.size,fun i hi hn=>hg10.grown.block i hi hn⟩
   exact (((zak.on T5 s1 ⟨ns6,R6,T6,s6⟩).choose_spec.2.1.mono (S':=fun b=>OfRd gr c m ns b∨w2.heap.size≤b) fun b hb=>.inl hb).trans (t9.mono fun b hb=>.inr (HOL.out b hb.symm).1)).fresh fun b hb=>hb
  have hrm:zak (KO Kd (.slice A10 (j+1) c10)) w2 w10 gr c m ns k6 t6:=by
   have hw5:=HSA.out;exact ⟨ns6,R10,T10,fun g hg=>(s6 g hg).elim (s1 g) fun h=>.inr (by omega)⟩
  have hnx:Hid (Pl a (b+(j+1)) d h k6 t6∧(k6,t6)=(l.take (j+1)).foldl (rdS d h) (k,t)∧∀ (i:Nat) (q:A2),i<j+1→l[i]?=some q→errP d h q=0):=Lib.hid ⟨P6,by rw [htk,List.foldl_append,←HP.out.2.1,hk6,ht6];rfl,fun i q hi hq=>by
   by_cases h9:i<j
   · exact HP.out.2.2 i q h9 hq
   · obtain rfl:i=j:=by omega
     rw [HJE.out] at hq;injection hq with hq;rw [←hq];exact HEO.out⟩
  clear hX hq0 hq1 htk R10 T10 hk6 ht6 P6 hcl hst hrow' hrn hdb R6' own10 R6 T6 s6 hlj HOL HOL5 HP;go_roundw
  case rel=>exact ⟨j+1,A10,c10,k6,t6,by go_num,by omega,rfl,hpush,hrm,hnx,⟨_,rfl⟩,⟨_,rfl⟩,_,rfl⟩
  case measure=>simp [intOf];omega
theorem zh5 {Kd:Nat→Prop} {w:World} {gr c m:Nat} {ns:List Nat} {k:Ca} {t:Int} (h:IsRd Kd w gr c m ns k t) :
 Calls Tryz.prog 11 #[.pointer (some ⟨c,0,none⟩)] w fun r' w'=>r'=.returned (.tuple #[.int .i64 k.hit,.int .i64 k.miss])∧Below w.heap.size w w':=by
 obtain ⟨_,dt,ah,af,hca,_⟩:=h;exact zhE hca
theorem zfp (room:Int) (l:List Oq) (v:Value) (ps:List A2) (vp:Value) (K:Nat→Prop) (w:World) (hv:IsL Rp.oq w K v l) (hp:IsL Rp.a2 w K vp ps) (hK:∀ b,K b→b<w.heap.size) :
 Calls Tryz.prog 3 #[.int .i64 room,v,vp] w fun e w'=>e=.returned (.bool true)∧Below w.heap.size w w':=by
 obtain ⟨Al,cl,rfl,-⟩:=hv.form;obtain ⟨Ap,cp,rfl,-⟩:=hp.form;obtain ⟨n,hn⟩:∃ n,l.length=n:=⟨_,rfl⟩;obtain ⟨m,hm⟩:∃ m,ps.length=m:=⟨_,rfl⟩;have hnl:=hv.len;have hml:=hp.len;rw [hn] at hv hnl ⊢;rw [hm] at hp hml ⊢;have HN:=Lib.hid hn;have HM:=Lib.hid hm;clear hn hm;have hbe:=fun W=>zeP W
 have hnw:=fun W=>ziX (Kd:=fun _=>True) room W
 obtain ⟨most,hmo⟩:∃ x,max room 0=x:=⟨_,rfl⟩;rw [hmo] at hnw;clear hmo;go_enter Tryz.func3,Tryz.ntmps3
 go_wp2_with fail;refine (zja _).mono ?_;rintro e w1 ⟨rfl,hb1⟩;by_cases h40:(n:Int) > 40
 case pos=>
  go_wp2_with fail;go_ret;exact ⟨rfl,hb1⟩
 by_cases h41:(m:Int) > 40
 case pos=>
  go_wp2_with fail;go_ret;exact ⟨rfl,hb1⟩
 go_wp2_with fail;refine (hbe _).mono ?_;rintro e w2 ⟨dv,vh,rfl,⟨⟨A,cA,rfl,hz⟩,hho⟩,hb2⟩;obtain ⟨c5,rfl,hn5,h15,-⟩:=zbo hho;clear hbe;go_upto_region 5 with (refine zcA rfl rfl (by first | rfl | simp [Act.eval,World.size_alloc]) rfl rfl hn5 h15 ?_)
 have E:=(((Kn.start w).step (hb1.trans (hb2.mono hb1.size))).give za1.list hz.zlt).give za1.ho hho.lt |>.push 27 (zdC (d24 4) A cA) |>.push 38 c5
 rw [World.size_alloc] at E;obtain ⟨gd,hgd⟩:∃ g,w2.heap.size=g:=⟨_,rfl⟩;have hgw:w.heap.size≤gd:=by rw [←hgd];exact Nat.le_trans hb1.size hb2.size
 generalize (w2.alloc (.cells (zdC (d24 4) A cA) 27)).alloc (.cells c5 38)=w3 at E ⊢;rw [hgd] at E ⊢;have S3:SD w gd w3 (d24 4) A cA (h24 4) c5 (fun _=>False):=⟨E.below,hgw,E.at_ m1,E.at_ m0,hn5,h15,fun _ h=>h.elim,_,E.get m1,E.get m0,fun b hb=>by have:=hb.2;have:=(E.at_ m0).lt;exact ⟨by omega,by omega,by omega,fun h=>h⟩⟩
 clear E hz hho hb1 hb2 hgd hgw hn5 h15;go_upto_region 8 with fail;go_loopw [11,12,44] (fun x11 x12 x44 wr=>∃ (i:Nat) (d:Zd) (A:Option Addr) (cA:Nat) (h:Ho) (cs:Array Value),x44=.int .i64 i∧i≤n∧SD w gd wr d A cA h cs (fun _=>False)∧Hid (Pl i 0 d h ⟨most,[],0,0⟩ 0)∧(∃ y,x11=y)∧∃ y,x12=y) (fun _ _ x44 _=>n-(intOf x44).toNat)
 case atStart=>exact ⟨0,_,_,_,_,_,rfl,by omega,S3,Lib.hid (Pl.start most),⟨_,rfl⟩,_,rfl⟩
 case round=>
  clear S3;obtain ⟨i,d,A,cA,h,cs,rfl,hi,S,HP,⟨y1,rfl⟩,y2,rfl⟩:=hrel;by_cases hin:i<n
  case pos=>
   have i1:(i:Int)<(n:Int):=by omega
   have i0:(0:Int)≤(i:Int):=by omega
   have hlt:i<l.length:=by rw [HN.out];exact hin
   obtain ⟨ad,rfl,-,c0,c1,c2,r0,r1,r2⟩:=zp2 (hv.step S.below) (List.getElem?_eq_getElem hlt);generalize l[i]=o at c0 c1 c2 r0 r1 r2;clear hlt;go_upto_region 10 with fail;have hba:Below wr.heap.size wr (wr.alloc (.cells #[.int .i64 o.op,.int .i64 o.lba,.int .i64 o.n] 42)):=(Below.refl _ _).alloc (Nat.le_refl _) _;have B0:=Blk.new wr 42 #[.int .i64 o.op,.int .i64 o.lba,.int .i64 o.n] rfl;replace S:=S.step hba;generalize wr.alloc (.cells #[.int .i64 o.op,.int .i64 o.lba,.int .i64 o.n] 42)=w5 at B0 S ⊢;generalize wr.heap.size=g0 at B0 ⊢;clear hba c0 c1 c2;obtain ⟨K5,hz5,hh5,hK5⟩:=S.at_;have hst:=zjO HP.out.j (by have:=HP.out.ver;omega) (by have:=HP.out.seq;omega) o i (by omega) A cA (.agg cs) K5 w5 hz5 hh5 (fun b hb=>(hK5 b hb).1)
   have hgl:=S.host.lt;obtain ⟨q0,f0⟩:=S.dev.rules;have t0:=S.dev.lt;obtain ⟨q1,f1⟩:=B0.rules;have t1:=B0.lt;go_wp2_with (refine zbN S.host S.n rfl rfl rfl ?_);refine hst.mono ?_;rintro e w6 ⟨dv,vh,d',h',rfl,⟨⟨A7,c7,rfl,hz7⟩,hh7⟩,hs,hb6⟩;obtain ⟨cs7,rfl,hn7,h17,-⟩:=zbo hh7;have hS6:=S.step hb6;have p0:=hS6.dev;have p1:=hS6.host;have HP6:=Lib.hid (HP.out.step hs);clear hst q0 f0 q1 f1 B0 HP hb6 hs hz5 hh5;go_wp2_with (first | (refine zbM p0 rfl rfl rfl rfl rfl (by rfl) (by rfl) ?_;intro w8 hs8 ht8 hB8) | (refine zd3 (p1.turned ht8 (by omega)) hS6.n rfl rfl rfl rfl hn7 h17 ?_;intro w9 hs9 ht9 hB9))
   have S9:=hS6.move hz7 hh7 (fun b hb=>by rcases hb with hb | hb;exact (hK5 b hb).2;exact ⟨by omega,by omega,fun e=>e⟩) hn7 h17 ht8 hB8 ht9 hB9
   clear S hS6 p0 p1 hz7 hh7 hn7 h17 ht8 hB8 ht9 hB9 hs8 hs9 hK5 t0 t1;go_roundw
   case rel=>exact ⟨i+1,_,_,_,_,_,by go_num,by omega,S9,HP6,⟨_,rfl⟩,_,rfl⟩
   case measure=>simp [intOf];omega
  obtain rfl:i=n:=by omega
  clear hv HN hin hnl hi;go_wp2_with fail;refine (hnw _).mono ?_;rintro e w4 ⟨gr,c,m4,rfl,R4,hof,hb4⟩;have hofl:=fun {b}=>R4.lt (b:=b)
  go_wp2_with fail;refine (hnw _).mono ?_;rintro e w5 ⟨gq,c',m5,rfl,Q5,hoq,hb5⟩;have hsl:=S.host.lt;have hs4:=hb4.size;have hs5:=hb5.size;have S5:SD w gd w5 d A cA h cs (fun b=>OfRd gr c m4 [] b∨OfRd gq c' m5 [] b):=S.read (Y:=fun _=>False) (za0.of (hb4.trans (hb5.mono hs4))) (fun _ h=>h.elim) fun b hb=>by
   rcases hb with hb | hb
   · exact ⟨.inr (hof b hb),by have:=hofl hb;omega⟩
   · exact ⟨.inr (by have:=hoq b hb;omega),Q5.lt hb⟩
  have R5:=R4.step hb5;have hap:∀ b,OfRd gq c' m5 [] b→¬OfRd gr c m4 [] b:=fun b h1 h2=>by have:=hoq b h1;have:=hofl h2;omega
  clear hof hofl hoq S R4 hs4 hb4 hb5 hnw hsl;have hg0:=S5.g0;have hxl:=S5.xl;obtain ⟨K5,hz5,hh5,hK5⟩:=S5.at_;have hlr:∀ b,K b→b<w5.heap.size∧¬OfRd gr c m4 [] b:=fun b hb=>⟨by have:=hK b hb;have:=S5.below.size;omega,fun h9=>by have:=(hxl b (.inl h9)).1;have:=hK b hb;omega⟩
  have hcm:=zk6 HP.out (by omega) (Kd:=fun _=>True) (K:=K5) (Kl:=K) ps (by rw [HM.out];omega) Ap cp A cA (.agg cs) w5 hz5 hh5 (fun b hb=>⟨(hK5 b hb).1,fun h9=>(hK5 b hb).2.2.2 (.inl h9)⟩) R5 (fun _ _=>trivial) (by rw [HM.out];exact hp.step S5.below) hlr
  rw [HM.out] at hcm;obtain ⟨q0,f0⟩:=S5.dev.rules;have t0:=S5.dev.lt;clear hz5 hh5 hK5 hlr;go_wp2_with (refine zbN S5.host S5.n rfl rfl rfl ?_);refine hcm.mono ?_;rintro e w6 ⟨vb,er,kr,tr,rfl,⟨nr,R6,T6,s6⟩,hres⟩;have Q6:=Q5.beside R5 T6 hap;have hsz:=T6.size;have S6:SD w gd w6 d A cA h cs (fun b=>OfRd gr c m4 nr b∨OfRd gq c' m5 [] b):=S5.read T6 (fun b h=>.inl h) fun b hb=>by
   rcases hb with hb | hb
   · exact ⟨(zbC s6 hb).elim (fun h=>.inl (.inl h)) .inr,R6.lt hb⟩
   · exact ⟨.inl (.inr hb),Q6.lt hb⟩
  have hap6:∀ b,OfRd gq c' m5 [] b→¬OfRd gr c m4 nr b:=fun b h1 h2=>(zbC s6 h2).elim (hap b h1) (by have:=Q5.lt h1;omega)
  have hq6:∀ b,OfRd gq c' m5 [] b→b<w5.heap.size:=fun b h1=>Q5.lt h1
  clear hcm S5 R5 Q5 hap q0 f0 t0 T6 s6 hxl;rcases hres with ⟨rfl,hall,hfo,PR,Ao,co,rfl,hao⟩ | ⟨hne,rfl,j0,p0,hj0,he0,hbef⟩
  case inr=>
   have hj0m:j0<m:=by rw [←HM.out];exact (List.getElem?_eq_some_iff.1 hj0).1
   have HE0:=Lib.hid he0;have HJ0:=Lib.hid hj0;have HBF:=Lib.hid hbef;clear R6 hap6 hq6 hsz he0 hj0 hbef;have S7:SD w gd w6 d A cA h cs (OfRd gq c' m5 []):=S6.read (Y:=fun _=>False) (za0.refl _ _) (fun _ h=>h.elim) fun b hb=>⟨.inl (.inr hb),Q6.lt hb⟩
   clear S6;go_upto_region 16 with fail;go_loopw [17,18,19,20,72] (fun x17 x18 x19 x20 x72 wr=>∃ (j:Nat) (kq:Ca) (tq:Int) (nq:List Nat),x72=.int .i64 j∧j≤j0∧SD w gd wr d A cA h cs (OfRd gq c' m5 nq)∧IsRd (fun _=>True) wr gq c' m5 nq kq tq∧Hid (Pl i j d h kq tq)∧(∃ y,x17=y)∧(∃ y,x18=y)∧(∃ y,x19=y)∧∃ y,x20=y) (fun _ _ _ _ x72 _=>m-(intOf x72).toNat)
   case atStart=>exact ⟨0,_,_,_,rfl,by omega,S7,Q6,Lib.hid HP.out,⟨_,rfl⟩,⟨_,rfl⟩,⟨_,rfl⟩,_,rfl⟩
   case round=>
    clear S7 Q6;obtain ⟨j,kq,tq,nq,rfl,hj,S,Q,HQ,⟨y1,rfl⟩,⟨y2,rfl⟩,⟨y3,rfl⟩,y4,rfl⟩:=hrel;have j1:(j:Int)<(m:Int):=by omega
    have jz:(0:Int)≤(j:Int):=by omega
    have hlt:j<ps.length:=by rw [HM.out];omega
    have hje:=List.getElem?_eq_getElem hlt;obtain ⟨ad,rfl,-,c0,c1,r0,r1⟩:=zo2 (hp.step S.below) hje;generalize ps[j]=e at c0 c1 r0 r1 hje;have HJE:=Lib.hid hje;clear hje hlt;go_upto_region 18 with fail;have hba:Below wr.heap.size wr (wr.alloc (.cells #[.int .i64 e.a,.int .i64 e.b] 51)):=(Below.refl _ _).alloc (Nat.le_refl _) _;have Bp:=Blk.new wr 51 #[.int .i64 e.a,.int .i64 e.b] rfl;replace S:=S.step hba;replace Q:=Q.step hba;generalize wr.alloc (.cells #[.int .i64 e.a,.int .i64 e.b] 51)=w7 at Bp S Q ⊢;clear hba c0 c1;have hc1:=HQ.out.rread (by omega) (by omega) S Q (fun _ _=>trivial) (fun _ h=>h) e.a e.b
    have HEO:=Lib.hid (show errP d h e=(zaH d.z h e.a e.b).2 from rfl);obtain ⟨ro,hro⟩:∃ ro,zaH d.z h e.a e.b=ro:=⟨_,rfl⟩;rw [hro] at hc1 HEO;obtain ⟨lo,eo⟩:=ro;obtain ⟨no,hno⟩:∃ no,lo.length=no:=⟨_,rfl⟩;dsimp only at hc1 HEO;rw [hno] at hc1;obtain ⟨q0,f0⟩:=S.dev.rules;have t0:=S.dev.lt;obtain ⟨q1,f1⟩:=Bp.rules;have t1:=Bp.lt;clear hro hno;go_wp2_with (refine zbN S.host S.n rfl rfl rfl ?_);refine hc1.mono ?_;rintro x wa ⟨A6,c6,k6,t6,rfl,hv6,-,-,P6,ns6,Q8,T8,s8⟩;have S8:SD w gd wa d A cA h cs (OfRd gq c' m5 ns6):=S.read T8 (fun b h=>h) fun b hb=>⟨zbC s8 hb,Q8.lt hb⟩
    have HP6:=Lib.hid P6;clear q0 f0 t0 q1 f1 t1 hc1 Bp S Q T8 s8 hv6 P6 HQ;by_cases hjj:j<j0
    case pos=>
     obtain rfl:eo=0:=by rw [←HEO.out];exact HBF.out j e hjj HJE.out
     go_upto_region 21 with fail;have hb0:Below wa.heap.size wa wa.drew:=(Below.refl _ _).drew;replace S8:=S8.step hb0;replace Q8:=Q8.step hb0;have hne':(er == (0:Int))=false:=by simpa using hne
     refine wp_region_held_drew (S:=fun _=>True) (by kernel_rfl) trivial (fun hHeld=>?_)
     generalize wa.drew=wx at S8 Q8 hHeld ⊢;clear hb0;refine wT 0 101 ?_;refine wT 1 102 ?_;refine wT 2 103 ?_;refine wU 3 104 ?_;refine wU 4 105 ?_;refine wU 5 106 ?_;refine wU 6 107 ?_;refine wU 7 108 ?_;refine wU 8 109 ?_;refine wU 9 110 ?_;refine wU 10 111 ?_;refine wU 11 112 ?_;refine wU 12 113 ?_;refine wU 13 114 ?_;refine wU 14 115 ?_;refine wU 15 116 ?_;refine wU 16 117 ?_;refine wT 17 118 ?_;refine wpAnyH_done (by kernel_rfl) ?_ _
     go_wp2_with fail;go_roundw
     case rel=>exact ⟨j+1,k6,t6,ns6,by go_num,by omega,S8,Q8,HP6,⟨_,rfl⟩,⟨_,rfl⟩,⟨_,rfl⟩,_,rfl⟩
     case measure=>simp [intOf];omega
    case neg=>
     obtain rfl:j=j0:=by omega
     obtain rfl:e=p0:=by have:=HJE.out;rw [HJ0.out] at this;injection this with this;exact this.symm
     obtain rfl:er=eo:=by rw [HE0.out,HEO.out]
     have hbw:=S8.below;clear HJ0 HE0 HBF HJE HEO S8 Q8 HP6;go_wp2_with fail;go_ret;exact ⟨rfl,hbw⟩
  case inl=>
   have hao6:IsL Rp.bytes w6 (fun b=>w5.heap.size≤b∧b<w6.heap.size) (.slice Ao m co) (ps.map (outP d h)):=hao.ltG (fun _ _ hx=>by obtain ⟨vd,e,hB⟩:=hx;exact ⟨vd,e,hB.lt⟩) (by decide)
   have hdis:∀ b,OfRd gr c m4 nr b→¬OfRd gq c' m5 [] b:=fun b h1 h2=>hap6 b h2 h1
   have hqo:∀ b,OfRd gq c' m5 [] b→b<w5.heap.size∨w6.heap.size≤b:=fun b hb=>.inl (hq6 b hb)
   clear hao hap6 hq6;go_upto_region 16 with fail;go_loopw [17,18,19,20,72] (fun x17 x18 x19 x20 x72 wr=>∃ (j:Nat) (kq:Ca) (tq:Int) (nq:List Nat),x72=.int .i64 j∧j≤m∧SD w gd wr d A cA h cs (fun b=>OfRd gr c m4 nr b∨OfRd gq c' m5 nq b)∧IsRd (fun _=>True) wr gr c m4 nr kr tr∧IsRd (fun _=>True) wr gq c' m5 nq kq tq∧(∀ b,OfRd gr c m4 nr b→¬OfRd gq c' m5 nq b)∧(∀ b,OfRd gq c' m5 nq b→b<w5.heap.size∨w6.heap.size≤b)∧IsL Rp.bytes wr (fun b=>w5.heap.size≤b∧b<w6.heap.size) (.slice Ao m co) (ps.map (outP d h))∧w6.heap.size≤wr.heap.size∧Hid (Pl i j d h kq tq∧(kq,tq)=(ps.take j).foldl (rdS d h) (⟨most,[],0,0⟩,0))∧(∃ y,x17=y)∧(∃ y,x18=y)∧(∃ y,x19=y)∧∃ y,x20=y) (fun _ _ _ _ x72 _=>m-(intOf x72).toNat)
   case atStart=>exact ⟨0,_,_,_,rfl,by omega,S6,R6,Q6,hdis,hqo,hao6,Nat.le_refl _,Lib.hid ⟨HP.out,rfl⟩,⟨_,rfl⟩,⟨_,rfl⟩,⟨_,rfl⟩,_,rfl⟩
   case round=>
    clear S6 R6 Q6 hdis hqo hao6;obtain ⟨j,kq,tq,nq,rfl,hj,S,R,Q,hdis,hqo,hao,hsw,HQ,⟨y1,rfl⟩,⟨y2,rfl⟩,⟨y3,rfl⟩,y4,rfl⟩:=hrel;by_cases hjm:j<m
    case pos=>
     have j1:(j:Int)<(m:Int):=by omega
     have j0:(0:Int)≤(j:Int):=by omega
     have hlt:j<ps.length:=by rw [HM.out];exact hjm
     have hje:=List.getElem?_eq_getElem hlt;obtain ⟨ad,rfl,-,c0,c1,r0,r1⟩:=zo2 (hp.step S.below) hje;have htk:=List.take_succ_eq_append_getElem hlt;have hmem:=List.getElem_mem hlt;generalize ps[j]=e at c0 c1 r0 r1 hje htk hmem;have HJE:=Lib.hid hje;have HTK:=Lib.hid htk;have he0:=hall e hmem;clear hje hlt htk hmem;go_upto_region 18 with fail;have hba:Below wr.heap.size wr (wr.alloc (.cells #[.int .i64 e.a,.int .i64 e.b] 51)):=(Below.refl _ _).alloc (Nat.le_refl _) _;have Bp:=Blk.new wr 51 #[.int .i64 e.a,.int .i64 e.b] rfl;replace S:=S.step hba;replace R:=R.step hba;replace Q:=Q.step hba;replace hao:=hao.step hba;have hs7:=Nat.le_trans hsw hba.size;generalize wr.alloc (.cells #[.int .i64 e.a,.int .i64 e.b] 51)=w7 at Bp S R Q hao hs7 ⊢;clear hba c0 c1;have hc1:=HQ.out.1.rread (by omega) (by omega) S Q (fun _ _=>trivial) (fun _ h=>.inr h) e.a e.b
     have HLO:=Lib.hid (show outP d h e=(zaH d.z h e.a e.b).1 from rfl);have he1:(zaH d.z h e.a e.b).2=0:=he0;obtain ⟨ro,hro⟩:∃ ro,zaH d.z h e.a e.b=ro:=⟨_,rfl⟩;rw [hro] at hc1 HLO he1;obtain ⟨lo,eo⟩:=ro;obtain rfl:eo=0:=he1;obtain ⟨no,hno⟩:∃ no,lo.length=no:=⟨_,rfl⟩;dsimp only at hc1 HLO;rw [hno] at hc1;have HNO:=Lib.hid hno;obtain ⟨q0,f0⟩:=S.dev.rules;have t0:=S.dev.lt;obtain ⟨q1,f1⟩:=Bp.rules;have t1:=Bp.lt;clear hro hno he0;go_wp2_with (refine zbN S.host S.n rfl rfl rfl ?_);refine hc1.mono ?_;rintro x wa ⟨A6,c6,k6,t6,rfl,hv6,hk6,ht6,P6,ns6,Q8,T8,s8⟩;have R8:=R.beside Q T8 hdis;have hsz8:=T8.size;have hao8:=hao.turned T8 (fun b hb h9=>by have:=hqo b h9;omega)
     have S8:SD w gd wa d A cA h cs (fun b=>OfRd gr c m4 nr b∨OfRd gq c' m5 ns6 b):=S.read T8 (fun b h=>.inr h) fun b hb=>by
      rcases hb with hb | hb
      · exact ⟨.inl (.inl hb),R8.lt hb⟩
      · exact ⟨(zbC s8 hb).elim (fun h=>.inl (.inr h)) .inr,Q8.lt hb⟩
     have hdis8:∀ b,OfRd gr c m4 nr b→¬OfRd gq c' m5 ns6 b:=fun b h1 h2=>(zbC s8 h2).elim (hdis b h1) (by have:=R.lt h1;omega)
     have hqo8:∀ b,OfRd gq c' m5 ns6 b→b<w5.heap.size∨w6.heap.size≤b:=fun b hb=>(zbC s8 hb).elim (hqo b) (fun h=>.inr (by omega))
     have hnx:Hid (Pl i (j+1) d h k6 t6∧(k6,t6)=(ps.take (j+1)).foldl (rdS d h) (⟨most,[],0,0⟩,0)):=Lib.hid ⟨P6,by rw [HTK.out,List.foldl_append,←HQ.out.2,hk6,ht6];rfl⟩
     clear q0 f0 t0 q1 f1 t1 hc1 Bp S R Q hao hdis hqo HQ T8 s8 hk6 ht6 P6;go_upto_region 21 with fail;have hb0:Below wa.heap.size wa wa.drew:=(Below.refl _ _).drew;replace S8:=S8.step hb0;replace R8:=R8.step hb0;replace Q8:=Q8.step hb0;replace hao8:=hao8.step hb0;replace hv6:=hv6.step hb0;replace hsz8:=Nat.le_trans hsz8 hb0.size;generalize hwx:wa.drew=wx at S8 R8 Q8 hao8 hv6 hsz8;obtain ⟨ad',es,rfl,-,⟨v9,rfl,hB9⟩,hcell⟩:=hao8.at_ (i:=j) (x:=lo) (by rw [List.getElem?_map,HJE.out,←HLO.out];rfl)
     have hc9:=hcell 0 _ rfl;rw [zbu,show Rp.bytes.size=1 from rfl,Nat.mul_one] at hc9;obtain ⟨A9,c9,rfl,-⟩:=zab hB9;have z1:=zb5 (P:=Tryz.prog) (cap:=c9) (n:=no) (l:=lo) wx 32 9 5 Tryz.underlying32 Tryz.underlying5 Tryz.underlying9 HNO.out (by have:=(IsB.open_ hB9).2.1;rwa [HNO.out] at this)
     have z2:=zb5 (P:=Tryz.prog) (cap:=c6) (n:=no) (l:=lo) wx 32 9 5 Tryz.underlying32 Tryz.underlying5 Tryz.underlying9 HNO.out (by have:=(IsB.open_ hv6).2.1;rwa [HNO.out] at this)
     rw [HNO.out] at hc9;have hjd:decide ((m:Int)≤(j:Int))=false:=decide_eq_false (by omega)
     have hjd':decide (m≤j)=false:=decide_eq_false (by omega)
     clear hv6 hB9 hcell;refine wp_region_held_drew (S:=fun W=>W.cell? (ad'.add j)=some (.slice A9 no c9)∧(convert 32 9 (.slice A9 no c9)).run Tryz.prog W=.ok (.string ⟨lo.toArray⟩) W∧(convert 32 9 (.slice A6 no c6)).run Tryz.prog W=.ok (.string ⟨lo.toArray⟩) W) (by kernel_rfl) (by rw [hwx];exact ⟨hc9,z1,z2⟩) (fun hHeld=>?_)
     rw [hwx] at hHeld ⊢;clear hwx hb0;refine wT 0 101 ?_;refine wT 1 102 ?_;refine wT 2 103 ?_;refine wT 3 104 ?_;refine wT 4 105 ?_;refine wT 5 106 ?_;refine wT 6 107 ?_;refine wT 7 108 ?_;refine wT 8 109 ?_;refine wT 9 110 ?_;refine wT 10 111 ?_;refine wT 11 112 ?_ (hy:=by intro w hSw;(try dsimp only at hSw);obtain ⟨u1,u2,u3⟩:=hSw;go_simp;with_reducible rfl)
     refine wT 12 113 ?_ (hy:=by intro w hSw;(try dsimp only at hSw);obtain ⟨u1,u2,u3⟩:=hSw;go_simp;with_reducible rfl)
     refine wT 13 114 ?_;refine wT 14 115 ?_ (hy:=by intro w hSw;(try dsimp only at hSw);obtain ⟨u1,u2,u3⟩:=hSw;go_simp;with_reducible rfl)
     refine wT 15 116 ?_;refine wT 16 117 ?_;refine wT 17 118 ?_;refine wpAnyH_done (by kernel_rfl) ?_ _
     go_wp2_with fail;go_roundw
     case rel=>exact ⟨j+1,k6,t6,ns6,by go_num,by omega,S8,R8,Q8,hdis8,hqo8,hao8,by omega,hnx,⟨_,rfl⟩,⟨_,rfl⟩,⟨_,rfl⟩,_,rfl⟩
     case measure=>simp [intOf];omega
    case neg=>
     obtain rfl:j=m:=by omega
     have htk:ps.take j=ps:=List.take_of_length_le (by rw [HM.out];exact Nat.le_refl _)
     have heq:=HQ.out.2;rw [htk,←hfo] at heq;injection heq with e1 e2;subst e1 e2;clear htk hfo hall HQ hjm;have hR1:=R.1;have hQ1:=Q.1;obtain ⟨q0,f0⟩:=hR1.rules;have t0:=hR1.lt;go_wp2_with fail;refine (zh5 R).mono ?_;rintro x wb ⟨rfl,hbb⟩;replace R:=R.step hbb;replace Q:=Q.step hbb;replace S:=S.step hbb;clear q0 f0 t0 hR1 hQ1 hbb;have hQ1:=Q.1;obtain ⟨q0,f0⟩:=hQ1.rules;have t0:=hQ1.lt;go_wp2_with fail;refine (zh5 Q).mono ?_;rintro x wd ⟨rfl,hbd⟩;replace R:=R.step hbd;replace Q:=Q.step hbd;replace S:=S.step hbd;clear q0 f0 t0 hQ1 hbd;have hr9:=zg3 R;have hq9:=zg3 Q;have hbw:=S.below;go_wp2_with fail;refine hr9.mono ?_;rintro x wu ⟨rfl,rfl⟩;go_wp2_with fail;refine hq9.mono ?_;rintro x wu ⟨rfl,rfl⟩;go_wp2_with fail;go_ret;exact ⟨rfl,hbw⟩
end Go.Proofs.YthblkdnijhphhaaGreat
