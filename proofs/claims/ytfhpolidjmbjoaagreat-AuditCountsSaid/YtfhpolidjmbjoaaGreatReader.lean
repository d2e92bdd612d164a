/- A part of the proof. -/
import Derived.Test.YtfhpolidjmbjoaaGreatWireRd
import Derived.Test.YtfhpolidjmbjoaaGreatRep
import Derived.BigQuiet
import Derived.Test.YtfhpolidjmbjoaaGreatBytes
import Derived.Deep.RegionHeld3
import Derived.StillTailTactics
set_option maxHeartbeats 1000000
set_option maxRecDepth 100000
namespace Go.Proofs.YtfhpolidjmbjoaaGreat
open Go.RowKit
section
variable {w w' w'':World} {g:Nat}
theorem grow_set (h:w.grownBy w' (some g)) (i:Nat) (u:Value):w.grownBy (w'.setCell ⟨g,i,none⟩ u) (some g):=
 ⟨h.os,h.tape,h.output,by simpa [World.setCell] using h.size,fun k hk hne=>by rw [Below.heap_setCell _ _ _ _ (by show k≠g;rintro rfl;exact hne rfl)];exact h.block k hk hne⟩
theorem grow_drewN (w:World) (n:Nat) (row:Option Nat):w.grownBy (w.drewN n) row:=⟨rfl,rfl,rfl,Nat.le_refl _,fun _ _ _=>rfl⟩
theorem grow_trans {row:Option Nat} (h:w.grownBy w' row) (h':w'.grownBy w'' row):w.grownBy w'' row:=
 ⟨h'.os.trans h.os,h'.tape.trans h.tape,h'.output.trans h.output,Nat.le_trans h.size h'.size,fun k hk hne=>(h'.block k (by have:=h.size;omega) hne).trans (h.block k hk hne)⟩
theorem grow_then {row:Option Nat} (h:w.grownBy w' row) (h':Below w.heap.size w' w''):w.grownBy w'' row:=
 ⟨h'.os.trans h.os,h'.tape.trans h.tape,h'.output.trans h.output,Nat.le_trans h.size h'.size,fun k hk hne=>(h'.block k hk).trans (h.block k hk hne)⟩
theorem below_grow {B:Nat} (h:w.grownBy w' (some g)) (hg:B≤g) (hB:B≤w.heap.size):Below B w w':=(Below.refl _ _).grown h hB (fun k hk=>by cases hk;exact hg)
theorem IsB.grow {v:Value} {l:List UInt8} (h:IsB w (fun b=>b≠g) v l) (hg:w.grownBy w' (some g)):IsB w' (fun b=>b≠g) v l:=
 h.keep fun p hp hl=>World.cell?_of_block (hg.block p.block hl (by simpa using hp))
end
theorem key10 (n:Nat) (h:9223372036854775808≤n) (h2:n<18446744073709551616):(n:Int) / 9223372036854775808=1:=by omega
theorem key11 (n:Nat) (h:¬9223372036854775808≤n):(n:Int) / 9223372036854775808≠1:=by omega
theorem cut_bytes {w:World} {K:Nat→Prop} {A:Option Addr} {c:Nat} {l:List UInt8} (h:IsB w K (.slice A l.length c) l) {at':Nat} (ha:at'≤l.length) :
 Reads w K 1 (if c=at' then A else A.map (·.add at')) (l.length-at') (cells8 (l.drop at')):=by
 obtain ⟨_,hr,h1,h2,h3⟩:=h.open_;have:=hr.cut (k:=at') (cap:=c) ha h1;rw [Nat.mul_one,cells8_drop] at this;exact this
theorem num_any (g p c:Nat) (A:Option Addr) (e:Int) (l:List UInt8) (w:World) (hB:Blk w g 207 #[.slice A l.length c,.int .i64 p,.int .i64 e]) (hb:IsB w (fun b=>b≠g) (.slice A l.length c) l) (hp:p≤l.length) :
 Calls Tryz.prog 163 #[.pointer (some ⟨g,0,none⟩)] w fun en w'=>en=.returned (.int .i64 (rnum l (p,e)).1) ∧
  Blk w' g 207 #[.slice A l.length c,.int .i64 ((rnum l (p,e)).2.1:Int),.int .i64 (rnum l (p,e)).2.2]∧w.grownBy w' (some g):=by
 obtain ⟨q1,f1⟩:=hB.rules;have t1:=hB.lt;have hlb:=hb.len;by_cases he:e=0
 · subst he
   obtain ⟨_,_,hlc,hcc,_⟩:=hb.open_;have hr:=cut_bytes hb hp;obtain ⟨r,hr0⟩:∃ r,takeL (l.drop p)=r:=⟨_,rfl⟩;obtain ⟨n,k,er⟩:=r;have hn:rnum l (p,0)=if er≠0 then ((0:Int),((p,(er:Int)):Rs)) else if 9223372036854775808≤n then (0,(p,21)) else ((n:Int),(p+k,0)):=by
    unfold rnum;simp only [hr0,ne_eq,not_true_eq_false,if_false]
   rw [hn];have hpl:(p:Int)≤(l.length:Int):=by omega
   have hp0:(0:Int)≤(p:Int):=by omega
   have hpc:(p:Int)≤(c:Int):=by omega
   have H0:=Lib.hid hr0;have hle:=fun h=>takeL_le (b:=l.drop p) h
   have hin:=fun h=>takeL_inv (b:=l.drop p) h
   rw [hr0] at hle hin;simp only [List.length_drop] at hle hin;clear hn hr0;have hct:∀ W,Reads W (fun b=>b≠g) 1 (if c=p then A else A.map (·.add p)) (l.length-p) (cells8 (l.drop p))→Calls Tryz.prog 176 #[.slice (if c=p then A else A.map (·.add p)) (l.length-p) (c-p)] W fun e w'=>e=.returned (.tuple #[.int .u64 n,.int .i64 k,.int .i64 er])∧w'=W:=by
    intro W h;refine (take_any (l.drop p) _ _ _ _ (by rw [List.length_drop]) (by omega) W h).mono ?_
    rw [H0.out];rintro e w' ⟨rfl,rfl⟩;exact ⟨rfl,rfl⟩
   have HC:=Lib.hid hct;clear hct;by_cases her:er=0
   · subst her
     rw [if_neg (by simp)]
     have HK:=Lib.hid (hle rfl);obtain ⟨hn64,-,-⟩:=hin rfl;clear hle hin;by_cases hbig:9223372036854775808≤n
     · rw [if_pos hbig]
       have HBIG:=Lib.hid hbig;clear hbig;have HN64:=Lib.hid hn64;clear hn64;go_enter Tryz.func163,Tryz.ntmps163
       go_wp2;go_quiet ((go_at_call 176;exact Calls.quiet_of_same (HC.out _ hr)));generalize (if c=p then A else A.map (·.add p))=A';have hb1:(((n:Int) / 9223372036854775808) == 1)=true:=by have h1:=HBIG.out;have h2:=HN64.out;rw [beq_iff_eq];exact key10 n h1 h2
       go_wp2;go_ret;exact ⟨rfl,(hB.drewN nq).set_ 2 _,grow_set (grow_drewN _ _ _) _ _⟩
     · rw [if_neg hbig]
       have HBIG:=Lib.hid hbig;clear hbig;have HN64:=Lib.hid hn64;clear hn64;go_enter Tryz.func163,Tryz.ntmps163
       go_wp2;go_quiet ((go_at_call 176;exact Calls.quiet_of_same (HC.out _ hr)));generalize (if c=p then A else A.map (·.add p))=A';have hb1:(((n:Int) / 9223372036854775808) == 1)=false:=by have h1:=HBIG.out;rw [beq_eq_false_iff_ne];exact key11 n h1
       have hb2:(n:Int)≤9223372036854775807:=by have h1:=HBIG.out;omega
       have hk:(k:Int)≤10:=by have:=HK.out;omega
       go_wp2;go_ret;exact ⟨rfl,(hB.drewN nq).set_ 1 _,grow_set (grow_drewN _ _ _) _ _⟩
   · rw [if_pos her]
     have herb:((er:Int) != 0)=true:=by simpa using her
     have herb2:((er:Int) == 0)=false:=by simpa using her
     clear her hle hin;go_enter Tryz.func163,Tryz.ntmps163
     go_wp2;go_quiet ((go_at_call 176;exact Calls.quiet_of_same (HC.out _ hr)));generalize (if c=p then A else A.map (·.add p))=A';go_wp2;all_goals
      go_ret;exact ⟨rfl,(hB.drewN nq).set_ 2 _,grow_set (grow_drewN _ _ _) _ _⟩
 · have hn:rnum l (p,e)=(0,(p,e)):=if_pos he
   rw [hn];have heb:(e != 0)=true:=by simpa using he
   clear he hn;go_enter Tryz.func163,Tryz.ntmps163
   go_wp2;go_ret;exact ⟨rfl,hB,World.grownBy.refl w _⟩
theorem most_any (g p c:Nat) (A:Option Addr) (e m:Int) (l:List UInt8) (w:World) (hB:Blk w g 207 #[.slice A l.length c,.int .i64 p,.int .i64 e]) (hb:IsB w (fun b=>b≠g) (.slice A l.length c) l) (hp:p≤l.length) :
 Calls Tryz.prog 194 #[.pointer (some ⟨g,0,none⟩),.int .i64 m] w fun en w'=>en=.returned (.int .i64 (rmost l m (p,e)).1) ∧
  Blk w' g 207 #[.slice A l.length c,.int .i64 ((rmost l m (p,e)).2.1:Int),.int .i64 (rmost l m (p,e)).2.2]∧w.grownBy w' (some g):=by
 obtain ⟨r,hr⟩:∃ r,rnum l (p,e)=r:=⟨_,rfl⟩;have hm:rmost l m (p,e)=if r.2.2=0∧m<r.1 then (r.1,(r.2.1,2)) else r:=by unfold rmost;rw [hr]
 obtain ⟨n,at',er⟩:=r;have HR:=Lib.hid hr;clear hr;rw [hm];clear hm;have hct:∀ W,Blk W g 207 #[.slice A l.length c,.int .i64 p,.int .i64 e]→IsB W (fun b=>b≠g) (.slice A l.length c) l→Calls Tryz.prog 163 #[.pointer (some ⟨g,0,none⟩)] W fun en w'=>en=.returned (.int .i64 n) ∧
  Blk w' g 207 #[.slice A l.length c,.int .i64 at',.int .i64 er]∧W.grownBy w' (some g):=by
  intro W h1 h2;have:=num_any g p c A e l W h1 h2 hp;rw [HR.out] at this;exact this
 have HC:=Lib.hid (hct w hB hb);clear hct;by_cases h:er=0∧m<n
 · rw [if_pos h]
   obtain ⟨he,hn⟩:=h;have heb:(er == 0)=true:=by simpa using he
   clear he;go_enter Tryz.func194,Tryz.ntmps194
   go_wp2_with fail;refine HC.out.mono ?_;rintro e' w1 ⟨rfl,hB1,hg1⟩;obtain ⟨q1,f1⟩:=hB1.rules;have t1:=hB1.lt;go_wp2;go_ret;exact ⟨rfl,hB1.set_ 2 _,grow_set hg1 _ _⟩
 · rw [if_neg h]
   by_cases he:er=0
   · have hn:¬m<n:=fun hn=>h ⟨he,hn⟩
     have heb:(er == 0)=true:=by simpa using he
     clear he h;go_enter Tryz.func194,Tryz.ntmps194
     go_wp2_with fail;refine HC.out.mono ?_;rintro e' w1 ⟨rfl,hB1,hg1⟩;obtain ⟨q1,f1⟩:=hB1.rules;go_wp2;go_ret;exact ⟨rfl,hB1,hg1⟩
   · have heb:(er == 0)=false:=by simpa using he
     clear he h;go_enter Tryz.func194,Tryz.ntmps194
     go_wp2_with fail;refine HC.out.mono ?_;rintro e' w1 ⟨rfl,hB1,hg1⟩;obtain ⟨q1,f1⟩:=hB1.rules;go_wp2;go_ret;exact ⟨rfl,hB1,hg1⟩
theorem rnum_go {l:List UInt8} {s:Rs} (hs:s.2=0) (h:(rnum l s).2.2=0):s.1<(rnum l s).2.1:=by
 unfold rnum at h ⊢;rw [if_neg (by simpa using hs)] at h ⊢
 split
 · rename_i h1;rw [if_pos h1] at h;exact absurd h (by simpa using h1)
 · rename_i h1
   split
   · rename_i h2;rw [if_neg h1,if_pos h2] at h;simp at h
   · have:=takeL_le (Decidable.not_not.1 h1);simp only;omega
theorem Tryz.infInt:(Tryz.prog.info? 3).map (fun i=>(i.zero,i.size,i.bytes))=some (some (.int .i64 0),1,8):=by kernel_rfl
def NumsInv (w wr:World) (g c many:Nat) (A:Option Addr) (l:List UInt8) (r:List Int × Rs) (a i:Value):Prop:=
 ∃ (j p:Nat) (acc:List Int) (A5:Option Addr) (c5:Nat),i=.int .i64 j∧j≤many∧a=.slice A5 acc.length c5∧wr.ownsRow w.heap.size 3 1 (.slice A5 acc.length c5) acc.length (acc.map I64) ∧
   Blk wr g 207 #[.slice A l.length c,.int .i64 p,.int .i64 0]∧p≤l.length∧acc.length≤p∧rnums l (many-j) acc (p,0)=r∧w.grownBy wr (some g)
theorem nums_any (g p0 c many:Nat) (A:Option Addr) (l:List UInt8) (w:World) (hB:Blk w g 207 #[.slice A l.length c,.int .i64 p0,.int .i64 0]) (hb:IsB w (fun b=>b≠g) (.slice A l.length c) l) (hp:p0≤l.length)
 (hl:l.length≤10000000000000) (hm:many≤9223372036854775807) :
 Calls Tryz.prog 135 #[.pointer (some ⟨g,0,none⟩),.int .i64 many] w fun en w'=>∃ A' c',en=.returned (.slice A' (rnums l many [] (p0,0)).1.length c') ∧
  w'.ownsRow w.heap.size 3 1 (.slice A' (rnums l many [] (p0,0)).1.length c') (rnums l many [] (p0,0)).1.length ((rnums l many [] (p0,0)).1.map I64) ∧
  Blk w' g 207 #[.slice A l.length c,.int .i64 ((rnums l many [] (p0,0)).2.1:Int),.int .i64 (rnums l many [] (p0,0)).2.2]∧w.grownBy w' (some g):=by
 obtain ⟨i0,hi,hz0,hz1,hz2⟩:=info_parts Tryz.infInt;have hgl:=hB.lt;obtain ⟨r,hr⟩:∃ r,rnums l many [] (p0,0)=r:=⟨_,rfl⟩;rw [hr];have HR:=Lib.hid hr;clear hr;go_enter Tryz.func135,Tryz.ntmps135
 go_wp2;go_loopw [5,8] (fun a i wr=>NumsInv w wr g c many A l r a i) (fun _ i _=>many-(intOf i).toNat)
 case atStart=>exact ⟨0,p0,[],none,0,rfl,Nat.zero_le _,rfl,World.ownsRow_nil _ _ _ _,hB,hp,Nat.zero_le _,HR.out,World.grownBy.refl w _⟩
 case round=>
  obtain ⟨j,p,acc,A5,c5,rfl,hj,rfl,hown,hBr,hpl,hacc,hrr,hgr⟩:=hrel;have hbr:=hb.grow hgr;have HRR:=Lib.hid hrr;clear hrr;have hsz:=hgr.size;by_cases hlt:j<many
  · have hlt':(j:Int)<(many:Int):=by omega
    obtain ⟨x,hx⟩:∃ x,rnum l (p,0)=x:=⟨_,rfl⟩;obtain ⟨n,p',er⟩:=x;have hgo:=rnum_go (l:=l) (s:=(p,0)) rfl;have hin:=rnum_in (l:=l) (s:=(p,0)) hpl;have hct:=num_any g p c A 0 l wr hBr hbr hpl;have hstep:rnums l (many-j) acc (p,0)=if er≠0 then ([],(p',er)) else rnums l (many-(j+1)) (acc++[n]) (p',er):=by
     rw [show many-j=(many-(j+1))+1 by omega,rnums,hx]
    rw [hx] at hgo hin hct;simp only at hgo hin hct;have HX:=Lib.hid hx;clear hx;have HST:=Lib.hid hstep;clear hstep;have HC:=Lib.hid hct;clear hct;by_cases he:er=0
    · subst he
      have hpp:=hgo rfl;clear hgo;go_wp2_with fail;refine HC.out.mono ?_;rintro e' w1 ⟨rfl,hB1,hg1⟩;obtain ⟨q1,f1⟩:=hB1.rules;have hs1:=hg1.size;have own1:=hown.kept hg1 (by
       rcases hA:(Value.slice A5 acc.length c5).ownBlock with _ | k
       · exact .inl rfl
       · exact .inr (by have:=(hown.lt k hA).1;intro e;cases e;omega))
      go_wp2_with (at_builtin;refine wpList_app1g rfl (.tmp 17) (.tmp 19) _ rfl w.heap.size 3 i0 _ 8 Tryz.underlying23 hi hz0 hz1 hz2 rfl rfl own1 rfl rfl rfl (by simp only [maxLen];omega) (by omega) (by omega) ?_;intro A6 c6 w2 own2 hg2)
      go_roundw
      case rel=>
       refine ⟨j+1,p',acc++[n],A6,c6,by go_num,by omega,by simp,?_,hB1.below hg2.below hgl,hin.1,by simp;omega,?_,?_⟩
       · rw [List.map_append,List.length_append];exact own2
       · rw [←HRR.out,HST.out];simp
       · exact grow_then (grow_trans hgr hg1) hg2.below
      case measure=>simp [intOf];omega
    · have heb:(er != 0)=true:=by simpa using he
      have hfin:r=([],(p',er)):=by rw [←HRR.out,HST.out,if_pos he]
      have HF:=Lib.hid hfin;clear he hfin hgo;go_wp2_with fail;refine HC.out.mono ?_;rintro e' w1 ⟨rfl,hB1,hg1⟩;obtain ⟨q1,f1⟩:=hB1.rules;go_wp2;go_ret;rw [HF.out];exact ⟨none,0,rfl,World.ownsRow_nil _ _ _ _,hB1,grow_trans hgr hg1⟩
  · obtain rfl:j=many:=by omega
    have hfin:r=(acc,(p,0)):=by rw [←HRR.out,Nat.sub_self];rfl
    have HF:=Lib.hid hfin;clear hfin;go_wp2;go_ret;rw [HF.out];exact ⟨A5,c5,rfl,hown,hBr,hgr⟩
theorem vec_any (g p c:Nat) (A:Option Addr) (e:Int) (l:List UInt8) (w:World) (hB:Blk w g 207 #[.slice A l.length c,.int .i64 p,.int .i64 e]) (hb:IsB w (fun b=>b≠g) (.slice A l.length c) l) (hp:p≤l.length) :
 Calls Tryz.prog 185 #[.pointer (some ⟨g,0,none⟩)] w fun en w'=>∃ A' c',en=.returned (.slice A' (rvec l (p,e)).1.length c') ∧
  w'.ownsRow w.heap.size 5 1 (.slice A' (rvec l (p,e)).1.length c') (rvec l (p,e)).1.length (cells8 (rvec l (p,e)).1) ∧
  Blk w' g 207 #[.slice A l.length c,.int .i64 ((rvec l (p,e)).2.1:Int),.int .i64 (rvec l (p,e)).2.2]∧w.grownBy w' (some g):=by
 have hlb:=hb.len;have hmin:=rmost_in 65536 (l:=l) (s:=(p,e)) hp;have hct:=most_any g p c A e 65536 l w hB hb hp;have hml:=fun h=>rmost_le (l:=l) (s:=(p,e)) (m:=65536) h
 obtain ⟨x,hx⟩:∃ x,rmost l 65536 (p,e)=x:=⟨_,rfl⟩;have hv1:rvec1 l (p,e)=if x.2.2=0∧((l.length:Int)-x.2.1<x.1) then (x.1,(x.2.1,20)) else x:=by unfold rvec1;rw [hx]
 have hv:rvec l (p,e)=if (rvec1 l (p,e)).2.2≠0 then ([],(rvec1 l (p,e)).2) else ((l.drop (rvec1 l (p,e)).2.1).take (rvec1 l (p,e)).1.toNat,((rvec1 l (p,e)).2.1+(rvec1 l (p,e)).1.toNat,0)):=rfl;rw [hx] at hmin hct hml;obtain ⟨n,p',er⟩:=x;simp only at hmin hct hv1 hml;obtain ⟨m1,m2,m3,m4⟩:=hmin;have HC:=Lib.hid hct;clear hct hx;by_cases he:er=0
 · subst he
   have hn6:=hml rfl;obtain ⟨n,rfl⟩:∃ k:Nat,n=(k:Int):=⟨n.toNat,by omega⟩
   by_cases hsh:(l.length:Int)-p'<n
   · rw [if_pos ⟨rfl,hsh⟩] at hv1
     rw [hv1] at hv;simp only at hv;rw [if_pos (by decide)] at hv
     rw [hv];clear hv hv1 hml;have hd:decide ((l.length:Int)-p'<n)=true:=by simpa using hsh
     clear hsh;go_enter Tryz.func185,Tryz.ntmps185
     go_wp2_with fail;refine HC.out.mono ?_;rintro e' w1 ⟨rfl,hB1,hg1⟩;obtain ⟨q1,f1⟩:=hB1.rules;have t1:=hB1.lt;go_wp2;go_quiet (fail);go_wp2;go_ret;exact ⟨none,0,rfl,World.ownsRow_nil _ _ _ _,(hB1.drewN nq).set_ 2 _,grow_set (grow_trans hg1 (grow_drewN _ _ _)) _ _⟩
   · rw [if_neg (fun h=>hsh h.2)] at hv1
     rw [hv1] at hv;simp only at hv;rw [if_neg (by decide),Int.toNat_natCast] at hv
     rw [hv];clear hv hv1 hml;have hd:decide ((l.length:Int)-p'<n)=false:=by simpa using hsh
     have hlen:((l.drop p').take n).length=n:=by rw [List.length_take,List.length_drop];omega
     have HL:=Lib.hid hlen;clear hlen;go_enter Tryz.func185,Tryz.ntmps185
     go_wp2_with fail;refine HC.out.mono ?_;rintro e' w1 ⟨rfl,hB1,hg1⟩;obtain ⟨q1,f1⟩:=hB1.rules;have t1:=hB1.lt;go_wp2;go_quiet (fail);go_wp2_with fail;have B2:=(hB1.drewN nq).set_ 1 (.int .i64 ((p':Int)+n));have hg2:=grow_set (grow_trans hg1 (grow_drewN w1 nq (some g))) 1 (.int .i64 ((p':Int)+n));generalize (w1.drewN nq).setCell ⟨g,1,none⟩ (.int .i64 ((p':Int)+n))=w2 at B2 hg2 ⊢;replace B2:Blk w2 g 207 #[.slice A l.length c,.int .i64 ((p':Int)+n),.int .i64 0]:=B2;have hb2:=hb.grow hg2;obtain ⟨_,_,hlc,hcc,_⟩:=hb2.open_;have hcut:IsB w2 (fun b=>b≠g) (.slice (if c=p' then A else A.map (·.add p')) n (c-p')) ((l.drop p').take n):=by
      have h1:=(cut_bytes hb2 (at':=p') (by omega)).pre (k:=n) (by omega)
      rw [Nat.mul_one,cells8_take] at h1;refine ⟨_,_,by rw [HL.out],?_,by rw [HL.out];omega,by omega,by rw [HL.out];omega⟩
      rw [HL.out];exact h1
     clear q1 f1 t1 hB1 hg1;obtain ⟨q1,f1⟩:=B2.rules;have t1:=B2.lt;have i1:IntKind.i64.wrap ((p':Int)+n-n)=p':=by rw [Int.add_sub_cancel];exact IntWalk.i64_in _ (by omega)
     have i3:(0:Int)≤(p':Int):=by omega
     have i4:(p':Int)≤(p':Int)+n:=by omega
     have i5:(p':Int)+n≤(c:Int):=by omega
     have i8:((p':Int)+n).toNat=p'+n:=by omega
     have i11:IntKind.i64.wrap (p':Int)=p':=IntWalk.i64_in _ (by omega)
     generalize hm:(l.drop p').take n=m at HL hcut;have HM:=Lib.hid hm;clear hm;by_cases hcp:c=p'
     · rw [if_pos hcp] at hcut
       obtain rfl:n=0:=by omega
       subst hcp;rw [Nat.sub_self] at hcut;have i7:((c:Int)+(0:Nat)).toNat-c=0:=by omega
       go_region_with (
        (go_at_call 62
         refine (cloneB_any _ m (fun b=>b≠g) w2.drew hcut.drew).mono ?_
         rintro e' w3 ⟨A7,c7,rfl,own7,hb7⟩))
       all_goals
        go_wp2;go_ret;rw [HL.out] at own7;have own8:=own_base own7 (show w.heap.size≤_ from hg2.size);rw [HM.out];exact ⟨A7,c7,by rw [HL.out];rfl,by rw [HL.out];exact own8,(B2.drew).step hb7,grow_then (grow_then hg2 (Below.refl _ _).drew) (hb7.mono hg2.size)⟩
     · rw [if_neg hcp] at hcut
       have i6:(p':Int)<(c:Int):=by omega
       have i7:((p':Int)+n).toNat-p'=n:=by omega
       go_region_with (
        (go_at_call 62
         refine (cloneB_any _ m (fun b=>b≠g) w2.drew hcut.drew).mono ?_
         rintro e' w3 ⟨A7,c7,rfl,own7,hb7⟩))
       all_goals
        go_wp2;go_ret;rw [HL.out] at own7;have own8:=own_base own7 (show w.heap.size≤_ from hg2.size);rw [HM.out];exact ⟨A7,c7,by rw [HL.out];rfl,by rw [HL.out];exact own8,(B2.drew).step hb7,grow_then (grow_then hg2 (Below.refl _ _).drew) (hb7.mono hg2.size)⟩
 · have hv1':rvec1 l (p,e)=(n,(p',er)):=by rw [hv1,if_neg (fun h=>he h.1)]
   rw [hv1'] at hv;simp only at hv;rw [if_pos he] at hv;rw [hv];clear hv hv1 hv1' hml;have heb:(er == 0)=false:=by simpa using he
   have heb2:(er != 0)=true:=by simpa using he
   clear he;go_enter Tryz.func185,Tryz.ntmps185
   go_wp2_with fail;refine HC.out.mono ?_;rintro e' w1 ⟨rfl,hB1,hg1⟩;obtain ⟨q1,f1⟩:=hB1.rules;have t1:=hB1.lt;go_wp2;go_quiet (fail);go_wp2;go_ret;exact ⟨none,0,rfl,World.ownsRow_nil _ _ _ _,hB1.drewN nq,grow_trans hg1 (grow_drewN _ _ _)⟩
end Go.Proofs.YtfhpolidjmbjoaaGreat
