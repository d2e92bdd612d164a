/- A part of the proof. -/
import Derived.BigQuiet
import Derived.Deep.RegionHeld3
import Derived.StillTailTactics
import Derived.Test.YthblkdnijhphhaaGreatWireNums
set_option maxHeartbeats 1000000
set_option maxRecDepth 100000
namespace Go.Proofs.YthblkdnijhphhaaGreat
open Go.RowKit
section
variable {w w' w'':World} {g:Nat}
theorem zcp (h:w.grownBy w' (some g)) (i:Nat) (u:Value):w.grownBy (w'.setCell ⟨g,i,none⟩ u) (some g):=
 ⟨h.os,h.tape,h.output,by simpa [World.setCell] using h.size,fun k hk hne=>by rw [Below.heap_setCell _ _ _ _ (by show k≠g;rintro rfl;exact hne rfl)];exact h.block k hk hne⟩
theorem zbx (w:World) (n:Nat) (row:Option Nat):w.grownBy (w.drewN n) row:=⟨rfl,rfl,rfl,Nat.le_refl _,fun _ _ _=>rfl⟩
theorem zdY {row:Option Nat} (h:w.grownBy w' row) (h':w'.grownBy w'' row):w.grownBy w'' row:=
 ⟨h'.os.trans h.os,h'.tape.trans h.tape,h'.output.trans h.output,Nat.le_trans h.size h'.size,fun k hk hne=>(h'.block k (by have:=h.size;omega) hne).trans (h.block k hk hne)⟩
theorem zdP {row:Option Nat} (h:w.grownBy w' row) (h':Below w.heap.size w' w''):w.grownBy w'' row:=
 ⟨h'.os.trans h.os,h'.tape.trans h.tape,h'.output.trans h.output,Nat.le_trans h.size h'.size,fun k hk hne=>(h'.block k hk).trans (h.block k hk hne)⟩
theorem zjB {row:Option Nat} (h:Below w.heap.size w w'):w.grownBy w' row:=⟨h.os,h.tape,h.output,h.size,fun k hk _=>h.block k hk⟩
theorem zfP {B:Nat} (h:w.grownBy w' (some g)) (hg:B≤g) (hB:B≤w.heap.size):Below B w w':=(Below.refl _ _).grown h hB (fun k hk=>by cases hk;exact hg)
theorem IsB.grow {v:Value} {l:List UInt8} (h:IsB w (fun b=>b≠g) v l) (hg:w.grownBy w' (some g)):IsB w' (fun b=>b≠g) v l:=
 h.keep fun p hp hl=>World.cell?_of_block (hg.block p.block hl (by simpa using hp))
end
theorem zp8 (n:Nat) (h:9223372036854775808≤n) (h2:n<18446744073709551616):(n:Int) / 9223372036854775808=1:=by omega
theorem zp6 (n:Nat) (h:¬9223372036854775808≤n):(n:Int) / 9223372036854775808≠1:=by omega
theorem zf0 {w:World} {K:Nat→Prop} {A:Option Addr} {c:Nat} {l:List UInt8} (h:IsB w K (.slice A l.length c) l) {at':Nat} (ha:at'≤l.length) :
 za6 w K 1 (if c=at' then A else A.map (·.add at')) (l.length-at') (za3 (l.drop at')):=by
 obtain ⟨_,hr,h1,h2,h3⟩:=h.open_;have:=hr.cut (k:=at') (cap:=c) ha h1;rw [Nat.mul_one,zi9] at this;exact this
theorem znS (g p c:Nat) (A:Option Addr) (e:Int) (l:List UInt8) (w:World) (hB:Blk w g 281 #[.slice A l.length c,.int .i64 p,.int .i64 e]) (hb:IsB w (fun b=>b≠g) (.slice A l.length c) l) (hp:p≤l.length) :
 Calls Tryz.prog 210 #[.pointer (some ⟨g,0,none⟩)] w fun en w'=>en=.returned (.int .i64 (rnum l (p,e)).1) ∧
  Blk w' g 281 #[.slice A l.length c,.int .i64 ((rnum l (p,e)).2.1:Int),.int .i64 (rnum l (p,e)).2.2]∧w.grownBy w' (some g):=by
 obtain ⟨q1,f1⟩:=hB.rules;have t1:=hB.lt;have hlb:=hb.len;by_cases he:e=0
 · subst he
   obtain ⟨_,_,hlc,hcc,_⟩:=hb.open_;have hr:=zf0 hb hp;obtain ⟨r,hr0⟩:∃ r,zca (l.drop p)=r:=⟨_,rfl⟩;obtain ⟨n,k,er⟩:=r;have hn:rnum l (p,0)=if er≠0 then ((0:Int),((p,(er:Int)):Rs)) else if 9223372036854775808≤n then (0,(p,21)) else ((n:Int),(p+k,0)):=by
    unfold rnum;simp only [hr0,ne_eq,not_true_eq_false,if_false]
   rw [hn];have hpl:(p:Int)≤(l.length:Int):=by omega
   have hp0:(0:Int)≤(p:Int):=by omega
   have hpc:(p:Int)≤(c:Int):=by omega
   have H0:=Lib.hid hr0;have hle:=fun h=>ziW (b:=l.drop p) h
   have hin:=fun h=>zf9 (b:=l.drop p) h
   rw [hr0] at hle hin;simp only [List.length_drop] at hle hin;clear hn hr0;have hct:∀ W,za6 W (fun b=>b≠g) 1 (if c=p then A else A.map (·.add p)) (l.length-p) (za3 (l.drop p))→Calls Tryz.prog 218 #[.slice (if c=p then A else A.map (·.add p)) (l.length-p) (c-p)] W fun e w'=>e=.returned (.tuple #[.int .u64 n,.int .i64 k,.int .i64 er])∧w'=W:=by
    intro W h;refine (zmd (l.drop p) _ _ _ _ (by rw [List.length_drop]) (by omega) W h).mono ?_
    rw [H0.out];rintro e w' ⟨rfl,rfl⟩;exact ⟨rfl,rfl⟩
   have HC:=Lib.hid hct;clear hct;by_cases her:er=0
   · subst her
     rw [if_neg (by simp)]
     have HK:=Lib.hid (hle rfl);obtain ⟨hn64,-,-⟩:=hin rfl;clear hle hin;by_cases hbig:9223372036854775808≤n
     · rw [if_pos hbig]
       have HBIG:=Lib.hid hbig;clear hbig;have HN64:=Lib.hid hn64;clear hn64;go_enter Tryz.func210,Tryz.ntmps210
       go_wp2;go_quiet ((go_at_call 218;exact Calls.quiet_of_same (HC.out _ hr)));generalize (if c=p then A else A.map (·.add p))=A';have hb1:(((n:Int) / 9223372036854775808) == 1)=true:=by have h1:=HBIG.out;have h2:=HN64.out;rw [beq_iff_eq];exact zp8 n h1 h2
       go_wp2;go_ret;exact ⟨rfl,(hB.drewN nq).set_ 2 _,zcp (zbx _ _ _) _ _⟩
     · rw [if_neg hbig]
       have HBIG:=Lib.hid hbig;clear hbig;have HN64:=Lib.hid hn64;clear hn64;go_enter Tryz.func210,Tryz.ntmps210
       go_wp2;go_quiet ((go_at_call 218;exact Calls.quiet_of_same (HC.out _ hr)));generalize (if c=p then A else A.map (·.add p))=A';have hb1:(((n:Int) / 9223372036854775808) == 1)=false:=by have h1:=HBIG.out;rw [beq_eq_false_iff_ne];exact zp6 n h1
       have hb2:(n:Int)≤9223372036854775807:=by have h1:=HBIG.out;omega
       have hk:(k:Int)≤10:=by have:=HK.out;omega
       go_wp2;go_ret;exact ⟨rfl,(hB.drewN nq).set_ 1 _,zcp (zbx _ _ _) _ _⟩
   · rw [if_pos her]
     have herb:((er:Int) != 0)=true:=by simpa using her
     have herb2:((er:Int) == 0)=false:=by simpa using her
     clear her hle hin;go_enter Tryz.func210,Tryz.ntmps210
     go_wp2;go_quiet ((go_at_call 218;exact Calls.quiet_of_same (HC.out _ hr)));generalize (if c=p then A else A.map (·.add p))=A';go_wp2;all_goals
      go_ret;exact ⟨rfl,(hB.drewN nq).set_ 2 _,zcp (zbx _ _ _) _ _⟩
 · have hn:rnum l (p,e)=(0,(p,e)):=if_pos he
   rw [hn];have heb:(e != 0)=true:=by simpa using he
   clear he hn;go_enter Tryz.func210,Tryz.ntmps210
   go_wp2;go_ret;exact ⟨rfl,hB,World.grownBy.refl w _⟩
theorem zmr (g p c:Nat) (A:Option Addr) (e m:Int) (l:List UInt8) (w:World) (hB:Blk w g 281 #[.slice A l.length c,.int .i64 p,.int .i64 e]) (hb:IsB w (fun b=>b≠g) (.slice A l.length c) l) (hp:p≤l.length) :
 Calls Tryz.prog 231 #[.pointer (some ⟨g,0,none⟩),.int .i64 m] w fun en w'=>en=.returned (.int .i64 (zbD l m (p,e)).1) ∧
  Blk w' g 281 #[.slice A l.length c,.int .i64 ((zbD l m (p,e)).2.1:Int),.int .i64 (zbD l m (p,e)).2.2]∧w.grownBy w' (some g):=by
 obtain ⟨r,hr⟩:∃ r,rnum l (p,e)=r:=⟨_,rfl⟩;have hm:zbD l m (p,e)=if r.2.2=0∧m<r.1 then (r.1,(r.2.1,2)) else r:=by unfold zbD;rw [hr]
 obtain ⟨n,at',er⟩:=r;have HR:=Lib.hid hr;clear hr;rw [hm];clear hm;have hct:∀ W,Blk W g 281 #[.slice A l.length c,.int .i64 p,.int .i64 e]→IsB W (fun b=>b≠g) (.slice A l.length c) l→Calls Tryz.prog 210 #[.pointer (some ⟨g,0,none⟩)] W fun en w'=>en=.returned (.int .i64 n) ∧
  Blk w' g 281 #[.slice A l.length c,.int .i64 at',.int .i64 er]∧W.grownBy w' (some g):=by
  intro W h1 h2;have:=znS g p c A e l W h1 h2 hp;rw [HR.out] at this;exact this
 have HC:=Lib.hid (hct w hB hb);clear hct;by_cases h:er=0∧m<n
 · rw [if_pos h]
   obtain ⟨he,hn⟩:=h;have heb:(er == 0)=true:=by simpa using he
   clear he;go_enter Tryz.func231,Tryz.ntmps231
   go_wp2_with fail;refine HC.out.mono ?_;rintro e' w1 ⟨rfl,hB1,hg1⟩;obtain ⟨q1,f1⟩:=hB1.rules;have t1:=hB1.lt;go_wp2;go_ret;exact ⟨rfl,hB1.set_ 2 _,zcp hg1 _ _⟩
 · rw [if_neg h]
   by_cases he:er=0
   · have hn:¬m<n:=fun hn=>h ⟨he,hn⟩
     have heb:(er == 0)=true:=by simpa using he
     clear he h;go_enter Tryz.func231,Tryz.ntmps231
     go_wp2_with fail;refine HC.out.mono ?_;rintro e' w1 ⟨rfl,hB1,hg1⟩;obtain ⟨q1,f1⟩:=hB1.rules;go_wp2;go_ret;exact ⟨rfl,hB1,hg1⟩
   · have heb:(er == 0)=false:=by simpa using he
     clear he h;go_enter Tryz.func231,Tryz.ntmps231
     go_wp2_with fail;refine HC.out.mono ?_;rintro e' w1 ⟨rfl,hB1,hg1⟩;obtain ⟨q1,f1⟩:=hB1.rules;go_wp2;go_ret;exact ⟨rfl,hB1,hg1⟩
theorem Tryz.infInt:(Tryz.prog.info? 3).map (fun i=>(i.zero,i.size,i.bytes))=some (some (.int .i64 0),1,8):=by kernel_rfl
theorem zny (g p c:Nat) (A:Option Addr) (e:Int) (l:List UInt8) (w:World) (hB:Blk w g 281 #[.slice A l.length c,.int .i64 p,.int .i64 e]) (hb:IsB w (fun b=>b≠g) (.slice A l.length c) l) (hp:p≤l.length) :
 Calls Tryz.prog 225 #[.pointer (some ⟨g,0,none⟩)] w fun en w'=>∃ A' c',en=.returned (.slice A' (rvec l (p,e)).1.length c') ∧
  w'.ownsRow w.heap.size 5 1 (.slice A' (rvec l (p,e)).1.length c') (rvec l (p,e)).1.length (za3 (rvec l (p,e)).1) ∧
  Blk w' g 281 #[.slice A l.length c,.int .i64 ((rvec l (p,e)).2.1:Int),.int .i64 (rvec l (p,e)).2.2]∧w.grownBy w' (some g):=by
 have hlb:=hb.len;have hmin:=zgu 65536 (l:=l) (s:=(p,e)) hp;have hct:=zmr g p c A e 65536 l w hB hb hp;have hml:=fun h=>zg9 (l:=l) (s:=(p,e)) (m:=65536) h
 obtain ⟨x,hx⟩:∃ x,zbD l 65536 (p,e)=x:=⟨_,rfl⟩;have hv1:zbf l (p,e)=if x.2.2=0∧((l.length:Int)-x.2.1<x.1) then (x.1,(x.2.1,20)) else x:=by unfold zbf;rw [hx]
 have hv:rvec l (p,e)=if (zbf l (p,e)).2.2≠0 then ([],(zbf l (p,e)).2) else ((l.drop (zbf l (p,e)).2.1).take (zbf l (p,e)).1.toNat,((zbf l (p,e)).2.1+(zbf l (p,e)).1.toNat,0)):=rfl;rw [hx] at hmin hct hml;obtain ⟨n,p',er⟩:=x;simp only at hmin hct hv1 hml;obtain ⟨m1,m2,m3,m4⟩:=hmin;have HC:=Lib.hid hct;clear hct hx;by_cases he:er=0
 · subst he
   have hn6:=hml rfl;obtain ⟨n,rfl⟩:∃ k:Nat,n=(k:Int):=⟨n.toNat,by omega⟩
   by_cases hsh:(l.length:Int)-p'<n
   · rw [if_pos ⟨rfl,hsh⟩] at hv1
     rw [hv1] at hv;simp only at hv;rw [if_pos (by decide)] at hv
     rw [hv];clear hv hv1 hml;have hd:decide ((l.length:Int)-p'<n)=true:=by simpa using hsh
     clear hsh;go_enter Tryz.func225,Tryz.ntmps225
     go_wp2_with fail;refine HC.out.mono ?_;rintro e' w1 ⟨rfl,hB1,hg1⟩;obtain ⟨q1,f1⟩:=hB1.rules;have t1:=hB1.lt;go_wp2;go_quiet (fail);go_wp2;go_ret;exact ⟨none,0,rfl,World.ownsRow_nil _ _ _ _,(hB1.drewN nq).set_ 2 _,zcp (zdY hg1 (zbx _ _ _)) _ _⟩
   · rw [if_neg (fun h=>hsh h.2)] at hv1
     rw [hv1] at hv;simp only at hv;rw [if_neg (by decide),Int.toNat_natCast] at hv
     rw [hv];clear hv hv1 hml;have hd:decide ((l.length:Int)-p'<n)=false:=by simpa using hsh
     have hlen:((l.drop p').take n).length=n:=by rw [List.length_take,List.length_drop];omega
     have HL:=Lib.hid hlen;clear hlen;go_enter Tryz.func225,Tryz.ntmps225
     go_wp2_with fail;refine HC.out.mono ?_;rintro e' w1 ⟨rfl,hB1,hg1⟩;obtain ⟨q1,f1⟩:=hB1.rules;have t1:=hB1.lt;go_wp2;go_quiet (fail);go_wp2_with fail;have B2:=(hB1.drewN nq).set_ 1 (.int .i64 ((p':Int)+n));have hg2:=zcp (zdY hg1 (zbx w1 nq (some g))) 1 (.int .i64 ((p':Int)+n));generalize (w1.drewN nq).setCell ⟨g,1,none⟩ (.int .i64 ((p':Int)+n))=w2 at B2 hg2 ⊢;replace B2:Blk w2 g 281 #[.slice A l.length c,.int .i64 ((p':Int)+n),.int .i64 0]:=B2;have hb2:=hb.grow hg2;obtain ⟨_,_,hlc,hcc,_⟩:=hb2.open_;have hcut:IsB w2 (fun b=>b≠g) (.slice (if c=p' then A else A.map (·.add p')) n (c-p')) ((l.drop p').take n):=by
      have h1:=(zf0 hb2 (at':=p') (by omega)).pre (k:=n) (by omega)
      rw [Nat.mul_one,zeZ] at h1;refine ⟨_,_,by rw [HL.out],?_,by rw [HL.out];omega,by omega,by rw [HL.out];omega⟩
      rw [HL.out];exact h1
     clear q1 f1 t1 hB1 hg1;obtain ⟨q1,f1⟩:=B2.rules;have t1:=B2.lt;have i1:IntKind.i64.wrap ((p':Int)+n-n)=p':=by rw [Int.add_sub_cancel];exact IntWalk.i64_in _ (by omega)
     have i3:(0:Int)≤(p':Int):=by omega
     have i4:(p':Int)≤(p':Int)+n:=by omega
     have i5:(p':Int)+n≤(c:Int):=by omega
     have i8:((p':Int)+n).toNat=p'+n:=by omega
     have i11:IntKind.i64.wrap (p':Int)=p':=IntWalk.i64_in _ (by omega)
     generalize hm:(l.drop p').take n=m at HL hcut;have HM:=Lib.hid hm;clear hm;by_cases hcp:c=p'
     · rw [if_pos hcp] at hcut
       obtain rfl:n=0:=by omega
       subst hcp;rw [Nat.sub_self] at hcut;have i7:((c:Int)+(0:Nat)).toNat-c=0:=by omega
       go_region_with (
        (go_at_call 66
         refine (zay _ m (fun b=>b≠g) w2.drew hcut.drew).mono ?_
         rintro e' w3 ⟨A7,c7,rfl,own7,hb7⟩))
       all_goals
        go_wp2;go_ret;rw [HL.out] at own7;have own8:=zac own7 (show w.heap.size≤_ from hg2.size);rw [HM.out];exact ⟨A7,c7,by rw [HL.out];rfl,by rw [HL.out];exact own8,(B2.drew).step hb7,zdP (zdP hg2 (Below.refl _ _).drew) (hb7.mono hg2.size)⟩
     · rw [if_neg hcp] at hcut
       have i6:(p':Int)<(c:Int):=by omega
       have i7:((p':Int)+n).toNat-p'=n:=by omega
       go_region_with (
        (go_at_call 66
         refine (zay _ m (fun b=>b≠g) w2.drew hcut.drew).mono ?_
         rintro e' w3 ⟨A7,c7,rfl,own7,hb7⟩))
       all_goals
        go_wp2;go_ret;rw [HL.out] at own7;have own8:=zac own7 (show w.heap.size≤_ from hg2.size);rw [HM.out];exact ⟨A7,c7,by rw [HL.out];rfl,by rw [HL.out];exact own8,(B2.drew).step hb7,zdP (zdP hg2 (Below.refl _ _).drew) (hb7.mono hg2.size)⟩
 · have hv1':zbf l (p,e)=(n,(p',er)):=by rw [hv1,if_neg (fun h=>he h.1)]
   rw [hv1'] at hv;simp only at hv;rw [if_pos he] at hv;rw [hv];clear hv hv1 hv1' hml;have heb:(er == 0)=false:=by simpa using he
   have heb2:(er != 0)=true:=by simpa using he
   clear he;go_enter Tryz.func225,Tryz.ntmps225
   go_wp2_with fail;refine HC.out.mono ?_;rintro e' w1 ⟨rfl,hB1,hg1⟩;obtain ⟨q1,f1⟩:=hB1.rules;have t1:=hB1.lt;go_wp2;go_quiet (fail);go_wp2;go_ret;exact ⟨none,0,rfl,World.ownsRow_nil _ _ _ _,hB1.drewN nq,zdY hg1 (zbx _ _ _)⟩
def zaU (l:List UInt8) (many:Int):List Int × Int × Int:=
 if many<0 then ([],0,1) else if (zk7 l many.toNat [] (0,0)).2.2≠0 then ([],0,(zk7 l many.toNat [] (0,0)).2.2) else ((zk7 l many.toNat [] (0,0)).1,((zk7 l many.toNat [] (0,0)).2.1:Int),0)
def zas (l:List UInt8):List UInt8 × Int × Int:=
 if (rvec l (0,0)).2.2≠0 then ([],0,(rvec l (0,0)).2.2) else ((rvec l (0,0)).1,((rvec l (0,0)).2.1:Int),0)
theorem znL {w:World} {K:Nat→Prop} {v:Value} {l:List UInt8} (h:IsB w K v l) (o:Obj):IsB (w.alloc o) (fun b=>b≠w.heap.size) v l:=by
 have:=h.lt;exact (this.alloc o).more fun b hb=>by omega
theorem zeX (v:Value) (l:List UInt8) (K:Nat→Prop) (w:World) (hb:IsB w K v l) :
 Calls Tryz.prog 220 #[v] w fun e w'=>∃ A' c',e=.returned (.tuple #[.slice A' (zas l).1.length c',.int .i64 (zas l).2.1,.int .i64 (zas l).2.2]) ∧
  w'.ownsRow w.heap.size 5 1 (.slice A' (zas l).1.length c') (zas l).1.length (za3 (zas l).1)∧Below w.heap.size w w':=by
 have hb0:=hb;obtain ⟨A,c,rfl,hr,hlc,hcc,_⟩:=hb;unfold zas;have hB:=Blk.new w 281 #[.slice A l.length c,.int .i64 0,.int .i64 0] rfl;have hct:=zny w.heap.size 0 c A 0 l (w.alloc (.cells #[.slice A l.length c,.int .i64 0,.int .i64 0] 281)) hB (znL hb0 _) (Nat.zero_le _);obtain ⟨r,hr0⟩:∃ r,rvec l (0,0)=r:=⟨_,rfl⟩;rw [hr0] at hct ⊢;obtain ⟨ns,p',er⟩:=r;simp only at hct ⊢;have HC:=Lib.hid hct;clear hct hr0;have hb1:Below w.heap.size w (w.alloc (.cells #[.slice A l.length c,.int .i64 0,.int .i64 0] 281)):=(Below.refl _ _).alloc (Nat.le_refl _) _;by_cases her:er=0
 · have hx:(er != 0)=false:=by simpa using her
   rw [if_neg (by simpa using her)]
   subst her;go_enter Tryz.func220,Tryz.ntmps220
   go_wp2_with fail;refine HC.out.mono ?_;rintro e w1 ⟨A1,c1,rfl,own1,hB1,hg1⟩;obtain ⟨q1,f1⟩:=hB1.rules;have t1:=hB1.lt;go_wp2;go_quiet (fail);go_wp2;go_ret3
   exact ⟨A1,c1,rfl,zac own1 (by simp),zaF (hb1.trans (zfP hg1 (Nat.le_refl _) (by simp))) _⟩
 · have hx:(er != 0)=true:=by simpa using her
   rw [if_pos (by simpa using her)]
   clear her;go_enter Tryz.func220,Tryz.ntmps220
   go_wp2_with fail;refine HC.out.mono ?_;rintro e w1 ⟨A1,c1,rfl,own1,hB1,hg1⟩;obtain ⟨q1,f1⟩:=hB1.rules;have t1:=hB1.lt;go_wp2;go_quiet (fail);go_wp2;go_ret3
   exact ⟨none,0,rfl,World.ownsRow_nil _ _ _ _,zaF (hb1.trans (zfP hg1 (Nat.le_refl _) (by simp))) _⟩
theorem zn2 {l:List UInt8} {p:Nat} {e:Int} (he:e≠0):rnum l (p,e)=(0,(p,e)):=if_pos he
theorem zmB {l:List UInt8} {p q:Nat} {n e:Int} (h:rnum l (p,e)=(n,(q,0))):e=0∧0≤n∧n≤9223372036854775807∧q=p+(putL n.toNat).length∧l.drop p=putL n.toNat++l.drop q:=by
 by_cases he:e=0
 · subst he
   unfold rnum at h;rw [if_neg (by simp)] at h
   simp only at h;split at h
   · rename_i h1
     simp only [Prod.mk.injEq] at h;exact absurd h.2.2 (by simpa using h1)
   · rename_i h1
     split at h
     · simp at h
     · rename_i h2
       simp only [Prod.mk.injEq,and_true] at h;obtain ⟨rfl,rfl⟩:=h;obtain ⟨h3,h4,r,h5⟩:=zf9 (Decidable.not_not.1 h1);refine ⟨rfl,by omega,by omega,by rw [Int.toNat_natCast];omega,?_⟩
       rw [Int.toNat_natCast,←List.drop_drop,h4];generalize (zca (List.drop p l)).1=m at h5 ⊢;rw [h5,List.drop_left]
 · rw [zn2 he] at h
   simp only [Prod.mk.injEq] at h;exact absurd h.2.2 he
theorem zlR {l:List UInt8} {p q:Nat} {m n e:Int} (h:zbD l m (p,e)=(n,(q,0))):rnum l (p,e)=(n,(q,0))∧n≤m:=by
 have hle:=zg9 (l:=l) (m:=m) (s:=(p,e)) (by rw [h])
 rw [h] at hle;refine ⟨?_,hle⟩;unfold zbD at h;split at h
 · simp only [Prod.mk.injEq] at h;omega
 · exact h
theorem zna {l d:List UInt8} {p q:Nat} {e:Int} (hp:p≤l.length) (h:rvec l (p,e)=(d,(q,0))):e=0∧d.length≤65536∧q=p+(putL d.length).length+d.length∧l.drop p=putL d.length++(d++l.drop q):=by
 unfold rvec at h;split at h
 · rename_i h1
   simp only [Prod.mk.injEq] at h;exact absurd (by rw [h.2]) h1
 · rename_i h1
   have hin:=zm8 (l:=l) (s:=(p,e)) hp;have hle:=zms (Decidable.not_not.1 h1);obtain ⟨x,hx⟩:∃ x,zbf l (p,e)=x:=⟨_,rfl⟩;rw [hx] at h h1 hin hle;obtain ⟨n,p',e'⟩:=x;have he':e'=0:=Decidable.not_not.1 h1;subst he';simp only at h hin hle;have hm:zbD l 65536 (p,e)=(n,(p',0)):=by
    unfold zbf at hx;split at hx
    · simp only [Prod.mk.injEq] at hx;omega
    · exact hx
   obtain ⟨hm1,_⟩:=zlR hm;obtain ⟨he,h2,h3,h4,h5⟩:=zmB hm1;simp only [Prod.mk.injEq,and_true] at h;obtain ⟨rfl,rfl⟩:=h;have hl:((l.drop p').take n.toNat).length=n.toNat:=by rw [List.length_take,List.length_drop];omega
   rw [hl];refine ⟨he,by omega,by omega,?_⟩
   rw [h5,←List.drop_drop,List.take_append_drop]
theorem zfa {b v:List UInt8} {k:Int} (h:zas b=(v,k,0)):∃ j:Nat,k=j∧1≤j∧j≤b.length∧vecL v=(b.take j,0)∧v.length≤65536:=by
 unfold zas at h;split at h
 · rename_i h1;simp only [Prod.mk.injEq] at h;exact absurd h.2.2 h1
 · rename_i h1
   obtain ⟨x,hx⟩:∃ x,rvec b (0,0)=x:=⟨_,rfl⟩;rw [hx] at h h1;obtain ⟨d,q,e⟩:=x;have he:e=0:=Decidable.not_not.1 h1;subst he;simp only [Prod.mk.injEq,and_true] at h;obtain ⟨rfl,rfl⟩:=h;obtain ⟨_,h2,h3,h4⟩:=zna (Nat.zero_le _) hx;have hpos:=zgr d.length;have hl:=congrArg List.length h4;simp only [List.drop_zero,List.length_append,List.length_drop] at hl;refine ⟨q,rfl,by omega,by omega,?_,h2⟩
   unfold vecL;rw [if_pos h2];rw [List.drop_zero,←List.append_assoc] at h4;have hq:q=(putL d.length++d).length:=by rw [List.length_append];omega
   have:b.take q=putL d.length++d:=by
    conv=>lhs;rw [h4,hq]
    exact List.take_left
   rw [this]
end Go.Proofs.YthblkdnijhphhaaGreat
