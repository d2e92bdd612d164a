/- A part of the proof. -/
import Derived.Test.YtfhpolidjmbjoaaGreatReader
import Derived.Test.YtfhpolidjmbjoaaGreatWireNums
set_option maxHeartbeats 1000000
set_option maxRecDepth 100000
namespace Go.Proofs.YtfhpolidjmbjoaaGreat
open Go.RowKit
def takeNumsL (l:List UInt8) (many:Int):List Int × Int × Int:=
 if many<0 then ([],0,1) else if (rnums l many.toNat [] (0,0)).2.2≠0 then ([],0,(rnums l many.toNat [] (0,0)).2.2) else ((rnums l many.toNat [] (0,0)).1,((rnums l many.toNat [] (0,0)).2.1:Int),0)
def takeVecL (l:List UInt8):List UInt8 × Int × Int:=
 if (rvec l (0,0)).2.2≠0 then ([],0,(rvec l (0,0)).2.2) else ((rvec l (0,0)).1,((rvec l (0,0)).2.1:Int),0)
theorem isB_new {w:World} {K:Nat→Prop} {v:Value} {l:List UInt8} (h:IsB w K v l) (o:Obj):IsB (w.alloc o) (fun b=>b≠w.heap.size) v l:=by
 have:=h.lt;exact (this.alloc o).more fun b hb=>by omega
theorem takeNums_any (v:Value) (l:List UInt8) (many:Int) (K:Nat→Prop) (w:World) (hb:IsB w K v l) (hl:l.length≤10000000000000) (hm:many≤9223372036854775807) :
 Calls Tryz.prog 110 #[v,.int .i64 many] w fun e w'=>∃ A' c',e=.returned (.tuple #[.slice A' (takeNumsL l many).1.length c',.int .i64 (takeNumsL l many).2.1,.int .i64 (takeNumsL l many).2.2]) ∧
  w'.ownsRow w.heap.size 3 1 (.slice A' (takeNumsL l many).1.length c') (takeNumsL l many).1.length ((takeNumsL l many).1.map I64)∧Below w.heap.size w w':=by
 have hb0:=hb;obtain ⟨A,c,rfl,hr,hlc,hcc,_⟩:=hb;unfold takeNumsL;by_cases hneg:many<0
 · rw [if_pos hneg]
   go_enter Tryz.func110,Tryz.ntmps110
   go_wp2;go_ret3
   exact ⟨none,0,rfl,World.ownsRow_nil _ _ _ _,Below.refl _ _⟩
 · rw [if_neg hneg]
   obtain ⟨k,rfl⟩:∃ k:Nat,many=(k:Int):=⟨many.toNat,by omega⟩
   rw [Int.toNat_natCast];have hB:=Blk.new w 207 #[.slice A l.length c,.int .i64 0,.int .i64 0] rfl;have hct:=nums_any w.heap.size 0 c k A l (w.alloc (.cells #[.slice A l.length c,.int .i64 0,.int .i64 0] 207)) hB (isB_new hb0 _) (Nat.zero_le _) hl (by omega)
   obtain ⟨r,hr0⟩:∃ r,rnums l k [] (0,0)=r:=⟨_,rfl⟩;rw [hr0] at hct ⊢;obtain ⟨ns,p',er⟩:=r;simp only at hct ⊢;have HC:=Lib.hid hct;clear hct hr0;have hb1:Below w.heap.size w (w.alloc (.cells #[.slice A l.length c,.int .i64 0,.int .i64 0] 207)):=(Below.refl _ _).alloc (Nat.le_refl _) _;by_cases her:er=0
   · have hx:(er != 0)=false:=by simpa using her
     rw [if_neg (by simpa using her)]
     subst her;go_enter Tryz.func110,Tryz.ntmps110
     go_wp2_with fail;refine HC.out.mono ?_;rintro e w1 ⟨A1,c1,rfl,own1,hB1,hg1⟩;obtain ⟨q1,f1⟩:=hB1.rules;have t1:=hB1.lt;go_wp2;go_quiet (fail);go_wp2;go_ret3
     exact ⟨A1,c1,rfl,own_base own1 (by simp),below_drewN (hb1.trans (below_grow hg1 (Nat.le_refl _) (by simp))) _⟩
   · have hx:(er != 0)=true:=by simpa using her
     rw [if_pos (by simpa using her)]
     clear her;go_enter Tryz.func110,Tryz.ntmps110
     go_wp2_with fail;refine HC.out.mono ?_;rintro e w1 ⟨A1,c1,rfl,own1,hB1,hg1⟩;obtain ⟨q1,f1⟩:=hB1.rules;have t1:=hB1.lt;go_wp2;go_quiet (fail);go_wp2;go_ret3
     exact ⟨none,0,rfl,World.ownsRow_nil _ _ _ _,below_drewN (hb1.trans (below_grow hg1 (Nat.le_refl _) (by simp))) _⟩
theorem takeVec_any (v:Value) (l:List UInt8) (K:Nat→Prop) (w:World) (hb:IsB w K v l) :
 Calls Tryz.prog 172 #[v] w fun e w'=>∃ A' c',e=.returned (.tuple #[.slice A' (takeVecL l).1.length c',.int .i64 (takeVecL l).2.1,.int .i64 (takeVecL l).2.2]) ∧
  w'.ownsRow w.heap.size 5 1 (.slice A' (takeVecL l).1.length c') (takeVecL l).1.length (cells8 (takeVecL l).1)∧Below w.heap.size w w':=by
 have hb0:=hb;obtain ⟨A,c,rfl,hr,hlc,hcc,_⟩:=hb;unfold takeVecL;have hB:=Blk.new w 207 #[.slice A l.length c,.int .i64 0,.int .i64 0] rfl;have hct:=vec_any w.heap.size 0 c A 0 l (w.alloc (.cells #[.slice A l.length c,.int .i64 0,.int .i64 0] 207)) hB (isB_new hb0 _) (Nat.zero_le _);obtain ⟨r,hr0⟩:∃ r,rvec l (0,0)=r:=⟨_,rfl⟩;rw [hr0] at hct ⊢;obtain ⟨ns,p',er⟩:=r;simp only at hct ⊢;have HC:=Lib.hid hct;clear hct hr0;have hb1:Below w.heap.size w (w.alloc (.cells #[.slice A l.length c,.int .i64 0,.int .i64 0] 207)):=(Below.refl _ _).alloc (Nat.le_refl _) _;by_cases her:er=0
 · have hx:(er != 0)=false:=by simpa using her
   rw [if_neg (by simpa using her)]
   subst her;go_enter Tryz.func172,Tryz.ntmps172
   go_wp2_with fail;refine HC.out.mono ?_;rintro e w1 ⟨A1,c1,rfl,own1,hB1,hg1⟩;obtain ⟨q1,f1⟩:=hB1.rules;have t1:=hB1.lt;go_wp2;go_quiet (fail);go_wp2;go_ret3
   exact ⟨A1,c1,rfl,own_base own1 (by simp),below_drewN (hb1.trans (below_grow hg1 (Nat.le_refl _) (by simp))) _⟩
 · have hx:(er != 0)=true:=by simpa using her
   rw [if_pos (by simpa using her)]
   clear her;go_enter Tryz.func172,Tryz.ntmps172
   go_wp2_with fail;refine HC.out.mono ?_;rintro e w1 ⟨A1,c1,rfl,own1,hB1,hg1⟩;obtain ⟨q1,f1⟩:=hB1.rules;have t1:=hB1.lt;go_wp2;go_quiet (fail);go_wp2;go_ret3
   exact ⟨none,0,rfl,World.ownsRow_nil _ _ _ _,below_drewN (hb1.trans (below_grow hg1 (Nat.le_refl _) (by simp))) _⟩
theorem rnum_err {l:List UInt8} {p:Nat} {e:Int} (he:e≠0):rnum l (p,e)=(0,(p,e)):=if_pos he
theorem rnum_inv {l:List UInt8} {p q:Nat} {n e:Int} (h:rnum l (p,e)=(n,(q,0))):e=0∧0≤n∧n≤9223372036854775807∧q=p+(putL n.toNat).length∧l.drop p=putL n.toNat++l.drop q:=by
 by_cases he:e=0
 · subst he
   unfold rnum at h;rw [if_neg (by simp)] at h
   simp only at h;split at h
   · rename_i h1
     simp only [Prod.mk.injEq] at h;exact absurd h.2.2 (by simpa using h1)
   · rename_i h1
     split at h
     · simp at h
     · rename_i h2
       simp only [Prod.mk.injEq,and_true] at h;obtain ⟨rfl,rfl⟩:=h;obtain ⟨h3,h4,r,h5⟩:=takeL_inv (Decidable.not_not.1 h1);refine ⟨rfl,by omega,by omega,by rw [Int.toNat_natCast];omega,?_⟩
       rw [Int.toNat_natCast,←List.drop_drop,h4];generalize (takeL (List.drop p l)).1=m at h5 ⊢;rw [h5,List.drop_left]
 · rw [rnum_err he] at h
   simp only [Prod.mk.injEq] at h;exact absurd h.2.2 he
theorem rmost_inv {l:List UInt8} {p q:Nat} {m n e:Int} (h:rmost l m (p,e)=(n,(q,0))):rnum l (p,e)=(n,(q,0))∧n≤m:=by
 have hle:=rmost_le (l:=l) (m:=m) (s:=(p,e)) (by rw [h])
 rw [h] at hle;refine ⟨?_,hle⟩;unfold rmost at h;split at h
 · simp only [Prod.mk.injEq] at h;omega
 · exact h
theorem rnums_inv {l:List UInt8}:∀ (k:Nat) (acc r:List Int) (p q:Nat) (e:Int),e=0→rnums l k acc (p,e)=(r,(q,0)) →
 ∃ ns,r=acc++ns∧ns.length=k∧(∀ n∈ns,0≤n∧n≤9223372036854775807)∧q=p+(flatN ns).length∧l.drop p=flatN ns++l.drop q
 | 0,acc,r,p,q,e,he,h=>by
   simp only [rnums,Prod.mk.injEq] at h;obtain ⟨rfl,rfl,_⟩:=h;exact ⟨[],by simp,rfl,fun _ h=>(by cases h),by simp [flatN],by simp [flatN]⟩
 | k+1,acc,r,p,q,e,he,h=>by
   unfold rnums at h;split at h
   · rename_i h1
     simp only [Prod.mk.injEq] at h;exact absurd (by rw [h.2]) h1
   · rename_i h1
     obtain ⟨x,hx⟩:∃ x,rnum l (p,e)=x:=⟨_,rfl⟩;rw [hx] at h h1;obtain ⟨n,p',e'⟩:=x;have he':e'=0:=Decidable.not_not.1 h1;subst he';obtain ⟨_,h2,h3,h4,h5⟩:=rnum_inv hx;obtain ⟨ns,h6,h7,h8,h9,h10⟩:=rnums_inv k (acc++[n]) r p' q 0 rfl h;have hf:flatN (n::ns)=putL n.toNat++flatN ns:=by simp [flatN]
     refine ⟨n::ns,by rw [h6];simp,by simp [h7],fun m hm=>?_,by rw [hf,List.length_append];omega,by rw [hf,List.append_assoc,←h10,h5]⟩
     rcases List.mem_cons.1 hm with rfl | hm
     · exact ⟨h2,h3⟩
     · exact h8 m hm
theorem rvec_inv {l d:List UInt8} {p q:Nat} {e:Int} (hp:p≤l.length) (h:rvec l (p,e)=(d,(q,0))):e=0∧d.length≤65536∧q=p+(putL d.length).length+d.length∧l.drop p=putL d.length++(d++l.drop q):=by
 unfold rvec at h;split at h
 · rename_i h1
   simp only [Prod.mk.injEq] at h;exact absurd (by rw [h.2]) h1
 · rename_i h1
   have hin:=rvec1_in (l:=l) (s:=(p,e)) hp;have hle:=rvec1_le (Decidable.not_not.1 h1);obtain ⟨x,hx⟩:∃ x,rvec1 l (p,e)=x:=⟨_,rfl⟩;rw [hx] at h h1 hin hle;obtain ⟨n,p',e'⟩:=x;have he':e'=0:=Decidable.not_not.1 h1;subst he';simp only at h hin hle;have hm:rmost l 65536 (p,e)=(n,(p',0)):=by
    unfold rvec1 at hx;split at hx
    · simp only [Prod.mk.injEq] at hx;omega
    · exact hx
   obtain ⟨hm1,_⟩:=rmost_inv hm;obtain ⟨he,h2,h3,h4,h5⟩:=rnum_inv hm1;simp only [Prod.mk.injEq,and_true] at h;obtain ⟨rfl,rfl⟩:=h;have hl:((l.drop p').take n.toNat).length=n.toNat:=by rw [List.length_take,List.length_drop];omega
   rw [hl];refine ⟨he,by omega,by omega,?_⟩
   rw [h5,←List.drop_drop,List.take_append_drop]
theorem takeVec_one {b v:List UInt8} {k:Int} (h:takeVecL b=(v,k,0)):∃ j:Nat,k=j∧1≤j∧j≤b.length∧vecL v=(b.take j,0)∧v.length≤65536:=by
 unfold takeVecL at h;split at h
 · rename_i h1;simp only [Prod.mk.injEq] at h;exact absurd h.2.2 h1
 · rename_i h1
   obtain ⟨x,hx⟩:∃ x,rvec b (0,0)=x:=⟨_,rfl⟩;rw [hx] at h h1;obtain ⟨d,q,e⟩:=x;have he:e=0:=Decidable.not_not.1 h1;subst he;simp only [Prod.mk.injEq,and_true] at h;obtain ⟨rfl,rfl⟩:=h;obtain ⟨_,h2,h3,h4⟩:=rvec_inv (Nat.zero_le _) hx;have hpos:=putL_pos d.length;have hl:=congrArg List.length h4;simp only [List.drop_zero,List.length_append,List.length_drop] at hl;refine ⟨q,rfl,by omega,by omega,?_,h2⟩
   unfold vecL;rw [if_pos h2];rw [List.drop_zero,←List.append_assoc] at h4;have hq:q=(putL d.length++d).length:=by rw [List.length_append];omega
   have:b.take q=putL d.length++d:=by
    conv=>lhs;rw [h4,hq]
    exact List.take_left
   rw [this]
end Go.Proofs.YtfhpolidjmbjoaaGreat
