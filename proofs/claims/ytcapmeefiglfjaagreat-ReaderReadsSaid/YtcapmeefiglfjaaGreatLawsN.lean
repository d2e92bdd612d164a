/- A part of the proof. -/
import Derived.BigQuiet
import Derived.Deep.RegionHeld3
import Derived.StillTailTactics
import Derived.Test.YtcapmeefiglfjaaGreatWireNums
namespace Go.Proofs.YtcapmeefiglfjaaGreat
open Go.RowKit
section
variable {w w' w'':World} {g:Nat}
theorem zeb (h:w.grownBy w' (some g)) (i:Nat) (u:Value):w.grownBy (w'.setCell ⟨g,i,none⟩ u) (some g):=
 ⟨h.os,h.tape,h.output,by simpa [World.setCell] using h.size,fun k hk hne=>by rw [Below.heap_setCell _ _ _ _ (by show k≠g;rintro rfl;exact hne rfl)];exact h.block k hk hne⟩
theorem zb8 {row:Option Nat} (h:Below w.heap.size w w'):w.grownBy w' row:=⟨h.os,h.tape,h.output,h.size,fun k hk _=>h.block k hk⟩
end
theorem Tryz.infInt:(Tryz.prog.info? 3).map (fun i=>(i.zero,i.size,i.bytes))=some (some (.int .i64 0),1,8):=by kernel_rfl
def cR (l:List UInt8) (many:Int):List Int × Int × Int:=
 if many<0 then ([],0,1) else if (zdu l many.toNat [] (0,0)).2.2≠0 then ([],0,(zdu l many.toNat [] (0,0)).2.2) else ((zdu l many.toNat [] (0,0)).1,((zdu l many.toNat [] (0,0)).2.1:Int),0)
def dV (l:List UInt8):List UInt8 × Int × Int:=
 if (zg4 l (0,0)).2.2≠0 then ([],0,(zg4 l (0,0)).2.2) else ((zg4 l (0,0)).1,((zg4 l (0,0)).2.1:Int),0)
theorem zew {l:List UInt8} {p:Nat} {e:Int} (he:e≠0):sX l (p,e)=(0,(p,e)):=zij he
theorem zfj {l:List UInt8} {p q:Nat} {n e:Int} (h:sX l (p,e)=(n,(q,0))):e=0∧0≤n∧n≤9223372036854775807∧q=p+(putL n.toNat).length∧l.drop p=putL n.toNat++l.drop q:=by
 by_cases he:e=0
 · subst he
   unfold sX at h;rw [zig (by simp)] at h
   simp only at h;split at h
   · rename_i h1
     simp only [zj4] at h;exact absurd h.2.2 (by simpa using h1)
   · rename_i h1
     split at h
     · simp at h
     · rename_i h2
       simp only [zj4,zks] at h;obtain ⟨rfl,rfl⟩:=h;obtain ⟨h3,h4,r,h5⟩:=xN (ziT.1 h1);refine ⟨rfl,by omega,by omega,by rw [Int.toNat_natCast];omega,?_⟩
       rw [Int.toNat_natCast,←zka,h4];generalize (iF (List.drop p l)).1=m at h5 ⊢;rw [h5,List.drop_left]
 · rw [zew he] at h
   simp only [zj4] at h;exact absurd h.2.2 he
theorem zdd {l:List UInt8} {p q:Nat} {m n e:Int} (h:iG l m (p,e)=(n,(q,0))):sX l (p,e)=(n,(q,0))∧n≤m:=by
 have hle:=zad (l:=l) (m:=m) (s:=(p,e)) (by rw [h])
 rw [h] at hle;refine ⟨?_,hle⟩;unfold iG at h;split at h
 · simp only [zj4] at h;omega
 · exact h
theorem zf2 {l d:List UInt8} {p q:Nat} {e:Int} (hp:p≤l.length) (h:zg4 l (p,e)=(d,(q,0))):e=0∧d.length≤65536∧q=p+(putL d.length).length+d.length∧l.drop p=putL d.length++(d++l.drop q):=by
 unfold zg4 at h;split at h
 · rename_i h1
   simp only [zj4] at h;exact absurd (by rw [h.2]) h1
 · rename_i h1
   have hin:=zeX (l:=l) (s:=(p,e)) hp;have hle:=zfh (ziT.1 h1);obtain ⟨x,hx⟩:∃ x,iD l (p,e)=x:=⟨_,rfl⟩;rw [hx] at h h1 hin hle;obtain ⟨n,p',e'⟩:=x;have he':e'=0:=ziT.1 h1;subst he';simp only at h hin hle;have hm:iG l 65536 (p,e)=(n,(p',0)):=by
    unfold iD at hx;split at hx
    · simp only [zj4] at hx;omega
    · exact hx
   obtain ⟨hm1,_⟩:=zdd hm;obtain ⟨he,h2,h3,h4,h5⟩:=zfj hm1;simp only [zj4,zks] at h;obtain ⟨rfl,rfl⟩:=h;have hl:((l.drop p').take n.toNat).length=n.toNat:=by rw [zio,ziG];omega
   rw [hl];refine ⟨he,by omega,by omega,?_⟩
   rw [h5,←zka,ziP]
theorem zC {b v:List UInt8} {k:Int} (h:dV b=(v,k,0)):∃ j:Nat,k=j∧1≤j∧j≤b.length∧mZ v=(b.take j,0)∧v.length≤65536:=by
 unfold dV at h;split at h
 · rename_i h1;simp only [zj4] at h;exact absurd h.2.2 h1
 · rename_i h1
   obtain ⟨x,hx⟩:∃ x,zg4 b (0,0)=x:=⟨_,rfl⟩;rw [hx] at h h1;obtain ⟨d,q,e⟩:=x;have he:e=0:=ziT.1 h1;subst he;simp only [zj4,zks] at h;obtain ⟨rfl,rfl⟩:=h;obtain ⟨_,h2,h3,h4⟩:=zf2 (zir _) hx;have hpos:=rK d.length;have hl:=zjj List.length h4;simp only [List.drop_zero,zie,ziG] at hl;refine ⟨q,rfl,by omega,by omega,?_,h2⟩
   unfold mZ;rw [zij h2];rw [List.drop_zero,←ziq] at h4;have hq:q=(putL d.length++d).length:=by rw [zie];omega
   have:b.take q=putL d.length++d:=by
    conv=>lhs;rw [h4,hq]
    exact zk1
   rw [this]
