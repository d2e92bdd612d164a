/- Places in a list. -/
import Derived.Test.YtpacjjaekmipfaaLib
namespace Go.Proofs.Ytpacjjaekmipfaa
section
variable {α : Type} {a b c d e f g h i j : α} {l : List α}
theorem m0 : a ∈ a :: l := List.mem_cons_self ..
theorem m1 : b ∈ a :: b :: l := List.mem_cons_of_mem _ m0
theorem m2 : c ∈ a :: b :: c :: l := List.mem_cons_of_mem _ m1
theorem m3 : d ∈ a :: b :: c :: d :: l := List.mem_cons_of_mem _ m2
theorem m4 : e ∈ a :: b :: c :: d :: e :: l := List.mem_cons_of_mem _ m3
theorem m5 : f ∈ a :: b :: c :: d :: e :: f :: l := List.mem_cons_of_mem _ m4
theorem m6 : g ∈ a :: b :: c :: d :: e :: f :: g :: l := List.mem_cons_of_mem _ m5
theorem m7 : h ∈ a :: b :: c :: d :: e :: f :: g :: h :: l := List.mem_cons_of_mem _ m6
theorem m8 : i ∈ a :: b :: c :: d :: e :: f :: g :: h :: i :: l := List.mem_cons_of_mem _ m7
theorem m9 : j ∈ a :: b :: c :: d :: e :: f :: g :: h :: i :: j :: l := List.mem_cons_of_mem _ m8
end
end Go.Proofs.Ytpacjjaekmipfaa
