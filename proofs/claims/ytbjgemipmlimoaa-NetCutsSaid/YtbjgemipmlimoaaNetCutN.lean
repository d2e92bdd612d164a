/- The walk of net.Cut. -/
import Derived.Test.YtbjgemipmlimoaaNetCut
import Derived.Test.YtbjgemipmlimoaaNetPlain
namespace Go.Proofs.Ytbjgemipmlimoaa
open Go.RowKit

theorem cellsLt {w : World} {K : Nat → Prop} : ∀ {l : List Ms} {cs : List Value}, CellsL Rp.msg w K cs l → CellsL Rp.msg w (fun b => K b ∧ b < w.heap.size) cs l
  | [], _, h => h
  | _ :: _, _, ⟨c1, c2, e, h1, h2⟩ => by
    obtain ⟨A1, d1, A2, d2, rfl, him⟩ := rp_isM h1
    exact ⟨_, c2, e, isM_cells him.lt, cellsLt h2⟩

set_option maxRecDepth 100000 in
set_option maxHeartbeats 8000000 in
theorem cutN_any (v : Value) (n : Nt) (node : Int) (K : Nat → Prop) (w : World) (hv : IsN w K v n) (hnl : ArgsLe n.q) (hn8 : n.q.length ≤ 200000000000) :
    Calls Try.prog 32 #[v, .int .i64 node] w fun e w' => ∃ A' c', e = .returned (.tuple #[.agg #[.int .i64 n.cap, .slice A' (n.q.filter (notN node)).length c'], .int .i64 ((n.q.length : Int) - ((n.q.filter (notN node)).length : Int))]) ∧
      OwnR Rp.msg w' w.heap.size 45 (fun b => w.heap.size ≤ b) (.slice A' (n.q.filter (notN node)).length c') (n.q.filter (notN node)) ∧ Below w.heap.size w w' := by
  obtain ⟨q', hq'⟩ : ∃ q', n.q.filter (notN node) = q' := ⟨_, rfl⟩
  have hql : q'.length ≤ n.q.length := by rw [← hq']; exact List.length_filter_le _ _
  have hqa : ArgsLe q' := by rw [← hq']; exact hnl.sub fun m hm => (List.mem_filter.1 hm).1
  rw [hq']
  have HQ' := Lib.hid hq'; clear hq'
  obtain ⟨A, c, rfl, hnq⟩ := hv
  have E := (((Kn.start w).give Stable.list hnq).push 38 #[.int .i64 n.cap, .slice A n.q.length c]).push 3 #[.int .i64 node] |>.push 38 #[.int .i64 0, .slice none 0 0]
  rw [World.size_alloc, World.size_alloc] at E
  clear hnq
  go_enter Try.func32, Try.ntmps32
  go_wp2_with fail
  generalize hw1 : ((w.alloc (.cells #[.int .i64 n.cap, .slice A n.q.length c] 38)).alloc (.cells #[.int .i64 node] 3)).alloc (.cells #[.int .i64 0, .slice none 0 0] 38) = w1 at E ⊢
  clear hw1
  obtain ⟨za, ⟨cs, hrd, hcl⟩, hlc, hcc, hl47⟩ := (E.get m0).open_
  clear za
  have hl4 : w.heap.size + 1 + 1 < w1.heap.size := (E.at_ m0).lt
  refine (cloneM_any A n.q.length c K cs w1 hrd hcl.one (by omega)).mono ?_
  rintro e w2 ⟨A2, c2, rfl, own2, hb2⟩
  have hcl2 := (cellsLt hcl).step hb2
  have hlt2 := own2.lt
  have hnode : w2.cell? ⟨w.heap.size + 1, 0, none⟩ = some (.int .i64 node) := by rw [((E.step hb2).rules m1).1]; rfl
  have hdel := delete_any A2 n.q.length c2 (w.heap.size + 1) w1.heap.size cs n.q _ node w2 own2 hcl2 (fun b hb e => by have := (hlt2 b e.symm).1; omega) hnode (fun e => by have := (hlt2 _ e.symm).1; omega) hl47
  rw [HQ'.out] at hdel
  have HDEL := Lib.hid hdel
  clear hdel hcl hrd hcl2 hnode
  go_wp2_with fail
  refine HDEL.out.mono ?_
  rintro e w3 ⟨rfl, hq3, hg3⟩
  have hb3 : Below w1.heap.size w1 w3 := hb2.grown hg3 hb2.size (fun k hk => (hlt2 k hk).1)
  replace hq3 := hq3.more (K' := fun _ => True) (fun _ _ => trivial)
  replace E := E.step hb3
  have s13 := hb3.size
  clear own2 hb2 hlt2 hg3 hb3
  obtain ⟨q2, f2, t2⟩ := E.rules m2
  have HQ : Hid (∀ W, Below w3.heap.size w3 W → (∀ o, W.cell? ⟨w.heap.size, o, none⟩ = (#[.int .i64 n.cap, .slice A n.q.length c] : Array Value)[o]?)) := Lib.hid (fun W h => ((E.step h).rules m2).1)
  have HS : Hid (∀ W, Below w3.heap.size w3 W → ∀ u0 u1 : Value, (∀ o, ((W.setCell ⟨w.heap.size + 1 + 1, 0, none⟩ u0).setCell ⟨w.heap.size + 1 + 1, 1, none⟩ u1).cell? ⟨w.heap.size, o, none⟩ = (#[.int .i64 n.cap, .slice A n.q.length c] : Array Value)[o]?)) :=
    Lib.hid (fun W h u0 u1 => ((((E.step h).at_ m2).far (p := ⟨w.heap.size + 1 + 1, 0, none⟩) (by show w.heap.size ≠ w.heap.size + 1 + 1; omega) u0).far (p := ⟨w.heap.size + 1 + 1, 1, none⟩) (by show w.heap.size ≠ w.heap.size + 1 + 1; omega) u1).cell)
  go_upto_region 2 with fail
  have hsub : IntKind.i64.wrap ((n.q.length : Int) - (q'.length : Int)) = (n.q.length : Int) - (q'.length : Int) := IntWalk.i64_in _ (by omega)
  have hb0 : Below w3.heap.size w3 w3.drew := (Below.refl _ _).drew
  go_region_held3 (fun W => (∀ o, W.cell? ⟨w.heap.size, o, none⟩ = (#[.int .i64 n.cap, .slice A n.q.length c] : Array Value)[o]?))
    (first | with_reducible exact HS.out wW hbW _ _ | with_reducible exact HQ.out _ hb0 | with_reducible exact HQ.out _ hbW)
    (first
      | (go_at_call 55
         refine (with_any _ _ n q' K (fun _ => True) _ ⟨_, _, rfl, (E.step hb0).get m0⟩ (hq3.step hb0) hqa (by omega)).mono ?_
         rintro e wW ⟨AW, cW, rfl, hown, hbW⟩
         replace hbW := hb0.trans (hbW.mono hb0.size)
         obtain ⟨q4, f4, t4⟩ := (E.step hbW).rules m0))
  have B4 := (E.step hbW).at_ m0
  have s2 := hbW.size
  have F := ((B4.set_ 0 (.int .i64 n.cap)).set_ 1 (.slice AW q'.length cW)).rules
  clear q4 f4 t4 HQ HS q2 f2
  go_wp2
  refine bodyPost_ret (v := .tuple #[.agg #[.int .i64 n.cap, .slice AW q'.length cW], .int .i64 ((n.q.length : Int) - (q'.length : Int))]) (by simp [results, Try.results32, go_sem, F.1]) rfl ⟨AW, cW, rfl, ?_, ?_⟩
  · have s0 : w3.drew.heap.size = w3.heap.size := rfl
    exact ((hown.farb (by omega) (by omega) 0 _).farb (by omega) (by omega) 1 _).lower (by omega) |>.more (fun b hb _ => by omega)
  · exact ((E.below.trans (hbW.mono E.below.size)).setCell (by show w.heap.size ≤ w.heap.size + 1 + 1; omega) _).setCell (by show w.heap.size ≤ w.heap.size + 1 + 1; omega) _
end Go.Proofs.Ytbjgemipmlimoaa
