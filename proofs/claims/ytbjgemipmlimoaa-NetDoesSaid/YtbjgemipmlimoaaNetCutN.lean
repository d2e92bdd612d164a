/- The walks of net.Cut's predicate, slices.IndexFunc, slices.DeleteFunc with it. -/
/- The walk of net.Cut. -/
import Derived.Test.YtbjgemipmlimoaaNetTo
import Derived.Test.YtbjgemipmlimoaaNetTake
import Derived.Test.YtbjgemipmlimoaaRowL
import Derived.Test.YtbjgemipmlimoaaNetPlain
namespace Go.Proofs.Ytbjgemipmlimoaa
open Go.RowKit

/-- from it or to it -/
def ofN (node : Int) (m : Ms) : Bool := m.frm == node || m.to == node
def notN (node : Int) (m : Ms) : Bool := !(ofN node m)

set_option maxRecDepth 100000 in
set_option maxHeartbeats 1000000 in
theorem pred_any (m : Ms) (A1 A2 : Option Addr) (c1 c2 B : Nat) (node : Int) (w : World) (hc : w.cell? ⟨B, 0, none⟩ = some (.int .i64 node)) :
    Calls Try.prog 65 #[.agg #[.int .i64 m.kind, .int .i64 m.frm, .int .i64 m.to, .int .i64 m.id, .slice A1 m.args.length c1, .slice A2 m.data.length c2], .pointer (some ⟨B, 0, none⟩)] w fun e w' => e = .returned (.bool (ofN node m)) ∧ Below w.heap.size w w' := by
  have hlt := World.block_lt_of_cell? w _ hc
  obtain ⟨res, hres⟩ : ∃ res, res = ofN node m := ⟨_, rfl⟩
  rw [← hres]
  by_cases h1 : m.frm = node
  · have hx : res = true := by rw [hres]; unfold ofN; simp [h1]
    have HX := Lib.hid hx; clear hx hres
    have hb : (m.frm == node) = true := by simpa using h1
    clear h1
    go_enter Try.func65, Try.ntmps65
    go_wp2
    go_ret
    rw [HX.out]
    exact ⟨rfl, (Below.refl _ _).alloc (Nat.le_refl _) _⟩
  · have hb : (m.frm == node) = false := by simpa using h1
    have hx : res = (m.to == node) := by rw [hres]; unfold ofN; simp [hb]
    have HX := Lib.hid hx; clear hx hres h1
    by_cases h2 : m.to = node
    · have hb2 : (m.to == node) = true := by simpa using h2
      clear h2
      go_enter Try.func65, Try.ntmps65
      go_wp2
      go_ret
      rw [HX.out, hb2]
      exact ⟨rfl, (Below.refl _ _).alloc (Nat.le_refl _) _⟩
    · have hb2 : (m.to == node) = false := by simpa using h2
      clear h2
      go_enter Try.func65, Try.ntmps65
      go_wp2
      go_ret
      rw [HX.out, hb2]
      exact ⟨rfl, (Below.refl _ _).alloc (Nat.le_refl _) _⟩

set_option maxRecDepth 100000 in
set_option maxHeartbeats 2000000 in
theorem index_any (v : Value) (l : List Ms) (K : Nat → Prop) (B : Nat) (node : Int) (w : World) (hv : IsL Rp.msg w K v l) (hc : w.cell? ⟨B, 0, none⟩ = some (.int .i64 node)) :
    Calls Try.prog 84 #[v, .func (.func 65) #[] #[.pointer (some ⟨B, 0, none⟩)]] w fun e w' =>
      e = .returned (.int .i64 (if l.findIdx (ofN node) < l.length then (l.findIdx (ofN node) : Int) else -1)) ∧ Below w.heap.size w w' := by
  obtain ⟨res, hres⟩ : ∃ res : Int, res = if l.findIdx (ofN node) < l.length then (l.findIdx (ofN node) : Int) else -1 := ⟨_, rfl⟩
  rw [← hres]
  have HRES := Lib.hid hres; clear hres
  have hv0 := hv
  obtain ⟨A, c, rfl, hlc, hcc⟩ := hv.form
  have hlen := hv.len
  have hB := World.block_lt_of_cell? w _ hc
  go_enter Try.func84, Try.ntmps84
  go_wp2_with fail
  go_loopw [5, 8] (fun x i wr => ∃ j : Nat, i = .int .i64 j ∧ j ≤ l.length ∧ j ≤ l.findIdx (ofN node) ∧ Below w.heap.size w wr ∧ (∃ y, x = y)) (fun _ i _ => l.length - (intOf i).toNat)
  case atStart => exact ⟨0, rfl, Nat.zero_le _, Nat.zero_le _, Below.refl _ _, _, rfl⟩
  case round =>
    obtain ⟨j, rfl, hj, hjf, hb, y, rfl⟩ := hrel
    have hsz := hb.size
    by_cases hlt : j < l.length
    · have hp : ofN node l[j] = true → l.findIdx (ofN node) = j := fun h => (List.findIdx_eq hlt).2 ⟨h, fun k hk => by
        have := List.not_of_lt_findIdx (p := ofN node) (xs := l) (i := k) (by omega)
        simpa using this⟩
      have hp2 : ofN node l[j] = false → j + 1 ≤ l.findIdx (ofN node) := fun h => by
        rcases Nat.lt_or_ge j (l.findIdx (ofN node)) with h1 | h1
        · exact h1
        · have e : l.findIdx (ofN node) = j := by omega
          have := List.findIdx_getElem (p := ofN node) (xs := l) (w := by omega)
          simp only [e] at this
          rw [h] at this; cases this
      obtain ⟨ad, A1, c1, A2, c2, rfl, hadb, him, hc0, hc1, hc2, hc3, hc4, hc5⟩ := IsL.msg_at (hv0.step hb) (List.getElem?_eq_getElem hlt)
      generalize l[j] = m at him hc0 hc1 hc2 hc3 hc4 hc5 hp hp2
      have hcB := (hb.cell (p := ⟨B, 0, none⟩) hB).trans hc
      obtain ⟨r, hr⟩ : ∃ r, ofN node m = r := ⟨_, rfl⟩
      have HP := Lib.hid hp; have HP2 := Lib.hid hp2
      have HR := Lib.hid hr
      clear hp hp2 hr him
      have j1 : (j : Int) < (l.length : Int) := by omega
      have j0 : (0 : Int) ≤ (j : Int) := by omega
      cases r with
      | true =>
        go_wp2_with (go_at_call 65; refine (pred_any m A1 A2 c1 c2 B node _ hcB).mono ?_; rw [HR.out]; rintro e w2 ⟨rfl, hb2⟩)
        go_ret
        have e := HRES.out
        have ef := HP.out HR.out
        rw [if_pos (by omega), ef] at e
        rw [e]
        exact ⟨rfl, hb.trans (hb2.mono hsz)⟩
      | false =>
        go_wp2_with (go_at_call 65; refine (pred_any m A1 A2 c1 c2 B node _ hcB).mono ?_; rw [HR.out]; rintro e w2 ⟨rfl, hb2⟩)
        go_roundw
        case rel => exact ⟨j + 1, by go_num, by omega, HP2.out HR.out, hb.trans (hb2.mono hsz), _, rfl⟩
        case measure => simp [intOf]; omega
    · obtain rfl : j = l.length := by omega
      go_wp2
      go_ret
      have e := HRES.out
      rw [if_neg (by omega)] at e
      rw [e]
      exact ⟨rfl, hb⟩

theorem not_step (node : Int) (l : List Ms) {j : Nat} (h : j < l.length) : (l.take (j + 1)).filter (notN node) = if ofN node l[j] = true then (l.take j).filter (notN node) else (l.take j).filter (notN node) ++ [l[j]] := by
  rw [List.take_succ_eq_append_getElem h, List.filter_append]
  have e : notN node l[j] = !(ofN node l[j]) := rfl
  split
  · rename_i h1; simp [e, h1]
  · rename_i h1; simp [e, h1]
theorem take_set_succ {α : Type} (l : List α) (a : α) {i : Nat} (h : i < l.length) : (l.set i a).take (i + 1) = l.take i ++ [a] := by
  rw [List.set_eq_take_append_cons_drop, if_pos h, List.take_append, List.length_take, Nat.min_eq_left (Nat.le_of_lt h)]
  simp
  exact List.take_of_length_le (by rw [List.length_take]; omega)
def DelInv (w wr : World) (g : Nat) (K : Nat → Prop) (node : Int) (l : List Ms) (x5 x6 : Value) : Prop :=
  ∃ (i j : Nat) (cur : List Ms), x5 = .int .i64 i ∧ x6 = .int .i64 j ∧ j ≤ l.length ∧ i < j ∧ cur.length = l.length ∧ cur.take i = (l.take j).filter (notN node) ∧ ((l.take j).filter (notN node)).length = i ∧ cur.drop j = l.drop j ∧ RowL wr g 45 K cur ∧ w.grownBy wr (some g)

set_option maxRecDepth 100000 in
set_option maxHeartbeats 4000000 in
theorem delete_any (A : Option Addr) (n c B base : Nat) (cs : List Value) (l : List Ms) (K : Nat → Prop) (node : Int) (w : World) (hown : w.ownsRow base 45 6 (.slice A n c) n cs) (hcl : CellsL Rp.msg w K cs l)
    (hK : ∀ b, K b → some b ≠ (Value.slice A n c).ownBlock) (hc : w.cell? ⟨B, 0, none⟩ = some (.int .i64 node)) (hB : some B ≠ (Value.slice A n c).ownBlock) (hl47 : l.length ≤ 140737488355328) :
    Calls Try.prog 63 #[.slice A n c, .func (.func 65) #[] #[.pointer (some ⟨B, 0, none⟩)]] w fun e w' =>
      e = .returned (.slice A (l.filter (notN node)).length c) ∧ IsL Rp.msg w' (fun b => some b = (Value.slice A n c).ownBlock ∨ K b) (.slice A (l.filter (notN node)).length c) (l.filter (notN node)) ∧ w.grownBy w' (Value.slice A n c).ownBlock := by
  have hlen6 : n = l.length := by have h1 := hown.1; have h2 := hcl.len; have e : Rp.msg.size = 6 := rfl; rw [e] at h2; omega
  subst hlen6
  have hisl : IsL Rp.msg w (fun b => some b = (Value.slice A l.length c).ownBlock ∨ K b) (.slice A l.length c) l :=
    ⟨A, c, cs, rfl, (Reads.of_own hown).more fun b hb => .inl hb, hcl.more fun b hb => .inr hb, own_cap hown, own_cap63 hown, hl47⟩
  have hcap := own_cap hown
  have hcap63 := own_cap63 hown
  have hidx := index_any _ l _ B node w hisl hc
  by_cases hno : l.findIdx (ofN node) < l.length
  · rw [if_pos hno] at hidx
    obtain ⟨g, hA⟩ : ∃ g, A = some ⟨g, 0, none⟩ := by
      obtain ⟨g, cap, hv, _⟩ := hown.form (by omega)
      injection hv with e1
      exact ⟨g, e1⟩
    subst hA
    have hrow := RowL.of hown hcl
    have hK' : ∀ b, K b → b ≠ g := fun b hb e => hK b hb (by rw [e]; rfl)
    have hBg : B ≠ g := fun e => hB (by rw [e]; rfl)
    have hBlt := World.block_lt_of_cell? w _ hc
    have hp0 : ofN node l[l.findIdx (ofN node)] = true := List.findIdx_getElem (w := hno)
    have hpre : ∀ j (h : j < l.findIdx (ofN node)), ofN node (l[j]'(by omega)) = false := fun j h => by simpa using List.not_of_lt_findIdx h
    have hkeep : ∀ j, j ≤ l.findIdx (ofN node) → (l.take j).filter (notN node) = l.take j := by
      intro j hj
      rw [List.filter_eq_self]
      intro m hm
      obtain ⟨k, hk, e⟩ := List.mem_take_iff_getElem.1 hm
      have := hpre k (by omega)
      rw [e] at this
      simp [notN, this]
    have HK0 : (l.take (l.findIdx (ofN node) + 1)).filter (notN node) = l.take (l.findIdx (ofN node)) := by rw [not_step node l hno, if_pos hp0]; exact hkeep _ (Nat.le_refl _)
    clear hp0 hpre hkeep
    generalize l.findIdx (ofN node) = k0 at hno hidx HK0
    have HK := Lib.hid HK0
    have HIDX := Lib.hid hidx
    obtain ⟨ad, had⟩ : ∃ ad : Addr, ad = ⟨g, 0, none⟩ := ⟨_, rfl⟩
    have hk1 : ((k0 : Int) == -1) = false := by simp
    have HAD := Lib.hid had
    have hadd : ∀ o, ad.add o = ⟨g, o, none⟩ := fun o => by rw [had]; exact RowL.add g o
    clear hisl hidx HK0 hK hB hown hcl
    rw [← had] at HIDX ⊢
    have hob : ∀ n c, (Value.slice (some ad) n c).ownBlock = some g := fun n c => by rw [had]; rfl
    rw [hob]
    have HOB := Lib.hid hob
    clear had hob
    go_enter Try.func63, Try.ntmps63
    go_wp2_with fail
    refine HIDX.out.mono ?_
    rintro e w1 ⟨rfl, hb1⟩
    go_wp2_with fail
    go_loopw [5, 6, 7] (fun x5 x6 x7 wr => DelInv w wr g K node l x5 x6 ∧ (∃ y, x7 = y)) (fun _ x6 _ _ => l.length - (intOf x6).toNat)
    case atStart =>
      refine ⟨⟨k0, k0 + 1, l, rfl, by go_num, by omega, by omega, rfl, HK.out.symm, by rw [HK.out, List.length_take]; omega, rfl, hrow.step hb1, grow_below hb1⟩, _, rfl⟩
    case round =>
      obtain ⟨⟨i, j, cur, rfl, rfl, hj, hij, hcl, hct, hfl, hcd, hrow', hg⟩, y, rfl⟩ := hrel
      have hadb : ad.block < wr.heap.size := by rw [HAD.out]; exact hrow'.lt
      have HCT := Lib.hid hct; have HFL := Lib.hid hfl; have HCD := Lib.hid hcd
      have HCL := Lib.hid hcl
      clear hct hfl hcd
      by_cases hlt : j < l.length
      · have hm0 : cur[j]? = l[j]? := by
          have h1 : (cur.drop j)[0]? = (l.drop j)[0]? := by rw [HCD.out]
          simpa using h1
        rw [List.getElem?_eq_getElem hlt] at hm0
        have hst := not_step node l hlt
        have hdn : cur.drop (j + 1) = l.drop (j + 1) := by
          have h1 : (cur.drop j).drop 1 = (l.drop j).drop 1 := by rw [HCD.out]
          rwa [List.drop_drop, List.drop_drop] at h1
        generalize l[j] = m at hm0 hst
        obtain ⟨A1, c1, A2, c2, him, ⟨hc0, hc1, hc2, hc3, hc4, hc5⟩, _⟩ := hrow'.at_ hm0
        obtain ⟨mi, hmi⟩ : ∃ mi, cur[i]? = some mi := ⟨cur[i]'(by omega), List.getElem?_eq_getElem (by omega)⟩
        have hcB : wr.cell? ⟨B, 0, none⟩ = some (.int .i64 node) := (World.cell?_of_block (a := ⟨B, 0, none⟩) (hg.block B hBlt (fun e => hBg (by injection e)))).trans hc
        have HMI := Lib.hid hmi; have HST := Lib.hid hst; have HDN := Lib.hid hdn
        obtain ⟨r, hr⟩ : ∃ r, ofN node m = r := ⟨_, rfl⟩
        have HR := Lib.hid hr
        have HIM := Lib.hid him
        have hsz := hg.size
        clear hmi hst hdn hr hm0 him hcl
        have j1 : (j : Int) < (l.length : Int) := by omega
        have j0 : (0 : Int) ≤ (j : Int) := by omega
        have i1 : (i : Int) < (l.length : Int) := by omega
        have i0' : (0 : Int) ≤ (i : Int) := by omega
        cases r with
        | true =>
          go_wp2_with (go_at_call 65; refine (pred_any m A1 A2 c1 c2 B node _ (by first | exact hcB | (rw [World.cell?_alloc_lt _ _ _ (by show B < _; omega)]; exact hcB))).mono ?_; rw [HR.out]; rintro e w2 ⟨rfl, hb2⟩)
          exact ⟨⟨⟨i, j + 1, cur, rfl, by go_num, by omega, by omega, HCL.out, by rw [HCT.out, HST.out, if_pos HR.out], by rw [HST.out, if_pos HR.out]; exact HFL.out, HDN.out, hrow'.step (((Below.refl _ _).alloc (Nat.le_refl _) _).trans (hb2.mono (by simp))), grow_then hg ((((Below.refl _ _).alloc (Nat.le_refl _) _).trans (hb2.mono (by simp))).mono hsz)⟩, _, rfl⟩, by simp [intOf]; omega⟩
        | false =>
          go_wp2_with (go_at_call 65; refine (pred_any m A1 A2 c1 c2 B node _ (by first | exact hcB | (rw [World.cell?_alloc_lt _ _ _ (by show B < _; omega)]; exact hcB))).mono ?_; rw [HR.out]; rintro e w2 ⟨rfl, hb2⟩
                       have hW2 : Below wr.heap.size wr w2 := ((Below.refl _ _).alloc (Nat.le_refl _) _).trans (hb2.mono (by simp)); obtain ⟨qb, fb⟩ := ((Blk.new wr 45 #[.int .i64 m.kind, .int .i64 m.frm, .int .i64 m.to, .int .i64 m.id, .slice A1 m.args.length c1, .slice A2 m.data.length c2] rfl).step hb2).rules
                       obtain ⟨B1, d1, B2, d2, za, ⟨m0, m1, m2, m3, m4, m5⟩, ⟨g0, g1, g2, g3, g4, g5⟩⟩ := (hrow'.step hW2).at_ HMI.out)
          exact ⟨⟨⟨i + 1, j + 1, cur.set i m, by go_num, by go_num, by omega, by omega, by rw [List.length_set]; exact HCL.out, by rw [take_set_succ _ _ (by have := HCL.out; omega), HCT.out, HST.out, if_neg (by rw [HR.out]; simp)], by rw [HST.out, if_neg (by rw [HR.out]; simp), List.length_append, HFL.out]; rfl,
            by rw [List.drop_set_of_lt (by omega)]; exact HDN.out, (hrow'.step hW2).put (by have := HCL.out; omega) (HIM.out.step hW2) hK', grow_setM (grow_then hg (hW2.mono hsz)) _ _ _ _ _ _⟩, _, rfl⟩, by simp [intOf]; omega⟩
      · obtain rfl : j = l.length := by omega
        have hct := HCT.out
        have hfl := HFL.out
        rw [List.take_length] at hct hfl
        have hclr := RowL.clear (P := Try.prog) (ts := 35) hrow' Try.underlying35 Try.zeroValue45 rfl (by intro v hv; simp [Value.cells] at hv; rcases hv with rfl | rfl | rfl | rfl | rfl | rfl <;> rfl) (k := i) (c := c - i) (by omega) hK'
        rw [HCL.out] at hclr
        obtain ⟨w9, hrow9, hg9, hrun⟩ := hclr
        have hsl := hrow9.slice (k := i) (c := c) (by rw [List.length_take]; omega) (by omega) hcap63 (by omega)
        rw [List.take_take, Nat.min_self, hct] at hsl
        have HSL := Lib.hid hsl
        have HFL2 := Lib.hid hfl
        have hci : ¬ c = i := by omega
        have i1 : (i : Int) ≤ (l.length : Int) := by omega
        have i2 : (l.length : Int) ≤ (c : Int) := by omega
        have i3 : (i : Int) ≤ (c : Int) := by omega
        clear hct hfl hcl hsl hrow9
        go_wp2
        go_ret
        rw [HFL2.out]
        exact ⟨rfl, (by rw [HAD.out]; exact HSL.out.more fun b hb => by rcases hb with rfl | hb; exact .inl rfl; exact .inr hb), grow_trans hg hg9⟩
  · rw [if_neg hno] at hidx
    have hall : l.filter (notN node) = l := by
      rw [List.filter_eq_self]
      intro m hm
      obtain ⟨k, hk, e⟩ := List.getElem_of_mem hm
      have := List.not_of_lt_findIdx (p := ofN node) (xs := l) (i := k) (by omega)
      rw [e] at this
      have : ofN node m = false := by simpa using this
      simp [notN, this]
    rw [hall]
    have HIDX := Lib.hid hidx
    clear hidx hall hno hown hcl hK hB
    go_enter Try.func63, Try.ntmps63
    go_wp2_with fail
    refine HIDX.out.mono ?_
    rintro e w1 ⟨rfl, hb1⟩
    go_wp2
    go_ret
    exact ⟨rfl, hisl.step hb1, grow_below hb1⟩
end Go.Proofs.Ytbjgemipmlimoaa
namespace Go.Proofs.Ytbjgemipmlimoaa
open Go.RowKit

theorem cellsLt {w : World} {K : Nat → Prop} : ∀ {l : List Ms} {cs : List Value}, CellsL Rp.msg w K cs l → CellsL Rp.msg w (fun b => K b ∧ b < w.heap.size) cs l
  | [], _, h => h
  | _ :: _, _, ⟨c1, c2, e, h1, h2⟩ => by
    obtain ⟨A1, d1, A2, d2, rfl, him⟩ := rp_isM h1
    exact ⟨_, c2, e, isM_cells him.lt, cellsLt h2⟩

set_option maxRecDepth 100000 in
set_option maxHeartbeats 8000000 in
theorem cutN_any (v : Value) (n : Nt) (node : Int) (K : Nat → Prop) (w : World) (hv : IsN w K v n) (hnl : ArgsLe n.q) (hn8 : n.q.length ≤ 200000000000) :
    Calls Try.prog 32 #[v, .int .i64 node] w fun e w' => ∃ A' c', e = .returned (.tuple #[.agg #[.int .i64 n.cap, .slice A' (n.q.filter (notN node)).length c'], .int .i64 ((n.q.length : Int) - ((n.q.filter (notN node)).length : Int))]) ∧
      OwnR Rp.msg w' w.heap.size 45 (fun b => w.heap.size ≤ b) (.slice A' (n.q.filter (notN node)).length c') (n.q.filter (notN node)) ∧ Below w.heap.size w w' := by
  obtain ⟨q', hq'⟩ : ∃ q', n.q.filter (notN node) = q' := ⟨_, rfl⟩
  have hql : q'.length ≤ n.q.length := by rw [← hq']; exact List.length_filter_le _ _
  have hqa : ArgsLe q' := by rw [← hq']; exact hnl.sub fun m hm => (List.mem_filter.1 hm).1
  rw [hq']
  have HQ' := Lib.hid hq'; clear hq'
  obtain ⟨A, c, rfl, hnq⟩ := hv
  have E := (((Kn.start w).give Stable.list hnq).push 38 #[.int .i64 n.cap, .slice A n.q.length c]).push 3 #[.int .i64 node] |>.push 38 #[.int .i64 0, .slice none 0 0]
  rw [World.size_alloc, World.size_alloc] at E
  clear hnq
  go_enter Try.func32, Try.ntmps32
  go_wp2_with fail
  generalize hw1 : ((w.alloc (.cells #[.int .i64 n.cap, .slice A n.q.length c] 38)).alloc (.cells #[.int .i64 node] 3)).alloc (.cells #[.int .i64 0, .slice none 0 0] 38) = w1 at E ⊢
  clear hw1
  obtain ⟨za, ⟨cs, hrd, hcl⟩, hlc, hcc, hl47⟩ := (E.get m0).open_
  clear za
  have hl4 : w.heap.size + 1 + 1 < w1.heap.size := (E.at_ m0).lt
  refine (cloneM_any A n.q.length c K cs w1 hrd hcl.one (by omega)).mono ?_
  rintro e w2 ⟨A2, c2, rfl, own2, hb2⟩
  have hcl2 := (cellsLt hcl).step hb2
  have hlt2 := own2.lt
  have hnode : w2.cell? ⟨w.heap.size + 1, 0, none⟩ = some (.int .i64 node) := by rw [((E.step hb2).rules m1).1]; rfl
  have hdel := delete_any A2 n.q.length c2 (w.heap.size + 1) w1.heap.size cs n.q _ node w2 own2 hcl2 (fun b hb e => by have := (hlt2 b e.symm).1; omega) hnode (fun e => by have := (hlt2 _ e.symm).1; omega) hl47
  rw [HQ'.out] at hdel
  have HDEL := Lib.hid hdel
  clear hdel hcl hrd hcl2 hnode
  go_wp2_with fail
  refine HDEL.out.mono ?_
  rintro e w3 ⟨rfl, hq3, hg3⟩
  have hb3 : Below w1.heap.size w1 w3 := hb2.grown hg3 hb2.size (fun k hk => (hlt2 k hk).1)
  replace hq3 := hq3.more (K' := fun _ => True) (fun _ _ => trivial)
  replace E := E.step hb3
  have s13 := hb3.size
  clear own2 hb2 hlt2 hg3 hb3
  obtain ⟨q2, f2, t2⟩ := E.rules m2
  have HQ : Hid (∀ W, Below w3.heap.size w3 W → (∀ o, W.cell? ⟨w.heap.size, o, none⟩ = (#[.int .i64 n.cap, .slice A n.q.length c] : Array Value)[o]?)) := Lib.hid (fun W h => ((E.step h).rules m2).1)
  have HS : Hid (∀ W, Below w3.heap.size w3 W → ∀ u0 u1 : Value, (∀ o, ((W.setCell ⟨w.heap.size + 1 + 1, 0, none⟩ u0).setCell ⟨w.heap.size + 1 + 1, 1, none⟩ u1).cell? ⟨w.heap.size, o, none⟩ = (#[.int .i64 n.cap, .slice A n.q.length c] : Array Value)[o]?)) :=
    Lib.hid (fun W h u0 u1 => ((((E.step h).at_ m2).far (p := ⟨w.heap.size + 1 + 1, 0, none⟩) (by show w.heap.size ≠ w.heap.size + 1 + 1; omega) u0).far (p := ⟨w.heap.size + 1 + 1, 1, none⟩) (by show w.heap.size ≠ w.heap.size + 1 + 1; omega) u1).cell)
  go_upto_region 2 with fail
  have hsub : IntKind.i64.wrap ((n.q.length : Int) - (q'.length : Int)) = (n.q.length : Int) - (q'.length : Int) := IntWalk.i64_in _ (by omega)
  have hb0 : Below w3.heap.size w3 w3.drew := (Below.refl _ _).drew
  go_region_held3 (fun W => (∀ o, W.cell? ⟨w.heap.size, o, none⟩ = (#[.int .i64 n.cap, .slice A n.q.length c] : Array Value)[o]?))
    (first | with_reducible exact HS.out wW hbW _ _ | with_reducible exact HQ.out _ hb0 | with_reducible exact HQ.out _ hbW)
    (first
      | (go_at_call 55
         refine (with_any _ _ n q' K (fun _ => True) _ ⟨_, _, rfl, (E.step hb0).get m0⟩ (hq3.step hb0) hqa (by omega)).mono ?_
         rintro e wW ⟨AW, cW, rfl, hown, hbW⟩
         replace hbW := hb0.trans (hbW.mono hb0.size)
         obtain ⟨q4, f4, t4⟩ := (E.step hbW).rules m0))
  have B4 := (E.step hbW).at_ m0
  have s2 := hbW.size
  have F := ((B4.set_ 0 (.int .i64 n.cap)).set_ 1 (.slice AW q'.length cW)).rules
  clear q4 f4 t4 HQ HS q2 f2
  go_wp2
  refine bodyPost_ret (v := .tuple #[.agg #[.int .i64 n.cap, .slice AW q'.length cW], .int .i64 ((n.q.length : Int) - (q'.length : Int))]) (by simp [results, Try.results32, go_sem, F.1]) rfl ⟨AW, cW, rfl, ?_, ?_⟩
  · have s0 : w3.drew.heap.size = w3.heap.size := rfl
    exact ((hown.farb (by omega) (by omega) 0 _).farb (by omega) (by omega) 1 _).lower (by omega) |>.more (fun b hb _ => by omega)
  · exact ((E.below.trans (hbW.mono E.below.size)).setCell (by show w.heap.size ≤ w.heap.size + 1 + 1; omega) _).setCell (by show w.heap.size ≤ w.heap.size + 1 + 1; omega) _
end Go.Proofs.Ytbjgemipmlimoaa
