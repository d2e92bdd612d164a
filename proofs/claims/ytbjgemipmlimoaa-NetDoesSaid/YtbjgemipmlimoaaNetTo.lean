/- The walks of net.To, quicksetlaw13.big, ref02.SameMsgs, ref13.Same. -/
import Derived.Test.YtbjgemipmlimoaaMsgAt
import Derived.Test.YtbjgemipmlimoaaSameMsg
import Derived.Deep.RegionHeld3
namespace Go.Proofs.Ytbjgemipmlimoaa
open Go.RowKit

/-- which are for a node -/
def toL (node : Int) : Nat → List Ms → List Int
  | _, [] => []
  | i, m :: l => if m.to = node then (i : Int) :: toL node (i + 1) l else toL node (i + 1) l
theorem toL_append (node : Int) : ∀ (l r : List Ms) (i : Nat), toL node i (l ++ r) = toL node i l ++ toL node (i + l.length) r
  | [], r, i => by simp [toL]
  | m :: l, r, i => by
    have h := toL_append node l r (i + 1)
    have e : i + 1 + l.length = i + (m :: l).length := by simp; omega
    rw [e] at h
    simp only [List.cons_append, toL]
    split <;> simp [h]
theorem toL_snoc (node : Int) (l : List Ms) {j : Nat} (h : j < l.length) : toL node 0 (l.take (j + 1)) = if l[j].to = node then toL node 0 (l.take j) ++ [(j : Int)] else toL node 0 (l.take j) := by
  rw [List.take_succ_eq_append_getElem h, toL_append]
  have e : 0 + (l.take j).length = j := by rw [List.length_take]; omega
  rw [e]
  simp only [toL]
  split <;> simp
theorem toL_len (node : Int) : ∀ (l : List Ms) (i : Nat), (toL node i l).length ≤ l.length
  | [], i => by simp [toL]
  | m :: l, i => by
    have h := toL_len node l (i + 1)
    simp only [toL, List.length_cons]
    split
    · simp; omega
    · omega
theorem toL_63 (node : Int) : ∀ (l : List Ms) (i : Nat), i + l.length ≤ 9223372036854775807 → I63 (toL node i l)
  | [], i, _ => by intro n hn; simp [toL] at hn
  | m :: l, i, h => by
    have ih := toL_63 node l (i + 1) (by simp at h; omega)
    simp at h
    intro n hn
    simp only [toL] at hn
    split at hn
    · rcases List.mem_cons.1 hn with rfl | hn
      · omega
      · exact ih n hn
    · exact ih n hn

set_option maxRecDepth 100000 in
set_option maxHeartbeats 2000000 in
theorem to_any (v : Value) (n : Nt) (node : Int) (K : Nat → Prop) (w : World) (hv : IsN w K v n) (hn8 : n.q.length ≤ 10000000000000) :
    Calls Try.prog 33 #[v, .int .i64 node] w fun e w' => ∃ A' c', e = .returned (.slice A' (toL node 0 n.q).length c') ∧ w'.ownsRow w.heap.size 3 1 (.slice A' (toL node 0 n.q).length c') (toL node 0 n.q).length ((toL node 0 n.q).map I64) ∧ Below w.heap.size w w' := by
  obtain ⟨i0, hi, hz0, hz1, hz2⟩ := info_parts Try.infInt
  obtain ⟨A, c, rfl, hq⟩ := hv
  have E := ((Kn.start w).give Stable.list hq).push 38 #[.int .i64 n.cap, .slice A n.q.length c]
  clear hq
  go_enter Try.func33, Try.ntmps33
  go_wp2_with fail
  generalize w.alloc (.cells #[.int .i64 n.cap, .slice A n.q.length c] 38) = w1 at E ⊢
  have hs1 := E.below.size
  go_loopw [5, 11] (fun a i wr => ∃ (j : Nat) (acc : List Int) (A4 : Option Addr) (c4 : Nat), i = .int .i64 j ∧ j ≤ n.q.length ∧ a = .slice A4 acc.length c4 ∧ wr.ownsRow w1.heap.size 3 1 (.slice A4 acc.length c4) acc.length (acc.map I64) ∧ acc = toL node 0 (n.q.take j) ∧ acc.length ≤ j ∧ Below w1.heap.size w1 wr) (fun _ i _ => n.q.length - (intOf i).toNat)
  case atStart => exact ⟨0, [], none, 0, rfl, Nat.zero_le _, rfl, World.ownsRow_nil _ _ _ _, rfl, Nat.zero_le _, Below.refl _ _⟩
  case round =>
    obtain ⟨j, acc, A4, c4, rfl, hj, rfl, hown, hacc, hal, hb⟩ := hrel
    have HACC := Lib.hid hacc; clear hacc
    have hsz := hb.size
    by_cases hlt : j < n.q.length
    · have hsn := toL_snoc node n.q hlt
      obtain ⟨ad, A1, c1, A2, c2, rfl, hadb, him, hc0, hc1, hc2, hc3, hc4, hc5⟩ := ((E.step hb).get m0).msg_at (List.getElem?_eq_getElem hlt)
      generalize n.q[j] = m at him hc0 hc1 hc2 hc3 hc4 hc5 hsn
      have HSN := Lib.hid hsn; clear hsn
      have hbA := hb.alloc hsz (.cells #[.int .i64 m.kind, .int .i64 m.frm, .int .i64 m.to, .int .i64 m.id, .slice A1 m.args.length c1, .slice A2 m.data.length c2] 45)
      have hownA := hown.alloc (.cells #[.int .i64 m.kind, .int .i64 m.frm, .int .i64 m.to, .int .i64 m.id, .slice A1 m.args.length c1, .slice A2 m.data.length c2] 45)
      by_cases hto : m.to = node
      · have hb1 : (m.to == node) = true := by simpa using hto
        clear hto
        go_wp2_with (at_builtin; refine wpList_app1g rfl _ _ _ rfl w1.heap.size 3 i0 _ 8 Try.underlying43 hi hz0 hz1 hz2 rfl rfl hownA rfl (by simp) rfl (by simp only [maxLen]; omega) (by omega) (by simp; omega) ?_; intro A6 c6 w6 own6 hg6)
        go_roundw
        case rel =>
          have hto : m.to = node := by simpa using hb1
          refine ⟨j + 1, acc ++ [(j : Int)], A6, c6, by go_num, by omega, by simp, by simpa [I64] using own6, by rw [HSN.out, if_pos hto, HACC.out], by simp; omega, ?_⟩
          exact hbA.trans hg6.below
        case measure => simp [intOf]; omega
      · have hb1 : (m.to == node) = false := by simpa using hto
        clear hto
        go_wp2
        go_roundw
        case rel =>
          have hto : ¬ m.to = node := by simpa using hb1
          exact ⟨j + 1, acc, A4, c4, by go_num, by omega, rfl, hownA, by rw [HSN.out, if_neg hto, HACC.out], by omega, hbA⟩
        case measure => simp [intOf]; omega
    · obtain rfl : j = n.q.length := by omega
      go_wp2
      go_ret
      have e := HACC.out
      rw [List.take_length] at e
      rw [← e]
      exact ⟨A4, c4, rfl, own_base hown hs1, E.below.trans (hb.mono hs1)⟩

/-- how great messages are, as an int has it -/
def sumW : List Ms → Int → Int
  | [], s => s
  | m :: l, s => sumW l (wrap64 (s + (10 + (m.args.length : Int) + (m.data.length : Int))))
def bigL (l : List Ms) : Bool := decide (200000 < sumW l 0)

set_option maxRecDepth 100000 in
set_option maxHeartbeats 2000000 in
theorem big13_any (v : Value) (l : List Ms) (K : Nat → Prop) (w : World) (hv : IsL Rp.msg w K v l) :
    Calls Try.prog 22 #[v] w fun e w' => e = .returned (.bool (bigL l)) ∧ Below w.heap.size w w' := by
  obtain ⟨res, hres⟩ : ∃ res, res = bigL l := ⟨_, rfl⟩
  rw [← hres]
  have HRES := Lib.hid hres; clear hres
  have hv0 := hv
  obtain ⟨A, c, rfl, _⟩ := hv.form
  have hlen := hv.len
  go_enter Try.func22, Try.ntmps22
  go_wp2_with fail
  go_loopw [3, 8] (fun s i wr => ∃ (j : Nat) (k : Int), i = .int .i64 j ∧ j ≤ l.length ∧ s = .int .i64 k ∧ sumW (l.drop j) k = sumW l 0 ∧ Below w.heap.size w wr) (fun _ i _ => l.length - (intOf i).toNat)
  case atStart => exact ⟨0, 0, rfl, Nat.zero_le _, rfl, rfl, Below.refl _ _⟩
  case round =>
    obtain ⟨j, k, rfl, hj, rfl, hsum, hb⟩ := hrel
    have HSUM := Lib.hid hsum; clear hsum
    have hsz := hb.size
    by_cases hlt : j < l.length
    · have htk : l.drop j = l[j] :: l.drop (j + 1) := List.drop_eq_getElem_cons hlt
      obtain ⟨ad, A1, c1, A2, c2, rfl, hadb, him, hc0, hc1, hc2, hc3, hc4, hc5⟩ := (hv0.step hb).msg_at (List.getElem?_eq_getElem hlt)
      generalize l[j] = m at him hc0 hc1 hc2 hc3 hc4 hc5 htk
      have HTK := Lib.hid htk; clear htk
      obtain ⟨ha, hd⟩ := him.lens
      go_wp2
      go_roundw
      case rel => exact ⟨j + 1, _, by go_num, by omega, rfl, by rw [← HSUM.out, HTK.out]; rfl, hb.alloc hsz _⟩
      case measure => simp [intOf]; omega
    · obtain rfl : j = l.length := by omega
      go_wp2
      go_ret
      have e := HSUM.out
      rw [List.drop_length] at e
      have e2 : k = sumW l 0 := e
      refine ⟨?_, hb⟩
      rw [HRES.out]
      unfold bigL
      rw [← e2]
      rfl
end Go.Proofs.Ytbjgemipmlimoaa
