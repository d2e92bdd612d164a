/- The walk of net.Write. -/
import Derived.Test.YtbjgemipmlimoaaNetIO
namespace Go.Proofs.Ytbjgemipmlimoaa
open Go.RowKit

set_option maxRecDepth 100000 in
set_option maxHeartbeats 4000000 in
theorem write_any (v : Value) (n : Nt) (K : Nat → Prop) (w : World) (hv : IsN w K v n) (hnl : ArgsLe n.q) (hn8 : n.q.length ≤ 100000000) :
    Calls Try.prog 45 #[v] w fun e w' => ∃ A' c', e = .returned (.tuple #[.slice A' (writeL n.q).1.length c', .int .i64 (writeL n.q).2]) ∧
      w'.ownsRow w.heap.size 5 1 (.slice A' (writeL n.q).1.length c') (writeL n.q).1.length (cells8 (writeL n.q).1) ∧ Below w.heap.size w w' := by
  obtain ⟨i0, hi, hz0, hz1, hz2⟩ := info_parts Try.info5
  obtain ⟨res, hres⟩ : ∃ res, writeL n.q = res := ⟨_, rfl⟩
  rw [hres]
  have HRES := Lib.hid hres; clear hres
  obtain ⟨A, c, rfl, hnq⟩ := hv
  have hlens := hnq.lens
  have hfl := fun j => flatM_len (l := n.q.take j) (fun m hm => (hlens m (List.mem_of_mem_take hm)).2)
  have HFL := Lib.hid hfl
  have HLENS := Lib.hid hlens; clear hlens hfl
  have E := ((Kn.start w).give Stable.list hnq).push 38 #[.int .i64 n.cap, .slice A n.q.length c]
  clear hnq
  go_enter Try.func45, Try.ntmps45
  go_wp2_with fail
  generalize hw1 : w.alloc (.cells #[.int .i64 n.cap, .slice A n.q.length c] 38) = w1 at E ⊢
  clear hw1
  have hs1 := E.below.size
  go_loopw [4, 6, 7, 8, 12] (fun a x6 x7 x8 i wr => (∃ (j : Nat) (acc : List UInt8) (A4 : Option Addr) (c4 : Nat), i = .int .i64 j ∧ j ≤ n.q.length ∧ a = .slice A4 acc.length c4 ∧ wr.ownsRow w1.heap.size 5 1 (.slice A4 acc.length c4) acc.length (cells8 acc) ∧ acc = flatM (n.q.take j) ∧ (∀ m ∈ n.q.take j, (msgL m).2 = 0) ∧ Below w1.heap.size w1 wr) ∧ (∃ y6 y7 y8, x6 = y6 ∧ x7 = y7 ∧ x8 = y8)) (fun _ _ _ _ i _ => n.q.length - (intOf i).toNat)
  case atStart => exact ⟨⟨0, [], none, 0, rfl, Nat.zero_le _, rfl, World.ownsRow_nil _ _ _ _, rfl, by simp, Below.refl _ _⟩, _, _, _, rfl, rfl, rfl⟩
  case round =>
    obtain ⟨⟨j, acc, A4, c4, rfl, hj, rfl, hown, hacc, hok, hb⟩, y6, y7, y8, rfl, rfl, rfl⟩ := hrel
    have hal : acc.length ≤ 7000000000000 := by rw [hacc]; have h1 := HFL.out j; have h2 := List.length_take_le j n.q; omega
    have HACC := Lib.hid hacc; have HOK := Lib.hid hok
    clear hacc hok
    have hsz := hb.size
    by_cases hlt : j < n.q.length
    · have hsn := flatM_snoc n.q hlt
      have htk : n.q.take (j + 1) = n.q.take j ++ [n.q[j]] := List.take_succ_eq_append_getElem hlt
      have hml := hnl n.q[j] (List.getElem_mem hlt)
      have hmm : n.q[j] ∈ n.q := List.getElem_mem hlt
      obtain ⟨ad, A1, c1, A2, c2, rfl, hadb, him, hc0, hc1, hc2, hc3, hc4, hc5⟩ := IsL.msg_at ((E.step hb).get m0) (List.getElem?_eq_getElem hlt)
      generalize n.q[j] = m at hsn htk hml hmm him hc0 hc1 hc2 hc3 hc4 hc5
      have hrb := msgL_len (HLENS.out m hmm).2.1 (HLENS.out m hmm).2.2
      obtain ⟨r, hr⟩ : ∃ r, msgL m = r := ⟨_, rfl⟩
      rw [hr] at hsn hrb
      obtain ⟨rb, re⟩ := r
      simp only at hsn hrb
      have HSN := Lib.hid hsn; have HTK := Lib.hid htk; have HR := Lib.hid hr; have HMM := Lib.hid hmm
      clear hsn htk hr hmm
      have F := ((Kn.start wr).give Stable.msg him).push 45 #[.int .i64 m.kind, .int .i64 m.frm, .int .i64 m.to, .int .i64 m.id, .slice A1 m.args.length c1, .slice A2 m.data.length c2]
      have hownA := hown.alloc (.cells #[.int .i64 m.kind, .int .i64 m.frm, .int .i64 m.to, .int .i64 m.id, .slice A1 m.args.length c1, .slice A2 m.data.length c2] 45)
      clear him
      go_wp2_with fail
      refine (wmsg_any _ m _ _ (F.get m0) (by omega)).mono ?_
      rw [HR.out]
      rintro e w6 ⟨A7, c7, rfl, own7, hb6⟩
      simp only at own7
      replace F := F.step hb6
      have hW6 := hb.trans (F.below.mono hsz)
      have own4 := own_below hownA hb6 (Nat.le_refl _)
      have hr7 := Reads.of_own own7
      have hs6 := F.base
      clear hownA own7 hb6 hc0 hc1 hc2 hc3 hc4 hc5
      by_cases hre : re = 0
      · have hreb : (re != 0) = false := by simpa using hre
        have HRE := Lib.hid hre; clear hre
        go_wp2_with (at_builtin; refine wpList_appN rfl _ _ _ rfl w1.heap.size 5 i0 _ 1 1 Try.underlying24 hi hz0 hz1 hz2 rfl (by omega) rfl own4 rfl hr7 (cells8_one _) (by simp only [maxLen]; omega) (by omega) (by omega) ?_; intro A6 c6 w7 own8 hg8)
        go_roundw
        case rel =>
          refine ⟨⟨j + 1, acc ++ rb, A6, c6, by go_num, by omega, by simp, ?_, by rw [HSN.out, HACC.out], ?_, hW6.trans hg8.below⟩, _, _, _, rfl, rfl, rfl⟩
          · rw [List.length_append, cells8_append]; exact own8
          · rw [HTK.out]
            intro x hx
            rcases List.mem_append.1 hx with hx | hx
            · exact HOK.out x hx
            · rw [List.mem_singleton.1 hx, HR.out]; exact HRE.out
        case measure => simp [intOf]; omega
      · have hreb : (re != 0) = true := by simpa using hre
        have hx : res = ([], 1) := by rw [← HRES.out]; exact if_neg (fun h => hre (by have := h m HMM.out; rw [HR.out] at this; exact this))
        have HX := Lib.hid hx; clear hre hx
        go_wp2
        go_ret2
        rw [HX.out]
        exact ⟨none, 0, rfl, World.ownsRow_nil _ _ _ _, E.below.trans (hW6.mono hs1)⟩
    · obtain rfl : j = n.q.length := by omega
      have hx : res = (acc, 0) := by
        have h1 := HOK.out; have h2 := HACC.out
        rw [List.take_length] at h1 h2
        rw [← HRES.out, h2]
        exact if_pos h1
      have HX := Lib.hid hx; clear hx
      go_wp2
      go_ret2
      rw [HX.out]
      exact ⟨A4, c4, rfl, own_base hown hs1, E.below.trans (hb.mono hs1)⟩
end Go.Proofs.Ytbjgemipmlimoaa
