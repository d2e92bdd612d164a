/- The walks of quicksetref13.New, To, Write, Read: printed by gen/refio.py from those of net. -/
import Derived.Test.YtbjgemipmlimoaaNetRead
import Derived.Test.YtbjgemipmlimoaaNetWrite
import Derived.Test.YtbjgemipmlimoaaRefW
import Derived.Test.YtbjgemipmlimoaaRefTakeMsg
namespace Go.Proofs.Ytbjgemipmlimoaa
open Go.RowKit

set_option maxRecDepth 100000 in
set_option maxHeartbeats 400000 in
theorem rnetNew_any (most : Int) (w : World) :
    Calls Try.prog 47 #[.int .i64 most] w fun e w' => e = .returned (.tuple #[.agg #[.int .i64 (newN most).1, .slice none 0 0], .int .i64 (newN most).2]) ∧ Below w.heap.size w w' := by
  by_cases h : 1 ≤ most ∧ most ≤ 4096
  · have hx : newN most = (most, 0) := if_pos h
    rw [hx]
    obtain ⟨h1, h2⟩ := h
    clear hx
    go_enter Try.func47, Try.ntmps47
    go_wp2
    exact bodyPost_ret (v := .tuple #[.agg #[.int .i64 most, .slice none 0 0], .int .i64 0]) (by simp [results, Try.results47, go_sem]) rfl ⟨rfl, (Below.refl _ _).alloc (Nat.le_refl _) _⟩
  · have hx : newN most = (0, 1) := if_neg h
    rw [hx]
    have h' : most < 1 ∨ ¬ most < 1 ∧ 4096 < most := by omega
    clear h hx
    rcases h' with h1 | ⟨h1, h2⟩
    all_goals
      go_enter Try.func47, Try.ntmps47
      go_wp2
      exact bodyPost_ret (v := .tuple #[.agg #[.int .i64 0, .slice none 0 0], .int .i64 1]) (by simp [results, Try.results47, go_sem]) rfl ⟨rfl, (Below.refl _ _).alloc (Nat.le_refl _) _⟩


set_option maxRecDepth 100000 in
set_option maxHeartbeats 2000000 in
theorem rto_any (v : Value) (n : Nt) (node : Int) (K : Nat → Prop) (w : World) (hv : IsN w K v n) (hn8 : n.q.length ≤ 10000000000000) :
    Calls Try.prog 51 #[v, .int .i64 node] w fun e w' => ∃ A' c', e = .returned (.slice A' (toL node 0 n.q).length c') ∧ w'.ownsRow w.heap.size 3 1 (.slice A' (toL node 0 n.q).length c') (toL node 0 n.q).length ((toL node 0 n.q).map I64) ∧ Below w.heap.size w w' := by
  obtain ⟨i0, hi, hz0, hz1, hz2⟩ := info_parts Try.infInt
  obtain ⟨A, c, rfl, hq⟩ := hv
  have E := ((Kn.start w).give Stable.list hq).push 38 #[.int .i64 n.cap, .slice A n.q.length c]
  clear hq
  go_enter Try.func51, Try.ntmps51
  go_wp2_with fail
  generalize w.alloc (.cells #[.int .i64 n.cap, .slice A n.q.length c] 38) = w1 at E ⊢
  have hs1 := E.below.size
  go_loopw [5, 11] (fun a i wr => ∃ (j : Nat) (acc : List Int) (A4 : Option Addr) (c4 : Nat), i = .int .i64 j ∧ j ≤ n.q.length ∧ a = .slice A4 acc.length c4 ∧ wr.ownsRow w1.heap.size 3 1 (.slice A4 acc.length c4) acc.length (acc.map I64) ∧ acc = toL node 0 (n.q.take j) ∧ acc.length ≤ j ∧ Below w1.heap.size w1 wr) (fun _ i _ => n.q.length - (intOf i).toNat)
  case atStart => exact ⟨0, [], none, 0, rfl, Nat.zero_le _, rfl, World.ownsRow_nil _ _ _ _, rfl, Nat.zero_le _, Below.refl _ _⟩
  case round =>
    obtain ⟨j, acc, A4, c4, rfl, hj, rfl, hown, hacc, hal, hb⟩ := hrel
    have HACC := Lib.hid hacc; clear hacc
    have hsz := hb.size
    by_cases hlt : j < n.q.length
    · have hsn := toL_snoc node n.q hlt
      obtain ⟨ad, A1, c1, A2, c2, rfl, hadb, him, hc0, hc1, hc2, hc3, hc4, hc5⟩ := ((E.step hb).get m0).msg_at (List.getElem?_eq_getElem hlt)
      generalize n.q[j] = m at him hc0 hc1 hc2 hc3 hc4 hc5 hsn
      have HSN := Lib.hid hsn; clear hsn
      have hbA := hb.alloc hsz (.cells #[.int .i64 m.kind, .int .i64 m.frm, .int .i64 m.to, .int .i64 m.id, .slice A1 m.args.length c1, .slice A2 m.data.length c2] 45)
      have hownA := hown.alloc (.cells #[.int .i64 m.kind, .int .i64 m.frm, .int .i64 m.to, .int .i64 m.id, .slice A1 m.args.length c1, .slice A2 m.data.length c2] 45)
      by_cases hto : m.to = node
      · have hb1 : (m.to == node) = true := by simpa using hto
        clear hto
        go_wp2_with (at_builtin; refine wpList_app1g rfl _ _ _ rfl w1.heap.size 3 i0 _ 8 Try.underlying43 hi hz0 hz1 hz2 rfl rfl hownA rfl (by simp) rfl (by simp only [maxLen]; omega) (by omega) (by simp; omega) ?_; intro A6 c6 w6 own6 hg6)
        go_roundw
        case rel =>
          have hto : m.to = node := by simpa using hb1
          refine ⟨j + 1, acc ++ [(j : Int)], A6, c6, by go_num, by omega, by simp, by simpa [I64] using own6, by rw [HSN.out, if_pos hto, HACC.out], by simp; omega, ?_⟩
          exact hbA.trans hg6.below
        case measure => simp [intOf]; omega
      · have hb1 : (m.to == node) = false := by simpa using hto
        clear hto
        go_wp2
        go_roundw
        case rel =>
          have hto : ¬ m.to = node := by simpa using hb1
          exact ⟨j + 1, acc, A4, c4, by go_num, by omega, rfl, hownA, by rw [HSN.out, if_neg hto, HACC.out], by omega, hbA⟩
        case measure => simp [intOf]; omega
    · obtain rfl : j = n.q.length := by omega
      go_wp2
      go_ret
      have e := HACC.out
      rw [List.take_length] at e
      rw [← e]
      exact ⟨A4, c4, rfl, own_base hown hs1, E.below.trans (hb.mono hs1)⟩


set_option maxRecDepth 100000 in
set_option maxHeartbeats 4000000 in
theorem rwrite_any (v : Value) (n : Nt) (K : Nat → Prop) (w : World) (hv : IsN w K v n) (hnl : ArgsLe n.q) (hn8 : n.q.length ≤ 100000000) :
    Calls Try.prog 52 #[v] w fun e w' => ∃ A' c', e = .returned (.tuple #[.slice A' (writeL n.q).1.length c', .int .i64 (writeL n.q).2]) ∧
      w'.ownsRow w.heap.size 5 1 (.slice A' (writeL n.q).1.length c') (writeL n.q).1.length (cells8 (writeL n.q).1) ∧ Below w.heap.size w w' := by
  obtain ⟨i0, hi, hz0, hz1, hz2⟩ := info_parts Try.info5
  obtain ⟨res, hres⟩ : ∃ res, writeL n.q = res := ⟨_, rfl⟩
  rw [hres]
  have HRES := Lib.hid hres; clear hres
  obtain ⟨A, c, rfl, hnq⟩ := hv
  have hlens := hnq.lens
  have hfl := fun j => flatM_len (l := n.q.take j) (fun m hm => (hlens m (List.mem_of_mem_take hm)).2)
  have HFL := Lib.hid hfl
  have HLENS := Lib.hid hlens; clear hlens hfl
  have E := ((Kn.start w).give Stable.list hnq).push 38 #[.int .i64 n.cap, .slice A n.q.length c]
  clear hnq
  go_enter Try.func52, Try.ntmps52
  go_wp2_with fail
  generalize hw1 : w.alloc (.cells #[.int .i64 n.cap, .slice A n.q.length c] 38) = w1 at E ⊢
  clear hw1
  have hs1 := E.below.size
  go_loopw [4, 6, 7, 8, 12] (fun a x6 x7 x8 i wr => (∃ (j : Nat) (acc : List UInt8) (A4 : Option Addr) (c4 : Nat), i = .int .i64 j ∧ j ≤ n.q.length ∧ a = .slice A4 acc.length c4 ∧ wr.ownsRow w1.heap.size 5 1 (.slice A4 acc.length c4) acc.length (cells8 acc) ∧ acc = flatM (n.q.take j) ∧ (∀ m ∈ n.q.take j, (msgL m).2 = 0) ∧ Below w1.heap.size w1 wr) ∧ (∃ y6 y7 y8, x6 = y6 ∧ x7 = y7 ∧ x8 = y8)) (fun _ _ _ _ i _ => n.q.length - (intOf i).toNat)
  case atStart => exact ⟨⟨0, [], none, 0, rfl, Nat.zero_le _, rfl, World.ownsRow_nil _ _ _ _, rfl, by simp, Below.refl _ _⟩, _, _, _, rfl, rfl, rfl⟩
  case round =>
    obtain ⟨⟨j, acc, A4, c4, rfl, hj, rfl, hown, hacc, hok, hb⟩, y6, y7, y8, rfl, rfl, rfl⟩ := hrel
    have hal : acc.length ≤ 7000000000000 := by rw [hacc]; have h1 := HFL.out j; have h2 := List.length_take_le j n.q; omega
    have HACC := Lib.hid hacc; have HOK := Lib.hid hok
    clear hacc hok
    have hsz := hb.size
    by_cases hlt : j < n.q.length
    · have hsn := flatM_snoc n.q hlt
      have htk : n.q.take (j + 1) = n.q.take j ++ [n.q[j]] := List.take_succ_eq_append_getElem hlt
      have hml := hnl n.q[j] (List.getElem_mem hlt)
      have hmm : n.q[j] ∈ n.q := List.getElem_mem hlt
      obtain ⟨ad, A1, c1, A2, c2, rfl, hadb, him, hc0, hc1, hc2, hc3, hc4, hc5⟩ := IsL.msg_at ((E.step hb).get m0) (List.getElem?_eq_getElem hlt)
      generalize n.q[j] = m at hsn htk hml hmm him hc0 hc1 hc2 hc3 hc4 hc5
      have hrb := msgL_len (HLENS.out m hmm).2.1 (HLENS.out m hmm).2.2
      obtain ⟨r, hr⟩ : ∃ r, msgL m = r := ⟨_, rfl⟩
      rw [hr] at hsn hrb
      obtain ⟨rb, re⟩ := r
      simp only at hsn hrb
      have HSN := Lib.hid hsn; have HTK := Lib.hid htk; have HR := Lib.hid hr; have HMM := Lib.hid hmm
      clear hsn htk hr hmm
      have F := ((Kn.start wr).give Stable.msg him).push 45 #[.int .i64 m.kind, .int .i64 m.frm, .int .i64 m.to, .int .i64 m.id, .slice A1 m.args.length c1, .slice A2 m.data.length c2]
      have hownA := hown.alloc (.cells #[.int .i64 m.kind, .int .i64 m.frm, .int .i64 m.to, .int .i64 m.id, .slice A1 m.args.length c1, .slice A2 m.data.length c2] 45)
      clear him
      go_wp2_with fail
      refine (rmsg_any _ m _ _ (F.get m0) (by omega)).mono ?_
      rw [HR.out]
      rintro e w6 ⟨A7, c7, rfl, own7, hb6⟩
      simp only at own7
      replace F := F.step hb6
      have hW6 := hb.trans (F.below.mono hsz)
      have own4 := own_below hownA hb6 (Nat.le_refl _)
      have hr7 := Reads.of_own own7
      have hs6 := F.base
      clear hownA own7 hb6 hc0 hc1 hc2 hc3 hc4 hc5
      by_cases hre : re = 0
      · have hreb : (re != 0) = false := by simpa using hre
        have HRE := Lib.hid hre; clear hre
        go_wp2_with (at_builtin; refine wpList_appN rfl _ _ _ rfl w1.heap.size 5 i0 _ 1 1 Try.underlying24 hi hz0 hz1 hz2 rfl (by omega) rfl own4 rfl hr7 (cells8_one _) (by simp only [maxLen]; omega) (by omega) (by omega) ?_; intro A6 c6 w7 own8 hg8)
        go_roundw
        case rel =>
          refine ⟨⟨j + 1, acc ++ rb, A6, c6, by go_num, by omega, by simp, ?_, by rw [HSN.out, HACC.out], ?_, hW6.trans hg8.below⟩, _, _, _, rfl, rfl, rfl⟩
          · rw [List.length_append, cells8_append]; exact own8
          · rw [HTK.out]
            intro x hx
            rcases List.mem_append.1 hx with hx | hx
            · exact HOK.out x hx
            · rw [List.mem_singleton.1 hx, HR.out]; exact HRE.out
        case measure => simp [intOf]; omega
      · have hreb : (re != 0) = true := by simpa using hre
        have hx : res = ([], 1) := by rw [← HRES.out]; exact if_neg (fun h => hre (by have := h m HMM.out; rw [HR.out] at this; exact this))
        have HX := Lib.hid hx; clear hre hx
        go_wp2
        go_ret2
        rw [HX.out]
        exact ⟨none, 0, rfl, World.ownsRow_nil _ _ _ _, E.below.trans (hW6.mono hs1)⟩
    · obtain rfl : j = n.q.length := by omega
      have hx : res = (acc, 0) := by
        have h1 := HOK.out; have h2 := HACC.out
        rw [List.take_length] at h1 h2
        rw [← HRES.out, h2]
        exact if_pos h1
      have HX := Lib.hid hx; clear hx
      go_wp2
      go_ret2
      rw [HX.out]
      exact ⟨A4, c4, rfl, own_base hown hs1, E.below.trans (hb.mono hs1)⟩

set_option maxRecDepth 100000 in
set_option maxHeartbeats 8000000 in
theorem rread_any (v : Value) (b : List UInt8) (most : Int) (K : Nat → Prop) (w : World) (hv : IsB w K v b) (hl9 : b.length ≤ 1000000000) :
    Calls Try.prog 48 #[v, .int .i64 most] w fun e w' => ∃ A' c', e = .returned (.tuple #[.agg #[.int .i64 (readN b most).1, .slice A' (readN b most).2.1.length c'], .int .i64 (readN b most).2.2]) ∧
      OwnR Rp.msg w' w.heap.size 45 (fun b => w.heap.size ≤ b) (.slice A' (readN b most).2.1.length c') (readN b most).2.1 ∧ Below w.heap.size w w' := by
  obtain ⟨i0, hi, hz0, hz1, hz2⟩ := info_parts Try.infM
  obtain ⟨res, hres⟩ : ∃ res, readN b most = res := ⟨_, rfl⟩
  rw [hres]
  have hv1 := (hv.lt).more (K' := (· < w.heap.size)) (fun b hb => hb.2)
  obtain ⟨r, hr⟩ : ∃ r, newN most = r := ⟨_, rfl⟩
  obtain ⟨nc, ne⟩ := r
  have hcap : ne = 0 → nc = most := by
    intro h
    unfold newN at hr
    split at hr
    · injection hr with h1 h2; exact h1.symm
    · injection hr with h1 h2; omega
  have hcap2 : ne ≠ 0 → nc = 0 := by
    intro h
    unfold newN at hr
    split at hr
    · injection hr with h1 h2; omega
    · injection hr with h1 h2; exact h1.symm
  have hrd : res = if ne ≠ 0 then (0, [], ne) else match readG b.length b [] with
    | none => (0, [], 21)
    | some q => if most < q.length then (0, [], 2) else (most, q, 0) := by rw [← hres]; unfold readN; rw [hr]; rfl
  have HRES := Lib.hid hrd; clear hrd hres
  have HR := Lib.hid hr; clear hr
  have E := ((Kn.start w).give Stable.bytes hv1).push 38 #[.int .i64 0, .slice none 0 0]
  obtain ⟨A0, c0, rfl, _⟩ := hv
  clear hv1
  by_cases hne : ne = 0
  · subst hne
    have hcm := hcap rfl
    subst hcm
    clear hcap hcap2
    go_enter Try.func48, Try.ntmps48
    go_wp2_with fail
    refine (rnetNew_any nc _).mono ?_
    rw [HR.out]
    rintro e w1 ⟨rfl, hb1⟩
    replace E := (E.step hb1).push 38 #[.int .i64 nc, .slice none 0 0]
    have s1 := hb1.size
    simp at s1
    clear hb1
    go_wp2_with fail
    generalize hw2 : w1.alloc (.cells #[.int .i64 nc, .slice none 0 0] 38) = w2 at E ⊢
    have s2 : w1.heap.size < w2.heap.size := (E.at_ m0).lt
    clear hw2
    obtain ⟨R, hR⟩ : ∃ R, readG b.length b [] = R := ⟨_, rfl⟩
    have HRR := Lib.hid hR
    go_loopg [0, 8, 9, 10] b.length (fun fuel x0 x8 x9 x10 wr => ReadInv w w2 wr w1.heap.size nc R b.length x0 fuel ∧ (∃ y8 y9 y10, x8 = y8 ∧ x9 = y9 ∧ x10 = y10))
    case atStart => exact ⟨⟨b, [], none, 0, E.get m0, Nat.le_refl _, hR, by simp, E.at_ m0, OwnR.nil_ _ _ _ _, E.below, E.at_ m1, Nat.le_refl _⟩, _, _, _, rfl, rfl, rfl⟩
    case round =>
      obtain ⟨⟨rest, q, A, c, hb, hfu, hrg, hN, C6, hown, hbw, C4, h2r⟩, y8, y9, y10, rfl, rfl, rfl⟩ := hrel
      have hb0 := hb
      obtain ⟨Ab, cb, rfl, hrb, hlcb, hccb, hl47⟩ := hb
      have F := ((((Kn.from_ hbw hbw.size).give Stable.bytes hb0).give (f := fun W => OwnR Rp.msg W w2.heap.size 45 (fun b => w1.heap.size < b) (.slice A q.length c) q) (fun _ _ h hb => OwnR.step h hb) hown).know C4).know C6
      have hg6 := C6.lt
      have hg4 := C4.lt
      have HROWR := Lib.hid (OwnR.rowlt hown)
      clear hb0 hown C4 C6
      by_cases hnil : rest.length = 0
      · have hrn : rest = [] := List.eq_nil_of_length_eq_zero hnil
        subst hrn
        have hRq : R = some q := by rw [← hrg]; cases gk <;> rfl
        have hx : res = if nc < q.length then (0, [], 2) else (nc, q, 0) := by rw [HRES.out, HRR.out, hRq]; simp
        have HX := Lib.hid hx
        clear hx hRq hrg hnil
        obtain ⟨q1, f1, t1⟩ := F.rules m0
        obtain ⟨q2, f2, t2⟩ := F.rules m1
        by_cases hlong : nc < (q.length : Int)
        · have hx : res = (0, [], 2) := by rw [HX.out, if_pos hlong]
          have HX2 := Lib.hid hx
          clear hx
          go_wp2
          rw [HX2.out]
          have G := ((F.at_ m1).set2 (x := .int .i64 0) (y := .slice none 0 0)).rules
          refine bodyPost_ret (v := .tuple #[.agg #[.int .i64 0, .slice none 0 0], .int .i64 2]) (by simp [results, Try.results48, go_sem, G.1]) rfl ⟨none, 0, rfl, OwnR.nil_ _ _ _ _, below_set2 F.below (Nat.le_refl _)⟩
        · have hx : res = (nc, q, 0) := by rw [HX.out, if_neg hlong]
          have HX2 := Lib.hid hx
          have hlong' : ¬ nc < (q.length : Int) := hlong
          clear hx hlong
          go_wp2
          rw [HX2.out]
          have G := ((F.at_ m1).set2 (x := .int .i64 nc) (y := .slice A q.length c)).rules
          refine bodyPost_ret (v := .tuple #[.agg #[.int .i64 nc, .slice A q.length c], .int .i64 0]) (by simp [results, Try.results48, go_sem, G.1]) rfl ⟨A, c, rfl, ?_, below_set2 F.below (Nat.le_refl _)⟩
          have h1 := OwnR.far (F.get m0) (F.at_ m1) (by decide) (by omega) 0 (.int .i64 nc)
          have h2 := h1.far ((F.at_ m1).set_ 0 _) (by decide) (by omega) 1 (.slice A q.length c)
          exact (h2.lower (by omega)).more (fun b hb _ => by omega)
      · obtain ⟨k, rfl⟩ : ∃ k, gk = k + 1 := ⟨gk - 1, by omega⟩
        obtain ⟨ab, rfl, _⟩ := hrb.2 (by omega)
        obtain ⟨t, ht⟩ : ∃ t, takeMsgL rest = t := ⟨_, rfl⟩
        have hone := fun m k h => takeMsg_one (b := rest) (m := m) (k := k) h
        have hne0 : ¬ rest = [] := fun h => hnil (by rw [h]; rfl)
        unfold readG at hrg
        rw [if_neg hne0, ht] at hrg
        rw [ht] at hone
        obtain ⟨m, kk, ee⟩ := t
        simp only at hrg
        have HT := Lib.hid ht
        have HRG := Lib.hid hrg
        have hpos : (0 : Int) < (rest.length : Int) := by omega
        have hone2 : ee = 0 → ∃ j : Nat, kk = (j : Int) ∧ 1 ≤ j ∧ j ≤ rest.length ∧ okM m := fun h => by
          subst h
          obtain ⟨j, h1, h2, h3, _, h4⟩ := hone m kk rfl
          exact ⟨j, h1, h2, h3, h4⟩
        have HONE := Lib.hid hone2
        clear ht hrg hone hone2 hne0 hnil
        go_wp2_with fail
        refine (rtakeMsg_any _ rest _ _ (F.get m1) (by omega)).mono ?_
        rw [HT.out]
        rintro e w4 ⟨v4, rfl, him, hb4⟩
        have s4 := hb4.size
        obtain ⟨A1, c1, A2, c2, rfl, hrp⟩ := isM_rp him.lt
        clear hrp
        unfold mv
        replace F := ((F.step hb4).give Stable.msg him).push 45 #[.int .i64 m.kind, .int .i64 m.frm, .int .i64 m.to, .int .i64 m.id, .slice A1 m.args.length c1, .slice A2 m.data.length c2]
        clear him hb4
        by_cases hee : ee = 0
        · subst hee
          obtain ⟨j, rfl, hj1, hj2, hokm⟩ := HONE.out rfl
          have hargs : m.args.length ≤ 64 := hokm.2.1
          clear hokm
          go_upto_region 8 with fail
          generalize hwA : w4.alloc (.cells #[.int .i64 m.kind, .int .i64 m.frm, .int .i64 m.to, .int .i64 m.id, .slice A1 m.args.length c1, .slice A2 m.data.length c2] 45) = wA at F ⊢
          have s4A : w4.heap.size < wA.heap.size := (F.at_ m0).lt
          clear hwA
          have hown := F.get m1
          have hrow := OwnR.rowlt hown
          have HROW := Lib.hid hrow
          obtain ⟨hjj, cs, own5, cl5⟩ := OwnR.open_ hown
          clear hjj hown hrow
          replace own5 : wA.ownsRow w2.heap.size 45 6 (.slice A q.length c) q.length cs := own5
          have HIM := Lib.hid (F.get m0)
          have HCL := Lib.hid cl5
          have HOWN := Lib.hid own5
          clear cl5 own5
          have HN := Lib.hid hN
          obtain ⟨A3, hA3⟩ : ∃ A3, (if cb = j then some ab else some (ab.add j)) = A3 := ⟨_, rfl⟩
          have hcutb := cut_bytes (F.get m2) (at' := j) hj2
          rw [show (if cb = j then some ab else (some ab).map (·.add j)) = A3 from hA3] at hcutb
          have HCUT := Lib.hid hcutb
          clear hcutb
          have i0' : (0 : Int) ≤ (j : Int) := by omega
          have i2 : (j : Int) ≤ (rest.length : Int) := by omega
          have i3 : (rest.length : Int) ≤ (cb : Int) := by omega
          have i4 : (j : Int) ≤ (cb : Int) := by omega
          obtain ⟨q8, f8, t8⟩ := F.rules m0
          obtain ⟨q6, f6, t6⟩ := F.rules m1
          have hql : q.length ≤ 1000000000 := by omega
          have hownA : ((wA.alloc (.cells #[.int .i64 m.kind, .int .i64 m.frm, .int .i64 m.to, .int .i64 m.id, .slice A1 m.args.length c1, .slice A2 m.data.length c2] 45))).ownsRow w2.heap.size 45 6 (.slice A q.length c) q.length cs := HOWN.out.alloc (.cells #[.int .i64 m.kind, .int .i64 m.frm, .int .i64 m.to, .int .i64 m.id, .slice A1 m.args.length c1, .slice A2 m.data.length c2] 45)
          have hrdA : Reads ((wA.alloc (.cells #[.int .i64 m.kind, .int .i64 m.frm, .int .i64 m.to, .int .i64 m.id, .slice A1 m.args.length c1, .slice A2 m.data.length c2] 45))) (fun b => b = wA.heap.size) 6 (some ⟨wA.heap.size, 0, none⟩) 1 (cellsM m A1 c1 A2 c2) := Reads.new (xs := cellsM m A1 c1 A2 c2) (n := 1) rfl rfl rfl
          have hB6A : Blk ((wA.alloc (.cells #[.int .i64 m.kind, .int .i64 m.frm, .int .i64 m.to, .int .i64 m.id, .slice A1 m.args.length c1, .slice A2 m.data.length c2] 45))) w1.heap.size 38 #[.int .i64 nc, .slice A q.length c] := (F.at_ m1).alloc (.cells #[.int .i64 m.kind, .int .i64 m.frm, .int .i64 m.to, .int .i64 m.id, .slice A1 m.args.length c1, .slice A2 m.data.length c2] 45)
          have hszA : w2.heap.size ≤ ((wA.alloc (.cells #[.int .i64 m.kind, .int .i64 m.frm, .int .i64 m.to, .int .i64 m.id, .slice A1 m.args.length c1, .slice A2 m.data.length c2] 45))).heap.size := by simp; omega
          have HOWNA := Lib.hid hownA; have HRDA := Lib.hid hrdA; have HB6A := Lib.hid hB6A
          clear hownA hrdA hB6A
          go_wp2_with (at_builtin; refine wpList_appN rfl (.tmp 33) (.tmp 35) _ rfl w2.heap.size 45 i0 _ 6 80 Try.underlying35 hi hz0 hz1 hz2 rfl (by omega) (by rfl) HOWNA.out (by rfl) HRDA.out cellsM_one (by simp only [maxLen]; omega) (by omega) hszA ?_; intro A9 c9 wP own9 hg9; have D6P := HB6A.out.grew HOWNA.out (by decide) hg9; obtain ⟨qP, fP⟩ := D6P.rules; have tP := D6P.lt)
          go_roundg k
          case measure => omega
          have hsP := hg9.below.size
          have hbA : Below wA.heap.size wA ((wA.alloc (.cells #[.int .i64 m.kind, .int .i64 m.frm, .int .i64 m.to, .int .i64 m.id, .slice A1 m.args.length c1, .slice A2 m.data.length c2] 45))) := (Below.refl _ _).alloc (Nat.le_refl _) _
          have hlr : (rest.drop j).length = rest.length - j := by rw [List.length_drop]
          have hlq : (q ++ [m]).length = q.length + 1 := by simp
          have hBn : IsB wA (· < w.heap.size) (.slice A3 (rest.length - j) (cb - j)) (rest.drop j) := ⟨A3, cb - j, by rw [hlr], by rw [hlr]; exact HCUT.out, by rw [hlr]; omega, by omega, by rw [hlr]; omega⟩
          have hO := OwnR.putB (w := wA) (X := fun b => w1.heap.size < b) hbA rfl HCL.out (HIM.out.lt.more fun b hb => ⟨by omega, hb.2, fun e => by
            have h2 := hb.1
            have h3 := (HROWR.out b e.symm).2
            omega⟩) own9 hg9
          have hszc : w2.heap.size ≤ (wP.setCell ⟨w1.heap.size, 1, none⟩ (.slice A9 (q.length + 1) c9)).heap.size := by simp [World.setCell]; omega
          refine ⟨⟨rest.drop j, q ++ [m], A9, c9, ((hBn.step hbA).below hg9.below (fun b hb => by omega)).far (by omega) 1 _, by rw [hlr]; omega, ?_, by rw [hlr, hlq]; have := HN.out; omega, by rw [hlq]; exact D6P.set_ 1 _, by rw [hlq]; exact hO.far D6P (by decide) (by omega) 1 _,
            ((F.below.trans (hbA.mono F.below.size)).trans (hg9.below.mono (by omega))).setCell (by show w.heap.size ≤ w1.heap.size; omega) _, ((Blk.grew ((F.at_ m2).alloc (.cells #[.int .i64 m.kind, .int .i64 m.frm, .int .i64 m.to, .int .i64 m.id, .slice A1 m.args.length c1, .slice A2 m.data.length c2] 45)) HOWNA.out (by decide) hg9).far (by show w.heap.size ≠ w1.heap.size; omega) _), hszc⟩, _, _, _, rfl, rfl, rfl⟩
          simpa using HRG.out
        · have heb : (ee != 0) = true := by simpa using hee
          have hx : res = (0, [], 21) := by
            have h := HRG.out
            rw [if_neg hee] at h
            rw [HRES.out, HRR.out, ← h]; simp
          have HX := Lib.hid hx
          clear hx hee
          obtain ⟨q2, f2, t2⟩ := F.rules m2
          go_wp2
          rw [HX.out]
          have G := ((F.at_ m2).set2 (x := .int .i64 0) (y := .slice none 0 0)).rules
          refine bodyPost_ret (v := .tuple #[.agg #[.int .i64 0, .slice none 0 0], .int .i64 21]) (by simp [results, Try.results48, go_sem, G.1]) rfl ⟨none, 0, rfl, OwnR.nil_ _ _ _ _, below_set2 F.below (Nat.le_refl _)⟩
  · have hcz := hcap2 hne
    subst hcz
    have hx : res = (0, [], ne) := by rw [HRES.out, if_pos hne]
    have HX := Lib.hid hx
    have heb : (ne != 0) = true := by simpa using hne
    clear hx hne hcap hcap2
    go_enter Try.func48, Try.ntmps48
    go_wp2_with fail
    refine (rnetNew_any most _).mono ?_
    rw [HR.out]
    rintro e w1 ⟨rfl, hb1⟩
    replace E := E.step hb1
    obtain ⟨q2, f2, t2⟩ := E.rules m0
    have s1 := E.base
    go_wp2
    rw [HX.out]
    have G := (((E.at_ m0).set2 (x := .int .i64 0) (y := .slice none 0 0)).alloc (.cells #[.int .i64 0, .slice none 0 0] 38)).rules
    refine bodyPost_ret (v := .tuple #[.agg #[.int .i64 0, .slice none 0 0], .int .i64 ne]) (by simp [results, Try.results48, go_sem, G.1]) rfl ⟨none, 0, rfl, OwnR.nil_ _ _ _ _, ?_⟩
    exact (below_set2 E.below (Nat.le_refl _)).alloc (by rw [size_set2]; exact s1) _
end Go.Proofs.Ytbjgemipmlimoaa
