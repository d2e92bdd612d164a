/- The walks of wire.Nums, Vec. -/
import Derived.Test.YtbjgemipmlimoaaWirePlain
import Derived.Test.YtbjgemipmlimoaaRep
import Derived.Test.YtbjgemipmlimoaaBytes
import Derived.Test.YtbjgemipmlimoaaAppBig
namespace Go.Proofs.Ytbjgemipmlimoaa
open Go.RowKit

/-- numbers' bytes one behind the other -/
def flatN (l : List Int) : List UInt8 := (l.map fun n => putL n.toNat).flatten
/-- what Nums answers -/
def numsL (l : List Int) : List UInt8 × Int := if ∀ n ∈ l, 0 ≤ n then (flatN l, 0) else ([], 1)
/-- what Vec answers -/
def vecL (l : List UInt8) : List UInt8 × Int := if l.length ≤ 65536 then (putL l.length ++ l, 0) else ([], 2)

theorem flatN_snoc (l : List Int) {j : Nat} (h : j < l.length) : flatN (l.take (j + 1)) = flatN (l.take j) ++ putL l[j].toNat := by
  unfold flatN
  rw [List.take_succ_eq_append_getElem h, List.map_append, List.flatten_append]
  simp
theorem flatN_append (l m : List Int) : flatN (l ++ m) = flatN l ++ flatN m := by simp [flatN]
theorem flatN_len {l : List Int} (h : I63 l) : (flatN l).length ≤ 10 * l.length := by
  induction l with
  | nil => simp [flatN]
  | cons n l ih =>
    have h1 := ih fun m hm => h m (List.mem_cons_of_mem _ hm)
    have h2 := putL_len10 (n := n.toNat) (by have := h n (List.mem_cons_self ..); omega)
    unfold flatN at h1 ⊢
    simp only [List.map_cons, List.flatten_cons, List.length_append, List.length_cons]
    omega

set_option maxRecDepth 100000 in
set_option maxHeartbeats 1000000 in
theorem wnums_any (v : Value) (l : List Int) (K : Nat → Prop) (w : World) (hv : IsL Rp.int w K v l) (hl : l.length ≤ 17592186043909) :
    Calls Try.prog 34 #[v] w fun e w' => ∃ A' c', e = .returned (.tuple #[.slice A' (numsL l).1.length c', .int .i64 (numsL l).2]) ∧
      w'.ownsRow w.heap.size 5 1 (.slice A' (numsL l).1.length c') (numsL l).1.length (cells8 (numsL l).1) ∧ Below w.heap.size w w' := by
  obtain ⟨i0, hi, hz0, hz1, hz2⟩ := info_parts Try.info5
  have hv0 := hv
  obtain ⟨A, c, cs, rfl, hr, hcl, hlc, hcc, _⟩ := hv
  obtain ⟨rfl, h63⟩ := ints_cells hcl
  have hfl := fun j => flatN_len (l := l.take j) (fun n hn => h63 n (List.mem_of_mem_take hn))
  have HFL := Lib.hid hfl; clear hfl
  go_enter Try.func34, Try.ntmps34
  go_wp2
  go_loopw [4, 9] (fun b i wr => ∃ (j : Nat) (acc : List UInt8) (A4 : Option Addr) (c4 : Nat), i = .int .i64 j ∧ j ≤ l.length ∧ b = .slice A4 acc.length c4 ∧ wr.ownsRow w.heap.size 5 1 (.slice A4 acc.length c4) acc.length (cells8 acc) ∧ acc = flatN (l.take j) ∧
    (∀ n ∈ l.take j, 0 ≤ n) ∧ Below w.heap.size w wr) (fun _ i _ => l.length - (intOf i).toNat)
  case atStart => exact ⟨0, [], none, 0, rfl, Nat.zero_le _, rfl, World.ownsRow_nil _ _ _ _, rfl, by simp, Below.refl _ _⟩
  case round =>
    obtain ⟨j, acc, A4, c4, rfl, hj, rfl, hown, hacc, hpos, hb⟩ := hrel
    have hal : acc.length ≤ 175921860439090 := by rw [hacc]; have h1 := HFL.out j; have h2 := List.length_take_le j l; omega
    have HACC := Lib.hid hacc; clear hacc
    have HPOS := Lib.hid hpos; clear hpos
    have hsz := hb.size
    by_cases hlt : j < l.length
    · obtain ⟨ad, u, rfl, _, hu, hc⟩ := (hr.step hb).at_ hlt
      simp only [List.getElem?_map, List.getElem?_eq_getElem hlt, Option.map_some, Option.some.injEq] at hu
      subst hu
      unfold I64 at hc
      have hmem := h63 l[j] (List.getElem_mem hlt)
      have hsn := flatN_snoc l hlt
      have htk : l.take (j + 1) = l.take j ++ [l[j]] := List.take_succ_eq_append_getElem hlt
      have hmm : l[j] ∈ l := List.getElem_mem hlt
      generalize l[j] = n at hc hmem hsn htk hmm
      have HSN := Lib.hid hsn; clear hsn
      have HTK := Lib.hid htk; clear htk
      have HMM := Lib.hid hmm; clear hmm
      obtain ⟨-, hn63⟩ := hmem
      by_cases hneg : n < 0
      · go_wp2
        go_ret2
        have hx : numsL l = ([], 1) := if_neg (fun h => by have := h n HMM.out; omega)
        rw [hx]
        exact ⟨none, 0, rfl, World.ownsRow_nil _ _ _ _, hb⟩
      · obtain ⟨k, rfl⟩ : ∃ k : Nat, n = (k : Int) := ⟨n.toNat, by omega⟩
        have hp10 : (putL k).length ≤ 10 := putL_len10 (by omega)
        have hput := fun W => put_any k hp10 W
        have HPUT := Lib.hid hput; clear hput
        rw [Int.toNat_natCast] at HSN
        generalize putL k = pk at hp10 HPUT HSN
        go_wp2_with (first
          | (go_at_call 15; refine (HPUT.out _).mono ?_; rintro e w1 ⟨A5, c5, rfl, own5, hb5⟩; have own4 := own_below hown hb5 (Nat.le_refl _); have hr5 := Reads.of_own own5; have hs5 := hb5.size)
          | (at_builtin; refine wpList_appBig rfl (.tmp 15) (.tmp 18) _ rfl w.heap.size 5 i0 _ Try.underlying24 hi hz0 hz1 hz2 rfl rfl own4 rfl hr5 (cells8_one _) (by omega) (by omega) ?_; intro A6 c6 w2 own6 hg6))
        go_roundw
        case rel =>
          refine ⟨j + 1, acc ++ pk, A6, c6, by go_num, by omega, by simp, ?_, by rw [HSN.out, HACC.out], ?_, (hb.trans (hb5.mono hsz)).trans hg6.below⟩
          · rw [List.length_append, cells8_append]; exact own6
          · rw [HTK.out]
            intro n hn
            rcases List.mem_append.1 hn with hn | hn
            · exact HPOS.out n hn
            · rw [List.mem_singleton.1 hn]; omega
        case measure => simp [intOf]; omega
    · obtain rfl : j = l.length := by omega
      have hx : numsL l = (acc, 0) := by
        have h1 := HPOS.out; have h2 := HACC.out
        rw [List.take_length] at h1 h2
        rw [h2]
        exact if_pos h1
      have HX := Lib.hid hx; clear hx
      go_wp2
      go_ret2
      rw [HX.out]
      exact ⟨A4, c4, rfl, hown, hb⟩

set_option maxRecDepth 100000 in
set_option maxHeartbeats 1000000 in
theorem wvec_any (v : Value) (l : List UInt8) (K : Nat → Prop) (w : World) (hv : IsB w K v l) :
    Calls Try.prog 35 #[v] w fun e w' => ∃ A' c', e = .returned (.tuple #[.slice A' (vecL l).1.length c', .int .i64 (vecL l).2]) ∧
      w'.ownsRow w.heap.size 5 1 (.slice A' (vecL l).1.length c') (vecL l).1.length (cells8 (vecL l).1) ∧ Below w.heap.size w w' := by
  have hv0 := hv
  obtain ⟨A, c, rfl, hr, hlc, hcc, _⟩ := hv
  unfold vecL
  by_cases h : l.length ≤ 65536
  · rw [if_pos h]
    have hp10 : (putL l.length).length ≤ 10 := putL_len10 (by omega)
    have hput := fun W => put_any l.length hp10 W
    have HPUT := Lib.hid hput; clear hput
    generalize putL l.length = pk at hp10 HPUT
    go_enter Try.func35, Try.ntmps35
    go_wp2_with fail
    refine (HPUT.out _).mono ?_
    rintro e w1 ⟨A5, c5, rfl, own5, hb5⟩
    have hr5 := (Reads.of_own own5).alloc (.cells #[.slice A5 pk.length c5, .slice A l.length c] 24)
    have hr6 := (hr.step hb5).alloc (.cells #[.slice A5 pk.length c5, .slice A l.length c] 24)
    go_wp2_with fail
    refine (concatB_two w1.heap.size c5 c A5 A pk l (fun _ => True) _ ((Reads.new rfl rfl rfl).more (fun _ _ => trivial)) (hr5.more (fun _ _ => trivial)) (hr6.more (fun _ _ => trivial)) (by omega)).mono ?_
    rintro e w2 ⟨A7, c7, rfl, own7, hb7⟩
    go_wp2
    go_ret2
    exact ⟨A7, c7, by rw [List.length_append]; rfl, own_base own7 (by have := hb5.size; simp; omega), (hb5.alloc hb5.size _).trans (hb7.mono (by have := hb5.size; simp; omega))⟩
  · rw [if_neg h]
    have h' : (65536 : Int) < (l.length : Int) := by omega
    go_enter Try.func35, Try.ntmps35
    go_wp2
    go_ret2
    exact ⟨none, 0, rfl, World.ownsRow_nil _ _ _ _, Below.refl _ _⟩
end Go.Proofs.Ytbjgemipmlimoaa
