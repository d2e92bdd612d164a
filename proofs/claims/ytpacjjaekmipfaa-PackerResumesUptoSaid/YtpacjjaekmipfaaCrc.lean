/- The walks of crc.New, go1, Sum. -/
import Derived.Test.YtpacjjaekmipfaaCrcOnce
import Derived.Test.YtpacjjaekmipfaaBytes
namespace Go.Proofs.Ytpacjjaekmipfaa
open Go.RowKit

/-- block g is a table that serves -/
def TabOk (w : World) (g : Nat) : Prop := ∃ n t u, TabC w g n 0 t u ∧ (n = 0 ∨ n = 1 ∧ ∀ i, i < 256 → t i = tabC i)
theorem TabC.step {w w' : World} {g : Nat} {n s : Int} {t : Nat → Nat} {u : Int} (h : TabC w g n s t u) (hb : Below w.heap.size w w') : TabC w' g n s t u := by
  have hc : ∀ o, w'.cell? ⟨g, o, none⟩ = w.cell? ⟨g, o, none⟩ := fun o => hb.cell h.lt
  have hf : ∀ o, w'.frozen? ⟨g, o, none⟩ = w.frozen? ⟨g, o, none⟩ := fun o => World.frozen?_of_block (hb.block g h.lt)
  exact ⟨Nat.lt_of_lt_of_le h.lt hb.size, fun o => (hf o).trans (h.free o), (hc _).trans h.done, (hc _).trans h.lock, fun i hi => (hc _).trans (h.tab i hi), (hc _).trans h.used⟩
theorem TabOk.step {w w' : World} {g : Nat} (h : TabOk w g) (hb : Below w.heap.size w w') : TabOk w' g := by
  obtain ⟨n, t, u, h1, h2⟩ := h; exact ⟨n, t, u, h1.step hb, h2⟩
theorem TabOk.lt {w : World} {g : Nat} (h : TabOk w g) : g < w.heap.size := by obtain ⟨n, t, u, h1, h2⟩ := h; exact h1.lt

def isZ32 : Option Value → Bool
  | some (.int .u32 n) => n == 0
  | _ => false
theorem isZ32_eq {o : Option Value} (h : isZ32 o = true) : o = some (.int .u32 0) := by
  unfold isZ32 at h
  split at h
  · rename_i n; rw [eq_of_beq h]
  · cases h
theorem zero_tab : (List.range 256).all (fun i => isZ32 (Try.zeroCells116[3 + i]?)) = true := by kernel_rfl

set_option maxRecDepth 100000 in
set_option maxHeartbeats 1600000 in
theorem new_any (w : World) : Calls Try.prog 44 #[] w fun e w' => e = .returned (.pointer (some ⟨w.heap.size, 0, none⟩)) ∧ TabOk w' w.heap.size ∧ Below w.heap.size w w' := by
  go_enter Try.func44, Try.ntmps44
  go_wp2
  go_ret
  have hB := Blk.new w 116 Try.zeroCells116 rfl
  refine ⟨rfl, ⟨0, fun _ => 0, 0, ⟨hB.lt, hB.frozen, (hB.cell 0).trans (by kernel_rfl), (hB.cell 1).trans (by kernel_rfl), fun i hi => (hB.cell _).trans (isZ32_eq (List.all_eq_true.1 zero_tab i (List.mem_range.2 hi))), (hB.cell 259).trans (by kernel_rfl)⟩, .inl rfl⟩, (Below.refl _ _).alloc (Nat.le_refl _) _⟩

set_option maxRecDepth 100000 in
set_option maxHeartbeats 1600000 in
theorem go1_any (g : Nat) (r0 : Nat) (v : Value) (b : List UInt8) (K : Nat → Prop) (w : World) (hT : TabOk w g) (hv : IsB w K v b) (hK : ∀ k, K k → k ≠ g) (hr : r0 < 4294967296) :
    Calls Try.prog 53 #[.pointer (some ⟨g, 0, none⟩), .int .u32 r0, v] w fun e w' => e = .returned (.int .u32 (b.foldl goC r0 : Nat)) ∧ TabOk w' g ∧ Turned w w' (· = g) := by
  have hmf : ∀ (fn : Fn) (first cap : Array Value) (w : World), (Instr.makeFunc fn first cap).run Try.prog w = .ok (.func fn first cap) w := fun _ _ _ _ => rfl
  obtain ⟨n, t, u, hT1, hn⟩ := hT
  have hv0 := hv
  obtain ⟨A, c, rfl, hrd, hlc, hcc, hl47⟩ := hv
  go_enter Try.func53, Try.ntmps53
  go_wp2_with (go_at_call 58; refine (once_any g n t u _ hT1 hn).mono ?_; rintro e w1 ⟨rfl, hT2, hb2⟩)
  have hv1 := hv0.turned hb2 hK
  go_wp2
  go_loopw [1, 17] (fun r i wr => ∃ (j : Nat), r = .int .u32 ((b.take j).foldl goC r0 : Nat) ∧ i = .int .i64 j ∧ j ≤ b.length ∧ wr = w1) (fun _ i _ => b.length - (intOf i).toNat)
  case atStart => exact ⟨0, by simp, rfl, by omega, rfl⟩
  case round =>
    obtain ⟨j, rfl, rfl, hj, rfl⟩ := hrel
    by_cases hlt : j < b.length
    · have hlow := fold_lt (b.take j) r0 hr
      obtain ⟨A', c', hA', hrd1, _⟩ := hv1
      injection hA' with e1 e2 e3
      subst e1
      obtain ⟨ad, x, rfl, hbB, hu, hc⟩ := hrd1.at_ hlt
      simp only [cells8, List.getElem?_map, List.getElem?_eq_getElem hlt, Option.map_some, Option.some.injEq] at hu
      subst hu
      unfold B8 at hc
      have hx2 : (b[j].toNat) < 256 := UInt8.toNat_lt _
      have htk : b.take (j + 1) = b.take j ++ [b[j]] := by rw [List.take_add_one, List.getElem?_eq_getElem hlt]; rfl
      have hgo : (b.take (j + 1)).foldl goC r0 = goC ((b.take j).foldl goC r0) b[j] := by rw [htk, List.foldl_append]; rfl
      generalize (b.take j).foldl goC r0 = r at hlow hgo
      have hix := low_lt r b[j]
      have hcell := hT2.tab _ hix
      have hix2 : bits BinOp.xor IntKind.u8 ((r : Int) % 256) (b[j].toNat : Int) = (((r % 256) ^^^ b[j].toNat : Nat) : Int) := by
        rw [show (r : Int) % 256 = ((r % 256 : Nat) : Int) by omega, u8_xor_nat _ _ (by omega) hx2]
      generalize hxi : (r % 256) ^^^ b[j].toNat = xi at hix hcell hix2
      have HGO := Lib.hid hgo; have HXI := Lib.hid hxi; clear hgo hxi htk
      go_wp2
      refine ⟨⟨j + 1, ?_, by go_num, by omega, trivial⟩, by simp [intOf]; omega⟩
      rw [HGO.out]
      unfold goC
      rw [HXI.out, show (r : Int) / 256 = ((r / 256 : Nat) : Int) by omega, u32_xor_nat _ _ (by omega) (tabC_lt (by omega))]
    · go_wp2
      obtain rfl : j = b.length := by omega
      go_ret
      rw [List.take_length]
      exact ⟨rfl, ⟨1, tabC, u, hT2, .inr ⟨rfl, fun _ _ => rfl⟩⟩, hb2⟩

set_option maxRecDepth 100000 in
theorem addU_any (a : Addr) (u : Int) (w : World) (hc : w.cell? a = some (.int .i64 u)) (hz : w.frozen? a = false) :
    Calls Try.prog 52 #[.pointer (some a), .int .i64 1] w fun e w' => ∃ u', e = .returned (.int .i64 u') ∧ w' = w.setCell a (.int .i64 u') := by
  have hadd := run_call_add (P := Try.prog) Try.func57 (by kernel_rfl) (by kernel_rfl) (by kernel_rfl) .i64 (by kernel_rfl) (y := 1) (s := IntKind.i64.wrap (u + 1)) hc hz (by simp [go_sem]; try rfl)
  go_enter Try.func52, Try.ntmps52
  go_wp2
  go_ret
  exact ⟨_, rfl, rfl⟩

set_option maxRecDepth 100000 in
set_option maxHeartbeats 1600000 in
theorem sum_any (g : Nat) (v : Value) (l : List (List UInt8)) (K : Nat → Prop) (w : World) (hT : TabOk w g) (hv : IsL Rp.bytes w K v l) (hK : ∀ k, K k → k ≠ g) :
    Calls Try.prog 46 #[.pointer (some ⟨g, 0, none⟩), v] w fun e w' => e = .returned (.int .u32 (crcL l.flatten : Nat)) ∧ TabOk w' g ∧ Turned w w' (· = g) := by
  obtain ⟨n, t, u, hT1, hn⟩ := hT
  have hv0 := hv
  obtain ⟨A, c, rfl, hlc, hcc⟩ := hv.form
  have hl47 := hv.len
  have hb1 : ∀ u', Turned w (w.setCell ⟨g, 259, none⟩ (.int .i64 u')) (· = g) := fun u' => (Turned.refl w (· = g)).set rfl _ _
  go_enter Try.func46, Try.ntmps46
  go_wp2_with (go_at_call 52; refine (addU_any ⟨g, 259, none⟩ u _ hT1.used (hT1.free 259)).mono ?_; rintro e w1 ⟨u1, rfl, rfl⟩)
  have hT2 := hT1.setU u1
  have hv2 := hv0.turned (hb1 u1) hK
  generalize hw1 : w.setCell ⟨g, 259, none⟩ (.int .i64 u1) = w1 at *
  go_loopw [5, 14] (fun r i wr => ∃ (j : Nat), r = .int .u32 ((l.take j).flatten.foldl goC 4294967295 : Nat) ∧ i = .int .i64 j ∧ j ≤ l.length ∧ TabOk wr g ∧ Turned w wr (· = g)) (fun _ i _ => l.length - (intOf i).toNat)
  case atStart => exact ⟨0, by simp, rfl, by omega, ⟨n, t, u1, hT2, hn⟩, by have := hb1 u1; rw [hw1] at this; exact this⟩
  case round =>
    obtain ⟨j, rfl, rfl, hj, hT3, hb3⟩ := hrel
    by_cases hlt : j < l.length
    · have hv3 := hv0.turned hb3 hK
      obtain ⟨ad, es, rfl, hKb, ⟨v', rfl, hvb⟩, hcs⟩ := hv3.at_ (i := j) (x := l[j]) (List.getElem?_eq_getElem hlt)
      have hcell := hcs 0 _ rfl
      have hsz1 : Rp.bytes.size = 1 := rfl
      rw [addr0, hsz1, Nat.mul_one] at hcell
      have htk : (l.take (j + 1)).flatten.foldl goC 4294967295 = l[j].foldl goC ((l.take j).flatten.foldl goC 4294967295) := by
        rw [List.take_add_one, List.getElem?_eq_getElem hlt, Option.toList_some, List.flatten_append, List.foldl_append]; simp
      have hr := fold_lt (l.take j).flatten 4294967295 (by omega)
      generalize (l.take j).flatten.foldl goC 4294967295 = r at htk hr
      have HTK := Lib.hid htk; clear htk hcs
      go_wp2_with (go_at_call 53; refine (go1_any g r v' l[j] K _ hT3 hvb hK hr).mono ?_; rintro e w4 ⟨rfl, hT4, hb4⟩)
      go_roundw
      case rel => exact ⟨j + 1, by rw [HTK.out], by go_num, by omega, hT4, hb3.trans hb4⟩
      case measure => simp [intOf]; omega
    · obtain rfl : j = l.length := by omega
      rw [List.take_length] at *
      have hr := fold_lt l.flatten 4294967295 (by omega)
      generalize hrr : l.flatten.foldl goC 4294967295 = r at *
      go_wp2
      go_ret
      refine ⟨?_, hT3, hb3⟩
      unfold crcL
      rw [hrr]
      simp
      exact u32_xor_nat 4294967295 r (by omega) hr
end Go.Proofs.Ytpacjjaekmipfaa
