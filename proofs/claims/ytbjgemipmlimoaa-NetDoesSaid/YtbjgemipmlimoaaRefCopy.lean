/- The walk of quicksetref13.Copy. -/
import Derived.Test.YtbjgemipmlimoaaNetPlain
import Derived.Test.YtbjgemipmlimoaaMsgAt
import Derived.Deep.DeepCutAuto
namespace Go.Proofs.Ytbjgemipmlimoaa
open Go.RowKit

theorem IsM.parts {w : World} {K : Nat → Prop} {m : Ms} {A1 : Option Addr} {c1 : Nat} {A2 : Option Addr} {c2 : Nat} (h : IsM w K (mv m A1 c1 A2 c2) m) :
    Reads w K 1 A1 m.args.length (m.args.map I64) ∧ Reads w K 1 A2 m.data.length (cells8 m.data) ∧ I63 m.args ∧ I63 [m.kind, m.frm, m.to, m.id] := by
  have h63 := h.i63
  obtain ⟨B1, d1, B2, d2, e, h1, h2, h3⟩ := h
  unfold mv at e
  simp only [Value.agg.injEq, Array.mk.injEq, List.cons.injEq, Value.slice.injEq, true_and, and_true] at e
  obtain ⟨⟨rfl, rfl⟩, rfl, rfl⟩ := e
  obtain ⟨_, ⟨cs, hr, hc⟩, _⟩ := h1.open_
  obtain ⟨rfl, _⟩ := ints_cells hc
  obtain ⟨_, hr2, _⟩ := h2.open_
  exact ⟨hr, hr2, h63, h3⟩
theorem I64s_one (l : List Int) : ∀ u ∈ l.map I64, u.oneCell' = true := by
  intro u hu; simp only [List.mem_map] at hu; obtain ⟨x, _, rfl⟩ := hu; rfl
set_option maxRecDepth 100000 in
set_option maxHeartbeats 4000000 in
theorem rcopy_any (v : Value) (l : List Ms) (K : Nat → Prop) (w : World) (hv : IsL Rp.msg w K v l) (hl : ∀ m ∈ l, m.args.length ≤ 17592186043904) (hl8 : l.length ≤ 1000000000000) :
    Calls Try.prog 49 #[v] w fun e w' => ∃ A' c', e = .returned (.slice A' l.length c') ∧ OwnR Rp.msg w' w.heap.size 45 (fun b => w.heap.size ≤ b) (.slice A' l.length c') l ∧ Below w.heap.size w w' := by
  obtain ⟨i0, hi, hz0, hz1, hz2⟩ := info_parts Try.infM
  obtain ⟨ii, hii, hzi0, hzi1, hzi2⟩ := info_parts Try.infInt
  obtain ⟨ib, hib, hzb0, hzb1, hzb2⟩ := info_parts Try.info5
  have hlens := hv.lens
  have HLENS := Lib.hid hlens; clear hlens
  have hv0 := hv
  obtain ⟨A, c, rfl, hlc, hcc⟩ := hv.form
  clear hv
  go_enter Try.func49, Try.ntmps49
  go_wp2
  go_loopw [3, 5, 8] (fun a x5 i wr => (∃ (j : Nat) (A3 : Option Addr) (c3 : Nat), i = .int .i64 j ∧ j ≤ l.length ∧ a = .slice A3 j c3 ∧ OwnR Rp.msg wr w.heap.size 45 (fun b => w.heap.size ≤ b) (.slice A3 j c3) (l.take j) ∧ Below w.heap.size w wr) ∧ (∃ y5, x5 = y5)) (fun _ _ i _ => l.length - (intOf i).toNat)
  case atStart => exact ⟨⟨0, none, 0, rfl, Nat.zero_le _, rfl, OwnR.nil_ _ _ _ _, Below.refl _ _⟩, _, rfl⟩
  case round =>
    obtain ⟨⟨j, A3, c3, rfl, hj, rfl, hown, hb⟩, y5, rfl⟩ := hrel
    by_cases hlt : j < l.length
    case neg =>
      obtain rfl : j = l.length := by omega
      go_wp2
      go_ret
      rw [List.take_length] at hown
      exact ⟨A3, c3, rfl, hown, hb⟩
    have htk : l.take (j + 1) = l.take j ++ [l[j]] := List.take_succ_eq_append_getElem hlt
    have hml := hl l[j] (List.getElem_mem hlt)
    have hlen := HLENS.out l[j] (List.getElem_mem hlt)
    obtain ⟨ad, A1, c1, A2, c2, rfl, hadb, him, hc0, hc1, hc2, hc3, hc4, hc5⟩ := (hv0.step hb).msg_at (List.getElem?_eq_getElem hlt)
    generalize l[j] = m at him hc0 hc1 hc2 hc3 hc4 hc5 htk hml hlen
    have HTK := Lib.hid htk
    clear htk
    have hrow := OwnR.rowlt hown
    have hown1 := hown.more (X' := fun b => w.heap.size ≤ b ∧ b < wr.heap.size) (fun b h1 h2 => ⟨h1, h2⟩)
    have hne : (Value.slice A3 j c3).ownBlock ≠ some wr.heap.size := fun e => by have := hrow _ e; omega
    have HROW := Lib.hid hrow; have HNE := Lib.hid hne
    clear hrow hne hown
    have him1 := him.lt
    have hsz := hb.size
    have F := (Kn.start wr).push 45 #[.int .i64 m.kind, .int .i64 m.frm, .int .i64 m.to, .int .i64 m.id, .slice A1 m.args.length c1, .slice A2 m.data.length c2]
    obtain ⟨-, -, ha63, hh63⟩ := him.parts
    have HA63 := Lib.hid ha63; have HH63 := Lib.hid hh63; have HIM := Lib.hid him1; have HOWN := Lib.hid hown1
    clear him him1 hown1 ha63 hh63
    go_upto_region 5 with fail
    generalize hw4 : wr.alloc (.cells #[.int .i64 m.kind, .int .i64 m.frm, .int .i64 m.to, .int .i64 m.id, .slice A1 m.args.length c1, .slice A2 m.data.length c2] 45) = w4 at F ⊢
    clear hw4 hc0 hc1 hc2 hc3 hc4 hc5
    have B4 := F.at_ m0
    have b4 := F.below
    obtain ⟨q4, f4, t4⟩ := F.rules m0
    clear F
    have hr4 := (IsM.parts (HIM.out.step b4)).1
    go_upto_region 6 with (at_builtin; refine wpList_appN rfl (.const (.slice none 0 0)) (.tmp 13) _ rfl w4.heap.size 3 ii _ 1 8 Try.underlying43 hii hzi0 hzi1 hzi2 rfl (by omega) rfl (World.ownsRow_nil _ _ _ _) rfl hr4 (I64s_one _) (by simp only [maxLen]; omega) (by omega) (Nat.le_refl _) ?_; intro A5 c5 w5 own5 hg5; have B5 := B4.step hg5.below; obtain ⟨q5, f5⟩ := B5.rules; have t5 := B5.lt)
    simp only [Nat.zero_add, List.nil_append] at own5
    have b6 := (b4.trans (hg5.below.mono (Nat.le_of_lt t4))).setCell (p := ⟨wr.heap.size, 4, none⟩) (Nat.le_refl _) (.slice A5 m.args.length c5)
    have B6 := B5.set_ 4 (.slice A5 m.args.length c5)
    have own6 := own_base (own_setBlk own5 B5 (by decide) 4 (.slice A5 m.args.length c5)) (Nat.le_of_lt t4)
    clear q5 f5 t5 B5 own5 hg5 hr4 q4 f4 t4 B4 b4
    generalize hw6 : w5.setCell ⟨wr.heap.size, 4, none⟩ (.slice A5 m.args.length c5) = w6 at b6 B6 own6 ⊢
    clear hw6
    obtain ⟨q6, f6⟩ := B6.rules
    have t6 := B6.lt
    have hr6 := (IsM.parts (HIM.out.step b6)).2.1
    go_upto_region 7 with (at_builtin; refine wpList_appN rfl (.const (.slice none 0 0)) (.tmp 17) _ rfl w6.heap.size 5 ib _ 1 1 Try.underlying24 hib hzb0 hzb1 hzb2 rfl (by omega) rfl (World.ownsRow_nil _ _ _ _) rfl hr6 (cells8_one _) (by simp only [maxLen]; omega) (by omega) (Nat.le_refl _) ?_; intro A6 c6 w7 own7 hg7; have B7 := B6.step hg7.below; obtain ⟨q7, f7⟩ := B7.rules; have t7 := B7.lt)
    simp only [Nat.zero_add, List.nil_append] at own7
    have b8 := (b6.trans (hg7.below.mono (Nat.le_of_lt t6))).setCell (p := ⟨wr.heap.size, 5, none⟩) (Nat.le_refl _) (.slice A6 m.data.length c6)
    have B8 := B7.set_ 5 (.slice A6 m.data.length c6)
    have own8 := own_base (own_setBlk own7 B7 (by decide) 5 (.slice A6 m.data.length c6)) (Nat.le_of_lt t6)
    have own8a := own_setBlk (own_below own6 hg7.below (Nat.le_refl _)) B7 (by decide) 5 (.slice A6 m.data.length c6)
    clear q7 f7 t7 B7 own7 hg7 hr6 q6 f6 t6 B6 own6 b6
    generalize hw8 : w7.setCell ⟨wr.heap.size, 5, none⟩ (.slice A6 m.data.length c6) = w8 at b8 B8 own8 own8a ⊢
    clear hw8
    replace B8 : Blk w8 wr.heap.size 45 #[.int .i64 m.kind, .int .i64 m.frm, .int .i64 m.to, .int .i64 m.id, .slice A5 m.args.length c5, .slice A6 m.data.length c6] := B8
    obtain ⟨q8, f8⟩ := B8.rules
    have t8 := B8.lt
    have him8 : IsM w8 (fun b => wr.heap.size ≤ b) (mv m A5 c5 A6 c6) m := ⟨A5, c5, A6, c6, rfl, IsL.of_ints own8a HA63.out (by omega), IsB.of_own own8 (by omega), HH63.out⟩
    have HIM8 := Lib.hid him8.lt
    have hlenj : (l.take j).length = j := by rw [List.length_take]; omega
    obtain ⟨-, cs, own5, cl5⟩ := (OwnR.step HOWN.out b8).open_
    rw [hlenj] at own5 cl5
    replace own5 : w8.ownsRow w.heap.size 45 6 (.slice A3 j c3) j cs := own5
    have HCL := Lib.hid cl5; have HLENJ := Lib.hid hlenj
    have hsz8 : w.heap.size ≤ w8.heap.size := Nat.le_trans hsz b8.size
    have hbw := hb.trans (b8.mono hsz)
    clear him8 cl5 hlenj own8 own8a
    go_wp2_with (at_builtin; refine wpList_appN rfl (.tmp 20) (.tmp 22) _ rfl w.heap.size 45 i0 _ 6 80 Try.underlying35 hi hz0 hz1 hz2 rfl (by omega) rfl (own5.alloc _) rfl (Reads.new (xs := cellsM m A5 c5 A6 c6) (n := 1) rfl rfl rfl) cellsM_one (by simp only [maxLen]; omega) (by omega) (by simp; omega) ?_; intro A9 c9 w9 own9 hg9)
    go_roundw
    case rel =>
      refine ⟨⟨j + 1, A9, c9, by go_num, by omega, rfl, ?_, (hbw.alloc hsz8 _).trans hg9.below⟩, _, rfl⟩
      rw [HTK.out]
      refine OwnR.put HLENJ.out (HCL.out.more fun b hb => ⟨hb.1.1, hb.2⟩) (HIM8.out.more fun b hb => ⟨Nat.le_trans hsz hb.1, hb.2, fun e => ?_⟩) own9 hg9
      have := (HROW.out b e.symm).2
      have := hb.1
      omega
    case measure => simp [intOf]; omega
end Go.Proofs.Ytbjgemipmlimoaa
