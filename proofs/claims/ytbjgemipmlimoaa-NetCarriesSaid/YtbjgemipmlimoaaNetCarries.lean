/- What is known in NetCarries' rounds: the net's box, its queue, the three maps; and how each act turns it. -/
/- The walk of quicksetlaw13.NetCarries. -/
import Derived.Test.YtbjgemipmlimoaaNetAct
import Derived.Test.YtbjgemipmlimoaaNetCarryLaw
import Derived.Test.YtbjgemipmlimoaaAct13
import Derived.Test.YtbjgemipmlimoaaNetIO
import Derived.Test.YtbjgemipmlimoaaTurned
import Derived.Test.YtbjgemipmlimoaaMsgAt
import Derived.Deep.DeepCutAuto
import Derived.Maps.OwnOps
namespace Go.Proofs.Ytbjgemipmlimoaa
open Go.RowKit

theorem did_of_act {n : Nt} {o : An} (h : (actA n o).2.2.1 = 0) : (actA n o).1.cap = n.cap ∧ Did n.cap n.q o.d o.i o.l (actA n o).1.q (actA n o).2.2.2 (actA n o).2.1 := by
  unfold actA at h ⊢
  split at h
  · rename_i h0
    rw [if_pos h0]
    obtain ⟨t, h1, h2, h3, h4⟩ := sendQ_form n.cap o.l n.q 0
    refine ⟨rfl, .inl ⟨h0, t, h1, ?_, ?_, h3, h4⟩⟩
    · show (sendQ n.cap o.l n.q 0).1 = _; rw [h2]
    · show (((sendQ n.cap o.l n.q 0).2 : Nat) : Int) = _; rw [h2]; simp
  rename_i h0
  rw [if_neg h0]
  split at h
  · rename_i h1
    rw [if_pos h1]
    rcases atN_cases n o.i with ⟨k, m, hi, hm, ha, hr⟩ | ⟨_, ha⟩
    · unfold takeA; rw [ha]; exact ⟨rfl, .inr (.inl ⟨h1, k, hi, hm, hr⟩)⟩
    · unfold takeA at h; rw [ha] at h; simp at h
  rename_i h1
  rw [if_neg h1]
  split at h
  · rename_i h2
    rw [if_pos h2]
    rcases atN_cases n o.i with ⟨k, m, hi, hm, ha, hr⟩ | ⟨_, ha⟩
    · unfold dropA; rw [ha]; exact ⟨rfl, .inr (.inr (.inl ⟨h2, k, hr⟩))⟩
    · unfold dropA at h; rw [ha] at h; simp at h
  rename_i h2
  rw [if_neg h2]
  split at h
  · rename_i h3
    rw [if_pos h3]
    rcases atN_cases n o.i with ⟨k, m, hi, hm, ha, hr⟩ | ⟨_, ha⟩
    · unfold doubleA at h ⊢
      rw [ha] at h ⊢
      simp only at h ⊢
      split at h
      · rename_i hc
        simp only [if_pos hc]
        exact ⟨trivial, .inr (.inr (.inr (.inl ⟨h3, k, m, hi, hm, rfl, hc⟩)))⟩
      · simp at h
    · unfold doubleA at h; rw [ha] at h; simp at h
  rename_i h3
  rw [if_neg h3]
  split at h
  · rename_i h4
    rw [if_pos h4]
    rcases atN_cases n o.i with ⟨k, m, hi, hm, ha, hr⟩ | ⟨_, ha⟩
    · unfold laterA; rw [ha]
      refine ⟨rfl, .inr (.inr (.inr (.inr (.inl ⟨h4, k, m, hm, ?_⟩))))⟩
      show restN n o.i ++ [m] = _
      rw [hr]
    · unfold laterA at h; rw [ha] at h; simp at h
  rename_i h4
  rw [if_neg h4]
  exact ⟨rfl, .inr (.inr (.inr (.inr (.inr ⟨by omega, List.filter_sublist⟩))))⟩

/-- a message's key as bytes -/
def keyL (m : Ms) : List UInt8 := (msgL m).1
theorem keyB_list (m : Ms) : (keyB m).data.toList = keyL m := by simp [keyB, keyL]
theorem keyB_le {m : Ms} (h63 : I63 [m.kind, m.frm, m.to, m.id]) (ha : I63 m.args) : (keyB m).size ≤ maxLen := by
  have := msgL_len h63 ha
  have e : (keyB m).size = (msgL m).1.length := by simp [keyB, ByteArray.size]
  rw [e]; unfold maxLen; omega

theorem CellsL.ltM {w : World} {K : Nat → Prop} : ∀ {cs : List Value} {l : List Ms}, CellsL Rp.msg w K cs l → CellsL Rp.msg w (fun b => K b ∧ b < w.heap.size) cs l
  | _, [], h => h
  | _, _ :: _, ⟨c1, c2, e, h1, h2⟩ => by
    obtain ⟨A1, d1, A2, d2, e1, him⟩ := rp_isM h1
    exact ⟨c1, c2, e, by rw [e1]; exact isM_cells him.lt, h2.ltM⟩
theorem IsL.ltM {w : World} {K : Nat → Prop} {v : Value} {l : List Ms} (h : IsL Rp.msg w K v l) : IsL Rp.msg w (fun b => K b ∧ b < w.heap.size) v l := by
  obtain ⟨A, c, cs, e, h1, h2, h3⟩ := h
  exact ⟨A, c, cs, e, h1.lt (by decide), h2.ltM, h3⟩
/-- what is known in a round -/
structure CW (w wr : World) (g b8 b9 b10 : Nat) (M : Int) (A : Option Addr) (c : Nat) (q : List Ms) (nS nD nO : Nat) (S O : List UInt8 → Nat) (D : List UInt8 → Bool) : Prop where
  below : Below w.heap.size w wr
  net : Blk wr g 38 #[.int .i64 M, .slice A q.length c]
  q : IsL Rp.msg wr (fun b => b ≠ g ∧ b ≠ b8 ∧ b ≠ b9 ∧ b ≠ b10) (.slice A q.length c) q
  sent : CntM Try.prog 9 3 wr b8 nS S
  dbl : BoolM Try.prog 9 4 wr b9 nD D
  out : CntM Try.prog 9 3 wr b10 nO O
  base : w.heap.size ≤ g
  o1 : g < b8
  o2 : b8 < b9
  o3 : b9 < b10

theorem grown_turned {w w' : World} {b : Nat} (h : w.grownBy w' (some b)) : Turned w w' (· = b) := ⟨h.os, h.tape, h.output, h.size, fun k hk hn => h.block k hk (fun e => hn (by injection e))⟩
theorem turned_grown {w w' : World} {b : Nat} (h : Turned w w' (· = b)) : w.grownBy w' (some b) := ⟨h.os, h.tape, h.output, h.size, fun k hk hn => h.block k hk (fun e => hn (by rw [e]))⟩
section
variable {w wr w' : World} {g b8 b9 b10 : Nat} {M : Int} {A : Option Addr} {c : Nat} {q : List Ms} {nS nD nO : Nat} {S O : List UInt8 → Nat} {D : List UInt8 → Bool}
theorem CW.step (h : CW w wr g b8 b9 b10 M A c q nS nD nO S O D) (hb : Below wr.heap.size wr w') : CW w w' g b8 b9 b10 M A c q nS nD nO S O D :=
  ⟨h.below.trans (hb.mono h.below.size), h.net.step hb, h.q.step hb, h.sent.step hb, h.dbl.step hb, h.out.step hb, h.base, h.o1, h.o2, h.o3⟩
theorem CW.marked (h : CW w wr g b8 b9 b10 M A c q nS nD nO S O D) {n' : Nat} {D' : List UInt8 → Bool} (hm : BoolM Try.prog 9 4 w' b9 n' D') (hg : wr.grownBy w' (some b9)) : CW w w' g b8 b9 b10 M A c q nS n' nO S O D' := by
  have ht := grown_turned hg
  have h1 := h.base; have h2 := h.o1; have h3 := h.o2; have h4 := h.o3
  exact ⟨h.below.trans (ht.below (fun k hk => by omega) h.below.size), h.net.turned ht (by omega), h.q.turned ht (fun b hb => hb.2.2.1), h.sent.kept hg (by simp; omega), hm, h.out.kept hg (by simp; omega), h.base, h.o1, h.o2, h.o3⟩
theorem CW.counted (h : CW w wr g b8 b9 b10 M A c q nS nD nO S O D) {n' : Nat} {S' : List UInt8 → Nat} (hm : CntM Try.prog 9 3 w' b8 n' S') (hg : wr.grownBy w' (some b8)) : CW w w' g b8 b9 b10 M A c q n' nD nO S' O D := by
  have ht := grown_turned hg
  have h1 := h.base; have h2 := h.o1; have h3 := h.o2; have h4 := h.o3
  exact ⟨h.below.trans (ht.below (fun k hk => by omega) h.below.size), h.net.turned ht (by omega), h.q.turned ht (fun b hb => hb.2.1), hm, h.dbl.kept hg (by simp; omega), h.out.kept hg (by simp; omega), h.base, h.o1, h.o2, h.o3⟩
theorem CW.told (h : CW w wr g b8 b9 b10 M A c q nS nD nO S O D) {n' : Nat} {O' : List UInt8 → Nat} (hm : CntM Try.prog 9 3 w' b10 n' O') (hg : wr.grownBy w' (some b10)) : CW w w' g b8 b9 b10 M A c q nS nD n' S O' D := by
  have ht := grown_turned hg
  have h1 := h.base; have h2 := h.o1; have h3 := h.o2; have h4 := h.o3
  exact ⟨h.below.trans (ht.below (fun k hk => by omega) h.below.size), h.net.turned ht (by omega), h.q.turned ht (fun b hb => hb.2.2.2), h.sent.kept hg (by simp; omega), h.dbl.kept hg (by simp; omega), hm, h.base, h.o1, h.o2, h.o3⟩
/-- another net is stored -/
theorem CW.set (h : CW w wr g b8 b9 b10 M A c q nS nD nO S O D) {A' : Option Addr} {c' : Nat} {q' : List Ms} (hq : IsL Rp.msg wr (fun b => b ≠ g ∧ b ≠ b8 ∧ b ≠ b9 ∧ b ≠ b10) (.slice A' q'.length c') q') :
    CW w ((wr.setCell ⟨g, 0, none⟩ (.int .i64 M)).setCell ⟨g, 1, none⟩ (.slice A' q'.length c')) g b8 b9 b10 M A' c' q' nS nD nO S O D := by
  have h1 := h.base; have h2 := h.o1; have h3 := h.o2; have h4 := h.o3
  have ht : Turned wr ((wr.setCell ⟨g, 0, none⟩ (.int .i64 M)).setCell ⟨g, 1, none⟩ (.slice A' q'.length c')) (· = g) := ((Turned.refl wr (· = g)).set (g := g) rfl _ _).set (g := g) rfl _ _
  have hg := turned_grown ht
  exact ⟨below_set2 h.below h.base, h.net.set2, hq.turned ht (fun b hb => hb.1), h.sent.kept hg (by simp; omega), h.dbl.kept hg (by simp; omega), h.out.kept hg (by simp; omega), h.base, h.o1, h.o2, h.o3⟩
end
theorem cntM_congr {P : Program} {k e : TypeId} {w : World} {b n : Nat} {f f' : List UInt8 → Nat} (h : CntM P k e w b n f) (he : ∀ s, f s = f' s) : CntM P k e w b n f' := by
  rw [← funext he]; exact h
/-- what an act without an error does to the counts -/
theorem carry_did {cap j : Nat} {q : List Ms} {S O : List UInt8 → Nat} {D : List UInt8 → Bool} {d i : Int} {ol q' : List Ms} {k : Int} {x : Ms} (h : Did cap q d i ol q' k x) (hc : Carry keyL cap j q S O D)
    (hd : d = 3 → 0 ≤ i → i < (q.length : Int) → ∀ m, q[i.toNat]? = some m → D (keyL m) = true) :
    (d = 0 ∧ ∃ t, q' = q ++ t ∧ k = (t.length : Int) ∧ t.length ≤ ol.length ∧ Carry keyL cap (j + 1) q' (fun s => S s + cntK keyL t s) O D) ∨ (d = 1 ∧ x ∈ q ∧ Carry keyL cap (j + 1) q' S (fun s => O s + one keyL x s) D) ∨
      (d ≠ 0 ∧ d ≠ 1 ∧ Carry keyL cap (j + 1) q' S O D) := by
  rcases h with ⟨h0, t, h1, rfl, h2, _, h3⟩ | ⟨h0, k, hi, hm, rfl⟩ | ⟨h0, k, rfl⟩ | ⟨h0, k, m, hi, hm, rfl, hl⟩ | ⟨h0, k, m, hm, rfl⟩ | ⟨h0, hs⟩
  · exact .inl ⟨h0, t, rfl, h2, h1.length_le, hc.send (by have := hc.len; have := h3 (by omega); omega)⟩
  · exact .inr (.inl ⟨h0, List.mem_of_getElem? hm, hc.take hm⟩)
  · exact .inr (.inr ⟨by omega, by omega, hc.drop k⟩)
  · have hk := (List.getElem?_eq_some_iff.1 hm).1
    exact .inr (.inr ⟨by omega, by omega, hc.double hm (hd h0 (by omega) (by omega) m (by rw [hi]; exact hm)) (by omega)⟩)
  · exact .inr (.inr ⟨by omega, by omega, hc.later hm⟩)
  · exact .inr (.inr ⟨by omega, by omega, hc.lose hs⟩)
end Go.Proofs.Ytbjgemipmlimoaa
namespace Go.Proofs.Ytbjgemipmlimoaa
open Go.RowKit Go.Maps

/-- what the rounds hand on -/
def CarRel (w wr : World) (g M : Nat) (l : List An) (i : Value) : Prop :=
  ∃ (j : Nat) (A6 : Option Addr) (c6 : Nat) (q : List Ms) (nS nD nO : Nat) (S O : List UInt8 → Nat) (D : List UInt8 → Bool), i = .int .i64 j ∧ j ≤ l.length ∧
    CW w wr g (g + 1) (g + 1 + 1) (g + 1 + 1 + 1) M A6 c6 q nS nD nO S O D ∧ (nS ≤ M * j ∧ nD ≤ j ∧ nO ≤ j) ∧ Carry keyL M j q S O D ∧ ∀ m ∈ q, okB m = true

/-- an operation whose guard says yes -/
theorem wpList_free {P : Program} {ops : Array Oper} {Q : Exit → Act → World → Prop} {a : Act} {w : World} {rest : List Oper} {o : Oper}
    (hw : Region.wanted o (yielded ops a.tmps) = true) (h : wpList P ops Q ({ o with guard := none } :: rest) a w) : wpList P ops Q (o :: rest) a w := by
  unfold wpList at h ⊢
  rw [if_pos hw]
  rw [if_pos (by simp [Region.wanted])] at h
  exact h

set_option maxRecDepth 100000 in
set_option maxHeartbeats 8000000 in
theorem netCarries_any (v : Value) (most0 : Int) (l : List An) (w : World) (hv : IsL Rp.an w (· < w.heap.size) v l) :
    Calls Try.prog 10 #[.int .i64 most0, v] w fun e w' => e = .returned (.bool true) ∧ Below w.heap.size w w' := by
  have hv0 := hv
  obtain ⟨A, c, rfl, hlc, hcc⟩ := hv.form
  have hlen := hv.len
  have E := (Kn.start w).give Stable.list hv0
  obtain ⟨fw, hfw⟩ : ∃ fw, fewL l = fw := ⟨_, rfl⟩
  have hl100 : fw = true → l.length ≤ 100 := by
    intro h; rw [h] at hfw; unfold fewL at hfw; simp at hfw; omega
  have hbig : fw = true → ∀ o ∈ l, bigL o.l = false := by
    intro h; rw [h] at hfw; unfold fewL at hfw; simp at hfw; exact hfw.1
  have HF := Lib.hid hfw; clear hfw
  cases fw
  · clear hl100 hbig
    go_enter Try.func10, Try.ntmps10
    go_wp2_with fail
    refine (live13_any _).mono ?_
    rintro e w1 ⟨rfl, hb1⟩
    replace E := E.step hb1
    go_wp2_with fail
    refine (few13_any _ l _ w1 (E.get m0)).mono ?_
    rw [HF.out]
    rintro e w2 ⟨rfl, hb2⟩
    replace E := E.step hb2
    go_wp2
    go_ret
    exact ⟨rfl, E.below⟩
  · replace hl100 := hl100 rfl
    replace hbig := Lib.hid (hbig rfl)
    go_enter Try.func10, Try.ntmps10
    go_wp2_with fail
    refine (live13_any _).mono ?_
    rintro e w1 ⟨rfl, hb1⟩
    replace E := E.step hb1
    go_wp2_with fail
    refine (few13_any _ l _ w1 (E.get m0)).mono ?_
    rw [HF.out]
    rintro e w2 ⟨rfl, hb2⟩
    replace E := E.step hb2
    clear hb1 hb2
    go_wp2_with fail
    have hmod := norm_mod most0 30 (by omega) (by omega)
    have hM : wrap64 (1 + (wrap64 (most0.tmod 30 + 30)).tmod 30) = 1 + (wrap64 (most0.tmod 30 + 30)).tmod 30 := by unfold wrap64 at hmod ⊢; omega
    have hM1 : 1 ≤ wrap64 (1 + (wrap64 (most0.tmod 30 + 30)).tmod 30) := by omega
    have hM2 : wrap64 (1 + (wrap64 (most0.tmod 30 + 30)).tmod 30) ≤ 30 := by omega
    clear hM hmod
    generalize wrap64 (1 + (wrap64 (most0.tmod 30 + 30)).tmod 30) = M at hM1 hM2 ⊢
    have hn1 : newN M = (M, 0) := if_pos ⟨hM1, by omega⟩
    have HN := Lib.hid hn1; clear hn1
    refine (netNew_any M _).mono ?_
    rw [HN.out]
    rintro e w3 ⟨rfl, hb3⟩
    have hg6 : w.heap.size ≤ w3.heap.size := (E.step hb3).below.size
    replace E := (E.step hb3).push 38 #[.int .i64 M, .slice none 0 0]
    clear hb3
    have hmm := @run_makeMap Try.prog
    go_wp2_with fail
    obtain ⟨Mn, rfl⟩ : ∃ n : Nat, M = (n : Int) := ⟨M.toNat, by omega⟩
    have C0 : CW w ((((w3.alloc (.cells #[.int .i64 (Mn : Int), .slice none 0 0] 38)).alloc (.map #[] 0)).alloc (.map #[] 0)).alloc (.map #[] 0)) w3.heap.size (w3.heap.size + 1) (w3.heap.size + 1 + 1) (w3.heap.size + 1 + 1 + 1) Mn none 0 [] 0 0 0 (fun _ => 0) (fun _ => 0) (fun _ => false) := by
      have F := ((E.alloc (.map #[] 0)).alloc (.map #[] 0)).alloc (.map #[] 0)
      have ha : ∀ W : World, Below W.heap.size W (W.alloc (.map #[] 0)) := fun W => (Below.refl _ _).alloc (Nat.le_refl _) _
      refine ⟨F.below, F.at_ m0, IsL.nil_ _ _, ?_, ?_, ?_, hg6, by omega, by omega, by omega⟩
      · have := ((CntM.made (P := Try.prog) (k := 9) (e := 3) (w3.alloc (.cells #[.int .i64 (Mn : Int), .slice none 0 0] 38))).step (ha _)).step (ha _)
        simpa using this
      · have := (BoolM.made (P := Try.prog) (k := 9) (e := 4) ((w3.alloc (.cells #[.int .i64 (Mn : Int), .slice none 0 0] 38)).alloc (.map #[] 0))).step (ha _)
        simpa using this
      · have := CntM.made (P := Try.prog) (k := 9) (e := 3) (((w3.alloc (.cells #[.int .i64 (Mn : Int), .slice none 0 0] 38)).alloc (.map #[] 0)).alloc (.map #[] 0))
        simpa using this
    generalize hw4 : (((w3.alloc (.cells #[.int .i64 (Mn : Int), .slice none 0 0] 38)).alloc (.map #[] 0)).alloc (.map #[] 0)).alloc (.map #[] 0) = w4 at C0 ⊢
    clear hw4 E hmm
    generalize w3.heap.size = g at C0 hg6 ⊢
    go_loopw [48] (fun i wr => CarRel w wr g Mn l i) (fun i _ => l.length - (intOf i).toNat)
    case atStart => exact ⟨0, none, 0, [], 0, 0, 0, _, _, _, rfl, Nat.zero_le _, C0, ⟨Nat.zero_le _, Nat.le_refl _, Nat.le_refl _⟩, Carry.start _, by simp⟩
    case round =>
      obtain ⟨j, A6, c6, q, nS, nD, nO, S, O, D, rfl, hj, C, ⟨hnS, hnD, hnO⟩, hcar, hok⟩ := hrel
      clear C0
      by_cases hlt : j < l.length
      · obtain ⟨ad, A1, c1, rfl, hadb, hl, hlb, hc0, hc1, hc2⟩ := (hv0.step C.below).an_at (List.getElem?_eq_getElem hlt)
        have hob : bigL l[j].l = false := hbig.out _ (List.getElem_mem hlt)
        generalize l[j] = o at hl hlb hc0 hc1 hc2 hob
        obtain ⟨d, i, ol⟩ := o
        simp only at hl hlb hc0 hc1 hc2 hob
        have HOB := Lib.hid hob; have HOK := Lib.hid hok; have HCAR := Lib.hid hcar
        clear hob hok hcar
        obtain ⟨wo, rfl⟩ : ∃ wo : World, wo = wr := ⟨_, rfl⟩
        go_upto_region 14 with fail
        have CB := C.net
        have CA := C.step ((Below.refl _ _).alloc (Nat.le_refl _) (.cells #[.int .i64 d, .int .i64 i, .slice A1 ol.length c1] 73))
        have OB := Blk.new wo 73 #[.int .i64 d, .int .i64 i, .slice A1 ol.length c1] rfl
        have gwo : g + 1 + 1 + 1 < wo.heap.size := C.out.lt
        obtain ⟨q6, f6⟩ := CA.net.rules
        obtain ⟨qo, fo⟩ := OB.rules
        obtain ⟨mk, hmk⟩ : ∃ mk, decide (d = 3 ∧ 0 ≤ i ∧ i < (q.length : Int)) = mk := ⟨_, rfl⟩
        have HMK := Lib.hid hmk
        go_cut [67] from 49 to 139 (fun s67 wx => s67 = .bool mk ∧ wx = wo.alloc (.cells #[.int .i64 d, .int .i64 i, .slice A1 ol.length c1] 73))
        case first =>
          by_cases h3 : d = 3
          · subst h3
            by_cases hi0 : 0 ≤ i
            · by_cases hiq : i < (q.length : Int)
              · have : mk = true := by rw [← hmk]; exact decide_eq_true ⟨rfl, hi0, hiq⟩
                subst this
                clear hmk
                go_wp2
                go_meet
                exact ⟨rfl, rfl⟩
              · have : mk = false := by rw [← hmk]; exact decide_eq_false (fun h => hiq h.2.2)
                subst this
                clear hmk
                go_wp2
                go_meet
                exact ⟨rfl, rfl⟩
            · have : mk = false := by rw [← hmk]; exact decide_eq_false (fun h => hi0 h.2.1)
              subst this
              clear hmk
              go_wp2
              go_meet
              exact ⟨rfl, rfl⟩
          · have : mk = false := by rw [← hmk]; exact decide_eq_false (fun h => h3 h.1)
            subst this
            clear hmk
            go_wp2
            go_meet
            exact ⟨rfl, rfl⟩
        obtain ⟨rfl, rfl⟩ := hcut
        have hmk2 := of_decide_eq_true (p := d = 3 ∧ 0 ≤ i ∧ i < (q.length : Int))
        rw [hmk] at hmk2
        clear hc0 hc1 hc2
        go_upto_if 67 with fail
        go_cut [67] from 49 to 139 (fun _ wx => ∃ (nD' : Nat) (D' : List UInt8 → Bool), CW w wx g (g + 1) (g + 1 + 1) (g + 1 + 1 + 1) Mn A6 c6 q nS nD' nO S O D' ∧ nD' ≤ j + 1 ∧ (∀ s, D s = true → D' s = true) ∧ (mk = true → ∀ m, q[i.toNat]? = some m → D' (keyL m) = true) ∧ Blk wx wo.heap.size 73 #[.int .i64 d, .int .i64 i, .slice A1 ol.length c1] ∧ IsL Rp.msg wx (· < w.heap.size) (.slice A1 ol.length c1) ol)
        case first =>
          cases mk
          · go_wp2
            go_meet
            exact ⟨nD, D, CA, by omega, fun _ h => h, fun h => (by cases h), OB, hl.alloc _⟩
          · obtain ⟨rfl, hi0, hiq⟩ := hmk2 rfl
            obtain ⟨k, rfl⟩ : ∃ k : Nat, i = (k : Int) := ⟨i.toNat, by omega⟩
            have hk : k < q.length := by omega
            have hqm := List.getElem?_eq_getElem hk
            obtain ⟨adq, B1, d1, B2, d2, rfl, hqb, him, hq0, hq1, hq2, hq3, hq4, hq5⟩ := CA.q.msg_at hqm
            generalize q[k] = m at hqm him hq0 hq1 hq2 hq3 hq4 hq5
            have HQM := Lib.hid hqm; clear hqm
            have hmq := List.mem_of_getElem? HQM.out
            have hma := okB_args (HOK.out m hmq)
            have hm63 := (CA.q.lens m hmq).2
            have hks := keyB_le hm63.1 hm63.2
            clear hmq
            go_wp2_with fail
            refine (key_any _ m _ _ him (by omega)).mono ?_
            rintro e w7 ⟨rfl, hb7⟩
            replace CA := CA.step hb7
            replace OB := OB.step hb7
            replace hl := (hl.alloc (.cells #[.int .i64 3, .int .i64 (k : Int), .slice A1 ol.length c1] 73)).step hb7
            clear q6 f6 qo fo hq0 hq1 hq2 hq3 hq4 hq5 him hb7
            go_wp2_with (at_mapUpdate; refine wpList_markK rfl _ _ _ _ rfl 9 4 Try.underlying9 Try.underlying71 Try.underlying4 (g + 1 + 1) nD D rfl CA.dbl (by unfold maxLen; omega) (keyB m) rfl rfl hks ?_; intro w8 hm8 hg8)
            go_meet
            case rel =>
              have ht := grown_turned hg8
              exact ⟨nD + 1, _, CA.marked hm8 hg8, by omega, fun s h => by simp [h], fun _ m' hm' => (by
                have e : m' = m := by have h1 := HQM.out; rw [show ((k : Int)).toNat = k from rfl, h1] at hm'; injection hm' with h; exact h.symm
                rw [e]; simp [keyB_list]), OB.turned ht (by omega), hl.turned ht (fun b hb => by omega)⟩
        case rest =>
          obtain ⟨nD', D', CB, hnD', hDD, hDm, OB', hl'⟩ := hcut
          clear CA OB q6 f6 qo fo hl hmk
          have gwc : g + 1 + 1 + 1 < wc.heap.size := by have := OB'.lt; omega
          have hcar := HCAR.out.more hDD
          have hok := HOK.out
          have hq30 := hcar.len
          have hact : OkAct ⟨Mn, q⟩ ⟨d, i, ol⟩ := ⟨okB_le hok, by show q.length ≤ _; omega, by show (Mn : Int) ≤ _; omega, by show (q.length : Int) ≤ (Mn : Int); omega, hlb.2, by show ol.length ≤ _; omega⟩
          have hbody := fun v lv K K' W hv hq => body_any v lv ⟨Mn, q⟩ d i ol K K' W hv hq hact
          have hdid := @did_of_act ⟨Mn, q⟩ ⟨d, i, ol⟩
          obtain ⟨⟨n', x, er, k⟩, hr⟩ : ∃ r, actA ⟨Mn, q⟩ ⟨d, i, ol⟩ = r := ⟨_, rfl⟩
          rw [hr] at hbody hdid
          simp only at hbody hdid
          have hcd : er = 0 → n'.cap = Mn ∧ (∀ m ∈ n'.q, okB m = true) ∧ _ := fun h => ⟨(hdid h).1, (hdid h).2.ok hok, carry_did (hdid h).2 hcar (fun h3 h0 h1 m hm => hDm (HMK.out.symm.trans (decide_eq_true ⟨h3, h0, h1⟩)) m hm)⟩
          have HB := Lib.hid hbody; have HCD := Lib.hid hcd; have HC2 := Lib.hid hcar
          clear hbody hdid hcd hr hact hcar hok hDm hDD hmk2
          have hnv : IsN wc (fun b => b ≠ g ∧ b ≠ g + 1 ∧ b ≠ g + 1 + 1 ∧ b ≠ g + 1 + 1 + 1) (.agg #[.int .i64 (Mn : Int), .slice A6 q.length c6]) ⟨Mn, q⟩ := ⟨A6, c6, rfl, CB.q⟩
          obtain ⟨q6, f6⟩ := CB.net.rules
          obtain ⟨qo, fo⟩ := OB'.rules
          go_wp2_with fail
          refine (HB.out _ _ _ _ _ hnv hl').mono ?_
          rintro e w9 ⟨nv, vm, KN, KM, rfl, hn9, hm9, hKN, hKM, hb9⟩
          clear hnv q6 f6 qo fo
          replace CB := CB.step hb9
          replace OB' := OB'.step hb9
          replace hl' := hl'.step hb9
          obtain ⟨A8, c8, rfl, hn8⟩ := hn9
          obtain ⟨B1, d1, B2, d2, rfl, _⟩ := id hm9
          have gw9 := hb9.size
          have hn8' := hn8.more (K' := fun b => b ≠ g ∧ b ≠ g + 1 ∧ b ≠ g + 1 + 1 ∧ b ≠ g + 1 + 1 + 1) (fun b hb => by have := hKN b hb; omega)
          have hm8 := hm9.more (K' := fun b => b ≠ g ∧ b ≠ g + 1 ∧ b ≠ g + 1 + 1 ∧ b ≠ g + 1 + 1 + 1) (fun b hb => by have := (hKM b hb).1; omega)
          clear hn8 hm9 hKN hKM hb9
          unfold mv at hm8 ⊢
          have hba : ∀ (W : World) o, Below W.heap.size W (W.alloc o) := fun W o => (Below.refl _ _).alloc (Nat.le_refl _) o
          have CB2 := (CB.step (hba _ (.cells #[.int .i64 n'.cap, .slice A8 n'.q.length c8] 38))).step (hba _ (.cells #[.int .i64 x.kind, .int .i64 x.frm, .int .i64 x.to, .int .i64 x.id, .slice B1 x.args.length d1, .slice B2 x.data.length d2] 45))
          have OB2 := (OB'.step (hba _ (.cells #[.int .i64 n'.cap, .slice A8 n'.q.length c8] 38))).step (hba _ (.cells #[.int .i64 x.kind, .int .i64 x.frm, .int .i64 x.to, .int .i64 x.id, .slice B1 x.args.length d1, .slice B2 x.data.length d2] 45))
          have hn2 := (hn8'.step (hba _ (.cells #[.int .i64 n'.cap, .slice A8 n'.q.length c8] 38))).step (hba _ (.cells #[.int .i64 x.kind, .int .i64 x.frm, .int .i64 x.to, .int .i64 x.id, .slice B1 x.args.length d1, .slice B2 x.data.length d2] 45))
          have hm2 := (hm8.step (hba _ (.cells #[.int .i64 n'.cap, .slice A8 n'.q.length c8] 38))).step (hba _ (.cells #[.int .i64 x.kind, .int .i64 x.frm, .int .i64 x.to, .int .i64 x.id, .slice B1 x.args.length d1, .slice B2 x.data.length d2] 45))
          have N2 := (Blk.new w9 38 #[.int .i64 n'.cap, .slice A8 n'.q.length c8] rfl).step (hba _ (.cells #[.int .i64 x.kind, .int .i64 x.frm, .int .i64 x.to, .int .i64 x.id, .slice B1 x.args.length d1, .slice B2 x.data.length d2] 45))
          have M2 := Blk.new (w9.alloc (.cells #[.int .i64 n'.cap, .slice A8 n'.q.length c8] 38)) 45 #[.int .i64 x.kind, .int .i64 x.frm, .int .i64 x.to, .int .i64 x.id, .slice B1 x.args.length d1, .slice B2 x.data.length d2] rfl
          rw [World.size_alloc] at M2
          by_cases her : er = 0
          · obtain ⟨hcap, hok, hcase⟩ := HCD.out her
            subst her
            clear HCD HB CB OB' hl' hn8' hm8
            generalize hwA : (w9.alloc (.cells #[.int .i64 n'.cap, .slice A8 n'.q.length c8] 38)).alloc (.cells #[.int .i64 x.kind, .int .i64 x.frm, .int .i64 x.to, .int .i64 x.id, .slice B1 x.args.length d1, .slice B2 x.data.length d2] 45) = wA at CB2 OB2 hn2 hm2 N2 M2
            have HWA := Lib.hid hwA; clear hwA
            obtain ⟨n1, n2⟩ := n'
            simp only at hcap hok hcase hn2 N2 HWA ⊢
            subst hcap
            go_upto_region 19 with fail
            rw [HWA.out]
            clear HWA
            obtain ⟨qo, fo⟩ := OB2.rules
            obtain ⟨q14, f14⟩ := N2.rules
            obtain ⟨q15, f15⟩ := M2.rules
            obtain ⟨q6, f6⟩ := CB2.net.rules
            obtain ⟨i0, rfl⟩ : ∃ i0, i0 = i := ⟨_, rfl⟩
            rcases hcase with ⟨rfl, t, rfl, rfl, htl, hcar⟩ | ⟨rfl, hxq, hcar⟩ | ⟨hd0, hd1, hcar⟩
            · have hq31 := hcar.len
              have hsent := HC2.out.sent
              have hcN : CellsL Rp.msg wA (fun b => b ≠ g ∧ b ≠ g + 1 ∧ b ≠ g + 1 + 1 ∧ b ≠ g + 1 + 1 + 1) [] [] := rfl
              have hlenA : (q ++ t).length = q.length + t.length := by simp
              have htk63 := hn2.lens
              have hadd : IntKind.i64.wrap ((q.length : Int) + (t.length : Int)) = (q.length : Int) + (t.length : Int) := IntWalk.i64_in _ (by omega)
              have hq8 := hn2.open_.2.2
              go_upto_region 22 with fail
              clear hadd
              go_cut [113, 114, 115] from 49 to 139 (fun s113 s114 s115 wx => ∃ A3 c3, s113 = .slice A3 t.length c3 ∧ s114 = .int .i64 t.length ∧ s115 = .int .i64 0 ∧ wx = wA ∧ IsL Rp.msg wA (fun b => b ≠ g ∧ b ≠ g + 1 ∧ b ≠ g + 1 + 1 ∧ b ≠ g + 1 + 1 + 1) (.slice A3 t.length c3) t)
              case first =>
                rcases A8 with _ | ad8
                · have h0 : q = [] ∧ t = [] := by
                    obtain ⟨cs, h1, h2⟩ := hn2.open_.2.1
                    have : ¬ 0 < (q ++ t).length := fun h => by obtain ⟨ad, h3, _⟩ := h1.2 h; cases h3
                    constructor <;> (apply List.eq_nil_of_length_eq_zero; omega)
                  obtain ⟨rfl, rfl⟩ := h0
                  go_wp2
                  go_meet
                  exact ⟨none, c8, rfl, rfl, rfl, rfl, ⟨none, c8, [], rfl, Reads.none_, rfl, by simp, hq8.2.1, by simp⟩⟩
                · have hcut := hn2.cut (k := q.length) (by omega)
                  obtain ⟨A3, hA3⟩ : ∃ A3, (if c8 = q.length then some ad8 else some (ad8.add (q.length * 6))) = A3 := ⟨_, rfl⟩
                  rw [show (if c8 = q.length then some ad8 else some (ad8.add (q.length * Rp.msg.size))) = A3 from hA3, List.drop_left, hlenA, show q.length + t.length - q.length = t.length by omega] at hcut
                  go_wp2
                  go_meet
                  exact ⟨A3, _, rfl, rfl, rfl, rfl, hcut⟩
              case rest =>
                obtain ⟨A3, c3, rfl, rfl, rfl, rfl, hsl⟩ := hcut
                clear qo fo q14 f14 q15 f15 q6 f6 M2 hm2 hcN hq8
                have hMj : Mn * j ≤ 3000 := Nat.le_trans (Nat.mul_le_mul (show Mn ≤ 30 by omega) (show j ≤ 100 by omega)) (by omega)
                go_wp2_with fail
                go_loopw [115] (fun i wx => ∃ (jj nS2 : Nat), i = .int .i64 jj ∧ jj ≤ t.length ∧ nS2 ≤ nS + jj ∧ CW w wx g (g + 1) (g + 1 + 1) (g + 1 + 1 + 1) Mn A6 c6 q nS2 nD' nO (fun s => S s + cntK keyL (t.take jj) s) O D' ∧
                  IsL Rp.msg wx (fun b => b ≠ g ∧ b ≠ g + 1 ∧ b ≠ g + 1 + 1 ∧ b ≠ g + 1 + 1 + 1) (.slice A3 t.length c3) t ∧ Blk wx wo.heap.size 73 #[.int .i64 0, .int .i64 i0, .slice A1 ol.length c1] ∧
                  Blk wx w9.heap.size 38 #[.int .i64 Mn, .slice A8 (q ++ t).length c8] ∧ IsL Rp.msg wx (fun b => b ≠ g ∧ b ≠ g + 1 ∧ b ≠ g + 1 + 1 ∧ b ≠ g + 1 + 1 + 1) (.slice A8 (q ++ t).length c8) (q ++ t)) (fun i _ => t.length - (intOf i).toNat)
                case atStart => exact ⟨0, nS, rfl, Nat.zero_le _, by omega, by simpa [cntK] using CB2, hsl, OB2, N2, hn2⟩
                case round =>
                  obtain ⟨jj, nS2, rfl, hjj, hnS2, CI, hsl2, OI, NI, hnI⟩ := hrel
                  clear CB2 hsl OB2 N2 hn2
                  by_cases hjl : jj < t.length
                  · have hsn := cntK_snoc keyL t hjl
                    have hyt : t[jj] ∈ t := List.getElem_mem hjl
                    obtain ⟨ady, E1, e1, E2, e2, rfl, hyb, hym, hy0, hy1, hy2, hy3, hy4, hy5⟩ := hsl2.msg_at (List.getElem?_eq_getElem hjl)
                    have hy63 := (hsl2.lens _ hyt).2
                    generalize t[jj] = y at hsn hyt hym hy0 hy1 hy2 hy3 hy4 hy5 hy63
                    have hya := okB_args (hok y (List.mem_append_right _ hyt))
                    have hks := keyB_le hy63.1 hy63.2
                    have hSy := HC2.out.sent (keyB y).data.toList
                    have hty : cntK keyL (t.take jj) (keyB y).data.toList ≤ 30 := by have := cntK_le keyL (t.take jj) (keyB y).data.toList; rw [List.length_take] at this; omega
                    have G1 := CI.step (hba _ (.cells #[.int .i64 y.kind, .int .i64 y.frm, .int .i64 y.to, .int .i64 y.id, .slice E1 y.args.length e1, .slice E2 y.data.length e2] 45))
                    have G2 := hsl2.alloc (.cells #[.int .i64 y.kind, .int .i64 y.frm, .int .i64 y.to, .int .i64 y.id, .slice E1 y.args.length e1, .slice E2 y.data.length e2] 45)
                    have G3 := OI.step (hba _ (.cells #[.int .i64 y.kind, .int .i64 y.frm, .int .i64 y.to, .int .i64 y.id, .slice E1 y.args.length e1, .slice E2 y.data.length e2] 45))
                    have G4 := NI.step (hba _ (.cells #[.int .i64 y.kind, .int .i64 y.frm, .int .i64 y.to, .int .i64 y.id, .slice E1 y.args.length e1, .slice E2 y.data.length e2] 45))
                    have G5 := hnI.alloc (.cells #[.int .i64 y.kind, .int .i64 y.frm, .int .i64 y.to, .int .i64 y.id, .slice E1 y.args.length e1, .slice E2 y.data.length e2] 45)
                    have G6 := hym.step (hba _ (.cells #[.int .i64 y.kind, .int .i64 y.frm, .int .i64 y.to, .int .i64 y.id, .slice E1 y.args.length e1, .slice E2 y.data.length e2] 45))
                    have HSN := Lib.hid hsn; clear hsn CI hsl2 OI NI hnI hym
                    go_wp2_with fail
                    refine (key_any _ y _ _ G6 (by omega)).mono ?_
                    rintro e w10 ⟨rfl, hb10⟩
                    replace G1 := G1.step hb10
                    replace G2 := G2.step hb10
                    replace G3 := G3.step hb10
                    replace G4 := G4.step hb10
                    replace G5 := G5.step hb10
                    clear G6 hy0 hy1 hy2 hy3 hy4 hy5 hb10
                    go_wp2_with (first
                      | (at_lookup; refine wpList_lookupK rfl _ _ _ rfl 9 3 Try.underlying9 Try.underlying70 Try.underlying3 rfl (g + 1) nS2 _ rfl G1.sent (keyB y) rfl hks ?_)
                      | (at_mapUpdate; refine wpList_countK rfl _ _ _ _ rfl 9 3 Try.underlying9 Try.underlying70 Try.underlying3 (g + 1) nS2 _ rfl G1.sent (by unfold maxLen; omega) (keyB y) _ rfl rfl hks rfl (by omega) ?_; intro w11 hm11 hg11))
                    go_roundw
                    case rel =>
                      have ht := grown_turned hg11
                      refine ⟨jj + 1, nS2 + 1, by go_num, by omega, by omega, CW.counted (S' := fun s => S s + cntK keyL (t.take (jj + 1)) s) G1 ?_ hg11, G2.turned ht (fun b hb => hb.2.1), G3.turned ht (by omega), G4.turned ht (by omega), G5.turned ht (fun b hb => hb.2.1)⟩
                      refine cntM_congr hm11 fun s => ?_
                      have := HSN.out s
                      simp only [keyB_list, one] at this ⊢
                      omega
                    case measure => simp [intOf]; omega
                  · obtain rfl : jj = t.length := by omega
                    rw [List.take_length] at CI
                    obtain ⟨q14, f14⟩ := NI.rules
                    obtain ⟨q6, f6⟩ := CI.net.rules
                    obtain ⟨qo, fo⟩ := OI.rules
                    go_wp2_with fail
                    go_roundw
                    case rel =>
                      have hms : nS2 ≤ Mn * (j + 1) := by rw [Nat.mul_succ]; omega
                      exact ⟨j + 1, A8, c8, q ++ t, nS2, nD', nO, (fun s => S s + cntK keyL t s), O, D', by go_num, by omega, by rw [← hlenA]; exact CI.set hnI, ⟨hms, hnD', by omega⟩, hcar, hok⟩
                    case measure => simp [intOf]; omega
            · have hq31 := hcar.len
              have hO := HC2.out.out (keyB x).data.toList
              have hma := okB_args (HOK.out x hxq)
              have hm63 := (CB2.q.lens x hxq).2
              have hks := keyB_le hm63.1 hm63.2
              go_wp2_with fail
              refine (key_any _ x _ _ hm2 (by omega)).mono ?_
              rintro e w10 ⟨rfl, hb10⟩
              replace CB2 := CB2.step hb10
              replace N2 := N2.step hb10
              replace hn2 := hn2.step hb10
              clear qo fo q14 f14 q15 f15 q6 f6 OB2 M2 hm2
              go_wp2_with (first
                | (at_lookup; refine wpList_lookupK rfl _ _ _ rfl 9 3 Try.underlying9 Try.underlying70 Try.underlying3 rfl (g + 1 + 1 + 1) nO O rfl CB2.out (keyB x) rfl hks ?_)
                | (at_mapUpdate; refine wpList_countK rfl _ _ _ _ rfl 9 3 Try.underlying9 Try.underlying70 Try.underlying3 (g + 1 + 1 + 1) nO O rfl CB2.out (by unfold maxLen; omega) (keyB x) _ rfl rfl hks rfl (by omega) ?_; intro w11 hm11 hg11; have hn11 := hn2.turned (grown_turned hg11) (fun b hb => hb.2.2.2); have CB3 := CB2.told hm11 hg11; have N3 := N2.turned (grown_turned hg11) (by omega); obtain ⟨q14, f14⟩ := N3.rules; obtain ⟨q6, f6⟩ := CB3.net.rules))
              go_roundw
              case rel => exact ⟨j + 1, A8, c8, n2, nS, nD', nO + 1, S, _, D', by go_num, by omega, CB3.set hn11, ⟨Nat.le_trans hnS (Nat.mul_le_mul_left _ (Nat.le_succ j)), hnD', by omega⟩, by simpa [keyB_list, one] using hcar, hok⟩
              case measure => simp [intOf]; omega
            · have hq31 := hcar.len
              go_wp2_with fail
              go_roundw
              case rel => exact ⟨j + 1, A8, c8, n2, nS, nD', nO, S, O, D', by go_num, by omega, CB2.set hn2, ⟨Nat.le_trans hnS (Nat.mul_le_mul_left _ (Nat.le_succ j)), hnD', by omega⟩, hcar, hok⟩
              case measure => simp [intOf]; omega
          · have hne : (er != 0) = true := by simpa using her
            have hcar := HC2.out.idle
            have hok := HOK.out
            clear HCD HB
            go_wp2_with fail
            go_roundw
            case rel => exact ⟨j + 1, A6, c6, q, nS, nD', nO, S, O, D', by go_num, by omega, CB2, ⟨Nat.le_trans hnS (Nat.mul_le_mul_left _ (Nat.le_succ j)), hnD', by omega⟩, hcar, hok⟩
            case measure => simp [intOf]; omega
      · obtain rfl : j = l.length := by omega
        have hMj : Mn * l.length ≤ 3000 := Nat.le_trans (Nat.mul_le_mul (show Mn ≤ 30 by omega) (show l.length ≤ 100 by omega)) (by omega)
        have hq31 := hcar.len
        have gwr : g + 1 + 1 + 1 < wr.heap.size := C.out.lt
        have hba : ∀ (W : World) o, Below W.heap.size W (W.alloc o) := fun W o => (Below.refl _ _).alloc (Nat.le_refl _) o
        have CL := C.step (hba wr (.map #[] 0))
        have hqL := (C.q.ltM).step (hba wr (.map #[] 0))
        have hL := CntM.made (P := Try.prog) (k := 9) (e := 3) wr
        obtain ⟨q6, f6⟩ := CL.net.rules
        have hmm := @run_makeMap Try.prog
        have HCR := Lib.hid hcar; have HOK := Lib.hid hok
        clear hcar hok C
        go_wp2_with fail
        obtain ⟨wo, rfl⟩ : ∃ wo : World, wo = wr := ⟨_, rfl⟩
        go_loopw [144] (fun i wx => ∃ (jj nL : Nat), i = .int .i64 jj ∧ jj ≤ q.length ∧ nL ≤ jj ∧ CntM Try.prog 9 3 wx wo.heap.size nL (fun s => cntK keyL (q.take jj) s) ∧
          IsL Rp.msg wx (fun b => (b ≠ g ∧ b ≠ g + 1 ∧ b ≠ g + 1 + 1 ∧ b ≠ g + 1 + 1 + 1) ∧ b < wo.heap.size) (.slice A6 q.length c6) q ∧ CntM Try.prog 9 3 wx (g + 1) nS S ∧ BoolM Try.prog 9 4 wx (g + 1 + 1) nD D ∧ CntM Try.prog 9 3 wx (g + 1 + 1 + 1) nO O ∧ Below w.heap.size w wx) (fun i _ => q.length - (intOf i).toNat)
        case atStart => exact ⟨0, 0, rfl, Nat.zero_le _, Nat.le_refl _, by simpa [cntK] using hL, hqL, CL.sent, CL.dbl, CL.out, CL.below⟩
        case round =>
          obtain ⟨jj, nL, rfl, hjj, hnL, hLm, hqI, hS, hD, hO, hbl⟩ := hrel
          clear CL hqL hL q6 f6
          by_cases hjl : jj < q.length
          · have hsn := cntK_snoc keyL q hjl
            have hyt : q[jj] ∈ q := List.getElem_mem hjl
            obtain ⟨ady, E1, e1, E2, e2, rfl, hyb, hym, hy0, hy1, hy2, hy3, hy4, hy5⟩ := hqI.msg_at (List.getElem?_eq_getElem hjl)
            have hy63 := (hqI.lens _ hyt).2
            generalize q[jj] = y at hsn hyt hym hy0 hy1 hy2 hy3 hy4 hy5 hy63
            have hya := okB_args (HOK.out y hyt)
            have hks := keyB_le hy63.1 hy63.2
            have hty : cntK keyL (q.take jj) (keyB y).data.toList ≤ 30 := by have := cntK_le keyL (q.take jj) (keyB y).data.toList; rw [List.length_take] at this; omega
            have G1 := hLm.step (hba _ (.cells #[.int .i64 y.kind, .int .i64 y.frm, .int .i64 y.to, .int .i64 y.id, .slice E1 y.args.length e1, .slice E2 y.data.length e2] 45))
            have G2 := hqI.alloc (.cells #[.int .i64 y.kind, .int .i64 y.frm, .int .i64 y.to, .int .i64 y.id, .slice E1 y.args.length e1, .slice E2 y.data.length e2] 45)
            have G3 := hS.step (hba _ (.cells #[.int .i64 y.kind, .int .i64 y.frm, .int .i64 y.to, .int .i64 y.id, .slice E1 y.args.length e1, .slice E2 y.data.length e2] 45))
            have G4 := hD.step (hba _ (.cells #[.int .i64 y.kind, .int .i64 y.frm, .int .i64 y.to, .int .i64 y.id, .slice E1 y.args.length e1, .slice E2 y.data.length e2] 45))
            have G5 := hO.step (hba _ (.cells #[.int .i64 y.kind, .int .i64 y.frm, .int .i64 y.to, .int .i64 y.id, .slice E1 y.args.length e1, .slice E2 y.data.length e2] 45))
            have G6 := hym.step (hba _ (.cells #[.int .i64 y.kind, .int .i64 y.frm, .int .i64 y.to, .int .i64 y.id, .slice E1 y.args.length e1, .slice E2 y.data.length e2] 45))
            have G7 := hbl.trans ((hba wr (.cells #[.int .i64 y.kind, .int .i64 y.frm, .int .i64 y.to, .int .i64 y.id, .slice E1 y.args.length e1, .slice E2 y.data.length e2] 45)).mono hbl.size)
            have HSN := Lib.hid hsn; clear hsn hLm hqI hS hD hO hbl hym
            go_wp2_with fail
            refine (key_any _ y _ _ G6 (by omega)).mono ?_
            rintro e w10 ⟨rfl, hb10⟩
            replace G1 := G1.step hb10
            replace G2 := G2.step hb10
            replace G3 := G3.step hb10
            replace G4 := G4.step hb10
            replace G5 := G5.step hb10
            replace G7 := G7.trans (hb10.mono G7.size)
            clear G6 hy0 hy1 hy2 hy3 hy4 hy5 hb10
            go_wp2_with (first
              | (at_lookup; refine wpList_lookupK rfl _ _ _ rfl 9 3 Try.underlying9 Try.underlying70 Try.underlying3 rfl wo.heap.size nL _ rfl G1 (keyB y) rfl hks ?_)
              | (at_mapUpdate; refine wpList_countK rfl _ _ _ _ rfl 9 3 Try.underlying9 Try.underlying70 Try.underlying3 wo.heap.size nL _ rfl G1 (by unfold maxLen; omega) (keyB y) _ rfl rfl hks rfl (by omega) ?_; intro w11 hm11 hg11))
            go_roundw
            case rel =>
              have ht := grown_turned hg11
              refine ⟨jj + 1, nL + 1, by go_num, by omega, by omega, cntM_congr hm11 fun s => ?_, G2.turned ht (fun b hb => by have := hb.2; omega), G3.kept hg11 (by simp; omega), G4.kept hg11 (by simp; omega), G5.kept hg11 (by simp; omega), G7.trans (ht.below (fun k hk => by have := hg6; omega) G7.size)⟩
              have := HSN.out s
              simp only [keyB_list, one] at this ⊢
              omega
            case measure => simp [intOf]; omega
          · obtain rfl : jj = q.length := by omega
            rw [List.take_length] at hLm
            go_wp2_with (at_range; refine wpList_rangeK rfl _ _ rfl 9 3 Try.underlying9 Try.underlying70 (g + 1 + 1 + 1) nO O rfl hO ?_; intro w12 cnt hR hg12 hs12)
            have hwo := hLm.lt
            have hLb : Below wr.heap.size wr w12 := ⟨hg12.os, hg12.tape, hg12.output, by omega, fun k hk => hg12.block k hk (by simp)⟩
            replace hS := hS.step hLb
            replace hD := hD.step hLb
            replace hLm := hLm.step hLb
            replace hbl := hbl.trans (hLb.mono hbl.size)
            have hbw : w.heap.size ≤ wr.heap.size := by omega
            clear hqI hO
            obtain ⟨wp, rfl⟩ : ∃ wp : World, wp = wr := ⟨_, rfl⟩
            go_frame
            go_loopw [23] (fun _ wx => ∃ cnt, RngM Try.prog 9 3 wx (g + 1 + 1 + 1) wp.heap.size nO O cnt ∧ CntM Try.prog 9 3 wx (g + 1) nS S ∧ BoolM Try.prog 9 4 wx (g + 1 + 1) nD D ∧ CntM Try.prog 9 3 wx wo.heap.size nL (fun s => cntK keyL q s) ∧ Below w.heap.size w wx) (fun _ wx => wx.rangeLeft (g + 1 + 1 + 1) wp.heap.size)
            case atStart => exact ⟨cnt, hR, hS, hD, hLm, hbl⟩
            case round =>
              obtain ⟨cnt1, hR1, hS1, hD1, hL1, hb1⟩ := hrel
              clear hR hS hD hLm hbl hLb
              go_wp2_with (first | (at_next; refine wpList_nextK rfl _ rfl 9 3 Try.underlying9 Try.underlying3 (g + 1 + 1 + 1) wp.heap.size nO O cnt1 rfl hR1 ?_ ?_) | (at_range; refine wpList_rangeK rfl _ _ rfl 9 3 Try.underlying9 Try.underlying70 wo.heap.size nL _ rfl hL1 ?_; intro w13 cnt2 hRL hg13 hs13))
              · obtain ⟨wq, rfl⟩ : ∃ wq : World, wq = wr := ⟨_, rfl⟩
                clear hR1 hD1
                have hqL : Below wq.heap.size wq w13 := ⟨hg13.os, hg13.tape, hg13.output, by omega, fun k hk => hg13.block k hk (by simp)⟩
                have hqb : w.heap.size ≤ wq.heap.size := hb1.size
                replace hS1 := hS1.step hqL
                replace hb1 := hb1.trans (hqL.mono hb1.size)
                have hql : wo.heap.size < wq.heap.size := hL1.lt
                clear hqL hL1
                go_frame
                go_loopw [25] (fun _ wx => ∃ cnt, RngM Try.prog 9 3 wx wo.heap.size wq.heap.size nL (fun s => cntK keyL q s) cnt ∧ CntM Try.prog 9 3 wx (g + 1) nS S ∧ Below w.heap.size w wx) (fun _ wx => wx.rangeLeft wo.heap.size wq.heap.size)
                case atStart => exact ⟨cnt2, hRL, hS1, hb1⟩
                case round =>
                  obtain ⟨cnt3, hR3, hS3, hb3⟩ := hrel
                  clear hRL hS1 hb1
                  go_wp2_with (at_next; refine wpList_nextK rfl _ rfl 9 3 Try.underlying9 Try.underlying3 wo.heap.size wq.heap.size nL _ cnt3 rfl hR3 ?_ ?_)
                  · go_wp2
                    go_ret
                    exact ⟨rfl, hb3⟩
                  · intro s w' cnt' hs hpos hR4 hlt2 hgr hsz hen
                    have hgd := HCR.out.good_left hpos
                    have hS4 := hS3.kept hgr (by simp; omega)
                    have hb4 : Below w.heap.size w w' := hb3.trans ((grown_turned hgr).below (fun k hk => by omega) hb3.size)
                    clear hS3 hb3
                    have hS0 : ((S s.data.toList : Int) == 0) = false := by simp; omega
                    go_wp2_with ((at_lookup; refine wpList_lookupK rfl _ _ _ rfl 9 3 Try.underlying9 Try.underlying70 Try.underlying3 rfl (g + 1) nS S rfl hS4 s rfl hs ?_))
                    go_roundw
                    case rel => exact ⟨cnt', hR4, hS4, hb4⟩
                    case measure => rw [hR4.left_eq, hR3.left_eq]; exact hlt2
              · intro s w' cnt' hs hpos hR2 hlt2 hgr hsz hen
                have hgd := HCR.out.good hpos
                have hO1 := HCR.out.out s.data.toList
                have hQ1 := cntK_le keyL q s.data.toList
                have hS2 := hS1.kept hgr (by simp; omega)
                have hD2 := hD1.kept hgr (by simp; omega)
                have hL2 := hL1.kept hgr (by simp; omega)
                have hb2 : Below w.heap.size w w' := hb1.trans ((grown_turned hgr).below (fun k hk => by omega) hb1.size)
                clear hS1 hD1 hL1 hb1
                have hS0 : ((S s.data.toList : Int) == 0) = false := by have := hgd.1; simp; omega
                by_cases hDs : D s.data.toList = true
                · clear hgd
                  go_wp2_with (first
                    | (at_lookup; refine wpList_lookupK rfl _ _ _ rfl 9 3 Try.underlying9 Try.underlying70 Try.underlying3 rfl (g + 1) nS S rfl hS2 s rfl hs ?_)
                    | (at_lookup; refine wpList_free rfl ?_; refine wpList_lookupBoolK rfl _ _ _ rfl 9 4 Try.underlying9 Try.underlying71 Try.underlying4 rfl (g + 1 + 1) nD D rfl hD2 s rfl hs ?_))
                  go_roundw
                  case rel => exact ⟨cnt', hR2, hS2, hD2, hL2, hb2⟩
                  case measure => rw [hR2.left_eq, hR1.left_eq]; exact hlt2
                · have hDs' : D s.data.toList = false := by simpa using hDs
                  have hle : O s.data.toList + cntK keyL q s.data.toList ≤ S s.data.toList := by rcases hgd.2 with h | h; exact absurd h hDs; exact h
                  clear hgd hDs
                  go_wp2_with (first
                    | (at_lookup; refine wpList_lookupK rfl _ _ _ rfl 9 3 Try.underlying9 Try.underlying70 Try.underlying3 rfl (g + 1) nS S rfl hS2 s rfl hs ?_)
                    | (at_lookup; refine wpList_free rfl ?_; refine wpList_lookupBoolK rfl _ _ _ rfl 9 4 Try.underlying9 Try.underlying71 Try.underlying4 rfl (g + 1 + 1) nD D rfl hD2 s rfl hs ?_)
                    | (at_lookup; refine wpList_free rfl ?_; refine wpList_lookupK rfl _ _ _ rfl 9 3 Try.underlying9 Try.underlying70 Try.underlying3 rfl wo.heap.size nL _ rfl hL2 s rfl hs ?_)
                    | (at_lookup; refine wpList_free rfl ?_; refine wpList_lookupK rfl _ _ _ rfl 9 3 Try.underlying9 Try.underlying70 Try.underlying3 rfl (g + 1) nS S rfl hS2 s rfl hs ?_))
                  go_roundw
                  case rel => exact ⟨cnt', hR2, hS2, hD2, hL2, hb2⟩
                  case measure => rw [hR2.left_eq, hR1.left_eq]; exact hlt2
end Go.Proofs.Ytbjgemipmlimoaa
