/- The walk of the chapter's example of replay: what it computes is evaluated. -/
import Derived.Test.YtlippmghgagdaaaGreatRunSays
import Derived.Test.YtlippmghgagdaaaGreatReplayB
import Derived.Test.YtlippmghgagdaaaGreatScanMid
import Derived.Test.YtlippmghgagdaaaGreatFill16
import Derived.Test.YtlippmghgagdaaaGreatReplayFound
import Derived.Test.YtlippmghgagdaaaGreatPackLive
namespace Go.Proofs.YtlippmghgagdaaaGreat
open Go.RowKit

def lvH : Hd := ⟨1, 0, 0⟩
def lvT : List UInt8 := [48, 49, 50, 51, 52, 53, 54, 55, 56, 57, 97, 98, 99, 100, 101, 102]
def lvR : Rc := ⟨1, 7, 1, 3, 0, 0, lvT⟩
def lvB : List UInt8 := [4, 0, 1, 0, 0, 185, 217, 38, 237, 23, 1, 7, 1, 3, 0, 0, 16, 48, 49, 50, 51, 52, 53, 54, 55, 56, 57, 97, 98, 99, 100, 101, 102, 187, 48, 40, 27]
def lvD : Zd := ⟨200, 1, 1, [⟨1, 0, lvB⟩, z0]⟩
def lvM : List Ex := [⟨7, 1, 3, 0, 17⟩]
theorem lv_new : newD 2 200 1 1 = (⟨200, 1, 1, [z0, z0]⟩, 0) := rfl
theorem lv_seg : segP lvH [lvR] = (lvB, 0) := by decide +kernel
theorem lv_do : doZ ⟨200, 1, 1, [z0, z0]⟩ ⟨1, 0, 0, 0, 0, lvB⟩ = (lvD, ⟨0, 0, []⟩) := by kernel_rfl
theorem lv_found : foundL lvD.z = [⟨true, lvH, [lvR], [9], 37⟩, f0d] := by kernel_rfl
theorem lv_ents : entsU (foundL lvD.z) [] 2 = [(lvR, 0, 17)] := by kernel_rfl
theorem lv_map : mapGo [(lvR, 0, 17)] [] = (lvM, 0) := by kernel_rfl
theorem lv_bytes : bytesL lvD.z lvM 7 2 = (lvT ++ zeros 16, 0) := by kernel_rfl
theorem lv_heads : (foundL lvD.z).map headF = [lvH, ⟨-1, 0, 0⟩] := by kernel_rfl
theorem lv_newest : newF 0 (foundL lvD.z) = 3 := by kernel_rfl
theorem lv_chain : chainE 0 lvM := by
  refine ⟨⟨⟨by decide, by decide, by decide, by decide⟩, by decide, by decide, by decide, by decide, by decide, by decide⟩, by decide, trivial⟩
theorem lv_okD : okD lvD := by
  decide +kernel
theorem lv_good : ∀ x ∈ entsU (foundL lvD.z) [] 2, GoodX 10000 x := by
  rw [lv_ents]
  intro x hx
  simp only [List.mem_cons, List.not_mem_nil, or_false] at hx
  subst hx
  exact ⟨⟨by decide, by decide, by decide, by decide, by decide, by decide, by decide⟩, by decide, by decide⟩
theorem lv_at : ∀ f ∈ foundL lvD.z, f.at_.length = f.l.length ∧ f.l.length ≤ 1000000000 := by
  rw [lv_found]
  intro f hf
  simp only [List.mem_cons, List.not_mem_nil, or_false] at hf
  rcases hf with rfl | rfl <;> exact ⟨rfl, by decide⟩
theorem lv_fit : FitE lvD.z lvM := by
  intro b t ht
  unfold lvM at ht
  rw [see_cons] at ht
  split at ht
  · rename_i h
    unfold hasE endE at h
    simp only [decide_eq_true_eq] at h
    have hb : b = 7 := by omega
    subst hb
    injection ht with ht
    subst ht
    exact .inr ⟨by decide, by decide, by decide⟩
  · cases ht
theorem lv_okR : OkRc lvR := by
  intro n hn
  simp only [recN, lvR, List.mem_cons, List.not_mem_nil, or_false] at hn
  omega
theorem lv_okH : OkHd lvH := by unfold OkHd lvH; simp

set_option linter.unusedSimpArgs false in
set_option maxRecDepth 100000 in
set_option maxHeartbeats 4000000 in
theorem live16_any (w : World) : Calls Tryz.prog 21 #[] w fun e w' => e = .returned (.bool true) ∧ Below w.heap.size w w' := by
  have kc := run_bytes_const (P := Tryz.prog) 32 5 Tryz.underlying32 Tryz.underlying5
  have hnw := fun W => znewK_any 2 200 1 1 W
  rw [lv_new] at hnw
  have hsg := fun lv K W h => seg_any lvH lv [lvR] K W lv_okH h (by simp)
  rw [lv_seg] at hsg
  have hdo := fun A k Ac kc K W h1 h2 h3 => do_any ⟨200, 1, 1, [z0, z0]⟩ ⟨1, 0, 0, 0, 0, lvB⟩ A k Ac kc K W h1 h2 h3 (by decide) (by decide)
  rw [lv_do] at hdo
  have hmp := fun A c K W h => rmap_any lvD A c [] none 0 K (fun _ => True) W lv_okD h (IsL.nil_ _ _) (by simp) lv_good lv_at
  have hby := fun A c Am cm K K' W h1 h2 => rbytes_any lvD A c Am cm lvM 7 2 K K' W h1 h2 lv_okD lv_chain (by unfold blocksE; decide) (by decide) lv_fit
  rw [lv_bytes] at hby
  have hhd := fun A c K W h => rheads_any lvD A c K W h lv_okD
  rw [lv_heads] at hhd
  have hnv := fun A c K W h => rnewest_any lvD A c K W h lv_okD
  rw [lv_newest] at hnv
  have hd : lvD.cap = 200 ∧ lvD.opn = 1 ∧ lvD.act = 1 ∧ lvD.z.length = 2 := ⟨rfl, rfl, rfl, rfl⟩
  have hle : lvB.length = 37 := rfl
  have hmm : mapGo (entsU (foundL lvD.z) [] lvD.z.length) [] = (lvM, 0) := by rw [show lvD.z.length = 2 from rfl, lv_ents, lv_map]
  have h32 : (lvT ++ zeros 16).length = 32 := rfl
  generalize lvD = d at hdo hmp hby hhd hnv hd hmm
  have HMM := Lib.hid hmm
  clear hmm
  simp only [hd.1, hd.2.1, hd.2.2.1, hd.2.2.2, List.length_cons, List.length_nil, Nat.zero_add, Nat.reduceAdd, hle, h32] at hdo hmp hby hhd hnv hsg
  have HD := Lib.hid hd
  clear hd
  go_enter Tryz.func21, Tryz.ntmps21
  go_wp2_with fail
  refine (hnw _).mono ?_
  rintro e w2 ⟨v, rfl, ⟨A, c, rfl, hz⟩, hb2⟩
  simp only [List.length_cons, List.length_nil, Nat.zero_add, Nat.reduceAdd] at hz ⊢
  have E := (Kn.from_ hb2 hb2.size).give Stable.list hz.zlt |>.push 28 #[.int .i64 200, .int .i64 1, .int .i64 1, .slice A 2 c]
  have hle2 := hb2.size
  clear hnw hz hb2
  go_upto_region 3 with fail
  have hT : IsB ((w2.alloc (.cells #[.int .i64 200, .int .i64 1, .int .i64 1, .slice A 2 c] 28)).alloc (.cells #[.int .u8 48, .int .u8 49, .int .u8 50, .int .u8 51, .int .u8 52, .int .u8 53, .int .u8 54, .int .u8 55, .int .u8 56, .int .u8 57, .int .u8 97, .int .u8 98, .int .u8 99, .int .u8 100, .int .u8 101, .int .u8 102] 5 (16, 17))) (fun b => b = w2.heap.size + 1) (.slice (some ⟨w2.heap.size + 1, 0, none⟩) 16 16) lvT :=
    IsB.new (l := lvT) (n := 16) (g := w2.heap.size + 1) (by simp) rfl rfl (by decide)
  replace E := (E.alloc (.cells #[.int .u8 48, .int .u8 49, .int .u8 50, .int .u8 51, .int .u8 52, .int .u8 53, .int .u8 54, .int .u8 55, .int .u8 56, .int .u8 57, .int .u8 97, .int .u8 98, .int .u8 99, .int .u8 100, .int .u8 101, .int .u8 102] 5 (16, 17))).give Stable.bytes hT
  obtain ⟨gt, hgt⟩ : ∃ gt, w2.heap.size + 1 = gt := ⟨_, rfl⟩
  obtain ⟨gd, hgd⟩ : ∃ gd, w2.heap.size = gd := ⟨_, rfl⟩
  have hsz : ((w2.alloc (.cells #[.int .i64 200, .int .i64 1, .int .i64 1, .slice A 2 c] 28)).alloc (.cells #[.int .u8 48, .int .u8 49, .int .u8 50, .int .u8 51, .int .u8 52, .int .u8 53, .int .u8 54, .int .u8 55, .int .u8 56, .int .u8 57, .int .u8 97, .int .u8 98, .int .u8 99, .int .u8 100, .int .u8 101, .int .u8 102] 5 (16, 17))).heap.size = gt + 1 := by rw [World.size_alloc, World.size_alloc, hgt]
  generalize (w2.alloc (.cells #[.int .i64 200, .int .i64 1, .int .i64 1, .slice A 2 c] 28)).alloc (.cells #[.int .u8 48, .int .u8 49, .int .u8 50, .int .u8 51, .int .u8 52, .int .u8 53, .int .u8 54, .int .u8 55, .int .u8 56, .int .u8 57, .int .u8 97, .int .u8 98, .int .u8 99, .int .u8 100, .int .u8 101, .int .u8 102] 5 (16, 17)) = w3 at E hT hsz ⊢
  rw [hgt] at E hT ⊢
  rw [hgd] at E hle2 ⊢
  go_wp2_with fail
  have hrl := isL_rcA (w := w3) (g := gt + 1) (A := some ⟨gt, 0, none⟩) (c := 16) (r := lvR) hsz hT lv_okR
  replace E := E.push 57 #[.int .i64 1, .int .i64 7, .int .i64 1, .int .i64 3, .int .i64 0, .int .i64 0, .slice (some ⟨gt, 0, none⟩) 16 16]
  rw [hsz] at E
  refine (hsg _ _ _ hrl).mono ?_
  rintro e w4 ⟨A4, c4, rfl, own4, hb4⟩
  replace E := E.step hb4
  clear hsg hrl hT hb4
  have hB4 : IsB w4 (fun b => w3.heap.size < b) (.slice A4 37 c4) lvB := (IsB.of_own (l := lvB) own4 (by decide)).more fun b hb => by rw [World.size_alloc] at hb; omega
  replace E := E.give Stable.bytes hB4
  clear own4 hB4
  obtain ⟨q0, f0, t0⟩ := E.rules m1
  go_wp2_with fail
  refine (hdo A c A4 c4 (fun b => b < w4.heap.size ∧ b ≠ gd) _ ((E.get m2).zlt.more fun b hb => ⟨hb.2, by have := hb.1.2; omega⟩) (fun b hb => hb.1) ((E.get m0).lt.more fun b hb => ⟨hb.2, by have := hb.1; omega⟩)).mono ?_
  rintro e w5 ⟨v1, v2, rfl, ⟨A5, c5, rfl, hz5, _⟩, ⟨A6, c6, rfl, _⟩, hb5⟩
  simp only [HD.out.1, HD.out.2.1, HD.out.2.2.1, HD.out.2.2.2, List.length_nil] at hz5 ⊢
  have tgd := (E.at_ m1).lt
  have hz6 := hz5.more (K' := fun b => b ≠ gd) (fun b hb => by rcases hb with hb | hb; exact hb.2; omega)
  replace E := (E.step hb5).give Stable.list hz6
  clear hdo hz5 hz6 hb5 q0 f0 t0
  obtain ⟨q0, f0, t0⟩ := E.rules m1
  go_upto_region 5 with fail
  refine at_st4s (K := fun W => Code.wp _ _ _ _ (W.alloc _)) (E.at_ m1) _ _ _ _ ?_
  intro w6 hs6 ht hB6
  have hb6 := Turned.upon E.below ht hle2 (Nat.le_refl _)
  have hT6 := (E.get m2).turned ht (fun b hb h => by omega)
  have hz6 := (E.get m0).turned ht (fun b hb h => hb h)
  replace E := (((Kn.from_ hb6 hb6.size).give Stable.bytes hT6).give Stable.list hz6).know hB6
  clear hB6 hT6 hz6 hb6 ht q0 f0 t0
  refine at_alloc (K := fun W => Code.wp _ _ _ _ W) ?_
  intro w7 hb7 hD7
  rw [hs6] at hD7
  replace E := (E.step hb7).know hD7
  generalize w5.heap.size = g6 at E hD7 ⊢
  clear hb7 hD7
  obtain ⟨q0, f0, t0⟩ := E.rules m1
  go_wp2_with fail
  refine (hmp A5 c5 _ _ (E.get m0)).mono ?_
  rintro e w8 ⟨mm, Am, cm, rfl, hmm, -, -, hL8, hb8⟩
  rw [HD.out.2.2.2] at HMM
  rw [HMM.out] at hmm
  injection hmm with hmm _
  subst hmm
  replace E := (E.step hb8).give Stable.list hL8
  clear hmp hb8 hL8 q0 f0 t0
  obtain ⟨q0, f0, t0⟩ := E.rules m1
  have hlm : lvM.length = 1 := rfl
  rw [hlm] at hby E ⊢
  go_wp2_with fail
  refine (hby A5 c5 Am cm _ _ _ (E.get m1) (E.get m0)).mono ?_
  rintro e w9 ⟨A9, c9, rfl, own9, hb9⟩
  replace E := (E.step hb9).give Stable.bytes (IsB.of_own (l := lvT ++ zeros 16) own9 (by decide))
  clear hby hb9 own9 q0 f0 t0
  obtain ⟨q0, f0, t0⟩ := E.rules m1
  go_wp2_with fail
  refine (hhd A5 c5 _ _ (E.get m2)).mono ?_
  rintro e w10 ⟨A10, c10, rfl, own10, hb10⟩
  replace E := E.step hb10
  clear hhd hb10 q0 f0 t0
  go_upto_region 8 with fail
  obtain ⟨am, rfl, -, k0, -, -, -, -⟩ := ex_at (E.get m1) (j := 0) (e := ⟨7, 1, 3, 0, 17⟩) rfl
  rw [Nat.zero_mul, addr0] at k0
  dsimp only at k0
  obtain ⟨ah, rfl, -, hc⟩ := (Reads.of_own own10).2 (by omega)
  have k1 : w10.cell? ah = some (.int .i64 1) := by have := hc 0 _ rfl; rwa [addr0] at this
  have k2 := hc 3 _ rfl
  rw [addrS _ 3 (by decide)] at k2
  have HK : Hid (∀ W, Below w10.heap.size w10 W → (∀ o, W.cell? ⟨g6, o, none⟩ = (#[.int .i64 0, .int .i64 0, .slice A6 0 c6] : Array Value)[o]?) ∧ (∀ o, W.cell? ⟨gd, o, none⟩ = (#[.int .i64 200, .int .i64 1, .int .i64 1, .slice A5 2 c5] : Array Value)[o]?) ∧ W.cell? am = some (.int .i64 7) ∧ W.cell? ah = some (.int .i64 1) ∧ W.cell? ⟨ah.block, ah.off + 3, none⟩ = some (.int .i64 (-1)) ∧
      (convert 32 9 (.slice A9 32 c9)).run Tryz.prog W = .ok (.string ⟨(lvT ++ zeros 16).toArray⟩) W ∧ (convert 32 9 (.slice (some ⟨gt, 0, none⟩) 16 16)).run Tryz.prog W = .ok (.string ⟨lvT.toArray⟩) W ∧ (Op.stringOp .add ⟨lvT.toArray⟩ ⟨(zeros 16).toArray⟩).run Tryz.prog W = .ok (.string ⟨(lvT ++ zeros 16).toArray⟩) W) :=
    Lib.hid fun W hb => by
      have F := E.step hb
      refine ⟨(F.rules m0).1, (F.rules m1).1, (hb.cell (World.block_lt_of_cell? _ _ k0)).trans k0, (hb.cell (World.block_lt_of_cell? _ _ k1)).trans k1, (hb.cell (World.block_lt_of_cell? _ _ k2)).trans k2, ?_, ?_, ?_⟩
      · exact run_string_of (P := Tryz.prog) (cap := c9) (n := 32) (l := lvT ++ zeros 16) W 32 9 5 Tryz.underlying32 Tryz.underlying5 Tryz.underlying9 rfl (IsB.open_ (F.get m0)).2.1
      · exact run_string_of (P := Tryz.prog) (cap := 16) (n := 16) (l := lvT) W 32 9 5 Tryz.underlying32 Tryz.underlying5 Tryz.underlying9 rfl (IsB.open_ (F.get m3)).2.1
      · have e : (⟨lvT.toArray⟩ : ByteArray) ++ ⟨(zeros 16).toArray⟩ = ⟨(lvT ++ zeros 16).toArray⟩ := ByteArray.ext (by simp)
        rw [run_string_add_sum W _ _ (by decide), e]
  have hmk : ∀ W : World, (Instr.makeSlice 32 (.int .i64 16) (.int .i64 16)).run Tryz.prog W = .ok (.slice (some ⟨W.heap.size, 0, none⟩) 16 16) (W.alloc (.cells (madeCells #[.int .u8 0] 16) 5)) := fun W => run_make_row' 32 5 (.int .u8 0) 1 Tryz.underlying32 Tryz.info5 rfl .i64 .i64 16 (by omega) (by omega) W
  clear k0 k1 k2 hc own10
  have hb0 : Below w10.heap.size w10 w10.drew := (Below.refl _ _).drew
  refine wp_region_held_drew (S := fun W => (∀ o, W.cell? ⟨g6, o, none⟩ = (#[.int .i64 0, .int .i64 0, .slice A6 0 c6] : Array Value)[o]?) ∧ (∀ o, W.cell? ⟨gd, o, none⟩ = (#[.int .i64 200, .int .i64 1, .int .i64 1, .slice A5 2 c5] : Array Value)[o]?) ∧ W.cell? am = some (.int .i64 7) ∧ W.cell? ah = some (.int .i64 1) ∧ W.cell? ⟨ah.block, ah.off + 3, none⟩ = some (.int .i64 (-1)) ∧
      (convert 32 9 (.slice A9 32 c9)).run Tryz.prog W = .ok (.string ⟨(lvT ++ zeros 16).toArray⟩) W ∧ (convert 32 9 (.slice (some ⟨gt, 0, none⟩) 16 16)).run Tryz.prog W = .ok (.string ⟨lvT.toArray⟩) W ∧ (Op.stringOp .add ⟨lvT.toArray⟩ ⟨(zeros 16).toArray⟩).run Tryz.prog W = .ok (.string ⟨(lvT ++ zeros 16).toArray⟩) W) (by kernel_rfl) (HK.out _ hb0) (fun hHeld => ?_)
  generalize w10.drew = w11 at hb0 hHeld ⊢
  refine wpAnyH_take (i := 0) (oi := ⟨some 46, _, _, _, _, _⟩) (v := ?_) rfl (by kernel_rfl) (by kernel_rfl) (by kernel_rfl) (fun _ _ _ h => h) (Or.inl ⟨by rfl, ?hy⟩) (by assumption) ?_
  case hy => intro w hSw; (try dsimp only at hSw); go_simp; with_reducible rfl
  try simp only [Act.put, List.setIfInBounds_toArray, List.set_cons_zero, List.set_cons_succ]
  refine wpAnyH_take (i := 1) (oi := ⟨some 47, _, _, _, _, _⟩) (v := ?_) rfl (by kernel_rfl) (by kernel_rfl) (by kernel_rfl) (fun _ _ _ h => h) (Or.inl ⟨by rfl, ?hy⟩) (by assumption) ?_
  case hy => intro w hSw; (try dsimp only at hSw); go_simp; with_reducible rfl
  try simp only [Act.put, List.setIfInBounds_toArray, List.set_cons_zero, List.set_cons_succ]
  refine wpAnyH_take (i := 2) (oi := ⟨some 48, _, _, _, _, _⟩) (v := ?_) rfl (by kernel_rfl) (by kernel_rfl) (by kernel_rfl) (fun _ _ _ h => h) (Or.inl ⟨by rfl, ?hy⟩) (by assumption) ?_
  case hy => intro w hSw; (try dsimp only at hSw); go_simp; with_reducible rfl
  try simp only [Act.put, List.setIfInBounds_toArray, List.set_cons_zero, List.set_cons_succ]
  refine wpAnyH_take (i := 3) (oi := ⟨some 49, _, _, _, _, _⟩) (v := ?_) rfl (by kernel_rfl) (by kernel_rfl) (by kernel_rfl) (fun _ _ _ h => h) (Or.inl ⟨by rfl, ?hy⟩) (by assumption) ?_
  case hy => intro w hSw; (try dsimp only at hSw); go_simp; with_reducible rfl
  try simp only [Act.put, List.setIfInBounds_toArray, List.set_cons_zero, List.set_cons_succ]
  refine wpAnyH_take (i := 4) (oi := ⟨some 50, _, _, _, _, _⟩) (v := ?_) rfl (by kernel_rfl) (by kernel_rfl) (by kernel_rfl) (fun _ _ _ h => h) (Or.inl ⟨by rfl, ?hy⟩) (by assumption) ?_
  case hy => intro w hSw; (try dsimp only at hSw); go_simp; with_reducible rfl
  try simp only [Act.put, List.setIfInBounds_toArray, List.set_cons_zero, List.set_cons_succ]
  refine wpAnyH_take (i := 5) (oi := ⟨some 51, _, _, _, _, _⟩) (v := ?_) rfl (by kernel_rfl) (by kernel_rfl) (by kernel_rfl) (fun _ _ _ h => h) (Or.inl ⟨by rfl, ?hy⟩) (by assumption) ?_
  case hy => intro w hSw; (try dsimp only at hSw); go_simp; with_reducible rfl
  try simp only [Act.put, List.setIfInBounds_toArray, List.set_cons_zero, List.set_cons_succ]
  refine wpAnyH_take (i := 6) (oi := ⟨some 52, _, _, _, _, _⟩) (v := ?_) rfl (by kernel_rfl) (by kernel_rfl) (by kernel_rfl) (fun _ _ _ h => h) (Or.inl ⟨by rfl, ?hy⟩) (by assumption) ?_
  case hy => intro w hSw; (try dsimp only at hSw); go_simp; with_reducible rfl
  try simp only [Act.put, List.setIfInBounds_toArray, List.set_cons_zero, List.set_cons_succ]
  refine wpAnyH_take (i := 7) (oi := ⟨some 53, _, _, _, _, _⟩) (v := ?_) rfl (by kernel_rfl) (by kernel_rfl) (by kernel_rfl) (fun _ _ _ h => h) (Or.inl ⟨by rfl, ?hy⟩) (by assumption) ?_
  case hy => intro w hSw; (try dsimp only at hSw); go_simp; with_reducible rfl
  try simp only [Act.put, List.setIfInBounds_toArray, List.set_cons_zero, List.set_cons_succ]
  refine wpAnyH_take (i := 8) (oi := ⟨some 54, _, _, _, _, _⟩) (v := ?_) rfl (by kernel_rfl) (by kernel_rfl) (by kernel_rfl) (fun _ _ _ h => h) (Or.inl ⟨by rfl, ?hy⟩) (by assumption) ?_
  case hy => intro w hSw; (try dsimp only at hSw); go_simp; with_reducible rfl
  try simp only [Act.put, List.setIfInBounds_toArray, List.set_cons_zero, List.set_cons_succ]
  refine wpAnyH_take (i := 9) (oi := ⟨some 55, _, _, _, _, _⟩) (v := ?_) rfl (by kernel_rfl) (by kernel_rfl) (by kernel_rfl) (fun _ _ _ h => h) (Or.inl ⟨by rfl, ?hy⟩) (by assumption) ?_
  case hy => intro w hSw; (try dsimp only at hSw); go_simp; with_reducible rfl
  try simp only [Act.put, List.setIfInBounds_toArray, List.set_cons_zero, List.set_cons_succ]
  refine wpAnyH_take (i := 10) (oi := ⟨some 56, _, _, _, _, _⟩) (v := ?_) rfl (by kernel_rfl) (by kernel_rfl) (by kernel_rfl) (fun _ _ _ h => h) (Or.inl ⟨by rfl, ?hy⟩) (by assumption) ?_
  case hy => intro w hSw; (try dsimp only at hSw); go_simp; with_reducible rfl
  try simp only [Act.put, List.setIfInBounds_toArray, List.set_cons_zero, List.set_cons_succ]
  refine wpAnyH_take (i := 11) (oi := ⟨some 57, _, _, _, _, _⟩) (v := ?_) rfl (by kernel_rfl) (by kernel_rfl) (by kernel_rfl) (fun _ _ _ h => h) (Or.inl ⟨by rfl, ?hy⟩) (by assumption) ?_
  case hy => intro w hSw; (try dsimp only at hSw); go_simp; with_reducible rfl
  try simp only [Act.put, List.setIfInBounds_toArray, List.set_cons_zero, List.set_cons_succ]
  refine wpAnyH_take (i := 12) (oi := ⟨some 58, _, _, _, _, _⟩) (v := ?_) rfl (by kernel_rfl) (by kernel_rfl) (by kernel_rfl) (fun _ _ _ h => h) (Or.inl ⟨by rfl, ?hy⟩) (by assumption) ?_
  case hy => intro w hSw; (try dsimp only at hSw); go_simp; with_reducible rfl
  try simp only [Act.put, List.setIfInBounds_toArray, List.set_cons_zero, List.set_cons_succ]
  refine wpAnyH_take (i := 13) (oi := ⟨some 59, _, _, _, _, _⟩) (v := ?_) rfl (by kernel_rfl) (by kernel_rfl) (by kernel_rfl) (fun _ _ _ h => h) (Or.inl ⟨by rfl, ?hy⟩) (by assumption) ?_
  case hy => intro w hSw; (try dsimp only at hSw); go_simp; with_reducible rfl
  try simp only [Act.put, List.setIfInBounds_toArray, List.set_cons_zero, List.set_cons_succ]
  refine wpAnyH_take (i := 14) (oi := ⟨some 60, _, _, _, _, _⟩) (v := ?_) rfl (by kernel_rfl) (by kernel_rfl) (by kernel_rfl) (fun _ _ _ h => h) (Or.inl ⟨by rfl, ?hy⟩) (by assumption) ?_
  case hy => intro w hSw; (try dsimp only at hSw); go_simp; with_reducible rfl
  try simp only [Act.put, List.setIfInBounds_toArray, List.set_cons_zero, List.set_cons_succ]
  refine wpAnyH_take (i := 15) (oi := ⟨some 61, _, _, _, _, _⟩) (v := ?_) rfl (by kernel_rfl) (by kernel_rfl) (by kernel_rfl) (fun _ _ _ h => h) (Or.inl ⟨by rfl, ?hy⟩) (by assumption) ?_
  case hy => intro w hSw; (try dsimp only at hSw); go_simp; with_reducible rfl
  try simp only [Act.put, List.setIfInBounds_toArray, List.set_cons_zero, List.set_cons_succ]
  refine wpAnyH_take (i := 16) (oi := ⟨some 62, _, _, _, _, _⟩) (v := ?_) rfl (by kernel_rfl) (by kernel_rfl) (by kernel_rfl) (fun _ _ _ h => h) (Or.inl ⟨by rfl, ?hy⟩) (by assumption) ?_
  case hy => intro w hSw; (try dsimp only at hSw); go_simp; with_reducible rfl
  try simp only [Act.put, List.setIfInBounds_toArray, List.set_cons_zero, List.set_cons_succ]
  refine wpAnyH_take (i := 17) (oi := ⟨some 63, _, _, _, _, _⟩) (v := ?_) rfl (by kernel_rfl) (by kernel_rfl) (by kernel_rfl) (fun _ _ _ h => h) (Or.inl ⟨by rfl, ?hy⟩) (by assumption) ?_
  case hy => intro w hSw; (try dsimp only at hSw); go_simp; with_reducible rfl
  try simp only [Act.put, List.setIfInBounds_toArray, List.set_cons_zero, List.set_cons_succ]
  refine wpAnyH_take (i := 18) (oi := ⟨some 64, _, _, _, _, _⟩) (v := ?_) rfl (by kernel_rfl) (by kernel_rfl) (by kernel_rfl) (fun _ _ _ h => h) (Or.inl ⟨by rfl, ?hy⟩) (by assumption) ?_
  case hy => intro w hSw; (try dsimp only at hSw); go_simp; with_reducible rfl
  try simp only [Act.put, List.setIfInBounds_toArray, List.set_cons_zero, List.set_cons_succ]
  refine wpAnyH_take (i := 19) (oi := ⟨some 65, _, _, _, _, _⟩) (v := ?_) rfl (by kernel_rfl) (by kernel_rfl) (by kernel_rfl) (fun _ _ _ h => h) (Or.inl ⟨by rfl, ?hy⟩) (by assumption) ?_
  case hy => intro w hSw; (try dsimp only at hSw); go_simp; with_reducible rfl
  try simp only [Act.put, List.setIfInBounds_toArray, List.set_cons_zero, List.set_cons_succ]
  refine wpAnyH_take (i := 20) (oi := ⟨some 66, _, _, _, _, _⟩) (v := ?_) rfl (by kernel_rfl) (by kernel_rfl) (by kernel_rfl) (fun _ _ _ h => h) (Or.inl ⟨by rfl, ?hy⟩) (by assumption) ?_
  case hy => intro w hSw; (try dsimp only at hSw); go_simp; with_reducible rfl
  try simp only [Act.put, List.setIfInBounds_toArray, List.set_cons_zero, List.set_cons_succ]
  refine wpAnyH_take (i := 21) (oi := ⟨some 67, _, _, _, _, _⟩) (v := ?_) rfl (by kernel_rfl) (by kernel_rfl) (by kernel_rfl) (fun _ _ _ h => h) (Or.inl ⟨by rfl, ?hy⟩) (by assumption) ?_
  case hy => intro w hSw; (try dsimp only at hSw); go_simp; with_reducible rfl
  try simp only [Act.put, List.setIfInBounds_toArray, List.set_cons_zero, List.set_cons_succ]
  refine wpAnyH_take (i := 22) (oi := ⟨some 68, _, _, _, _, _⟩) (v := ?_) rfl (by kernel_rfl) (by kernel_rfl) (by kernel_rfl) (fun _ _ _ h => h) (Or.inl ⟨by rfl, ?hy⟩) (by assumption) ?_
  case hy => intro w hSw; (try dsimp only at hSw); go_simp; with_reducible rfl
  try simp only [Act.put, List.setIfInBounds_toArray, List.set_cons_zero, List.set_cons_succ]
  refine wpAnyH_take (i := 23) (oi := ⟨some 69, _, _, _, _, _⟩) (v := ?_) rfl (by kernel_rfl) (by kernel_rfl) (by kernel_rfl) (fun _ _ _ h => h) (Or.inl ⟨by rfl, ?hy⟩) (by assumption) ?_
  case hy => intro w hSw; (try dsimp only at hSw); go_simp; with_reducible rfl
  try simp only [Act.put, List.setIfInBounds_toArray, List.set_cons_zero, List.set_cons_succ]
  refine wpAnyH_take (i := 24) (oi := ⟨some 70, _, _, _, _, _⟩) (v := ?_) rfl (by kernel_rfl) (by kernel_rfl) (by kernel_rfl) (fun _ _ _ h => h) (Or.inl ⟨by rfl, ?hy⟩) (by assumption) ?_
  case hy => intro w hSw; (try dsimp only at hSw); go_simp; with_reducible rfl
  try simp only [Act.put, List.setIfInBounds_toArray, List.set_cons_zero, List.set_cons_succ]
  refine wpAnyH_take (i := 25) (oi := ⟨some 71, _, _, _, _, _⟩) (v := ?_) rfl (by kernel_rfl) (by kernel_rfl) (by kernel_rfl) (fun _ _ _ h => h) (Or.inl ⟨by rfl, ?hy⟩) (by assumption) ?_
  case hy => intro w hSw; (try dsimp only at hSw); go_simp; with_reducible rfl
  try simp only [Act.put, List.setIfInBounds_toArray, List.set_cons_zero, List.set_cons_succ]
  refine wpAnyH_take (i := 26) (oi := ⟨some 72, _, _, _, _, _⟩) (v := ?_) rfl (by kernel_rfl) (by kernel_rfl) (by kernel_rfl) (fun _ _ _ h => h) (Or.inl ⟨by rfl, ?hy⟩) (by assumption) ?_
  case hy => intro w hSw; (try dsimp only at hSw); go_simp; with_reducible rfl
  try simp only [Act.put, List.setIfInBounds_toArray, List.set_cons_zero, List.set_cons_succ]
  refine wpAnyH_take (i := 27) (oi := ⟨some 73, _, _, _, _, _⟩) (v := ?_) rfl (by kernel_rfl) (by kernel_rfl) (by kernel_rfl) (fun _ _ _ h => h) (Or.inl ⟨by rfl, ?hy⟩) (by assumption) ?_
  case hy => intro w hSw; (try dsimp only at hSw); go_simp; with_reducible rfl
  try simp only [Act.put, List.setIfInBounds_toArray, List.set_cons_zero, List.set_cons_succ]
  refine wpAnyH_take (i := 28) (oi := ⟨some 74, _, _, _, _, _⟩) (v := ?_) rfl (by kernel_rfl) (by kernel_rfl) (by kernel_rfl) (fun _ _ _ h => h) (Or.inl ⟨by rfl, ?hy⟩) (by assumption) ?_
  case hy => intro w hSw; (try dsimp only at hSw); go_simp; with_reducible rfl
  try simp only [Act.put, List.setIfInBounds_toArray, List.set_cons_zero, List.set_cons_succ]
  refine wpAnyH_take (i := 29) (oi := ⟨some 75, _, _, _, _, _⟩) (v := ?_) rfl (by kernel_rfl) (by kernel_rfl) (by kernel_rfl) (fun _ _ _ h => h) (Or.inl ⟨by rfl, ?hy⟩) (by assumption) ?_
  case hy => intro w hSw; (try dsimp only at hSw); go_simp; with_reducible rfl
  try simp only [Act.put, List.setIfInBounds_toArray, List.set_cons_zero, List.set_cons_succ]
  refine wpAnyH_take (i := 30) (oi := ⟨some 76, _, _, _, _, _⟩) (v := ?_) rfl (by kernel_rfl) (by kernel_rfl) (by kernel_rfl) (fun _ _ _ h => h) (Or.inl ⟨by rfl, ?hy⟩) (by assumption) ?_
  case hy => intro w hSw; (try dsimp only at hSw); go_simp; with_reducible rfl
  try simp only [Act.put, List.setIfInBounds_toArray, List.set_cons_zero, List.set_cons_succ]
  refine wpAnyH_take (i := 31) (oi := ⟨some 77, _, _, _, _, _⟩) (v := ?_) rfl (by kernel_rfl) (by kernel_rfl) (by kernel_rfl) (fun _ _ _ h => h) (Or.inl ⟨by rfl, ?hy⟩) (by assumption) ?_
  case hy => intro w hSw; (try dsimp only at hSw); go_simp; with_reducible rfl
  try simp only [Act.put, List.setIfInBounds_toArray, List.set_cons_zero, List.set_cons_succ]
  refine wpAnyH_take (i := 32) (oi := ⟨some 78, _, _, _, _, _⟩) (v := ?_) rfl (by kernel_rfl) (by kernel_rfl) (by kernel_rfl) (fun _ _ _ h => h) (Or.inl ⟨by rfl, ?hy⟩) (by assumption) ?_
  case hy => intro w hSw; (try dsimp only at hSw); go_simp; with_reducible rfl
  try simp only [Act.put, List.setIfInBounds_toArray, List.set_cons_zero, List.set_cons_succ]
  refine wpAnyH_take (i := 33) (oi := ⟨some 79, _, _, _, _, _⟩) (v := ?_) rfl (by kernel_rfl) (by kernel_rfl) (by kernel_rfl) (fun _ _ _ h => h) (Or.inl ⟨by rfl, ?hy⟩) (by assumption) ?_
  case hy => intro w hSw; (try dsimp only at hSw); go_simp; with_reducible rfl
  try simp only [Act.put, List.setIfInBounds_toArray, List.set_cons_zero, List.set_cons_succ]
  refine wpAnyH_take (i := 34) (oi := ⟨some 80, _, _, _, _, _⟩) (v := ?_) rfl (by kernel_rfl) (by kernel_rfl) (by kernel_rfl) (fun _ _ _ h => h) (Or.inl ⟨by rfl, ?hy⟩) (by assumption) ?_
  case hy => intro w hSw; (try dsimp only at hSw); go_simp; with_reducible rfl
  try simp only [Act.put, List.setIfInBounds_toArray, List.set_cons_zero, List.set_cons_succ]
  refine wpAnyH_take (i := 35) (oi := ⟨some 81, _, _, _, _, _⟩) (v := ?_) rfl (by kernel_rfl) (by kernel_rfl) (by kernel_rfl) (fun _ _ _ h => h) (Or.inl ⟨by rfl, ?hy⟩) (by assumption) ?_
  case hy => intro w hSw; (try dsimp only at hSw); go_simp; with_reducible rfl
  try simp only [Act.put, List.setIfInBounds_toArray, List.set_cons_zero, List.set_cons_succ]
  refine wpAnyH_ready (rs := [36]) (by kernel_rfl) (by simp) ?_
  refine AllReadyH.cons (o := ⟨some 82, _, _, _, _, _⟩) rfl (fun K hK => ?_) AllReadyH.nil
  go_simp
  refine at_alloc (K := K _) ?_
  intro w12 hb12 hB12
  replace hb12 := hb0.trans (hb12.mono hb0.size)
  refine hK.out _ _ (HK.out _ hb12) (fun hHeld => ?_)
  clear hK K
  try simp only [Act.put, List.setIfInBounds_toArray, List.set_cons_zero, List.set_cons_succ]
  refine wpAnyH_ready (rs := [37]) (by kernel_rfl) (by simp) ?_
  refine AllReadyH.cons (o := ⟨some 83, _, _, _, _, _⟩) rfl (fun K hK => ?_) AllReadyH.nil
  have hs3 := run_string_of (P := Tryz.prog) (cap := 16) (n := 16) (l := zeros 16) (A := some ⟨w11.heap.size, 0, none⟩) w12 32 9 5 Tryz.underlying32 Tryz.underlying5 Tryz.underlying9 rfl (K := fun _ => True) ⟨rfl, fun _ => ⟨_, rfl, trivial, fun j u hu => by have := hB12.cell j; rw [show (⟨w11.heap.size, 0, none⟩ : Addr).add j = ⟨w11.heap.size, j, none⟩ by unfold Addr.add; split <;> simp_all, this, ← Array.getElem?_toList, made_zero]; exact hu⟩⟩
  go_simp
  refine hK.out _ _ (HK.out _ hb12) (fun hHeld => ?_)
  clear hK K
  try simp only [Act.put, List.setIfInBounds_toArray, List.set_cons_zero, List.set_cons_succ]
  refine wpAnyH_take (i := 38) (oi := ⟨some 84, _, _, _, _, _⟩) (v := ?_) rfl (by kernel_rfl) (by kernel_rfl) (by kernel_rfl) (fun _ _ _ h => h) (Or.inl ⟨by rfl, ?hy⟩) (by assumption) ?_
  case hy => intro w hSw; (try dsimp only at hSw); go_simp; with_reducible rfl
  try simp only [Act.put, List.setIfInBounds_toArray, List.set_cons_zero, List.set_cons_succ]
  refine wpAnyH_take (i := 39) (oi := ⟨some 85, _, _, _, _, _⟩) (v := ?_) rfl (by kernel_rfl) (by kernel_rfl) (by kernel_rfl) (fun _ _ _ h => h) (Or.inl ⟨by rfl, ?hy⟩) (by assumption) ?_
  case hy => intro w hSw; (try dsimp only at hSw); go_simp; with_reducible rfl
  try simp only [Act.put, List.setIfInBounds_toArray, List.set_cons_zero, List.set_cons_succ]
  refine wpAnyH_take (i := 40) (oi := ⟨some 86, _, _, _, _, _⟩) (v := ?_) rfl (by kernel_rfl) (by kernel_rfl) (by kernel_rfl) (fun _ _ _ h => h) (Or.inl ⟨by rfl, ?hy⟩) (by assumption) ?_
  case hy => intro w hSw; (try dsimp only at hSw); go_simp; with_reducible rfl
  try simp only [Act.put, List.setIfInBounds_toArray, List.set_cons_zero, List.set_cons_succ]
  refine wpAnyH_take (i := 41) (oi := ⟨some 87, _, _, _, _, _⟩) (v := ?_) rfl (by kernel_rfl) (by kernel_rfl) (by kernel_rfl) (fun _ _ _ h => h) (Or.inl ⟨by rfl, ?hy⟩) (by assumption) ?_
  case hy => intro w hSw; (try dsimp only at hSw); go_simp; with_reducible rfl
  try simp only [Act.put, List.setIfInBounds_toArray, List.set_cons_zero, List.set_cons_succ]
  refine wpAnyH_take (i := 42) (oi := ⟨some 88, _, _, _, _, _⟩) (v := ?_) rfl (by kernel_rfl) (by kernel_rfl) (by kernel_rfl) (fun _ _ _ h => h) (Or.inl ⟨by rfl, ?hy⟩) (by assumption) ?_
  case hy => intro w hSw; (try dsimp only at hSw); go_simp; with_reducible rfl
  try simp only [Act.put, List.setIfInBounds_toArray, List.set_cons_zero, List.set_cons_succ]
  refine wpAnyH_take (i := 43) (oi := ⟨some 89, _, _, _, _, _⟩) (v := ?_) rfl (by kernel_rfl) (by kernel_rfl) (by kernel_rfl) (fun _ _ _ h => h) (Or.inl ⟨by rfl, ?hy⟩) (by assumption) ?_
  case hy => intro w hSw; (try dsimp only at hSw); go_simp; with_reducible rfl
  try simp only [Act.put, List.setIfInBounds_toArray, List.set_cons_zero, List.set_cons_succ]
  refine wpAnyH_take (i := 44) (oi := ⟨some 90, _, _, _, _, _⟩) (v := ?_) rfl (by kernel_rfl) (by kernel_rfl) (by kernel_rfl) (fun _ _ _ h => h) (Or.inl ⟨by rfl, ?hy⟩) (by assumption) ?_
  case hy => intro w hSw; (try dsimp only at hSw); go_simp; with_reducible rfl
  try simp only [Act.put, List.setIfInBounds_toArray, List.set_cons_zero, List.set_cons_succ]
  refine wpAnyH_take (i := 45) (oi := ⟨some 91, _, _, _, _, _⟩) (v := ?_) rfl (by kernel_rfl) (by kernel_rfl) (by kernel_rfl) (fun _ _ _ h => h) (Or.inl ⟨by rfl, ?hy⟩) (by assumption) ?_
  case hy => intro w hSw; (try dsimp only at hSw); go_simp; with_reducible rfl
  try simp only [Act.put, List.setIfInBounds_toArray, List.set_cons_zero, List.set_cons_succ]
  refine wpAnyH_take (i := 46) (oi := ⟨some 92, _, _, _, _, _⟩) (v := ?_) rfl (by kernel_rfl) (by kernel_rfl) (by kernel_rfl) (fun _ _ _ h => h) (Or.inl ⟨by rfl, ?hy⟩) (by assumption) ?_
  case hy => intro w hSw; (try dsimp only at hSw); go_simp; with_reducible rfl
  try simp only [Act.put, List.setIfInBounds_toArray, List.set_cons_zero, List.set_cons_succ]
  refine wpAnyH_take (i := 47) (oi := ⟨some 93, _, _, _, _, _⟩) (v := ?_) rfl (by kernel_rfl) (by kernel_rfl) (by kernel_rfl) (fun _ _ _ h => h) (Or.inl ⟨by rfl, ?hy⟩) (by assumption) ?_
  case hy => intro w hSw; (try dsimp only at hSw); go_simp; with_reducible rfl
  try simp only [Act.put, List.setIfInBounds_toArray, List.set_cons_zero, List.set_cons_succ]
  refine wpAnyH_take (i := 48) (oi := ⟨some 94, _, _, _, _, _⟩) (v := ?_) rfl (by kernel_rfl) (by kernel_rfl) (by kernel_rfl) (fun _ _ _ h => h) (Or.inl ⟨by rfl, ?hy⟩) (by assumption) ?_
  case hy => intro w hSw; (try dsimp only at hSw); go_simp; with_reducible rfl
  try simp only [Act.put, List.setIfInBounds_toArray, List.set_cons_zero, List.set_cons_succ]
  refine wpAnyH_take (i := 49) (oi := ⟨some 95, _, _, _, _, _⟩) (v := ?_) rfl (by kernel_rfl) (by kernel_rfl) (by kernel_rfl) (fun _ _ _ h => h) (Or.inl ⟨by rfl, ?hy⟩) (by assumption) ?_
  case hy => intro w hSw; (try dsimp only at hSw); go_simp; with_reducible rfl
  try simp only [Act.put, List.setIfInBounds_toArray, List.set_cons_zero, List.set_cons_succ]
  refine wpAnyH_take (i := 50) (oi := ⟨some 96, _, _, _, _, _⟩) (v := ?_) rfl (by kernel_rfl) (by kernel_rfl) (by kernel_rfl) (fun _ _ _ h => h) (Or.inl ⟨by rfl, ?hy⟩) (by assumption) ?_
  case hy => intro w hSw; (try dsimp only at hSw); go_simp; with_reducible rfl
  try simp only [Act.put, List.setIfInBounds_toArray, List.set_cons_zero, List.set_cons_succ]
  refine wpAnyH_take (i := 51) (oi := ⟨some 97, _, _, _, _, _⟩) (v := ?_) rfl (by kernel_rfl) (by kernel_rfl) (by kernel_rfl) (fun _ _ _ h => h) (Or.inl ⟨by rfl, ?hy⟩) (by assumption) ?_
  case hy => intro w hSw; (try dsimp only at hSw); go_simp; with_reducible rfl
  try simp only [Act.put, List.setIfInBounds_toArray, List.set_cons_zero, List.set_cons_succ]
  refine wpAnyH_take (i := 52) (oi := ⟨some 98, _, _, _, _, _⟩) (v := ?_) rfl (by kernel_rfl) (by kernel_rfl) (by kernel_rfl) (fun _ _ _ h => h) (Or.inl ⟨by rfl, ?hy⟩) (by assumption) ?_
  case hy => intro w hSw; (try dsimp only at hSw); go_simp; with_reducible rfl
  try simp only [Act.put, List.setIfInBounds_toArray, List.set_cons_zero, List.set_cons_succ]
  refine wpAnyH_take (i := 53) (oi := ⟨some 99, _, _, _, _, _⟩) (v := ?_) rfl (by kernel_rfl) (by kernel_rfl) (by kernel_rfl) (fun _ _ _ h => h) (Or.inl ⟨by rfl, ?hy⟩) (by assumption) ?_
  case hy => intro w hSw; (try dsimp only at hSw); go_simp; with_reducible rfl
  try simp only [Act.put, List.setIfInBounds_toArray, List.set_cons_zero, List.set_cons_succ]
  refine wpAnyH_take (i := 54) (oi := ⟨some 100, _, _, _, _, _⟩) (v := ?_) rfl (by kernel_rfl) (by kernel_rfl) (by kernel_rfl) (fun _ _ _ h => h) (Or.inl ⟨by rfl, ?hy⟩) (by assumption) ?_
  case hy => intro w hSw; (try dsimp only at hSw); go_simp; with_reducible rfl
  try simp only [Act.put, List.setIfInBounds_toArray, List.set_cons_zero, List.set_cons_succ]
  refine wpAnyH_take (i := 55) (oi := ⟨some 101, _, _, _, _, _⟩) (v := ?_) rfl (by kernel_rfl) (by kernel_rfl) (by kernel_rfl) (fun _ _ _ h => h) (Or.inl ⟨by rfl, ?hy⟩) (by assumption) ?_
  case hy => intro w hSw; (try dsimp only at hSw); go_simp; with_reducible rfl
  try simp only [Act.put, List.setIfInBounds_toArray, List.set_cons_zero, List.set_cons_succ]
  refine wpAnyH_take (i := 56) (oi := ⟨some 102, _, _, _, _, _⟩) (v := ?_) rfl (by kernel_rfl) (by kernel_rfl) (by kernel_rfl) (fun _ _ _ h => h) (Or.inl ⟨by rfl, ?hy⟩) (by assumption) ?_
  case hy => intro w hSw; (try dsimp only at hSw); go_simp; with_reducible rfl
  try simp only [Act.put, List.setIfInBounds_toArray, List.set_cons_zero, List.set_cons_succ]
  refine wpAnyH_take (i := 57) (oi := ⟨some 103, _, _, _, _, _⟩) (v := ?_) rfl (by kernel_rfl) (by kernel_rfl) (by kernel_rfl) (fun _ _ _ h => h) (Or.inl ⟨by rfl, ?hy⟩) (by assumption) ?_
  case hy => intro w hSw; (try dsimp only at hSw); go_simp; with_reducible rfl
  try simp only [Act.put, List.setIfInBounds_toArray, List.set_cons_zero, List.set_cons_succ]
  refine wpAnyH_take (i := 58) (oi := ⟨some 104, _, _, _, _, _⟩) (v := ?_) rfl (by kernel_rfl) (by kernel_rfl) (by kernel_rfl) (fun _ _ _ h => h) (Or.inl ⟨by rfl, ?hy⟩) (by assumption) ?_
  case hy => intro w hSw; (try dsimp only at hSw); go_simp; with_reducible rfl
  try simp only [Act.put, List.setIfInBounds_toArray, List.set_cons_zero, List.set_cons_succ]
  refine wpAnyH_take (i := 59) (oi := ⟨some 105, _, _, _, _, _⟩) (v := ?_) rfl (by kernel_rfl) (by kernel_rfl) (by kernel_rfl) (fun _ _ _ h => h) (Or.inl ⟨by rfl, ?hy⟩) (by assumption) ?_
  case hy => intro w hSw; (try dsimp only at hSw); go_simp; with_reducible rfl
  try simp only [Act.put, List.setIfInBounds_toArray, List.set_cons_zero, List.set_cons_succ]
  refine wpAnyH_take (i := 60) (oi := ⟨some 106, _, _, _, _, _⟩) (v := ?_) rfl (by kernel_rfl) (by kernel_rfl) (by kernel_rfl) (fun _ _ _ h => h) (Or.inl ⟨by rfl, ?hy⟩) (by assumption) ?_
  case hy => intro w hSw; (try dsimp only at hSw); go_simp; with_reducible rfl
  try simp only [Act.put, List.setIfInBounds_toArray, List.set_cons_zero, List.set_cons_succ]
  refine wpAnyH_take (i := 61) (oi := ⟨some 107, _, _, _, _, _⟩) (v := ?_) rfl (by kernel_rfl) (by kernel_rfl) (by kernel_rfl) (fun _ _ _ h => h) (Or.inl ⟨by rfl, ?hy⟩) (by assumption) ?_
  case hy => intro w hSw; (try dsimp only at hSw); go_simp; with_reducible rfl
  try simp only [Act.put, List.setIfInBounds_toArray, List.set_cons_zero, List.set_cons_succ]
  refine wpAnyH_ready (rs := [62]) (by kernel_rfl) (by simp) ?_
  refine AllReadyH.cons (o := ⟨some 108, _, _, _, _, _⟩) rfl (fun K hK => ?_) AllReadyH.nil
  go_simp
  refine (hnv A5 c5 _ _ ((E.step hb12).get m2)).mono ?_
  rintro e w13 ⟨rfl, hb13⟩
  replace hb13 := hb12.trans (hb13.mono hb12.size)
  go_wp2_with fail
  refine hK.out _ _ (HK.out _ hb13) (fun hHeld => ?_)
  clear hK K
  try simp only [Act.put, List.setIfInBounds_toArray, List.set_cons_zero, List.set_cons_succ]
  refine wpAnyH_take (i := 63) (oi := ⟨some 109, _, _, _, _, _⟩) (v := ?_) rfl (by kernel_rfl) (by kernel_rfl) (by kernel_rfl) (fun _ _ _ h => h) (Or.inl ⟨by rfl, ?hy⟩) (by assumption) ?_
  case hy => intro w hSw; (try dsimp only at hSw); go_simp; with_reducible rfl
  try simp only [Act.put, List.setIfInBounds_toArray, List.set_cons_zero, List.set_cons_succ]
  refine wpAnyH_take (i := 64) (oi := ⟨some 110, _, _, _, _, _⟩) (v := ?_) rfl (by kernel_rfl) (by kernel_rfl) (by kernel_rfl) (fun _ _ _ h => h) (Or.inl ⟨by rfl, ?hy⟩) (by assumption) ?_
  case hy => intro w hSw; (try dsimp only at hSw); go_simp; with_reducible rfl
  try simp only [Act.put, List.setIfInBounds_toArray, List.set_cons_zero, List.set_cons_succ]
  refine wpAnyH_take (i := 65) (oi := ⟨some 0, _, _, _, _, _⟩) (v := ?_) rfl (by kernel_rfl) (by kernel_rfl) (by kernel_rfl) (fun _ _ _ h => h) (Or.inl ⟨by rfl, ?hy⟩) (by assumption) ?_
  case hy => intro w hSw; (try dsimp only at hSw); go_simp; with_reducible rfl
  try simp only [Act.put, List.setIfInBounds_toArray, List.set_cons_zero, List.set_cons_succ]
  refine wpAnyH_done (by kernel_rfl) ?_ _
  go_wp2
  go_ret
  refine ⟨?_, E.below.trans (hb13.mono E.below.size)⟩
  simp [go_sem]
end Go.Proofs.YtlippmghgagdaaaGreat
