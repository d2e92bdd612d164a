/- The walks of wire.Msg, TakeMsg. -/
import Derived.Test.YtbjgemipmlimoaaWireNums
import Derived.Test.YtbjgemipmlimoaaWireTakes
import Derived.Test.YtbjgemipmlimoaaMsg
import Derived.Test.YtbjgemipmlimoaaSl64
namespace Go.Proofs.Ytbjgemipmlimoaa
open Go.RowKit

/-- a message's numbers -/
def headM (m : Ms) : List Int := [m.kind, m.frm, m.to, m.id, (m.args.length : Int)]
/-- what Msg answers -/
def msgL (m : Ms) : List UInt8 × Int :=
  if (numsL (headM m ++ m.args)).2 ≠ 0 then ([], (numsL (headM m ++ m.args)).2) else if 64 < m.args.length then ([], 2) else if (vecL m.data).2 ≠ 0 then ([], (vecL m.data).2)
  else ((numsL (headM m ++ m.args)).1 ++ (vecL m.data).1, 0)

/-- a message's value, its parts given -/
def mv (m : Ms) (A1 : Option Addr) (c1 : Nat) (A2 : Option Addr) (c2 : Nat) : Value :=
  .agg #[.int .i64 m.kind, .int .i64 m.frm, .int .i64 m.to, .int .i64 m.id, .slice A1 m.args.length c1, .slice A2 m.data.length c2]
/-- v is the message m -/
def IsM (w : World) (K : Nat → Prop) (v : Value) (m : Ms) : Prop := ∃ A1 c1 A2 c2, v = mv m A1 c1 A2 c2 ∧ IsL Rp.int w K (.slice A1 m.args.length c1) m.args ∧ IsB w K (.slice A2 m.data.length c2) m.data ∧ I63 [m.kind, m.frm, m.to, m.id]
theorem IsM.step {w w' : World} {K : Nat → Prop} {v : Value} {m : Ms} (h : IsM w K v m) (hb : Below w.heap.size w w') : IsM w' K v m := by
  obtain ⟨A1, c1, A2, c2, e, h1, h2, h3⟩ := h; exact ⟨A1, c1, A2, c2, e, h1.step hb, h2.step hb, h3⟩
theorem IsM.more {w : World} {K K' : Nat → Prop} {v : Value} {m : Ms} (h : IsM w K v m) (hk : ∀ b, K b → K' b) : IsM w K' v m := by
  obtain ⟨A1, c1, A2, c2, e, h1, h2, h3⟩ := h; exact ⟨A1, c1, A2, c2, e, h1.more hk, h2.more hk, h3⟩
theorem Stable.msg {K : Nat → Prop} {v : Value} {m : Ms} : Stable (fun w => IsM w K v m) := fun _ _ h hb => h.step hb

theorem IsL.of_ints {w : World} {base : Nat} {A : Option Addr} {c : Nat} {l : List Int} (h : w.ownsRow base 3 1 (.slice A l.length c) l.length (l.map I64)) (h63 : I63 l) (hl : l.length ≤ 140737488355328) : IsL Rp.int w (fun b => base ≤ b) (.slice A l.length c) l :=
  ⟨A, c, l.map I64, rfl, Reads.of_own_ge h, cells_ints h63, own_cap h, own_cap63 h, hl⟩

set_option maxRecDepth 100000 in
set_option maxHeartbeats 1000000 in
theorem wmsg_any (v : Value) (m : Ms) (K : Nat → Prop) (w : World) (hv : IsM w K v m) (hl : m.args.length ≤ 17592186043904) :
    Calls Try.prog 40 #[v] w fun e w' => ∃ A' c', e = .returned (.tuple #[.slice A' (msgL m).1.length c', .int .i64 (msgL m).2]) ∧
      w'.ownsRow w.heap.size 5 1 (.slice A' (msgL m).1.length c') (msgL m).1.length (cells8 (msgL m).1) ∧ Below w.heap.size w w' := by
  obtain ⟨i0, hi, hz0, hz1, hz2⟩ := info_parts Try.info5
  obtain ⟨A1, c1, A2, c2, rfl, h1, h2, h3⟩ := hv
  have h1' := h1
  obtain ⟨_, ⟨cs, hr1, hcl⟩, hlc, hcc, _⟩ := h1'.open_
  obtain ⟨rfl, ha63⟩ := ints_cells hcl
  have hd := h2.len
  unfold mv
  obtain ⟨r, hr⟩ : ∃ r, numsL (headM m ++ m.args) = r := ⟨_, rfl⟩
  obtain ⟨s, hs⟩ : ∃ s, vecL m.data = s := ⟨_, rfl⟩
  have hm : msgL m = if r.2 ≠ 0 then ([], r.2) else if 64 < m.args.length then ([], 2) else if s.2 ≠ 0 then ([], s.2) else (r.1 ++ s.1, 0) := by unfold msgL; rw [hr, hs]
  obtain ⟨res, hres⟩ : ∃ res, res = msgL m := ⟨_, rfl⟩
  rw [← hres]
  rw [← hres] at hm
  clear hres
  have hall63 : I63 (headM m ++ m.args) := by
    intro n hn
    rcases List.mem_append.1 hn with hn | hn
    · unfold headM at hn
      simp only [List.mem_cons, List.not_mem_nil, or_false] at hn
      rcases hn with rfl | rfl | rfl | rfl | rfl
      · exact h3 _ (by simp)
      · exact h3 _ (by simp)
      · exact h3 _ (by simp)
      · exact h3 _ (by simp)
      · omega
    · exact ha63 n hn
  have hrl : r.1.length ≤ 10 * (5 + m.args.length) := by
    rw [← hr]; unfold numsL
    split
    · have := flatN_len hall63; rw [List.length_append] at this; simp [headM] at this ⊢; omega
    · simp
  have hsl : s.1.length ≤ 65546 := by
    rw [← hs]; unfold vecL
    split
    · have := putL_len10 (n := m.data.length) (by omega); rw [List.length_append]; omega
    · simp
  have hn2 : (headM m ++ m.args).length = 5 + m.args.length := by rw [List.length_append]; rfl
  have hcells : (headM m ++ m.args).map I64 = [.int .i64 m.kind, .int .i64 m.frm, .int .i64 m.to, .int .i64 m.id, .int .i64 (m.args.length : Int)] ++ m.args.map I64 := by rw [List.map_append]; rfl
  generalize hall : headM m ++ m.args = all at hr hall63 hn2 hcells
  obtain ⟨rb, re⟩ := r
  obtain ⟨sb, se⟩ := s
  simp only at hrl hsl hm
  have HM := Lib.hid hm
  have HR := Lib.hid hr; clear hr hm
  have HS := Lib.hid hs; clear hs
  have H63 := Lib.hid hall63; clear hall63
  have HN := Lib.hid hn2; clear hn2
  have HCL := Lib.hid hcells; clear hcells hall
  have E := ((((Kn.start w).give Stable.list h1).give Stable.bytes h2).push 45 #[.int .i64 m.kind, .int .i64 m.frm, .int .i64 m.to, .int .i64 m.id, .slice A1 m.args.length c1, .slice A2 m.data.length c2]).push 3 #[.int .i64 m.kind, .int .i64 m.frm, .int .i64 m.to, .int .i64 m.id, .int .i64 (m.args.length : Int)]
  have hg5 : (w.alloc (.cells #[.int .i64 m.kind, .int .i64 m.frm, .int .i64 m.to, .int .i64 m.id, .slice A1 m.args.length c1, .slice A2 m.data.length c2] 45)).heap.size = w.heap.size + 1 := by simp
  rw [hg5] at E
  have hnew := Reads.new (w := w.alloc (.cells #[.int .i64 m.kind, .int .i64 m.frm, .int .i64 m.to, .int .i64 m.id, .slice A1 m.args.length c1, .slice A2 m.data.length c2] 45)) (e := 3) (fr := (0, 0)) (size := 1) (n := 5) (cs := #[.int .i64 m.kind, .int .i64 m.frm, .int .i64 m.to, .int .i64 m.id, .int .i64 (m.args.length : Int)]) (xs := [.int .i64 m.kind, .int .i64 m.frm, .int .i64 m.to, .int .i64 m.id, .int .i64 (m.args.length : Int)]) hg5 rfl rfl
  have E2 := (E.give (f := fun w' => Reads w' (fun _ => True) 1 (some ⟨w.heap.size + 1, 0, none⟩) 5 [.int .i64 m.kind, .int .i64 m.frm, .int .i64 m.to, .int .i64 m.id, .int .i64 (m.args.length : Int)]) (fun _ _ h hb => h.step hb) (hnew.more fun _ _ => trivial)).push 43 #[.slice (some ⟨w.heap.size + 1, 0, none⟩) 5 5, .slice A1 m.args.length c1]
  have hcc2 := concat64_any (some ⟨w.heap.size + 1 + 1, 0, none⟩) 2 2 (fun _ => True) (fun _ => True) [⟨some ⟨w.heap.size + 1, 0, none⟩, 5, 5, [.int .i64 m.kind, .int .i64 m.frm, .int .i64 m.to, .int .i64 m.id, .int .i64 (m.args.length : Int)]⟩, ⟨A1, m.args.length, c1, m.args.map I64⟩] (hk := rfl)
    (hs := (Reads.new (by simp) rfl rfl).more (fun _ _ => trivial)) (w := ((w.alloc (.cells #[.int .i64 m.kind, .int .i64 m.frm, .int .i64 m.to, .int .i64 m.id, .slice A1 m.args.length c1, .slice A2 m.data.length c2] 45)).alloc (.cells #[.int .i64 m.kind, .int .i64 m.frm, .int .i64 m.to, .int .i64 m.id, .int .i64 (m.args.length : Int)] 3)).alloc (.cells #[.slice (some ⟨w.heap.size + 1, 0, none⟩) 5 5, .slice A1 m.args.length c1] 43))
    (hp := by
      intro p hp
      simp only [List.mem_cons, List.not_mem_nil, or_false] at hp
      rcases hp with rfl | rfl
      · exact ⟨E2.get m0, by simp [Value.oneCell']⟩
      · obtain ⟨_, ⟨cs, hr, hc⟩, _⟩ := IsL.open_ (E2.get m2)
        obtain ⟨rfl, _⟩ := ints_cells hc
        exact ⟨hr.more fun _ _ => trivial, by intro u hu; simp only [List.mem_map] at hu; obtain ⟨x, _, rfl⟩ := hu; rfl⟩)
    (hn := by simp [sumN]; omega) (hk63 := by omega)
  have e1 : sumN [(⟨some ⟨w.heap.size + 1, 0, none⟩, 5, 5, [.int .i64 m.kind, .int .i64 m.frm, .int .i64 m.to, .int .i64 m.id, .int .i64 (m.args.length : Int)]⟩ : Part), ⟨A1, m.args.length, c1, m.args.map I64⟩] = all.length := by rw [HN.out]; simp [sumN]
  have e2 : [(⟨some ⟨w.heap.size + 1, 0, none⟩, 5, 5, [.int .i64 m.kind, .int .i64 m.frm, .int .i64 m.to, .int .i64 m.id, .int .i64 (m.args.length : Int)]⟩ : Part), ⟨A1, m.args.length, c1, m.args.map I64⟩].flatMap Part.xs = all.map I64 := by rw [HCL.out]; simp
  rw [e1, e2] at hcc2
  have HCC := Lib.hid hcc2
  clear hcc2 e1 e2 hnew hg5
  go_enter Try.func40, Try.ntmps40
  go_wp2_with fail
  refine HCC.out.mono ?_
  rintro e w1 ⟨A3, c3, rfl, own3, hb1⟩
  have hal : all.length ≤ 17592186043909 := by rw [HN.out]; omega
  have hi3 := IsL.of_ints own3 H63.out (by omega)
  replace E := E2.step hb1
  go_wp2_with fail
  refine (wnums_any _ all _ w1 hi3 (by omega)).mono ?_
  rw [HR.out]
  rintro e w2 ⟨A4, c4, rfl, own4, hb2⟩
  replace E := E.step hb2
  obtain ⟨q1, f1, t1⟩ := E.rules m2
  simp only at own4
  by_cases hre : re = 0
  · subst hre
    by_cases h64 : 64 < m.args.length
    · have hx : res = ([], 2) := by rw [HM.out, if_neg (by simp), if_pos h64]
      have HX := Lib.hid hx; clear hx
      have h64' : (64 : Int) < (m.args.length : Int) := by omega
      go_wp2
      go_ret2
      rw [HX.out]
      exact ⟨none, 0, rfl, World.ownsRow_nil _ _ _ _, E.below⟩
    · have hx : res = if se ≠ 0 then ([], se) else (rb ++ sb, 0) := by rw [HM.out, if_neg (by simp), if_neg h64]
      have HX := Lib.hid hx; clear hx
      have h64' : ¬ (64 : Int) < (m.args.length : Int) := by omega
      go_wp2_with fail
      refine (wvec_any _ m.data _ w2 (E.get m1)).mono ?_
      rw [HS.out]
      rintro e w3 ⟨A5, c5, rfl, own5, hb3⟩
      have hbase1 : w.heap.size ≤ w1.heap.size := by have := hb1.size; simp at this; omega
      have own4' := own_base (own_below own4 hb3 (Nat.le_refl _)) hbase1
      have hb2s := hb2.size
      have hb3s := hb3.size
      replace E := E.step hb3
      simp only at own5
      by_cases hse : se = 0
      · subst hse
        have hr5 := Reads.of_own own5
        go_wp2_with (at_builtin; refine wpList_appN rfl (.tmp 47) (.tmp 48) _ rfl w.heap.size 5 i0 _ 1 1 Try.underlying24 hi hz0 hz1 hz2 rfl (by omega) rfl own4' rfl hr5 (cells8_one _) (by simp only [maxLen]; omega) (by omega) (by omega) ?_; intro A6 c6 w4 own6 hg6)
        go_ret2
        rw [HX.out, if_neg (by simp)]
        refine ⟨A6, c6, by rw [List.length_append]; rfl, ?_, E.below.trans hg6.below⟩
        rw [List.length_append, cells8_append]; exact own6
      · have hx : res = ([], se) := by rw [HX.out, if_pos (by simpa using hse)]
        have HX2 := Lib.hid hx; clear hx
        have hseb : (se != 0) = true := by simpa using hse
        clear hse
        go_wp2
        go_ret2
        rw [HX2.out]
        exact ⟨none, 0, rfl, World.ownsRow_nil _ _ _ _, E.below⟩
  · have hx : res = ([], re) := by rw [HM.out, if_pos (by simpa using hre)]
    have HX := Lib.hid hx; clear hx
    have hreb : (re != 0) = true := by simpa using hre
    clear hre
    go_wp2
    go_ret2
    rw [HX.out]
    exact ⟨none, 0, rfl, World.ownsRow_nil _ _ _ _, E.below⟩
end Go.Proofs.Ytbjgemipmlimoaa
