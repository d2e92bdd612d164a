/- quicksetref02.TakeMsg: the plain law. -/
import Derived.Test.YtbjgemipmlimoaaRefTakes
import Derived.Test.YtbjgemipmlimoaaWireTakeMsg
import Derived.Deep.DeepCutAuto
import Derived.Deep.RegionWith
namespace Go.Proofs.Ytbjgemipmlimoaa
open Go.RowKit

theorem rnum_sh (l : List UInt8) (p q : Nat) (e : Int) : rnum l (p + q, e) = ((rnum (l.drop p) (q, e)).1, (p + (rnum (l.drop p) (q, e)).2.1, (rnum (l.drop p) (q, e)).2.2)) := by
  unfold rnum
  simp only [List.drop_drop]
  by_cases he : e = 0
  · simp only [he, ne_eq, not_true_eq_false, if_false]
    split
    · rfl
    · split
      · rfl
      · simp only [Nat.add_assoc]
  · simp only [ne_eq, he, not_false_eq_true, if_true]
theorem rmost_sh (l : List UInt8) (m : Int) (p q : Nat) (e : Int) : rmost l m (p + q, e) = ((rmost (l.drop p) m (q, e)).1, (p + (rmost (l.drop p) m (q, e)).2.1, (rmost (l.drop p) m (q, e)).2.2)) := by
  unfold rmost
  rw [rnum_sh]
  simp only
  split <;> rfl
theorem rnums_sh (l : List UInt8) (p : Nat) : ∀ (n : Nat) (acc : List Int) (q : Nat) (e : Int), rnums l n acc (p + q, e) = ((rnums (l.drop p) n acc (q, e)).1, (p + (rnums (l.drop p) n acc (q, e)).2.1, (rnums (l.drop p) n acc (q, e)).2.2))
  | 0, acc, q, e => rfl
  | n + 1, acc, q, e => by
    unfold rnums
    rw [rnum_sh]
    simp only
    split
    · rfl
    · exact rnums_sh l p n _ _ _
theorem rvec_sh (l : List UInt8) (p q : Nat) (e : Int) (hp : p ≤ l.length) : rvec l (p + q, e) = ((rvec (l.drop p) (q, e)).1, (p + (rvec (l.drop p) (q, e)).2.1, (rvec (l.drop p) (q, e)).2.2)) := by
  have h1 : rvec1 l (p + q, e) = ((rvec1 (l.drop p) (q, e)).1, (p + (rvec1 (l.drop p) (q, e)).2.1, (rvec1 (l.drop p) (q, e)).2.2)) := by
    unfold rvec1
    rw [rmost_sh]
    simp only [List.length_drop]
    have e1 : (l.length : Int) - ((p + (rmost (l.drop p) 65536 (q, e)).2.1 : Nat) : Int) = ((l.length - p : Nat) : Int) - ((rmost (l.drop p) 65536 (q, e)).2.1 : Int) := by omega
    rw [e1]
    split <;> rfl
  unfold rvec
  rw [h1]
  simp only [List.drop_drop]
  split
  · rfl
  · simp only [Nat.add_assoc]

/-- what quicksetref02.TakeMsg answers -/
def rtmL (l : List UInt8) : Ms × Int × Int :=
  if (rnums l 5 [] (0, 0)).2.2 ≠ 0 then (m0s, 0, (rnums l 5 [] (0, 0)).2.2)
  else if (64 : Int) < (rnums l 5 [] (0, 0)).1.getD 4 0 then (m0s, 0, 2)
  else if (rnums l ((rnums l 5 [] (0, 0)).1.getD 4 0).toNat [] ((rnums l 5 [] (0, 0)).2.1, 0)).2.2 ≠ 0 then (m0s, 0, (rnums l ((rnums l 5 [] (0, 0)).1.getD 4 0).toNat [] ((rnums l 5 [] (0, 0)).2.1, 0)).2.2)
  else if (rvec l ((rnums l ((rnums l 5 [] (0, 0)).1.getD 4 0).toNat [] ((rnums l 5 [] (0, 0)).2.1, 0)).2.1, 0)).2.2 ≠ 0 then (m0s, 0, (rvec l ((rnums l ((rnums l 5 [] (0, 0)).1.getD 4 0).toNat [] ((rnums l 5 [] (0, 0)).2.1, 0)).2.1, 0)).2.2)
  else (⟨(rnums l 5 [] (0, 0)).1.getD 0 0, (rnums l 5 [] (0, 0)).1.getD 1 0, (rnums l 5 [] (0, 0)).1.getD 2 0, (rnums l 5 [] (0, 0)).1.getD 3 0, (rnums l ((rnums l 5 [] (0, 0)).1.getD 4 0).toNat [] ((rnums l 5 [] (0, 0)).2.1, 0)).1, (rvec l ((rnums l ((rnums l 5 [] (0, 0)).1.getD 4 0).toNat [] ((rnums l 5 [] (0, 0)).2.1, 0)).2.1, 0)).1⟩,
    ((rvec l ((rnums l ((rnums l 5 [] (0, 0)).1.getD 4 0).toNat [] ((rnums l 5 [] (0, 0)).2.1, 0)).2.1, 0)).2.1 : Int), 0)

theorem rnum_bad (l : List UInt8) {s : Rs} (h : s.2 ≠ 0) : rnum l s = (0, s) := if_pos h
theorem rmost_bad (l : List UInt8) (m : Int) {s : Rs} (h : s.2 ≠ 0) : rmost l m s = (0, s) := by
  unfold rmost; rw [rnum_bad l h]; exact if_neg (fun x => h x.1)
theorem rvec_bad (l : List UInt8) {s : Rs} (h : s.2 ≠ 0) : rvec l s = ([], s) := by
  unfold rvec rvec1; rw [rmost_bad l _ h]
  simp [h]

theorem rnums_one (l : List UInt8) (n : Nat) (acc : List Int) {s : Rs} {x : Int} {t : Rs} (h : rnum l s = (x, t)) : rnums l (n + 1) acc s = if t.2 ≠ 0 then ([], t) else rnums l n (acc ++ [x]) t := by
  rw [rnums, h]

theorem takeMsg_end (l : List UInt8) {s : Rs} (h : s.2 ≠ 0) (many : Int) : rvec l (tmArgs l many s).2 = ([], s) := by
  unfold tmArgs; rw [if_neg h]; exact rvec_bad l h

theorem rtmL_eq (l : List UInt8) : rtmL l = takeMsgL l := by
  unfold takeMsgL tmHead
  simp only
  obtain ⟨⟨k1, p1, e1⟩, h1⟩ : ∃ x, rnum l (0, 0) = x := ⟨_, rfl⟩
  obtain ⟨⟨k2, p2, e2⟩, h2⟩ : ∃ x, rnum l (p1, e1) = x := ⟨_, rfl⟩
  obtain ⟨⟨k3, p3, e3⟩, h3⟩ : ∃ x, rnum l (p2, e2) = x := ⟨_, rfl⟩
  obtain ⟨⟨k4, p4, e4⟩, h4⟩ : ∃ x, rnum l (p3, e3) = x := ⟨_, rfl⟩
  obtain ⟨⟨k5, p5, e5⟩, h5⟩ : ∃ x, rnum l (p4, e4) = x := ⟨_, rfl⟩
  obtain ⟨⟨k6, p6, e6⟩, h6⟩ : ∃ x, rmost l 64 (p4, e4) = x := ⟨_, rfl⟩
  simp only [h1, h2, h3, h4, h6]
  have err : ∀ (p : Nat) (e : Int), e ≠ 0 → (rnums l 5 [] (0, 0)) = ([], (p, e)) → rtmL l = (m0s, 0, e) := by
    intro p e he h; unfold rtmL; rw [h]; exact if_pos he
  by_cases c1 : e1 = 0
  case neg =>
    have g2 := rnum_bad l (s := (p1, e1)) c1
    rw [h2] at g2; cases g2
    have g3 := rnum_bad l (s := (p1, e1)) c1
    rw [h3] at g3; cases g3
    have g4 := rnum_bad l (s := (p1, e1)) c1
    rw [h4] at g4; cases g4
    have g6 := rmost_bad l 64 (s := (p1, e1)) c1
    rw [h6] at g6; cases g6
    rw [takeMsg_end l c1, if_pos c1]
    exact err p1 e1 c1 (by rw [rnums_one l 4 [] h1, if_pos c1])
  subst c1
  by_cases c2 : e2 = 0
  case neg =>
    have g3 := rnum_bad l (s := (p2, e2)) c2
    rw [h3] at g3; cases g3
    have g4 := rnum_bad l (s := (p2, e2)) c2
    rw [h4] at g4; cases g4
    have g6 := rmost_bad l 64 (s := (p2, e2)) c2
    rw [h6] at g6; cases g6
    rw [takeMsg_end l c2, if_pos c2]
    exact err p2 e2 c2 (by rw [rnums_one l 4 [] h1, if_neg (by simp), rnums_one l 3 _ h2, if_pos c2])
  subst c2
  by_cases c3 : e3 = 0
  case neg =>
    have g4 := rnum_bad l (s := (p3, e3)) c3
    rw [h4] at g4; cases g4
    have g6 := rmost_bad l 64 (s := (p3, e3)) c3
    rw [h6] at g6; cases g6
    rw [takeMsg_end l c3, if_pos c3]
    exact err p3 e3 c3 (by rw [rnums_one l 4 [] h1, if_neg (by simp), rnums_one l 3 _ h2, if_neg (by simp), rnums_one l 2 _ h3, if_pos c3])
  subst c3
  by_cases c4 : e4 = 0
  case neg =>
    have g6 := rmost_bad l 64 (s := (p4, e4)) c4
    rw [h6] at g6; cases g6
    rw [takeMsg_end l c4, if_pos c4]
    exact err p4 e4 c4 (by rw [rnums_one l 4 [] h1, if_neg (by simp), rnums_one l 3 _ h2, if_neg (by simp), rnums_one l 2 _ h3, if_neg (by simp), rnums_one l 1 _ h4, if_pos c4])
  subst c4
  have hn5 : rnums l 5 [] (0, 0) = if e5 ≠ 0 then ([], (p5, e5)) else ([k1, k2, k3, k4, k5], (p5, e5)) := by
    rw [rnums_one l 4 [] h1, if_neg (by simp), rnums_one l 3 _ h2, if_neg (by simp), rnums_one l 2 _ h3, if_neg (by simp), rnums_one l 1 _ h4, if_neg (by simp), rnums_one l 0 _ h5]
    rfl
  unfold rmost at h6
  rw [h5] at h6
  simp only at h6
  by_cases c5 : e5 = 0
  case neg =>
    rw [if_neg (fun x => c5 x.1)] at h6
    cases h6
    rw [takeMsg_end l c5, if_pos c5]
    exact err p5 e5 c5 (by rw [hn5, if_pos c5])
  subst c5
  rw [if_neg (by simp)] at hn5
  unfold rtmL
  rw [hn5]
  simp only [ne_eq, not_true_eq_false, if_false]
  show (if (64 : Int) < k5 then _ else _) = _
  by_cases c6 : (64 : Int) < k5
  · rw [if_pos ⟨rfl, c6⟩] at h6
    cases h6
    rw [if_pos c6, takeMsg_end l (by simp)]
    rfl
  · rw [if_neg (fun x => c6 x.2)] at h6
    cases h6
    rw [if_neg c6]
    show _ = _
    unfold tmArgs
    simp only [if_true]
    show (if ¬ (rnums l k5.toNat [] (p5, 0)).2.2 = 0 then _ else _) = _
    obtain ⟨⟨ars, p6, e7⟩, h7⟩ : ∃ x, rnums l k5.toNat [] (p5, 0) = x := ⟨_, rfl⟩
    have hg : ([k1, k2, k3, k4, k5] : List Int).getD 4 0 = k5 := rfl
    simp only [hg, h7]
    by_cases c7 : e7 = 0
    · subst c7
      rw [if_neg (by simp)]
      rfl
    · rw [if_pos c7, rvec_bad l (s := (p6, e7)) c7]
      simp [c7]

theorem rnums_len (l : List UInt8) : ∀ (n : Nat) (acc : List Int) (s : Rs), (rnums l n acc s).2.2 = 0 → (rnums l n acc s).1.length = acc.length + n
  | 0, acc, s, _ => by simp [rnums]
  | n + 1, acc, s, h => by
    rw [rnums] at h ⊢
    split
    · rename_i hc; rw [if_pos hc] at h; exact absurd h hc
    · rename_i hc
      rw [if_neg hc] at h
      have := rnums_len l n _ _ h
      rw [this]; simp; omega
theorem five {l : List Int} (h : l.length = 5) : ∃ a b c d e, l = [a, b, c, d, e] := by
  match l, h with
  | [a, b, c, d, e], _ => exact ⟨a, b, c, d, e, rfl⟩
theorem ints5g {w : World} {base g : Nat} {c : Nat} {a b d e f : Int} (own : w.ownsRow base 3 1 (.slice (some ⟨g, 0, none⟩) [a, b, d, e, f].length c) [a, b, d, e, f].length ([a, b, d, e, f].map I64)) :
    w.cell? ⟨g, 0, none⟩ = some (.int .i64 a) ∧ w.cell? ⟨g, 1, none⟩ = some (.int .i64 b) ∧ w.cell? ⟨g, 2, none⟩ = some (.int .i64 d) ∧ w.cell? ⟨g, 3, none⟩ = some (.int .i64 e) ∧ w.cell? ⟨g, 4, none⟩ = some (.int .i64 f) := by
  have hr := Reads.of_own own
  have h : ∀ k, (hk : k < 5) → w.cell? ⟨g, k, none⟩ = ([a, b, d, e, f].map I64)[k]? := by
    intro k hk
    obtain ⟨ad, u, e1, _, hu, hc⟩ := hr.at_ (k := k) hk
    cases e1
    rw [hu, ← hc]
    rcases k with _ | k <;> simp [Addr.add]
  exact ⟨h 0 (by omega), h 1 (by omega), h 2 (by omega), h 3 (by omega), h 4 (by omega)⟩
theorem ints5 {w : World} {base : Nat} {A : Option Addr} {c : Nat} {l : List Int} (own : w.ownsRow base 3 1 (.slice A l.length c) l.length (l.map I64)) (h : l.length = 5) : ∃ g, A = some ⟨g, 0, none⟩ := by
  rcases own.2 with ⟨_, h0⟩ | ⟨g, cap, cur, hv, _⟩
  · omega
  · injection hv with e1; exact ⟨g, e1⟩
theorem rnums_pos (l : List UInt8) : ∀ (n : Nat) (acc : List Int) (s : Rs), s.1 ≤ l.length → (∀ x ∈ acc, 0 ≤ x) → ∀ x ∈ (rnums l n acc s).1, 0 ≤ x
  | 0, acc, s, _, h => h
  | n + 1, acc, s, hs, h => by
    rw [rnums]
    have hin := rnum_in (l := l) (s := s) hs
    split
    · intro x hx; cases hx
    · refine rnums_pos l n _ _ hin.1 (fun x hx => ?_)
      rcases List.mem_append.1 hx with hx | hx
      · exact h x hx
      · rw [List.mem_singleton.1 hx]; exact hin.2.2.1
theorem rvec_in {l : List UInt8} {s : Rs} (h : s.1 ≤ l.length) : (rvec l s).2.1 ≤ l.length := by
  have h1 := rvec1_in h
  unfold rvec
  split
  · exact h1.1
  · rename_i h2
    have h3 := rvec1_le (Decidable.not_not.1 h2)
    simp only
    omega
theorem cut_isB {w : World} {K : Nat → Prop} {A : Option Addr} {c : Nat} {l : List UInt8} (h : IsB w K (.slice A l.length c) l) {p : Nat} (hp : p ≤ l.length) :
    IsB w K (.slice (if c = p then A else A.map (·.add p)) (l.length - p) (c - p)) (l.drop p) := by
  have h1 := cut_bytes h hp
  obtain ⟨_, _, h2, h3, h4⟩ := h.open_
  refine ⟨_, _, by rw [List.length_drop], ?_, by rw [List.length_drop]; omega, by omega, by rw [List.length_drop]; omega⟩
  rw [List.length_drop]; exact h1

def TmP (w : World) (r : Ms × Int × Int) (e : Ending) (w' : World) : Prop :=
  ∃ v', e = .returned (.tuple #[v', .int .i64 r.2.1, .int .i64 r.2.2]) ∧ IsM w' (fun b => w.heap.size ≤ b) v' r.1 ∧ Below w.heap.size w w'

set_option maxRecDepth 100000 in
set_option maxHeartbeats 4000000 in
theorem rtakeMsg_any (v : Value) (l : List UInt8) (K : Nat → Prop) (w : World) (hb : IsB w K v l) (hl : l.length ≤ 10000000000000) :
    Calls Try.prog 72 #[v] w fun e w' => TmP w (takeMsgL l) e w' := by
  have hb0 := hb
  obtain ⟨A, c, rfl, _, hlc, hcc, hl47⟩ := hb
  obtain ⟨res, hres⟩ : ∃ res, takeMsgL l = res := ⟨_, rfl⟩
  rw [hres]
  rw [← rtmL_eq] at hres
  unfold rtmL at hres
  obtain ⟨⟨hd, p, e1⟩, h1⟩ : ∃ x, rnums l 5 [] (0, 0) = x := ⟨_, rfl⟩
  have hin1 := rnums_in (l := l) 5 [] (0, 0) (Nat.zero_le _) (Nat.le_refl _) (fun _ h => by cases h) rfl
  have hlen1 := rnums_len l 5 [] (0, 0)
  have hpos1 := rnums_pos l 5 [] (0, 0) (Nat.zero_le _) (fun _ h => by cases h)
  have hct1 := fun W (h : IsB W K (.slice A l.length c) l) => rtakeNums_any _ l 5 K W h hl (by omega)
  have ht1 : takeNumsL l 5 = if e1 ≠ 0 then ([], 0, e1) else (hd, (p : Int), 0) := by
    unfold takeNumsL; rw [if_neg (by omega), show (5 : Int).toNat = 5 from rfl, h1]
  rw [ht1] at hct1
  rw [h1] at hres hin1 hlen1 hpos1
  simp only at hres hin1 hlen1 hpos1
  clear ht1 h1
  have E := ((Kn.start w).give Stable.bytes hb0).push 45 #[.int .i64 0, .int .i64 0, .int .i64 0, .int .i64 0, .slice none 0 0, .slice none 0 0]
  by_cases c1 : e1 = 0
  case neg =>
    have hx : res = (m0s, 0, e1) := by rw [← hres, if_pos c1]
    rw [if_pos c1] at hct1
    have HX := Lib.hid hx; have HC1 := Lib.hid hct1
    have c1b : (e1 != 0) = true := by simpa using c1
    clear hx hct1 hres hin1 hlen1 c1
    go_enter Try.func72, Try.ntmps72
    go_wp2_with fail
    refine (HC1.out _ (E.get m0)).mono ?_
    rintro e w1 ⟨A1, c2, rfl, own1, hb1⟩
    replace E := E.step hb1
    obtain ⟨q1, f1, t1⟩ := E.rules m0
    have G := E.at_ (g := w.heap.size) m0
    go_wp2
    have F := (G.set6 (x1 := .int .i64 0) (x2 := .int .i64 0) (x3 := .int .i64 0) (x4 := .int .i64 0) (x5 := .slice none 0 0) (x6 := .slice none 0 0)).rules
    have hgf := grow_set6 (World.grownBy.refl w1 (some w.heap.size)) (x1 := .int .i64 0) (x2 := .int .i64 0) (x3 := .int .i64 0) (x4 := .int .i64 0) (x5 := .slice none 0 0) (x6 := .slice none 0 0)
    rw [HX.out]
    refine bodyPost_ret (v := .tuple #[.agg #[.int .i64 0, .int .i64 0, .int .i64 0, .int .i64 0, .slice none 0 0, .slice none 0 0], .int .i64 0, .int .i64 e1]) (by simp [results, Try.results72, go_sem, F.1]) rfl ⟨_, rfl, ⟨none, 0, none, 0, rfl, IsL.nil_ _ _, IsB.nil_ _ _, ?_⟩, ?_⟩
    · intro n hn
      simp only [m0s, List.mem_cons, List.not_mem_nil, or_false] at hn
      omega
    · exact E.below.trans (below_grow hgf (Nat.le_refl _) E.below.size)
  subst c1
  rw [if_neg (by simp)] at hct1
  have h5 : hd.length = 5 := hlen1 rfl
  obtain ⟨k1, k2, k3, k4, k5, rfl⟩ := five h5
  have hk5 : (-9223372036854775808 ≤ k5 ∧ k5 ≤ 9223372036854775807) := hin1.2.2 k5 (by simp)
  have h63 : I63 [k1, k2, k3, k4] := fun n hn => hin1.2.2 n (by simp at hn ⊢; omega)
  have hi5 : I63 [k1, k2, k3, k4, k5] := hin1.2.2
  have hpl := hin1.1
  replace hres : (if (64 : Int) < k5 then (m0s, 0, 2) else if (rnums l k5.toNat [] (p, 0)).2.2 ≠ 0 then (m0s, 0, (rnums l k5.toNat [] (p, 0)).2.2)
    else if (rvec l ((rnums l k5.toNat [] (p, 0)).2.1, 0)).2.2 ≠ 0 then (m0s, 0, (rvec l ((rnums l k5.toNat [] (p, 0)).2.1, 0)).2.2)
    else (⟨k1, k2, k3, k4, (rnums l k5.toNat [] (p, 0)).1, (rvec l ((rnums l k5.toNat [] (p, 0)).2.1, 0)).1⟩, ((rvec l ((rnums l k5.toNat [] (p, 0)).2.1, 0)).2.1 : Int), 0)) = res := hres
  have HC1 := Lib.hid hct1
  have HI5 := Lib.hid hi5; have H63 := Lib.hid h63; have HPOS := Lib.hid hpos1
  clear hct1 hin1 hlen1 h5 hi5 h63 hpos1
  by_cases c6 : (64 : Int) < k5
  case pos =>
    have hx : res = (m0s, 0, 2) := by rw [← hres, if_pos c6]
    have HX := Lib.hid hx
    clear hx hres
    go_enter Try.func72, Try.ntmps72
    go_wp2_with fail
    refine (HC1.out _ (E.get m0)).mono ?_
    rintro e w1 ⟨A1, c2, rfl, own1, hb1⟩
    replace E := E.step hb1
    obtain ⟨q1, f1, t1⟩ := E.rules m0
    have G := E.at_ (g := w.heap.size) m0
    obtain ⟨g5, rfl⟩ := ints5 own1 rfl
    obtain ⟨hc0, hc1, hc2, hc3, hc4⟩ := ints5g own1
    go_wp2
    have F := (G.set6 (x1 := .int .i64 0) (x2 := .int .i64 0) (x3 := .int .i64 0) (x4 := .int .i64 0) (x5 := .slice none 0 0) (x6 := .slice none 0 0)).rules
    have hgf := grow_set6 (World.grownBy.refl w1 (some w.heap.size)) (x1 := .int .i64 0) (x2 := .int .i64 0) (x3 := .int .i64 0) (x4 := .int .i64 0) (x5 := .slice none 0 0) (x6 := .slice none 0 0)
    rw [HX.out]
    refine bodyPost_ret (v := .tuple #[.agg #[.int .i64 0, .int .i64 0, .int .i64 0, .int .i64 0, .slice none 0 0, .slice none 0 0], .int .i64 0, .int .i64 2]) (by simp [results, Try.results72, go_sem, F.1]) rfl ⟨_, rfl, ⟨none, 0, none, 0, rfl, IsL.nil_ _ _, IsB.nil_ _ _, ?_⟩, ?_⟩
    · intro n hn
      simp only [m0s, List.mem_cons, List.not_mem_nil, or_false] at hn
      omega
    · exact E.below.trans (below_grow hgf (Nat.le_refl _) E.below.size)
  rw [if_neg c6] at hres
  have hk0 : 0 ≤ k5 := HPOS.out k5 (by simp)
  obtain ⟨A3, hA3⟩ : ∃ A3, (if c = p then A else A.map (fun x => x.add p)) = A3 := ⟨_, rfl⟩
  have hcut := fun W (h : IsB W K (.slice A l.length c) l) => cut_isB h hpl
  rw [hA3] at hcut
  obtain ⟨⟨ars, q6, e7⟩, h7⟩ : ∃ x, rnums (l.drop p) k5.toNat [] (0, 0) = x := ⟨_, rfl⟩
  have hs7 := rnums_sh l p k5.toNat [] 0 0
  have hin7 := rnums_in (l := l.drop p) k5.toNat [] (0, 0) (Nat.zero_le _) (Nat.le_refl _) (fun _ h => by cases h) rfl
  have hct7 := fun W (h : IsB W K (.slice A l.length c) l) => rtakeNums_any _ (l.drop p) k5 K W (hcut W h) (by rw [List.length_drop]; omega) (by omega)
  have ht7 : takeNumsL (l.drop p) k5 = if e7 ≠ 0 then ([], 0, e7) else (ars, (q6 : Int), 0) := by
    unfold takeNumsL; rw [if_neg (by omega), h7]
  rw [ht7] at hct7
  rw [Nat.add_zero, h7] at hs7
  rw [hs7] at hres
  rw [h7] at hin7
  simp only [List.length_drop] at hres hin7
  clear ht7 hs7 h7 hcut
  obtain ⟨hq6, har6, h63r⟩ := hin7
  have hpl' : (p : Int) ≤ (l.length : Int) := by omega
  have hpc : (p : Int) ≤ (c : Int) := by omega
  have hp0 : (0 : Int) ≤ (p : Int) := by omega
  by_cases c7 : e7 = 0
  case neg =>
    have hx : res = (m0s, 0, e7) := by rw [← hres, if_pos c7]
    rw [if_pos c7] at hct7
    have HX := Lib.hid hx; have HC7 := Lib.hid hct7
    have c7b : (e7 != 0) = true := by simpa using c7
    clear hx hres hct7 c7
    go_enter Try.func72, Try.ntmps72
    go_wp2_with fail
    refine (HC1.out _ (E.get m0)).mono ?_
    rintro e w1 ⟨A1, c2, rfl, own1, hb1⟩
    replace E := E.step hb1
    obtain ⟨g5, rfl⟩ := ints5 own1 rfl
    obtain ⟨hc0, hc1, hc2, hc3, hc4⟩ := ints5g own1
    go_upto_region 6 with fail
    go_region_with (
      (go_at_call 87
       refine (HC7.out _ (E.drew.get m0)).mono ?_
       rintro e wN ⟨A7, c7, rfl, own7, hb7⟩
       replace E := E.drew.step hb7
       obtain ⟨q1, f1, t1⟩ := E.rules m0))
    have G := E.at_ (g := w.heap.size) m0
    go_wp2
    have F := (G.set6 (x1 := .int .i64 0) (x2 := .int .i64 0) (x3 := .int .i64 0) (x4 := .int .i64 0) (x5 := .slice none 0 0) (x6 := .slice none 0 0)).rules
    have hgf := grow_set6 (World.grownBy.refl wN (some w.heap.size)) (x1 := .int .i64 0) (x2 := .int .i64 0) (x3 := .int .i64 0) (x4 := .int .i64 0) (x5 := .slice none 0 0) (x6 := .slice none 0 0)
    rw [HX.out]
    refine bodyPost_ret (v := .tuple #[.agg #[.int .i64 0, .int .i64 0, .int .i64 0, .int .i64 0, .slice none 0 0, .slice none 0 0], .int .i64 0, .int .i64 e7]) (by simp [results, Try.results72, go_sem, F.1]) rfl ⟨_, rfl, ⟨none, 0, none, 0, rfl, IsL.nil_ _ _, IsB.nil_ _ _, ?_⟩, ?_⟩
    · intro n hn
      simp only [m0s, List.mem_cons, List.not_mem_nil, or_false] at hn
      omega
    · exact E.below.trans (below_grow hgf (Nat.le_refl _) E.below.size)
  subst c7
  rw [if_neg (by simp)] at hct7 hres
  simp only at hct7
  have hpq : p + q6 ≤ l.length := by omega
  obtain ⟨A4, hA4⟩ : ∃ A4, (if c = p + q6 then A else A.map (fun x => x.add (p + q6))) = A4 := ⟨_, rfl⟩
  have hcut := fun W (h : IsB W K (.slice A l.length c) l) => cut_isB h hpq
  rw [hA4] at hcut
  obtain ⟨⟨d, q8, e8⟩, h8⟩ : ∃ x, rvec (l.drop (p + q6)) (0, 0) = x := ⟨_, rfl⟩
  have hs8 := rvec_sh l (p + q6) 0 0 hpq
  have hct8 := fun W (h : IsB W K (.slice A l.length c) l) => rtakeVec_any _ (l.drop (p + q6)) K W (hcut W h)
  have ht8 : takeVecL (l.drop (p + q6)) = if e8 ≠ 0 then ([], 0, e8) else (d, (q8 : Int), 0) := by
    unfold takeVecL; rw [h8]
  rw [ht8] at hct8
  rw [Nat.add_zero, h8] at hs8
  rw [hs8] at hres
  have hd8 : d.length ≤ 140737488355328 := by
    have : d = (rvec (l.drop (p + q6)) (0, 0)).1 := by rw [h8]
    rw [this]; unfold rvec
    split
    · simp
    · simp only [List.length_take, List.length_drop]; omega
  have hq8 : e8 = 0 → p + q6 + q8 ≤ l.length := by
    intro he
    have h9 := rvec_in (l := l.drop (p + q6)) (s := (0, 0)) (Nat.zero_le _)
    rw [h8, List.length_drop] at h9
    have := h9
    simp only at this
    omega
  simp only at hres
  clear ht8 hs8 h8 hcut
  have hpq' : (p : Int) + (q6 : Int) ≤ (l.length : Int) := by omega
  have hpqc : (p : Int) + (q6 : Int) ≤ (c : Int) := by omega
  have hpq0 : (0 : Int) ≤ (p : Int) + (q6 : Int) := by omega
  have hpqt : ((p : Int) + (q6 : Int)).toNat = p + q6 := by omega
  have HC7 := Lib.hid hct7
  clear hct7
  by_cases c8 : e8 = 0
  case neg =>
    have hx : res = (m0s, 0, e8) := by rw [← hres, if_pos c8]
    rw [if_pos c8] at hct8
    have HX := Lib.hid hx; have HC8 := Lib.hid hct8
    have c8b : (e8 != 0) = true := by simpa using c8
    clear hx hres hct8 c8 hq8
    go_enter Try.func72, Try.ntmps72
    go_wp2_with fail
    refine (HC1.out _ (E.get m0)).mono ?_
    rintro e w1 ⟨A1, c2, rfl, own1, hb1⟩
    replace E := E.step hb1
    obtain ⟨g5, rfl⟩ := ints5 own1 rfl
    obtain ⟨hc0, hc1, hc2, hc3, hc4⟩ := ints5g own1
    go_upto_region 6 with fail
    go_region_with (
      (go_at_call 87
       refine (HC7.out _ (E.drew.get m0)).mono ?_
       rintro ex wN ⟨A7, c7, rfl, own7, hb7⟩
       replace E := E.drew.step hb7
       have own1N := own_below own1 ((Below.refl _ _).drew.trans hb7) (Nat.le_refl _)
       obtain ⟨q1, f1, t1⟩ := E.rules m0))
    clear hc0 hc1 hc2 hc3 hc4
    go_wp2_with fail
    refine (HC8.out _ (E.get m0)).mono ?_
    rintro ey w8 ⟨A8, c8, rfl, own8, hb8⟩
    have own18 := own_below own1N hb8 (Nat.le_refl _)
    have own78 := own_below own7 hb8 (Nat.le_refl _)
    replace E := E.step hb8
    have G := E.at_ (g := w.heap.size) m0
    obtain ⟨q1, f1, t1⟩ := E.rules m0
    go_wp2
    have F := (G.set6 (x1 := .int .i64 0) (x2 := .int .i64 0) (x3 := .int .i64 0) (x4 := .int .i64 0) (x5 := .slice none 0 0) (x6 := .slice none 0 0)).rules
    have hgf := grow_set6 (World.grownBy.refl w8 (some w.heap.size)) (x1 := .int .i64 0) (x2 := .int .i64 0) (x3 := .int .i64 0) (x4 := .int .i64 0) (x5 := .slice none 0 0) (x6 := .slice none 0 0)
    rw [HX.out]
    refine bodyPost_ret (v := .tuple #[.agg #[.int .i64 0, .int .i64 0, .int .i64 0, .int .i64 0, .slice none 0 0, .slice none 0 0], .int .i64 0, .int .i64 e8]) (by simp [results, Try.results72, go_sem, F.1]) rfl ⟨_, rfl, ⟨none, 0, none, 0, rfl, IsL.nil_ _ _, IsB.nil_ _ _, ?_⟩, ?_⟩
    · intro n hn
      simp only [m0s, List.mem_cons, List.not_mem_nil, or_false] at hn
      omega
    · exact E.below.trans (below_grow hgf (Nat.le_refl _) E.below.size)
  subst c8
  rw [if_neg (by simp)] at hct8 hres
  simp only at hct8
  have HX := Lib.hid hres.symm; have HC8 := Lib.hid hct8
  have hq9 := hq8 rfl
  clear hres hct8 hq8
  go_enter Try.func72, Try.ntmps72
  go_wp2_with fail
  refine (HC1.out _ (E.get m0)).mono ?_
  rintro e w1 ⟨A1, c2, rfl, own1, hb1⟩
  replace E := E.step hb1
  obtain ⟨g5, rfl⟩ := ints5 own1 rfl
  obtain ⟨hc0, hc1, hc2, hc3, hc4⟩ := ints5g own1
  go_upto_region 6 with fail
  go_region_with (
    (go_at_call 87
     refine (HC7.out _ (E.drew.get m0)).mono ?_
     rintro ex wN ⟨A7, c7, rfl, own7, hb7⟩
     replace E := E.drew.step hb7
     have own1N := own_below own1 ((Below.refl _ _).drew.trans hb7) (Nat.le_refl _)
     obtain ⟨q1, f1, t1⟩ := E.rules m0))
  clear hc0 hc1 hc2 hc3 hc4
  go_wp2_with fail
  refine (HC8.out _ (E.get m0)).mono ?_
  rintro ey w8 ⟨A8, c8, rfl, own8, hb8⟩
  have own18 := own_below own1N hb8 (Nat.le_refl _)
  have own78 := own_below own7 hb8 (Nat.le_refl _)
  replace E := E.step hb8
  have G := E.at_ (g := w.heap.size) m0
  obtain ⟨q1, f1, t1⟩ := E.rules m0
  obtain ⟨hc0, hc1, hc2, hc3, hc4⟩ := ints5g own18
  have hs1 := E.below.size
  have hsN := hb7.size
  have hs8 := hb8.size
  have hsn : w.heap.size + 1 ≤ w1.heap.size := by have := hb1.size; simpa using this
  have hsnN : w1.heap.size ≤ wN.heap.size := hsN
  go_upto_region 13 with fail
  go_region
  go_wp2
  have F := (G.set6 (x1 := .int .i64 k1) (x2 := .int .i64 k2) (x3 := .int .i64 k3) (x4 := .int .i64 k4) (x5 := .slice A7 ars.length c7) (x6 := .slice A8 d.length c8)).drew.rules
  have hgf := grow_trans (grow_set6 (World.grownBy.refl w8 (some w.heap.size)) (x1 := .int .i64 k1) (x2 := .int .i64 k2) (x3 := .int .i64 k3) (x4 := .int .i64 k4) (x5 := .slice A7 ars.length c7) (x6 := .slice A8 d.length c8)) grow_draw
  rw [HX.out]
  refine bodyPost_ret (v := .tuple #[.agg #[.int .i64 k1, .int .i64 k2, .int .i64 k3, .int .i64 k4, .slice A7 ars.length c7, .slice A8 d.length c8], .int .i64 ((p + q6 + q8 : Nat) : Int), .int .i64 0]) (by simp [results, Try.results72, go_sem, F.1]) rfl ⟨_, rfl, ⟨A7, c7, A8, c8, rfl, ?_, ?_, ?_⟩, ?_⟩
  · exact ((IsL.of_ints own78 h63r (by omega)).grown hgf (fun b hb => by have : w1.heap.size ≤ b := hb; simp; omega)).more (fun b hb => by have : w1.heap.size ≤ b := hb; omega)
  · exact ((IsB.of_own own8 hd8).grown hgf (fun b hb => by simp; omega)).more (fun b hb => by omega)
  · exact H63.out
  · exact E.below.trans (below_grow hgf (Nat.le_refl _) E.below.size)
end Go.Proofs.Ytbjgemipmlimoaa
