/- The walk of PackerResumes. -/
import Derived.Test.YtpacjjaekmipfaaResume
import Derived.Test.YtpacjjaekmipfaaSegEnd
import Derived.Test.YtpacjjaekmipfaaPackRoom
import Derived.Test.YtpacjjaekmipfaaSameSeg
import Derived.Deep.DeepCutAuto
import Derived.Deep.RegionWith
import Derived.Deep.RegionHeld3
namespace Go.Proofs.Ytpacjjaekmipfaa
open Go.RowKit

theorem resumes_seg {h : Hd} {l : List Rc} (hh : OkHd h) (hhe : (headL h).2 = 0) (hle : errL l = 0) (hok : ∀ r ∈ l, OkRc r) :
    segP h l = ((headL h).1 ++ frsL l, 0) ∧ scanL ((headL h).1 ++ frsL l) = ⟨true, h, l, atsL (headL h).1.length l, ((headL h).1 ++ frsL l).length⟩ := by
  refine ⟨by unfold segP; rw [if_neg (by simp [hhe]), if_neg (by simp [hle])], ?_⟩
  have := scan_back2 (rest := List.replicate 0 0) hh hhe hle hok (zeros_no 0)
  rw [List.length_append]
  simpa using this
theorem resumes_add {h : Hd} {n : Nat} {more : List Rc} (he : (addL ⟨h, 4, 60000, n, [], []⟩ more).2.2 = 0) :
    errL more = 0 ∧ (addL ⟨h, 4, 60000, n, [], []⟩ more).1 = ⟨h, 4, 60000, n, frsL more, more⟩ ∧ ((frsL more).length : Int) ≤ 60000 := by
  unfold addL at he ⊢
  by_cases h1 : errL more = 0
  · rw [if_neg (by simp [h1])] at he ⊢
    by_cases h2 : roomL ⟨h, 4, 60000, n, [], []⟩ < (frsL more).length
    · rw [if_pos h2] at he; simp at he
    · rw [if_neg h2]
      refine ⟨h1, by simp, ?_⟩
      unfold roomL at h2
      simp only [List.length_nil] at h2
      omega
  · rw [if_pos h1] at he
    exact absurd he h1

/-- the same, of an operation that is guarded -/
theorem step_appG {P : Program} {w : World} {ops : Array Oper} {o : Oper} {a : Act} {K0 : Act → World → Prop} {Q : Exit → Act → World → Prop} {E : Prop} (hw : Region.wanted o (yielded ops a.tmps) = true) (s x : Operand) (t : TypeId)
    (ho : o.op = .call { callee := .builtin .append, args := #[s, x], argTypes := #[t, t] })
    (base : Nat) (e : TypeId) (i : TypeInfo) (z : Value) (size bytes : Nat) (ht : P.underlying t = some (.slice e)) (hi : P.info? e = some i) (hz : i.zero = some z)
    (hsize : i.size = size) (hby : i.bytes = bytes) (hzs : z.cells.size = size) (hsz : 0 < size)
    {v : Value} {n : Nat} {xs : List Value} (hs : a.eval s = v) (hown : w.ownsRow base e size v n xs)
    {K : Nat → Prop} {A : Option Addr} {m c : Nat} {news : List Value} (hx : a.eval x = .slice A m c) (hr : Reads w K size A m news) (h1 : ∀ u ∈ news, u.oneCell' = true)
    (h63 : n + m ≤ maxLen) (hbytes : (n + m) * bytes ≤ 140737488355328) (hbase : base ≤ w.heap.size)
    (h : ∀ A' c' w', w'.ownsRow base e size (.slice A' (n + m) c') (n + m) (xs ++ news) → Grew base w w' v (.slice A' (n + m) c') → K0 (a.put o.dst (.slice A' (n + m) c')) w') :
    if Region.wanted o (yielded ops a.tmps) = true then Oper.wp P o a w K0 Q else E := by
  rw [if_pos hw]
  obtain ⟨v', w', hrun, h2, h3, h4⟩ := run_append_any (P := P) w base t o.type e i z size bytes ht hi hz hsize hby hzs hsz v n xs hown K A m c news hr h1 h63 hbytes hbase
  obtain ⟨A', c', rfl⟩ := own_slice h2
  unfold Oper.wp execOp
  simp only [ho, resolve, invoke, builtin, Sem.run_bind, Sem.run_pure, Result.andThen_ok, List.map_toArray, List.map_cons, List.map_nil, hs, hx, hrun]
  refine h A' c' w' h2 ⟨(Below.refl _ _).grown h3 hbase (own_lt hown), h3, ?_⟩
  rcases h4 with h4 | h4
  · exact .inl h4
  · exact .inr ⟨_, h4, Nat.le_refl _⟩
theorem catR {W : World} {base n m c : Nat} {A : Option Addr} {l1 l2 : List Rc} {cs1 cs2 : List Value} {K1 K2 : Nat → Prop} (h : W.ownsRow base 34 7 (.slice A (n + m) c) (n + m) (cs1 ++ cs2)) (h1 : CellsL Rp.rc W K1 cs1 l1) (h2 : CellsL Rp.rc W K2 cs2 l2) (hn : l1.length = n) (hm : l2.length = m) (h47 : n + m ≤ 140737488355328 := by omega) :
    IsL Rp.rc W (fun _ => True) (.slice A (n + m) c) (l1 ++ l2) := by
  have e1 : (l1 ++ l2).length = n + m := by rw [List.length_append, hn, hm]
  refine ⟨A, c, cs1 ++ cs2, by rw [e1], ?_, CellsL.append (h1.more fun _ _ => trivial) (h2.more fun _ _ => trivial), by rw [e1]; exact own_cap h, own_cap63 h, by omega⟩
  rw [e1]
  exact (Reads.of_own h).more fun _ _ => trivial
/-- a guard: the operation is this append -/
theorem is_app {P : Program} {w : World} {ops : Array Oper} {o : Oper} {a : Act} {K0 : Act → World → Prop} {Q : Exit → Act → World → Prop} {E : Prop} (s x : Operand) (t : TypeId)
    (_ho : o.op = .call { callee := .builtin .append, args := #[s, x], argTypes := #[t, t] })
    (h : if Region.wanted o (yielded ops a.tmps) = true then Oper.wp P o a w K0 Q else E) : if Region.wanted o (yielded ops a.tmps) = true then Oper.wp P o a w K0 Q else E := h

theorem catB {W : World} {base n m c : Nat} {A : Option Addr} {a b : List UInt8} (h : W.ownsRow base 5 1 (.slice A (n + m) c) (n + m) (cells8 a ++ cells8 b)) (hn : a.length = n) (hm : b.length = m := by rfl) (h47 : n + m ≤ 140737488355328 := by omega) :
    IsB W (fun k => base ≤ k ∧ k < W.heap.size) (.slice A (n + m) c) (a ++ b) := by
  have e1 : (a ++ b).length = n + m := by rw [List.length_append, hn, hm]
  rw [← cells8_append, ← e1] at h
  have := (IsB.of_own h (by omega)).lt
  rwa [e1] at this

set_option maxRecDepth 100000 in
set_option maxHeartbeats 16000000 in
theorem packerResumes_any (h : Hd) (fv mv : Value) (first more : List Rc) (K K' : Nat → Prop) (w : World) (hh : OkHd h) (hf : IsL Rp.rc w K fv first) (hm : IsL Rp.rc w K' mv more) (hfl : first.length ≤ 1048576) (hml : more.length ≤ 1048576) :
    Calls Try.prog 9 #[hdV h, fv, mv] w fun e w' => e = .returned (.bool true) ∧ Below w.heap.size w w' := by
  have hf0 := hf.ltRc
  have hm0 := hm.ltRc
  obtain ⟨Af, cf, rfl, hfc, hfc2⟩ := hf.form
  obtain ⟨Am, cm, rfl, hmc, hmc2⟩ := hm.form
  have hokf := isL_ok hf
  have hokm := isL_ok hm
  obtain ⟨fn, hfn⟩ : ∃ fn, first.length = fn := ⟨_, rfl⟩
  obtain ⟨mn, hmn⟩ : ∃ mn, more.length = mn := ⟨_, rfl⟩
  rw [hfn] at hf0 hfc ⊢
  rw [hmn] at hm0 hmc ⊢
  obtain ⟨i0, hi, hz0, hz1, hz2⟩ := info_parts Try.info5
  obtain ⟨ir, hir, hzr0, hzr1, hzr2⟩ := info_parts Try.infR
  have E := (((Kn.start w).give Stable.list hf0).give Stable.list hm0).push 23 #[.int .i64 h.host, .int .i64 h.epoch, .int .i64 h.seq]
  clear hf hm
  unfold hdV
  go_enter Try.func9, Try.ntmps9
  go_wp2_with fail
  refine (live15_any _).mono ?_
  rintro e w1 ⟨rfl, hb1⟩
  replace E := E.step hb1
  go_wp2_with fail
  refine (bigR_any 8000 _ first _ _ (E.get m1)).mono ?_
  rintro e w2 ⟨rfl, hb2⟩
  replace E := E.step hb2
  obtain ⟨q0, f0, t0⟩ := E.rules m0
  have hbE := E.below
  cases hbig : bigR 8000 first
  case true =>
    go_wp2
    go_ret
    exact ⟨rfl, hbE⟩
  go_wp2_with fail
  refine (bigR_any 8000 _ more _ _ (E.get m0)).mono ?_
  rintro e w3 ⟨rfl, hb3⟩
  replace E := E.step hb3
  obtain ⟨q0, f0, t0⟩ := E.rules m0
  have hbE := E.below
  cases hbig2 : bigR 8000 more
  case true =>
    go_wp2
    go_ret
    exact ⟨rfl, hbE⟩
  have hsg := seg_any h (.slice Af fn cf) first _ w3 hh (E.get m1) (by omega)
  unfold hdV at hsg
  by_cases hgood : (headL h).2 = 0 ∧ errL first = 0
  case neg =>
    obtain ⟨er, hseg, her⟩ : ∃ er, segP h first = ([], er) ∧ er ≠ 0 := by
      unfold segP
      by_cases h1 : (headL h).2 = 0
      · rw [if_neg (by simp [h1]), if_pos (fun h2 => hgood ⟨h1, h2⟩)]
        exact ⟨_, rfl, fun h2 => hgood ⟨h1, h2⟩⟩
      · rw [if_pos h1]
        exact ⟨_, rfl, h1⟩
    rw [hseg] at hsg
    dsimp only [List.length_nil] at hsg
    have d2 : (er != 0) = true := by simp [her]
    clear hgood hseg
    go_wp2_with fail
    refine hsg.mono ?_
    rintro ex w4 ⟨A3, c3, rfl, _, hb4⟩
    have hbf := hbE.trans (hb4.mono hbE.size)
    go_wp2
    go_ret
    exact ⟨rfl, hbf⟩
  obtain ⟨hhe, hle⟩ := hgood
  obtain ⟨hseg, hscan⟩ := resumes_seg hh hhe hle hokf
  have h400 := big_len hbig hle (by omega)
  rw [hfn] at h400
  rw [hseg] at hsg
  dsimp only at hsg
  obtain ⟨b, hb⟩ : ∃ b, (headL h).1 ++ frsL first = b := ⟨_, rfl⟩
  obtain ⟨n, hn⟩ : ∃ n, b.length = n := ⟨_, rfl⟩
  rw [hb] at hsg hscan
  rw [hn] at hsg hscan
  have HB := Lib.hid hb; have HN := Lib.hid hn; have HHE := Lib.hid hhe; have HLE := Lib.hid hle; have HSC := Lib.hid hscan
  have HFN := Lib.hid hfn; have HMN := Lib.hid hmn; have HBG := Lib.hid hbig2
  clear hb hn hhe hle hscan hseg hbig hbig2 hfn hmn hbE
  go_wp2_with fail
  refine hsg.mono ?_
  rintro e w4 ⟨A3, c3, rfl, own3, hb4⟩
  replace E := E.step hb4
  obtain ⟨q0, f0, t0⟩ := E.rules m0
  have hbE := E.below
  by_cases h20 : n ≤ 20000
  case neg =>
    have d1 : (20000 : Int) < (n : Int) := by omega
    go_wp2
    go_ret
    exact ⟨rfl, hbE⟩
  have d1 : ¬ (20000 : Int) < (n : Int) := by omega
  have hB3 : IsB w4 (fun k => w3.heap.size ≤ k) (.slice A3 n c3) b := by
    have := HN.out
    rw [← this] at own3 ⊢
    exact IsB.of_own own3 (by omega)
  replace E := E.give Stable.bytes hB3.lt
  have hsc := scan_any _ _ _ w4 hB3 (by rw [HN.out]; omega)
  rw [HSC.out] at hsc
  unfold fdC at hsc
  dsimp only at hsc
  rw [atsL_len, HFN.out] at hsc
  clear own3 hsg hB3
  go_wp2_with fail
  refine hsc.mono ?_
  rintro e w5 ⟨A6, c6, A7, c7, rfl, hl6, ha7, hb5⟩
  replace E := ((E.step hb5).push 51 #[.bool true, .int .i64 h.host, .int .i64 h.epoch, .int .i64 h.seq, .slice A6 fn c6, .slice A7 fn c7, .int .i64 n])
  obtain ⟨q0, f0, t0⟩ := E.rules m0
  clear hsc hl6 ha7
  have hrs := fun W => resume_any h n (.slice A6 fn c6) (.slice A7 fn c7) W (by omega)
  unfold pkV at hrs
  go_wp2_with fail
  refine (hrs _).mono ?_
  rintro e w6 ⟨rfl, hb6⟩
  replace E := (E.step hb6).push 29 #[.int .i64 h.host, .int .i64 h.epoch, .int .i64 h.seq, .int .i64 4, .int .i64 60000, .int .i64 n, .slice none 0 0, .slice none 0 0]
  go_upto_region 9 with fail
  obtain ⟨w7, hw7⟩ : ∃ w7, w6.alloc (.cells #[.int .i64 h.host, .int .i64 h.epoch, .int .i64 h.seq, .int .i64 4, .int .i64 60000, .int .i64 n, .slice none 0 0, .slice none 0 0] 29) = w7 := ⟨_, rfl⟩
  rw [hw7] at E ⊢
  have HW7 := Lib.hid hw7
  clear hw7 hrs
  obtain ⟨q0, f0, t0⟩ := E.rules m0
  have hpk0 : IsPk w7 (fun _ => False) (.agg #[.int .i64 h.host, .int .i64 h.epoch, .int .i64 h.seq, .int .i64 4, .int .i64 60000, .int .i64 n, .slice none 0 0, .slice none 0 0]) ⟨h, 4, 60000, n, [], []⟩ := ⟨_, _, rfl, IsB.nil_ _ _, IsL.nil_ _ _⟩
  have hadd := add_any _ (.slice Am mn cm) ⟨h, 4, 60000, n, [], []⟩ more _ _ w7 hpk0 (fun _ h => h.elim) ⟨hh, by simp, by simp, by simp only; omega, by simp, by simp⟩ (E.get m1) (by omega)
  have hra := @resumes_add h n more
  obtain ⟨ra, hra2⟩ : ∃ ra, addL ⟨h, 4, 60000, n, [], []⟩ more = ra := ⟨_, rfl⟩
  rw [hra2] at hadd hra
  obtain ⟨pa, pt, fa⟩ := ra
  dsimp only at hadd hra
  clear hra2 hpk0
  have HRA := Lib.hid hra
  clear hra
  go_wp2_with fail
  refine hadd.mono ?_
  rintro e w8 ⟨pv, A8, c8, rfl, ⟨vb, vl, rfl, hB8, hL8⟩, _, hb8⟩
  replace hB8 := hB8.more (K' := fun b => w7.heap.size ≤ b ∧ b < w8.heap.size) (fun b hb => ⟨hb.2.elim False.elim id, hb.1⟩)
  replace hL8 := hL8.more (K' := fun b => w7.heap.size ≤ b ∧ b < w8.heap.size) (fun b hb => ⟨hb.2.elim False.elim id, hb.1⟩)
  obtain ⟨A9, c9, rfl, _⟩ := isB_form hB8
  obtain ⟨Aa, ca, rfl, _⟩ := hL8.form
  unfold pkV
  replace E := E.step hb8
  obtain ⟨q0, f0, t0⟩ := E.rules m0
  have s8 := hb8.size
  have s6 : w7.heap.size = w6.heap.size + 1 := by rw [← HW7.out]; simp
  have s5 := hb6.size
  have s4 := hb5.size
  have s3 := hb4.size
  simp only [World.size_alloc] at s5
  have hsE := E.base
  obtain ⟨h8, ht8⟩ := st8_all (E.at_ m0) (.int .i64 pa.h.host) (.int .i64 pa.h.epoch) (.int .i64 pa.h.seq) (.int .i64 pa.zone) (.int .i64 pa.cap) (.int .i64 pa.at_) (.slice A9 pa.buf.length c9) (.slice Aa pa.l.length ca)
  go_upto_region 12 with fail
  obtain ⟨w9, hw9⟩ : ∃ w9, st8 w8 w6.heap.size (.int .i64 pa.h.host) (.int .i64 pa.h.epoch) (.int .i64 pa.h.seq) (.int .i64 pa.zone) (.int .i64 pa.cap) (.int .i64 pa.at_) (.slice A9 pa.buf.length c9) (.slice Aa pa.l.length ca) = w9 := ⟨_, rfl⟩
  rw [hw9] at h8 ht8
  unfold st8 at hw9
  rw [hw9]
  clear hw9 hadd
  have hb9 := below_turned E.below ht8 (by omega) hsE
  have s9 := ht8.size
  by_cases hfa : fa = 0
  case neg =>
    have d0 : (fa != 0) = true := by simp [hfa]
    clear hfa
    go_wp2
    go_ret
    exact ⟨rfl, hb9⟩
  obtain ⟨hem, rfl, hM⟩ := HRA.out hfa
  dsimp only at h8 hB8 hL8 ht8
  have E9 := (((Kn.from_ hb9 (by omega)).give Stable.bytes ((E.get m0).turned ht8 (fun b hb => by omega))).give Stable.list ((E.get m1).turned ht8 (fun b hb => by omega))).give Stable.list ((E.get m2).turned ht8 (fun b hb => by omega)) |>.know ((E.at_ m2).turned ht8 (by omega))
  have hB9 := hB8.turned ht8 (fun b hb => by omega)
  have hL9 := hL8.turned ht8 (fun b hb => by omega)
  have h4m := big_len HBG.out hem (by omega)
  have hfe : frsL more = [] ↔ mn = 0 := by
    rw [← HMN.out]
    cases more with
    | nil => simp [frsL]
    | cons r l =>
      have h5 := ((recL_len (hokm r (List.mem_cons_self ..))).2 (errL_mem hem r (List.mem_cons_self ..))).2
      simp only [frsL, List.append_eq_nil_iff, List.length_cons]
      constructor
      · rintro ⟨h1, _⟩; rw [h1] at h5; simp at h5
      · intro h1; omega
  obtain ⟨M, hMM⟩ : ∃ M, frsL more = M := ⟨_, rfl⟩
  rw [hMM] at hM hfe h8 hB9 ⊢
  rw [HMN.out] at h4m hL9 h8
  have HMM := Lib.hid hMM
  have HEM := Lib.hid hem
  have HFE := Lib.hid hfe
  obtain ⟨q0, f0⟩ := h8.rules
  have t0 := h8.lt
  have hpk9 : IsPk w9 (fun b => b < w9.heap.size) (.agg #[.int .i64 h.host, .int .i64 h.epoch, .int .i64 h.seq, .int .i64 4, .int .i64 60000, .int .i64 n, .slice A9 M.length c9, .slice Aa mn ca]) ⟨h, 4, 60000, n, M, more⟩ := ⟨_, _, rfl, hB9.more (fun b hb => by omega), hL9.more (fun b hb => by omega)⟩
  have hokp : OkPk ⟨h, 4, 60000, n, M, more⟩ := ⟨hh, by simp, by simp, by simp only; omega, by simp only; omega, by simp only; omega⟩
  clear hMM hem hfe hB8 hL8 h8 hB9 hL9
  have d0 : (fa != 0) = false := by simp [hfa]
  clear hfa
  go_upto_region 14 with fail
  go_cut [15, 17] (fun s15 s17 wx => ∃ cb op zn ep Ac cc B, s15 = .pointer (some ⟨cb, 0, none⟩) ∧ s17 = .bool B ∧ Blk wx cb 44 #[.int .i64 op, .int .i64 zn, .int .i64 ep, .int .i64 0, .int .i64 0, .slice Ac M.length cc] ∧ IsB wx (fun _ => True) (.slice Ac M.length cc) M ∧ (B = true → zn = 4 ∧ ep = h.epoch) ∧ ((mn : Int) > 0 ↔ B = true) ∧ Below w9.heap.size w9 wx)
  case first =>
    rcases Nat.eq_zero_or_pos mn with hmz | hmz
    · have hM0 := HFE.out.2 hmz
      have hfl := flush_none _ _ _ w9 hpk9 (fun _ h => h) hokp hM0
      unfold pkV cmdV at hfl
      dsimp only at hfl
      rw [hM0] at hfl hpk9 q0 ⊢
      dsimp only [List.length_nil] at hfl q0 ⊢
      rw [HMN.out] at hfl
      have HMZ := Lib.hid hmz
      clear hM0 hmz hpk9 hokp
      go_wp2_with fail
      refine hfl.mono ?_
      rintro e w10 ⟨Ax, cx, Ay, cy, rfl, hb10⟩
      go_wp2_with fail
      go_meet
      have hM00 := HFE.out.2 HMZ.out
      exact ⟨w10.heap.size, 0, 0, 0, none, 0, false, rfl, rfl, by rw [hM00]; exact (Blk.new w10 _ _ rfl).alloc _, by rw [hM00]; exact IsB.nil_ _ _, by simp, by simp [HMZ.out], (hb10.alloc hb10.size _).alloc (by have := hb10.size; simp; omega) _⟩
    · have hM0 : M ≠ [] := fun e => by have := HFE.out.1 e; omega
      have hfl := flush_some _ _ _ w9 hpk9 hokp hM0
      unfold pkV cmdV at hfl
      dsimp only at hfl
      have hfp : flushP ⟨h, 4, 60000, n, M, more⟩ = ⟨h, 4, 60000, n + M.length, [], []⟩ := by unfold flushP; rw [if_neg hM0]
      rw [hfp] at hfl
      dsimp only at hfl
      clear hM0 hpk9 hokp hfp
      go_wp2_with fail
      refine hfl.mono ?_
      rintro e w10 ⟨Ax, cx, rfl, own10, hb10⟩
      have hB10 := (IsB.of_own own10 (by omega)).more (K' := fun _ => True) fun _ _ => trivial
      clear own10
      go_wp2_with fail
      go_meet
      exact ⟨w10.heap.size, 1, 4, h.epoch, Ax, cx, true, rfl, rfl, (Blk.new w10 _ _ rfl).alloc _, (hB10.alloc _).alloc _, by simp, by simp; omega, (hb10.alloc hb10.size _).alloc (by have := hb10.size; simp; omega) _⟩
  obtain ⟨cb, op, zn, ep, Ac, cc, B, rfl, rfl, hCb, hBM, hBt, hBm, hbc⟩ := hcut
  have HBT := Lib.hid hBt
  have hcbl := hCb.lt
  have E10 := (E9.step hbc).know hCb |>.give Stable.bytes hBM.lt
  clear hBt hCb hBM
  go_upto_region 15 with fail
  go_cut [72] (fun s wx => s = .bool false ∧ wx = wc)
  case first =>
    cases B with
    | true =>
      have h0 : (0 : Int) < (mn : Int) := hBm.2 rfl
      clear hBm
      go_wp2_with fail
      go_meet
      exact ⟨by rw [decide_eq_true (show 0 < mn by omega)]; rfl, rfl⟩
    | false =>
      have h0 : ¬ (0 : Int) < (mn : Int) := fun h => by have := hBm.1 h; simp at this
      clear hBm
      go_wp2_with fail
      go_meet
      exact ⟨by rw [decide_eq_false (show ¬ 0 < mn by omega)], rfl⟩
  obtain ⟨rfl, rfl⟩ := hcut
  clear hBm
  obtain ⟨ats2, u2, hsc2, hal2⟩ : ∃ (ats2 : List Int) (u2 : Nat), scanL (b ++ M) = ⟨true, h, first ++ more, ats2, u2⟩ ∧ ats2.length = fn + mn := by
    have hle2 : errL (first ++ more) = 0 := by rw [errL_append HLE.out]; exact HEM.out
    have h2 := (resumes_seg hh HHE.out hle2 (fun r hr => (List.mem_append.1 hr).elim (hokf r) (hokm r))).2
    rw [frsL_append, ← List.append_assoc, HB.out, HMM.out] at h2
    exact ⟨_, _, h2, by rw [atsL_len, List.length_append, HFN.out, HMN.out]⟩
  have hcl2 : (first ++ more).length = fn + mn := by rw [List.length_append, HFN.out, HMN.out]
  have hscn := fun W A' c' (h : IsB W (fun k => wc.heap.size ≤ k ∧ k < W.heap.size) (.slice A' (n + M.length) c') (b ++ M)) => scan_any _ (b ++ M) _ W h (by rw [List.length_append, HN.out]; omega)
  rw [hsc2] at hscn
  unfold fdC at hscn
  dsimp only at hscn
  rw [hcl2, hal2] at hscn
  have HSCN := Lib.hid hscn
  have hrb := (IsB.open_ (E10.get m3)).2.1
  rw [HN.out] at hrb
  have hrm := (IsB.open_ (E10.get m0)).2.1
  have HRB : Hid (∀ W, Below wc.heap.size wc W → Reads W (fun k => w3.heap.size ≤ k ∧ k < w4.heap.size) 1 A3 n (cells8 b)) := Lib.hid fun W hb => hrb.step hb
  have HRM : Hid (∀ W, Below wc.heap.size wc W → Reads W (fun k => True ∧ k < wc.heap.size) 1 Ac M.length (cells8 M)) := Lib.hid fun W hb => hrm.step hb
  have HKC : Hid (∀ W, Below wc.heap.size wc W → ∀ o, W.cell? ⟨cb, o, none⟩ = #[Value.int .i64 op, .int .i64 zn, .int .i64 ep, .int .i64 0, .int .i64 0, .slice Ac M.length cc][o]?) := Lib.hid fun W hb => ((E10.step hb).rules m0).1
  have HK7 : Hid (∀ (W : World) (bx : Nat) (x0 x1 x2 x3 x4 x5 x6 : Value), wc.heap.size ≤ bx → Below wc.heap.size wc W → ∀ o, (((((((W.setCell ⟨bx, 0, none⟩ x0).setCell ⟨bx, 1, none⟩ x1).setCell ⟨bx, 2, none⟩ x2).setCell ⟨bx, 3, none⟩ x3).setCell ⟨bx, 4, none⟩ x4).setCell ⟨bx, 5, none⟩ x5).setCell ⟨bx, 6, none⟩ x6).cell? ⟨cb, o, none⟩ = #[Value.int .i64 op, .int .i64 zn, .int .i64 ep, .int .i64 0, .int .i64 0, .slice Ac M.length cc][o]?) := Lib.hid fun W bx x0 x1 x2 x3 x4 x5 x6 hx hb o => by
    rw [World.cell?_setCell_other _ _ _ _ (fun e => by have := (Addr.mk.inj e).1; omega), World.cell?_setCell_other _ _ _ _ (fun e => by have := (Addr.mk.inj e).1; omega), World.cell?_setCell_other _ _ _ _ (fun e => by have := (Addr.mk.inj e).1; omega), World.cell?_setCell_other _ _ _ _ (fun e => by have := (Addr.mk.inj e).1; omega), World.cell?_setCell_other _ _ _ _ (fun e => by have := (Addr.mk.inj e).1; omega), World.cell?_setCell_other _ _ _ _ (fun e => by have := (Addr.mk.inj e).1; omega), World.cell?_setCell_other _ _ _ _ (fun e => by have := (Addr.mk.inj e).1; omega)]
    exact ((E10.step hb).rules m0).1 o
  have hb0 : Below wc.heap.size wc wc.drew := (Below.refl _ _).drew
  have hbZ : Below wc.heap.size wc (wc.alloc (.cells #[.bool false, .int .i64 0, .int .i64 0, .int .i64 0, .slice none 0 0, .slice none 0 0, .int .i64 0] 51)).drew := ((Below.refl _ _).alloc (Nat.le_refl _) _).drew
  have hZ0 : Blk (wc.alloc (.cells #[.bool false, .int .i64 0, .int .i64 0, .int .i64 0, .slice none 0 0, .slice none 0 0, .int .i64 0] 51)).drew wc.heap.size 51 #[.bool false, .int .i64 0, .int .i64 0, .int .i64 0, .slice none 0 0, .slice none 0 0, .int .i64 0] := (Blk.new wc _ _ rfl).drew
  have hge0 : wc.heap.size ≤ wc.heap.size := Nat.le_refl _
  clear hscn hrb hrm hsc2
  go_upto_region 17 with fail
  go_cut [18] (fun s wx => ∃ bx Ax cx Ay cy, s = .pointer (some ⟨bx, 0, none⟩) ∧ Blk wx bx 51 #[.bool true, .int .i64 h.host, .int .i64 h.epoch, .int .i64 h.seq, .slice Ax (fn + mn) cx, .slice Ay (fn + mn) cy, .int .i64 u2] ∧ IsL Rp.rc wx (fun _ => True) (.slice Ax (fn + mn) cx) (first ++ more) ∧ Below wc.heap.size wc wx)
  case first =>
    clear hh hfl hml hfc2 hmc2 hokf hokm hfc hf0 hmc hm0 hir hzr0 hzr1 hzr2 hb1 hb2 hb3 h400 HB HHE HLE HSC HFN HMN HBG hb4 hbE hb5 hb6 HW7 hb8 E s8 s6 s4 s3 s5 hsE ht8 hb9 s9 HRA E9 h4m HMM HEM HFE q0 f0 t0 hpk9 hokp d0 HBT hbc E10 hal2 hcl2
    go_region_held3 (fun W : World => ∀ o, W.cell? ⟨cb, o, none⟩ = #[Value.int .i64 op, .int .i64 zn, .int .i64 ep, .int .i64 0, .int .i64 0, .slice Ac M.length cc][o]?)
      (first | (with_reducible exact HK7.out _ _ _ _ _ _ _ _ _ hge0 hbS) | (with_reducible exact HK7.out _ _ _ _ _ _ _ _ _ hgeP hbS) | (with_reducible exact HK7.out _ _ _ _ _ _ _ _ _ hgeQ hbS) | (with_reducible exact HKC.out _ hbS) | (with_reducible exact HKC.out _ (hbS.alloc hbS.size _)) | (with_reducible exact HKC.out _ hbQ) | (with_reducible exact HKC.out _ (hbQ.alloc hbQ.size _)) | (with_reducible exact HKC.out _ hbP) | (with_reducible exact HKC.out _ (hbP.alloc hbP.size _)) | (with_reducible exact HKC.out _ hb0) | (with_reducible exact HKC.out _ hbZ))
      (first
        | (go_at_call 21
           have hz := HZq
           refine (HSCN.out _ _ _ (catB HO11.out HN.out)).mono ?_
           rintro ex wS ⟨A12, c12, A13, c13, rfl, hl12, ha13, hbS0⟩
           have hbS := hbQ.trans (hbS0.mono hbQ.size)
           have hZs := HZq.out.step hbS0
           obtain ⟨qz, fz⟩ := hZs.rules
           have tz := hZs.lt)
        | (go_at_call 21
           refine (HSCN.out _ _ _ (catB HO11.out HN.out)).mono ?_
           rintro ex wS ⟨A12, c12, A13, c13, rfl, hl12, ha13, hbS0⟩
           have hbS := hbQ.trans (hbS0.mono hbQ.size))
        | (go_at_call 21
           refine (HSCN.out _ _ _ (catB (HO11.out.alloc (.cells #[.bool false, .int .i64 0, .int .i64 0, .int .i64 0, .slice none 0 0, .slice none 0 0, .int .i64 0] 51)) HN.out)).mono ?_
           rintro ex wS ⟨A12, c12, A13, c13, rfl, hl12, ha13, hbS0⟩
           have hbS := (hbQ.alloc hbQ.size (.cells #[.bool false, .int .i64 0, .int .i64 0, .int .i64 0, .slice none 0 0, .slice none 0 0, .int .i64 0] 51)).trans (hbS0.mono (hbQ.alloc hbQ.size (.cells #[.bool false, .int .i64 0, .int .i64 0, .int .i64 0, .slice none 0 0, .slice none 0 0, .int .i64 0] 51)).size)
           have hZs := (Blk.new wQ 51 #[.bool false, .int .i64 0, .int .i64 0, .int .i64 0, .slice none 0 0, .slice none 0 0, .int .i64 0] rfl).step hbS0
           obtain ⟨qz, fz⟩ := hZs.rules
           have tz := hZs.lt)
        | (refine is_app (.const (.slice none 0 0)) (.tmp 73) _ (by rfl) ?_
           refine step_appN (by rfl) (.const (.slice none 0 0)) (.tmp 73) _ (by rfl) wc.heap.size 5 i0 _ 1 1 Try.underlying27 hi hz0 hz1 hz2 rfl (by omega) (by rfl) (World.ownsRow_nil _ _ _ _) (by rfl) (HRB.out _ hb0) (cells8_one _) (by simp only [maxLen]; omega) (by omega) (hb0.size) ?_
           intro A10 c10 wP own10 hg10
           have hbP : Below wc.heap.size wc wP := hb0.trans hg10.below
           have hgeP := hbP.size
           simp only [Nat.zero_add, List.nil_append] at own10
           have HO10 := Lib.hid own10
           clear own10 hg10)
        | (refine is_app (.const (.slice none 0 0)) (.tmp 73) _ (by rfl) ?_
           refine step_appN (by rfl) (.const (.slice none 0 0)) (.tmp 73) _ (by rfl) wc.heap.size 5 i0 _ 1 1 Try.underlying27 hi hz0 hz1 hz2 rfl (by omega) (by rfl) (World.ownsRow_nil _ _ _ _) (by rfl) (HRB.out _ hbZ) (cells8_one _) (by simp only [maxLen]; omega) (by omega) (hbZ.size) ?_
           intro A10 c10 wP own10 hg10
           have hbP : Below wc.heap.size wc wP := hbZ.trans hg10.below
           have hgeP := hbP.size
           have HZp := Lib.hid (hZ0.grew (World.ownsRow_nil _ wc.heap.size 5 1) (by decide) hg10)
           simp only [Nat.zero_add, List.nil_append] at own10
           have HO10 := Lib.hid own10
           clear own10 hg10)
        | (have hz := HZp
           refine is_app (.tmp 74) (.tmp 76) _ (by rfl) ?_
           refine step_appN (by rfl) (.tmp 74) (.tmp 76) _ (by rfl) wc.heap.size 5 i0 _ 1 1 Try.underlying27 hi hz0 hz1 hz2 rfl (by omega) (by first | rfl | (simp only [Nat.zero_add]; rfl)) HO10.out (by rfl) (HRM.out _ hbP) (cells8_one _) (by simp only [maxLen]; omega) (by omega) (hbP.size) ?_
           intro A11 c11 wQ own11 hg11
           have hbQ : Below wc.heap.size wc wQ := hbP.trans hg11.below
           have hgeQ := hbQ.size
           have HZq := Lib.hid (HZp.out.grew HO10.out (by decide) hg11)
           have HO11 := Lib.hid own11
           clear own11 hg11)
        | (refine is_app (.tmp 74) (.tmp 76) _ (by rfl) ?_
           refine step_appN (by rfl) (.tmp 74) (.tmp 76) _ (by rfl) wc.heap.size 5 i0 _ 1 1 Try.underlying27 hi hz0 hz1 hz2 rfl (by omega) (by first | rfl | (simp only [Nat.zero_add]; rfl)) HO10.out (by rfl) (HRM.out _ hbP) (cells8_one _) (by simp only [maxLen]; omega) (by omega) (hbP.size) ?_
           intro A11 c11 wQ own11 hg11
           have hbQ : Below wc.heap.size wc wQ := hbP.trans hg11.below
           have hgeQ := hbQ.size
           have HO11 := Lib.hid own11
           clear own11 hg11)
        | (refine is_app (.tmp 74) (.tmp 76) _ (by rfl) ?_
           refine step_appN (by rfl) (.tmp 74) (.tmp 76) _ (by rfl) wc.heap.size 5 i0 _ 1 1 Try.underlying27 hi hz0 hz1 hz2 rfl (by omega) (by first | rfl | (simp only [Nat.zero_add]; rfl)) (HO10.out.alloc (.cells #[.bool false, .int .i64 0, .int .i64 0, .int .i64 0, .slice none 0 0, .slice none 0 0, .int .i64 0] 51)) (by rfl) (HRM.out _ (hbP.alloc hbP.size (.cells #[.bool false, .int .i64 0, .int .i64 0, .int .i64 0, .slice none 0 0, .slice none 0 0, .int .i64 0] 51))) (cells8_one _) (by simp only [maxLen]; omega) (by omega) ((hbP.alloc hbP.size (.cells #[.bool false, .int .i64 0, .int .i64 0, .int .i64 0, .slice none 0 0, .slice none 0 0, .int .i64 0] 51)).size) ?_
           intro A11 c11 wQ own11 hg11
           have hbQ : Below wc.heap.size wc wQ := (hbP.alloc hbP.size (.cells #[.bool false, .int .i64 0, .int .i64 0, .int .i64 0, .slice none 0 0, .slice none 0 0, .int .i64 0] 51)).trans hg11.below
           have hgeQ := hbQ.size
           have HZq := Lib.hid ((Blk.new wP 51 #[.bool false, .int .i64 0, .int .i64 0, .int .i64 0, .slice none 0 0, .slice none 0 0, .int .i64 0] rfl).grew (HO10.out.alloc (.cells #[.bool false, .int .i64 0, .int .i64 0, .int .i64 0, .slice none 0 0, .slice none 0 0, .int .i64 0] 51)) (by decide) hg11)
           have HO11 := Lib.hid own11
           clear own11 hg11)
        | fail)
    all_goals go_wp2_with fail
    all_goals go_meet
    · exact ⟨wS.heap.size, A12, c12, A13, c13, rfl, Blk.new _ _ _ rfl, (hl12.alloc _).more fun _ _ => trivial, hbS.alloc hbS.size _⟩
    · obtain ⟨h7, t7⟩ := b7_all hZs (.bool true) (.int .i64 h.host) (.int .i64 h.epoch) (.int .i64 h.seq) (.slice A12 (fn + mn) c12) (.slice A13 (fn + mn) c13) (.int .i64 u2)
      exact ⟨_, A12, c12, A13, c13, rfl, h7, (hl12.turned t7 (fun b hb => by simp only [World.size_alloc] at hb; omega)).more fun _ _ => trivial, below_turned hbS t7 hgeQ hbS.size⟩
    · obtain ⟨h7, t7⟩ := b7_all hZs (.bool true) (.int .i64 h.host) (.int .i64 h.epoch) (.int .i64 h.seq) (.slice A12 (fn + mn) c12) (.slice A13 (fn + mn) c13) (.int .i64 u2)
      have hlz := HZq.out.lt
      exact ⟨_, A12, c12, A13, c13, rfl, h7, (hl12.turned t7 (fun b hb => by omega)).more fun _ _ => trivial, below_turned hbS t7 hgeP hbS.size⟩
    · obtain ⟨h7, t7⟩ := b7_all hZs (.bool true) (.int .i64 h.host) (.int .i64 h.epoch) (.int .i64 h.seq) (.slice A12 (fn + mn) c12) (.slice A13 (fn + mn) c13) (.int .i64 u2)
      have hlz := HZq.out.lt
      exact ⟨_, A12, c12, A13, c13, rfl, h7, (hl12.turned t7 (fun b hb => by omega)).more fun _ _ => trivial, below_turned hbS t7 hge0 hbS.size⟩
  obtain ⟨bx, Ax, cx, Ay, cy, rfl, hX, hLX, hbx⟩ := hcut
  have E11 := ((E10.step hbx).know hX).give Stable.list hLX.ltRc
  clear hX hLX E E9
  obtain ⟨csf, hrf, hcf⟩ := (IsL.open_ (E11.get m2)).2.1
  obtain ⟨csm, hrm, hcm⟩ := (IsL.open_ (E11.get m3)).2.1
  have hof := hcf.one
  have hom := hcm.one
  rw [HFN.out] at hrf
  rw [HMN.out] at hrm
  have HRF : Hid (∀ W, Below wc.heap.size wc W → Reads W (fun b => K b ∧ b < w.heap.size) 7 Af fn csf) := Lib.hid fun W hb => hrf.step hb
  have HRMR : Hid (∀ W, Below wc.heap.size wc W → Reads W (fun b => K' b ∧ b < w.heap.size) 7 Am mn csm) := Lib.hid fun W hb => hrm.step hb
  have HCF : Hid (∀ W, Below wc.heap.size wc W → CellsL Rp.rc W (fun b => K b ∧ b < w.heap.size) csf first) := Lib.hid fun W hb => hcf.step hb
  have HCM : Hid (∀ W, Below wc.heap.size wc W → CellsL Rp.rc W (fun b => K' b ∧ b < w.heap.size) csm more) := Lib.hid fun W hb => hcm.step hb
  have HOF := Lib.hid hof
  have HOM := Lib.hid hom
  have HLX : Hid (∀ W, Below wc.heap.size wc W → IsL Rp.rc W _ (.slice Ax (fn + mn) cx) (first ++ more)) := Lib.hid fun W hb => (E11.step hb).get m0
  have HKC2 : Hid (∀ W, Below wc.heap.size wc W → (∀ o, W.cell? ⟨bx, o, none⟩ = #[Value.bool true, .int .i64 h.host, .int .i64 h.epoch, .int .i64 h.seq, .slice Ax (fn + mn) cx, .slice Ay (fn + mn) cy, .int .i64 u2][o]?) ∧ (∀ o, W.cell? ⟨cb, o, none⟩ = #[Value.int .i64 op, .int .i64 zn, .int .i64 ep, .int .i64 0, .int .i64 0, .slice Ac M.length cc][o]?) ∧ (∀ o, W.cell? ⟨w.heap.size, o, none⟩ = #[Value.int .i64 h.host, .int .i64 h.epoch, .int .i64 h.seq][o]?)) := Lib.hid fun W hb => ⟨((E11.step hb).rules m0).1, ((E11.step hb).rules m1).1, ((E11.step hb).rules m2).1⟩
  have hb0 : Below wc.heap.size wc wc.drew := (Below.refl _ _).drew
  have hbF := E11.below
  have hBT := HBT.out
  have hfn4 : fn ≤ 400 := by omega
  have hmn4 : mn ≤ 400 := by omega
  clear hrf hrm hcf hcm hof hom E11 E10 hh hfl hml hokf hokm hf0 hm0 hb1 hb2 hb3 HB HHE HLE HSC HBG hb4 hbE hb5 hb6 HW7 hb8 s8 s6 s4 s3 s5 hsE ht8 hb9 s9 HRA HMM HEM HFE q0 f0 t0 hpk9 hokp d0 HBT hal2 hcl2 HSCN HRB HRM HKC HK7 hbZ hZ0 hge0 hcbl
  go_upto_region 18 with fail
  go_cut [6] (fun s wx => s = .bool true ∧ Below wc.heap.size wc wx)
  case first =>
    cases B
    case false =>
      clear hBT
      refine wp_region_held_drew (S := (fun W : World => (∀ o, W.cell? ⟨bx, o, none⟩ = #[Value.bool true, .int .i64 h.host, .int .i64 h.epoch, .int .i64 h.seq, .slice Ax (fn + mn) cx, .slice Ay (fn + mn) cy, .int .i64 u2][o]?) ∧ (∀ o, W.cell? ⟨cb, o, none⟩ = #[Value.int .i64 op, .int .i64 zn, .int .i64 ep, .int .i64 0, .int .i64 0, .slice Ac M.length cc][o]?) ∧ (∀ o, W.cell? ⟨w.heap.size, o, none⟩ = #[Value.int .i64 h.host, .int .i64 h.epoch, .int .i64 h.seq][o]?))) (by kernel_rfl) (HKC2.out _ hb0) (fun hHeld => ?_)
      refine wpAnyH_take (i := 0) (oi := ⟨some 79, _, _, _, _, _⟩) (v := ?_) rfl (by kernel_rfl) (by kernel_rfl) (by kernel_rfl) (fun _ _ _ h => h) (Or.inl ⟨by rfl, ?hy⟩) (by assumption) ?_
      case hy => intro w hSw; (try dsimp only at hSw); go_simp; with_reducible rfl
      try simp only [Act.put, List.setIfInBounds_toArray, List.set_cons_zero, List.set_cons_succ]
      refine wpAnyH_take (i := 1) (oi := ⟨some 80, _, _, _, _, _⟩) (v := ?_) rfl (by kernel_rfl) (by kernel_rfl) (by kernel_rfl) (fun _ _ _ h => h) (Or.inl ⟨by rfl, ?hy⟩) (by assumption) ?_
      case hy => intro w hSw; (try dsimp only at hSw); go_simp; with_reducible rfl
      try simp only [Act.put, List.setIfInBounds_toArray, List.set_cons_zero, List.set_cons_succ]
      refine wpAnyH_take (i := 2) (oi := ⟨some 81, _, _, _, _, _⟩) (v := ?_) rfl (by kernel_rfl) (by kernel_rfl) (by kernel_rfl) (fun _ _ _ h => h) (Or.inl ⟨by rfl, ?hy⟩) (by assumption) ?_
      case hy => intro w hSw; (try dsimp only at hSw); go_simp; with_reducible rfl
      try simp only [Act.put, List.setIfInBounds_toArray, List.set_cons_zero, List.set_cons_succ]
      refine wpAnyH_take (i := 3) (oi := ⟨some 82, _, _, _, _, _⟩) (v := ?_) rfl (by kernel_rfl) (by kernel_rfl) (by kernel_rfl) (fun _ _ _ h => h) (Or.inl ⟨by rfl, ?hy⟩) (by assumption) ?_
      case hy => intro w hSw; (try dsimp only at hSw); go_simp; with_reducible rfl
      try simp only [Act.put, List.setIfInBounds_toArray, List.set_cons_zero, List.set_cons_succ]
      refine wpAnyH_take (i := 4) (oi := ⟨some 83, _, _, _, _, _⟩) (v := ?_) rfl (by kernel_rfl) (by kernel_rfl) (by kernel_rfl) (fun _ _ _ h => h) (Or.inl ⟨by rfl, ?hy⟩) (by assumption) ?_
      case hy => intro w hSw; (try dsimp only at hSw); go_simp; with_reducible rfl
      try simp only [Act.put, List.setIfInBounds_toArray, List.set_cons_zero, List.set_cons_succ]
      refine wpAnyH_take (i := 5) (oi := ⟨some 84, _, _, _, _, _⟩) (v := ?_) rfl (by kernel_rfl) (by kernel_rfl) (by kernel_rfl) (fun _ _ _ h => h) (Or.inl ⟨by rfl, ?hy⟩) (by assumption) ?_
      case hy => intro w hSw; (try dsimp only at hSw); go_simp; with_reducible rfl
      try simp only [Act.put, List.setIfInBounds_toArray, List.set_cons_zero, List.set_cons_succ]
      refine wpAnyH_take (i := 6) (oi := ⟨some 85, _, _, _, _, _⟩) (v := ?_) rfl (by kernel_rfl) (by kernel_rfl) (by kernel_rfl) (fun _ _ _ h => h) (Or.inl ⟨by rfl, ?hy⟩) (by assumption) ?_
      case hy => intro w hSw; (try dsimp only at hSw); go_simp; with_reducible rfl
      try simp only [Act.put, List.setIfInBounds_toArray, List.set_cons_zero, List.set_cons_succ]
      refine wpAnyH_take (i := 7) (oi := ⟨some 86, _, _, _, _, _⟩) (v := ?_) rfl (by kernel_rfl) (by kernel_rfl) (by kernel_rfl) (fun _ _ _ h => h) (Or.inl ⟨by rfl, ?hy⟩) (by assumption) ?_
      case hy => intro w hSw; (try dsimp only at hSw); go_simp; with_reducible rfl
      try simp only [Act.put, List.setIfInBounds_toArray, List.set_cons_zero, List.set_cons_succ]
      refine wpAnyH_take (i := 8) (oi := ⟨some 87, _, _, _, _, _⟩) (v := ?_) rfl (by kernel_rfl) (by kernel_rfl) (by kernel_rfl) (fun _ _ _ h => h) (Or.inl ⟨by rfl, ?hy⟩) (by assumption) ?_
      case hy => intro w hSw; (try dsimp only at hSw); go_simp; with_reducible rfl
      try simp only [Act.put, List.setIfInBounds_toArray, List.set_cons_zero, List.set_cons_succ]
      refine wpAnyH_take (i := 9) (oi := ⟨some 88, _, _, _, _, _⟩) (v := ?_) rfl (by kernel_rfl) (by kernel_rfl) (by kernel_rfl) (fun _ _ _ h => h) (Or.inl ⟨by rfl, ?hy⟩) (by assumption) ?_
      case hy => intro w hSw; (try dsimp only at hSw); go_simp; with_reducible rfl
      try simp only [Act.put, List.setIfInBounds_toArray, List.set_cons_zero, List.set_cons_succ]
      refine wpAnyH_take (i := 10) (oi := ⟨some 89, _, _, _, _, _⟩) (v := ?_) rfl (by kernel_rfl) (by kernel_rfl) (by kernel_rfl) (fun _ _ _ h => h) (Or.inl ⟨by rfl, ?hy⟩) (by assumption) ?_
      case hy => intro w hSw; (try dsimp only at hSw); go_simp; with_reducible rfl
      try simp only [Act.put, List.setIfInBounds_toArray, List.set_cons_zero, List.set_cons_succ]
      refine wpAnyH_take (i := 11) (oi := ⟨some 90, _, _, _, _, _⟩) (v := ?_) rfl (by kernel_rfl) (by kernel_rfl) (by kernel_rfl) (fun _ _ _ h => h) (Or.inl ⟨by rfl, ?hy⟩) (by assumption) ?_
      case hy => intro w hSw; (try dsimp only at hSw); go_simp; with_reducible rfl
      try simp only [Act.put, List.setIfInBounds_toArray, List.set_cons_zero, List.set_cons_succ]
      refine wpAnyH_take (i := 12) (oi := ⟨some 91, _, _, _, _, _⟩) (v := ?_) rfl (by kernel_rfl) (by kernel_rfl) (by kernel_rfl) (fun _ _ _ h => h) (Or.inl ⟨by rfl, ?hy⟩) (by assumption) ?_
      case hy => intro w hSw; (try dsimp only at hSw); go_simp; with_reducible rfl
      try simp only [Act.put, List.setIfInBounds_toArray, List.set_cons_zero, List.set_cons_succ]
      refine wpAnyH_take (i := 13) (oi := ⟨some 92, _, _, _, _, _⟩) (v := ?_) rfl (by kernel_rfl) (by kernel_rfl) (by kernel_rfl) (fun _ _ _ h => h) (Or.inl ⟨by rfl, ?hy⟩) (by assumption) ?_
      case hy => intro w hSw; (try dsimp only at hSw); go_simp; with_reducible rfl
      try simp only [Act.put, List.setIfInBounds_toArray, List.set_cons_zero, List.set_cons_succ]
      refine wpAnyH_take (i := 14) (oi := ⟨some 93, _, _, _, _, _⟩) (v := ?_) rfl (by kernel_rfl) (by kernel_rfl) (by kernel_rfl) (fun _ _ _ h => h) (Or.inl ⟨by rfl, ?hy⟩) (by assumption) ?_
      case hy => intro w hSw; (try dsimp only at hSw); go_simp; with_reducible rfl
      try simp only [Act.put, List.setIfInBounds_toArray, List.set_cons_zero, List.set_cons_succ]
      refine wpAnyH_take (i := 16) (oi := ⟨some 95, _, _, _, _, _⟩) (v := ?_) rfl (by kernel_rfl) (by kernel_rfl) (by kernel_rfl) (fun _ _ _ h => h) (Or.inl ⟨by rfl, ?hy⟩) (by assumption) ?_
      case hy => intro w hSw; (try dsimp only at hSw); go_simp; with_reducible rfl
      try simp only [Act.put, List.setIfInBounds_toArray, List.set_cons_zero, List.set_cons_succ]
      refine wpAnyH_ready (rs := [15]) (by kernel_rfl) (by simp) ?_
      refine AllReadyH.cons (o := ⟨some 94, _, _, _, _, _⟩) rfl (fun K hK => ?_) AllReadyH.nil
      refine is_app (.const (.slice none 0 0)) (.tmp 93) _ (by rfl) ?_
      refine step_appG (by rfl) (.const (.slice none 0 0)) (.tmp 93) _ (by rfl) wc.heap.size 34 ir _ 7 72 Try.underlying24 hir hzr0 hzr1 hzr2 rfl (by omega) (by rfl) (World.ownsRow_nil _ _ _ _) (by rfl) (HRF.out _ hb0) HOF.out (by simp only [maxLen]; omega) (by omega) (hb0.size) ?_
      intro A10 c10 wP own10 hg10
      have hbP : Below wc.heap.size wc wP := hb0.trans hg10.below
      simp only [Nat.zero_add, List.nil_append] at own10
      have HO10 := Lib.hid own10
      clear own10 hg10
      refine hK.out _ _ (HKC2.out _ hbP) (fun hHeld => ?_)
      clear hK K
      try simp only [Act.put, List.setIfInBounds_toArray, List.set_cons_zero, List.set_cons_succ]
      refine wpAnyH_ready (rs := [17]) (by kernel_rfl) (by simp) ?_
      refine AllReadyH.cons (o := ⟨some 96, _, _, _, _, _⟩) rfl (fun K hK => ?_) AllReadyH.nil
      refine is_app (.tmp 94) (.tmp 95) _ (by rfl) ?_
      refine step_appG (by rfl) (.tmp 94) (.tmp 95) _ (by rfl) wc.heap.size 34 ir _ 7 72 Try.underlying24 hir hzr0 hzr1 hzr2 rfl (by omega) (by first | rfl | (simp only [Nat.zero_add]; rfl)) HO10.out (by rfl) (HRMR.out _ hbP) HOM.out (by simp only [maxLen]; omega) (by omega) (hbP.size) ?_
      intro A11 c11 wQ own11 hg11
      have hbQ : Below wc.heap.size wc wQ := hbP.trans hg11.below
      have HO11 := Lib.hid own11
      clear own11 hg11
      refine hK.out _ _ (HKC2.out _ hbQ) (fun hHeld => ?_)
      clear hK K
      try simp only [Act.put, List.setIfInBounds_toArray, List.set_cons_zero, List.set_cons_succ]
      refine wpAnyH_ready (rs := [18]) (by kernel_rfl) (by simp) ?_
      refine AllReadyH.cons (o := ⟨some 97, _, _, _, _, _⟩) rfl (fun K hK => ?_) AllReadyH.nil
      go_simp
      refine (sameRecs_any _ _ (first ++ more) _ _ _ (HLX.out _ hbQ) (catR HO11.out (HCF.out _ hbQ) (HCM.out _ hbQ) HFN.out HMN.out)).mono ?_
      rintro ex wS ⟨rfl, hbS0⟩
      have hbS := hbQ.trans (hbS0.mono hbQ.size)
      go_wp2_with fail
      refine hK.out _ _ (HKC2.out _ hbS) (fun hHeld => ?_)
      clear hK K
      try simp only [Act.put, List.setIfInBounds_toArray, List.set_cons_zero, List.set_cons_succ]
      refine wpAnyH_take (i := 19) (oi := ⟨some 98, _, _, _, _, _⟩) (v := ?_) rfl (by kernel_rfl) (by kernel_rfl) (by kernel_rfl) (fun _ _ _ h => h) (Or.inl ⟨by rfl, ?hy⟩) (by assumption) ?_
      case hy => intro w hSw; (try dsimp only at hSw); go_simp; with_reducible rfl
      try simp only [Act.put, List.setIfInBounds_toArray, List.set_cons_zero, List.set_cons_succ]
      refine wpAnyH_take (i := 20) (oi := ⟨some 99, _, _, _, _, _⟩) (v := ?_) rfl (by kernel_rfl) (by kernel_rfl) (by kernel_rfl) (fun _ _ _ h => h) (Or.inl ⟨by rfl, ?hy⟩) (by assumption) ?_
      case hy => intro w hSw; (try dsimp only at hSw); go_simp; with_reducible rfl
      try simp only [Act.put, List.setIfInBounds_toArray, List.set_cons_zero, List.set_cons_succ]
      refine wpAnyH_take (i := 21) (oi := ⟨some 100, _, _, _, _, _⟩) (v := ?_) rfl (by kernel_rfl) (by kernel_rfl) (by kernel_rfl) (fun _ _ _ h => h) (Or.inl ⟨by rfl, ?hy⟩) (by assumption) ?_
      case hy => intro w hSw; (try dsimp only at hSw); go_simp; with_reducible rfl
      try simp only [Act.put, List.setIfInBounds_toArray, List.set_cons_zero, List.set_cons_succ]
      refine wpAnyH_take (i := 22) (oi := ⟨some 101, _, _, _, _, _⟩) (v := ?_) rfl (by kernel_rfl) (by kernel_rfl) (by kernel_rfl) (fun _ _ _ h => h) (Or.inl ⟨by rfl, ?hy⟩) (by assumption) ?_
      case hy => intro w hSw; (try dsimp only at hSw); go_simp; with_reducible rfl
      try simp only [Act.put, List.setIfInBounds_toArray, List.set_cons_zero, List.set_cons_succ]
      refine wpAnyH_take (i := 23) (oi := ⟨some 102, _, _, _, _, _⟩) (v := ?_) rfl (by kernel_rfl) (by kernel_rfl) (by kernel_rfl) (fun _ _ _ h => h) (Or.inl ⟨by rfl, ?hy⟩) (by assumption) ?_
      case hy => intro w hSw; (try dsimp only at hSw); go_simp; with_reducible rfl
      try simp only [Act.put, List.setIfInBounds_toArray, List.set_cons_zero, List.set_cons_succ]
      refine wpAnyH_take (i := 24) (oi := ⟨some 103, _, _, _, _, _⟩) (v := undef) rfl (by kernel_rfl) (by kernel_rfl) (by kernel_rfl) (fun _ _ _ h => h) (Or.inr ⟨?hw, rfl⟩) (by assumption) ?_
      case hw => kernel_rfl
      try simp only [Act.put, List.setIfInBounds_toArray, List.set_cons_zero, List.set_cons_succ]
      refine wpAnyH_take (i := 25) (oi := ⟨some 104, _, _, _, _, _⟩) (v := undef) rfl (by kernel_rfl) (by kernel_rfl) (by kernel_rfl) (fun _ _ _ h => h) (Or.inr ⟨?hw, rfl⟩) (by assumption) ?_
      case hw => kernel_rfl
      try simp only [Act.put, List.setIfInBounds_toArray, List.set_cons_zero, List.set_cons_succ]
      refine wpAnyH_take (i := 26) (oi := ⟨some 105, _, _, _, _, _⟩) (v := undef) rfl (by kernel_rfl) (by kernel_rfl) (by kernel_rfl) (fun _ _ _ h => h) (Or.inr ⟨?hw, rfl⟩) (by assumption) ?_
      case hw => kernel_rfl
      try simp only [Act.put, List.setIfInBounds_toArray, List.set_cons_zero, List.set_cons_succ]
      refine wpAnyH_take (i := 27) (oi := ⟨some 106, _, _, _, _, _⟩) (v := undef) rfl (by kernel_rfl) (by kernel_rfl) (by kernel_rfl) (fun _ _ _ h => h) (Or.inr ⟨?hw, rfl⟩) (by assumption) ?_
      case hw => kernel_rfl
      try simp only [Act.put, List.setIfInBounds_toArray, List.set_cons_zero, List.set_cons_succ]
      refine wpAnyH_take (i := 28) (oi := ⟨some 107, _, _, _, _, _⟩) (v := undef) rfl (by kernel_rfl) (by kernel_rfl) (by kernel_rfl) (fun _ _ _ h => h) (Or.inr ⟨?hw, rfl⟩) (by assumption) ?_
      case hw => kernel_rfl
      try simp only [Act.put, List.setIfInBounds_toArray, List.set_cons_zero, List.set_cons_succ]
      refine wpAnyH_take (i := 29) (oi := ⟨some 108, _, _, _, _, _⟩) (v := undef) rfl (by kernel_rfl) (by kernel_rfl) (by kernel_rfl) (fun _ _ _ h => h) (Or.inr ⟨?hw, rfl⟩) (by assumption) ?_
      case hw => kernel_rfl
      try simp only [Act.put, List.setIfInBounds_toArray, List.set_cons_zero, List.set_cons_succ]
      refine wpAnyH_take (i := 30) (oi := ⟨some 109, _, _, _, _, _⟩) (v := undef) rfl (by kernel_rfl) (by kernel_rfl) (by kernel_rfl) (fun _ _ _ h => h) (Or.inr ⟨?hw, rfl⟩) (by assumption) ?_
      case hw => kernel_rfl
      try simp only [Act.put, List.setIfInBounds_toArray, List.set_cons_zero, List.set_cons_succ]
      refine wpAnyH_take (i := 31) (oi := ⟨some 110, _, _, _, _, _⟩) (v := undef) rfl (by kernel_rfl) (by kernel_rfl) (by kernel_rfl) (fun _ _ _ h => h) (Or.inr ⟨?hw, rfl⟩) (by assumption) ?_
      case hw => kernel_rfl
      try simp only [Act.put, List.setIfInBounds_toArray, List.set_cons_zero, List.set_cons_succ]
      refine wpAnyH_take (i := 32) (oi := ⟨some 111, _, _, _, _, _⟩) (v := undef) rfl (by kernel_rfl) (by kernel_rfl) (by kernel_rfl) (fun _ _ _ h => h) (Or.inr ⟨?hw, rfl⟩) (by assumption) ?_
      case hw => kernel_rfl
      try simp only [Act.put, List.setIfInBounds_toArray, List.set_cons_zero, List.set_cons_succ]
      refine wpAnyH_take (i := 33) (oi := ⟨some 112, _, _, _, _, _⟩) (v := undef) rfl (by kernel_rfl) (by kernel_rfl) (by kernel_rfl) (fun _ _ _ h => h) (Or.inr ⟨?hw, rfl⟩) (by assumption) ?_
      case hw => kernel_rfl
      try simp only [Act.put, List.setIfInBounds_toArray, List.set_cons_zero, List.set_cons_succ]
      refine wpAnyH_take (i := 34) (oi := ⟨some 113, _, _, _, _, _⟩) (v := ?_) rfl (by kernel_rfl) (by kernel_rfl) (by kernel_rfl) (fun _ _ _ h => h) (Or.inl ⟨by rfl, ?hy⟩) (by assumption) ?_
      case hy => intro w hSw; (try dsimp only at hSw); go_simp; with_reducible rfl
      try simp only [Act.put, List.setIfInBounds_toArray, List.set_cons_zero, List.set_cons_succ]
      refine wpAnyH_take (i := 35) (oi := ⟨some 114, _, _, _, _, _⟩) (v := ?_) rfl (by kernel_rfl) (by kernel_rfl) (by kernel_rfl) (fun _ _ _ h => h) (Or.inl ⟨by rfl, ?hy⟩) (by assumption) ?_
      case hy => intro w hSw; (try dsimp only at hSw); go_simp; with_reducible rfl
      try simp only [Act.put, List.setIfInBounds_toArray, List.set_cons_zero, List.set_cons_succ]
      refine wpAnyH_take (i := 36) (oi := ⟨some 6, _, _, _, _, _⟩) (v := ?_) rfl (by kernel_rfl) (by kernel_rfl) (by kernel_rfl) (fun _ _ _ h => h) (Or.inl ⟨by rfl, ?hy⟩) (by assumption) ?_
      case hy => intro w hSw; (try dsimp only at hSw); go_simp; with_reducible rfl
      try simp only [Act.put, List.setIfInBounds_toArray, List.set_cons_zero, List.set_cons_succ]
      refine wpAnyH_done (by kernel_rfl) ?_ _
      go_wp2_with fail
      go_meet
      exact ⟨rfl, hbS⟩
    case true =>
      obtain ⟨rfl, rfl⟩ := hBT rfl
      go_region_held3 (fun W : World => (∀ o, W.cell? ⟨bx, o, none⟩ = #[Value.bool true, .int .i64 h.host, .int .i64 h.epoch, .int .i64 h.seq, .slice Ax (fn + mn) cx, .slice Ay (fn + mn) cy, .int .i64 u2][o]?) ∧ (∀ o, W.cell? ⟨cb, o, none⟩ = #[Value.int .i64 op, .int .i64 4, .int .i64 h.epoch, .int .i64 0, .int .i64 0, .slice Ac M.length cc][o]?) ∧ (∀ o, W.cell? ⟨w.heap.size, o, none⟩ = #[Value.int .i64 h.host, .int .i64 h.epoch, .int .i64 h.seq][o]?))
        (first | (with_reducible exact HKC2.out _ hbS) | (with_reducible exact HKC2.out _ hbQ) | (with_reducible exact HKC2.out _ hbP) | (with_reducible exact HKC2.out _ hb0))
        (first
        | (go_at_call 22
           refine (sameRecs_any _ _ (first ++ more) _ _ _ (HLX.out _ hbQ) (catR HO11.out (HCF.out _ hbQ) (HCM.out _ hbQ) HFN.out HMN.out)).mono ?_
           rintro ex wS ⟨rfl, hbS0⟩
           have hbS := hbQ.trans (hbS0.mono hbQ.size))
        | (refine is_app (.const (.slice none 0 0)) (.tmp 93) _ (by rfl) ?_
           refine step_appG (by rfl) (.const (.slice none 0 0)) (.tmp 93) _ (by rfl) wc.heap.size 34 ir _ 7 72 Try.underlying24 hir hzr0 hzr1 hzr2 rfl (by omega) (by rfl) (World.ownsRow_nil _ _ _ _) (by rfl) (HRF.out _ hb0) HOF.out (by simp only [maxLen]; omega) (by omega) (hb0.size) ?_
           intro A10 c10 wP own10 hg10
           have hbP : Below wc.heap.size wc wP := hb0.trans hg10.below
           simp only [Nat.zero_add, List.nil_append] at own10
           have HO10 := Lib.hid own10
           clear own10 hg10)
        | (refine is_app (.tmp 94) (.tmp 95) _ (by rfl) ?_
           refine step_appG (by rfl) (.tmp 94) (.tmp 95) _ (by rfl) wc.heap.size 34 ir _ 7 72 Try.underlying24 hir hzr0 hzr1 hzr2 rfl (by omega) (by first | rfl | (simp only [Nat.zero_add]; rfl)) HO10.out (by rfl) (HRMR.out _ hbP) HOM.out (by simp only [maxLen]; omega) (by omega) (hbP.size) ?_
           intro A11 c11 wQ own11 hg11
           have hbQ : Below wc.heap.size wc wQ := hbP.trans hg11.below
           have HO11 := Lib.hid own11
           clear own11 hg11)
        | fail)
      go_wp2_with fail
      go_meet
      exact ⟨rfl, hbS⟩
  obtain ⟨rfl, hby⟩ := hcut
  have hbf := hbF.trans (hby.mono hbF.size)
  go_wp2
  go_ret
  exact ⟨rfl, hbf⟩
end Go.Proofs.Ytpacjjaekmipfaa
