/- The walks of packer.Data, extent.Many, replay's Newest, Heads and Torn. -/
import Derived.Test.YtlippmghgagdaaaGreatReplayFound
import Derived.Test.YtlippmghgagdaaaGreatSegRec
import Derived.BigQuiet
import Derived.Deep.QuietTactic
import Derived.Deep.DeepCutAuto
namespace Go.Proofs.YtlippmghgagdaaaGreat
open Go.RowKit

set_option maxRecDepth 100000 in
set_option maxHeartbeats 1600000 in
theorem pdata_any (r : Rc) (v : Value) (K : Nat → Prop) (w : World) (hr : OkRc r) (hv : IsB w K v r.data) :
    Calls Tryz.prog 118 #[rcV r v] w fun e w' => e = .returned (.tuple #[.int .i64 (dataL r), .int .i64 (recL r).2]) ∧ Below w.heap.size w w' := by
  have hv0 := hv
  obtain ⟨A, c, rfl, hl47⟩ := isB_form hv
  have hrec := fun W h => rec_any r (.slice A r.data.length c) K W hr h
  have hln := recL_len hr
  unfold dataL
  generalize recL r = y at hrec hln ⊢
  obtain ⟨fb, fe⟩ := y
  simp only at hrec hln ⊢
  unfold rcV at hrec ⊢
  have E := ((Kn.start w).give Stable.bytes hv0).push 57 #[.int .i64 r.kind, .int .i64 r.lba, .int .i64 r.n, .int .i64 r.ver, .int .i64 r.zone, .int .i64 r.off, .slice A r.data.length c]
  obtain ⟨h1, h2⟩ := hln
  by_cases hfe : fe = 0
  · subst hfe
    have h3 := h2 rfl
    rw [if_neg (by simp)]
    clear h2
    go_enter Tryz.func118, Tryz.ntmps118
    go_wp2_with fail
    refine (hrec _ (E.get m0)).mono ?_
    rintro e w1 ⟨A4, c4, rfl, own4, hb4⟩
    replace E := E.step hb4
    obtain ⟨q0, f0, t0⟩ := E.rules m0
    go_wp2
    refine bodyPost_ret (v := .tuple #[.int .i64 (fb.length - 4 - r.data.length), .int .i64 0]) (by simp [results, Tryz.results118, go_sem]) rfl ⟨rfl, E.below⟩
  · rw [if_pos hfe]
    have hf2 : (fe != 0) = true := by simpa using hfe
    clear h2 hfe
    go_enter Tryz.func118, Tryz.ntmps118
    go_wp2_with fail
    refine (hrec _ (E.get m0)).mono ?_
    rintro e w1 ⟨A4, c4, rfl, own4, hb4⟩
    replace E := E.step hb4
    obtain ⟨q0, f0, t0⟩ := E.rules m0
    go_wp2
    refine bodyPost_ret (v := .tuple #[.int .i64 0, .int .i64 fe]) (by simp [results, Tryz.results118, go_sem]) rfl ⟨rfl, E.below⟩

theorem IsL.fd_at {w : World} {K : Nat → Prop} {A : Option Addr} {n c : Nat} {l : List Fd} (h : IsL Rp.fd w K (.slice A n c) l) {j : Nat} {f : Fd} (hj : l[j]? = some f) :
    ∃ ad A1 c1 A2 c2, A = some ad ∧ K ad.block ∧ IsL Rp.rc w K (.slice A1 f.l.length c1) f.l ∧ IsL Rp.int w K (.slice A2 f.at_.length c2) f.at_ ∧
      w.cell? (ad.add (j * 7)) = some (.bool f.head) ∧ w.cell? ⟨(ad.add (j * 7)).block, (ad.add (j * 7)).off + 1, none⟩ = some (.int .i64 f.h.host) ∧ w.cell? ⟨(ad.add (j * 7)).block, (ad.add (j * 7)).off + 2, none⟩ = some (.int .i64 f.h.epoch) ∧
      w.cell? ⟨(ad.add (j * 7)).block, (ad.add (j * 7)).off + 3, none⟩ = some (.int .i64 f.h.seq) ∧ w.cell? ⟨(ad.add (j * 7)).block, (ad.add (j * 7)).off + 4, none⟩ = some (.slice A1 f.l.length c1) ∧ w.cell? ⟨(ad.add (j * 7)).block, (ad.add (j * 7)).off + 5, none⟩ = some (.slice A2 f.at_.length c2) ∧
      w.cell? ⟨(ad.add (j * 7)).block, (ad.add (j * 7)).off + 6, none⟩ = some (.int .i64 f.used) := by
  obtain ⟨ad, es, hA, hKad, hes, hcell⟩ := h.at_ hj
  obtain ⟨vl, va, rfl, h1, h2⟩ := hes
  obtain ⟨A1, c1, rfl, _⟩ := h1.form
  obtain ⟨A2, c2, rfl, _⟩ := h2.form
  have hsz7 : Rp.fd.size = 7 := rfl
  rw [hsz7] at hcell
  refine ⟨ad, A1, c1, A2, c2, hA, hKad, h1, h2, ?_, ?_, ?_, ?_, ?_, ?_, ?_⟩
  · rw [← addr0 (ad.add (j * 7))]; exact hcell 0 _ rfl
  · rw [← addrS _ 1 (by decide)]; exact hcell 1 _ rfl
  · rw [← addrS _ 2 (by decide)]; exact hcell 2 _ rfl
  · rw [← addrS _ 3 (by decide)]; exact hcell 3 _ rfl
  · rw [← addrS _ 4 (by decide)]; exact hcell 4 _ rfl
  · rw [← addrS _ 5 (by decide)]; exact hcell 5 _ rfl
  · rw [← addrS _ 6 (by decide)]; exact hcell 6 _ rfl

/-- the greatest version -/
def newR (n : Int) (l : List Rc) : Int := l.foldl (fun n r => max n r.ver) n
def newF (n : Int) (l : List Fd) : Int := l.foldl (fun n f => newR n f.l) n
theorem newR_take {l : List Rc} {j : Nat} (n : Int) (hj : j < l.length) : newR n (l.take (j + 1)) = max (newR n (l.take j)) l[j].ver := by
  unfold newR
  rw [etake (r := l[j]) _ (List.getElem?_eq_getElem hj), List.foldl_append]
  rfl
theorem newF_take {l : List Fd} {j : Nat} (n : Int) (hj : j < l.length) : newF n (l.take (j + 1)) = newR (newF n (l.take j)) l[j].l := by
  unfold newF
  rw [etake (r := l[j]) _ (List.getElem?_eq_getElem hj), List.foldl_append]
  rfl

set_option maxRecDepth 100000 in
set_option maxHeartbeats 4000000 in
theorem rnewest_any (d : Zd) (A : Option Addr) (c : Nat) (K : Nat → Prop) (w : World) (hv : IsL Rp.zone w K (.slice A d.z.length c) d.z) (hd : okD d) :
    Calls Tryz.prog 29 #[.agg #[.int .i64 d.cap, .int .i64 d.opn, .int .i64 d.act, .slice A d.z.length c]] w fun e w' => e = .returned (.int .i64 (newF 0 (foundL d.z))) ∧ Below w.heap.size w w' := by
  have hfo := fun W h => found_any d A c K W h hd
  have hfl : (foundL d.z).length = d.z.length := by unfold foundL; rw [List.length_map]
  have E := ((Kn.start w).give Stable.list hv).push 28 #[.int .i64 d.cap, .int .i64 d.opn, .int .i64 d.act, .slice A d.z.length c]
  obtain ⟨n, hn⟩ : ∃ n, d.z.length = n := ⟨_, rfl⟩
  have hn64 := hd.1.2.1
  obtain ⟨fs, hfs⟩ : ∃ fs, foundL d.z = fs := ⟨_, rfl⟩
  rw [hfs] at hfl hfo ⊢
  rw [hn] at hfo hfl hn64 E hv ⊢
  have HFL := Lib.hid hfl
  clear hfl hn hd hfs
  go_enter Tryz.func29, Tryz.ntmps29
  go_wp2_with fail
  refine (hfo _ (E.get m0)).mono ?_
  rintro x w2 ⟨Ao, co, rfl, hfd, hb2⟩
  replace E := (E.step hb2).give Stable.list hfd
  clear hfo hv hb2
  have hE := E.below.size
  go_wp2_with fail
  go_loopw [3, 5, 7, 11] (fun x3 x5 x7 x11 wr => ∃ j : Nat, x11 = .int .i64 j ∧ j ≤ n ∧ x3 = .int .i64 (newF 0 (fs.take j)) ∧ Below w2.heap.size w2 wr ∧ (∃ y, x5 = y) ∧ ∃ y, x7 = y) (fun _ _ _ x11 _ => n - (intOf x11).toNat)
  case atStart => exact ⟨0, rfl, Nat.zero_le _, rfl, Below.refl _ _, ⟨_, rfl⟩, _, rfl⟩
  case round =>
    obtain ⟨j, rfl, hj, rfl, hb, ⟨y, rfl⟩, y7, rfl⟩ := hrel
    have F := E.step hb
    by_cases hlt : j < n
    case neg =>
      obtain rfl : j = n := by omega
      rw [List.take_of_length_le (by rw [HFL.out]; exact Nat.le_refl _)]
      clear E
      go_wp2
      go_ret
      exact ⟨rfl, F.below⟩
    have hlt' : j < fs.length := by rw [HFL.out]; exact hlt
    have HN := Lib.hid (newF_take 0 hlt')
    obtain ⟨ad, A1, c1, A2, c2, rfl, hK, hl, -, k0, k1, k2, k3, k4, k5, k6⟩ := IsL.fd_at (F.get m0) (List.getElem?_eq_getElem hlt')
    generalize fs[j] = f at hl HN k0 k1 k2 k3 k4 k5 k6
    generalize newF 0 (fs.take j) = N0 at HN ⊢
    have j1 : (j : Int) < (n : Int) := by omega
    have j0 : (0 : Int) ≤ (j : Int) := by omega
    obtain ⟨fn, hfn⟩ : ∃ fn, f.l.length = fn := ⟨_, rfl⟩
    have hfn2 := hl.len
    rw [hfn] at hl k4 hfn2
    have HFN := Lib.hid hfn
    clear hfn
    go_wp2_with fail
    replace F := (F.give Stable.list hl).push 51 #[.bool f.head, .int .i64 f.h.host, .int .i64 f.h.epoch, .int .i64 f.h.seq, .slice A1 fn c1, .slice A2 f.at_.length c2, .int .i64 f.used]
    clear k0 k1 k2 k3 k4 k5 k6 E
    have hbo := hb.alloc hb.size (.cells #[.bool f.head, .int .i64 f.h.host, .int .i64 f.h.epoch, .int .i64 f.h.seq, .slice A1 fn c1, .slice A2 f.at_.length c2, .int .i64 f.used] 51)
    clear hl hb
    generalize wr.alloc (.cells #[.bool f.head, .int .i64 f.h.host, .int .i64 f.h.epoch, .int .i64 f.h.seq, .slice A1 fn c1, .slice A2 f.at_.length c2, .int .i64 f.used] 51) = wo at F hbo ⊢
    generalize wr.heap.size = go at F ⊢
    clear wr
    go_loopw [3, 7, 18] (fun x3 x7 x18 wr => ∃ i : Nat, x18 = .int .i64 i ∧ i ≤ fn ∧ x3 = .int .i64 (newR N0 (f.l.take i)) ∧ Below wo.heap.size wo wr ∧ ∃ y, x7 = y) (fun _ _ x18 _ => fn - (intOf x18).toNat)
    case atStart => exact ⟨0, rfl, Nat.zero_le _, rfl, Below.refl _ _, _, rfl⟩
    case round =>
      obtain ⟨i, rfl, hi, rfl, hb, y, rfl⟩ := hrel
      have G := F.step hb
      by_cases hilt : i < fn
      case neg =>
        obtain rfl : i = fn := by omega
        rw [List.take_of_length_le (by rw [HFN.out]; exact Nat.le_refl _)]
        clear F
        go_wp2_with fail
        go_roundw
        case rel => exact ⟨j + 1, by go_num, by omega, by rw [HN.out], hbo.trans (hb.mono hbo.size), ⟨_, rfl⟩, _, rfl⟩
        case measure => simp [intOf]; omega
      have hilt' : i < f.l.length := by rw [HFN.out]; exact hilt
      have HR := Lib.hid (newR_take N0 hilt')
      obtain ⟨ad', Ad, cd, rfl, hKa, -, -, k0, k1, k2, k3, k4, k5, k6⟩ := rc_at (G.get m0) (List.getElem?_eq_getElem hilt')
      generalize f.l[i] = r at HR k0 k1 k2 k3 k4 k5 k6
      generalize newR N0 (f.l.take i) = N1 at HR ⊢
      have i1 : (i : Int) < (fn : Int) := by omega
      have i0 : (0 : Int) ≤ (i : Int) := by omega
      go_wp2_with fail
      go_roundw
      case rel => exact ⟨i + 1, by go_num, by omega, by rw [HR.out, Int.max_comm], hb.alloc hb.size _, _, rfl⟩
      case measure => simp [intOf]; omega

/-- a zone's header, as Heads tells it -/
def headF (f : Fd) : Hd := if f.head then f.h else ⟨-1, 0, 0⟩
theorem Tryz.infHd : (Tryz.prog.info? 23).map (fun i => (i.zero, i.size, i.bytes)) = some (some (.agg #[.int .i64 0, .int .i64 0, .int .i64 0]), 3, 24) := by kernel_rfl
def hdCs (h : Hd) : List Value := [.int .i64 h.host, .int .i64 h.epoch, .int .i64 h.seq]
def hdLs (l : List Hd) : List Value := l.flatMap hdCs
set_option maxRecDepth 100000 in
set_option maxHeartbeats 4000000 in
theorem rheads_any (d : Zd) (A : Option Addr) (c : Nat) (K : Nat → Prop) (w : World) (hv : IsL Rp.zone w K (.slice A d.z.length c) d.z) (hd : okD d) :
    Calls Tryz.prog 27 #[.agg #[.int .i64 d.cap, .int .i64 d.opn, .int .i64 d.act, .slice A d.z.length c]] w fun e w' => ∃ Ao co, e = .returned (.slice Ao d.z.length co) ∧
      w'.ownsRow w.heap.size 23 3 (.slice Ao d.z.length co) d.z.length (hdLs ((foundL d.z).map headF)) ∧ Below w.heap.size w w' := by
  obtain ⟨i0, hi, hz0, hz1, hz2⟩ := info_parts Tryz.infHd
  have hfo := fun W h => found_any d A c K W h hd
  have hfl : (foundL d.z).length = d.z.length := by unfold foundL; rw [List.length_map]
  have E := ((Kn.start w).give Stable.list hv).push 28 #[.int .i64 d.cap, .int .i64 d.opn, .int .i64 d.act, .slice A d.z.length c]
  obtain ⟨n, hn⟩ : ∃ n, d.z.length = n := ⟨_, rfl⟩
  have hn64 := hd.1.2.1
  obtain ⟨fs, hfs⟩ : ∃ fs, foundL d.z = fs := ⟨_, rfl⟩
  rw [hfs] at hfl hfo ⊢
  rw [hn] at hfo hfl hn64 E hv ⊢
  have HFL := Lib.hid hfl
  clear hfl hn hd hfs
  go_enter Tryz.func27, Tryz.ntmps27
  go_wp2_with fail
  refine (hfo _ (E.get m0)).mono ?_
  rintro x w2 ⟨Ao, co, rfl, hfd, hb2⟩
  replace E := (E.step hb2).give Stable.list hfd
  clear hfo hv hb2
  have hE := E.below.size
  go_wp2_with fail
  go_loopw [3, 5, 9] (fun x3 x5 x9 wr => ∃ (j : Nat) (Al : Option Addr) (cl : Nat), x9 = .int .i64 j ∧ j ≤ n ∧ x3 = .slice Al j cl ∧ wr.ownsRow w2.heap.size 23 3 (.slice Al j cl) j (hdLs ((fs.take j).map headF)) ∧ Below w2.heap.size w2 wr ∧ ∃ y, x5 = y) (fun _ _ x9 _ => n - (intOf x9).toNat)
  case atStart => exact ⟨0, none, 0, rfl, Nat.zero_le _, rfl, World.ownsRow_nil _ _ _ _, Below.refl _ _, _, rfl⟩
  case round =>
    obtain ⟨j, Al, cl, rfl, hj, rfl, hown, hb, y, rfl⟩ := hrel
    have F := E.step hb
    by_cases hlt : j < n
    case neg =>
      obtain rfl : j = n := by omega
      rw [List.take_of_length_le (by rw [HFL.out]; exact Nat.le_refl _)] at hown
      clear E
      go_wp2
      go_ret
      exact ⟨Al, cl, rfl, own_base hown hE, F.below⟩
    have hlt' : j < fs.length := by rw [HFL.out]; exact hlt
    obtain ⟨ad, A1, c1, A2, c2, rfl, hK, hl, -, k0, k1, k2, k3, k4, k5, k6⟩ := IsL.fd_at (F.get m0) (List.getElem?_eq_getElem hlt')
    have HT := Lib.hid (etake (r := fs[j]) _ (List.getElem?_eq_getElem hlt'))
    generalize fs[j] = f at hl HT k0 k1 k2 k3 k4 k5 k6
    have j1 : (j : Int) < (n : Int) := by omega
    have j0 : (0 : Int) ≤ (j : Int) := by omega
    have hs := hb.size
    obtain ⟨hh, hhe⟩ : ∃ hh, headF f = hh := ⟨_, rfl⟩
    have hX : hdLs ((fs.take (j + 1)).map headF) = hdLs ((fs.take j).map headF) ++ hdCs hh := by rw [HT.out, List.map_append, ← hhe]; simp [hdLs]
    have HX := Lib.hid hX
    clear hX HT
    unfold headF at hhe
    cases hfh : f.head with
    | true =>
      rw [hfh] at hhe k0
      simp only [if_true] at hhe
      subst hhe
      have hY : ∀ u ∈ hdCs f.h, u.oneCell' = true := by intro u hu; simp only [hdCs, List.mem_cons, List.not_mem_nil, or_false] at hu; rcases hu with rfl | rfl | rfl <;> rfl
      go_wp2_with (at_builtin; (refine wpList_appN rfl _ _ _ rfl w2.heap.size 23 i0 _ 3 24 Tryz.underlying75 hi hz0 hz1 hz2 rfl (by omega) rfl ((hown.alloc _).alloc _) rfl (Reads.new (xs := hdCs f.h) (n := 1) (World.size_alloc _ _) rfl rfl) hY (by simp only [maxLen]; omega) (by omega) (by simp only [World.size_alloc]; omega) ?_; intro A8 c8 w6 own8 hg8))
      go_roundw
      case rel => exact ⟨j + 1, A8, c8, by go_num, by omega, rfl, by rw [HX.out]; exact own8, ((hb.alloc hs _).alloc (by rw [World.size_alloc]; omega) _).trans (hg8.below.mono (Nat.le_refl _)), _, rfl⟩
      case measure => simp [intOf]; omega
    | false =>
      rw [hfh] at hhe k0
      simp only [Bool.false_eq_true, if_false] at hhe
      subst hhe
      have hY : ∀ u ∈ hdCs ⟨-1, 0, 0⟩, u.oneCell' = true := by intro u hu; simp only [hdCs, List.mem_cons, List.not_mem_nil, or_false] at hu; rcases hu with rfl | rfl | rfl <;> rfl
      go_wp2_with (at_builtin; (refine wpList_appN rfl _ _ _ rfl w2.heap.size 23 i0 _ 3 24 Tryz.underlying75 hi hz0 hz1 hz2 rfl (by omega) rfl ((hown.alloc _).alloc _) rfl (Reads.new (xs := hdCs ⟨-1, 0, 0⟩) (n := 1) (World.size_alloc _ _) rfl rfl) hY (by simp only [maxLen]; omega) (by omega) (by simp only [World.size_alloc]; omega) ?_; intro A8 c8 w6 own8 hg8))
      go_roundw
      case rel => exact ⟨j + 1, A8, c8, by go_num, by omega, rfl, by rw [HX.out]; exact own8, ((hb.alloc hs _).alloc (by rw [World.size_alloc]; omega) _).trans (hg8.below.mono (Nat.le_refl _)), _, rfl⟩
      case measure => simp [intOf]; omega

/-- zones with something behind -/
def tornT (zs : List Zn) (j : Nat) : List Int := ((List.range j).filter fun (i : Nat) => decide ((scanL (zs.getD i z0).d).used < (zs.getD i z0).d.length)).map fun (i : Nat) => (i : Int)
theorem tornT_succ (zs : List Zn) (j : Nat) : tornT zs (j + 1) = tornT zs j ++ (if (scanL (zs.getD j z0).d).used < (zs.getD j z0).d.length then [(j : Int)] else []) := by
  unfold tornT
  rw [List.range_succ, List.filter_append, List.map_append]
  congr 1
  simp only [List.filter_cons, List.filter_nil]
  by_cases h : (scanL (zs.getD j z0).d).used < (zs.getD j z0).d.length
  · rw [if_pos (decide_eq_true h), if_pos h]; rfl
  · rw [if_neg (by simpa using h), if_neg h]; rfl
theorem tornT_len (zs : List Zn) (j : Nat) : (tornT zs j).length ≤ j := by
  unfold tornT
  rw [List.length_map]
  have := List.length_filter_le (fun (i : Nat) => decide ((scanL (zs.getD i z0).d).used < (zs.getD i z0).d.length)) (List.range j)
  rw [List.length_range] at this
  exact this
set_option maxRecDepth 100000 in
set_option maxHeartbeats 4000000 in
theorem rtorn_any (d : Zd) (A : Option Addr) (c : Nat) (K : Nat → Prop) (w : World) (hv : IsL Rp.zone w K (.slice A d.z.length c) d.z) (hd : okD d) :
    Calls Tryz.prog 31 #[.agg #[.int .i64 d.cap, .int .i64 d.opn, .int .i64 d.act, .slice A d.z.length c]] w fun e w' => ∃ Ao co, e = .returned (.slice Ao (tornT d.z d.z.length).length co) ∧
      w'.ownsRow w.heap.size 3 1 (.slice Ao (tornT d.z d.z.length).length co) (tornT d.z d.z.length).length ((tornT d.z d.z.length).map I64) ∧ Below w.heap.size w w' := by
  obtain ⟨i0, hi, hz0, hz1, hz2⟩ := info_parts Tryz.infInt
  have hfo := fun W h => found_any d A c K W h hd
  have hfl : (foundL d.z).length = d.z.length := by unfold foundL; rw [List.length_map]
  have hzl : ∀ z ∈ d.z, z.d.length ≤ 1000000000 := fun z hz => by
    obtain ⟨h1, h2, h3, h4⟩ := hd.2.2.2 z hz
    have := hd.1
    omega
  have E := ((Kn.start w).give Stable.list hv).push 28 #[.int .i64 d.cap, .int .i64 d.opn, .int .i64 d.act, .slice A d.z.length c]
  obtain ⟨zs, hzs⟩ : ∃ zs, d.z = zs := ⟨_, rfl⟩
  have hn64 := hd.1.2.1
  rw [hzs] at hfo hfl hzl hn64 E hv ⊢
  obtain ⟨n, hn⟩ : ∃ n, zs.length = n := ⟨_, rfl⟩
  have HTS := Lib.hid (tornT_succ zs)
  have htl := tornT_len zs
  rw [hn] at hfo hfl hn64 E hv ⊢
  have HFL := Lib.hid hfl; have HN := Lib.hid hn; have HZL := Lib.hid hzl
  clear hfl hn hd hzs hzl
  obtain ⟨q0, f0, t0⟩ := E.rules m0
  have HTL := Lib.hid htl
  clear htl
  have hfs : ∀ j, (hj : j < zs.length) → (foundL zs)[j]? = some (scanL zs[j].d) := fun j hj => by unfold foundL; rw [List.getElem?_map, List.getElem?_eq_getElem hj]; rfl
  have HFS := Lib.hid hfs
  clear hfs
  generalize foundL zs = fs at hfo HFL HFS
  go_enter Tryz.func31, Tryz.ntmps31
  go_wp2_with fail
  refine (hfo _ (E.get m0)).mono ?_
  rintro x w2 ⟨Ao, co, rfl, hfd, hb2⟩
  replace E := (E.step hb2).give Stable.list hfd
  clear hfo hv hb2 q0 f0 t0
  have hE := E.below.size
  go_wp2_with fail
  go_loopw [3, 4, 5, 9] (fun x3 x4 x5 x9 wr => ∃ (j t : Nat) (Al : Option Addr) (cl : Nat), x9 = .int .i64 j ∧ j ≤ n ∧ x3 = .slice Al t cl ∧ Hid ((tornT zs j).length = t) ∧ t ≤ j ∧ wr.ownsRow w2.heap.size 3 1 (.slice Al t cl) t ((tornT zs j).map I64) ∧ Below w2.heap.size w2 wr ∧ (∃ y, x4 = y) ∧ ∃ y, x5 = y) (fun _ _ _ x9 _ => n - (intOf x9).toNat)
  case atStart => exact ⟨0, 0, none, 0, rfl, Nat.zero_le _, rfl, Lib.hid rfl, Nat.le_refl _, World.ownsRow_nil _ _ _ _, Below.refl _ _, ⟨_, rfl⟩, _, rfl⟩
  case round =>
    obtain ⟨j, t, Al, cl, rfl, hj, rfl, htt, htj, hown, hb, ⟨y4, rfl⟩, y, rfl⟩ := hrel
    have F := E.step hb
    by_cases hlt : j < n
    case neg =>
      obtain rfl : j = n := by omega
      clear E
      go_wp2
      go_ret
      exact ⟨Al, cl, by rw [htt.out]; rfl, by rw [htt.out]; exact own_base hown hE, F.below⟩
    have hlt' : j < zs.length := by rw [HN.out]; exact hlt
    have HT := Lib.hid (HTS.out j)
    rw [show zs.getD j z0 = zs[j] from by rw [List.getD_eq_getElem?_getD, List.getElem?_eq_getElem hlt']; rfl] at HT
    obtain ⟨adz, B, cB, rfl, hadb, _, hB, c0, c1, c2⟩ := IsL.zone_at (F.get m1) (List.getElem?_eq_getElem hlt')
    obtain ⟨ad, A1, c1', A2, c2', rfl, hK, hl, -, k0, k1, k2, k3, k4, k5, k6⟩ := IsL.fd_at (F.get m0) (HFS.out j hlt')
    have hln := HZL.out _ (List.getElem_mem hlt')
    generalize zs[j] = z at hl HT hB c0 c1 c2 k0 k1 k2 k3 k4 k5 k6 hln
    generalize scanL z.d = f at hl HT k0 k1 k2 k3 k4 k5 k6
    have HZ : ∀ cs t, ZoneAt (wr.alloc (.cells cs t)) (adz.add (j * 3)) z B cB := fun cs t => ZoneAt.step ⟨c0, c1, c2⟩ ((Below.refl _ _).alloc (Nat.le_refl _) _)
    unfold ZoneAt at HZ
    generalize z.d.length = zn at HT hln c2 HZ
    obtain ⟨q0, f0, t0⟩ := F.rules m0
    have j1 : (j : Int) < (n : Int) := by omega
    have j0 : (0 : Int) ≤ (j : Int) := by omega
    have hs := hb.size
    by_cases hu : f.used < zn
    case neg =>
      rw [if_neg hu, List.append_nil] at HT
      have hu2 : ¬ (f.used : Int) < (zn : Int) := by omega
      go_upto_region 5 with fail
      have G := F.push 51 #[.bool f.head, .int .i64 f.h.host, .int .i64 f.h.epoch, .int .i64 f.h.seq, .slice A1 f.l.length c1', .slice A2 f.at_.length c2', .int .i64 f.used]
      obtain ⟨z0, z1, z2⟩ := HZ #[.bool f.head, .int .i64 f.h.host, .int .i64 f.h.epoch, .int .i64 f.h.seq, .slice A1 f.l.length c1', .slice A2 f.at_.length c2', .int .i64 f.used] 51
      have hbx := hb.alloc hs (.cells #[.bool f.head, .int .i64 f.h.host, .int .i64 f.h.epoch, .int .i64 f.h.seq, .slice A1 f.l.length c1', .slice A2 f.at_.length c2', .int .i64 f.used] 51)
      replace hown := hown.alloc (.cells #[.bool f.head, .int .i64 f.h.host, .int .i64 f.h.epoch, .int .i64 f.h.seq, .slice A1 f.l.length c1', .slice A2 f.at_.length c2', .int .i64 f.used] 51)
      clear q0 f0 t0 k0 k1 k2 k3 k4 k5 k6 c0 c1 c2 hb F E HZ
      generalize wr.alloc (.cells #[.bool f.head, .int .i64 f.h.host, .int .i64 f.h.epoch, .int .i64 f.h.seq, .slice A1 f.l.length c1', .slice A2 f.at_.length c2', .int .i64 f.used] 51) = w1 at G z0 z1 z2 hbx hown ⊢
      obtain ⟨q0, f0, t0⟩ := G.rules m0
      obtain ⟨q1, f1, t1⟩ := G.rules m1
      go_quiet (fail)
      go_wp2
      go_roundw
      case rel => exact ⟨j + 1, t, Al, cl, by go_num, by omega, rfl, Lib.hid (by rw [HT.out]; exact htt.out), by omega, by rw [HT.out]; exact own_below hown (below_drewN (Below.refl w1.heap.size w1) _) (Nat.le_refl _), below_drewN hbx _, ⟨_, rfl⟩, _, rfl⟩
      case measure => simp [intOf]; omega
    rw [if_pos hu] at HT
    have hu2 : (f.used : Int) < (zn : Int) := by omega
    go_upto_region 5 with fail
    have G := F.push 51 #[.bool f.head, .int .i64 f.h.host, .int .i64 f.h.epoch, .int .i64 f.h.seq, .slice A1 f.l.length c1', .slice A2 f.at_.length c2', .int .i64 f.used]
    obtain ⟨z0, z1, z2⟩ := HZ #[.bool f.head, .int .i64 f.h.host, .int .i64 f.h.epoch, .int .i64 f.h.seq, .slice A1 f.l.length c1', .slice A2 f.at_.length c2', .int .i64 f.used] 51
    have hbx := hb.alloc hs (.cells #[.bool f.head, .int .i64 f.h.host, .int .i64 f.h.epoch, .int .i64 f.h.seq, .slice A1 f.l.length c1', .slice A2 f.at_.length c2', .int .i64 f.used] 51)
    replace hown := hown.alloc (.cells #[.bool f.head, .int .i64 f.h.host, .int .i64 f.h.epoch, .int .i64 f.h.seq, .slice A1 f.l.length c1', .slice A2 f.at_.length c2', .int .i64 f.used] 51)
    clear q0 f0 t0 k0 k1 k2 k3 k4 k5 k6 c0 c1 c2 hb F E HZ
    generalize wr.alloc (.cells #[.bool f.head, .int .i64 f.h.host, .int .i64 f.h.epoch, .int .i64 f.h.seq, .slice A1 f.l.length c1', .slice A2 f.at_.length c2', .int .i64 f.used] 51) = w1 at G z0 z1 z2 hbx hown ⊢
    obtain ⟨q0, f0, t0⟩ := G.rules m0
    obtain ⟨q1, f1, t1⟩ := G.rules m1
    go_quiet (fail)
    go_wp2_with (at_builtin; (refine wpList_appN rfl _ _ _ rfl w2.heap.size 3 i0 _ 1 8 Tryz.underlying44 hi hz0 hz1 hz2 rfl (by omega) rfl ((own_below hown (below_drewN (Below.refl w1.heap.size w1) _) (Nat.le_refl _)).alloc _) rfl (Reads.new (xs := [I64 j]) (n := 1) rfl rfl rfl) (by intro u hu; simp only [List.mem_cons, List.not_mem_nil, or_false] at hu; subst hu; rfl) (by simp only [maxLen]; omega) (by omega) (by rw [World.size_alloc]; exact Nat.le_succ_of_le (below_drewN hbx _).size) ?_; intro A8 c8 w6 own8 hg8))
    go_roundw
    case rel => exact ⟨j + 1, t + 1, A8, c8, by go_num, by omega, rfl, Lib.hid (by rw [HT.out, List.length_append, htt.out]; rfl), by omega, by rw [HT.out, List.map_append]; exact own8, ((below_drewN hbx _).alloc (below_drewN hbx _).size _).trans (hg8.below.mono (Nat.le_refl _)), ⟨_, rfl⟩, _, rfl⟩
    case measure => simp [intOf]; omega
end Go.Proofs.YtlippmghgagdaaaGreat
