/- A part of the proof. -/
import Derived.Test.YtjahaflkdpmhpaaGreatHostRoom2
set_option maxHeartbeats 16000000
set_option maxRecDepth 100000
namespace Go.Proofs.YtjahaflkdpmhpaaGreat
open Go.RowKit
theorem pdata_any (r : Rc) (v : Value) (K : Nat → Prop) (w : World) (hr : OkRc r) (hv : IsB w K v r.data) :
 Calls Tryz.prog 122 #[rcV r v] w fun e w' => e = .returned (.tuple #[.int .i64 (dataL r), .int .i64 (recL r).2]) ∧ Below w.heap.size w w' := by
 have hv0 := hv
 obtain ⟨A, c, rfl, hl47⟩ := isB_form hv
 have hrec := fun W h => rec_any r (.slice A r.data.length c) K W hr h
 have hln := recL_len hr
 unfold dataL
 generalize recL r = y at hrec hln ⊢
 obtain ⟨fb, fe⟩ := y
 simp only at hrec hln ⊢
 unfold rcV at hrec ⊢
 have E := ((Kn.start w).give Stable.bytes hv0).push 135 #[.int .i64 r.kind, .int .i64 r.lba, .int .i64 r.n, .int .i64 r.ver, .int .i64 r.zone, .int .i64 r.off, .slice A r.data.length c]
 obtain ⟨h1, h2⟩ := hln
 by_cases hfe : fe = 0
 · subst hfe
   have h3 := h2 rfl
   rw [if_neg (by simp)]
   clear h2
   go_enter Tryz.func122, Tryz.ntmps122
   go_wp2_with fail
   refine (hrec _ (E.get m0)).mono ?_
   rintro e w1 ⟨A4, c4, rfl, own4, hb4⟩
   replace E := E.step hb4
   obtain ⟨q0, f0, t0⟩ := E.rules m0
   go_wp2
   refine bodyPost_ret (v := .tuple #[.int .i64 (fb.length - 4 - r.data.length), .int .i64 0]) (by simp [results, Tryz.results122, go_sem]) rfl ⟨rfl, E.below⟩
 · rw [if_pos hfe]
   have hf2 : (fe != 0) = true := by simpa using hfe
   clear h2 hfe
   go_enter Tryz.func122, Tryz.ntmps122
   go_wp2_with fail
   refine (hrec _ (E.get m0)).mono ?_
   rintro e w1 ⟨A4, c4, rfl, own4, hb4⟩
   replace E := E.step hb4
   obtain ⟨q0, f0, t0⟩ := E.rules m0
   go_wp2
   refine bodyPost_ret (v := .tuple #[.int .i64 0, .int .i64 fe]) (by simp [results, Tryz.results122, go_sem]) rfl ⟨rfl, E.below⟩
theorem IsL.fd_at {w : World} {K : Nat → Prop} {A : Option Addr} {n c : Nat} {l : List Fd} (h : IsL Rp.fd w K (.slice A n c) l) {j : Nat} {f : Fd} (hj : l[j]? = some f) :
 ∃ ad A1 c1 A2 c2, A = some ad ∧ K ad.block ∧ IsL Rp.rc w K (.slice A1 f.l.length c1) f.l ∧ IsL Rp.int w K (.slice A2 f.at_.length c2) f.at_ ∧
   w.cell? (ad.add (j * 7)) = some (.bool f.head) ∧ w.cell? ⟨(ad.add (j * 7)).block, (ad.add (j * 7)).off + 1, none⟩ = some (.int .i64 f.h.host) ∧ w.cell? ⟨(ad.add (j * 7)).block, (ad.add (j * 7)).off + 2, none⟩ = some (.int .i64 f.h.epoch) ∧
   w.cell? ⟨(ad.add (j * 7)).block, (ad.add (j * 7)).off + 3, none⟩ = some (.int .i64 f.h.seq) ∧ w.cell? ⟨(ad.add (j * 7)).block, (ad.add (j * 7)).off + 4, none⟩ = some (.slice A1 f.l.length c1) ∧ w.cell? ⟨(ad.add (j * 7)).block, (ad.add (j * 7)).off + 5, none⟩ = some (.slice A2 f.at_.length c2) ∧
   w.cell? ⟨(ad.add (j * 7)).block, (ad.add (j * 7)).off + 6, none⟩ = some (.int .i64 f.used) := by
 obtain ⟨ad, es, hA, hKad, hes, hcell⟩ := h.at_ hj
 obtain ⟨vl, va, rfl, h1, h2⟩ := hes
 obtain ⟨A1, c1, rfl, _⟩ := h1.form
 obtain ⟨A2, c2, rfl, _⟩ := h2.form
 have hsz7 : Rp.fd.size = 7 := rfl
 rw [hsz7] at hcell
 refine ⟨ad, A1, c1, A2, c2, hA, hKad, h1, h2, ?_, ?_, ?_, ?_, ?_, ?_, ?_⟩
 · rw [← addr0 (ad.add (j * 7))]; exact hcell 0 _ rfl
 · rw [← addrS _ 1 (by decide)]; exact hcell 1 _ rfl
 · rw [← addrS _ 2 (by decide)]; exact hcell 2 _ rfl
 · rw [← addrS _ 3 (by decide)]; exact hcell 3 _ rfl
 · rw [← addrS _ 4 (by decide)]; exact hcell 4 _ rfl
 · rw [← addrS _ 5 (by decide)]; exact hcell 5 _ rfl
 · rw [← addrS _ 6 (by decide)]; exact hcell 6 _ rfl
def newR (n : Int) (l : List Rc) : Int := l.foldl (fun n r => max n r.ver) n
def newF (n : Int) (l : List Fd) : Int := l.foldl (fun n f => newR n f.l) n
theorem newR_take {l : List Rc} {j : Nat} (n : Int) (hj : j < l.length) : newR n (l.take (j + 1)) = max (newR n (l.take j)) l[j].ver := by
 unfold newR
 rw [etake (r := l[j]) _ (List.getElem?_eq_getElem hj), List.foldl_append]
 rfl
theorem newF_take {l : List Fd} {j : Nat} (n : Int) (hj : j < l.length) : newF n (l.take (j + 1)) = newR (newF n (l.take j)) l[j].l := by
 unfold newF
 rw [etake (r := l[j]) _ (List.getElem?_eq_getElem hj), List.foldl_append]
 rfl
theorem rnewest_any (d : Zd) (A : Option Addr) (c : Nat) (K : Nat → Prop) (w : World) (hv : IsL Rp.zone w K (.slice A d.z.length c) d.z) (hd : okD d) :
 Calls Tryz.prog 40 #[.agg #[.int .i64 d.cap, .int .i64 d.opn, .int .i64 d.act, .slice A d.z.length c]] w fun e w' => e = .returned (.int .i64 (newF 0 (foundL d.z))) ∧ Below w.heap.size w w' := by
 have hfo := fun W h => found_any d A c K W h hd
 have hfl : (foundL d.z).length = d.z.length := by unfold foundL; rw [List.length_map]
 have E := ((Kn.start w).give Stable.list hv).push 28 #[.int .i64 d.cap, .int .i64 d.opn, .int .i64 d.act, .slice A d.z.length c]
 obtain ⟨n, hn⟩ : ∃ n, d.z.length = n := ⟨_, rfl⟩
 have hn64 := hd.1.2.1
 obtain ⟨fs, hfs⟩ : ∃ fs, foundL d.z = fs := ⟨_, rfl⟩
 rw [hfs] at hfl hfo ⊢
 rw [hn] at hfo hfl hn64 E hv ⊢
 have HFL := Lib.hid hfl
 clear hfl hn hd hfs
 go_enter Tryz.func40, Tryz.ntmps40
 go_wp2_with fail
 refine (hfo _ (E.get m0)).mono ?_
 rintro x w2 ⟨Ao, co, rfl, hfd, hb2⟩
 replace E := (E.step hb2).give Stable.list hfd
 clear hfo hv hb2
 have hE := E.below.size
 go_wp2_with fail
 go_loopw [3, 5, 7, 11] (fun x3 x5 x7 x11 wr => ∃ j : Nat, x11 = .int .i64 j ∧ j ≤ n ∧ x3 = .int .i64 (newF 0 (fs.take j)) ∧ Below w2.heap.size w2 wr ∧ (∃ y, x5 = y) ∧ ∃ y, x7 = y) (fun _ _ _ x11 _ => n - (intOf x11).toNat)
 case atStart => exact ⟨0, rfl, Nat.zero_le _, rfl, Below.refl _ _, ⟨_, rfl⟩, _, rfl⟩
 case round =>
  obtain ⟨j, rfl, hj, rfl, hb, ⟨y, rfl⟩, y7, rfl⟩ := hrel
  have F := E.step hb
  by_cases hlt : j < n
  case neg =>
   obtain rfl : j = n := by omega
   rw [List.take_of_length_le (by rw [HFL.out]; exact Nat.le_refl _)]
   clear E
   go_wp2
   go_ret
   exact ⟨rfl, F.below⟩
  have hlt' : j < fs.length := by rw [HFL.out]; exact hlt
  have HN := Lib.hid (newF_take 0 hlt')
  obtain ⟨ad, A1, c1, A2, c2, rfl, hK, hl, -, k0, k1, k2, k3, k4, k5, k6⟩ := IsL.fd_at (F.get m0) (List.getElem?_eq_getElem hlt')
  generalize fs[j] = f at hl HN k0 k1 k2 k3 k4 k5 k6
  generalize newF 0 (fs.take j) = N0 at HN ⊢
  have j1 : (j : Int) < (n : Int) := by omega
  have j0 : (0 : Int) ≤ (j : Int) := by omega
  obtain ⟨fn, hfn⟩ : ∃ fn, f.l.length = fn := ⟨_, rfl⟩
  have hfn2 := hl.len
  rw [hfn] at hl k4 hfn2
  have HFN := Lib.hid hfn
  clear hfn
  go_wp2_with fail
  replace F := (F.give Stable.list hl).push 149 #[.bool f.head, .int .i64 f.h.host, .int .i64 f.h.epoch, .int .i64 f.h.seq, .slice A1 fn c1, .slice A2 f.at_.length c2, .int .i64 f.used]
  clear k0 k1 k2 k3 k4 k5 k6 E
  have hbo := hb.alloc hb.size (.cells #[.bool f.head, .int .i64 f.h.host, .int .i64 f.h.epoch, .int .i64 f.h.seq, .slice A1 fn c1, .slice A2 f.at_.length c2, .int .i64 f.used] 149)
  clear hl hb
  generalize wr.alloc (.cells #[.bool f.head, .int .i64 f.h.host, .int .i64 f.h.epoch, .int .i64 f.h.seq, .slice A1 fn c1, .slice A2 f.at_.length c2, .int .i64 f.used] 149) = wo at F hbo ⊢
  generalize wr.heap.size = go at F ⊢
  clear wr
  go_loopw [3, 7, 18] (fun x3 x7 x18 wr => ∃ i : Nat, x18 = .int .i64 i ∧ i ≤ fn ∧ x3 = .int .i64 (newR N0 (f.l.take i)) ∧ Below wo.heap.size wo wr ∧ ∃ y, x7 = y) (fun _ _ x18 _ => fn - (intOf x18).toNat)
  case atStart => exact ⟨0, rfl, Nat.zero_le _, rfl, Below.refl _ _, _, rfl⟩
  case round =>
   obtain ⟨i, rfl, hi, rfl, hb, y, rfl⟩ := hrel
   have G := F.step hb
   by_cases hilt : i < fn
   case neg =>
    obtain rfl : i = fn := by omega
    rw [List.take_of_length_le (by rw [HFN.out]; exact Nat.le_refl _)]
    clear F
    go_wp2_with fail
    go_roundw
    case rel => exact ⟨j + 1, by go_num, by omega, by rw [HN.out], hbo.trans (hb.mono hbo.size), ⟨_, rfl⟩, _, rfl⟩
    case measure => simp [intOf]; omega
   have hilt' : i < f.l.length := by rw [HFN.out]; exact hilt
   have HR := Lib.hid (newR_take N0 hilt')
   obtain ⟨ad', Ad, cd, rfl, hKa, -, -, k0, k1, k2, k3, k4, k5, k6⟩ := rc_at (G.get m0) (List.getElem?_eq_getElem hilt')
   generalize f.l[i] = r at HR k0 k1 k2 k3 k4 k5 k6
   generalize newR N0 (f.l.take i) = N1 at HR ⊢
   have i1 : (i : Int) < (fn : Int) := by omega
   have i0 : (0 : Int) ≤ (i : Int) := by omega
   go_wp2_with fail
   go_roundw
   case rel => exact ⟨i + 1, by go_num, by omega, by rw [HR.out, Int.max_comm], hb.alloc hb.size _, _, rfl⟩
   case measure => simp [intOf]; omega
def tornT (zs : List Zn) (j : Nat) : List Int := ((List.range j).filter fun (i : Nat) => decide ((scanL (zs.getD i z0).d).used < (zs.getD i z0).d.length)).map fun (i : Nat) => (i : Int)
theorem tornT_succ (zs : List Zn) (j : Nat) : tornT zs (j + 1) = tornT zs j ++ (if (scanL (zs.getD j z0).d).used < (zs.getD j z0).d.length then [(j : Int)] else []) := by
 unfold tornT
 rw [List.range_succ, List.filter_append, List.map_append]
 congr 1
 simp only [List.filter_cons, List.filter_nil]
 by_cases h : (scanL (zs.getD j z0).d).used < (zs.getD j z0).d.length
 · rw [if_pos (decide_eq_true h), if_pos h]; rfl
 · rw [if_neg (by simpa using h), if_neg h]; rfl
theorem tornT_len (zs : List Zn) (j : Nat) : (tornT zs j).length ≤ j := by
 unfold tornT
 rw [List.length_map]
 have := List.length_filter_le (fun (i : Nat) => decide ((scanL (zs.getD i z0).d).used < (zs.getD i z0).d.length)) (List.range j)
 rw [List.length_range] at this
 exact this
theorem rtorn_any (d : Zd) (A : Option Addr) (c : Nat) (K : Nat → Prop) (w : World) (hv : IsL Rp.zone w K (.slice A d.z.length c) d.z) (hd : okD d) :
 Calls Tryz.prog 23 #[.agg #[.int .i64 d.cap, .int .i64 d.opn, .int .i64 d.act, .slice A d.z.length c]] w fun e w' => ∃ Ao co, e = .returned (.slice Ao (tornT d.z d.z.length).length co) ∧
  w'.ownsRow w.heap.size 3 1 (.slice Ao (tornT d.z d.z.length).length co) (tornT d.z d.z.length).length ((tornT d.z d.z.length).map I64) ∧ Below w.heap.size w w' := by
 obtain ⟨i0, hi, hz0, hz1, hz2⟩ := info_parts Tryz.infInt
 have hfo := fun W h => found_any d A c K W h hd
 have hfl : (foundL d.z).length = d.z.length := by unfold foundL; rw [List.length_map]
 have hzl : ∀ z ∈ d.z, z.d.length ≤ 1000000000 := fun z hz => by
  obtain ⟨h1, h2, h3, h4⟩ := hd.2.2.2 z hz
  have := hd.1
  omega
 have E := ((Kn.start w).give Stable.list hv).push 28 #[.int .i64 d.cap, .int .i64 d.opn, .int .i64 d.act, .slice A d.z.length c]
 obtain ⟨zs, hzs⟩ : ∃ zs, d.z = zs := ⟨_, rfl⟩
 have hn64 := hd.1.2.1
 rw [hzs] at hfo hfl hzl hn64 E hv ⊢
 obtain ⟨n, hn⟩ : ∃ n, zs.length = n := ⟨_, rfl⟩
 have HTS := Lib.hid (tornT_succ zs)
 have htl := tornT_len zs
 rw [hn] at hfo hfl hn64 E hv ⊢
 have HFL := Lib.hid hfl; have HN := Lib.hid hn; have HZL := Lib.hid hzl
 clear hfl hn hd hzs hzl
 obtain ⟨q0, f0, t0⟩ := E.rules m0
 have HTL := Lib.hid htl
 clear htl
 have hfs : ∀ j, (hj : j < zs.length) → (foundL zs)[j]? = some (scanL zs[j].d) := fun j hj => by unfold foundL; rw [List.getElem?_map, List.getElem?_eq_getElem hj]; rfl
 have HFS := Lib.hid hfs
 clear hfs
 generalize foundL zs = fs at hfo HFL HFS
 go_enter Tryz.func23, Tryz.ntmps23
 go_wp2_with fail
 refine (hfo _ (E.get m0)).mono ?_
 rintro x w2 ⟨Ao, co, rfl, hfd, hb2⟩
 replace E := (E.step hb2).give Stable.list hfd
 clear hfo hv hb2 q0 f0 t0
 have hE := E.below.size
 go_wp2_with fail
 go_loopw [3, 4, 5, 9] (fun x3 x4 x5 x9 wr => ∃ (j t : Nat) (Al : Option Addr) (cl : Nat), x9 = .int .i64 j ∧ j ≤ n ∧ x3 = .slice Al t cl ∧ Hid ((tornT zs j).length = t) ∧ t ≤ j ∧ wr.ownsRow w2.heap.size 3 1 (.slice Al t cl) t ((tornT zs j).map I64) ∧ Below w2.heap.size w2 wr ∧ (∃ y, x4 = y) ∧ ∃ y, x5 = y) (fun _ _ _ x9 _ => n - (intOf x9).toNat)
 case atStart => exact ⟨0, 0, none, 0, rfl, Nat.zero_le _, rfl, Lib.hid rfl, Nat.le_refl _, World.ownsRow_nil _ _ _ _, Below.refl _ _, ⟨_, rfl⟩, _, rfl⟩
 case round =>
  obtain ⟨j, t, Al, cl, rfl, hj, rfl, htt, htj, hown, hb, ⟨y4, rfl⟩, y, rfl⟩ := hrel
  have F := E.step hb
  by_cases hlt : j < n
  case neg =>
   obtain rfl : j = n := by omega
   clear E
   go_wp2
   go_ret
   exact ⟨Al, cl, by rw [htt.out]; rfl, by rw [htt.out]; exact own_base hown hE, F.below⟩
  have hlt' : j < zs.length := by rw [HN.out]; exact hlt
  have HT := Lib.hid (HTS.out j)
  rw [show zs.getD j z0 = zs[j] from by rw [List.getD_eq_getElem?_getD, List.getElem?_eq_getElem hlt']; rfl] at HT
  obtain ⟨adz, B, cB, rfl, hadb, _, hB, c0, c1, c2⟩ := IsL.zone_at (F.get m1) (List.getElem?_eq_getElem hlt')
  obtain ⟨ad, A1, c1', A2, c2', rfl, hK, hl, -, k0, k1, k2, k3, k4, k5, k6⟩ := IsL.fd_at (F.get m0) (HFS.out j hlt')
  have hln := HZL.out _ (List.getElem_mem hlt')
  generalize zs[j] = z at hl HT hB c0 c1 c2 k0 k1 k2 k3 k4 k5 k6 hln
  generalize scanL z.d = f at hl HT k0 k1 k2 k3 k4 k5 k6
  have HZ : ∀ cs t, ZoneAt (wr.alloc (.cells cs t)) (adz.add (j * 3)) z B cB := fun cs t => ZoneAt.step ⟨c0, c1, c2⟩ ((Below.refl _ _).alloc (Nat.le_refl _) _)
  unfold ZoneAt at HZ
  generalize z.d.length = zn at HT hln c2 HZ
  obtain ⟨q0, f0, t0⟩ := F.rules m0
  have j1 : (j : Int) < (n : Int) := by omega
  have j0 : (0 : Int) ≤ (j : Int) := by omega
  have hs := hb.size
  by_cases hu : f.used < zn
  case neg =>
   rw [if_neg hu, List.append_nil] at HT
   have hu2 : ¬ (f.used : Int) < (zn : Int) := by omega
   go_upto_region 5 with fail
   have G := F.push 149 #[.bool f.head, .int .i64 f.h.host, .int .i64 f.h.epoch, .int .i64 f.h.seq, .slice A1 f.l.length c1', .slice A2 f.at_.length c2', .int .i64 f.used]
   obtain ⟨z0, z1, z2⟩ := HZ #[.bool f.head, .int .i64 f.h.host, .int .i64 f.h.epoch, .int .i64 f.h.seq, .slice A1 f.l.length c1', .slice A2 f.at_.length c2', .int .i64 f.used] 149
   have hbx := hb.alloc hs (.cells #[.bool f.head, .int .i64 f.h.host, .int .i64 f.h.epoch, .int .i64 f.h.seq, .slice A1 f.l.length c1', .slice A2 f.at_.length c2', .int .i64 f.used] 149)
   replace hown := hown.alloc (.cells #[.bool f.head, .int .i64 f.h.host, .int .i64 f.h.epoch, .int .i64 f.h.seq, .slice A1 f.l.length c1', .slice A2 f.at_.length c2', .int .i64 f.used] 149)
   clear q0 f0 t0 k0 k1 k2 k3 k4 k5 k6 c0 c1 c2 hb F E HZ
   generalize wr.alloc (.cells #[.bool f.head, .int .i64 f.h.host, .int .i64 f.h.epoch, .int .i64 f.h.seq, .slice A1 f.l.length c1', .slice A2 f.at_.length c2', .int .i64 f.used] 149) = w1 at G z0 z1 z2 hbx hown ⊢
   obtain ⟨q0, f0, t0⟩ := G.rules m0
   obtain ⟨q1, f1, t1⟩ := G.rules m1
   go_quiet (fail)
   go_wp2
   go_roundw
   case rel => exact ⟨j + 1, t, Al, cl, by go_num, by omega, rfl, Lib.hid (by rw [HT.out]; exact htt.out), by omega, by rw [HT.out]; exact own_below hown (below_drewN (Below.refl w1.heap.size w1) _) (Nat.le_refl _), below_drewN hbx _, ⟨_, rfl⟩, _, rfl⟩
   case measure => simp [intOf]; omega
  rw [if_pos hu] at HT
  have hu2 : (f.used : Int) < (zn : Int) := by omega
  go_upto_region 5 with fail
  have G := F.push 149 #[.bool f.head, .int .i64 f.h.host, .int .i64 f.h.epoch, .int .i64 f.h.seq, .slice A1 f.l.length c1', .slice A2 f.at_.length c2', .int .i64 f.used]
  obtain ⟨z0, z1, z2⟩ := HZ #[.bool f.head, .int .i64 f.h.host, .int .i64 f.h.epoch, .int .i64 f.h.seq, .slice A1 f.l.length c1', .slice A2 f.at_.length c2', .int .i64 f.used] 149
  have hbx := hb.alloc hs (.cells #[.bool f.head, .int .i64 f.h.host, .int .i64 f.h.epoch, .int .i64 f.h.seq, .slice A1 f.l.length c1', .slice A2 f.at_.length c2', .int .i64 f.used] 149)
  replace hown := hown.alloc (.cells #[.bool f.head, .int .i64 f.h.host, .int .i64 f.h.epoch, .int .i64 f.h.seq, .slice A1 f.l.length c1', .slice A2 f.at_.length c2', .int .i64 f.used] 149)
  clear q0 f0 t0 k0 k1 k2 k3 k4 k5 k6 c0 c1 c2 hb F E HZ
  generalize wr.alloc (.cells #[.bool f.head, .int .i64 f.h.host, .int .i64 f.h.epoch, .int .i64 f.h.seq, .slice A1 f.l.length c1', .slice A2 f.at_.length c2', .int .i64 f.used] 149) = w1 at G z0 z1 z2 hbx hown ⊢
  obtain ⟨q0, f0, t0⟩ := G.rules m0
  obtain ⟨q1, f1, t1⟩ := G.rules m1
  go_quiet (fail)
  go_wp2_with (at_builtin; (refine wpList_appN rfl _ _ _ rfl w2.heap.size 3 i0 _ 1 8 Tryz.underlying73 hi hz0 hz1 hz2 rfl (by omega) rfl ((own_below hown (below_drewN (Below.refl w1.heap.size w1) _) (Nat.le_refl _)).alloc _) rfl (Reads.new (xs := [I64 j]) (n := 1) rfl rfl rfl) (by intro u hu; simp only [List.mem_cons, List.not_mem_nil, or_false] at hu; subst hu; rfl) (by simp only [maxLen]; omega) (by omega) (by rw [World.size_alloc]; exact Nat.le_succ_of_le (below_drewN hbx _).size) ?_; intro A8 c8 w6 own8 hg8))
  go_roundw
  case rel => exact ⟨j + 1, t + 1, A8, c8, by go_num, by omega, rfl, Lib.hid (by rw [HT.out, List.length_append, htt.out]; rfl), by omega, by rw [HT.out, List.map_append]; exact own8, ((below_drewN hbx _).alloc (below_drewN hbx _).size _).trans (hg8.below.mono (Nat.le_refl _)), ⟨_, rfl⟩, _, rfl⟩
  case measure => simp [intOf]; omega
end Go.Proofs.YtjahaflkdpmhpaaGreat
namespace Go.Proofs.YtjahaflkdpmhpaaGreat
open Go.RowKit
theorem at_wr15 {K : World → Prop} {w : World} {g : Nat} {t : TypeId} {u0 u1 u2 u3 u4 u5 u6 u7 u8 u9 u10 u11 u12 u13 u14 u15 u16 u17 u18 : Value} (hB : Blk w g t #[u0, u1, u2, u3, u4, u5, u6, u7, u8, u9, u10, u11, u12, u13, u14, u15, u16, u17, u18]) (x0 x1 x2 x3 x4 x5 x6 x7 x8 x9 x10 x11 x12 x13 x14 : Value)
 (h : ∀ wy, wy.heap.size = w.heap.size → Turned w wy (fun b => b = g) → Blk wy g t #[x0, x1, x2, x3, x4, x5, x6, x7, x8, x9, x10, x11, x12, x13, x14, u15, u16, u17, u18] → K wy) : K (((((((((((((((w.setCell ⟨g, 0, none⟩ x0).setCell ⟨g, 1, none⟩ x1).setCell ⟨g, 2, none⟩ x2).setCell ⟨g, 3, none⟩ x3).setCell ⟨g, 4, none⟩ x4).setCell ⟨g, 5, none⟩ x5).setCell ⟨g, 6, none⟩ x6).setCell ⟨g, 7, none⟩ x7).setCell ⟨g, 8, none⟩ x8).setCell ⟨g, 9, none⟩ x9).setCell ⟨g, 10, none⟩ x10).setCell ⟨g, 11, none⟩ x11).setCell ⟨g, 12, none⟩ x12).setCell ⟨g, 13, none⟩ x13).setCell ⟨g, 14, none⟩ x14) := by
 have t0 := Turned.refl w (fun b => b = g)
 have t1 := t0.set (g := g) rfl 0 x0
 replace hB : Blk _ g t #[x0, u1, u2, u3, u4, u5, u6, u7, u8, u9, u10, u11, u12, u13, u14, u15, u16, u17, u18] := hB.set_ 0 x0
 have t2 := t1.set (g := g) rfl 1 x1
 replace hB : Blk _ g t #[x0, x1, u2, u3, u4, u5, u6, u7, u8, u9, u10, u11, u12, u13, u14, u15, u16, u17, u18] := hB.set_ 1 x1
 have t3 := t2.set (g := g) rfl 2 x2
 replace hB : Blk _ g t #[x0, x1, x2, u3, u4, u5, u6, u7, u8, u9, u10, u11, u12, u13, u14, u15, u16, u17, u18] := hB.set_ 2 x2
 have t4 := t3.set (g := g) rfl 3 x3
 replace hB : Blk _ g t #[x0, x1, x2, x3, u4, u5, u6, u7, u8, u9, u10, u11, u12, u13, u14, u15, u16, u17, u18] := hB.set_ 3 x3
 have t5 := t4.set (g := g) rfl 4 x4
 replace hB : Blk _ g t #[x0, x1, x2, x3, x4, u5, u6, u7, u8, u9, u10, u11, u12, u13, u14, u15, u16, u17, u18] := hB.set_ 4 x4
 have t6 := t5.set (g := g) rfl 5 x5
 replace hB : Blk _ g t #[x0, x1, x2, x3, x4, x5, u6, u7, u8, u9, u10, u11, u12, u13, u14, u15, u16, u17, u18] := hB.set_ 5 x5
 have t7 := t6.set (g := g) rfl 6 x6
 replace hB : Blk _ g t #[x0, x1, x2, x3, x4, x5, x6, u7, u8, u9, u10, u11, u12, u13, u14, u15, u16, u17, u18] := hB.set_ 6 x6
 have t8 := t7.set (g := g) rfl 7 x7
 replace hB : Blk _ g t #[x0, x1, x2, x3, x4, x5, x6, x7, u8, u9, u10, u11, u12, u13, u14, u15, u16, u17, u18] := hB.set_ 7 x7
 have t9 := t8.set (g := g) rfl 8 x8
 replace hB : Blk _ g t #[x0, x1, x2, x3, x4, x5, x6, x7, x8, u9, u10, u11, u12, u13, u14, u15, u16, u17, u18] := hB.set_ 8 x8
 have t10 := t9.set (g := g) rfl 9 x9
 replace hB : Blk _ g t #[x0, x1, x2, x3, x4, x5, x6, x7, x8, x9, u10, u11, u12, u13, u14, u15, u16, u17, u18] := hB.set_ 9 x9
 have t11 := t10.set (g := g) rfl 10 x10
 replace hB : Blk _ g t #[x0, x1, x2, x3, x4, x5, x6, x7, x8, x9, x10, u11, u12, u13, u14, u15, u16, u17, u18] := hB.set_ 10 x10
 have t12 := t11.set (g := g) rfl 11 x11
 replace hB : Blk _ g t #[x0, x1, x2, x3, x4, x5, x6, x7, x8, x9, x10, x11, u12, u13, u14, u15, u16, u17, u18] := hB.set_ 11 x11
 have t13 := t12.set (g := g) rfl 12 x12
 replace hB : Blk _ g t #[x0, x1, x2, x3, x4, x5, x6, x7, x8, x9, x10, x11, x12, u13, u14, u15, u16, u17, u18] := hB.set_ 12 x12
 have t14 := t13.set (g := g) rfl 13 x13
 replace hB : Blk _ g t #[x0, x1, x2, x3, x4, x5, x6, x7, x8, x9, x10, x11, x12, x13, u14, u15, u16, u17, u18] := hB.set_ 13 x13
 have t15 := t14.set (g := g) rfl 14 x14
 replace hB : Blk _ g t #[x0, x1, x2, x3, x4, x5, x6, x7, x8, x9, x10, x11, x12, x13, x14, u15, u16, u17, u18] := hB.set_ 14 x14
 exact h _ (by simp) t15 hB
theorem add_okPk {p : Pk} {l : List Rc} (hp : OkPk p) (h : (addL p l).2.2 = 0) (hl : l.length ≤ 100000000) (hpl : p.l.length ≤ 1000000000) : OkPk (addL p l).1 := by
 obtain ⟨h1, h2, h3, h4, h5, h6⟩ := hp
 unfold addL at h ⊢
 split at h
 · rename_i h0; exact absurd h h0
 · rename_i h0
   rw [if_neg h0]
   split at h
   · exact absurd h (by decide)
   · rename_i h7
     rw [if_neg h7]
     unfold roomL at h7
     refine ⟨h1, h2, h3, h4, ?_, ?_⟩
     · simp only [List.length_append]; omega
     · simp only [List.length_append]; omega
theorem hput_any (g : Nat) (h : Ho) (d : Zd) (lv : Value) (l : List Rc) (K K' : Nat → Prop) (w : World) (hW : WrAt w g K h d) (hKlt : ∀ b, K b → b < w.heap.size ∧ b ≠ g) (hp : OkPk h.p) (hl : IsL Rp.rc w K' lv l) (hll : l.length ≤ 100000000) (hn : d.z.length * 40 ≤ 140737488355328)
 (hpl : h.p.l.length ≤ 1000000000) (hbuf : (addL h.p l).2.2 = 0 → (addL h.p l).1.buf ≠ []) :
 Calls Tryz.prog 109 #[.pointer (some ⟨g, 0, none⟩), lv] w fun e w' => ∃ Aa ca, e = .returned (.tuple #[.slice Aa (putW d h l).2.2.1.length ca, .int .i64 (putW d h l).2.2.2]) ∧ w'.ownsRow w.heap.size 3 1 (.slice Aa (putW d h l).2.2.1.length ca) (putW d h l).2.2.1.length ((putW d h l).2.2.1.map I64) ∧
  WrAt w' g (fun b => K b ∨ w.heap.size ≤ b) (putW d h l).2.1 (putW d h l).1 ∧ Turned w w' (fun b => b = g) := by
 obtain ⟨vo, vs, vb, vl, vm, vz, hB, h1, h2, h3, h4, h5, h6⟩ := hW
 obtain ⟨Ao, co, rfl, -⟩ := h1.form
 obtain ⟨As, cs, rfl, -⟩ := h2.form
 obtain ⟨Ab, cb, rfl, -⟩ := isB_form h3
 obtain ⟨Al, cl, rfl, -⟩ := h4.form
 obtain ⟨Am, cm, rfl, -⟩ := h5.form
 obtain ⟨Az, cz, rfl, -⟩ := h6.form
 have hgl := hB.lt
 have E := (((((((Kn.start w).know hB).give Stable.list h1).give Stable.list h2).give Stable.bytes h3).give Stable.list h4).give Stable.list h5).give Stable.list h6
 have hok := add_okPk (l := l) hp
 have had := fun W a b c => add_any (pkV h.p (.slice Ab h.p.buf.length cb) (.slice Al h.p.l.length cl)) lv h.p l K K' W a b hp c hll
 obtain ⟨res, hres⟩ : ∃ res, putW d h l = res := ⟨_, rfl⟩
 rw [hres]
 unfold putW at hres
 obtain ⟨r, hr⟩ : ∃ r, addL h.p l = r := ⟨_, rfl⟩
 rw [hr] at had hres hok hbuf
 obtain ⟨q, at_, e1⟩ := r
 simp only at had hres hok hbuf
 have HRES := Lib.hid hres
 have HKL := Lib.hid hKlt
 have km : ∀ b, K b → K b ∨ w.heap.size ≤ b := fun b h => .inl h
 unfold pkV at had
 clear hB h1 h2 h3 h4 h5 h6 hres hr hKlt
 go_enter Tryz.func109, Tryz.ntmps109
 obtain ⟨q0, f0, t0⟩ := E.rules m0
 go_wp2_with fail
 refine (had _ ⟨_, _, rfl, E.get m3, E.get m2⟩ (fun b hb => (HKL.out b hb).1) hl).mono ?_
 rintro e w2 ⟨pv, A2, c2, rfl, ⟨qb, ql, hpv, hqb, hql⟩, own2, hb2⟩
 unfold pkV at hpv
 subst hpv
 obtain ⟨Aq, cq, rfl, -⟩ := isB_form hqb
 obtain ⟨Ar, cr, rfl, -⟩ := hql.form
 replace E := ((E.step hb2).give Stable.bytes hqb).give Stable.list hql
 clear q0 f0 t0 had hqb hql hl
 go_upto_region 2 with fail
 replace E := E.push 39 (pkC q (.slice Aq q.buf.length cq) (.slice Ar q.l.length cr))
 have own3 := own2.alloc (.cells (pkC q (.slice Aq q.buf.length cq) (.slice Ar q.l.length cr)) 39)
 have hb3 := hb2.alloc hb2.size (.cells (pkC q (.slice Aq q.buf.length cq) (.slice Ar q.l.length cr)) 39)
 have hs2 := hb2.size
 generalize w2.alloc (.cells (pkC q (.slice Aq q.buf.length cq) (.slice Ar q.l.length cr)) 39) = w3 at E own3 hb3 ⊢
 clear hb2 own2
 obtain ⟨an, han⟩ : ∃ an, at_.length = an := ⟨_, rfl⟩
 rw [han] at own3 ⊢
 have HAN := Lib.hid han
 clear han
 by_cases he : e1 = 0
 case neg =>
  have he2 : (e1 == (0 : Int)) = false := by simpa using he
  have hr := HRES.out
  rw [if_pos he] at hr
  subst hr
  clear HRES
  go_wp2
  refine bodyPost_ret (v := .tuple #[.slice none 0 0, .int .i64 e1]) (by simp [results, Tryz.results109, go_sem]) rfl ⟨none, 0, rfl, World.ownsRow_nil _ _ _ _, ⟨_, _, _, _, _, _, E.at_ m1, (E.get m7).more km, (E.get m6).more km, (E.get m5).more km, (E.get m4).more km, (E.get m3).more km, (E.get m2).more km⟩, Turned.of hb3⟩
 subst he
 have hok := hok rfl hll hpl
 have hbuf := hbuf rfl
 have hr := HRES.out
 rw [if_neg (by simp), if_neg hbuf] at hr
 have HR := Lib.hid hr
 clear hr HRES
 have hq47 : q.buf.length ≤ 140737488355328 := by have := (E.get m1).open_; have := isB_form (E.get m1); obtain ⟨_, _, _, h47⟩ := this; exact h47
 have hfl := fun W (X : Nat → Prop) (a : IsPk W X (pkV q (.slice Aq q.buf.length cq) (.slice Ar q.l.length cr)) q) => flush_some (pkV q (.slice Aq q.buf.length cq) (.slice Ar q.l.length cr)) q X W a hok hbuf
 unfold pkV cmdV at hfl
 obtain ⟨q0, f0, t0⟩ := E.rules m0
 go_wp2_with fail
 refine (hfl _ _ ⟨_, _, rfl, E.get m1, E.get m0⟩).mono ?_
 rintro e w4 ⟨A4, c4, rfl, own4, hb4⟩
 have hbf4 : IsB w4 (fun b => w3.heap.size ≤ b) (.slice A4 q.buf.length c4) q.buf := IsB.of_own own4 hq47
 replace E := (E.step hb4).give Stable.bytes hbf4
 replace own3 := own_below own3 hb4 (Nat.le_refl _)
 have hs3 := hb3.size
 have hs4 := hb4.size
 replace hb3 := hb3.trans (hb4.mono hs3)
 clear q0 f0 t0 hfl own4 hb4 hbf4
 go_upto_region 5 with fail
 replace E := (E.push 51 #[.int .i64 1, .int .i64 q.zone, .int .i64 q.h.epoch, .int .i64 0, .int .i64 0, .slice A4 q.buf.length c4]).push 39 (pkC (flushP q) (.slice none 0 0) (.slice none 0 0))
 rw [World.size_alloc] at E
 replace own3 := (own3.alloc (.cells #[.int .i64 1, .int .i64 q.zone, .int .i64 q.h.epoch, .int .i64 0, .int .i64 0, .slice A4 q.buf.length c4] 51)).alloc (.cells (pkC (flushP q) (.slice none 0 0) (.slice none 0 0)) 39)
 replace hb3 := (hb3.alloc hb3.size (.cells #[.int .i64 1, .int .i64 q.zone, .int .i64 q.h.epoch, .int .i64 0, .int .i64 0, .slice A4 q.buf.length c4] 51)).alloc (hb3.alloc hb3.size (.cells #[.int .i64 1, .int .i64 q.zone, .int .i64 q.h.epoch, .int .i64 0, .int .i64 0, .slice A4 q.buf.length c4] 51)).size (.cells (pkC (flushP q) (.slice none 0 0) (.slice none 0 0)) 39)
 generalize (w4.alloc (.cells #[.int .i64 1, .int .i64 q.zone, .int .i64 q.h.epoch, .int .i64 0, .int .i64 0, .slice A4 q.buf.length c4] 51)).alloc (.cells (pkC (flushP q) (.slice none 0 0) (.slice none 0 0)) 39) = w5 at E own3 hb3 ⊢
 have hs5 : w4.heap.size + 1 < w5.heap.size := (E.at_ m0).lt
 have hw3 : w.heap.size ≤ w3.heap.size := by omega
 have hdo := fun W a b c e => wdo_any g h (.slice Ao h.own.length co) (.slice As h.s.length cs) (.slice Ab h.p.buf.length cb) (.slice Al h.p.l.length cl) (.slice Am h.m.length cm) d Az cz ⟨1, q.zone, q.h.epoch, 0, 0, q.buf⟩ A4 c4 (fun b => (K b ∨ w3.heap.size ≤ b) ∧ b < w5.heap.size) W a b c e hn (show (0 : Int) ≤ 9223372036854775807 by decide)
 obtain ⟨rd, hrd⟩ : ∃ rd, doZ d ⟨1, q.zone, q.h.epoch, 0, 0, q.buf⟩ = rd := ⟨_, rfl⟩
 rw [hrd] at hdo HR
 obtain ⟨d', x⟩ := rd
 simp only at hdo HR
 clear hrd
 have kn : ∀ b, K b → ¬ b = g := fun b hb => (HKL.out b hb).2
 obtain ⟨q0, f0, t0⟩ := E.rules m1
 go_wp2_with fail
 refine (hdo _ (E.at_ m3) ((E.get m3).zlt.more fun b hb => ⟨.inl hb.1, hb.2⟩) (fun b hb => ⟨hb.2, by rcases hb.1 with h1 | h1; exact kn b h1; omega⟩) ((E.get m0).lt.more fun b hb => ⟨.inr hb.1, hb.2⟩)).mono ?_
 rintro e w6 ⟨A9, c9, rfl, hB9, hz9, ht9⟩
 have b1 := (E.get m8).turned ht9 kn
 have b2 := (E.get m7).turned ht9 kn
 have b3 := (E.get m6).turned ht9 kn
 have b4 := (E.get m5).turned ht9 kn
 have b5 := (E.get m4).turned ht9 kn
 have hBp := (E.at_ m0).turned ht9 (show ¬ w4.heap.size + 1 = g by omega)
 have own6 := own_turned own3 ht9 hgl
 have hT := (Turned.of (S := fun b => b = g) hb3).trans ht9
 have hz6 := hz9.more (K' := fun b => K b ∨ w.heap.size ≤ b) fun b hb => by rcases hb with hb | hb; (rcases hb.1 with h1 | h1; exact .inl h1; exact .inr (by omega)); exact .inr (by omega)
 have hs6 := hT.size
 clear q0 f0 t0 E hdo own3 ht9 hz9
 obtain ⟨q0, f0⟩ := hB9.rules
 have t0 := hB9.lt
 obtain ⟨q1, f1⟩ := hBp.rules
 have t1 := hBp.lt
 by_cases hx : x.e = 0
 case neg =>
  have hx2 : (x.e == (0 : Int)) = false := by simpa using hx
  have hr := HR.out
  rw [if_pos hx] at hr
  subst hr
  clear HR
  go_wp2_with fail
  refine (closed_any h _ K _ ⟨_, _, _, _, _, rfl, b1, b2, b3, b4, b5⟩).mono ?_
  rintro e w7 ⟨v7, rfl, ⟨vo7, vs7, vb7, vl7, vm7, hv7, a1, a2, a3, a4, a5⟩, hb7⟩
  obtain ⟨Ao7, co7, rfl, -⟩ := a1.form
  obtain ⟨As7, cs7, rfl, -⟩ := a2.form
  obtain ⟨Ab7, cb7, rfl, -⟩ := isB_form a3
  obtain ⟨Al7, cl7, rfl, -⟩ := a4.form
  obtain ⟨Am7, cm7, rfl, -⟩ := a5.form
  subst hv7
  have hB7 := hB9.step hb7
  have hz7 := hz6.step hb7
  have hT7 := hT.trans (Turned.of hb7)
  clear q0 f0 t0 q1 f1 t1 hB9 hz6 own6 hBp
  obtain ⟨q0, f0⟩ := hB7.rules
  have t0 := hB7.lt
  go_upto_region 9 with fail
  refine at_wr15 (K := fun W => Code.wp _ _ _ _ W) hB7 _ _ _ _ _ _ _ _ _ _ _ _ _ _ _ ?_
  intro w8 hs8 ht8 hB8
  have kz : ∀ b, (K b ∨ w.heap.size ≤ b) → ¬ b = g := fun b hb e => by rcases hb with hb | hb; exact kn b hb e; omega
  go_wp2
  refine bodyPost_ret (v := .tuple #[.slice none 0 0, .int .i64 x.e]) (by simp [results, Tryz.results109, go_sem]) rfl ⟨none, 0, rfl, World.ownsRow_nil _ _ _ _, ⟨_, _, _, _, _, _, hB8, (a1.turned ht8 kn).more km, (a2.turned ht8 kn).more km, (a3.turned ht8 kn).more km, (a4.turned ht8 kn).more km, (a5.turned ht8 kn).more km, hz7.turned ht8 kz⟩, hT7.trans ht8⟩
 have hr := HR.out
 rw [if_neg (by rw [hx]; simp)] at hr
 subst hr
 clear HR
 go_upto_region 11 with fail
 refine at_set8 (K := fun W => Code.wp _ _ _ _ W) hB9 _ _ _ _ _ _ _ _ ?_
 intro w8 hs8 ht8 hB8
 have kz : ∀ b, (K b ∨ w.heap.size ≤ b) → ¬ b = g := fun b hb e => by rcases hb with hb | hb; exact kn b hb e; omega
 have own8 := own_turned own6 ht8 hgl
 have hfb : (flushP q).buf = [] ∧ (flushP q).l = [] := by unfold flushP; rw [if_neg (by first | exact hbuf | exact hbuf trivial)]; exact ⟨rfl, rfl⟩
 clear q0 f0 t0 q1 f1 t1
 go_wp2
 refine bodyPost_ret (v := .tuple #[.slice A2 an c2, .int .i64 0]) (by simp [results, Tryz.results109, go_sem]) rfl ⟨A2, c2, by rw [HAN.out], by rw [HAN.out]; exact own8, ⟨_, _, _, _, _, _, hB8, (b1.turned ht8 kn).more km, (b2.turned ht8 kn).more km, by show IsB _ _ _ (flushP q).buf; rw [hfb.1]; exact IsB.nil_ _ _, by show IsL Rp.rc _ _ _ (flushP q).l; rw [hfb.2]; exact IsL.nil_ _ _, (b5.turned ht8 kn).more km, hz6.turned ht8 kz⟩, hT.trans ht8⟩
end Go.Proofs.YtjahaflkdpmhpaaGreat
