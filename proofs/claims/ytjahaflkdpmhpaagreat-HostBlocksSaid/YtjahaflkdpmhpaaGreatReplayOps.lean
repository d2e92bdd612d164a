/- The walks of packer.Data, extent.Many, replay's Newest, Heads and Torn. -/
import Derived.Test.YtjahaflkdpmhpaaGreatHostSpans
import Derived.Test.YtjahaflkdpmhpaaGreatHostRep
import Derived.Test.YtjahaflkdpmhpaaGreatSegRec
import Derived.BigQuiet
import Derived.Deep.QuietTactic
import Derived.Deep.DeepCutAuto
namespace Go.Proofs.YtjahaflkdpmhpaaGreat
open Go.RowKit
def loseH (h : Ho) (a z : Int) : Ho := ⟨h.id, h.own, (withoutS a z h.s).1, h.opn, h.p, h.m, h.ver, h.seq⟩
set_option maxRecDepth 100000 in
set_option maxHeartbeats 8000000 in
theorem hlose_any (h : Ho) (v : Value) (a z : Int) (K : Nat → Prop) (w : World) (hv : IsHo w K v h) (hK : ∀ b, K b → b < w.heap.size) (hs : SmallHo h) (haz : a < z) :
 Calls Tryz.prog 21 #[v, .int .i64 a, .int .i64 z] w fun e w' => ∃ v', e = .returned v' ∧ IsHo w' (fun b => w.heap.size ≤ b ∨ K b) v' (loseH h a z) ∧ Below w.heap.size w w' := by
 have hco := fun W hW hKW => hcopied_any h v K W hW hKW hs
 have hv0 := hv
 obtain ⟨vo, vs, vb, vl, vm, rfl, h1, h2, h3, h4, h5⟩ := hv
 obtain ⟨Ao, co, rfl, -⟩ := h1.form
 obtain ⟨As, cs, rfl, -⟩ := h2.form
 obtain ⟨Ab, cb, rfl, -⟩ := isB_form h3
 obtain ⟨Al, cl, rfl, -⟩ := h4.form
 obtain ⟨Am, cm, rfl, -⟩ := h5.form
 have E := (Kn.start w).give Stable.ho hv0 |>.push 42 (hoC h (.slice Ao h.own.length co) (.slice As h.s.length cs) (.slice Ab h.p.buf.length cb) (.slice Al h.p.l.length cl) (.slice Am h.m.length cm)) |>.push 42 #[.int .i64 0, .slice none 0 0, .slice none 0 0, .bool false, .int .i64 0, .int .i64 0, .int .i64 0, .int .i64 0, .int .i64 0, .int .i64 0, .slice none 0 0, .slice none 0 0, .slice none 0 0, .int .i64 0, .int .i64 0]
 rw [World.size_alloc] at E
 clear h1 h2 h3 h4 h5 hv0
 go_enter Tryz.func21, Tryz.ntmps21
 go_wp2_with fail
 generalize (w.alloc (.cells (hoC h (.slice Ao h.own.length co) (.slice As h.s.length cs) (.slice Ab h.p.buf.length cb) (.slice Al h.p.l.length cl) (.slice Am h.m.length cm)) 42)).alloc (.cells #[.int .i64 0, .slice none 0 0, .slice none 0 0, .bool false, .int .i64 0, .int .i64 0, .int .i64 0, .int .i64 0, .int .i64 0, .int .i64 0, .slice none 0 0, .slice none 0 0, .slice none 0 0, .int .i64 0, .int .i64 0] 42) = w1 at E ⊢
 refine (hco _ (E.get m0) (fun b hb => by have := hK b hb; have := (E.at_ m0).lt; omega)).mono ?_
 rintro e w2 ⟨Ao2, co2, As2, cs2, Ab2, cb2, Al2, cl2, Am2, cm2, rfl, hown, hsp, hbf, hrc, hex, hb2⟩
 clear hco
 have hg1 : w.heap.size + 1 < w1.heap.size := (E.at_ m0).lt
 replace E := E.step hb2
 obtain ⟨q0, f0, t0⟩ := E.rules m1
 go_upto_region 2 with fail
 refine at_st15 (K := fun W => Code.wp _ _ _ _ W) (E.at_ m1) _ _ _ _ _ _ _ _ _ _ _ _ _ _ _ ?_
 intro w3 hs3 ht3 hB3
 have hb3 := Turned.upon E.below ht3 (Nat.le_refl _) (Nat.le_refl _)
 obtain ⟨Ao2', co2', xo, e1, ow, hxo⟩ := hown
 injection e1 with e1 _ e2
 subst e1 e2
 have o3 := own_turned ow ht3 (by omega)
 have hsp3 := hsp.turned ht3 (fun b hb e => by omega)
 have hbf3 := hbf.turned ht3 (fun b hb e => by omega)
 have hrc3 := hrc.turned ht3 (fun b hb e => by rcases hb with hb | hb; omega; have := hK b hb; omega)
 have hex3 := hex.turned ht3 (fun b hb e => by omega)
 have hBz := (E.at_ m0).turned ht3 (show ¬ w.heap.size + 1 = w.heap.size by omega)
 have hs2 := hb2.size
 clear E q0 f0 t0 ht3 hsp hbf hrc hex ow hb2
 have hwo := fun (Kw : Nat → Prop) W hW => hwithout_any As2 cs2 h.s a z Kw W hW haz hs.s
 obtain ⟨q0, f0⟩ := hB3.rules
 have t0 := hB3.lt
 go_wp2_with fail
 refine (hwo _ _ hsp3).mono ?_
 rintro e w4 ⟨A4, c4, rfl, own4, hb4⟩
 have hB4 := hB3.step hb4
 have o4 := own_below o3 hb4 (Nat.le_refl _)
 have hbf4 := hbf3.step hb4
 have hrc4 := hrc3.step hb4
 have hex4 := hex3.step hb4
 have hBz4 := hBz.step hb4
 have hbw := hb3.trans (hb4.mono hb3.size)
 have hs4 := hb4.size
 clear hwo o3 hbf3 hrc3 hex3 hBz hB3 hsp3 hb4 q0 f0 t0
 obtain ⟨q0, f0⟩ := hB4.rules
 have t0 := hB4.lt
 go_upto_region 3 with fail
 refine at_set (K := fun W => Code.wp _ _ _ _ W) hB4 2 _ ?_
 intro w5 hs5 ht5 hB5
 have hB5' : Blk w5 w.heap.size 42 (hoC (loseH h a z) (.slice Ao2 h.own.length co2) (.slice A4 (withoutS a z h.s).1.length c4) (.slice Ab2 h.p.buf.length cb2) (.slice Al2 h.p.l.length cl2) (.slice Am2 h.m.length cm2)) := hB5
 have o5 := own_turned o4 ht5 (by omega)
 have own5 := own_turned own4 ht5 (by omega)
 have hbf5 := hbf4.turned ht5 (fun b hb e => by omega)
 have hrc5 := hrc4.turned ht5 (fun b hb e => by rcases hb with hb | hb; omega; have := hK b hb; omega)
 have hex5 := hex4.turned ht5 (fun b hb e => by omega)
 have hBz5 := hBz4.turned ht5 (show ¬ w.heap.size + 1 = w.heap.size by omega)
 have hb5 := Turned.upon hbw ht5 (Nat.le_refl _) (Nat.le_refl _)
 clear o4 own4 hbf4 hrc4 hex4 hBz4 hB5 hB4 ht5 hbw q0 f0 t0
 obtain ⟨q0, f0⟩ := hB5'.rules
 obtain ⟨q1, f1⟩ := hBz5.rules
 have t0 := hB5'.lt
 have t1 := hBz5.lt
 have hwl : (withoutS a z h.s).1.length ≤ 2 * h.s.length := by have := without_len a z h.s ([], 0); simpa [withoutS] using this
 have hss := hs.s
 have hso := hs.own
 have hsm := hs.m
 go_wp2
 refine at_st15 (K := fun W => bodyPost _ _ _ _ _ W) hBz5 _ _ _ _ _ _ _ _ _ _ _ _ _ _ _ ?_
 intro w6 hs6 ht6 hB6
 obtain ⟨q2, f2⟩ := hB6.rules
 have r1 := own_turned o5 ht6 (by omega)
 have r2 := own_turned own5 ht6 (by omega)
 have hbf6 := hbf5.turned ht6 (fun b hb e => by omega)
 have hrc6 := hrc5.turned ht6 (fun b hb e => by rcases hb with hb | hb; omega; have := hK b hb; omega)
 have hex6 := hex5.turned ht6 (fun b hb e => by omega)
 refine bodyPost_ret (v := .agg (hoC (loseH h a z) (.slice Ao2 h.own.length co2) (.slice A4 (withoutS a z h.s).1.length c4) (.slice Ab2 h.p.buf.length cb2) (.slice Al2 h.p.l.length cl2) (.slice Am2 h.m.length cm2))) (by simp [results, Tryz.results21, go_sem, q2, loseH]) rfl ?_
 have fin : ∀ {α : Type} {R : Rp α} {e : TypeId} {v : Value} {l : List α}, OwnL R w6 w.heap.size e (fun _ => False) v l → l.length ≤ 140737488355328 → IsL R w6 (fun b => w.heap.size ≤ b ∨ K b) v l := fun h hl => (h.isL hl).more fun b hb => .inl (hb.resolve_right (fun h => h))
 refine ⟨_, rfl, ⟨_, _, _, _, _, rfl, fin ⟨_, _, xo, rfl, own_base r1 (by omega), fn_cells.2 (fn_cells.1 hxo)⟩ (by show h.own.length ≤ _; omega), fin ⟨_, _, _, rfl, own_base r2 (by omega), sp_cells.2 rfl⟩ (by show (withoutS a z h.s).1.length ≤ _; omega), hbf6.more (fun b hb => .inl (by omega)), hrc6.more (fun b hb => by rcases hb with hb | hb; exact .inl (by omega); exact .inr hb), hex6.more (fun b hb => .inl (by omega))⟩, Turned.upon hb5 ht6 (by omega) (Nat.le_refl _)⟩
end Go.Proofs.YtjahaflkdpmhpaaGreat
namespace Go.Proofs.YtjahaflkdpmhpaaGreat
open Go.RowKit
set_option maxRecDepth 100000 in
set_option maxHeartbeats 1600000 in
theorem pdata_any (r : Rc) (v : Value) (K : Nat → Prop) (w : World) (hr : OkRc r) (hv : IsB w K v r.data) :
 Calls Tryz.prog 122 #[rcV r v] w fun e w' => e = .returned (.tuple #[.int .i64 (dataL r), .int .i64 (recL r).2]) ∧ Below w.heap.size w w' := by
 have hv0 := hv
 obtain ⟨A, c, rfl, hl47⟩ := isB_form hv
 have hrec := fun W h => rec_any r (.slice A r.data.length c) K W hr h
 have hln := recL_len hr
 unfold dataL
 generalize recL r = y at hrec hln ⊢
 obtain ⟨fb, fe⟩ := y
 simp only at hrec hln ⊢
 unfold rcV at hrec ⊢
 have E := ((Kn.start w).give Stable.bytes hv0).push 135 #[.int .i64 r.kind, .int .i64 r.lba, .int .i64 r.n, .int .i64 r.ver, .int .i64 r.zone, .int .i64 r.off, .slice A r.data.length c]
 obtain ⟨h1, h2⟩ := hln
 by_cases hfe : fe = 0
 · subst hfe
   have h3 := h2 rfl
   rw [if_neg (by simp)]
   clear h2
   go_enter Tryz.func122, Tryz.ntmps122
   go_wp2_with fail
   refine (hrec _ (E.get m0)).mono ?_
   rintro e w1 ⟨A4, c4, rfl, own4, hb4⟩
   replace E := E.step hb4
   obtain ⟨q0, f0, t0⟩ := E.rules m0
   go_wp2
   refine bodyPost_ret (v := .tuple #[.int .i64 (fb.length - 4 - r.data.length), .int .i64 0]) (by simp [results, Tryz.results122, go_sem]) rfl ⟨rfl, E.below⟩
 · rw [if_pos hfe]
   have hf2 : (fe != 0) = true := by simpa using hfe
   clear h2 hfe
   go_enter Tryz.func122, Tryz.ntmps122
   go_wp2_with fail
   refine (hrec _ (E.get m0)).mono ?_
   rintro e w1 ⟨A4, c4, rfl, own4, hb4⟩
   replace E := E.step hb4
   obtain ⟨q0, f0, t0⟩ := E.rules m0
   go_wp2
   refine bodyPost_ret (v := .tuple #[.int .i64 0, .int .i64 fe]) (by simp [results, Tryz.results122, go_sem]) rfl ⟨rfl, E.below⟩
theorem IsL.fd_at {w : World} {K : Nat → Prop} {A : Option Addr} {n c : Nat} {l : List Fd} (h : IsL Rp.fd w K (.slice A n c) l) {j : Nat} {f : Fd} (hj : l[j]? = some f) :
 ∃ ad A1 c1 A2 c2, A = some ad ∧ K ad.block ∧ IsL Rp.rc w K (.slice A1 f.l.length c1) f.l ∧ IsL Rp.int w K (.slice A2 f.at_.length c2) f.at_ ∧
   w.cell? (ad.add (j * 7)) = some (.bool f.head) ∧ w.cell? ⟨(ad.add (j * 7)).block, (ad.add (j * 7)).off + 1, none⟩ = some (.int .i64 f.h.host) ∧ w.cell? ⟨(ad.add (j * 7)).block, (ad.add (j * 7)).off + 2, none⟩ = some (.int .i64 f.h.epoch) ∧
   w.cell? ⟨(ad.add (j * 7)).block, (ad.add (j * 7)).off + 3, none⟩ = some (.int .i64 f.h.seq) ∧ w.cell? ⟨(ad.add (j * 7)).block, (ad.add (j * 7)).off + 4, none⟩ = some (.slice A1 f.l.length c1) ∧ w.cell? ⟨(ad.add (j * 7)).block, (ad.add (j * 7)).off + 5, none⟩ = some (.slice A2 f.at_.length c2) ∧
   w.cell? ⟨(ad.add (j * 7)).block, (ad.add (j * 7)).off + 6, none⟩ = some (.int .i64 f.used) := by
 obtain ⟨ad, es, hA, hKad, hes, hcell⟩ := h.at_ hj
 obtain ⟨vl, va, rfl, h1, h2⟩ := hes
 obtain ⟨A1, c1, rfl, _⟩ := h1.form
 obtain ⟨A2, c2, rfl, _⟩ := h2.form
 have hsz7 : Rp.fd.size = 7 := rfl
 rw [hsz7] at hcell
 refine ⟨ad, A1, c1, A2, c2, hA, hKad, h1, h2, ?_, ?_, ?_, ?_, ?_, ?_, ?_⟩
 · rw [← addr0 (ad.add (j * 7))]; exact hcell 0 _ rfl
 · rw [← addrS _ 1 (by decide)]; exact hcell 1 _ rfl
 · rw [← addrS _ 2 (by decide)]; exact hcell 2 _ rfl
 · rw [← addrS _ 3 (by decide)]; exact hcell 3 _ rfl
 · rw [← addrS _ 4 (by decide)]; exact hcell 4 _ rfl
 · rw [← addrS _ 5 (by decide)]; exact hcell 5 _ rfl
 · rw [← addrS _ 6 (by decide)]; exact hcell 6 _ rfl
def newR (n : Int) (l : List Rc) : Int := l.foldl (fun n r => max n r.ver) n
def newF (n : Int) (l : List Fd) : Int := l.foldl (fun n f => newR n f.l) n
theorem newR_take {l : List Rc} {j : Nat} (n : Int) (hj : j < l.length) : newR n (l.take (j + 1)) = max (newR n (l.take j)) l[j].ver := by
 unfold newR
 rw [etake (r := l[j]) _ (List.getElem?_eq_getElem hj), List.foldl_append]
 rfl
theorem newF_take {l : List Fd} {j : Nat} (n : Int) (hj : j < l.length) : newF n (l.take (j + 1)) = newR (newF n (l.take j)) l[j].l := by
 unfold newF
 rw [etake (r := l[j]) _ (List.getElem?_eq_getElem hj), List.foldl_append]
 rfl
set_option maxRecDepth 100000 in
set_option maxHeartbeats 4000000 in
theorem rnewest_any (d : Zd) (A : Option Addr) (c : Nat) (K : Nat → Prop) (w : World) (hv : IsL Rp.zone w K (.slice A d.z.length c) d.z) (hd : okD d) :
 Calls Tryz.prog 40 #[.agg #[.int .i64 d.cap, .int .i64 d.opn, .int .i64 d.act, .slice A d.z.length c]] w fun e w' => e = .returned (.int .i64 (newF 0 (foundL d.z))) ∧ Below w.heap.size w w' := by
 have hfo := fun W h => found_any d A c K W h hd
 have hfl : (foundL d.z).length = d.z.length := by unfold foundL; rw [List.length_map]
 have E := ((Kn.start w).give Stable.list hv).push 28 #[.int .i64 d.cap, .int .i64 d.opn, .int .i64 d.act, .slice A d.z.length c]
 obtain ⟨n, hn⟩ : ∃ n, d.z.length = n := ⟨_, rfl⟩
 have hn64 := hd.1.2.1
 obtain ⟨fs, hfs⟩ : ∃ fs, foundL d.z = fs := ⟨_, rfl⟩
 rw [hfs] at hfl hfo ⊢
 rw [hn] at hfo hfl hn64 E hv ⊢
 have HFL := Lib.hid hfl
 clear hfl hn hd hfs
 go_enter Tryz.func40, Tryz.ntmps40
 go_wp2_with fail
 refine (hfo _ (E.get m0)).mono ?_
 rintro x w2 ⟨Ao, co, rfl, hfd, hb2⟩
 replace E := (E.step hb2).give Stable.list hfd
 clear hfo hv hb2
 have hE := E.below.size
 go_wp2_with fail
 go_loopw [3, 5, 7, 11] (fun x3 x5 x7 x11 wr => ∃ j : Nat, x11 = .int .i64 j ∧ j ≤ n ∧ x3 = .int .i64 (newF 0 (fs.take j)) ∧ Below w2.heap.size w2 wr ∧ (∃ y, x5 = y) ∧ ∃ y, x7 = y) (fun _ _ _ x11 _ => n - (intOf x11).toNat)
 case atStart => exact ⟨0, rfl, Nat.zero_le _, rfl, Below.refl _ _, ⟨_, rfl⟩, _, rfl⟩
 case round =>
  obtain ⟨j, rfl, hj, rfl, hb, ⟨y, rfl⟩, y7, rfl⟩ := hrel
  have F := E.step hb
  by_cases hlt : j < n
  case neg =>
   obtain rfl : j = n := by omega
   rw [List.take_of_length_le (by rw [HFL.out]; exact Nat.le_refl _)]
   clear E
   go_wp2
   go_ret
   exact ⟨rfl, F.below⟩
  have hlt' : j < fs.length := by rw [HFL.out]; exact hlt
  have HN := Lib.hid (newF_take 0 hlt')
  obtain ⟨ad, A1, c1, A2, c2, rfl, hK, hl, -, k0, k1, k2, k3, k4, k5, k6⟩ := IsL.fd_at (F.get m0) (List.getElem?_eq_getElem hlt')
  generalize fs[j] = f at hl HN k0 k1 k2 k3 k4 k5 k6
  generalize newF 0 (fs.take j) = N0 at HN ⊢
  have j1 : (j : Int) < (n : Int) := by omega
  have j0 : (0 : Int) ≤ (j : Int) := by omega
  obtain ⟨fn, hfn⟩ : ∃ fn, f.l.length = fn := ⟨_, rfl⟩
  have hfn2 := hl.len
  rw [hfn] at hl k4 hfn2
  have HFN := Lib.hid hfn
  clear hfn
  go_wp2_with fail
  replace F := (F.give Stable.list hl).push 149 #[.bool f.head, .int .i64 f.h.host, .int .i64 f.h.epoch, .int .i64 f.h.seq, .slice A1 fn c1, .slice A2 f.at_.length c2, .int .i64 f.used]
  clear k0 k1 k2 k3 k4 k5 k6 E
  have hbo := hb.alloc hb.size (.cells #[.bool f.head, .int .i64 f.h.host, .int .i64 f.h.epoch, .int .i64 f.h.seq, .slice A1 fn c1, .slice A2 f.at_.length c2, .int .i64 f.used] 149)
  clear hl hb
  generalize wr.alloc (.cells #[.bool f.head, .int .i64 f.h.host, .int .i64 f.h.epoch, .int .i64 f.h.seq, .slice A1 fn c1, .slice A2 f.at_.length c2, .int .i64 f.used] 149) = wo at F hbo ⊢
  generalize wr.heap.size = go at F ⊢
  clear wr
  go_loopw [3, 7, 18] (fun x3 x7 x18 wr => ∃ i : Nat, x18 = .int .i64 i ∧ i ≤ fn ∧ x3 = .int .i64 (newR N0 (f.l.take i)) ∧ Below wo.heap.size wo wr ∧ ∃ y, x7 = y) (fun _ _ x18 _ => fn - (intOf x18).toNat)
  case atStart => exact ⟨0, rfl, Nat.zero_le _, rfl, Below.refl _ _, _, rfl⟩
  case round =>
   obtain ⟨i, rfl, hi, rfl, hb, y, rfl⟩ := hrel
   have G := F.step hb
   by_cases hilt : i < fn
   case neg =>
    obtain rfl : i = fn := by omega
    rw [List.take_of_length_le (by rw [HFN.out]; exact Nat.le_refl _)]
    clear F
    go_wp2_with fail
    go_roundw
    case rel => exact ⟨j + 1, by go_num, by omega, by rw [HN.out], hbo.trans (hb.mono hbo.size), ⟨_, rfl⟩, _, rfl⟩
    case measure => simp [intOf]; omega
   have hilt' : i < f.l.length := by rw [HFN.out]; exact hilt
   have HR := Lib.hid (newR_take N0 hilt')
   obtain ⟨ad', Ad, cd, rfl, hKa, -, -, k0, k1, k2, k3, k4, k5, k6⟩ := rc_at (G.get m0) (List.getElem?_eq_getElem hilt')
   generalize f.l[i] = r at HR k0 k1 k2 k3 k4 k5 k6
   generalize newR N0 (f.l.take i) = N1 at HR ⊢
   have i1 : (i : Int) < (fn : Int) := by omega
   have i0 : (0 : Int) ≤ (i : Int) := by omega
   go_wp2_with fail
   go_roundw
   case rel => exact ⟨i + 1, by go_num, by omega, by rw [HR.out, Int.max_comm], hb.alloc hb.size _, _, rfl⟩
   case measure => simp [intOf]; omega
end Go.Proofs.YtjahaflkdpmhpaaGreat
