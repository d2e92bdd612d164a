/- A part of the proof. -/
import Derived.Test.YtjahaflkdpmhpaaGreatHostSpans
import Derived.Deep.WholeRow
set_option maxHeartbeats 4000000
set_option maxRecDepth 100000
namespace Go.Proofs.YtjahaflkdpmhpaaGreat
open Go.RowKit
end Go.Proofs.YtjahaflkdpmhpaaGreat
namespace Go.Proofs.YtjahaflkdpmhpaaGreat
open Go.RowKit
theorem fill17_any (by_ : UInt8) (n : Nat) (w : World) (hn : n ≤ 65536) :
 Calls Tryz.prog 25 #[.int .u8 (by_.toNat : Int), .int .i64 n] w fun e w' => ∃ A c, e = .returned (.slice A n c) ∧ w'.ownsRow w.heap.size 5 1 (.slice A n c) n (cells8 (List.replicate n by_)) ∧ Below w.heap.size w w' := by
 obtain ⟨i0, hi, hz0, hz1, hz2⟩ := info_parts Tryz.info5
 go_enter Tryz.func25, Tryz.ntmps25
 go_wp2_with (at_make; refine wpList_make_full _ rfl _ _ 36 rfl w.heap.size 5 i0 _ 1 Tryz.underlying36 hi hz0 hz1 _ _ _ _ n rfl rfl rfl rfl (by rw [hz2]; omega) (by unfold maxLen; omega) (Nat.le_refl _) ?_; intro w1 how hg1)
 have hb1 : Below w.heap.size w w1 := (Below.refl _ _).grown hg1 (Nat.le_refl _) (fun k hk => by cases hk)
 rw [Nat.mul_one, show (Value.int .u8 0).cells = #[.int .u8 0] from rfl, made_zero] at how
 clear hg1
 go_wp2_with fail
 go_loopw [6, 11] (fun x6 x11 wr => ∃ j m : Nat, j + m = n ∧ x11 = .int .i64 j ∧ wr.ownsRow w.heap.size 5 1 (.slice (some ⟨w.heap.size, 0, none⟩) n n) n (cells8 (List.replicate j by_ ++ List.replicate m 0)) ∧ Below w.heap.size w wr ∧ ∃ y, x6 = y) (fun _ x11 _ => n - (intOf x11).toNat)
 case atStart => exact ⟨0, n, by omega, rfl, how, hb1, _, rfl⟩
 case round =>
  obtain ⟨j, m, hjm, rfl, hown, hb, y, rfl⟩ := hrel
  rcases m with _ | m
  · obtain rfl : j = n := by omega
    rw [List.replicate_zero, List.append_nil] at hown
    go_wp2
    go_ret
    exact ⟨_, _, rfl, hown, hb⟩
  · have hlt : j < n := by omega
    obtain ⟨hg6, hgl, hfz, hcs⟩ := own_atB hown
    have hc8 := hcs j (.int .u8 0) (by unfold cells8; rw [List.getElem?_map, List.getElem?_append_right (by simp), List.length_replicate, Nat.sub_self]; rfl)
    have own8 := own_set hown j (.int .u8 (by_.toNat : Int))
    rw [fill_set] at own8
    have hb8 := hb.setCell (p := ⟨w.heap.size, j, none⟩) (Nat.le_refl _) (.int .u8 (by_.toNat : Int))
    have hfz8 := hfz j
    have hbl := by_.toNat_lt
    have j1 : (j : Int) < (n : Int) := by omega
    have j0 : (0 : Int) ≤ (j : Int) := by omega
    clear hfz hcs hown hb1 how
    go_wp2
    go_roundw
    case rel => exact ⟨j + 1, m, by omega, by go_num, own8, hb8, _, rfl⟩
    case measure => simp [intOf]; omega
end Go.Proofs.YtjahaflkdpmhpaaGreat
namespace Go.Proofs.YtjahaflkdpmhpaaGreat
open Go.RowKit
end Go.Proofs.YtjahaflkdpmhpaaGreat
namespace Go.Proofs.YtjahaflkdpmhpaaGreat
open Go.RowKit Go.WideShapes Go.ChangeShapes Go.Deep Go.Joins
end Go.Proofs.YtjahaflkdpmhpaaGreat
namespace Go.Proofs.YtjahaflkdpmhpaaGreat
open Go.RowKit
theorem pdata_any (r : Rc) (v : Value) (K : Nat → Prop) (w : World) (hr : OkRc r) (hv : IsB w K v r.data) :
 Calls Tryz.prog 122 #[rcV r v] w fun e w' => e = .returned (.tuple #[.int .i64 (dataL r), .int .i64 (recL r).2]) ∧ Below w.heap.size w w' := by
 have hv0 := hv
 obtain ⟨A, c, rfl, hl47⟩ := isB_form hv
 have hrec := fun W h => rec_any r (.slice A r.data.length c) K W hr h
 have hln := recL_len hr
 unfold dataL
 generalize recL r = y at hrec hln ⊢
 obtain ⟨fb, fe⟩ := y
 simp only at hrec hln ⊢
 unfold rcV at hrec ⊢
 have E := ((Kn.start w).give Stable.bytes hv0).push 135 #[.int .i64 r.kind, .int .i64 r.lba, .int .i64 r.n, .int .i64 r.ver, .int .i64 r.zone, .int .i64 r.off, .slice A r.data.length c]
 obtain ⟨h1, h2⟩ := hln
 by_cases hfe : fe = 0
 · subst hfe
   have h3 := h2 rfl
   rw [if_neg (by simp)]
   clear h2
   go_enter Tryz.func122, Tryz.ntmps122
   go_wp2_with fail
   refine (hrec _ (E.get m0)).mono ?_
   rintro e w1 ⟨A4, c4, rfl, own4, hb4⟩
   replace E := E.step hb4
   obtain ⟨q0, f0, t0⟩ := E.rules m0
   go_wp2
   refine bodyPost_ret (v := .tuple #[.int .i64 (fb.length - 4 - r.data.length), .int .i64 0]) (by simp [results, Tryz.results122, go_sem]) rfl ⟨rfl, E.below⟩
 · rw [if_pos hfe]
   have hf2 : (fe != 0) = true := by simpa using hfe
   clear h2 hfe
   go_enter Tryz.func122, Tryz.ntmps122
   go_wp2_with fail
   refine (hrec _ (E.get m0)).mono ?_
   rintro e w1 ⟨A4, c4, rfl, own4, hb4⟩
   replace E := E.step hb4
   obtain ⟨q0, f0, t0⟩ := E.rules m0
   go_wp2
   refine bodyPost_ret (v := .tuple #[.int .i64 0, .int .i64 fe]) (by simp [results, Tryz.results122, go_sem]) rfl ⟨rfl, E.below⟩
theorem IsL.fd_at {w : World} {K : Nat → Prop} {A : Option Addr} {n c : Nat} {l : List Fd} (h : IsL Rp.fd w K (.slice A n c) l) {j : Nat} {f : Fd} (hj : l[j]? = some f) :
 ∃ ad A1 c1 A2 c2, A = some ad ∧ K ad.block ∧ IsL Rp.rc w K (.slice A1 f.l.length c1) f.l ∧ IsL Rp.int w K (.slice A2 f.at_.length c2) f.at_ ∧
   w.cell? (ad.add (j * 7)) = some (.bool f.head) ∧ w.cell? ⟨(ad.add (j * 7)).block, (ad.add (j * 7)).off + 1, none⟩ = some (.int .i64 f.h.host) ∧ w.cell? ⟨(ad.add (j * 7)).block, (ad.add (j * 7)).off + 2, none⟩ = some (.int .i64 f.h.epoch) ∧
   w.cell? ⟨(ad.add (j * 7)).block, (ad.add (j * 7)).off + 3, none⟩ = some (.int .i64 f.h.seq) ∧ w.cell? ⟨(ad.add (j * 7)).block, (ad.add (j * 7)).off + 4, none⟩ = some (.slice A1 f.l.length c1) ∧ w.cell? ⟨(ad.add (j * 7)).block, (ad.add (j * 7)).off + 5, none⟩ = some (.slice A2 f.at_.length c2) ∧
   w.cell? ⟨(ad.add (j * 7)).block, (ad.add (j * 7)).off + 6, none⟩ = some (.int .i64 f.used) := by
 obtain ⟨ad, es, hA, hKad, hes, hcell⟩ := h.at_ hj
 obtain ⟨vl, va, rfl, h1, h2⟩ := hes
 obtain ⟨A1, c1, rfl, _⟩ := h1.form
 obtain ⟨A2, c2, rfl, _⟩ := h2.form
 have hsz7 : Rp.fd.size = 7 := rfl
 rw [hsz7] at hcell
 refine ⟨ad, A1, c1, A2, c2, hA, hKad, h1, h2, ?_, ?_, ?_, ?_, ?_, ?_, ?_⟩
 · rw [← addr0 (ad.add (j * 7))]; exact hcell 0 _ rfl
 · rw [← addrS _ 1 (by decide)]; exact hcell 1 _ rfl
 · rw [← addrS _ 2 (by decide)]; exact hcell 2 _ rfl
 · rw [← addrS _ 3 (by decide)]; exact hcell 3 _ rfl
 · rw [← addrS _ 4 (by decide)]; exact hcell 4 _ rfl
 · rw [← addrS _ 5 (by decide)]; exact hcell 5 _ rfl
 · rw [← addrS _ 6 (by decide)]; exact hcell 6 _ rfl
def newR (n : Int) (l : List Rc) : Int := l.foldl (fun n r => max n r.ver) n
def newF (n : Int) (l : List Fd) : Int := l.foldl (fun n f => newR n f.l) n
theorem newR_take {l : List Rc} {j : Nat} (n : Int) (hj : j < l.length) : newR n (l.take (j + 1)) = max (newR n (l.take j)) l[j].ver := by
 unfold newR
 rw [etake (r := l[j]) _ (List.getElem?_eq_getElem hj), List.foldl_append]
 rfl
theorem newF_take {l : List Fd} {j : Nat} (n : Int) (hj : j < l.length) : newF n (l.take (j + 1)) = newR (newF n (l.take j)) l[j].l := by
 unfold newF
 rw [etake (r := l[j]) _ (List.getElem?_eq_getElem hj), List.foldl_append]
 rfl
theorem rnewest_any (d : Zd) (A : Option Addr) (c : Nat) (K : Nat → Prop) (w : World) (hv : IsL Rp.zone w K (.slice A d.z.length c) d.z) (hd : okD d) :
 Calls Tryz.prog 40 #[.agg #[.int .i64 d.cap, .int .i64 d.opn, .int .i64 d.act, .slice A d.z.length c]] w fun e w' => e = .returned (.int .i64 (newF 0 (foundL d.z))) ∧ Below w.heap.size w w' := by
 have hfo := fun W h => found_any d A c K W h hd
 have hfl : (foundL d.z).length = d.z.length := by unfold foundL; rw [List.length_map]
 have E := ((Kn.start w).give Stable.list hv).push 28 #[.int .i64 d.cap, .int .i64 d.opn, .int .i64 d.act, .slice A d.z.length c]
 obtain ⟨n, hn⟩ : ∃ n, d.z.length = n := ⟨_, rfl⟩
 have hn64 := hd.1.2.1
 obtain ⟨fs, hfs⟩ : ∃ fs, foundL d.z = fs := ⟨_, rfl⟩
 rw [hfs] at hfl hfo ⊢
 rw [hn] at hfo hfl hn64 E hv ⊢
 have HFL := Lib.hid hfl
 clear hfl hn hd hfs
 go_enter Tryz.func40, Tryz.ntmps40
 go_wp2_with fail
 refine (hfo _ (E.get m0)).mono ?_
 rintro x w2 ⟨Ao, co, rfl, hfd, hb2⟩
 replace E := (E.step hb2).give Stable.list hfd
 clear hfo hv hb2
 have hE := E.below.size
 go_wp2_with fail
 go_loopw [3, 5, 7, 11] (fun x3 x5 x7 x11 wr => ∃ j : Nat, x11 = .int .i64 j ∧ j ≤ n ∧ x3 = .int .i64 (newF 0 (fs.take j)) ∧ Below w2.heap.size w2 wr ∧ (∃ y, x5 = y) ∧ ∃ y, x7 = y) (fun _ _ _ x11 _ => n - (intOf x11).toNat)
 case atStart => exact ⟨0, rfl, Nat.zero_le _, rfl, Below.refl _ _, ⟨_, rfl⟩, _, rfl⟩
 case round =>
  obtain ⟨j, rfl, hj, rfl, hb, ⟨y, rfl⟩, y7, rfl⟩ := hrel
  have F := E.step hb
  by_cases hlt : j < n
  case neg =>
   obtain rfl : j = n := by omega
   rw [List.take_of_length_le (by rw [HFL.out]; exact Nat.le_refl _)]
   clear E
   go_wp2
   go_ret
   exact ⟨rfl, F.below⟩
  have hlt' : j < fs.length := by rw [HFL.out]; exact hlt
  have HN := Lib.hid (newF_take 0 hlt')
  obtain ⟨ad, A1, c1, A2, c2, rfl, hK, hl, -, k0, k1, k2, k3, k4, k5, k6⟩ := IsL.fd_at (F.get m0) (List.getElem?_eq_getElem hlt')
  generalize fs[j] = f at hl HN k0 k1 k2 k3 k4 k5 k6
  generalize newF 0 (fs.take j) = N0 at HN ⊢
  have j1 : (j : Int) < (n : Int) := by omega
  have j0 : (0 : Int) ≤ (j : Int) := by omega
  obtain ⟨fn, hfn⟩ : ∃ fn, f.l.length = fn := ⟨_, rfl⟩
  have hfn2 := hl.len
  rw [hfn] at hl k4 hfn2
  have HFN := Lib.hid hfn
  clear hfn
  go_wp2_with fail
  replace F := (F.give Stable.list hl).push 149 #[.bool f.head, .int .i64 f.h.host, .int .i64 f.h.epoch, .int .i64 f.h.seq, .slice A1 fn c1, .slice A2 f.at_.length c2, .int .i64 f.used]
  clear k0 k1 k2 k3 k4 k5 k6 E
  have hbo := hb.alloc hb.size (.cells #[.bool f.head, .int .i64 f.h.host, .int .i64 f.h.epoch, .int .i64 f.h.seq, .slice A1 fn c1, .slice A2 f.at_.length c2, .int .i64 f.used] 149)
  clear hl hb
  generalize wr.alloc (.cells #[.bool f.head, .int .i64 f.h.host, .int .i64 f.h.epoch, .int .i64 f.h.seq, .slice A1 fn c1, .slice A2 f.at_.length c2, .int .i64 f.used] 149) = wo at F hbo ⊢
  generalize wr.heap.size = go at F ⊢
  clear wr
  go_loopw [3, 7, 18] (fun x3 x7 x18 wr => ∃ i : Nat, x18 = .int .i64 i ∧ i ≤ fn ∧ x3 = .int .i64 (newR N0 (f.l.take i)) ∧ Below wo.heap.size wo wr ∧ ∃ y, x7 = y) (fun _ _ x18 _ => fn - (intOf x18).toNat)
  case atStart => exact ⟨0, rfl, Nat.zero_le _, rfl, Below.refl _ _, _, rfl⟩
  case round =>
   obtain ⟨i, rfl, hi, rfl, hb, y, rfl⟩ := hrel
   have G := F.step hb
   by_cases hilt : i < fn
   case neg =>
    obtain rfl : i = fn := by omega
    rw [List.take_of_length_le (by rw [HFN.out]; exact Nat.le_refl _)]
    clear F
    go_wp2_with fail
    go_roundw
    case rel => exact ⟨j + 1, by go_num, by omega, by rw [HN.out], hbo.trans (hb.mono hbo.size), ⟨_, rfl⟩, _, rfl⟩
    case measure => simp [intOf]; omega
   have hilt' : i < f.l.length := by rw [HFN.out]; exact hilt
   have HR := Lib.hid (newR_take N0 hilt')
   obtain ⟨ad', Ad, cd, rfl, hKa, -, -, k0, k1, k2, k3, k4, k5, k6⟩ := rc_at (G.get m0) (List.getElem?_eq_getElem hilt')
   generalize f.l[i] = r at HR k0 k1 k2 k3 k4 k5 k6
   generalize newR N0 (f.l.take i) = N1 at HR ⊢
   have i1 : (i : Int) < (fn : Int) := by omega
   have i0 : (0 : Int) ≤ (i : Int) := by omega
   go_wp2_with fail
   go_roundw
   case rel => exact ⟨i + 1, by go_num, by omega, by rw [HR.out, Int.max_comm], hb.alloc hb.size _, _, rfl⟩
   case measure => simp [intOf]; omega
end Go.Proofs.YtjahaflkdpmhpaaGreat
namespace Go.Proofs.YtjahaflkdpmhpaaGreat
open Go.RowKit
theorem ho_size : (Tryz.prog.info? 42).map (·.size) = some 15 := by kernel_rfl
theorem ho_under : ∃ d, Tryz.prog.underlying 42 = some d ∧ d.isRow = true := ⟨_, Tryz.underlying42, rfl⟩
theorem run_ldho {W : World} {g : Nat} {cs : Array Value} {o : Oper} {x : Operand} {a : Act} (hS : ∀ o, W.cell? ⟨g, o, none⟩ = cs[o]?) (hn : cs.size = 15) (ho : o.op = .load 42 x) (hx : a.eval x = .pointer (some ⟨g, 0, none⟩)) :
 (execOp a.eval o).run Tryz.prog W = .ok (.value (.agg cs)) W := by
 obtain ⟨d, hu, hd⟩ := ho_under
 have hr : W.rangeAt g 0 cs.toList := fun j v hv => by rw [Nat.zero_add, hS j, ← hv, Array.getElem?_toList]
 have := run_loadVar_mid (P := Tryz.prog) W g 0 42 cs.toList d hr hu hd (by rw [ho_size, Array.length_toList, hn])
 unfold execOp
 simp only [ho, hx, Instr.loadAt, Instr.sureAddr, Sem.run_bind, Sem.run_pure, Result.andThen_ok, this, Array.toArray_toList]
section
variable {ops : Array Oper} {rest : List Oper} {o : Oper} {a : Act} {w : World} {Q : Exit → Act → World → Prop} {x y : Operand} {g : Nat} {t : TypeId} {cs cs' : Array Value}
theorem ld_ho (hB : Blk w g t cs) (hn : cs.size = 15) (hgd : o.guard = none) (ho : o.op = .load 42 x) (hx : a.eval x = .pointer (some ⟨g, 0, none⟩))
 (h : wpList Tryz.prog ops Q rest (a.put o.dst (.agg cs)) w) : wpList Tryz.prog ops Q (o :: rest) a w := by
 obtain ⟨d, hu, hd⟩ := ho_under
 exact wpList_load_row hgd _ x ho g hx t cs (0, 0) d hB hu (by cases d <;> simp_all [TypeDesc.isRow]) (by rw [ho_size, hn]) h
theorem setRow_turned (hB : Blk w g t cs) : (w.setRow g cs').heap.size = w.heap.size ∧ Turned w (w.setRow g cs') (fun b => b = g) ∧ Blk (w.setRow g cs') g t cs' := by
 refine ⟨by simp [World.setRow], ⟨rfl, rfl, rfl, by simp [World.setRow], fun k hk hn => ?_⟩, setRow_heap w g cs cs' t (0, 0) hB⟩
 unfold World.setRow
 simp only [Array.getElem?_modify]
 rw [if_neg (fun e => hn e.symm)]
theorem st_ho (hB : Blk w g t cs) (hn : cs.size = 15) (hgd : o.guard = none) (ho : o.op = .store 42 x y) (hx : a.eval x = .pointer (some ⟨g, 0, none⟩)) (hy : a.eval y = .agg cs') (hn' : cs'.size = 15) (h1 : cs'.toList.all (·.oneCell') = true)
 (h : ∀ w', w'.heap.size = w.heap.size → Turned w w' (fun b => b = g) → Blk w' g t cs' → wpList Tryz.prog ops Q rest (a.put o.dst undef) w') : wpList Tryz.prog ops Q (o :: rest) a w :=
 wpList_store_row hgd _ x y ho g cs' hx hy t cs hB (by rw [ho_size, hn']) (by rw [hn, hn']) (by rw [← Array.all_toList]; exact h1) (h _ (setRow_turned hB).1 (setRow_turned hB).2.1 (setRow_turned hB).2.2)
theorem zns_size : (Tryz.prog.info? 28).map (·.size) = some 4 := by kernel_rfl
theorem st_zns (hB : Blk w g t cs) (hn : cs.size = 4) (hgd : o.guard = none) (ho : o.op = .store 28 x y) (hx : a.eval x = .pointer (some ⟨g, 0, none⟩)) (hy : a.eval y = .agg cs') (hn' : cs'.size = 4) (h1 : cs'.toList.all (·.oneCell') = true)
 (h : ∀ w', w'.heap.size = w.heap.size → Turned w w' (fun b => b = g) → Blk w' g t cs' → wpList Tryz.prog ops Q rest (a.put o.dst undef) w') : wpList Tryz.prog ops Q (o :: rest) a w :=
 wpList_store_row hgd _ x y ho g cs' hx hy t cs hB (by rw [zns_size, hn']) (by rw [hn, hn']) (by rw [← Array.all_toList]; exact h1) (h _ (setRow_turned hB).1 (setRow_turned hB).2.1 (setRow_turned hB).2.2)
theorem st_ho_new (hgd : o.guard = none) (ho : o.op = .store 42 x y) (hx : a.eval x = .pointer (some ⟨w.heap.size, 0, none⟩)) (hy : a.eval y = .agg cs') (hn : cs.size = 15) (hn' : cs'.size = 15) (h1 : cs'.toList.all (·.oneCell') = true)
 (h : wpList Tryz.prog ops Q rest (a.put o.dst undef) (w.alloc (.cells cs' t))) : wpList Tryz.prog ops Q (o :: rest) a (w.alloc (.cells cs t)) := by
 refine wpList_store_row hgd _ x y ho w.heap.size cs' hx hy t cs (Blk.new w t cs rfl) (by rw [ho_size, hn']) (by rw [hn, hn']) (by rw [← Array.all_toList]; exact h1) ?_
 rw [World.setRow_alloc_new]
 exact h
end
end Go.Proofs.YtjahaflkdpmhpaaGreat
