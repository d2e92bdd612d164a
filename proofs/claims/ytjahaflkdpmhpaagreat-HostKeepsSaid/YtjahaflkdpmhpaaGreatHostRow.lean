/- A part of the proof. -/
import Derived.Test.YtjahaflkdpmhpaaGreatHostSpans
import Derived.Deep.WholeRow
set_option maxHeartbeats 8000000
set_option maxRecDepth 100000
namespace Go.Proofs.YtjahaflkdpmhpaaGreat
open Go.RowKit
end Go.Proofs.YtjahaflkdpmhpaaGreat
namespace Go.Proofs.YtjahaflkdpmhpaaGreat
open Go.RowKit
def givenS (a z id ep : Int) (l : List Sp) : List Sp := (withoutS a z l).1.take (withoutS a z l).2 ++ [⟨a, z, id, ep⟩] ++ (withoutS a z l).1.drop (withoutS a z l).2
def blocksH (h : Ho) (a z ep : Int) : Ho := ⟨h.id, h.own, givenS a z h.id ep h.s, h.opn, h.p, h.m, h.ver, h.seq⟩
theorem without_at (a z : Int) : ∀ (l : List Sp) (o : List Sp × Nat), o.2 ≤ o.1.length → (l.foldl (stepW a z) o).2 ≤ (l.foldl (stepW a z) o).1.length
 | [], o, h => h
 | s :: l, o, h => by
   refine without_at a z l (stepW a z o s) ?_
   unfold stepW
   simp only [List.length_append]
   split
   · rename_i h1
     rw [if_pos h1.1]; simp
   · omega
theorem sp_flat (l : List Sp) (k : Nat) : (l.flatMap spCs).take (k * 4) = (l.take k).flatMap spCs ∧ (l.flatMap spCs).drop (k * 4) = (l.drop k).flatMap spCs := by
 have h : CellsL Rp.sp default (fun _ => True) (l.flatMap spCs) l := sp_cells.2 rfl
 exact ⟨sp_cells.1 (h.take k), sp_cells.1 (h.drop k)⟩
theorem spL_one (l : List Sp) : ∀ u ∈ l.flatMap spCs, u.oneCell' = true := by
 intro u hu
 obtain ⟨s, _, hs⟩ := List.mem_flatMap.1 hu
 exact spCs_one s u hs
theorem hblocks_any (h : Ho) (v : Value) (a z ep : Int) (K : Nat → Prop) (w : World) (hv : IsHo w K v h) (hK : ∀ b, K b → b < w.heap.size) (hs : SmallHo h) (haz : 0 ≤ a ∧ a < z ∧ z ≤ 1099511627776) (hep : 1 ≤ ep) (hsl : h.s.length ≤ 400000) :
 Calls Tryz.prog 13 #[v, .int .i64 a, .int .i64 z, .int .i64 ep] w fun e w' => ∃ v', e = .returned (.tuple #[v', .int .i64 0]) ∧ IsHo w' (fun b => w.heap.size ≤ b ∨ K b) v' (blocksH h a z ep) ∧ Below w.heap.size w w' := by
 have hco := fun W hW hKW => hcopied_any h v K W hW hKW hs
 have hv0 := hv
 obtain ⟨vo, vs, vb, vl, vm, rfl, h1, h2, h3, h4, h5⟩ := hv
 obtain ⟨Ao, co, rfl, -⟩ := h1.form
 obtain ⟨As, cs, rfl, -⟩ := h2.form
 obtain ⟨Ab, cb, rfl, -⟩ := isB_form h3
 obtain ⟨Al, cl, rfl, -⟩ := h4.form
 obtain ⟨Am, cm, rfl, -⟩ := h5.form
 have E := (Kn.start w).give Stable.ho hv0 |>.push 42 (hoS h Ao co As cs Ab cb Al cl Am cm) |>.push 42 #[.int .i64 0, .slice none 0 0, .slice none 0 0, .bool false, .int .i64 0, .int .i64 0, .int .i64 0, .int .i64 0, .int .i64 0, .int .i64 0, .slice none 0 0, .slice none 0 0, .slice none 0 0, .int .i64 0, .int .i64 0]
 rw [World.size_alloc] at E
 clear h1 h2 h3 h4 h5 hv0
 have haz0 := haz.1; have haz1 := haz.2.1; have haz2 := haz.2.2
 clear haz
 go_enter Tryz.func13, Tryz.ntmps13
 go_wp2_with fail
 generalize (w.alloc (.cells (hoS h Ao co As cs Ab cb Al cl Am cm) 42)).alloc (.cells #[.int .i64 0, .slice none 0 0, .slice none 0 0, .bool false, .int .i64 0, .int .i64 0, .int .i64 0, .int .i64 0, .int .i64 0, .int .i64 0, .slice none 0 0, .slice none 0 0, .slice none 0 0, .int .i64 0, .int .i64 0] 42) = w1 at E ⊢
 refine (hco _ (E.get m0) (fun b hb => by have := hK b hb; have := (E.at_ m0).lt; omega)).mono ?_
 rintro e w2 ⟨Ao2, co2, As2, cs2, Ab2, cb2, Al2, cl2, Am2, cm2, rfl, hown, hsp, hbf, hrc, hex, hb2⟩
 clear hco
 have hg1 : w.heap.size + 1 < w1.heap.size := (E.at_ m0).lt
 replace E := E.step hb2
 obtain ⟨q0, f0, t0⟩ := E.rules m1
 go_upto_region 4 with fail
 refine at_st15 (K := fun W => Code.wp _ _ _ _ W) (E.at_ m1) _ _ _ _ _ _ _ _ _ _ _ _ _ _ _ ?_
 intro w3 hs3 ht3 hB3
 have hb3 := Turned.upon E.below ht3 (Nat.le_refl _) (Nat.le_refl _)
 obtain ⟨Ao2', co2', xo, e1, ow, hxo⟩ := hown
 injection e1 with e1 _ e2
 subst e1 e2
 have o3 := own_turned ow ht3 (by omega)
 have hsp3 := hsp.turned ht3 (fun b hb e => by omega)
 have hbf3 := hbf.turned ht3 (fun b hb e => by omega)
 have hrc3 := hrc.turned ht3 (fun b hb e => by rcases hb with hb | hb; omega; have := hK b hb; omega)
 have hex3 := hex.turned ht3 (fun b hb e => by omega)
 have hBz := (E.at_ m0).turned ht3 (show ¬ w.heap.size + 1 = w.heap.size by omega)
 have hs2 := hb2.size
 clear E q0 f0 t0 ht3 hsp hbf hrc hex ow hb2
 have hwo := fun (Kw : Nat → Prop) W hW => hwithout_any As2 cs2 h.s a z Kw W hW haz1 hs.s
 obtain ⟨q0, f0⟩ := hB3.rules
 have t0 := hB3.lt
 go_wp2_with fail
 refine (hwo _ _ hsp3).mono ?_
 rintro e w4 ⟨A4, c4, rfl, own4, hb4⟩
 have hB4 := hB3.step hb4
 have hbw := hb3.trans (hb4.mono hb3.size)
 have hs4 := hb4.size
 clear hwo hsp3 q0 f0 t0
 have hwl : (withoutS a z h.s).1.length ≤ 2 * h.s.length := by have := without_len a z h.s ([], 0); simpa [withoutS] using this
 have hwa : (withoutS a z h.s).2 ≤ (withoutS a z h.s).1.length := without_at a z h.s ([], 0) (Nat.le_refl _)
 have hss := hs.s
 have hso := hs.own
 have hsm := hs.m
 have hin := fun c vb W ho hv hne hb => insertS_any (withoutS a z h.s).2 A4 (withoutS a z h.s).1.length c vb w3.heap.size ((withoutS a z h.s).1.flatMap spCs) (spCs ⟨a, z, h.id, ep⟩) W ho (spL_one _) hv rfl (spCs_one _) hne hwa (by omega) hb
 have hgs : givenS a z h.id ep h.s = (withoutS a z h.s).1.take (withoutS a z h.s).2 ++ [⟨a, z, h.id, ep⟩] ++ (withoutS a z h.s).1.drop (withoutS a z h.s).2 := rfl
 have hfl := sp_flat (withoutS a z h.s).1 (withoutS a z h.s).2
 rw [hfl.1, hfl.2] at hin
 have hfl2 : ((withoutS a z h.s).1.take (withoutS a z h.s).2).flatMap spCs ++ spCs ⟨a, z, h.id, ep⟩ ++ ((withoutS a z h.s).1.drop (withoutS a z h.s).2).flatMap spCs = (givenS a z h.id ep h.s).flatMap spCs := by rw [hgs, List.flatMap_append, List.flatMap_append]; simp
 rw [hfl2] at hin
 have hgl : (givenS a z h.id ep h.s).length = (withoutS a z h.s).1.length + 1 := by rw [hgs]; simp only [List.length_append, List.length_take, List.length_drop, List.length_cons, List.length_nil]; omega
 generalize withoutS a z h.s = O at own4 hwl hwa hin hgl ⊢
 obtain ⟨on, hon⟩ : ∃ on, O.1.length = on := ⟨_, rfl⟩
 rw [hon] at own4 hwl hwa hin hgl ⊢
 clear hfl hfl2 hgs hon
 obtain ⟨q0, f0⟩ := hB4.rules
 have t0 := hB4.lt
 have hvb : Blk (w4.alloc (.cells #[.int .i64 a, .int .i64 z, .int .i64 h.id, .int .i64 ep] 67)) w4.heap.size 67 (spCs ⟨a, z, h.id, ep⟩).toArray := Blk.new _ _ _ rfl
 have hol := own4.lt
 go_wp2_with fail
 refine (hin _ _ _ (own4.alloc _) hvb (fun e => by have := (hol _ e.symm).2; omega) (by rw [World.size_alloc]; omega)).mono ?_
 rintro e w5 ⟨A5, c5, rfl, own5, hb5⟩
 have hb35 : Below w3.heap.size w3 w5 := (hb4.alloc hs4 (.cells #[.int .i64 a, .int .i64 z, .int .i64 h.id, .int .i64 ep] 67)).trans hb5
 have hB5 := hB3.step hb35
 have o5 := own_below o3 hb35 (Nat.le_refl _)
 have hbf5 := hbf3.step hb35
 have hrc5 := hrc3.step hb35
 have hex5 := hex3.step hb35
 have hBz5 := hBz.step hb35
 have hbw5 := hb3.trans (hb35.mono hb3.size)
 have hs5 := hb35.size
 clear hin own4 hb4 hb5 hB4 hvb hol hbw o3 hbf3 hrc3 hex3 hBz hB3 q0 f0 t0
 obtain ⟨q0, f0⟩ := hB5.rules
 have t0 := hB5.lt
 go_upto_region 6 with fail
 refine at_set (K := fun W => Code.wp _ _ _ _ W) hB5 2 _ ?_
 intro w6 hs6 ht6 hB6
 have hB6' : Blk w6 w.heap.size 42 (hoC (blocksH h a z ep) (.slice Ao2 h.own.length co2) (.slice A5 (on + 1) c5) (.slice Ab2 h.p.buf.length cb2) (.slice Al2 h.p.l.length cl2) (.slice Am2 h.m.length cm2)) := hB6
 have o6 := own_turned o5 ht6 (by omega)
 have own6 := own_turned own5 ht6 (by omega)
 have hbf6 := hbf5.turned ht6 (fun b hb e => by omega)
 have hrc6 := hrc5.turned ht6 (fun b hb e => by rcases hb with hb | hb; omega; have := hK b hb; omega)
 have hex6 := hex5.turned ht6 (fun b hb e => by omega)
 have hBz6 := hBz5.turned ht6 (show ¬ w.heap.size + 1 = w.heap.size by omega)
 have hb6 := Turned.upon hbw5 ht6 (Nat.le_refl _) (Nat.le_refl _)
 clear o5 own5 hbf5 hrc5 hex5 hBz5 hB6 hB5 ht6 hbw5 hs6 q0 f0 t0
 obtain ⟨q0, f0⟩ := hB6'.rules
 obtain ⟨q1, f1⟩ := hBz6.rules
 have t0 := hB6'.lt
 have t1 := hBz6.lt
 go_wp2
 refine at_st15 (K := fun W => bodyPost _ _ _ _ _ W) hBz6 _ _ _ _ _ _ _ _ _ _ _ _ _ _ _ ?_
 intro w7 hs7 ht7 hB7
 obtain ⟨q2, f2⟩ := hB7.rules
 have r1 := own_turned o6 ht7 (by omega)
 have r2 := own_turned own6 ht7 (by omega)
 have hbf7 := hbf6.turned ht7 (fun b hb e => by omega)
 have hrc7 := hrc6.turned ht7 (fun b hb e => by rcases hb with hb | hb; omega; have := hK b hb; omega)
 have hex7 := hex6.turned ht7 (fun b hb e => by omega)
 refine bodyPost_ret (v := .tuple #[.agg (hoC (blocksH h a z ep) (.slice Ao2 h.own.length co2) (.slice A5 (on + 1) c5) (.slice Ab2 h.p.buf.length cb2) (.slice Al2 h.p.l.length cl2) (.slice Am2 h.m.length cm2)), .int .i64 0]) (by simp [results, Tryz.results13, go_sem, q2, blocksH]) rfl ?_
 have fin : ∀ {α : Type} {R : Rp α} {e : TypeId} {v : Value} {l : List α}, OwnL R w7 w.heap.size e (fun _ => False) v l → l.length ≤ 140737488355328 → IsL R w7 (fun b => w.heap.size ≤ b ∨ K b) v l := fun h hl => (h.isL hl).more fun b hb => .inl (hb.resolve_right (fun h => h))
 rw [← hgl] at r2 ⊢
 refine ⟨_, rfl, ⟨_, _, _, _, _, rfl, fin ⟨_, _, xo, rfl, own_base r1 (by omega), fn_cells.2 (fn_cells.1 hxo)⟩ (by show h.own.length ≤ _; omega), fin ⟨_, _, _, rfl, own_base r2 (by omega), sp_cells.2 rfl⟩ (by show (givenS a z h.id ep h.s).length ≤ _; omega), hbf7.more (fun b hb => .inl (by omega)), hrc7.more (fun b hb => by rcases hb with hb | hb; exact .inl (by omega); exact .inr hb), hex7.more (fun b hb => .inl (by omega))⟩, Turned.upon hb6 ht7 (by omega) (Nat.le_refl _)⟩
end Go.Proofs.YtjahaflkdpmhpaaGreat
namespace Go.Proofs.YtjahaflkdpmhpaaGreat
open Go.RowKit
theorem fill17_any (by_ : UInt8) (n : Nat) (w : World) (hn : n ≤ 65536) :
 Calls Tryz.prog 25 #[.int .u8 (by_.toNat : Int), .int .i64 n] w fun e w' => ∃ A c, e = .returned (.slice A n c) ∧ w'.ownsRow w.heap.size 5 1 (.slice A n c) n (cells8 (List.replicate n by_)) ∧ Below w.heap.size w w' := by
 obtain ⟨i0, hi, hz0, hz1, hz2⟩ := info_parts Tryz.info5
 go_enter Tryz.func25, Tryz.ntmps25
 go_wp2_with (at_make; refine wpList_make_full _ rfl _ _ 36 rfl w.heap.size 5 i0 _ 1 Tryz.underlying36 hi hz0 hz1 _ _ _ _ n rfl rfl rfl rfl (by rw [hz2]; omega) (by unfold maxLen; omega) (Nat.le_refl _) ?_; intro w1 how hg1)
 have hb1 : Below w.heap.size w w1 := (Below.refl _ _).grown hg1 (Nat.le_refl _) (fun k hk => by cases hk)
 rw [Nat.mul_one, show (Value.int .u8 0).cells = #[.int .u8 0] from rfl, made_zero] at how
 clear hg1
 go_wp2_with fail
 go_loopw [6, 11] (fun x6 x11 wr => ∃ j m : Nat, j + m = n ∧ x11 = .int .i64 j ∧ wr.ownsRow w.heap.size 5 1 (.slice (some ⟨w.heap.size, 0, none⟩) n n) n (cells8 (List.replicate j by_ ++ List.replicate m 0)) ∧ Below w.heap.size w wr ∧ ∃ y, x6 = y) (fun _ x11 _ => n - (intOf x11).toNat)
 case atStart => exact ⟨0, n, by omega, rfl, how, hb1, _, rfl⟩
 case round =>
  obtain ⟨j, m, hjm, rfl, hown, hb, y, rfl⟩ := hrel
  rcases m with _ | m
  · obtain rfl : j = n := by omega
    rw [List.replicate_zero, List.append_nil] at hown
    go_wp2
    go_ret
    exact ⟨_, _, rfl, hown, hb⟩
  · have hlt : j < n := by omega
    obtain ⟨hg6, hgl, hfz, hcs⟩ := own_atB hown
    have hc8 := hcs j (.int .u8 0) (by unfold cells8; rw [List.getElem?_map, List.getElem?_append_right (by simp), List.length_replicate, Nat.sub_self]; rfl)
    have own8 := own_set hown j (.int .u8 (by_.toNat : Int))
    rw [fill_set] at own8
    have hb8 := hb.setCell (p := ⟨w.heap.size, j, none⟩) (Nat.le_refl _) (.int .u8 (by_.toNat : Int))
    have hfz8 := hfz j
    have hbl := by_.toNat_lt
    have j1 : (j : Int) < (n : Int) := by omega
    have j0 : (0 : Int) ≤ (j : Int) := by omega
    clear hfz hcs hown hb1 how
    go_wp2
    go_roundw
    case rel => exact ⟨j + 1, m, by omega, by go_num, own8, hb8, _, rfl⟩
    case measure => simp [intOf]; omega
end Go.Proofs.YtjahaflkdpmhpaaGreat
namespace Go.Proofs.YtjahaflkdpmhpaaGreat
open Go.RowKit
def lastC (log : List (Nat × Rc)) (b : Int) : Option Rc := (log.reverse.find? fun x => decide (x.2.lba ≤ b ∧ b < x.2.lba + x.2.n)).map (·.2)
theorem lastC_snoc (log : List (Nat × Rc)) (z : Nat) (r : Rc) (b : Int) : lastC (log ++ [(z, r)]) b = if r.lba ≤ b ∧ b < r.lba + r.n then some r else lastC log b := by
 unfold lastC
 rw [List.reverse_append, List.reverse_singleton, List.singleton_append, List.find?_cons]
 by_cases h : r.lba ≤ b ∧ b < r.lba + r.n
 · simp [h]
 · simp [h]
theorem lastC_none {log : List (Nat × Rc)} {b : Int} (h : lastC log b = none) : ∀ x ∈ log, ¬ covR x.2 b := by
 intro x hx hc
 unfold lastC at h
 rw [Option.map_eq_none_iff, List.find?_eq_none] at h
 exact h x (List.mem_reverse.2 hx) (decide_eq_true hc)
theorem lastC_some {log : List (Nat × Rc)} {b : Int} {r : Rc} (hp : log.Pairwise (fun x y => x.2.ver < y.2.ver)) (h : lastC log b = some r) : ∃ z, (z, r) ∈ log ∧ covR r b ∧ ∀ y ∈ log, covR y.2 b → y.2.ver ≤ r.ver := by
 unfold lastC at h
 obtain ⟨x, hx, rfl⟩ := Option.map_eq_some_iff.1 h
 obtain ⟨hc, l1, l2, e, hn⟩ := List.find?_eq_some_iff_append.1 hx
 have hx2 : x ∈ log := List.mem_reverse.1 (List.mem_of_find?_eq_some hx)
 simp only [decide_eq_true_eq] at hc
 refine ⟨x.1, hx2, hc, fun y hy hyc => ?_⟩
 have hy2 : y ∈ l1 ++ x :: l2 := by rw [← e]; exact List.mem_reverse.2 hy
 have hp2 : (l1 ++ x :: l2).Pairwise (fun x y => y.2.ver < x.2.ver) := by rw [← e]; exact List.pairwise_reverse.2 hp
 rcases List.mem_append.1 hy2 with hy2 | hy2
 · have := hn y hy2
   rw [Bool.not_eq_true', decide_eq_false_iff_not] at this
   exact absurd hyc this
 · rcases List.mem_cons.1 hy2 with rfl | hy2
   · exact Int.le_refl _
   · have := (List.pairwise_cons.1 (List.pairwise_append.1 hp2).2.1).1 y hy2
     omega
end Go.Proofs.YtjahaflkdpmhpaaGreat
namespace Go.Proofs.YtjahaflkdpmhpaaGreat
open Go.RowKit Go.WideShapes Go.ChangeShapes Go.Deep Go.Joins
end Go.Proofs.YtjahaflkdpmhpaaGreat
namespace Go.Proofs.YtjahaflkdpmhpaaGreat
open Go.RowKit
theorem ho_size : (Tryz.prog.info? 42).map (·.size) = some 15 := by kernel_rfl
theorem ho_under : ∃ d, Tryz.prog.underlying 42 = some d ∧ d.isRow = true := ⟨_, Tryz.underlying42, rfl⟩
theorem run_ldho {W : World} {g : Nat} {cs : Array Value} {o : Oper} {x : Operand} {a : Act} (hS : ∀ o, W.cell? ⟨g, o, none⟩ = cs[o]?) (hn : cs.size = 15) (ho : o.op = .load 42 x) (hx : a.eval x = .pointer (some ⟨g, 0, none⟩)) :
 (execOp a.eval o).run Tryz.prog W = .ok (.value (.agg cs)) W := by
 obtain ⟨d, hu, hd⟩ := ho_under
 have hr : W.rangeAt g 0 cs.toList := fun j v hv => by rw [Nat.zero_add, hS j, ← hv, Array.getElem?_toList]
 have := run_loadVar_mid (P := Tryz.prog) W g 0 42 cs.toList d hr hu hd (by rw [ho_size, Array.length_toList, hn])
 unfold execOp
 simp only [ho, hx, Instr.loadAt, Instr.sureAddr, Sem.run_bind, Sem.run_pure, Result.andThen_ok, this, Array.toArray_toList]
section
variable {ops : Array Oper} {rest : List Oper} {o : Oper} {a : Act} {w : World} {Q : Exit → Act → World → Prop} {x y : Operand} {g : Nat} {t : TypeId} {cs cs' : Array Value}
theorem ld_ho (hB : Blk w g t cs) (hn : cs.size = 15) (hgd : o.guard = none) (ho : o.op = .load 42 x) (hx : a.eval x = .pointer (some ⟨g, 0, none⟩))
 (h : wpList Tryz.prog ops Q rest (a.put o.dst (.agg cs)) w) : wpList Tryz.prog ops Q (o :: rest) a w := by
 obtain ⟨d, hu, hd⟩ := ho_under
 exact wpList_load_row hgd _ x ho g hx t cs (0, 0) d hB hu (by cases d <;> simp_all [TypeDesc.isRow]) (by rw [ho_size, hn]) h
theorem setRow_turned (hB : Blk w g t cs) : (w.setRow g cs').heap.size = w.heap.size ∧ Turned w (w.setRow g cs') (fun b => b = g) ∧ Blk (w.setRow g cs') g t cs' := by
 refine ⟨by simp [World.setRow], ⟨rfl, rfl, rfl, by simp [World.setRow], fun k hk hn => ?_⟩, setRow_heap w g cs cs' t (0, 0) hB⟩
 unfold World.setRow
 simp only [Array.getElem?_modify]
 rw [if_neg (fun e => hn e.symm)]
theorem st_ho (hB : Blk w g t cs) (hn : cs.size = 15) (hgd : o.guard = none) (ho : o.op = .store 42 x y) (hx : a.eval x = .pointer (some ⟨g, 0, none⟩)) (hy : a.eval y = .agg cs') (hn' : cs'.size = 15) (h1 : cs'.toList.all (·.oneCell') = true)
 (h : ∀ w', w'.heap.size = w.heap.size → Turned w w' (fun b => b = g) → Blk w' g t cs' → wpList Tryz.prog ops Q rest (a.put o.dst undef) w') : wpList Tryz.prog ops Q (o :: rest) a w :=
 wpList_store_row hgd _ x y ho g cs' hx hy t cs hB (by rw [ho_size, hn']) (by rw [hn, hn']) (by rw [← Array.all_toList]; exact h1) (h _ (setRow_turned hB).1 (setRow_turned hB).2.1 (setRow_turned hB).2.2)
theorem zns_size : (Tryz.prog.info? 28).map (·.size) = some 4 := by kernel_rfl
theorem st_zns (hB : Blk w g t cs) (hn : cs.size = 4) (hgd : o.guard = none) (ho : o.op = .store 28 x y) (hx : a.eval x = .pointer (some ⟨g, 0, none⟩)) (hy : a.eval y = .agg cs') (hn' : cs'.size = 4) (h1 : cs'.toList.all (·.oneCell') = true)
 (h : ∀ w', w'.heap.size = w.heap.size → Turned w w' (fun b => b = g) → Blk w' g t cs' → wpList Tryz.prog ops Q rest (a.put o.dst undef) w') : wpList Tryz.prog ops Q (o :: rest) a w :=
 wpList_store_row hgd _ x y ho g cs' hx hy t cs hB (by rw [zns_size, hn']) (by rw [hn, hn']) (by rw [← Array.all_toList]; exact h1) (h _ (setRow_turned hB).1 (setRow_turned hB).2.1 (setRow_turned hB).2.2)
theorem st_ho_new (hgd : o.guard = none) (ho : o.op = .store 42 x y) (hx : a.eval x = .pointer (some ⟨w.heap.size, 0, none⟩)) (hy : a.eval y = .agg cs') (hn : cs.size = 15) (hn' : cs'.size = 15) (h1 : cs'.toList.all (·.oneCell') = true)
 (h : wpList Tryz.prog ops Q rest (a.put o.dst undef) (w.alloc (.cells cs' t))) : wpList Tryz.prog ops Q (o :: rest) a (w.alloc (.cells cs t)) := by
 refine wpList_store_row hgd _ x y ho w.heap.size cs' hx hy t cs (Blk.new w t cs rfl) (by rw [ho_size, hn']) (by rw [hn, hn']) (by rw [← Array.all_toList]; exact h1) ?_
 rw [World.setRow_alloc_new]
 exact h
end
end Go.Proofs.YtjahaflkdpmhpaaGreat
