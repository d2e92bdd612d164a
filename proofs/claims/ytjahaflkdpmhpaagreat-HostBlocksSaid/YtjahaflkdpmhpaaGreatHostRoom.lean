/- The walks of the writer's room: its predicate, slices.IndexFunc with it. -/
import Derived.Test.YtjahaflkdpmhpaaGreatHostGain
import Derived.Test.YtjahaflkdpmhpaaGreatHostDo
import Derived.Test.YtjahaflkdpmhpaaGreatHostCopy
import Derived.Deep.MidRow
import Derived.Deep.WholeRow
import Derived.BigQuiet
import Derived.Deep.QuietTactic
namespace Go.Proofs.YtjahaflkdpmhpaaGreat
open Go.RowKit
structure Io where
 op : Int
 lba : Int
 n : Int
 data : List UInt8
def ioMost (o : Io) : Int := if o.op = 1 then 256 else if o.op = 2 then 1048576 else 0
def ioLong (o : Io) : Int := if o.op = 1 then 16 * o.n else 0
def ioErr (s : List Sp) (o : Io) : Int := if ¬ (someB o.lba o.n (ioMost o) ∧ (o.data.length : Int) = ioLong o) then 63 else if mineS s o.lba o.n = true then 0 else 62
def recI (v : Int) (o : Io) : Rc := ⟨if o.op = 1 then 1 else if o.op = 2 then 2 else 0, o.lba, o.n, v, 0, 0, o.data⟩
def recsI : Int → List Io → List Rc
 | _, [] => []
 | v, o :: l => recI v o :: recsI (v + 1) l
def errI (s : List Sp) : List Io → Int
 | [] => 0
 | o :: l => if ioErr s o ≠ 0 then ioErr s o else errI s l
theorem recsI_len : ∀ (l : List Io) (v : Int), (recsI v l).length = l.length
 | [], _ => rfl
 | o :: l, v => by simp [recsI, recsI_len l]
theorem recsI_snoc : ∀ (l : List Io) (v : Int) (o : Io), recsI v (l ++ [o]) = recsI v l ++ [recI (v + l.length) o]
 | [], v, o => by simp [recsI]
 | x :: l, v, o => by
   simp only [List.cons_append, recsI, recsI_snoc l, List.length_cons, Int.natCast_add]
   congr 4
   omega
theorem recsI_take {l : List Io} {j : Nat} (v : Int) (hj : j < l.length) : recsI v (l.take (j + 1)) = recsI v (l.take j) ++ [recI (v + j) l[j]] := by
 rw [List.take_succ_eq_append_getElem hj, recsI_snoc, List.length_take, Nat.min_eq_left (by omega)]
theorem errI_all {s : List Sp} : ∀ {l : List Io}, (∀ o ∈ l, ioErr s o = 0) → errI s l = 0
 | [], _ => rfl
 | o :: l, h => by
   unfold errI
   rw [if_neg (by rw [h o (List.mem_cons_self ..)]; simp)]
   exact errI_all fun x hx => h x (List.mem_cons_of_mem _ hx)
theorem errI_at {s : List Sp} : ∀ {l : List Io} {j : Nat} {o : Io}, (∀ x ∈ l.take j, ioErr s x = 0) → l[j]? = some o → ioErr s o ≠ 0 → errI s l = ioErr s o
 | [], j, o, _, h, _ => by simp at h
 | x :: l, 0, o, _, h, he => by
   simp only [List.getElem?_cons_zero, Option.some.injEq] at h
   subst h
   unfold errI
   rw [if_pos he]
 | x :: l, j + 1, o, h0, h, he => by
   unfold errI
   rw [if_neg (by rw [h0 x (by simp)]; simp)]
   exact errI_at (l := l) (j := j) (fun y hy => h0 y (by rw [List.take_succ_cons]; exact List.mem_cons_of_mem _ hy)) (by simpa using h) he
def zd0 : Zd := ⟨0, 0, 0, []⟩
def ho0 : Ho := ⟨0, [], [], false, p0k, [], 0, 0⟩
def freeF (d : Zd) (f : Fn) : Bool := decide (f.zone < d.z.length) && (decide ((d.z.getD f.zone.toNat z0).st = 0) && decide ((d.z.getD f.zone.toNat z0).fe = f.epoch))
def finD (d : Zd) (h : Ho) : Zd := if h.opn = true then (doZ d ⟨4, h.p.zone, h.p.h.epoch, 0, 0, []⟩).1 else d
def begP (d : Zd) (h : Ho) (f : Fn) : Pk × Int := beginL ⟨h.id, f.epoch, h.seq⟩ f.zone d.cap
def roomH (d : Zd) (h : Ho) (need : Int) : Zd × Ho × Bool :=
 if h.opn = true ∧ need ≤ roomL h.p then (d, h, true)
 else match h.own[h.own.findIdx (freeF (finD d h))]? with
  | none => (finD d h, h, false)
  | some f => (finD d h, ⟨h.id, h.own, h.s, true, (begP (finD d h) h f).1, h.m, h.ver, h.seq + 1⟩, decide ((begP (finD d h) h f).2 = 0) && decide (need ≤ roomL (begP (finD d h) h f).1))
def withP (h : Ho) (p : Pk) : Ho := ⟨h.id, h.own, h.s, h.opn, p, h.m, h.ver, h.seq⟩
def putW (d : Zd) (h : Ho) (rs : List Rc) : Zd × Ho × List Int × Int :=
 if (addL h.p rs).2.2 ≠ 0 then (d, h, [], (addL h.p rs).2.2)
 else if (addL h.p rs).1.buf = [] then (d, withP h (addL h.p rs).1, (addL h.p rs).2.1, 0)
 else if (doZ d ⟨1, (addL h.p rs).1.zone, (addL h.p rs).1.h.epoch, 0, 0, (addL h.p rs).1.buf⟩).2.e ≠ 0 then
  ((doZ d ⟨1, (addL h.p rs).1.zone, (addL h.p rs).1.h.epoch, 0, 0, (addL h.p rs).1.buf⟩).1, closedH h, [], (doZ d ⟨1, (addL h.p rs).1.zone, (addL h.p rs).1.h.epoch, 0, 0, (addL h.p rs).1.buf⟩).2.e)
 else ((doZ d ⟨1, (addL h.p rs).1.zone, (addL h.p rs).1.h.epoch, 0, 0, (addL h.p rs).1.buf⟩).1, withP h (flushP (addL h.p rs).1), (addL h.p rs).2.1, 0)
def putH (d : Zd) (h : Ho) (rs : List Rc) : Zd × Ho × List Int × Int :=
 if chkD d ≠ 0 then (zd0, ho0, [], chkD d)
 else if errL rs ≠ 0 then (zd0, ho0, [], errL rs)
 else if (roomH d h (frsL rs).length).2.2 = false then (zd0, ho0, [], 64)
 else putW (roomH d h (frsL rs).length).1 (roomH d h (frsL rs).length).2.1 rs
def mapP (h : Ho) (rs : List Rc) (at_ : List Int) : List Ex × Int := mapGo (List.zipWith (fun r o => (r, h.p.zone, o)) rs at_) h.m
def withM (h : Ho) (m : List Ex) (k : Int) : Ho := ⟨h.id, h.own, h.s, h.opn, h.p, m, h.ver + k, h.seq⟩
def commitH (d : Zd) (h : Ho) (l : List Io) : Zd × Ho × Int :=
 if errI h.s l ≠ 0 then (zd0, ho0, errI h.s l)
 else if l = [] then (d, h, 0)
 else if (putH d h (recsI h.ver l)).2.2.2 ≠ 0 then ((putH d h (recsI h.ver l)).1, (putH d h (recsI h.ver l)).2.1, (putH d h (recsI h.ver l)).2.2.2)
 else ((putH d h (recsI h.ver l)).1, withM (putH d h (recsI h.ver l)).2.1 (mapP (putH d h (recsI h.ver l)).2.1 (recsI h.ver l) (putH d h (recsI h.ver l)).2.2.1).1 l.length, 0)
def putF (l : List Fn) (z id ep : Int) : List Fn := if hasF l z = true then l.set (posF l z) ⟨z, ((l.getD (posF l z) ⟨0, 0, 0⟩)).host, ep⟩ else l.take (posF l z) ++ [⟨z, id, ep⟩] ++ l.drop (posF l z)
def gainH (h : Ho) (z ep : Int) : Ho :=
 if h.opn = true ∧ h.p.zone = z then closedH ⟨h.id, putF h.own z h.id ep, h.s, h.opn, h.p, h.m, h.ver, h.seq⟩ else ⟨h.id, putF h.own z h.id ep, h.s, h.opn, h.p, h.m, h.ver, h.seq⟩
end Go.Proofs.YtjahaflkdpmhpaaGreat
namespace Go.Proofs.YtjahaflkdpmhpaaGreat
open Go.RowKit
theorem ho_size : (Tryz.prog.info? 42).map (·.size) = some 15 := by kernel_rfl
theorem ho_under : ∃ d, Tryz.prog.underlying 42 = some d ∧ d.isRow = true := ⟨_, Tryz.underlying42, rfl⟩
theorem run_ldho {W : World} {g : Nat} {cs : Array Value} {o : Oper} {x : Operand} {a : Act} (hS : ∀ o, W.cell? ⟨g, o, none⟩ = cs[o]?) (hn : cs.size = 15) (ho : o.op = .load 42 x) (hx : a.eval x = .pointer (some ⟨g, 0, none⟩)) :
 (execOp a.eval o).run Tryz.prog W = .ok (.value (.agg cs)) W := by
 obtain ⟨d, hu, hd⟩ := ho_under
 have hr : W.rangeAt g 0 cs.toList := fun j v hv => by rw [Nat.zero_add, hS j, ← hv, Array.getElem?_toList]
 have := run_loadVar_mid (P := Tryz.prog) W g 0 42 cs.toList d hr hu hd (by rw [ho_size, Array.length_toList, hn])
 unfold execOp
 simp only [ho, hx, Instr.loadAt, Instr.sureAddr, Sem.run_bind, Sem.run_pure, Result.andThen_ok, this, Array.toArray_toList]
section
variable {ops : Array Oper} {rest : List Oper} {o : Oper} {a : Act} {w : World} {Q : Exit → Act → World → Prop} {x y : Operand} {g : Nat} {t : TypeId} {cs cs' : Array Value}
theorem ld_ho (hB : Blk w g t cs) (hn : cs.size = 15) (hgd : o.guard = none) (ho : o.op = .load 42 x) (hx : a.eval x = .pointer (some ⟨g, 0, none⟩))
 (h : wpList Tryz.prog ops Q rest (a.put o.dst (.agg cs)) w) : wpList Tryz.prog ops Q (o :: rest) a w := by
 obtain ⟨d, hu, hd⟩ := ho_under
 exact wpList_load_row hgd _ x ho g hx t cs (0, 0) d hB hu (by cases d <;> simp_all [TypeDesc.isRow]) (by rw [ho_size, hn]) h
theorem setRow_turned (hB : Blk w g t cs) : (w.setRow g cs').heap.size = w.heap.size ∧ Turned w (w.setRow g cs') (fun b => b = g) ∧ Blk (w.setRow g cs') g t cs' := by
 refine ⟨by simp [World.setRow], ⟨rfl, rfl, rfl, by simp [World.setRow], fun k hk hn => ?_⟩, setRow_heap w g cs cs' t (0, 0) hB⟩
 unfold World.setRow
 simp only [Array.getElem?_modify]
 rw [if_neg (fun e => hn e.symm)]
theorem st_ho (hB : Blk w g t cs) (hn : cs.size = 15) (hgd : o.guard = none) (ho : o.op = .store 42 x y) (hx : a.eval x = .pointer (some ⟨g, 0, none⟩)) (hy : a.eval y = .agg cs') (hn' : cs'.size = 15) (h1 : cs'.toList.all (·.oneCell') = true)
 (h : ∀ w', w'.heap.size = w.heap.size → Turned w w' (fun b => b = g) → Blk w' g t cs' → wpList Tryz.prog ops Q rest (a.put o.dst undef) w') : wpList Tryz.prog ops Q (o :: rest) a w :=
 wpList_store_row hgd _ x y ho g cs' hx hy t cs hB (by rw [ho_size, hn']) (by rw [hn, hn']) (by rw [← Array.all_toList]; exact h1) (h _ (setRow_turned hB).1 (setRow_turned hB).2.1 (setRow_turned hB).2.2)
theorem zns_size : (Tryz.prog.info? 28).map (·.size) = some 4 := by kernel_rfl
theorem st_zns (hB : Blk w g t cs) (hn : cs.size = 4) (hgd : o.guard = none) (ho : o.op = .store 28 x y) (hx : a.eval x = .pointer (some ⟨g, 0, none⟩)) (hy : a.eval y = .agg cs') (hn' : cs'.size = 4) (h1 : cs'.toList.all (·.oneCell') = true)
 (h : ∀ w', w'.heap.size = w.heap.size → Turned w w' (fun b => b = g) → Blk w' g t cs' → wpList Tryz.prog ops Q rest (a.put o.dst undef) w') : wpList Tryz.prog ops Q (o :: rest) a w :=
 wpList_store_row hgd _ x y ho g cs' hx hy t cs hB (by rw [zns_size, hn']) (by rw [hn, hn']) (by rw [← Array.all_toList]; exact h1) (h _ (setRow_turned hB).1 (setRow_turned hB).2.1 (setRow_turned hB).2.2)
theorem st_ho_new (hgd : o.guard = none) (ho : o.op = .store 42 x y) (hx : a.eval x = .pointer (some ⟨w.heap.size, 0, none⟩)) (hy : a.eval y = .agg cs') (hn : cs.size = 15) (hn' : cs'.size = 15) (h1 : cs'.toList.all (·.oneCell') = true)
 (h : wpList Tryz.prog ops Q rest (a.put o.dst undef) (w.alloc (.cells cs' t))) : wpList Tryz.prog ops Q (o :: rest) a (w.alloc (.cells cs t)) := by
 refine wpList_store_row hgd _ x y ho w.heap.size cs' hx hy t cs (Blk.new w t cs rfl) (by rw [ho_size, hn']) (by rw [hn, hn']) (by rw [← Array.all_toList]; exact h1) ?_
 rw [World.setRow_alloc_new]
 exact h
end
end Go.Proofs.YtjahaflkdpmhpaaGreat
namespace Go.Proofs.YtjahaflkdpmhpaaGreat
open Go.RowKit
set_option maxRecDepth 100000 in
set_option maxHeartbeats 4000000 in
theorem hroom1_any (B g : Nat) (h : Ho) (vo vs vb vl vm : Value) (d : Zd) (A : Option Addr) (cz : Nat) (f : Fn) (K : Nat → Prop) (w : World) (hBB : Blk w B 202 #[.pointer (some ⟨g, 0, none⟩)]) (hB : Blk w g 204 (wrC h vo vs vb vl vm d (.slice A d.z.length cz))) (hz : IsL Rp.zone w K (.slice A d.z.length cz) d.z) (h0 : 0 ≤ f.zone) :
 Calls Tryz.prog 159 #[.agg #[.int .i64 f.zone, .int .i64 f.host, .int .i64 f.epoch], .pointer (some ⟨B, 0, none⟩)] w fun e w' => e = .returned (.bool (freeF d f)) ∧ Below w.heap.size w w' := by
 obtain ⟨fz, fh, fe⟩ := f
 obtain ⟨k, rfl⟩ : ∃ k : Nat, fz = k := ⟨fz.toNat, by simp only at h0; omega⟩
 simp only
 have E := (((Kn.start w).know hBB).know hB).give Stable.list hz |>.push 127 #[.int .i64 k, .int .i64 fh, .int .i64 fe]
 have hb1 := (Below.refl w.heap.size w).alloc (Nat.le_refl _) (.cells #[.int .i64 k, .int .i64 fh, .int .i64 fe] 127)
 obtain ⟨res, hres⟩ : ∃ res, freeF d ⟨k, fh, fe⟩ = res := ⟨_, rfl⟩
 rw [hres]
 unfold freeF at hres
 simp only [Int.toNat_natCast] at hres
 have HRES := Lib.hid hres
 obtain ⟨n, hn⟩ : ∃ n, d.z.length = n := ⟨_, rfl⟩
 have HN := Lib.hid hn
 have hlen := hz.len
 rw [hn] at E hlen HRES
 clear hBB hB hz hres h0 hn
 go_enter Tryz.func159, Tryz.ntmps159
 go_upto_region 1 with fail
 generalize w.alloc (.cells #[.int .i64 k, .int .i64 fh, .int .i64 fe] 127) = w1 at E hb1 ⊢
 obtain ⟨q0, f0, t0⟩ := E.rules m0
 obtain ⟨q1, f1, t1⟩ := E.rules m1
 obtain ⟨q2, f2, t2⟩ := E.rules m2
 have k0 : (0 : Int) ≤ (k : Int) := by omega
 by_cases h1 : k < n
 case neg =>
  have d1 : decide ((k : Int) < (n : Int)) = false := by simp only [decide_eq_false_iff_not]; omega
  have hr : res = false := by rw [← HRES.out, d1]; rfl
  subst hr
  go_quiet (fail)
  go_wp2
  go_ret
  exact ⟨rfl, below_drewN hb1 _⟩
 have h1' : k < d.z.length := by rw [HN.out]; exact h1
 obtain ⟨adz, Bz, cB, rfl, -, -, -, c0, c1, c2⟩ := IsL.zone_at (E.get m0) (List.getElem?_eq_getElem h1')
 have hgd : d.z.getD k z0 = d.z[k] := by rw [List.getD_eq_getElem?_getD, List.getElem?_eq_getElem h1']; rfl
 simp only [hgd] at HRES
 generalize d.z[k] = z at HRES c0 c1 c2
 have d1 : decide ((k : Int) < (n : Int)) = true := by simp only [decide_eq_true_eq]; omega
 have i1 : (k : Int) < (n : Int) := by omega
 obtain ⟨zst, zfe, zd⟩ := z
 simp only at HRES c0 c1 c2
 by_cases h2 : zst = 0
 case neg =>
  have d2 : decide (zst = 0) = false := decide_eq_false h2
  have d3 : (zst == (0 : Int)) = false := by simpa using h2
  have hr : res = false := by rw [← HRES.out, d1, d2]; rfl
  subst hr
  go_quiet (fail)
  go_wp2
  go_ret
  exact ⟨rfl, below_drewN hb1 _⟩
 subst h2
 have hr : res = decide (zfe = fe) := by rw [← HRES.out, d1]; rfl
 subst hr
 go_quiet (fail)
 go_wp2
 go_ret
 exact ⟨rfl, below_drewN hb1 _⟩
set_option maxRecDepth 100000 in
set_option maxHeartbeats 4000000 in
theorem hindex_any (B g : Nat) (h : Ho) (vo vs vb vl vm : Value) (d : Zd) (A : Option Addr) (cz : Nat) (Ao : Option Addr) (co : Nat) (l : List Fn) (K Ko : Nat → Prop) (w : World) (hBB : Blk w B 202 #[.pointer (some ⟨g, 0, none⟩)]) (hB : Blk w g 204 (wrC h vo vs vb vl vm d (.slice A d.z.length cz))) (hz : IsL Rp.zone w K (.slice A d.z.length cz) d.z)
 (hv : IsL Rp.fn w Ko (.slice Ao l.length co) l) (h0 : ∀ f ∈ l, 0 ≤ f.zone) :
 Calls Tryz.prog 158 #[.slice Ao l.length co, .func (.func 159) #[] #[.pointer (some ⟨B, 0, none⟩)]] w fun e w' =>
  e = .returned (.int .i64 (if l.findIdx (freeF d) < l.length then (l.findIdx (freeF d) : Int) else -1)) ∧ Below w.heap.size w w' := by
 have hlen := hv.len
 obtain ⟨n, hn⟩ : ∃ n, l.length = n := ⟨_, rfl⟩
 rw [hn] at hv hlen ⊢
 obtain ⟨p, hp⟩ : ∃ p, l.findIdx (freeF d) = p := ⟨_, rfl⟩
 rw [hp]
 have HN := Lib.hid hn
 have HP := Lib.hid hp
 obtain ⟨res, hres⟩ : ∃ res, (if p < n then (p : Int) else -1) = res := ⟨_, rfl⟩
 rw [hres]
 have HRES := Lib.hid hres
 clear hn hp hres
 have E := ((((Kn.start w).give Stable.list hv).know hBB).know hB).give Stable.list hz
 go_enter Tryz.func158, Tryz.ntmps158
 go_wp2_with fail
 go_loopw [5, 8] (fun x i wr => ∃ j : Nat, i = .int .i64 j ∧ j ≤ n ∧ Hid (∀ k e, k < j → l[k]? = some e → freeF d e = false) ∧ Below w.heap.size w wr ∧ (∃ y, x = y)) (fun _ i _ => n - (intOf i).toNat)
 case atStart => exact ⟨0, rfl, Nat.zero_le _, Lib.hid fun k e hk => by omega, Below.refl _ _, _, rfl⟩
 case round =>
  obtain ⟨j, rfl, hj, HI, hb, y, rfl⟩ := hrel
  have hsz := hb.size
  have F := E.step hb
  by_cases hlt : j < n
  · have hlt' : j < l.length := by rw [HN.out]; exact hlt
    have hje : l[j]? = some l[j] := List.getElem?_eq_getElem hlt'
    obtain ⟨ad, rfl, -, c0, c1, c2⟩ := fn_at (F.get m1) hje
    have he0 := h0 _ (List.getElem_mem hlt')
    have HJ := Lib.hid hje
    generalize l[j] = e at HJ c0 c1 c2 he0
    have j1 : (j : Int) < (n : Int) := by omega
    have j0 : (0 : Int) ≤ (j : Int) := by omega
    have hm1 := fun W a b c => hroom1_any B g h vo vs vb vl vm d A cz e K W a b c he0
    clear hje hlt'
    go_wp2_with fail
    refine (hm1 wr (F.at_ m1) (F.at_ m0) (F.get m0)).mono ?_
    rintro x w2 ⟨rfl, hb2⟩
    clear hm1 c0 c1 c2
    have hb3 := hb.trans (hb2.mono hsz)
    cases hfr : freeF d e with
    | true =>
      have hpj : p = j := by
       rw [← HP.out, List.findIdx_eq (by rw [HN.out]; exact hlt)]
       have hje := HJ.out
       obtain ⟨hlt', e1⟩ := List.getElem?_eq_some_iff.1 hje
       refine ⟨by rw [e1]; exact hfr, fun k hk => ?_⟩
       have := HI.out k _ hk (List.getElem?_eq_getElem (by omega))
       rw [this]
      have hr : res = (j : Int) := by rw [← HRES.out, hpj, if_pos hlt]
      subst hr
      clear hpj
      go_wp2
      go_ret
      exact ⟨rfl, hb3⟩
    | false =>
      have HI2 : Hid (∀ k e, k < j + 1 → l[k]? = some e → freeF d e = false) := Lib.hid fun k x hk hx => by
       by_cases hkj : k = j
       · subst hkj
         rw [HJ.out] at hx
         injection hx with hx
         subst hx
         exact hfr
       · exact HI.out k x (by omega) hx
      clear hfr
      go_wp2
      go_roundw
      case rel => exact ⟨j + 1, by go_num, by omega, HI2, hb3, _, rfl⟩
      case measure => simp [intOf]; omega
  · obtain rfl : j = n := by omega
    have hpj : ¬ p < j := by
     rw [← HP.out, ← HN.out]
     intro h
     have h2 : freeF d (l[l.findIdx (freeF d)]) = true := List.findIdx_getElem
     have h3 := HI.out _ _ (by rw [← HN.out]; exact h) (List.getElem?_eq_getElem h)
     rw [h2] at h3
     cases h3
    have hr : res = -1 := by rw [← HRES.out, if_neg hpj]
    subst hr
    clear hpj
    go_wp2
    go_ret
    exact ⟨rfl, hb⟩
end Go.Proofs.YtjahaflkdpmhpaaGreat
