/- Acts upon a net among the arguments, opened. -/
/- The walk of quicksetlaw13.key: a message's bytes as a string. -/
/- The walk of quicksetlaw13.few. -/
import Derived.Test.YtbjgemipmlimoaaMsgB
import Derived.Test.YtbjgemipmlimoaaRefW
import Derived.Test.YtbjgemipmlimoaaMsgAt
import Derived.Test.YtbjgemipmlimoaaRep
import Derived.Test.YtbjgemipmlimoaaNetTo
import Derived.Deep.DeepCutAuto
namespace Go.Proofs.Ytbjgemipmlimoaa
open Go.RowKit Go.WideShapes Go.ChangeShapes Go.Deep

/-- what is done to a net -/
structure An where
  d : Int
  i : Int
  l : List Ms

def Rp.an : Rp An := ⟨3, fun w K cs o => ∃ v_l, cs = [.int .i64 o.d, .int .i64 o.i, v_l] ∧ IsL Rp.msg w K v_l o.l ∧ (-9223372036854775808 ≤ o.i ∧ o.i ≤ 9223372036854775807) ∧ (o.l.length * 80 ≤ 140737488351232 ∧ ∀ m ∈ o.l, m.args.length ≤ 17592186043904),
  by rintro _ _ _ _ ⟨v_l, rfl, h_l, r0, r1⟩; rfl,
  by rintro _ _ _ _ _ ⟨v_l, e, h_l, r0, r1⟩ hk; exact ⟨v_l, e, h_l.keep hk, r0, r1⟩,
  by rintro _ _ _ _ _ ⟨v_l, e, h_l, r0, r1⟩ hk; exact ⟨v_l, e, h_l.more hk, r0, r1⟩,
  by
    rintro _ _ _ _ ⟨v_l, rfl, h_l, r0, r1⟩ u hu
    have o_l := RpL.one h_l
    simp only [List.mem_cons, List.not_mem_nil, or_false] at hu
    rcases hu with rfl | rfl | rfl <;> first | rfl | assumption⟩

theorem Try.cells_an : Try.prog.cellsOf 73 = 3 := by kernel_rfl
set_option maxRecDepth 100000 in
theorem open_an {H : Type} {enc : TypeId × Value → H} {w : World} {n : Nat} {cs : List Value} {x : DataW H × List MemPlace} (h : DataW.trod enc Try.prog w 0 (fun _ => true) true n 73 cs = some x) (hs : Small Try.prog 73 x.1) :
    ∃ o, Rp.an.is w (· < w.heap.size) cs o := by
  obtain ⟨xs, m, _, rfl, hlen, hl, hf⟩ := DataW.trod_struct Try.underlying73 h
  rw [Try.cells_an] at hlen
  match cs, hlen, xs, hl with
  | [c0, c1, c2], _, [y0, y1, y2], _ =>
    have g0 := hf 0 _ rfl
    replace g0 : DataW.trod enc Try.prog w 0 (fun _ => true) true m 3 [c0] = some y0 := by simpa [Try.ci] using g0
    obtain ⟨a0, e0, _, w0⟩ := DataW.trod_int Try.underlying3 g0
    have g1 := hf 1 _ rfl
    replace g1 : DataW.trod enc Try.prog w 0 (fun _ => true) true m 3 [c1] = some y1 := by simpa [Try.ci] using g1
    obtain ⟨a1, e1, _, w1⟩ := DataW.trod_int Try.underlying3 g1
    have b1 := bounds_i64 w1
    have g2 := hf 2 _ rfl
    replace g2 : DataW.trod enc Try.prog w 0 (fun _ => true) true m 35 [c2] = some y2 := by simpa [Try.cL_msg] using g2
    have s2 : Small Try.prog 35 y2.1 := Small.struct Try.underlying73 hs (j := 2) (d := y2.1) rfl rfl
    obtain ⟨u2, a2, e2, hL2, hb2, hc2⟩ := open_L_msgB g2 s2
    simp only [List.cons.injEq, and_true] at e0 e1 e2
    subst e0 e1 e2
    exact ⟨⟨a0, a1, a2⟩, ⟨_, rfl, hL2, ⟨b1.1, b1.2⟩, hb2, hc2⟩⟩

theorem Try.cL_an : Try.prog.cellsOf 68 = 1 := by kernel_rfl
theorem Try.bytes_an : Try.prog.bytesOf 73 = 40 := by kernel_rfl
set_option maxRecDepth 100000 in
theorem open_L_an {H : Type} {enc : TypeId × Value → H} {w : World} {n : Nat} {cs : List Value} {x : DataW H × List MemPlace} (h : DataW.trod enc Try.prog w 0 (fun _ => true) true n 68 cs = some x) (hs : Small Try.prog 68 x.1) :
    ∃ v l, cs = [v] ∧ IsL Rp.an w (· < w.heap.size) v l ∧ l.length * 40 ≤ 140737488351232 := by
  obtain ⟨v, l, e, hL, hb⟩ := open_list Rp.an Try.underlying68 Try.cells_an (by rw [Try.bytes_an]; decide) (by decide) h hs fun _ _ _ h s => open_an h s
  rw [Try.bytes_an] at hb
  exact ⟨v, l, e, hL, hb⟩
set_option maxRecDepth 100000 in
theorem open_LA_an {H : Type} {enc : TypeId × Value → H} {w : World} {base : Nat} {v : Value} {d : DataW H} {p : List MemPlace} (hv : Value.okWide Try.prog w .any base 68 v) (h : DataW.Trod enc Try.prog w 0 (fun _ => true) true 68 v d p) (hs : Small Try.prog 68 d) :
    ∃ l, IsL Rp.an w (· < w.heap.size) v l ∧ l.length * 40 ≤ 140737488351232 := by
  obtain ⟨A, n, c, rfl⟩ := okWide_slice Try.underlying68 hv
  obtain ⟨fuel, hf⟩ := h
  obtain ⟨v', l, hcs, hB⟩ := open_L_an hf hs
  have : Value.slice A n c = v' := by simpa [Value.cells] using hcs
  rw [this]
  exact ⟨l, hB⟩

end Go.Proofs.Ytbjgemipmlimoaa
namespace Go.Proofs.Ytbjgemipmlimoaa
open Go.RowKit

/-- a message's key -/
def keyB (m : Ms) : ByteArray := ⟨(msgL m).1.toArray⟩
set_option maxRecDepth 100000 in
set_option maxHeartbeats 2000000 in
theorem key_any (v : Value) (m : Ms) (K : Nat → Prop) (w : World) (hv : IsM w K v m) (hl : m.args.length ≤ 17592186043904) :
    Calls Try.prog 43 #[v] w fun e w' => e = .returned (.string (keyB m)) ∧ Below w.heap.size w w' := by
  obtain ⟨A1, c1, A2, c2, rfl, h1⟩ := id hv
  clear h1
  have E := ((Kn.start w).give Stable.msg hv).push 45 #[.int .i64 m.kind, .int .i64 m.frm, .int .i64 m.to, .int .i64 m.id, .slice A1 m.args.length c1, .slice A2 m.data.length c2]
  unfold mv at hv ⊢
  go_enter Try.func43, Try.ntmps43
  obtain ⟨q1, f1, t1⟩ := E.rules m0
  go_wp2_with fail
  refine (rmsg_any _ m K _ (E.get m0) hl).mono ?_
  rintro e w2 ⟨A', c', rfl, own, hb2⟩
  replace E := E.step hb2
  have hs : (convert 24 9 (.slice A' (msgL m).1.length c')).run Try.prog w2 = .ok (.string (keyB m)) w2 :=
    run_string_of w2 24 9 5 Try.underlying24 Try.underlying5 Try.underlying9 rfl (Reads.of_own own)
  go_wp2
  go_ret
  exact ⟨rfl, E.below⟩
end Go.Proofs.Ytbjgemipmlimoaa
namespace Go.Proofs.Ytbjgemipmlimoaa
open Go.RowKit

def fewL (l : List An) : Bool := (l.all fun o => !bigL o.l) && decide ((l.length : Int) ≤ 100)
theorem IsL.an_at {w : World} {K : Nat → Prop} {A : Option Addr} {n c : Nat} {l : List An} (h : IsL Rp.an w K (.slice A n c) l) {j : Nat} {o : An} (ho : l[j]? = some o) :
    ∃ ad A1 c1, A = some ad ∧ ad.block < w.heap.size ∧ IsL Rp.msg w K (.slice A1 o.l.length c1) o.l ∧ (o.l.length * 80 ≤ 140737488351232 ∧ ∀ m ∈ o.l, m.args.length ≤ 17592186043904) ∧
      w.cell? (ad.add (j * 3)) = some (.int .i64 o.d) ∧ w.cell? ⟨(ad.add (j * 3)).block, (ad.add (j * 3)).off + 1, none⟩ = some (.int .i64 o.i) ∧ w.cell? ⟨(ad.add (j * 3)).block, (ad.add (j * 3)).off + 2, none⟩ = some (.slice A1 o.l.length c1) := by
  obtain ⟨ad, es, rfl, _, hes, hcell⟩ := h.at_ ho
  obtain ⟨v, rfl, hl, _, hb⟩ := hes
  obtain ⟨A1, c1, rfl, _⟩ := hl.form
  have h0 : w.cell? (ad.add (j * 3)) = some (.int .i64 o.d) := by rw [← addr0 (ad.add (j * 3))]; exact hcell 0 _ rfl
  have hlt := World.block_lt_of_cell? w _ h0
  rw [block_of_add] at hlt
  refine ⟨ad, A1, c1, rfl, hlt, hl, hb, h0, ?_, ?_⟩
  · rw [← addrS _ 1 (by decide)]; exact hcell 1 _ rfl
  · rw [← addrS _ 2 (by decide)]; exact hcell 2 _ rfl

set_option maxRecDepth 100000 in
set_option maxHeartbeats 2000000 in
theorem few13_any (v : Value) (l : List An) (K : Nat → Prop) (w : World) (hv : IsL Rp.an w K v l) :
    Calls Try.prog 42 #[v] w fun e w' => e = .returned (.bool (fewL l)) ∧ Below w.heap.size w w' := by
  obtain ⟨res, hres⟩ : ∃ res, res = fewL l := ⟨_, rfl⟩
  rw [← hres]
  have HRES := Lib.hid hres; clear hres
  have hv0 := hv
  obtain ⟨A, c, rfl, _⟩ := hv.form
  have hlen := hv.len
  go_enter Try.func42, Try.ntmps42
  go_wp2_with fail
  go_loopw [7] (fun i wr => ∃ (j : Nat), i = .int .i64 j ∧ j ≤ l.length ∧ ((l.take j).all fun o => !bigL o.l) = true ∧ Below w.heap.size w wr) (fun i _ => l.length - (intOf i).toNat)
  case atStart => exact ⟨0, rfl, Nat.zero_le _, rfl, Below.refl _ _⟩
  case round =>
    obtain ⟨j, rfl, hj, hall, hb⟩ := hrel
    have HALL := Lib.hid hall; clear hall
    have hsz := hb.size
    by_cases hlt : j < l.length
    · obtain ⟨ad, A1, c1, rfl, hadb, hl, _, hc0, hc1, hc2⟩ := (hv0.step hb).an_at (List.getElem?_eq_getElem hlt)
      have hstep : ((l.take (j + 1)).all fun o => !bigL o.l) = !bigL l[j].l := by rw [List.take_succ_eq_append_getElem hlt, List.all_append, HALL.out]; simp
      have hmem : l[j] ∈ l := List.getElem_mem hlt
      generalize l[j] = o at hl hc0 hc1 hc2 hstep hmem
      have E := ((Kn.from_ hb hsz).give Stable.list hl).push 73 #[.int .i64 o.d, .int .i64 o.i, .slice A1 o.l.length c1]
      obtain ⟨q1, f1, t1⟩ := E.rules m0
      by_cases hbig : bigL o.l = true
      · have hres : res = false := by
          rw [HRES.out]; unfold fewL
          have : (l.all fun o => !bigL o.l) = false := List.all_eq_false.2 ⟨o, hmem, by simp [hbig]⟩
          rw [this]; rfl
        have HB := Lib.hid hbig
        clear hbig hstep hmem
        subst hres
        clear HRES
        go_wp2_with fail
        refine (big13_any _ o.l _ _ (E.get m0)).mono ?_
        rw [HB.out]
        rintro e w2 ⟨rfl, hb2⟩
        go_wp2
        go_ret
        exact ⟨rfl, (E.step hb2).below⟩
      · have hbf := Bool.eq_false_iff.2 hbig
        rw [hbf] at hstep
        have HB := Lib.hid hbf
        have HST := Lib.hid hstep
        clear hbig hstep hmem hbf
        go_wp2_with fail
        refine (big13_any _ o.l _ _ (E.get m0)).mono ?_
        rw [HB.out]
        rintro e w2 ⟨rfl, hb2⟩
        replace E := E.step hb2
        go_wp2
        go_roundw
        case rel => exact ⟨j + 1, by go_num, by omega, HST.out, E.below⟩
        case measure => simp [intOf]; omega
    · obtain rfl : j = l.length := by omega
      go_wp2
      go_ret
      refine ⟨?_, hb⟩
      have e := HALL.out
      rw [List.take_length] at e
      rw [HRES.out]
      unfold fewL
      rw [e]
      simp
end Go.Proofs.Ytbjgemipmlimoaa
