/- The walk of quicksetlaw17.HostBlocks. -/
import Derived.Test.YtjahaflkdpmhpaaGreatReplayOps
import Derived.Test.YtjahaflkdpmhpaaGreatReplayB
import Derived.Test.YtjahaflkdpmhpaaGreatMapW
import Derived.Test.YtjahaflkdpmhpaaGreatHostGain
import Derived.Test.YtjahaflkdpmhpaaGreatSpanLaw
import Derived.Test.YtjahaflkdpmhpaaGreatMapJ
import Derived.Test.YtjahaflkdpmhpaaGreatRgnC
import Derived.Test.YtjahaflkdpmhpaaGreatFill17
import Derived.Test.YtjahaflkdpmhpaaGreatHostRecs
import Derived.Test.YtjahaflkdpmhpaaGreatHostRoom
import Derived.BigQuiet
namespace Go.Proofs.YtjahaflkdpmhpaaGreat
open Go.RowKit
theorem blockB_le (zs : List Zn) (m : List Ex) (b : Int) : (blockB zs m b).length ≤ 16 := by
 unfold blockB
 split
 · simp [zeros]
 · split
   · simp [zeros]
   · rw [List.length_take]; omega
theorem flat_le {f : Nat → List UInt8} : ∀ (n : Nat), (∀ i, (f i).length ≤ 16) → ((List.range n).flatMap f).length ≤ 16 * n
 | 0, _ => by simp
 | n + 1, h => by
   have ih := flat_le n h
   have := h n
   rw [List.range_succ, List.flatMap_append, List.length_append]
   simp only [List.flatMap_cons, List.flatMap_nil, List.append_nil]
   omega
def readH (zs : List Zn) (h : Ho) (lba n : Int) : List UInt8 × Int :=
 if ¬ someB lba n 256 then ([], 63) else if mineS h.s lba n = false then ([], 62) else bytesL zs h.m lba n
set_option maxRecDepth 100000 in
set_option maxHeartbeats 8000000 in
theorem hread_any (d : Zd) (A : Option Addr) (c : Nat) (h : Ho) (v : Value) (lba n : Int) (K K' : Nat → Prop) (w : World) (hd : IsL Rp.zone w K (.slice A d.z.length c) d.z) (hv : IsHo w K' v h) (hok : okD d) (hch : chainE 0 h.m) (hf : FitE d.z h.m) :
 Calls Tryz.prog 24 #[.agg #[.int .i64 d.cap, .int .i64 d.opn, .int .i64 d.act, .slice A d.z.length c], v, .int .i64 lba, .int .i64 n] w fun e w' =>
  ∃ Ao co, e = .returned (.tuple #[.slice Ao (readH d.z h lba n).1.length co, .int .i64 (readH d.z h lba n).2]) ∧ IsB w' (fun b => w.heap.size ≤ b) (.slice Ao (readH d.z h lba n).1.length co) (readH d.z h lba n).1 ∧ Below w.heap.size w w' := by
 have hv0 := hv
 obtain ⟨vo, vs, vb, vl, vm, rfl, h1, h2, h3, h4, h5⟩ := hv
 obtain ⟨Ao, co, rfl, -⟩ := h1.form
 obtain ⟨As, cs, rfl, -⟩ := h2.form
 obtain ⟨Ab, cb, rfl, -⟩ := isB_form h3
 obtain ⟨Al, cl, rfl, -⟩ := h4.form
 obtain ⟨Am, cm, rfl, -⟩ := h5.form
 have hso := fun W => hsome_any lba n 256 W (by decide)
 have hmi := fun vv W hW => hmine_any h vv lba n K' W hW
 have hby := fun W hz hm hb hn => rbytes_any d A c Am cm h.m lba n K K' W hz hm hok hch hb hn hf
 have E := ((Kn.start w).give Stable.list hd).give Stable.list h5 |>.give Stable.ho hv0 |>.push 28 #[.int .i64 d.cap, .int .i64 d.opn, .int .i64 d.act, .slice A d.z.length c] |>.push 42 (hoC h (.slice Ao h.own.length co) (.slice As h.s.length cs) (.slice Ab h.p.buf.length cb) (.slice Al h.p.l.length cl) (.slice Am h.m.length cm))
 rw [World.size_alloc] at E
 clear h1 h2 h3 h4 h5 hv0
 obtain ⟨r, hr⟩ : ∃ r, readH d.z h lba n = r := ⟨_, rfl⟩
 rw [hr]
 have HR := Lib.hid hr
 clear hr
 by_cases hs : someB lba n 256
 case neg =>
  have hre : r = ([], 63) := by rw [← HR.out]; unfold readH; rw [if_pos hs]
  subst hre
  rw [decide_eq_false hs] at hso
  go_enter Tryz.func24, Tryz.ntmps24
  go_wp2_with fail
  refine (hso _).mono ?_
  rintro e w2 ⟨rfl, hb2⟩
  replace E := E.step hb2
  go_wp2
  refine bodyPost_ret (v := .tuple #[.slice none 0 0, .int .i64 63]) (by simp [results, Tryz.results24, go_sem]) rfl ⟨none, 0, rfl, IsB.nil_ _ _, E.below⟩
 by_cases hm : mineS h.s lba n = false
 · have hre : r = ([], 62) := by rw [← HR.out]; unfold readH; rw [if_neg (fun h => h hs), if_pos hm]
   subst hre
   rw [decide_eq_true hs] at hso
   rw [hm] at hmi
   go_enter Tryz.func24, Tryz.ntmps24
   go_wp2_with fail
   refine (hso _).mono ?_
   rintro e w2 ⟨rfl, hb2⟩
   replace E := E.step hb2
   obtain ⟨q0, f0, t0⟩ := E.rules m0
   go_wp2_with fail
   refine (hmi _ _ (E.get m0)).mono ?_
   rintro e w3 ⟨rfl, hb3⟩
   replace E := E.step hb3
   clear q0 f0 t0
   go_wp2
   refine bodyPost_ret (v := .tuple #[.slice none 0 0, .int .i64 62]) (by simp [results, Tryz.results24, go_sem]) rfl ⟨none, 0, rfl, IsB.nil_ _ _, E.below⟩
 have hre : bytesL d.z h.m lba n = r := by rw [← HR.out]; unfold readH; rw [if_neg (fun h => h hs), if_neg hm]
 have hsm := hs
 unfold someB at hsm
 have hbk : blocksE lba n := by unfold blocksE; omega
 have hfit := bytesL_ok hch hbk (by omega) hf
 have hlen : r.1.length ≤ 140737488355328 ∧ r.2 = 0 := by
  rw [← hre, hfit]
  refine ⟨?_, rfl⟩
  have := flat_le (f := fun i => blockB d.z h.m (lba + (i : Nat))) n.toNat (fun i => blockB_le _ _ _)
  simp only
  omega
 have hb1 := fun W hz hm => hby W hz hm hbk (by omega)
 rw [hre] at hb1
 have hm2 : mineS h.s lba n = true := by simpa using hm
 rw [decide_eq_true hs] at hso
 rw [hm2] at hmi
 obtain ⟨rl, hrl⟩ : ∃ rl, r.1.length = rl := ⟨_, rfl⟩
 have h0 := hlen.2
 have hl47 := hlen.1
 rw [hrl] at hb1 hl47 ⊢
 rw [h0]
 have HRL := Lib.hid hrl
 clear hrl hby hre hfit hlen h0 hm hm2 hs hsm
 go_enter Tryz.func24, Tryz.ntmps24
 go_wp2_with fail
 refine (hso _).mono ?_
 rintro e w2 ⟨rfl, hb2⟩
 replace E := E.step hb2
 obtain ⟨q0, f0, t0⟩ := E.rules m0
 go_wp2_with fail
 refine (hmi _ _ (E.get m0)).mono ?_
 rintro e w3 ⟨rfl, hb3⟩
 replace E := E.step hb3
 clear q0 f0 t0 hso hmi
 obtain ⟨q0, f0, t0⟩ := E.rules m0
 obtain ⟨q1, f1, t1⟩ := E.rules m1
 go_wp2_with fail
 refine (hb1 _ (E.get m2) (E.get m1)).mono ?_
 rintro e w4 ⟨A4, c4, rfl, own4, hb4⟩
 have hB4 : IsB w4 (fun b => w3.heap.size ≤ b) (.slice A4 rl c4) r.1 := by
  have := HRL.out
  subst this
  exact IsB.of_own own4 hl47
 have hbe := E.below
 replace E := E.step hb4
 have hs3 := hbe.size
 clear q0 f0 t0 q1 f1 t1
 go_wp2
 refine bodyPost_ret (v := .tuple #[.slice A4 rl c4, .int .i64 0]) (by simp [results, Tryz.results24, go_sem]) rfl ⟨A4, c4, rfl, hB4.more (fun b hb => by omega), E.below⟩
def newH (id : Int) (mm : List Ex) (n : Int) : Ho := ⟨id, [], [], false, p0k, mm, n + 1, 0⟩
set_option maxRecDepth 100000 in
set_option maxHeartbeats 8000000 in
theorem hnew_any (id : Int) (d : Zd) (A : Option Addr) (c : Nat) (K : Nat → Prop) (w : World) (hid : 0 ≤ id ∧ id < 8) (hd : okD d) (hv : IsL Rp.zone w K (.slice A d.z.length c) d.z)
 (hgood : ∀ x ∈ entsU (foundL d.z) [] d.z.length, GoodX 10000 x) (hat : ∀ f ∈ foundL d.z, f.at_.length = f.l.length ∧ f.l.length ≤ 1000000000) (hnw : newF 0 (foundL d.z) ≤ 1000000000) (hn0 : 0 ≤ newF 0 (foundL d.z)) :
 Calls Tryz.prog 12 #[.int .i64 id, .agg #[.int .i64 d.cap, .int .i64 d.opn, .int .i64 d.act, .slice A d.z.length c]] w fun e w' => ∃ vh mm, e = .returned (.tuple #[vh, .int .i64 0]) ∧
  mapGo (entsU (foundL d.z) [] d.z.length) [] = (mm, 0) ∧ chainE 0 mm ∧ mm.length ≤ 10000 ∧ IsHo w' (fun b => w.heap.size ≤ b) vh (newH id mm (newF 0 (foundL d.z))) ∧ Below w.heap.size w w' := by
 have hck := fun W hW => zchk_any d (.slice A d.z.length c) K W hW
 have hc0 : chkD d = 0 := by unfold chkD; rw [if_pos hd]
 rw [hc0] at hck
 have hmp := fun W hW => rmap_any d A c [] none 0 K (fun _ => True) W hd hW (IsL.nil_ _ _) (by simp) hgood hat
 simp only [List.length_nil] at hmp
 have hne := fun W hW => rnewest_any d A c K W hW hd
 generalize newF 0 (foundL d.z) = nv at hne hnw hn0 ⊢
 have E := ((Kn.start w).give Stable.list hv).push 28 #[.int .i64 d.cap, .int .i64 d.opn, .int .i64 d.act, .slice A d.z.length c] |>.push 42 #[.int .i64 0, .slice none 0 0, .slice none 0 0, .bool false, .int .i64 0, .int .i64 0, .int .i64 0, .int .i64 0, .int .i64 0, .int .i64 0, .slice none 0 0, .slice none 0 0, .slice none 0 0, .int .i64 0, .int .i64 0]
 rw [World.size_alloc] at E
 have i0 := hid.1
 have i1 := hid.2
 clear hgood hat hc0 hid
 go_enter Tryz.func12, Tryz.ntmps12
 go_wp2_with fail
 refine (hck _ (E.get m0)).mono ?_
 rintro e w2 ⟨rfl, hb2⟩
 replace E := E.step hb2
 have hgm : w.heap.size + 1 < w2.heap.size := (E.at_ m0).lt
 clear hck hb2
 obtain ⟨q0, f0, t0⟩ := E.rules m1
 go_wp2_with fail
 refine (hmp _ (E.get m0)).mono ?_
 rintro e w3 ⟨mm, Am, cm, rfl, g1, g2, g3, hL, hb3⟩
 have G1 := Lib.hid g1; have G2 := Lib.hid g2
 have hbe := E.below.size
 replace E := (E.step hb3).give Stable.list hL
 clear hmp hb3 hL g1 g2 q0 f0 t0
 obtain ⟨q0, f0, t0⟩ := E.rules m1
 go_wp2_with fail
 refine (hne _ (E.get m1)).mono ?_
 rintro e w4 ⟨rfl, hb4⟩
 replace E := E.step hb4
 clear hne hb4 q0 f0 t0
 obtain ⟨q0, f0, t0⟩ := E.rules m0
 go_wp2
 refine at_st15 (K := fun W => bodyPost _ _ _ _ _ W) (E.at_ m0) _ _ _ _ _ _ _ _ _ _ _ _ _ _ _ ?_
 intro w5 hs5 ht5 hB5
 obtain ⟨q1, f1⟩ := hB5.rules
 have hm := (E.get m0).turned ht5 (fun b hb e => by have h1 := hb; have h2 : w.heap.size + 1 < w2.heap.size := hgm; omega)
 refine bodyPost_ret (v := .tuple #[.agg (hoC (newH id mm nv) (.slice none 0 0) (.slice none 0 0) (.slice none 0 0) (.slice none 0 0) (.slice Am mm.length cm)), .int .i64 0]) (by simp [results, Tryz.results12, go_sem, q1, newH, p0k]) rfl
  ⟨_, mm, rfl, G1.out, G2.out, g3, ⟨_, _, _, _, _, rfl, IsL.nil_ _ _, IsL.nil_ _ _, IsB.nil_ _ _, IsL.nil_ _ _, hm.more (fun b hb => by omega)⟩, Turned.upon E.below ht5 (by omega) (Nat.le_refl _)⟩
end Go.Proofs.YtjahaflkdpmhpaaGreat
namespace Go.Proofs.YtjahaflkdpmhpaaGreat
open Go.RowKit Go.WideMaps
def b7d : Zd := ⟨100, 1, 1, [z0]⟩
theorem b7_new : newD 1 100 1 1 = (b7d, 0) := rfl
theorem b7_ents : entsU (foundL b7d.z) [] 1 = [] := by kernel_rfl
theorem b7_found : foundL b7d.z = [f0d] := by kernel_rfl
def hB (s : List Sp) : Ho := ⟨4, [], s, false, p0k, [], 1, 0⟩
theorem hB_small {s : List Sp} (h : s.length ≤ 70) : SmallHo (hB s) := ⟨by simp [hB], by simp only [hB]; omega, by simp [hB, p0k], by simp [hB, p0k], by simp [hB]⟩
theorem hB_lose (s : List Sp) (a z : Int) : loseH (hB s) a z = hB (withoutS a z s).1 := rfl
theorem hB_give (s : List Sp) (a z ep : Int) : blocksH (hB s) a z ep = hB (givenS a z 4 ep s) := rfl
theorem SpSt.few {s : List Sp} {f : Int → Int} (h : SpSt 4 70 s f) : s.length ≤ 70 := by
 have := few_sp h.ok (fun x hx => h.low x hx) (show (0 : Int) ≤ 70 by decide)
 omega
def HoBox (wr : World) (g mb : Nat) (s : List Sp) : Prop := ∃ Ao co As cs Ab cb Al cl Am cm, Blk wr g 42 (hoC (hB s) (.slice Ao 0 co) (.slice As s.length cs) (.slice Ab 0 cb) (.slice Al 0 cl) (.slice Am 0 cm)) ∧
 IsHo wr (fun b => b ≠ g ∧ b ≠ mb) (.agg (hoC (hB s) (.slice Ao 0 co) (.slice As s.length cs) (.slice Ab 0 cb) (.slice Al 0 cl) (.slice Am 0 cm))) (hB s)
theorem ho_forms {w : World} {K : Nat → Prop} {v : Value} {s : List Sp} (h : IsHo w K v (hB s)) : ∃ Ao co As cs Ab cb Al cl Am cm, v = .agg (hoC (hB s) (.slice Ao 0 co) (.slice As s.length cs) (.slice Ab 0 cb) (.slice Al 0 cl) (.slice Am 0 cm)) := by
 obtain ⟨vo, vs, vb, vl, vm, rfl, a1, a2, a3, a4, a5⟩ := h
 obtain ⟨Ao, co, rfl, -⟩ := a1.form
 obtain ⟨As, cs, rfl, -⟩ := a2.form
 obtain ⟨Ab, cb, rfl, -⟩ := isB_form a3
 obtain ⟨Al, cl, rfl, -⟩ := a4.form
 obtain ⟨Am, cm, rfl, -⟩ := a5.form
 exact ⟨Ao, co, As, cs, Ab, cb, Al, cl, Am, cm, rfl⟩
theorem HoBox.step {w w' : World} {g mb : Nat} {s : List Sp} (h : HoBox w g mb s) (hb : Below w.heap.size w w') : HoBox w' g mb s := by
 obtain ⟨Ao, co, As, cs, Ab, cb, Al, cl, Am, cm, h1, h2⟩ := h
 exact ⟨Ao, co, As, cs, Ab, cb, Al, cl, Am, cm, h1.step hb, h2.step hb⟩
theorem ho_sp {w : World} {K : Nat → Prop} {h : Ho} {vo vs vb vl vm : Value} (hh : IsHo w K (.agg (hoC h vo vs vb vl vm)) h) : IsL Rp.sp w K vs h.s := by
 obtain ⟨_, _, _, _, _, e, _, a2, _⟩ := hh
 injection e with e
 have := congrArg (fun c => c[2]?) e
 simp only [List.getElem?_toArray, List.getElem?_cons_succ, List.getElem?_cons_zero, Option.some.injEq] at this
 rw [this]
 exact a2
structure BkB (w : World) (g mb : Nat) (Aa : Option Addr) (n ca : Nat) (l : List A3) (wr : World) (s : List Sp) : Prop where
 below : Below w.heap.size w wr
 args : IsL Rp.a3 wr (· < w.heap.size) (.slice Aa n ca) l
 box : HoBox wr g mb s
 g0 : w.heap.size ≤ g
 gm : g < mb
section
variable {w : World} {g mb : Nat} {Aa : Option Addr} {n ca : Nat} {l : List A3} {wr wr' : World} {s s' : List Sp}
theorem BkB.step (h : BkB w g mb Aa n ca l wr s) (hb : Below wr.heap.size wr wr') : BkB w g mb Aa n ca l wr' s :=
 ⟨h.below.trans (hb.mono h.below.size), h.args.step hb, h.box.step hb, h.g0, h.gm⟩
theorem BkB.map (h : BkB w g mb Aa n ca l wr s) (hg : wr.grownBy wr' (some mb)) : BkB w g mb Aa n ca l wr' s := by
 have ht : Turned wr wr' (fun b => b = mb) := ⟨hg.os, hg.tape, hg.output, hg.size, fun k hk hn => hg.block k hk (fun e => hn (by injection e))⟩
 have := h.g0; have := h.gm
 obtain ⟨Ao, co, As, cs, Ab, cb, Al, cl, Am, cm, h1, h2⟩ := h.box
 exact ⟨Turned.upon h.below ht (by omega) (Nat.le_refl _), h.args.turned ht (fun b hb e => by omega), ⟨Ao, co, As, cs, Ab, cb, Al, cl, Am, cm, h1.turned ht (by omega), h2.keep (ht.cells (K := fun b => b ≠ g ∧ b ≠ mb) fun b hb e => hb.2 e)⟩, h.g0, h.gm⟩
theorem BkB.stored {Ao Ab Al Am : Option Addr} {As : Option Addr} {co cs cb cl cm : Nat} (h : BkB w g mb Aa n ca l wr s) (hh : IsHo wr (fun b => b ≠ g ∧ b ≠ mb) (.agg (hoC (hB s') (.slice Ao 0 co) (.slice As s'.length cs) (.slice Ab 0 cb) (.slice Al 0 cl) (.slice Am 0 cm))) (hB s'))
 (ht : Turned wr wr' (fun b => b = g)) (hb : Blk wr' g 42 (hoC (hB s') (.slice Ao 0 co) (.slice As s'.length cs) (.slice Ab 0 cb) (.slice Al 0 cl) (.slice Am 0 cm))) : BkB w g mb Aa n ca l wr' s' := by
 have := h.g0; have := h.gm
 exact ⟨Turned.upon h.below ht (by omega) (Nat.le_refl _), h.args.turned ht (fun b hb e => by omega), ⟨Ao, co, As, cs, Ab, cb, Al, cl, Am, cm, hb, hh.keep (ht.cells (K := fun b => b ≠ g ∧ b ≠ mb) fun b hb e => hb.1 e)⟩, h.g0, h.gm⟩
end
structure BkI (w : World) (g mb : Nat) (Aa : Option Addr) (n ca : Nat) (l : List A3) (wr : World) (s : List Sp) (f : Int → Int) (nM : Nat) : Prop where
 b : BkB w g mb Aa n ca l wr s
 map : IntM Tryz.prog 3 3 .i64 wr mb nM f
 st : SpSt 4 70 s f
noncomputable def rgc_4_42 : Array Oper := opsOf 42 Tryz.f4
theorem rgc_4_42_0 : Region.noSelect rgc_4_42 = true := by kernel_rfl
theorem rgc_4_42_1 : okT rgc_4_42 [] 0 = true := by kernel_rfl
theorem rgc_4_42_2 : okT rgc_4_42 [0] 1 = true := by kernel_rfl
theorem rgc_4_42_3 : okT rgc_4_42 [1, 0] 2 = true := by kernel_rfl
theorem rgc_4_42_4 : okT rgc_4_42 [2, 1, 0] 3 = true := by kernel_rfl
theorem rgc_4_42_5 : okT rgc_4_42 [3, 2, 1, 0] 4 = true := by kernel_rfl
theorem rgc_4_42_6 : okT rgc_4_42 [4, 3, 2, 1, 0] 5 = true := by kernel_rfl
theorem rgc_4_42_7 : okT rgc_4_42 [5, 4, 3, 2, 1, 0] 6 = true := by kernel_rfl
theorem rgc_4_42_8 : okT rgc_4_42 [6, 5, 4, 3, 2, 1, 0] 7 = true := by kernel_rfl
theorem rgc_4_42_9 : okT rgc_4_42 [7, 6, 5, 4, 3, 2, 1, 0] 9 = true := by kernel_rfl
theorem rgc_4_42_10 : okT rgc_4_42 [9, 7, 6, 5, 4, 3, 2, 1, 0] 10 = true := by kernel_rfl
theorem rgc_4_42_11 : okT rgc_4_42 [10, 9, 7, 6, 5, 4, 3, 2, 1, 0] 11 = true := by kernel_rfl
theorem rgc_4_42_12 : okT rgc_4_42 [11, 10, 9, 7, 6, 5, 4, 3, 2, 1, 0] 12 = true := by kernel_rfl
theorem rgc_4_42_13 : okR rgc_4_42 [12, 11, 10, 9, 7, 6, 5, 4, 3, 2, 1, 0] = [8] := by kernel_rfl
theorem rgc_4_42_14 : okT rgc_4_42 (8 :: 12 :: 11 :: 10 :: 9 :: 7 :: 6 :: 5 :: 4 :: 3 :: 2 :: 1 :: 0 :: []) 13 = true := by kernel_rfl
theorem rgc_4_42_15 : okT rgc_4_42 (13 :: 8 :: 12 :: 11 :: 10 :: 9 :: 7 :: 6 :: 5 :: 4 :: 3 :: 2 :: 1 :: 0 :: []) 14 = true := by kernel_rfl
theorem rgc_4_42_16 : okT rgc_4_42 (14 :: 13 :: 8 :: 12 :: 11 :: 10 :: 9 :: 7 :: 6 :: 5 :: 4 :: 3 :: 2 :: 1 :: 0 :: []) 15 = true := by kernel_rfl
theorem rgc_4_42_17 : okT rgc_4_42 (15 :: 14 :: 13 :: 8 :: 12 :: 11 :: 10 :: 9 :: 7 :: 6 :: 5 :: 4 :: 3 :: 2 :: 1 :: 0 :: []) 16 = true := by kernel_rfl
theorem rgc_4_42_18 : okT rgc_4_42 (16 :: 15 :: 14 :: 13 :: 8 :: 12 :: 11 :: 10 :: 9 :: 7 :: 6 :: 5 :: 4 :: 3 :: 2 :: 1 :: 0 :: []) 17 = true := by kernel_rfl
theorem rgc_4_42_19 : okT rgc_4_42 (17 :: 16 :: 15 :: 14 :: 13 :: 8 :: 12 :: 11 :: 10 :: 9 :: 7 :: 6 :: 5 :: 4 :: 3 :: 2 :: 1 :: 0 :: []) 19 = true := by kernel_rfl
theorem rgc_4_42_20 : okT rgc_4_42 (19 :: 17 :: 16 :: 15 :: 14 :: 13 :: 8 :: 12 :: 11 :: 10 :: 9 :: 7 :: 6 :: 5 :: 4 :: 3 :: 2 :: 1 :: 0 :: []) 20 = true := by kernel_rfl
theorem rgc_4_42_21 : okT rgc_4_42 (20 :: 19 :: 17 :: 16 :: 15 :: 14 :: 13 :: 8 :: 12 :: 11 :: 10 :: 9 :: 7 :: 6 :: 5 :: 4 :: 3 :: 2 :: 1 :: 0 :: []) 21 = true := by kernel_rfl
theorem rgc_4_42_22 : okT rgc_4_42 (21 :: 20 :: 19 :: 17 :: 16 :: 15 :: 14 :: 13 :: 8 :: 12 :: 11 :: 10 :: 9 :: 7 :: 6 :: 5 :: 4 :: 3 :: 2 :: 1 :: 0 :: []) 22 = true := by kernel_rfl
theorem rgc_4_42_23 : okR rgc_4_42 (22 :: 21 :: 20 :: 19 :: 17 :: 16 :: 15 :: 14 :: 13 :: 8 :: 12 :: 11 :: 10 :: 9 :: 7 :: 6 :: 5 :: 4 :: 3 :: 2 :: 1 :: 0 :: []) = [18] := by kernel_rfl
theorem rgc_4_42_24 : okT rgc_4_42 (18 :: 22 :: 21 :: 20 :: 19 :: 17 :: 16 :: 15 :: 14 :: 13 :: 8 :: 12 :: 11 :: 10 :: 9 :: 7 :: 6 :: 5 :: 4 :: 3 :: 2 :: 1 :: 0 :: []) 23 = true := by kernel_rfl
theorem rgc_4_42_25 : okT rgc_4_42 (23 :: 18 :: 22 :: 21 :: 20 :: 19 :: 17 :: 16 :: 15 :: 14 :: 13 :: 8 :: 12 :: 11 :: 10 :: 9 :: 7 :: 6 :: 5 :: 4 :: 3 :: 2 :: 1 :: 0 :: []) 24 = true := by kernel_rfl
theorem rgc_4_42_26 : okT rgc_4_42 (24 :: 23 :: 18 :: 22 :: 21 :: 20 :: 19 :: 17 :: 16 :: 15 :: 14 :: 13 :: 8 :: 12 :: 11 :: 10 :: 9 :: 7 :: 6 :: 5 :: 4 :: 3 :: 2 :: 1 :: 0 :: []) 25 = true := by kernel_rfl
theorem rgc_4_42_27 : okT rgc_4_42 (25 :: 24 :: 23 :: 18 :: 22 :: 21 :: 20 :: 19 :: 17 :: 16 :: 15 :: 14 :: 13 :: 8 :: 12 :: 11 :: 10 :: 9 :: 7 :: 6 :: 5 :: 4 :: 3 :: 2 :: 1 :: 0 :: []) 26 = true := by kernel_rfl
theorem rgc_4_42_28 : okT rgc_4_42 (26 :: 25 :: 24 :: 23 :: 18 :: 22 :: 21 :: 20 :: 19 :: 17 :: 16 :: 15 :: 14 :: 13 :: 8 :: 12 :: 11 :: 10 :: 9 :: 7 :: 6 :: 5 :: 4 :: 3 :: 2 :: 1 :: 0 :: []) 27 = true := by kernel_rfl
theorem rgc_4_42_29 : okT rgc_4_42 (27 :: 26 :: 25 :: 24 :: 23 :: 18 :: 22 :: 21 :: 20 :: 19 :: 17 :: 16 :: 15 :: 14 :: 13 :: 8 :: 12 :: 11 :: 10 :: 9 :: 7 :: 6 :: 5 :: 4 :: 3 :: 2 :: 1 :: 0 :: []) 28 = true := by kernel_rfl
theorem rgc_4_42_30 : okT rgc_4_42 (28 :: 27 :: 26 :: 25 :: 24 :: 23 :: 18 :: 22 :: 21 :: 20 :: 19 :: 17 :: 16 :: 15 :: 14 :: 13 :: 8 :: 12 :: 11 :: 10 :: 9 :: 7 :: 6 :: 5 :: 4 :: 3 :: 2 :: 1 :: 0 :: []) 29 = true := by kernel_rfl
theorem rgc_4_42_31 : okT rgc_4_42 (29 :: 28 :: 27 :: 26 :: 25 :: 24 :: 23 :: 18 :: 22 :: 21 :: 20 :: 19 :: 17 :: 16 :: 15 :: 14 :: 13 :: 8 :: 12 :: 11 :: 10 :: 9 :: 7 :: 6 :: 5 :: 4 :: 3 :: 2 :: 1 :: 0 :: []) 30 = true := by kernel_rfl
theorem rgc_4_42_32 : okT rgc_4_42 (30 :: 29 :: 28 :: 27 :: 26 :: 25 :: 24 :: 23 :: 18 :: 22 :: 21 :: 20 :: 19 :: 17 :: 16 :: 15 :: 14 :: 13 :: 8 :: 12 :: 11 :: 10 :: 9 :: 7 :: 6 :: 5 :: 4 :: 3 :: 2 :: 1 :: 0 :: []) 31 = true := by kernel_rfl
theorem rgc_4_42_33 : okR rgc_4_42 (31 :: 30 :: 29 :: 28 :: 27 :: 26 :: 25 :: 24 :: 23 :: 18 :: 22 :: 21 :: 20 :: 19 :: 17 :: 16 :: 15 :: 14 :: 13 :: 8 :: 12 :: 11 :: 10 :: 9 :: 7 :: 6 :: 5 :: 4 :: 3 :: 2 :: 1 :: 0 :: []) = [] := by kernel_rfl
theorem rgc_4_42_34 : okT rgc_4_42 (23 :: 18 :: 22 :: 21 :: 20 :: 19 :: 17 :: 16 :: 15 :: 14 :: 13 :: 8 :: 12 :: 11 :: 10 :: 9 :: 7 :: 6 :: 5 :: 4 :: 3 :: 2 :: 1 :: 0 :: []) 24 = true := by kernel_rfl
theorem rgc_4_42_35 : okT rgc_4_42 (24 :: 23 :: 18 :: 22 :: 21 :: 20 :: 19 :: 17 :: 16 :: 15 :: 14 :: 13 :: 8 :: 12 :: 11 :: 10 :: 9 :: 7 :: 6 :: 5 :: 4 :: 3 :: 2 :: 1 :: 0 :: []) 25 = true := by kernel_rfl
theorem rgc_4_42_36 : okT rgc_4_42 (25 :: 24 :: 23 :: 18 :: 22 :: 21 :: 20 :: 19 :: 17 :: 16 :: 15 :: 14 :: 13 :: 8 :: 12 :: 11 :: 10 :: 9 :: 7 :: 6 :: 5 :: 4 :: 3 :: 2 :: 1 :: 0 :: []) 26 = true := by kernel_rfl
theorem rgc_4_42_37 : okT rgc_4_42 (26 :: 25 :: 24 :: 23 :: 18 :: 22 :: 21 :: 20 :: 19 :: 17 :: 16 :: 15 :: 14 :: 13 :: 8 :: 12 :: 11 :: 10 :: 9 :: 7 :: 6 :: 5 :: 4 :: 3 :: 2 :: 1 :: 0 :: []) 27 = true := by kernel_rfl
theorem rgc_4_42_38 : okT rgc_4_42 (27 :: 26 :: 25 :: 24 :: 23 :: 18 :: 22 :: 21 :: 20 :: 19 :: 17 :: 16 :: 15 :: 14 :: 13 :: 8 :: 12 :: 11 :: 10 :: 9 :: 7 :: 6 :: 5 :: 4 :: 3 :: 2 :: 1 :: 0 :: []) 28 = true := by kernel_rfl
theorem rgc_4_42_39 : okT rgc_4_42 (28 :: 27 :: 26 :: 25 :: 24 :: 23 :: 18 :: 22 :: 21 :: 20 :: 19 :: 17 :: 16 :: 15 :: 14 :: 13 :: 8 :: 12 :: 11 :: 10 :: 9 :: 7 :: 6 :: 5 :: 4 :: 3 :: 2 :: 1 :: 0 :: []) 29 = true := by kernel_rfl
theorem rgc_4_42_40 : okT rgc_4_42 (29 :: 28 :: 27 :: 26 :: 25 :: 24 :: 23 :: 18 :: 22 :: 21 :: 20 :: 19 :: 17 :: 16 :: 15 :: 14 :: 13 :: 8 :: 12 :: 11 :: 10 :: 9 :: 7 :: 6 :: 5 :: 4 :: 3 :: 2 :: 1 :: 0 :: []) 30 = true := by kernel_rfl
theorem rgc_4_42_41 : okT rgc_4_42 (30 :: 29 :: 28 :: 27 :: 26 :: 25 :: 24 :: 23 :: 18 :: 22 :: 21 :: 20 :: 19 :: 17 :: 16 :: 15 :: 14 :: 13 :: 8 :: 12 :: 11 :: 10 :: 9 :: 7 :: 6 :: 5 :: 4 :: 3 :: 2 :: 1 :: 0 :: []) 31 = true := by kernel_rfl
theorem rgc_4_42_42 : okR rgc_4_42 (31 :: 30 :: 29 :: 28 :: 27 :: 26 :: 25 :: 24 :: 23 :: 18 :: 22 :: 21 :: 20 :: 19 :: 17 :: 16 :: 15 :: 14 :: 13 :: 8 :: 12 :: 11 :: 10 :: 9 :: 7 :: 6 :: 5 :: 4 :: 3 :: 2 :: 1 :: 0 :: []) = [] := by kernel_rfl
set_option linter.unusedSimpArgs false in
set_option maxRecDepth 100000 in
set_option maxHeartbeats 8000000 in
theorem hostBlocks_all (hli : ∀ W : World, Calls Tryz.prog 10 #[] W fun e w' => e = .returned (.bool true) ∧ Below W.heap.size W w') (l : List A3) (v : Value) (w : World) (hv : IsL Rp.a3 w (· < w.heap.size) v l) :
 Calls Tryz.prog 4 #[v] w fun e w' => e = .returned (.bool true) ∧ Below w.heap.size w w' := by
 obtain ⟨Aa, ca, rfl, -⟩ := hv.form
 have hlen := hv.len
 have E := (Kn.start w).give Stable.list hv
 obtain ⟨n, hn⟩ : ∃ n, l.length = n := ⟨_, rfl⟩
 rw [hn] at E hlen ⊢
 have HN := Lib.hid hn
 clear hn hv
 have hnw := fun W => znewK_any 1 100 1 1 W
 rw [b7_new] at hnw
 have hne := fun A c K W h => hnew_any 4 b7d A c K W (by decide) (by decide) h (by rw [show b7d.z.length = 1 from rfl, b7_ents]; simp) (by rw [b7_found]; simp [f0d]) (by rw [b7_found]; decide) (by rw [b7_found]; decide)
 rw [show newF 0 (foundL b7d.z) = 0 by rw [b7_found]; rfl] at hne
 go_enter Tryz.func4, Tryz.ntmps4
 go_wp2_with fail
 refine (hli _).mono ?_
 rintro e w2 ⟨rfl, hb2⟩
 replace E := E.step hb2
 clear hb2 hli
 by_cases hle : n ≤ 60
 case neg =>
  have g1 : ¬ (n : Int) ≤ 60 := by omega
  clear hnw hne
  go_wp2
  go_ret
  exact ⟨rfl, E.below⟩
 have g1 : (n : Int) ≤ 60 := by omega
 go_upto_region 4 with fail
 go_wp2_with fail
 refine (hnw _).mono ?_
 rintro e w3 ⟨v, rfl, ⟨A, c, rfl, hz⟩, hb3⟩
 replace E := ((E.step hb3).give Stable.list hz.zlt) |>.push 28 #[.int .i64 b7d.cap, .int .i64 b7d.opn, .int .i64 b7d.act, .slice A b7d.z.length c]
 clear hnw hz hb3 g1
 go_upto_region 5 with fail
 generalize w3.alloc (.cells #[.int .i64 b7d.cap, .int .i64 b7d.opn, .int .i64 b7d.act, .slice A b7d.z.length c] 28) = w4 at E ⊢
 obtain ⟨q0, f0, t0⟩ := E.rules m0
 go_wp2_with fail
 refine (hne A c _ _ (E.get m0)).mono ?_
 rintro e w5 ⟨vh, mm, rfl, hmm, -, -, hh5, hb5⟩
 have hm0 : mm = [] := by
  rw [show b7d.z.length = 1 from rfl, b7_ents] at hmm
  injection hmm with hmm
  exact hmm.symm
 subst hm0
 have hs5 : w.heap.size ≤ w4.heap.size := E.below.size
 replace E := E.step hb5
 rw [show newH 4 [] 0 = hB [] from rfl] at hh5
 obtain ⟨Ao, co, As, cs, Ab, cb, Al, cl, Am, cm, rfl⟩ := ho_forms hh5
 clear q0 f0 t0 hne hmm
 have hmk := @run_makeMap Tryz.prog
 go_upto_region 10 with (refine st_ho_new rfl rfl (by first | rfl | simp [Act.eval, World.size_alloc]) rfl rfl (by rfl) (by rfl) ?_)
 have hinv : BkI w w5.heap.size (w5.heap.size + 1) Aa n ca l ((w5.alloc (.cells (hoC (hB []) (.slice Ao 0 co) (.slice As 0 cs) (.slice Ab 0 cb) (.slice Al 0 cl) (.slice Am 0 cm)) 42)).alloc (.map #[] 0)) [] (fun _ => 0) 0 := by
  have hb7 : Below w5.heap.size w5 ((w5.alloc (.cells (hoC (hB []) (.slice Ao 0 co) (.slice As 0 cs) (.slice Ab 0 cb) (.slice Al 0 cl) (.slice Am 0 cm)) 42)).alloc (.map #[] 0)) := ((Below.refl _ _).alloc (Nat.le_refl _) _).alloc (by rw [World.size_alloc]; omega) _
  have h5 := hb5.size
  refine ⟨⟨(E.step hb7).below, (E.step hb7).get m1, ⟨Ao, co, As, cs, Ab, cb, Al, cl, Am, cm, (Blk.new w5 _ _ rfl).alloc _, ?_⟩, by omega, by omega⟩, ?_, SpSt.nil 4 70⟩
  · exact (hh5.lt.step hb7).more fun b hb => by have := hb.2; omega
  · have := IntM.made (P := Tryz.prog) (k := 3) (e := 3) (q := .i64) (w5.alloc (.cells (hoC (hB []) (.slice Ao 0 co) (.slice As 0 cs) (.slice Ab 0 cb) (.slice Al 0 cl) (.slice Am 0 cm)) 42))
    rw [World.size_alloc] at this
    exact this
 have hg5 : w4.heap.size ≤ w5.heap.size := hb5.size
 generalize (w5.alloc (.cells (hoC (hB []) (.slice Ao 0 co) (.slice As 0 cs) (.slice Ab 0 cb) (.slice Al 0 cl) (.slice Am 0 cm)) 42)).alloc (.map #[] 0) = w7 at hinv ⊢
 obtain ⟨gB, hgB⟩ : ∃ g, w5.heap.size = g := ⟨_, rfl⟩
 obtain ⟨mb, hmb⟩ : ∃ m, gB + 1 = m := ⟨_, rfl⟩
 rw [hgB, hmb] at hinv
 rw [hgB, hmb]
 clear hmk hb5 hs5 hg5 hh5 E hgB hmb
 go_loopw [10, 11, 12, 13, 14, 15, 16, 17, 45] (fun x10 x11 x12 x13 x14 x15 x16 x17 x45 wr => ∃ (j : Nat) (s : List Sp) (f : Int → Int) (nM : Nat), x45 = .int .i64 j ∧ j ≤ n ∧ nM ≤ 20 * j ∧ BkI w gB mb Aa n ca l wr s f nM ∧ (∃ y, x10 = y) ∧ (∃ y, x11 = y) ∧ (∃ y, x12 = y) ∧ (∃ y, x13 = y) ∧ (∃ y, x14 = y) ∧ (∃ y, x15 = y) ∧ (∃ y, x16 = y) ∧ ∃ y, x17 = y) (fun _ _ _ _ _ _ _ _ x45 _ => n - (intOf x45).toNat)
 case atStart => exact ⟨0, [], _, 0, rfl, Nat.zero_le _, Nat.zero_le _, hinv, ⟨_, rfl⟩, ⟨_, rfl⟩, ⟨_, rfl⟩, ⟨_, rfl⟩, ⟨_, rfl⟩, ⟨_, rfl⟩, ⟨_, rfl⟩, _, rfl⟩
 case round =>
  clear hinv
  obtain ⟨j, s, f, nM, rfl, hj, hnM, hinv, ⟨y1, rfl⟩, ⟨y2, rfl⟩, ⟨y3, rfl⟩, ⟨y4, rfl⟩, ⟨y5, rfl⟩, ⟨y6, rfl⟩, ⟨y7, rfl⟩, y8, rfl⟩ := hrel
  by_cases hlt : j < n
  case pos =>
   have j1 : (j : Int) < (n : Int) := by omega
   have j0 : (0 : Int) ≤ (j : Int) := by omega
   have hlt' : j < l.length := by rw [HN.out]; exact hlt
   obtain ⟨ad, rfl, hKa, c0, c1, c2, r0, r1, r2⟩ := a3_at hinv.b.args (List.getElem?_eq_getElem hlt')
   generalize l[j] = e at c0 c1 c2 r0 r1 r2
   have b1 := Int.tmod_lt_of_pos e.a (show (0 : Int) < 50 by omega)
   have b2 := Int.lt_tmod_of_pos e.a (show (0 : Int) < 50 by omega)
   have b3 := Int.tmod_lt_of_pos e.b (show (0 : Int) < 20 by omega)
   have b4 := Int.lt_tmod_of_pos e.b (show (0 : Int) < 20 by omega)
   go_upto_region 15 with fail
   obtain ⟨a, ha⟩ : ∃ a, (e.a.tmod 50 + 50) % 50 = a := ⟨_, rfl⟩
   obtain ⟨z, hz⟩ : ∃ z, e.a.tmod 50 % 50 + 1 + e.b.tmod 20 % 20 = z := ⟨_, rfl⟩
   have haz : 0 ≤ a ∧ a < z ∧ z ≤ a + 20 ∧ z ≤ 70 ∧ a ≤ 49 := by omega
   rw [ha, hz]
   have hb1 : Below wr.heap.size wr (wr.alloc (.cells #[.int .i64 e.a, .int .i64 e.b, .int .i64 e.c] 64)) := (Below.refl _ _).alloc (Nat.le_refl _) _
   have hB1 := hinv.b.step hb1
   have hM1 := hinv.map.step hb1
   have hst := hinv.st
   clear hinv ha hz b1 b2 b3 b4 c0 c1 c2 r0 r1 hKa hb1
   generalize wr.alloc (.cells #[.int .i64 e.a, .int .i64 e.b, .int .i64 e.c] 64) = wa at hB1 hM1 ⊢
   obtain ⟨Ao1, co1, As1, cs1, Ab1, cb1, Al1, cl1, Am1, cm1, hblk, hho⟩ := hB1.box
   have t0 := hblk.lt
   have tm := hM1.lt
   have hsm := hst.few
   by_cases hep : e.c < 1
   · go_upto_region 16 with fail
     go_wp2_with (refine ld_ho hblk rfl rfl rfl rfl ?_)
     refine (hlose_any (hB s) _ a z _ _ hho.lt (fun b hb => hb.2) (hB_small hsm) haz.2.1).mono ?_
     rintro e1 w8 ⟨v8, rfl, hh8, hb8⟩
     rw [hB_lose] at hh8
     obtain ⟨Ao8, co8, As8, cs8, Ab8, cb8, Al8, cl8, Am8, cm8, rfl⟩ := ho_forms hh8
     have hB8 := hB1.step hb8
     have hM8 := hM1.step hb8
     have hh9 := hh8.more (K' := fun b => b ≠ gB ∧ b ≠ mb) (fun b hb => by rcases hb with hb | hb; exact ⟨by omega, by omega⟩; exact hb.1)
     have t8 := hb8.size
     have hblk8 := hblk.step hb8
     clear hblk hho hB1 hM1
     go_upto_region 17 with (refine st_ho hblk8 rfl rfl rfl rfl rfl (by rfl) (by rfl) ?_; intro w9 hs9 ht9 hblk9)
     have hB9 := hB8.stored hh9 ht9 hblk9
     have hM9 := hM8.turned ht9 (by have := hB8.gm; omega)
     have hst9 := hst.lose haz.2.1
     clear hst t0 tm hh8 hb8 hB8 hM8 hh9 t8 hs9 ht9 hblk9 hblk8
     go_upto_region 18 with fail
     go_loopw [14] (fun x14 wi => ∃ (q : Int) (g : Int → Int), x14 = .int .i64 q ∧ a ≤ q ∧ q ≤ z ∧ BkB w gB mb (some ad) n ca l wi (withoutS a z s).1 ∧ IntM Tryz.prog 3 3 .i64 wi mb nM g ∧ Hid (∀ k, g k = if a ≤ k ∧ k < q then 0 else f k)) (fun x14 _ => (z - intOf x14).toNat)
     case atStart => exact ⟨a, f, rfl, by omega, by omega, hB9, hM9, Lib.hid fun k => (if_neg (by omega)).symm⟩
     case round =>
      clear hB9 hM9
      obtain ⟨q, g, rfl, hq1, hq2, hB, hM, HG⟩ := hrel
      by_cases hqz : q < z
      case neg =>
       obtain rfl : q = z := by omega
       have hst' : SpSt 4 70 (withoutS a q s).1 g := ⟨hst9.ok, hst9.low, fun k => (hst9.ep k).trans (HG.out k).symm⟩
       go_wp2_with fail
       go_roundw
       case rel => exact ⟨j + 1, (withoutS a q s).1, g, nM, by go_num, by omega, by omega, ⟨hB, hM, hst'⟩, ⟨_, rfl⟩, ⟨_, rfl⟩, ⟨_, rfl⟩, ⟨_, rfl⟩, ⟨_, rfl⟩, ⟨_, rfl⟩, ⟨_, rfl⟩, _, rfl⟩
       case measure => simp [intOf]; omega
      go_wp2_with (refine wpList_delJ rfl _ _ _ _ rfl 3 .i64 Tryz.underlying3 Tryz.underlying63 mb nM g rfl hM q rfl (by omega) ?_; intro w' hM' hg')
      go_roundw
      case rel => exact ⟨q + 1, _, by go_num, by omega, by omega, hB.map hg', hM', Lib.hid fun k => by rw [HG.out]; split <;> split <;> (try split) <;> first | rfl | omega⟩
      case measure => simp [intOf]; omega
   · go_upto_region 21 with fail
     go_wp2_with (refine ld_ho hblk rfl rfl rfl rfl ?_)
     refine (hblocks_any (hB s) _ a z e.c _ _ hho.lt (fun b hb => hb.2) (hB_small hsm) (by omega) (by omega) (by show s.length ≤ _; omega)).mono ?_
     rintro e1 w8 ⟨v8, rfl, hh8, hb8⟩
     rw [hB_give] at hh8
     obtain ⟨Ao8, co8, As8, cs8, Ab8, cb8, Al8, cl8, Am8, cm8, rfl⟩ := ho_forms hh8
     have hB8 := hB1.step hb8
     have hM8 := hM1.step hb8
     have hh9 := hh8.more (K' := fun b => b ≠ gB ∧ b ≠ mb) (fun b hb => by rcases hb with hb | hb; exact ⟨by omega, by omega⟩; exact hb.1)
     have t8 := hb8.size
     have hblk8 := hblk.step hb8
     clear hB1 hM1 hblk hho hh8 hb8
     have hBlt := hblk8.lt
     have hbw : Below w8.heap.size w8 (w8.alloc (.cells (hoC (hB (givenS a z 4 e.c s)) (.slice Ao8 0 co8) (.slice As8 (givenS a z 4 e.c s).length cs8) (.slice Ab8 0 cb8) (.slice Al8 0 cl8) (.slice Am8 0 cm8)) 42)) := (Below.refl _ _).alloc (Nat.le_refl _) _
     have hN := Blk.new w8 42 (hoC (hB (givenS a z 4 e.c s)) (.slice Ao8 0 co8) (.slice As8 (givenS a z 4 e.c s).length cs8) (.slice Ab8 0 cb8) (.slice Al8 0 cl8) (.slice Am8 0 cm8)) rfl
     replace hblk8 := hblk8.step hbw
     replace hh9 := hh9.step hbw
     replace hB8 := hB8.step hbw
     replace hM8 := hM8.step hbw
     go_upto_region 22 with (refine st_ho_new rfl rfl (by first | rfl | simp [Act.eval, World.size_alloc]) rfl rfl (by rfl) (by rfl) ?_)
     generalize w8.alloc (.cells (hoC (hB (givenS a z 4 e.c s)) (.slice Ao8 0 co8) (.slice As8 (givenS a z 4 e.c s).length cs8) (.slice Ab8 0 cb8) (.slice Al8 0 cl8) (.slice Am8 0 cm8)) 42) = wb at hblk8 hh9 hB8 hM8 hN hbw ⊢
     have t1 := hN.lt
     have t2 := hblk8.lt
     go_upto_region 25 with (first | (refine ld_ho hN rfl rfl rfl rfl ?_) | (refine st_ho hblk8 rfl rfl rfl rfl rfl (by rfl) (by rfl) ?_; intro w9 hs9 ht9 hblk9))
     have hB9 := hB8.stored hh9 ht9 hblk9
     have hM9 := hM8.turned ht9 (by have := hB8.gm; omega)
     have hst9 := hst.give (ep := e.c) ⟨haz.1, haz.2.1, by omega⟩ (by omega)
     clear hst t0 t1 t2 tm hB8 hM8 hh9 t8 hs9 ht9 hblk9 hblk8 hN hbw hBlt
     go_upto_region 26 with fail
     go_loopw [17] (fun x17 wi => ∃ (q : Int) (g : Int → Int) (nQ : Nat), x17 = .int .i64 q ∧ a ≤ q ∧ q ≤ z ∧ (nQ : Int) = nM + (q - a) ∧ BkB w gB mb (some ad) n ca l wi (givenS a z 4 e.c s) ∧ IntM Tryz.prog 3 3 .i64 wi mb nQ g ∧ Hid (∀ k, g k = if a ≤ k ∧ k < q then e.c else f k)) (fun x17 _ => (z - intOf x17).toNat)
     case atStart => exact ⟨a, f, nM, rfl, by omega, by omega, by omega, hB9, hM9, Lib.hid fun k => (if_neg (by omega)).symm⟩
     case round =>
      clear hB9 hM9
      obtain ⟨q, g, nQ, rfl, hq1, hq2, hnQ, hB, hM, HG⟩ := hrel
      by_cases hqz : q < z
      case neg =>
       obtain rfl : q = z := by omega
       have hst' : SpSt 4 70 (givenS a q 4 e.c s) g := ⟨hst9.ok, hst9.low, fun k => (hst9.ep k).trans (HG.out k).symm⟩
       go_wp2_with fail
       go_roundw
       case rel => exact ⟨j + 1, (givenS a q 4 e.c s), g, nQ, by go_num, by omega, by omega, ⟨hB, hM, hst'⟩, ⟨_, rfl⟩, ⟨_, rfl⟩, ⟨_, rfl⟩, ⟨_, rfl⟩, ⟨_, rfl⟩, ⟨_, rfl⟩, ⟨_, rfl⟩, _, rfl⟩
       case measure => simp [intOf]; omega
      have hmx : nQ < maxLen := by unfold maxLen; omega
      go_wp2_with (refine wpList_setJ rfl _ _ _ _ rfl 3 3 .i64 Tryz.underlying3 Tryz.underlying63 Tryz.underlying3 mb nQ g rfl hM hmx q e.c rfl rfl (by omega) (by simp [Lit.wf, IntKind.min, IntKind.max, IntKind.signed, IntKind.bits]; omega) ?_; intro w' hM' hg')
      go_roundw
      case rel => exact ⟨q + 1, _, nQ + 1, by go_num, by omega, by omega, by omega, hB.map hg', hM', Lib.hid fun k => by rw [HG.out]; split <;> split <;> (try split) <;> first | rfl | omega⟩
      case measure => simp [intOf]; omega
  case neg =>
   obtain rfl : j = n := by omega
   obtain ⟨hbB, hM, hst⟩ := hinv
   have hsm := hst.few
   obtain ⟨wo, rfl⟩ : ∃ wo : World, wo = wr := ⟨_, rfl⟩
   go_upto_region 31 with fail
   go_loopw [18, 19, 20, 21, 99] (fun x18 x19 x20 x21 x99 wr => ∃ q : Nat, x99 = .int .i64 q ∧ q ≤ 80 ∧ Below wo.heap.size wo wr ∧ (∃ y, x18 = y) ∧ (∃ y, x19 = y) ∧ (∃ y, x20 = y) ∧ ∃ y, x21 = y) (fun _ _ _ _ x99 _ => 80 - (intOf x99).toNat)
   case atStart => exact ⟨0, rfl, by omega, Below.refl _ _, ⟨_, rfl⟩, ⟨_, rfl⟩, ⟨_, rfl⟩, _, rfl⟩
   case round =>
    obtain ⟨q, rfl, hq, hb, ⟨y1, rfl⟩, ⟨y2, rfl⟩, ⟨y3, rfl⟩, y4, rfl⟩ := hrel
    have hbQ := hbB.step hb
    have hMq := hM.step hb
    by_cases hq8 : q < 80
    case neg =>
     obtain rfl : q = 80 := by omega
     clear hM hMq
     go_wp2
     go_ret
     exact ⟨rfl, hbQ.below⟩
    have k1 : (q : Int) < 80 := by omega
    have k0 : (0 : Int) ≤ (q : Int) := by omega
    obtain ⟨Ao1, co1, As1, cs1, Ab1, cb1, Al1, cl1, Am1, cm1, hblk, hho⟩ := hbQ.box
    have hsp : IsL Rp.sp wr (fun b => b ≠ gB ∧ b ≠ mb) (.slice As1 s.length cs1) s := ho_sp hho
    have E := ((Kn.from_ hbQ.below hbQ.below.size).know hblk) |>.give Stable.list hsp |>.give Stable.ho hho |>.give Stable.intM hMq
    clear hM hMq hbB hblk hho hsp
    obtain ⟨q0, f0, t0⟩ := E.rules m0
    obtain ⟨wq, rfl⟩ : ∃ wq : World, wq = wr := ⟨_, rfl⟩
    obtain ⟨m, hm⟩ : ∃ m, s.length = m := ⟨_, rfl⟩
    rw [hm] at E hsm q0
    have HM := Lib.hid hm
    clear hm
    go_upto_region 35 with fail
    go_loopw [19, 20, 21, 105] (fun x19 x20 x21 x105 wr => ∃ k : Nat, x105 = .int .i64 k ∧ k ≤ m ∧ x19 = .int .i64 (epS (s.take k) q) ∧ Below wq.heap.size wq wr ∧ (∃ y, x20 = y) ∧ ∃ y, x21 = y) (fun _ _ _ x105 _ => m - (intOf x105).toNat)
    case atStart => exact ⟨0, rfl, by omega, rfl, Below.refl _ _, ⟨_, rfl⟩, _, rfl⟩
    case round =>
     obtain ⟨k, rfl, hk, rfl, hbk, ⟨u1, rfl⟩, u2, rfl⟩ := hrel
     have F := E.step hbk
     by_cases hkm : k < m
     case neg =>
      obtain rfl : k = m := by omega
      rw [List.take_of_length_le (by rw [HM.out]; exact Nat.le_refl _), hst.ep]
      have hm1 := fun v K W h => hmine_any (hB s) v q 1 K W h
      have hm2 := fun v K W h => hmine_any (hB s) v q 2 K W h
      rw [show mineS (hB s).s q 1 = decide (0 < f q) by rw [← hst.ep]; exact mine_one hst.ok (by omega)] at hm1
      rw [show mineS (hB s).s q 2 = (decide (0 < f q) && decide (0 < f ((q : Int) + 1))) by rw [← hst.ep, ← hst.ep]; exact mine_two hst.ok (by omega)] at hm2
      have hlk : ∀ W : World, Below wr.heap.size wr W → (∀ o, W.cell? ⟨gB, o, none⟩ = (hoC (hB s) (.slice Ao1 0 co1) (.slice As1 k cs1) (.slice Ab1 0 cb1) (.slice Al1 0 cl1) (.slice Am1 0 cm1))[o]?) ∧
       (Instr.lookup 63 (.map (some mb)) (.int .i64 q) false).run Tryz.prog W = .ok (.int .i64 (f q)) W ∧ (Instr.lookup 63 (.map (some mb)) (.int .i64 ((q : Int) + 1)) false).run Tryz.prog W = .ok (.int .i64 (f ((q : Int) + 1))) W := fun W h => by
       have G := F.step h
       have hM : IntM Tryz.prog 3 3 .i64 W mb nM f := G.get m0
       exact ⟨(G.rules m0).1, hM.look Tryz.underlying3 Tryz.underlying63 Tryz.underlying3 (by kernel_rfl) _ (by omega), hM.look Tryz.underlying3 Tryz.underlying63 Tryz.underlying3 (by kernel_rfl) _ (by omega)⟩
      have HK := Lib.hid hlk
      have hwq : IntKind.i64.wrap ((q : Int) + 1) = (q : Int) + 1 := IntWalk.i64_in _ (by omega)
      clear hlk E hsm hbQ
      go_upto_region 42 with fail
      obtain ⟨wz, rfl⟩ : ∃ wz : World, wz = wr := ⟨_, rfl⟩
      go_cut [173] (fun x173 wx => x173 = .bool false ∧ Below wz.heap.size wz wx)
      case first =>
       have hbx : Below wz.heap.size wz wz.drew := (Below.refl _ _).drew
       refine wpC_start (rgc_4_42) (by kernel_rfl) (S := fun W => (∀ o, W.cell? ⟨gB, o, none⟩ = (hoC (hB s) (.slice Ao1 0 co1) (.slice As1 k cs1) (.slice Ab1 0 cb1) (.slice Al1 0 cl1) (.slice Am1 0 cm1))[o]?) ∧ (Instr.lookup 63 (.map (some mb)) (.int .i64 q) false).run Tryz.prog W = .ok (.int .i64 (f q)) W ∧ (Instr.lookup 63 (.map (some mb)) (.int .i64 ((q : Int) + 1)) false).run Tryz.prog W = .ok (.int .i64 (f ((q : Int) + 1))) W) (by kernel_rfl) (HK.out _ hbx) (fun hE hHeld => ?_)
       generalize wz.drew = wx at hbx hHeld ⊢
       refine wC 0 142 hE rgc_4_42_0 rgc_4_42_1 ?_
       refine wC 1 143 hE rgc_4_42_0 rgc_4_42_2 ?_
       refine wC 2 144 hE rgc_4_42_0 rgc_4_42_3 ?_
       refine wC 3 145 hE rgc_4_42_0 rgc_4_42_4 ?_
       refine wC 4 146 hE rgc_4_42_0 rgc_4_42_5 ?_
       refine wC 5 147 hE rgc_4_42_0 rgc_4_42_6 ?_
       refine wC 6 148 hE rgc_4_42_0 rgc_4_42_7 ?_ (hy := by intro w hSw; (try dsimp only at hSw); refine Eq.trans (run_ldho hSw.1 rfl rfl rfl) ?_; with_reducible rfl)
       refine wC 7 149 hE rgc_4_42_0 rgc_4_42_8 ?_
       refine wC 9 151 hE rgc_4_42_0 rgc_4_42_9 ?_
       refine wC 10 152 hE rgc_4_42_0 rgc_4_42_10 ?_
       refine wC 11 153 hE rgc_4_42_0 rgc_4_42_11 ?_
       refine wC 12 154 hE rgc_4_42_0 rgc_4_42_12 ?_
       refine wpC_ready _ hE rgc_4_42_13 (by simp) ?_
       refine AllReadyH.cons (o := ⟨some 150, _, _, _, _, _⟩) rfl (fun K hK => ?_) AllReadyH.nil
       go_simp
       refine (hm1 _ _ _ ((F.step hbx).get m1)).mono ?_
       rintro e wx ⟨rfl, hb25⟩
       replace hbx := hbx.trans (hb25.mono hbx.size)
       go_wp2_with fail
       refine hK.out _ _ (HK.out _ hbx) (fun hHeld => ?_)
       clear hK K
       try simp only [Act.put, List.setIfInBounds_toArray, List.set_cons_zero, List.set_cons_succ]
       refine wC 13 155 hE rgc_4_42_0 rgc_4_42_14 ?_
       refine wC 14 156 hE rgc_4_42_0 rgc_4_42_15 ?_
       refine wC 15 157 hE rgc_4_42_0 rgc_4_42_16 ?_
       refine wC 16 158 hE rgc_4_42_0 rgc_4_42_17 ?_ (hy := by intro w hSw; (try dsimp only at hSw); refine Eq.trans (run_ldho hSw.1 rfl rfl rfl) ?_; with_reducible rfl)
       refine wC 17 159 hE rgc_4_42_0 rgc_4_42_18 ?_
       refine wC 19 161 hE rgc_4_42_0 rgc_4_42_19 ?_
       refine wC 20 162 hE rgc_4_42_0 rgc_4_42_20 ?_
       refine wC 21 163 hE rgc_4_42_0 rgc_4_42_21 ?_
       refine wC 22 164 hE rgc_4_42_0 rgc_4_42_22 ?_
       refine wpC_ready _ hE rgc_4_42_23 (by simp) ?_
       refine AllReadyH.cons (o := ⟨some 160, _, _, _, _, _⟩) rfl (fun K hK => ?_) AllReadyH.nil
       go_simp
       refine (hm2 _ _ _ ((F.step hbx).get m1)).mono ?_
       rintro e wx ⟨rfl, hb25⟩
       replace hbx := hbx.trans (hb25.mono hbx.size)
       go_wp2_with fail
       refine hK.out _ _ (HK.out _ hbx) (fun hHeld => ?_)
       clear hK K
       try simp only [Act.put, List.setIfInBounds_toArray, List.set_cons_zero, List.set_cons_succ]
       refine wC 23 165 hE rgc_4_42_0 rgc_4_42_24 ?_
       by_cases hp : 0 < f q
       · have hd : decide (0 < f q) = true := decide_eq_true hp
         simp only [hd, Bool.true_and]
         refine wC 24 166 hE rgc_4_42_0 rgc_4_42_25 ?_
         refine wC 25 167 hE rgc_4_42_0 rgc_4_42_26 ?_
         refine wC 26 168 hE rgc_4_42_0 rgc_4_42_27 ?_
         refine wC 27 169 hE rgc_4_42_0 rgc_4_42_28 ?_
         refine wC 28 170 hE rgc_4_42_0 rgc_4_42_29 ?_
         refine wC 29 171 hE rgc_4_42_0 rgc_4_42_30 ?_
         refine wC 30 172 hE rgc_4_42_0 rgc_4_42_31 ?_
         refine wC 31 173 hE rgc_4_42_0 rgc_4_42_32 ?_
         refine wpC_done _ hE rgc_4_42_33 ?_ _
         go_wp2_with fail
         go_meet
         exact ⟨by simp [go_sem, hd], hbx⟩
       · have hd : decide (0 < f q) = false := decide_eq_false hp
         simp only [hd, Bool.false_and]
         refine wCU 24 166 hE rgc_4_42_0 rgc_4_42_34 ?_
         refine wCU 25 167 hE rgc_4_42_0 rgc_4_42_35 ?_
         refine wCU 26 168 hE rgc_4_42_0 rgc_4_42_36 ?_
         refine wCU 27 169 hE rgc_4_42_0 rgc_4_42_37 ?_
         refine wCU 28 170 hE rgc_4_42_0 rgc_4_42_38 ?_
         refine wC 29 171 hE rgc_4_42_0 rgc_4_42_39 ?_
         refine wC 30 172 hE rgc_4_42_0 rgc_4_42_40 ?_
         refine wC 31 173 hE rgc_4_42_0 rgc_4_42_41 ?_
         refine wpC_done _ hE rgc_4_42_42 ?_ _
         go_wp2_with fail
         go_meet
         exact ⟨by simp [go_sem, hd], hbx⟩
      case rest =>
      obtain ⟨rfl, hbx⟩ := hcut
      clear hm1 hm2 HK
      go_wp2
      go_roundw
      case rel => exact ⟨q + 1, by go_num, by omega, hb.trans ((hbk.trans (hbx.mono hbk.size)).mono hb.size), ⟨_, rfl⟩, ⟨_, rfl⟩, ⟨_, rfl⟩, _, rfl⟩
      case measure => simp [intOf]; omega
     have hks : k < s.length := by rw [HM.out]; exact hkm
     have i1 : (k : Int) < (m : Int) := by omega
     have i0 : (0 : Int) ≤ (k : Int) := by omega
     obtain ⟨ad, rfl, hKa, c0, c1, c2, c3⟩ := sp_at (F.get m2) (List.getElem?_eq_getElem hks)
     have hown := hst.ok.1 s[k] (List.getElem_mem hks)
     have HT := Lib.hid (epS_take (q : Int) hks)
     have hprev : ∀ p, k = p + 1 → ∃ y : Sp, s[p]? = some y ∧ y.till ≤ (s[k]).from_ := fun p hp => by
      have hps : p < s.length := by omega
      exact ⟨s[p], List.getElem?_eq_getElem hps, List.pairwise_iff_getElem.1 hst.ok.2 p k hps hks (by omega)⟩
     generalize s[k] = x at c0 c1 c2 c3 hown HT hprev
     rw [hown.1] at c2
     go_upto_region 37 with fail
     have G := F.push 67 #[.int .i64 x.from_, .int .i64 x.till, .int .i64 4, .int .i64 x.epoch]
     have hbn : Below wq.heap.size wq (wr.alloc (.cells #[.int .i64 x.from_, .int .i64 x.till, .int .i64 4, .int .i64 x.epoch] 67)) := hbk.alloc hbk.size _
     clear hbk F
     obtain ⟨wz, rfl⟩ : ∃ wz : World, wz = wr := ⟨_, rfl⟩
     generalize wz.alloc (.cells #[.int .i64 x.from_, .int .i64 x.till, .int .i64 4, .int .i64 x.epoch] 67) = wn at G hbn ⊢
     generalize wz.heap.size = gs at G ⊢
     go_cut [128] (fun x128 wx => x128 = .bool false ∧ Below wn.heap.size wn wx)
     case first =>
      obtain ⟨q0, f0, t0⟩ := G.rules m0
      obtain ⟨q1, f1, t1⟩ := G.rules m1
      have hbw := Below.refl wn.heap.size wn
      rcases k with _ | p
      · go_quiet (fail)
        go_wp2
        go_meet
        exact ⟨by simp [go_sem], below_drewN hbw _⟩
      · obtain ⟨y, hy1, hy2⟩ := hprev p rfl
        obtain ⟨ad', e1, hKp, d0, d1, d2, d3⟩ := sp_at (G.get m2) hy1
        injection e1 with e1
        subst e1
        have hp1 : (p : Int) < (m : Int) := by omega
        have hp0 : (0 : Int) ≤ (p : Int) := by omega
        have hp2 : (0 : Int) < (p : Int) + 1 := by omega
        have hp3 : p < m := by omega
        have hp4 : ¬ x.from_ < y.till := by omega
        clear c0 c1 c2 c3 i1 i0 hprev
        go_quiet (fail)
        go_wp2
        go_meet
        exact ⟨by simp [go_sem], below_drewN hbw _⟩
     case rest =>
     obtain ⟨rfl, hbx⟩ := hcut
     replace G := G.step hbx
     replace hbn := hbn.trans (hbx.mono hbn.size)
     obtain ⟨q0, f0, t0⟩ := G.rules m0
     clear hprev c0 c1 c2 c3 E hbx
     go_upto_region 39 with fail
     by_cases hin : x.from_ ≤ q ∧ (q : Int) < x.till
     · have h1 := hin.1; have h2 := hin.2
       have HIN := Lib.hid hin
       clear hin
       go_wp2_with fail
       go_roundw
       case rel => exact ⟨k + 1, by go_num, by omega, by rw [HT.out, if_pos (show inS x q from HIN.out)], hbn, ⟨_, rfl⟩, _, rfl⟩
       case measure => simp [intOf]; omega
     · have HIN := Lib.hid hin
       by_cases h1 : x.from_ ≤ q
       · have h2 : ¬ (q : Int) < x.till := fun h => hin ⟨h1, h⟩
         clear hin
         go_wp2_with fail
         go_roundw
         case rel => exact ⟨k + 1, by go_num, by omega, by rw [HT.out, if_neg (show ¬ inS x q from HIN.out)], hbn, ⟨_, rfl⟩, _, rfl⟩
         case measure => simp [intOf]; omega
       · clear hin
         go_wp2_with fail
         go_roundw
         case rel => exact ⟨k + 1, by go_num, by omega, by rw [HT.out, if_neg (show ¬ inS x q from HIN.out)], hbn, ⟨_, rfl⟩, _, rfl⟩
         case measure => simp [intOf]; omega
end Go.Proofs.YtjahaflkdpmhpaaGreat
