/- A part of the proof. -/
import Derived.Test.YtjahaflkdpmhpaaGreatHostCommit
import Derived.Test.YtjahaflkdpmhpaaGreatHostRead
set_option linter.unusedSimpArgs false
set_option maxHeartbeats 64000000
set_option maxRecDepth 100000
namespace Go.Proofs.YtjahaflkdpmhpaaGreat
open Go.RowKit
def l7T : List UInt8 := List.replicate 16 7
def l7d : Zd := ⟨400, 2, 2, [z0, z0]⟩
def l7h : Ho := ⟨3, [], [⟨0, 100, 3, 1⟩], false, p0k, [], 1, 0⟩
def l7o (lba : Int) : Io := ⟨1, lba, 1, l7T⟩
def l7e : Zd := ⟨400, 2, 2, [z0, ⟨0, 2, []⟩]⟩
def l7g : Ho := ⟨3, [⟨1, 3, 2⟩], [⟨0, 100, 3, 1⟩], false, p0k, [], 1, 0⟩
def l7p : Zd × Ho × List Int × Int := putH l7e l7g [recI 1 (l7o 5)]
def l7c : Zd × Ho × Int := commitH l7e l7g [l7o 5]
theorem l7_new : newD 2 400 2 2 = (l7d, 0) := rfl
theorem l7_ents : entsU (foundL l7d.z) [] 2 = [] := by kernel_rfl
theorem l7_found : foundL l7d.z = [f0d, f0d] := by kernel_rfl
theorem l7_blocks : blocksH (newH 3 [] 0) 0 100 1 = l7h := by kernel_rfl
theorem l7_c1 : commitH l7d l7h [l7o 5] = (zd0, ho0, 64) := by kernel_rfl
theorem l7_p1 : (putH l7d l7h [recI 1 (l7o 5)]).2.2.2 = 64 := by kernel_rfl
theorem l7_c2 : commitH l7d l7h [l7o 100] = (zd0, ho0, 62) := by kernel_rfl
theorem l7_e2 : errI l7h.s [l7o 100] = 62 := by kernel_rfl
theorem l7_do : doZ l7d ⟨7, 1, 2, 0, 0, []⟩ = (l7e, ⟨0, 0, []⟩) := by kernel_rfl
theorem l7_gain : gainH l7h 1 2 = l7g := by kernel_rfl
theorem l7_rec : errL [recI 1 (l7o 5)] = 0 := by kernel_rfl
theorem l7_c3 : l7c.2.2 = 0 := by kernel_rfl
theorem l7_pz : l7p.2.1.p.zone = 1 := by kernel_rfl
theorem l7_pv : l7p.2.1.ver = 1 := by kernel_rfl
theorem l7_pm : l7p.2.1.m = [] := by kernel_rfl
theorem l7_pe : entsC l7p.2.1 [recI 1 (l7o 5)] l7p.2.2.1 = [(recI 1 (l7o 5), 1, 17)] := by kernel_rfl
theorem l7_off : offer1 [] (extX (recI 1 (l7o 5), 1, 17)) = [⟨5, 1, 1, 1, 17⟩] := by kernel_rfl
theorem l7_go : mapGo [(recI 1 (l7o 5), 1, 17)] [] = ([⟨5, 1, 1, 1, 17⟩], 0) := by kernel_rfl
theorem l7_read : readH l7c.1.z l7c.2.1 5 1 = (l7T, 0) := by kernel_rfl
theorem l7_mine : mineS l7c.2.1.s 99 1 = true := by kernel_rfl
theorem l7_cm : l7c.2.1.m = [⟨5, 1, 1, 1, 17⟩] := by kernel_rfl
theorem l7_len : l7c.1.z.length = 2 := by kernel_rfl
theorem l7_okd : okD l7d ∧ okD l7e := by decide
theorem l7_okc : okD l7c.1 := by
 have h : decide (okD l7c.1) = true := by kernel_rfl
 exact of_decide_eq_true h
theorem l7_small {h : Ho} (h1 : h.own.length ≤ 10) (h2 : h.s.length ≤ 10) (h3 : h.p.buf.length ≤ 1000) (h4 : h.p.l.length ≤ 10) (h5 : h.m.length ≤ 10) : SmallHo h := ⟨by omega, by omega, by omega, by omega, by omega⟩
theorem l7_p0 : OkPk p0k := by unfold OkPk OkHd p0k; simp
theorem l7_okh : OkHo l7h ∧ OkHo l7g := by
 refine ⟨⟨l7_p0, by simp [l7h], by simp [l7h], by simp [l7h], by simp [l7h]⟩, ⟨l7_p0, ?_, by simp [l7g], ?_, by simp [l7g]⟩⟩
 · intro f hf; simp only [l7g, List.mem_singleton] at hf; subst hf; decide
 · intro f hf; simp only [l7g, List.mem_singleton] at hf; subst hf; decide
theorem l7_good : GoodX 10000 (recI 1 (l7o 5), 1, 17) := by
 refine ⟨⟨.inl rfl, by simp [recI, l7o], by simp [recI, l7o], by simp [recI], ⟨rfl, rfl⟩, fun _ => by simp [recI, l7o, l7T], fun h => by simp [recI, l7o] at h⟩, by simp, by simp⟩
theorem l7_mapok : MapOk [(recI 1 (l7o 5), 1, 17)] [] := by
 refine ⟨fun j x hx => ?_, by rw [l7_go, show offs [(recI 1 (l7o 5), 1, 17)] [] = offer1 [] (extX (recI 1 (l7o 5), 1, 17)) from rfl, l7_off]⟩
 rcases j with _ | j
 · simp only [List.getElem?_cons_zero, Option.some.injEq] at hx
   subst hx
   exact ⟨l7_good, trivial, by decide, by rw [show offs (List.take 0 [(recI 1 (l7o 5), (1 : Int), (17 : Int))]) [] = [] from rfl, l7_off]; simp⟩
 · simp at hx
theorem l7_chain : chainE 0 l7c.2.1.m := by
 rw [l7_cm]
 have h : decide (chainE 0 [⟨5, 1, 1, 1, 17⟩]) = true := by decide
 exact of_decide_eq_true h
theorem l7_fit : FitE l7c.1.z l7c.2.1.m := by
 rw [l7_cm]
 intro b t ht
 rw [see_cons, see_nil] at ht
 split at ht
 · rename_i hb
   unfold hasE endE at hb
   simp only [decide_eq_true_eq] at hb
   obtain rfl : b = 5 := by omega
   injection ht with ht
   subst ht
   refine .inr ?_
   have h1 : ((l7c.1.z.getD 1 z0).d.length : Int) = 37 := by kernel_rfl
   refine ⟨by rw [l7_len]; decide, by decide, ?_⟩
   show (17 : Int) + 16 ≤ ((l7c.1.z.getD 1 z0).d.length : Int)
   omega
 · cases ht
theorem isL_ioA {w : World} {K : Nat → Prop} {A : Option Addr} {c g n : Nat} {o : Io} (hg : w.heap.size = g) (hv : IsB w K (.slice A n c) o.data) (h : (-9223372036854775808 ≤ o.op ∧ o.op ≤ 9223372036854775807) ∧ (-9223372036854775808 ≤ o.lba ∧ o.lba ≤ 9223372036854775807) ∧ (-9223372036854775808 ≤ o.n ∧ o.n ≤ 9223372036854775807)) :
 IsL Rp.io (w.alloc (.cells #[.int .i64 o.op, .int .i64 o.lba, .int .i64 o.n, .slice A n c] 72)) (fun b => b = g ∨ K b) (.slice (some ⟨g, 0, none⟩) 1 1) [o] :=
 ⟨_, 1, _, rfl, (Reads.new (n := 1) (size := 4) hg rfl rfl).more (fun _ h => .inl h), CellsL.single ⟨_, rfl, (hv.alloc _).more fun _ h => .inr h, h.1, h.2.1, h.2.2⟩, by simp, by omega, by simp⟩
theorem live17_any (w : World) : Calls Tryz.prog 10 #[] w fun e w' => e = .returned (.bool true) ∧ Below w.heap.size w w' := by
 have hnw := fun W => znewK_any 2 400 2 2 W
 rw [l7_new] at hnw
 have hne := fun A c K W h => hnew_any 3 l7d A c K W (by decide) l7_okd.1 h (by rw [show l7d.z.length = 2 from rfl, l7_ents]; simp) (by rw [l7_found]; simp [f0d]) (by rw [l7_found]; decide) (by rw [l7_found]; decide)
 rw [show newF 0 (foundL l7d.z) = 0 by rw [l7_found]; rfl] at hne
 have hbl := fun v K W a b => hblocks_any (newH 3 [] 0) v 0 100 1 K W a b (l7_small (by simp [newH]) (by simp [newH]) (by simp [newH, p0k]) (by simp [newH, p0k]) (by simp [newH])) (by decide) (by decide) (by simp [newH])
 rw [l7_blocks] at hbl
 have hsh : SmallHo l7h := l7_small (by simp [l7h]) (by simp [l7h]) (by simp [l7h, p0k]) (by simp [l7h, p0k]) (by simp [l7h])
 have hsg : SmallHo l7g := l7_small (by simp [l7g]) (by simp [l7g]) (by simp [l7g, p0k]) (by simp [l7g, p0k]) (by simp [l7g])
 have hc1 := fun Az cz v A c K Kl W a b e f => hcommit_any l7d Az cz l7h v A c [l7o 5] K Kl W a b e f l7_okd.1 l7_okh.1 hsh (by decide) (by simp) (by simp) (fun _ => l7_rec) (fun _ h => by have := l7_p1; rw [show recsI l7h.ver [l7o 5] = [recI 1 (l7o 5)] from rfl] at h; rw [this] at h; exact absurd h (by decide))
 rw [l7_c1] at hc1
 have hc2 := fun Az cz v A c K Kl W a b e f => hcommit_any l7d Az cz l7h v A c [l7o 100] K Kl W a b e f l7_okd.1 l7_okh.1 hsh (by decide) (by simp) (by simp) (fun h => by rw [l7_e2] at h; exact absurd h (by decide)) (fun h _ => by rw [l7_e2] at h; exact absurd h (by decide))
 rw [l7_c2] at hc2
 have hdo := fun A k K W h1 h2 => do_any l7d ⟨7, 1, 2, 0, 0, []⟩ A k none 0 K W h1 h2 (IsB.nil_ _ _) (by decide) (by decide)
 rw [l7_do] at hdo
 have hga := fun v K W a b => hgain_any l7h v 1 2 K W a b hsh (by decide) (by decide) (by simp [l7h]) (by simp [l7h])
 rw [l7_gain] at hga
 have hc3 := fun Az cz v A c K Kl W a b e f => hcommit_any l7e Az cz l7g v A c [l7o 5] K Kl W a b e f l7_okd.2 l7_okh.2 hsg (by decide) (by simp) (by simp) (fun _ => l7_rec) (fun _ _ => by
  rw [show recsI l7g.ver [l7o 5] = [recI 1 (l7o 5)] from rfl]
  rw [show putH l7e l7g [recI 1 (l7o 5)] = l7p from rfl, l7_pz, l7_pv, l7_pm, l7_pe]
  exact ⟨by decide, by decide, by decide, l7_mapok⟩)
 rw [show commitH l7e l7g [l7o 5] = l7c from rfl, l7_c3] at hc3
 have hrd := fun A c v K K' W a b => hread_any l7c.1 A c l7c.2.1 v 5 1 K K' W a b l7_okc l7_chain l7_fit
 rw [l7_read] at hrd
 have hmi := fun v K W a => hmine_any l7c.2.1 v 99 1 K W a
 rw [l7_mine] at hmi
 have hfi := fun W => fill17_any 7 16 W (by decide)
 go_enter Tryz.func10, Tryz.ntmps10
 go_wp2_with fail
 refine (hnw _).mono ?_
 rintro e w2 ⟨v, rfl, ⟨A, c, rfl, hz⟩, hb2⟩
 simp only [List.length_singleton] at hc1 hc2 hc3
 have E := (Kn.from_ hb2 hb2.size).give Stable.list hz.zlt |>.push 28 #[.int .i64 l7d.cap, .int .i64 l7d.opn, .int .i64 l7d.act, .slice A l7d.z.length c]
 have hle2 := hb2.size
 clear hnw hz hb2
 go_upto_region 2 with fail
 obtain ⟨g1, hg1⟩ : ∃ g1, w2.heap.size = g1 := ⟨_, rfl⟩
 have hsz := World.size_alloc w2 (.cells #[.int .i64 l7d.cap, .int .i64 l7d.opn, .int .i64 l7d.act, .slice A l7d.z.length c] 28)
 generalize w2.alloc (.cells #[.int .i64 l7d.cap, .int .i64 l7d.opn, .int .i64 l7d.act, .slice A l7d.z.length c] 28) = w3 at E hsz ⊢
 rw [hg1] at E hle2 hsz ⊢
 obtain ⟨q0, f0, t0⟩ := E.rules m0
 go_wp2_with fail
 refine (hne A c _ _ (E.get m0)).mono ?_
 rintro e w4 ⟨vh, mm, rfl, hmm, -, -, hh4, hb4⟩
 have hm0 : mm = [] := by
  rw [show l7d.z.length = 2 from rfl, l7_ents] at hmm
  injection hmm with hmm
  exact hmm.symm
 subst hm0
 replace E := E.step hb4
 have hs4 := hb4.size
 obtain ⟨vo, vs, vb, vl, vm, rfl, a1, a2, a3, a4, a5⟩ := hh4.lt
 obtain ⟨Ao, co, rfl, -⟩ := a1.form
 obtain ⟨As, cs, rfl, -⟩ := a2.form
 obtain ⟨Ab, cb, rfl, -⟩ := isB_form a3
 obtain ⟨Al, cl, rfl, -⟩ := a4.form
 obtain ⟨Am, cm, rfl, -⟩ := a5.form
 clear q0 f0 t0 hne hmm hb4 hh4
 have hho : IsHo w4 (fun b => w3.heap.size ≤ b ∧ b < w4.heap.size) (.agg (hoS (newH 3 [] 0) Ao co As cs Ab cb Al cl Am cm)) (newH 3 [] 0) := ⟨_, _, _, _, _, rfl, a1, a2, a3, a4, a5⟩
 go_upto_region 3 with (refine st_ho_new rfl rfl (by first | rfl | simp [Act.eval, World.size_alloc]) rfl rfl (by rfl) (by rfl) ?_)
 replace E := (E.give Stable.ho hho).push 42 (hoS (newH 3 [] 0) Ao co As cs Ab cb Al cl Am cm)
 obtain ⟨g3, hg3⟩ : ∃ g3, w4.heap.size = g3 := ⟨_, rfl⟩
 have hsz5 := World.size_alloc w4 (.cells (hoS (newH 3 [] 0) Ao co As cs Ab cb Al cl Am cm) 42)
 generalize w4.alloc (.cells (hoS (newH 3 [] 0) Ao co As cs Ab cb Al cl Am cm) 42) = w5 at E hsz5 ⊢
 rw [hg3] at E hs4 hsz5 ⊢
 clear a1 a2 a3 a4 a5 hho
 go_wp2_with (refine ld_ho (E.at_ m0) rfl rfl rfl rfl ?_)
 refine (hbl _ _ _ (E.get m0) (fun b hb => by have := hb.2; omega)).mono ?_
 rintro e w6 ⟨v6, rfl, hh6, hb6⟩
 replace E := E.step hb6
 have hs6 := hb6.size
 obtain ⟨vo, vs, vb, vl, vm, rfl, a1, a2, a3, a4, a5⟩ := hh6.lt
 obtain ⟨Ao6, co6, rfl, -⟩ := a1.form
 obtain ⟨As6, cs6, rfl, -⟩ := a2.form
 obtain ⟨Ab6, cb6, rfl, -⟩ := isB_form a3
 obtain ⟨Al6, cl6, rfl, -⟩ := a4.form
 obtain ⟨Am6, cm6, rfl, -⟩ := a5.form
 clear hbl hb6 hh6
 have hho : IsHo w6 (fun b => (b ≠ g1 ∧ b ≠ g3) ∧ b < w6.heap.size) (.agg (hoS l7h Ao6 co6 As6 cs6 Ab6 cb6 Al6 cl6 Am6 cm6)) l7h := IsHo.more ⟨_, _, _, _, _, rfl, a1, a2, a3, a4, a5⟩ (fun b hb => ⟨by rcases hb.1 with h1 | h1 <;> omega, hb.2⟩)
 go_upto_region 4 with (refine st_ho (E.at_ m0) rfl rfl rfl rfl rfl (by rfl) (by rfl) ?_; intro w7 hs7 ht7 hB7)
 have hb7 := Turned.upon E.below ht7 (by omega) (Nat.le_refl _)
 have hz7 := (E.get m1).turned ht7 (fun b hb h => by have := hb.2; omega)
 have hD7 := (E.at_ m1).turned ht7 (show ¬ g1 = g3 by omega)
 have hho7 := IsHo.keep hho (ht7.cells (K := fun b => (b ≠ g1 ∧ b ≠ g3) ∧ b < w6.heap.size) fun b hb e => hb.1.2 e)
 replace E := ((Kn.from_ hb7 hb7.size).know hD7).know hB7 |>.give Stable.list hz7 |>.give Stable.ho hho7
 have hs67 : w6.heap.size ≤ w7.heap.size := Nat.le_of_eq hs7.symm
 clear hho hho7 hz7 hD7 hB7 hb7 ht7 a1 a2 a3 a4 a5 hs7
 go_wp2_with fail
 refine (hfi _).mono ?_
 rintro e w8 ⟨A8, c8, rfl, own8, hb8⟩
 have hB8 : IsB w8 (fun b => w7.heap.size ≤ b) (.slice A8 16 c8) l7T := IsB.of_own (l := l7T) own8 (by decide)
 replace E := (E.step hb8).give Stable.bytes hB8.lt
 have hs8 := hb8.size
 clear own8 hB8 hb8
 go_upto_region 5 with fail
 replace E := E.push 72 #[.int .i64 1, .int .i64 5, .int .i64 1, .slice A8 16 c8]
 obtain ⟨g6, hg6⟩ : ∃ g6, w8.heap.size = g6 := ⟨_, rfl⟩
 have hsz9 := World.size_alloc w8 (.cells #[.int .i64 1, .int .i64 5, .int .i64 1, .slice A8 16 c8] 72)
 generalize w8.alloc (.cells #[.int .i64 1, .int .i64 5, .int .i64 1, .slice A8 16 c8] 72) = w9 at E hsz9 ⊢
 rw [hg6] at E hs8 hsz9 ⊢
 have hle9 : g6 < w9.heap.size := by omega
 have h68 : w7.heap.size ≤ g6 := hs8
 have h36 : g3 < g6 := by omega
 have h13 : g1 < g3 := by omega
 clear hsz9
 go_cut [7, 8, 9] from 34 to 42 (fun x7 x8 x9 wx => (∃ y, x7 = y) ∧ (∃ y, x8 = y) ∧ x9 = .int .i64 64 ∧ Below w9.heap.size w9 wx)
 case first =>
  obtain ⟨q0, f0, t0⟩ := E.rules m2
  obtain ⟨q2, f2, t2⟩ := E.rules m0
  have hio10 := isL_ioA (w := w9) (g := w9.heap.size) (o := l7o 5) rfl (E.get m0) (by decide)
  have F := E.push 72 #[.int .i64 1, .int .i64 5, .int .i64 1, .slice A8 16 c8]
  have hlew9 : g6 < w9.heap.size := t2
  go_wp2_with (refine ld_ho (E.at_ m1) rfl rfl rfl rfl ?_)
  refine (hc1 A c _ (some ⟨w9.heap.size, 0, none⟩) 1 (fun b => (b ≠ g1 ∧ b ≠ g3) ∧ b < w9.heap.size) _ _ ((F.get m2).more fun b hb => ⟨by have := hb.2; have := hb.1; omega, by have := hb.2; omega⟩) ((F.get m1).more fun b hb => ⟨hb.1, by have := hb.2; omega⟩) hio10 (fun b hb => by rw [World.size_alloc]; have := hb.2; omega)).mono ?_
  rintro e w10 ⟨dv10, vh10, rfl, ⟨⟨Az10, cz10, rfl, -⟩, vo, vs, vb, vl, vm, hvv, a1, a2, a3, a4, a5⟩, hb10⟩
  obtain ⟨Ao10, co10, rfl, -⟩ := a1.form
  obtain ⟨As10, cs10, rfl, -⟩ := a2.form
  obtain ⟨Ab10, cb10, rfl, -⟩ := isB_form a3
  obtain ⟨Al10, cl10, rfl, -⟩ := a4.form
  obtain ⟨Am10, cm10, rfl, -⟩ := a5.form
  subst hvv
  have hbw := ((Below.refl w9.heap.size w9).alloc (Nat.le_refl _) (.cells #[.int .i64 1, .int .i64 5, .int .i64 1, .slice A8 16 c8] 72)).trans (hb10.mono (by rw [World.size_alloc]; omega))
  clear q0 f0 t0 q2 f2 t2 F hio10 hb10 a1 a2 a3 a4 a5 E
  go_wp2_with (refine st_ho_new rfl rfl (by first | rfl | simp [Act.eval, World.size_alloc]) rfl rfl (by rfl) (by rfl) ?_)
  go_meet
  exact ⟨⟨_, rfl⟩, ⟨_, rfl⟩, rfl, (hbw.alloc hbw.size _).alloc (by have := hbw.size; rw [World.size_alloc]; omega) _⟩
 case rest =>
 obtain ⟨⟨y7, rfl⟩, ⟨y8, rfl⟩, rfl, hbw⟩ := hcut
 have hl10 := hbw.size
 have hlew9 : g6 < w9.heap.size := (E.at_ m0).lt
 replace E := E.step hbw
 clear hbw hc1
 obtain ⟨w11, rfl⟩ : ∃ x : World, x = wc := ⟨_, rfl⟩
 obtain ⟨q2, f2, t2⟩ := E.rules m0
 go_upto_region 7 with fail
 refine at_set (K := fun W => Code.wp _ _ _ _ W) (E.at_ m0) 1 _ ?_
 intro w12 hs ht hB
 have hbk := Turned.upon E.below ht (by omega) (Nat.le_refl _)
 have y0 : IsB w12 (fun b => (w7.heap.size ≤ b ∧ b < g6) ∧ b < w12.heap.size) (.slice A8 16 c8) l7T := ((E.get m0).turned ht (fun b hb e => by have := hb.2; omega)).lt.more (fun b hb => hb)
 have y1 := IsHo.keep (E.get m1) (ht.cells (K := fun b => (b ≠ g1 ∧ b ≠ g3) ∧ b < w6.heap.size) fun b hb e => by have := hb.2; omega)
 have y2 := (E.get m2).turned ht (fun b hb e => by have := hb.2; omega)
 have y3 := (E.at_ m1).turned ht (show ¬ g3 = g6 by omega)
 have y4 := (E.at_ m2).turned ht (show ¬ g1 = g6 by omega)
 have hlw12 : w11.heap.size ≤ w12.heap.size := ht.size
 replace E := (((Kn.from_ hbk hbk.size).know y4).know y3).know (show Blk w12 g6 72 #[.int .i64 1, .int .i64 100, .int .i64 1, .slice A8 16 c8] from hB) |>.give Stable.list y2 |>.give Stable.ho y1 |>.give Stable.bytes (y0.more (K' := fun b => w7.heap.size ≤ b ∧ b < g6) fun b hb => hb.1)
 clear q2 f2 t2 hs ht hB hbk y0 y1 y2 y3 y4
 go_cut [10, 11, 12] from 44 to 52 (fun x10 x11 x12 wx => (∃ y, x10 = y) ∧ (∃ y, x11 = y) ∧ x12 = .int .i64 62 ∧ Below w12.heap.size w12 wx)
 case first =>
  obtain ⟨q0, f0, t0⟩ := E.rules m2
  obtain ⟨q2, f2, t2⟩ := E.rules m0
  have hio13 := isL_ioA (w := w12) (g := w12.heap.size) (o := l7o 100) rfl (E.get m0) (by decide)
  have F := E.push 72 #[.int .i64 1, .int .i64 100, .int .i64 1, .slice A8 16 c8]
  have hlew12 : g6 < w12.heap.size := t2
  go_wp2_with (refine ld_ho (E.at_ m1) rfl rfl rfl rfl ?_)
  refine (hc2 A c _ (some ⟨w12.heap.size, 0, none⟩) 1 (fun b => (b ≠ g1 ∧ b ≠ g3) ∧ b < w12.heap.size) _ _ ((F.get m2).more fun b hb => ⟨by have := hb.2; have := hb.1; omega, by have := hb.2; omega⟩) ((F.get m1).more fun b hb => ⟨hb.1, by have := hb.2; omega⟩) hio13 (fun b hb => by rw [World.size_alloc]; have := hb.2; omega)).mono ?_
  rintro e w13 ⟨dv13, vh13, rfl, ⟨⟨Az13, cz13, rfl, -⟩, vo, vs, vb, vl, vm, hvv, a1, a2, a3, a4, a5⟩, hb13⟩
  obtain ⟨Ao13, co13, rfl, -⟩ := a1.form
  obtain ⟨As13, cs13, rfl, -⟩ := a2.form
  obtain ⟨Ab13, cb13, rfl, -⟩ := isB_form a3
  obtain ⟨Al13, cl13, rfl, -⟩ := a4.form
  obtain ⟨Am13, cm13, rfl, -⟩ := a5.form
  subst hvv
  have hbw := ((Below.refl w12.heap.size w12).alloc (Nat.le_refl _) (.cells #[.int .i64 1, .int .i64 100, .int .i64 1, .slice A8 16 c8] 72)).trans (hb13.mono (by rw [World.size_alloc]; omega))
  clear q0 f0 t0 q2 f2 t2 F hio13 hb13 a1 a2 a3 a4 a5 E
  go_wp2_with (refine st_ho_new rfl rfl (by first | rfl | simp [Act.eval, World.size_alloc]) rfl rfl (by rfl) (by rfl) ?_)
  go_meet
  exact ⟨⟨_, rfl⟩, ⟨_, rfl⟩, rfl, (hbw.alloc hbw.size _).alloc (by have := hbw.size; rw [World.size_alloc]; omega) _⟩
 case rest =>
 obtain ⟨⟨y10, rfl⟩, ⟨y11, rfl⟩, rfl, hbw⟩ := hcut
 have hl13 := hbw.size
 have hlew12 : g6 < w12.heap.size := (E.at_ m0).lt
 replace E := E.step hbw
 clear hbw hc2
 obtain ⟨w14, rfl⟩ : ∃ x : World, x = wc := ⟨_, rfl⟩
 obtain ⟨q2, f2, t2⟩ := E.rules m0
 go_upto_region 9 with fail
 refine at_set (K := fun W => Code.wp _ _ _ _ W) (E.at_ m0) 1 _ ?_
 intro w15 hs ht hB
 have hbk := Turned.upon E.below ht (by omega) (Nat.le_refl _)
 have y0 : IsB w15 (fun b => (w7.heap.size ≤ b ∧ b < g6) ∧ b < w15.heap.size) (.slice A8 16 c8) l7T := ((E.get m0).turned ht (fun b hb e => by have := hb.2; omega)).lt.more (fun b hb => hb)
 have y1 := IsHo.keep (E.get m1) (ht.cells (K := fun b => (b ≠ g1 ∧ b ≠ g3) ∧ b < w6.heap.size) fun b hb e => by have := hb.2; omega)
 have y2 := (E.get m2).turned ht (fun b hb e => by have := hb.2; omega)
 have y3 := (E.at_ m1).turned ht (show ¬ g3 = g6 by omega)
 have y4 := (E.at_ m2).turned ht (show ¬ g1 = g6 by omega)
 have hlw15 : w14.heap.size ≤ w15.heap.size := ht.size
 replace E := (((Kn.from_ hbk hbk.size).know y4).know y3).know (show Blk w15 g6 72 #[.int .i64 1, .int .i64 5, .int .i64 1, .slice A8 16 c8] from hB) |>.give Stable.list y2 |>.give Stable.ho y1 |>.give Stable.bytes (y0.more (K' := fun b => w7.heap.size ≤ b ∧ b < g6) fun b hb => hb.1)
 clear q2 f2 t2 hs ht hB hbk y0 y1 y2 y3 y4
 obtain ⟨q0, f0, t0⟩ := E.rules m2
 go_wp2_with fail
 refine (hdo A c (fun b => (b ≠ g1 ∧ b ≠ g3) ∧ b < w15.heap.size) _ ((E.get m2).more fun b hb => ⟨by have := hb.2; have := hb.1; omega, by have := hb.2; omega⟩) (fun b hb => hb.2)).mono ?_
 rintro e w16 ⟨v1, v2, rfl, ⟨A16, c16, rfl, hz16, _⟩, ⟨A17, c17, rfl, _⟩, hb16⟩
 have hz17 := hz16.more (K' := fun b => b ≠ g1 ∧ b ≠ g3) (fun b hb => by rcases hb with hb | hb; exact hb.1; omega)
 replace E := (E.step hb16).give Stable.list hz17
 have hl16 := hb16.size
 clear hdo hz16 hz17 hb16 q0 f0 t0
 obtain ⟨q0, f0, t0⟩ := E.rules m2
 go_upto_region 10 with fail
 refine at_st4s (K := fun W => Code.wp _ _ _ _ (W.alloc _)) (E.at_ m2) _ _ _ _ ?_
 intro w17 hs17 ht17 hB17
 have hb17 := Turned.upon E.below ht17 (by omega) (Nat.le_refl _)
 have y0 := (E.get m1).turned ht17 (fun b hb e => by have := hb.1; omega)
 have y1 := IsHo.keep (E.get m2) (ht17.cells (K := fun b => (b ≠ g1 ∧ b ≠ g3) ∧ b < w6.heap.size) fun b hb e => hb.1.1 e)
 have y2 := (E.get m0).turned ht17 (fun b hb e => hb.1 e)
 have y3 := (E.at_ m1).turned ht17 (show ¬ g3 = g1 by omega)
 have y4 := (E.at_ m0).turned ht17 (show ¬ g6 = g1 by omega)
 have hl17 : w16.heap.size ≤ w17.heap.size := ht17.size
 replace E := (((Kn.from_ hb17 hb17.size).know hB17).know y4).know y3 |>.give Stable.list y2.zlt |>.give Stable.bytes y0 |>.give Stable.ho y1
 clear q0 f0 t0 ht17 hB17 hb17 y0 y1 y2 y3 y4
 refine at_alloc (K := fun W => Code.wp _ _ _ _ W) ?_
 intro w18 hb18 hD18
 rw [hs17] at hD18
 obtain ⟨gD, hgD⟩ : ∃ gD, w16.heap.size = gD := ⟨_, rfl⟩
 rw [hgD] at hD18
 have hDg : g6 < gD := by omega
 have hl18 := hb18.size
 have hDlt := hD18.lt
 replace E := (E.step hb18).know hD18
 rw [hgD]
 clear hb18 hD18 hs17 hgD
 go_wp2_with (refine ld_ho (E.at_ m1) rfl rfl rfl rfl ?_)
 refine (hga _ (fun b => (b ≠ g1 ∧ b ≠ g3) ∧ b < w6.heap.size) _ (E.get m0) (fun b hb => by have := hb.2; omega)).mono ?_
 rintro e w19 ⟨v19, rfl, hh19, hb19⟩
 replace E := E.step hb19
 have hs19 := hb19.size
 obtain ⟨vo, vs, vb, vl, vm, rfl, a1, a2, a3, a4, a5⟩ := hh19.lt
 obtain ⟨Ao19, co19, rfl, -⟩ := a1.form
 obtain ⟨As19, cs19, rfl, -⟩ := a2.form
 obtain ⟨Ab19, cb19, rfl, -⟩ := isB_form a3
 obtain ⟨Al19, cl19, rfl, -⟩ := a4.form
 obtain ⟨Am19, cm19, rfl, -⟩ := a5.form
 clear hga hb19 hh19
 have hho : IsHo w19 (fun b => (b ≠ g1 ∧ b ≠ g3) ∧ b < w19.heap.size) (.agg (hoS l7g Ao19 co19 As19 cs19 Ab19 cb19 Al19 cl19 Am19 cm19)) l7g := IsHo.more ⟨_, _, _, _, _, rfl, a1, a2, a3, a4, a5⟩ (fun b hb => ⟨by rcases hb.1 with h1 | h1; omega; exact h1.1, hb.2⟩)
 go_upto_region 11 with (refine st_ho (E.at_ m1) rfl rfl rfl rfl rfl (by rfl) (by rfl) ?_; intro w20 hs20 ht20 hB20)
 have hb20 := Turned.upon E.below ht20 (by omega) (Nat.le_refl _)
 have y0 := (E.get m1).turned ht20 (fun b hb e => by have := hb.1; omega)
 have y1 := IsHo.keep hho (ht20.cells (K := fun b => (b ≠ g1 ∧ b ≠ g3) ∧ b < w19.heap.size) fun b hb e => hb.1.2 e)
 have y2 := (E.get m2).turned ht20 (fun b hb e => hb.1.2 e)
 have y3 := (E.at_ m2).turned ht20 (show ¬ g6 = g3 by omega)
 have y4 := (E.at_ m3).turned ht20 (show ¬ g1 = g3 by omega)
 have y5 := (E.at_ m0).turned ht20 (show ¬ gD = g3 by omega)
 have hl20 : w19.heap.size ≤ w20.heap.size := ht20.size
 replace E := ((((Kn.from_ hb20 hb20.size).know y5).know y4).know hB20).know y3 |>.give Stable.list y2 |>.give Stable.ho y1 |>.give Stable.bytes y0
 clear ht20 hB20 hb20 y0 y1 y2 y3 y4 y5 hho hs20
 obtain ⟨q0, f0, t0⟩ := E.rules m2
 obtain ⟨q2, f2, t2⟩ := E.rules m0
 have hio20 := isL_ioA (w := w20) (g := w20.heap.size) (o := l7o 5) rfl (E.get m0) (by decide)
 have F := E.push 72 #[.int .i64 1, .int .i64 5, .int .i64 1, .slice A8 16 c8]
 go_wp2_with (refine ld_ho (E.at_ m1) rfl rfl rfl rfl ?_)
 refine (hc3 A16 c16 _ (some ⟨w20.heap.size, 0, none⟩) 1 (fun b => (b ≠ g1 ∧ b ≠ g3) ∧ b < w20.heap.size) _ _ ((F.get m2).more fun b hb => ⟨hb.1, by have := hb.2; omega⟩) ((F.get m1).more fun b hb => ⟨hb.1, by have := hb.2; omega⟩) hio20 (fun b hb => by rw [World.size_alloc]; have := hb.2; omega)).mono ?_
 rintro e w21 ⟨dv, vh, rfl, ⟨⟨A21, c21, rfl, hz21⟩, vo, vs, vb, vl, vm, hvv, a1, a2, a3, a4, a5⟩, hb21⟩
 obtain ⟨Ao21, co21, rfl, -⟩ := a1.form
 obtain ⟨As21, cs21, rfl, -⟩ := a2.form
 obtain ⟨Ab21, cb21, rfl, -⟩ := isB_form a3
 obtain ⟨Al21, cl21, rfl, -⟩ := a4.form
 obtain ⟨Am21, cm21, rfl, -⟩ := a5.form
 subst hvv
 have hho : IsHo w21 (fun b => b ≠ g1 ∧ b ≠ g3) (.agg (hoS l7c.2.1 Ao21 co21 As21 cs21 Ab21 cb21 Al21 cl21 Am21 cm21)) l7c.2.1 := IsHo.more ⟨_, _, _, _, _, rfl, a1, a2, a3, a4, a5⟩ (fun b hb => by rcases hb with h1 | h1; exact h1.1; rw [World.size_alloc] at h1; omega)
 have hz22 := hz21.more (K' := fun b => b ≠ g1 ∧ b ≠ g3) (fun b hb => by rcases hb with h1 | h1; exact h1.1; rw [World.size_alloc] at h1; omega)
 replace E := (E.alloc (.cells #[.int .i64 1, .int .i64 5, .int .i64 1, .slice A8 16 c8] 72)).step hb21
 clear q0 f0 t0 q2 f2 t2 F hio20 hb21 hc3 a1 a2 a3 a4 a5 hz21
 go_upto_region 12 with (first | (refine st_zns (E.at_ m2) rfl rfl rfl rfl rfl (by rfl) (by rfl) ?_; intro wa hsa hta hBa) | (refine st_ho ((E.at_ m1).turned hta (by omega)) rfl rfl rfl rfl rfl (by rfl) (by rfl) ?_; intro w22 hs22 htb hB3))
 have ht22 := (hta.mono (S' := fun b => b = g1 ∨ b = g3) fun _ e => .inl e).trans (htb.mono fun _ e => .inr e)
 have hB1 := hBa.turned htb (by omega)
 have hb22 := E.below.trans (ht22.below (fun k hk => by omega) E.below.size)
 have y1 := IsHo.keep hho (ht22.cells (K := fun b => b ≠ g1 ∧ b ≠ g3) fun b hb e => by rcases e with e | e; exact hb.1 e; exact hb.2 e)
 have y2 := hz22.turned ht22 (fun b hb e => by rcases e with e | e; exact hb.1 e; exact hb.2 e)
 have y5 := (E.at_ m3).turned ht22 (by omega)
 replace E := (((Kn.from_ hb22 hb22.size).know y5).know hB1).know hB3 |>.give Stable.list y2 |>.give Stable.ho y1
 clear hs22 hsa hta htb hBa ht22 hB1 hB3 hb22 y1 y2 y5 hho hz22
 have h16 : l7T.length = 16 := rfl
 rw [h16] at hrd
 go_cut [16, 17] from 18 to 79 (fun x16 x17 wx => ∃ A23 c23, x16 = .slice A23 16 c23 ∧ x17 = .int .i64 0 ∧ IsB wx (fun b => w22.heap.size ≤ b) (.slice A23 16 c23) l7T ∧ Below w22.heap.size w22 wx)
 case first =>
  obtain ⟨q0, f0, t0⟩ := E.rules m1
  go_wp2_with (refine ld_ho (E.at_ m0) rfl rfl rfl rfl ?_)
  refine (hrd A21 c21 _ _ _ _ (E.get m1) (E.get m0)).mono ?_
  rintro e w23 ⟨A23, c23, rfl, hB23, hb23⟩
  go_wp2
  go_meet
  exact ⟨A23, c23, rfl, rfl, hB23, hb23⟩
 case rest =>
 obtain ⟨A23, c23, rfl, rfl, hB23, hb23⟩ := hcut
 replace E := (E.step hb23).give Stable.bytes hB23
 clear hrd hb23 hB23
 have hbE := E.below
 go_upto_region 13 with fail
 have HK : Hid (∀ W, Below wc.heap.size wc W → (W.cell? ⟨gD, 0, none⟩ = some (.int .i64 0)) ∧ (∀ o, W.cell? ⟨g3, o, none⟩ = ((hoS l7c.2.1 Ao21 co21 As21 cs21 Ab21 cb21 Al21 cl21 Am21 cm21) : Array Value)[o]?) ∧ (convert 36 9 (.slice A23 16 c23)).run Tryz.prog W = .ok (.string ⟨l7T.toArray⟩) W) := Lib.hid fun W hb => by
  have F := E.step hb
  refine ⟨((F.rules m2).1 0).trans rfl, (F.rules m0).1, ?_⟩
  exact run_string_of (P := Tryz.prog) (cap := c23) (n := 16) (l := l7T) W 36 9 5 Tryz.underlying36 Tryz.underlying5 Tryz.underlying9 rfl (IsB.open_ (F.get m0)).2.1
 have hb0 : Below wc.heap.size wc wc.drew := (Below.refl _ _).drew
 refine wp_region_held_drew (S := fun W => (W.cell? ⟨gD, 0, none⟩ = some (.int .i64 0)) ∧ (∀ o, W.cell? ⟨g3, o, none⟩ = ((hoS l7c.2.1 Ao21 co21 As21 cs21 Ab21 cb21 Al21 cl21 Am21 cm21) : Array Value)[o]?) ∧ (convert 36 9 (.slice A23 16 c23)).run Tryz.prog W = .ok (.string ⟨l7T.toArray⟩) W) (by kernel_rfl) (HK.out _ hb0) (fun hHeld => ?_)
 have hbx := hb0
 generalize wc.drew = wx at hbx hHeld ⊢
 refine wT 0 80 ?_
 refine wT 1 81 ?_
 refine wT 2 82 ?_
 refine wT 3 83 ?_
 refine wT 4 84 ?_
 refine wT 5 85 ?_
 refine wT 6 86 ?_
 refine wT 7 87 ?_
 refine wT 8 88 ?_
 refine wT 9 89 ?_
 refine wT 10 90 ?_
 refine wT 11 91 ?_
 refine wT 12 92 ?_
 refine wT 13 93 ?_
 refine wT 14 94 ?_
 refine wT 15 95 ?_
 refine wT 16 96 ?_
 refine wT 17 97 ?_
 refine wT 18 98 ?_
 refine wT 19 99 ?_
 refine wT 20 100 ?_
 refine wT 21 101 ?_
 refine wT 22 102 ?_
 refine wT 23 103 ?_
 refine wT 24 104 ?_
 refine wT 25 105 ?_
 refine wT 26 106 ?_
 refine wT 27 107 ?_
 refine wT 28 108 ?_
 refine wT 29 109 ?_
 refine wT 30 110 ?_
 refine wT 31 111 ?_
 refine wT 32 112 ?_
 refine wT 33 113 ?_
 refine wT 34 114 ?_
 refine wT 35 115 ?_
 refine wT 36 116 ?_
 refine wT 37 117 ?_
 refine wR 38 118 (fun K hK => ?_)
 go_simp
 refine (hfi _).mono ?_
 rintro e wx ⟨A24, c24, rfl, own24, hb24⟩
 have hB24 : IsB wx (fun _ => True) (.slice A24 16 c24) l7T := (IsB.of_own (l := l7T) own24 (by decide)).more fun _ _ => trivial
 replace hbx := hbx.trans (hb24.mono hbx.size)
 clear own24 hb24
 go_wp2_with fail
 refine hK.out _ _ (HK.out _ hbx) (fun hHeld => ?_)
 clear hK K
 try simp only [pu, List.set]
 refine wR 39 119 (fun K hK => ?_)
 have hs3 := run_string_of (P := Tryz.prog) (cap := c24) (n := 16) (l := l7T) wx 36 9 5 Tryz.underlying36 Tryz.underlying5 Tryz.underlying9 rfl (IsB.open_ hB24).2.1
 go_simp
 refine hK.out _ _ (HK.out _ hbx) (fun hHeld => ?_)
 clear hK K
 refine wT 40 120 ?_
 refine wT 41 121 ?_
 refine wT 42 122 ?_
 refine wT 43 123 ?_ (hy := by intro w hSw; (try dsimp only at hSw); refine Eq.trans (run_ldho hSw.2.1 rfl rfl rfl) ?_; with_reducible rfl)
 refine wR 44 124 (fun K hK => ?_)
 go_simp
 refine (hmi _ _ _ ((E.step hbx).get m1)).mono ?_
 rintro e wx ⟨rfl, hb25⟩
 replace hbx := hbx.trans (hb25.mono hbx.size)
 go_wp2_with fail
 refine hK.out _ _ (HK.out _ hbx) (fun hHeld => ?_)
 clear hK K
 refine wT 45 125 ?_
 refine wT 46 0 ?_
 refine wpAnyH_done (by kernel_rfl) ?_ _
 go_wp2
 go_ret
 refine ⟨?_, hbE.trans (hbx.mono hbE.size)⟩
 simp [go_sem]
end Go.Proofs.YtjahaflkdpmhpaaGreat
