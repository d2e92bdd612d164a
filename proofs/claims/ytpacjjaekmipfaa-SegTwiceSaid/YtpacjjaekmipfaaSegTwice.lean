/- The walk of SegTwice. -/
import Derived.Test.YtpacjjaekmipfaaSameFound
import Derived.Test.YtpacjjaekmipfaaSegLaws
import Derived.Test.YtpacjjaekmipfaaLive03
import Derived.Deep.DeepCutAuto
import Derived.Deep.RegionWith
namespace Go.Proofs.Ytpacjjaekmipfaa
open Go.RowKit

set_option maxRecDepth 100000 in
set_option maxHeartbeats 4000000 in
theorem segTwice_any (v : Value) (b : List UInt8) (K : Nat → Prop) (w : World) (hv : IsB w K v b) :
    Calls Try.prog 7 #[v] w fun e w' => e = .returned (.bool true) ∧ Below w.heap.size w w' := by
  have hv0 := hv.lt
  obtain ⟨A, c, rfl, hl47⟩ := isB_form hv
  have E := (Kn.start w).give Stable.bytes hv0
  go_enter Try.func7, Try.ntmps7
  go_wp2_with fail
  refine (live03_any w).mono ?_
  rintro e w1 ⟨rfl, hb1⟩
  have E := E.step hb1
  have hlc : b.length ≤ c := (IsB.open_ (E.get m0)).2.2.1
  have hlc63 : c ≤ 9223372036854775807 := (IsB.open_ (E.get m0)).2.2.2.1
  rcases Nat.lt_or_ge 100000 b.length with hbig | hle
  · have h1 : (100000 : Int) < (b.length : Int) := by omega
    have hbf := E.below
    clear E
    go_wp2
    go_ret
    exact ⟨rfl, hbf⟩
  have hle' : ¬ (100000 : Int) < (b.length : Int) := by omega
  have hs := scan_any (.slice A b.length c) b _ w1 (E.get m0) (by omega)
  have hS := scan_sound b
  obtain ⟨f, hf⟩ : ∃ f, scanL b = f := ⟨_, rfl⟩
  have htw := scan_twice (b := b)
  rw [hf] at hs hS htw
  unfold fdC at hs
  have HS := Lib.hid hs
  clear hs
  go_wp2_with fail
  refine (HS.out).mono ?_
  rintro e w2 ⟨A4, c4, A5, c5, rfl, hl, ha, hb2⟩
  obtain ⟨fh, fhd, fl, fa, fu⟩ := f
  cases fh with
  | true =>
    obtain ⟨e1, e2, e3, e4, e5, e6, e7⟩ := hS.yes rfl
    obtain ⟨hseg, hsc⟩ := htw rfl
    have hlen := hS.le
    dsimp only at e1 e2 e3 e4 e5 e6 e7 hseg hsc hlen hl ha ⊢
    have hat : fa.length = fl.length := by rw [e6, atsL_len]
    rw [hat] at ha ⊢
    have E := ((E.step hb2).give Stable.list hl).push 51 #[.bool true, .int .i64 fhd.host, .int .i64 fhd.epoch, .int .i64 fhd.seq, .slice A4 fl.length c4, .slice A5 fl.length c5, .int .i64 fu]
    have E := E.give Stable.list (ha.alloc _)
    obtain ⟨q1, f1, t1⟩ := E.rules m0
    have hc := fun W h => seg_any fhd (.slice A4 fl.length c4) fl (fun k => w1.heap.size ≤ k) W e1 h (by omega)
    rw [hseg] at hc
    have hx : (b.take fu).length = fu := by rw [List.length_take]; omega
    obtain ⟨pb, hpb⟩ : ∃ pb, b.take fu = pb := ⟨_, rfl⟩
    rw [hpb] at hx hc hsc
    have HPB := Lib.hid hpb
    unfold hdV at hc
    simp only [hx] at hc
    have HC := Lib.hid hc
    have HAT := Lib.hid hat
    clear hc hS htw e1 e2 e3 e4 e5 hseg hf e6 hat HS hpb
    have hlv := E.get m1
    go_wp2_with fail
    refine (HC.out _ hlv).mono ?_
    rintro e w3 ⟨A6, c6, rfl, own3, hb3⟩
    have E := E.step hb3
    have hB3 : IsB w3 (fun k => w2.heap.size ≤ k) (.slice A6 fu c6) pb := by
      rw [← hx] at own3 ⊢
      exact (IsB.of_own own3 (by omega)).more fun k hk => by rw [World.size_alloc] at hk; omega
    have r1 := hB3.open_.2.1
    have r2 := (IsB.pre (E.get m2) (k := fu) (by omega)).open_.2.1
    rw [HPB.out] at r2
    rw [hx] at r1 r2
    have hcv1 : ∀ N, (convert 27 9 (.slice A6 fu c6)).run Try.prog (w3.drewN N) = .ok (.string ⟨pb.toArray⟩) (w3.drewN N) := fun N => run_string_of (K := fun k => w2.heap.size ≤ k) _ _ _ 5 Try.underlying27 Try.underlying5 Try.underlying9 hx r1
    have hcv2 : ∀ N, (convert 27 9 (.slice A fu c)).run Try.prog (w3.drewN N) = .ok (.string ⟨pb.toArray⟩) (w3.drewN N) := fun N => run_string_of (K := fun b => K b ∧ b < w.heap.size) _ _ _ 5 Try.underlying27 Try.underlying5 Try.underlying9 hx r2
    obtain ⟨q1, f1, t1⟩ := E.rules m0
    have d1 : decide ((fu : Int) < 0) = false := by simp
    have d2 : decide ((b.length : Int) < (fu : Int)) = false := by simp; omega
    have d3 : decide (b.length < fu) = false := by simp; omega
    have i2 : (fu : Int) ≤ (c : Int) := by omega
    have i3 : fu ≤ c := by omega
    clear own3 hlv hl ha r1 r2
    go_upto_region 8 with fail
    go_quiet (fail)
    have hbq := below_drewN (Below.refl w3.heap.size w3) nq
    have E := (E.step hbq).give Stable.bytes (hB3.step hbq)
    generalize w3.drewN nq = w4 at E
    clear hbq hcv1 hcv2 hB3 q1 f1 t1
    have hs2 := fun W h => scan_any (.slice A6 fu c6) pb (fun k => w2.heap.size ≤ k) W h (by omega)
    rw [hsc] at hs2
    dsimp only at hs2
    rw [HAT.out] at hs2
    have hsf := fun W A7 c7 A8 c8 => sameFound_any ⟨true, fhd, fl, fa, fu⟩ A7 A8 A4 A5 c7 c8 c4 c5 (fun k => w4.heap.size ≤ k) (fun k => w4.heap.size ≤ k) (fun k => w1.heap.size ≤ k) (fun k => w1.heap.size ≤ k) W
    dsimp only at hsf
    rw [HAT.out] at hsf
    unfold fdC at hs2 hsf
    dsimp only at hs2 hsf
    have HS2 := Lib.hid hs2
    have HSF := Lib.hid hsf
    have HAL : Hid (∀ W, Below w4.heap.size w4 W → IsL Rp.int W (fun k => w1.heap.size ≤ k) (.slice A5 fl.length c5) fa) := Lib.hid fun W h => (E.step h).get m1
    have HLL : Hid (∀ W, Below w4.heap.size w4 W → IsL Rp.rc W (fun k => w1.heap.size ≤ k) (.slice A4 fl.length c4) fl) := Lib.hid fun W h => (E.step h).get m2
    have HBB : Hid (∀ W, Below w4.heap.size w4 W → IsB W (fun k => w2.heap.size ≤ k) (.slice A6 fu c6) pb) := Lib.hid fun W h => (E.step h).get m0
    have HK : Hid (∀ W, Below w4.heap.size w4 W → ∀ o, W.cell? ⟨w2.heap.size, o, none⟩ = #[Value.bool true, .int .i64 fhd.host, .int .i64 fhd.epoch, .int .i64 fhd.seq, .slice A4 fl.length c4, .slice A5 fl.length c5, .int .i64 fu][o]?) := Lib.hid fun W h => ((E.step h).rules m0).1
    have hbE := E.below
    have hbd := (Below.refl w4.heap.size w4).drew
    clear hs2 hsf hsc E
    go_upto_region 10 with fail
    go_cut [2] (fun s wx => s = .bool true ∧ Below w4.heap.size w4 wx)
    case first =>
      go_region_held3 (fun W : World => ∀ o, W.cell? ⟨w2.heap.size, o, none⟩ = #[Value.bool true, .int .i64 fhd.host, .int .i64 fhd.epoch, .int .i64 fhd.seq, .slice A4 fl.length c4, .slice A5 fl.length c5, .int .i64 fu][o]?)
        (first | with_reducible exact HK.out _ hbB | with_reducible exact HK.out _ hbA | with_reducible exact HK.out _ hbd)
        (first
          | (go_at_call 21; refine (HS2.out _ (HBB.out _ hbd)).mono ?_; rintro e wA ⟨A7, c7, A8, c8, rfl, hl7, ha7, hbA⟩; replace hbA := hbd.trans hbA)
          | (go_at_call 24; refine (HSF.out _ _ _ _ _ (hl7.more fun k hk => by simpa using hk) (ha7.more fun k hk => by simpa using hk) (HLL.out _ hbA) (HAL.out _ hbA)).mono ?_; rintro e wB ⟨rfl, hbB⟩; replace hbB := hbA.trans (hbB.mono hbA.size)))
      go_wp2_with fail
      go_meet
      exact ⟨rfl, hbB⟩
    case rest =>
      obtain ⟨rfl, hbc⟩ := hcut
      have hbf := hbE.trans (hbc.mono hbE.size)
      go_wp2
      go_ret
      exact ⟨rfl, hbf⟩
  | false =>
    obtain ⟨rfl, rfl, rfl, rfl, rfl⟩ : fhd = ⟨0, 0, 0⟩ ∧ fl = [] ∧ fa = [] ∧ fu = 0 := by
      have := hS.no rfl
      injection this with _ h1 h2 h3 h4
      exact ⟨h1, h2, h3, h4⟩
    have E := (E.step hb2).push 51 #[.bool false, .int .i64 0, .int .i64 0, .int .i64 0, .slice A4 0 c4, .slice A5 0 c5, .int .i64 0]
    obtain ⟨q1, f1, t1⟩ := E.rules m0
    have hbf := E.below
    clear E hl ha HS htw hf hS
    go_wp2
    go_ret
    exact ⟨rfl, hbf⟩
end Go.Proofs.Ytpacjjaekmipfaa
