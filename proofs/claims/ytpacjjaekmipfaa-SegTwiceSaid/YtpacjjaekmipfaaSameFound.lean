/- ref03's SameFound of what is the same. -/
import Derived.Test.YtpacjjaekmipfaaSameSeg
import Derived.Test.YtpacjjaekmipfaaScan
namespace Go.Proofs.Ytpacjjaekmipfaa
open Go.RowKit

set_option maxRecDepth 100000 in
set_option maxHeartbeats 2000000 in
theorem sameFound_any (f : Fd) (A1 A2 A3 A4 : Option Addr) (c1 c2 c3 c4 : Nat) (K1 K2 K3 K4 : Nat → Prop) (w : World) (hl : IsL Rp.rc w K1 (.slice A1 f.l.length c1) f.l) (ha : IsL Rp.int w K2 (.slice A2 f.at_.length c2) f.at_) (hm : IsL Rp.rc w K3 (.slice A3 f.l.length c3) f.l) (hb : IsL Rp.int w K4 (.slice A4 f.at_.length c4) f.at_) :
    Calls Try.prog 24 #[.agg (fdC f (.slice A1 f.l.length c1) (.slice A2 f.at_.length c2)), .agg (fdC f (.slice A3 f.l.length c3) (.slice A4 f.at_.length c4))] w fun e w' => e = .returned (.bool true) ∧ Below w.heap.size w w' := by
  unfold fdC
  have E := ((((((Kn.start w).give Stable.list hl).give Stable.list ha).give Stable.list hm).give Stable.list hb).push 51 #[.bool f.head, .int .i64 f.h.host, .int .i64 f.h.epoch, .int .i64 f.h.seq, .slice A1 f.l.length c1, .slice A2 f.at_.length c2, .int .i64 f.used]).push 51 #[.bool f.head, .int .i64 f.h.host, .int .i64 f.h.epoch, .int .i64 f.h.seq, .slice A3 f.l.length c3, .slice A4 f.at_.length c4, .int .i64 f.used]
  obtain ⟨q1, f1, t1⟩ := E.rules m1
  obtain ⟨q2, f2, t2⟩ := E.rules m0
  rw [World.size_alloc] at q2 f2 t2
  go_enter Try.func24, Try.ntmps24
  go_wp2_with fail
  refine (sameRecs_any _ _ f.l _ _ _ (E.get m3) (E.get m1)).mono ?_
  rintro e w1 ⟨rfl, hb1⟩
  have E := E.step hb1
  obtain ⟨q1, f1, t1⟩ := E.rules m1
  obtain ⟨q2, f2, t2⟩ := E.rules m0
  rw [World.size_alloc] at q2 f2 t2
  go_wp2_with fail
  refine (sameInts_any _ _ f.at_ _ _ _ (E.get m2) (E.get m0)).mono ?_
  rintro e w2 ⟨rfl, hb2⟩
  have E := E.step hb2
  obtain ⟨q1, f1, t1⟩ := E.rules m1
  obtain ⟨q2, f2, t2⟩ := E.rules m0
  rw [World.size_alloc] at q2 f2 t2
  have hb := E.below
  go_wp2
  go_ret
  exact ⟨rfl, hb⟩
end Go.Proofs.Ytpacjjaekmipfaa
