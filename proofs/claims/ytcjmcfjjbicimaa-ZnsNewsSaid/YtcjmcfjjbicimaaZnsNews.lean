/- The walk of quicksetlaw05.ZnsNews. -/
import Derived.Test.YtcjmcfjjbicimaaZnsLive
import Derived.Test.YtcjmcfjjbicimaaRefNew05
import Derived.Test.YtcjmcfjjbicimaaRefSame05
namespace Go.Proofs.Ytcjmcfjjbicimaa
open Go.RowKit

set_option maxRecDepth 100000 in
set_option maxHeartbeats 4000000 in
theorem znsNews_any (zones most opn act : Int) (w : World) :
    Calls Try.prog 9 #[.int .i64 zones, .int .i64 most, .int .i64 opn, .int .i64 act] w fun e w' => e = .returned (.bool true) ∧ Below w.heap.size w w' := by
  go_enter Try.func9, Try.ntmps9
  go_wp2_with fail
  refine (live05_any _).mono ?_
  rintro e w1 ⟨rfl, hb1⟩
  go_wp2_with fail
  refine (new_any zones most opn act _).mono ?_
  obtain ⟨r, hr⟩ : ∃ r, newD zones most opn act = r := ⟨_, rfl⟩
  rw [hr]
  have HR := Lib.hid hr
  clear hr
  rintro e w2 ⟨v, rfl, hD1, hb2⟩
  have hD1' := hD1
  obtain ⟨A, k, rfl, _⟩ := hD1'
  have E := ((Kn.from_ (hb1.trans (hb2.mono hb1.size)) (Nat.le_trans hb1.size hb2.size)).give Stable.isD hD1).push 53 #[.int .i64 r.1.cap, .int .i64 r.1.opn, .int .i64 r.1.act, .slice A r.1.z.length k]
  clear hD1 hb1 hb2
  go_wp2_with fail
  refine (refNew05_any zones most opn act _).mono ?_
  rw [HR.out]
  rintro e w3 ⟨v, rfl, hD2, hb3⟩
  have hD2' := hD2
  obtain ⟨A2, k2, rfl, _⟩ := hD2'
  replace E := ((E.step hb3).give Stable.isD hD2).push 53 #[.int .i64 r.1.cap, .int .i64 r.1.opn, .int .i64 r.1.act, .slice A2 r.1.z.length k2]
  obtain ⟨q0, f0, t0⟩ := E.rules m1
  clear hD2 hb3
  have hs : sameD r.1 r.1 = true := sameD_iff.2 rfl
  have HS := Lib.hid hs
  clear hs
  go_wp2_with fail
  refine (refSame05_any r.1 r.1 _ _ _ (E.get m1) (E.get m0)).mono ?_
  rw [HS.out]
  rintro e w4 ⟨rfl, hb4⟩
  replace E := E.step hb4
  clear q0 f0 t0
  go_wp2
  go_ret
  exact ⟨rfl, E.below⟩
end Go.Proofs.Ytcjmcfjjbicimaa
