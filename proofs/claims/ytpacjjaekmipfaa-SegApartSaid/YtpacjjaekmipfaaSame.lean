/- slices.Equal of bytes: it tells whether they are the same. -/
import Derived.Test.YtpacjjaekmipfaaLib
import Derived.Test.YtpacjjaekmipfaaRep
import Derived.BigQuiet
namespace Go.Proofs.Ytpacjjaekmipfaa
open Go.RowKit

set_option maxRecDepth 100000 in
set_option maxHeartbeats 1000000 in
theorem equalB_any (v u : Value) (a b : List UInt8) (K K' : Nat → Prop) (w : World) (hv : IsB w K v a) (hu : IsB w K' u b) :
    Calls Try.prog 41 #[v, u] w fun e w' => e = .returned (.bool (decide (a = b))) ∧ Below w.heap.size w w' := by
  obtain ⟨res, hres⟩ : ∃ res, res = decide (a = b) := ⟨_, rfl⟩
  rw [← hres]
  obtain ⟨A, c, rfl, hr, _, hcc, hl47⟩ := hv
  obtain ⟨A', c', rfl, hr', _, hcc', hl47'⟩ := hu
  by_cases hlen : a.length = b.length
  · have HRES := Lib.hid hres
    clear hres
    go_enter Try.func41, Try.ntmps41
    have hne : ((a.length : Int) != (b.length : Int)) = false := by simp [hlen]
    obtain ⟨n, hn⟩ : ∃ n, a.length = n := ⟨_, rfl⟩
    rw [hn] at hr hlen hne hl47 ⊢
    rw [← hlen] at hr' hne hl47' ⊢
    have HN := Lib.hid hn
    have HL := Lib.hid hlen
    clear hn hlen
    go_wp2
    go_loopw [13] (fun i wr => ∃ j : Nat, i = .int .i64 j ∧ j ≤ n ∧ a.take j = b.take j ∧ Below w.heap.size w wr) (fun i _ => n - (intOf i).toNat)
    case atStart => exact ⟨0, rfl, Nat.zero_le _, rfl, Below.refl _ _⟩
    case round =>
      obtain ⟨j, rfl, hj, heq, hb⟩ := hrel
      have HEQ := Lib.hid heq
      clear heq
      by_cases hlt : j < n
      · obtain ⟨ad, x, rfl, _, hx, hc⟩ := (hr.step hb).at_ hlt
        obtain ⟨ad', x', rfl, _, hx', hc'⟩ := (hr'.step hb).at_ hlt
        obtain ⟨p, hp⟩ : ∃ p, a[j]? = some p := ⟨a[j]'(by have := HN.out; omega), List.getElem?_eq_getElem _⟩
        obtain ⟨q, hq⟩ : ∃ q, b[j]? = some q := ⟨b[j]'(by have := HL.out; omega), List.getElem?_eq_getElem _⟩
        simp only [cells8, List.getElem?_map, hp, hq, Option.map_some, Option.some.injEq] at hx hx'
        subst hx hx'
        unfold B8 at hc hc'
        have hpl := p.toNat_lt
        have hql := q.toNat_lt
        have j1 : (j : Int) < (n : Int) := by omega
        have j0 : (0 : Int) ≤ (j : Int) := by omega
        have HP := Lib.hid hp; have HQ := Lib.hid hq
        clear hp hq
        by_cases hpq : p = q
        · subst hpq
          have d1 : ((p.toNat : Int) != (p.toNat : Int)) = false := by simp
          go_wp2
          go_quiet (fail)
          go_wp2
          go_roundw
          case rel => exact ⟨j + 1, by go_num, by omega, by rw [List.take_add_one, List.take_add_one, HEQ.out, HP.out, HQ.out], below_drewN hb _⟩
          case measure => simp [intOf]; omega
        · have d1 : ((p.toNat : Int) != (q.toNat : Int)) = true := by
            simp only [bne_iff_ne, ne_eq, Int.natCast_inj]
            exact fun e => hpq (UInt8.toNat_inj.1 e)
          go_wp2
          go_quiet (fail)
          go_wp2
          go_ret
          refine ⟨?_, below_drewN hb _⟩
          have hab : ¬ a = b := fun e => hpq (by have := HP.out; rw [e, HQ.out] at this; exact (Option.some.inj this).symm)
          rw [HRES.out, decide_eq_false hab]
          rfl
      · obtain rfl : j = n := by omega
        go_wp2
        go_ret
        refine ⟨?_, hb⟩
        have h1 := HEQ.out
        rw [List.take_of_length_le (by have := HN.out; omega), List.take_of_length_le (by have := HL.out; omega)] at h1
        rw [HRES.out, h1]
        simp
  · have hne : ((a.length : Int) != (b.length : Int)) = true := by
      simp only [bne_iff_ne, ne_eq]; omega
    rw [decide_eq_false fun e => hlen (by rw [e])] at hres
    subst hres
    clear hlen
    go_enter Try.func41, Try.ntmps41
    go_wp2
    go_ret
    exact ⟨rfl, Below.refl _ _⟩
end Go.Proofs.Ytpacjjaekmipfaa
