/- Bytes do not lie in a block of a struct of ints and a slice. -/
import Derived.Test.YtcjmcfjjbicimaaMore
namespace Go.Proofs.Ytcjmcfjjbicimaa
open Go.RowKit

theorem cell_of_heap {w w' : World} {p : Addr} (h : w'.heap[p.block]? = w.heap[p.block]?) : w'.cell? p = w.cell? p := by
  unfold World.cell?; rw [h]

theorem IsB.apart {w : World} {K : Nat → Prop} {v : Value} {l : List UInt8} {g : Nat} {t : TypeId} {a b : Int} {A : Option Addr} {n c : Nat} (h : IsB w K v l) (hB : Blk w g t #[.int .i64 a, .int .i64 b, .slice A n c]) : IsB w (fun b => b ≠ g) v l := by
  obtain ⟨A2, c2, rfl, ⟨hlen, hr⟩, r⟩ := h
  refine ⟨A2, c2, rfl, ⟨hlen, fun hn => ?_⟩, r⟩
  obtain ⟨ad, rfl, _, hc⟩ := hr hn
  refine ⟨ad, rfl, fun hg => ?_, hc⟩
  have h0 := hc 0 (B8 l[0]) (by unfold cells8; rw [List.getElem?_map, List.getElem?_eq_getElem hn]; rfl)
  have e : ad.add 0 = ad := by unfold Addr.add; simp
  rw [e] at h0
  unfold World.cell? at h0
  unfold Blk at hB
  rw [hg, hB] at h0
  simp only at h0
  split at h0
  · cases h0
  · rcases ho : ad.off with _ | _ | _ | k
    all_goals (rw [ho] at h0; simp [B8] at h0)

theorem IsB.set3 {w : World} {v : Value} {l : List UInt8} {g : Nat} {x y z : Value} (h : IsB w (fun b => b ≠ g) v l) :
    IsB (((w.setCell ⟨g, 0, none⟩ x).setCell ⟨g, 1, none⟩ y).setCell ⟨g, 2, none⟩ z) (fun b => b ≠ g) v l := by
  refine h.keep fun p hp _ => cell_of_heap ?_
  rw [Below.heap_setCell _ _ _ _ (by exact hp), Below.heap_setCell _ _ _ _ (by exact hp), Below.heap_setCell _ _ _ _ (by exact hp)]
end Go.Proofs.Ytcjmcfjjbicimaa
