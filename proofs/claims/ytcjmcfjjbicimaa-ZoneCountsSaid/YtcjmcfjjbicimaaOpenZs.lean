/- A slice of zones among the arguments, opened. -/
import Derived.Test.YtcjmcfjjbicimaaOpenZ
import Derived.Test.YtcjmcfjjbicimaaZones
namespace Go.Proofs.Ytcjmcfjjbicimaa
open Go.RowKit Go.WideShapes Go.ChangeShapes Go.Deep

section
variable {H : Type} {enc : TypeId × Value → H} {w : World}

theorem Try.bZ : Try.prog.bytesOf 26 = 40 := by kernel_rfl

theorem open_zones_arg {base : Nat} {v : Value} {d : DataW H} {p : List MemPlace} (hv : Value.okWide Try.prog w .any base 41 v) (h : DataW.Trod enc Try.prog w 0 (fun _ => true) true 41 v d p) (hs : Small Try.prog 41 d) :
    ∃ (zs : List Zn) (SA : Option Addr) (c : Nat), v = .slice SA zs.length c ∧ zs.length * 40 ≤ 140737488351232 ∧ IsZs w (· < w.heap.size) SA zs := by
  obtain ⟨A, n, c, rfl⟩ := okWide_slice Try.underlying41 hv
  obtain ⟨fuel, hf⟩ := h
  rcases open_slice Try.underlying41 hf with ⟨h0, _⟩ | ⟨a, len, cap, m, k, D, Pl, h0, _, hl, hm, hmm, hx, hi⟩
  · have : Value.slice A n c = .slice none 0 0 := by simpa [Value.cells] using h0
    rw [this]
    exact ⟨[], none, 0, rfl, by simp, fun h => by simp at h⟩
  · have : Value.slice A n c = .slice (some a) len cap := by simpa [Value.cells] using h0
    rw [this]
    simp only [if_true] at hmm
    have hmm' := hmm.symm
    subst hmm'
    simp only [Prod.mk.injEq] at hx
    rw [hx.1] at hs
    obtain ⟨hb, hel⟩ := Small.slice Try.underlying41 hs
    simp only [List.length_map, List.length_range] at hb
    have hr := reach47
    rw [Try.bZ] at hb
    rw [Try.cZ] at hi
    have each : ∀ i, i < len → ∃ y : Zn, ∃ A c, w.cell? (a.add (i * 3)) = some (.int .i64 y.st) ∧ w.cell? ⟨(a.add (i * 3)).block, (a.add (i * 3)).off + 1, none⟩ = some (.int .i64 y.fe) ∧
        w.cell? ⟨(a.add (i * 3)).block, (a.add (i * 3)).off + 2, none⟩ = some (.slice A y.d.length c) ∧ IsB w (· < w.heap.size) (.slice A y.d.length c) y.d := by
      intro i hil
      obtain ⟨cs', hc, htr⟩ := hi i (by omega)
      obtain ⟨z, A, c, rfl, hB⟩ := open_zone_cells htr (hel _ (List.mem_map.2 ⟨i, List.mem_range.2 hil, rfl⟩))
      obtain ⟨_, _, hat⟩ := World.cells?_some hc
      refine ⟨z, A, c, ?_, ?_, ?_, hB⟩
      · simpa [Addr.add] using hat 0 (by omega)
      · simpa [Addr.add] using hat 1 (by omega)
      · simpa [Addr.add] using hat 2 (by omega)
    obtain ⟨y, hy⟩ := choose_lt each
    refine ⟨(List.range len).map y, some a, cap, by simp, by simp; omega, fun hn => ⟨a, rfl, ?_, fun i z hz => ?_⟩⟩
    · simp only [List.length_map, List.length_range] at hn
      obtain ⟨A, c, c0, _⟩ := hy 0 hn
      have := World.block_lt_of_cell? w _ c0
      simpa [Addr.add] using this
    · rw [List.getElem?_map] at hz
      rcases Nat.lt_or_ge i len with hj | hj
      · rw [List.getElem?_range hj] at hz
        simp only [Option.map_some, Option.some.injEq] at hz
        subst hz
        exact hy i hj
      · rw [List.getElem?_eq_none (by simpa using hj)] at hz; cases hz
end
end Go.Proofs.Ytcjmcfjjbicimaa
