/- More small words over any program. -/
import Derived.Test.YtpacjjaekmipfaaLib
import Derived.Lib.SlBytesConst
namespace Go.Proofs.Ytpacjjaekmipfaa
open Go.RowKit

/-- '[]byte("..")' of a constant: the literal's row is marked -/
theorem run_bytes_const {P : Program} (t e : TypeId) (ht : P.underlying t = some (.slice e)) (he : P.underlying e = some (.int .u8)) :
    ∀ (w : World) (C : Array Value) (g n c : Nat), w.heap.size = g → (convert t t (.slice (some ⟨g, 0, none⟩) n c)).run P (w.alloc (.cells C e)) = .ok (.slice (some ⟨g, 0, none⟩) n c) (w.alloc (.cells C e (C.size, C.size + 1))) := by
  intro w C g n c hg
  subst hg
  exact Lib.run_convert_bytes_const w t e C n c ht he

def I64 (c : Int) : Value := .int .i64 c

/-- two rows of different element types lie in different blocks -/
theorem own_types_ne {w : World} {base base' : Nat} {e e' : TypeId} {size size' n n' : Nat} {v v' : Value} {xs xs' : List Value} (h : w.ownsRow base e size v n xs) (h' : w.ownsRow base' e' size' v' n' xs') (hne : e ≠ e') :
    v.ownBlock = none ∨ v.ownBlock ≠ v'.ownBlock := by
  rcases h.2 with ⟨rfl, _⟩ | ⟨g, cap, cur, rfl, _, hh, _⟩
  · exact .inl rfl
  · refine .inr ?_
    rcases h'.2 with ⟨rfl, _⟩ | ⟨g', cap', cur', rfl, _, hh', _⟩
    · simp [Value.ownBlock]
    · simp only [Value.ownBlock, ne_eq, Option.some.injEq]
      intro he
      rw [he, hh'] at hh
      injection hh with hh
      injection hh with _ h3
      exact hne h3.symm

/-- an owned row while a block of another element type is written -/
theorem own_setBlk {w : World} {base : Nat} {e t : TypeId} {size n g : Nat} {v : Value} {xs : List Value} {cs : Array Value} (h : w.ownsRow base e size v n xs) (hB : Blk w g t cs) (hne : e ≠ t) (i : Nat) (u : Value) :
    (w.setCell ⟨g, i, none⟩ u).ownsRow base e size v n xs := by
  refine ⟨h.1, ?_⟩
  rcases h.2 with h2 | ⟨g', cap, cur, hv, hg, hh, r⟩
  · exact .inl h2
  · have hgg : g' ≠ g := Blk.ne_ (t := e) hh hB hne
    exact .inr ⟨g', cap, cur, hv, hg, by rw [Below.heap_setCell _ _ _ _ (by simpa using hgg)]; exact hh, r⟩
theorem own_setBlk3 {w : World} {base : Nat} {e t : TypeId} {size n g : Nat} {v : Value} {xs : List Value} {cs : Array Value} {x y z : Value} (h : w.ownsRow base e size v n xs) (hB : Blk w g t cs) (hne : e ≠ t) :
    (((w.setCell ⟨g, 0, none⟩ x).setCell ⟨g, 1, none⟩ y).setCell ⟨g, 2, none⟩ z).ownsRow base e size v n xs :=
  own_setBlk (own_setBlk (own_setBlk h hB hne _ _) (hB.set_ _ _) hne _ _) ((hB.set_ _ _).set_ _ _) hne _ _
theorem Blk.set3 {w : World} {t : TypeId} {g : Nat} {a b c x y z : Value} (h : Blk w g t #[a, b, c]) : Blk (((w.setCell ⟨g, 0, none⟩ x).setCell ⟨g, 1, none⟩ y).setCell ⟨g, 2, none⟩ z) g t #[x, y, z] := ((h.set_ 0 x).set_ 1 y).set_ 2 z

/-- '(x % k + k) % k' -/
theorem norm_mod (x k : Int) (hk : 0 < k) (hk2 : k ≤ 4611686018427387904) : 0 ≤ (wrap64 (x.tmod k + k)).tmod k ∧ (wrap64 (x.tmod k + k)).tmod k < k := by
  have h1 := Int.tmod_lt_of_pos x hk
  have h2 := Int.lt_tmod_of_pos x hk
  have h3 : wrap64 (x.tmod k + k) = x.tmod k + k := by unfold wrap64; omega
  rw [h3]
  exact ⟨Int.tmod_nonneg _ (by omega), Int.tmod_lt_of_pos _ hk⟩

/-- what an append to one row leaves of another, of another element type -/
theorem own_grew {w w' : World} {base base' : Nat} {e e' : TypeId} {size size' n n' : Nat} {v v0 v1 : Value} {xs xs' : List Value} (h : w.ownsRow base e size v n xs) (h' : w.ownsRow base' e' size' v0 n' xs') (hne : e ≠ e') (hg : Grew base' w w' v0 v1) :
    w'.ownsRow base e size v n xs := h.kept hg.grown (own_types_ne h h' hne)
theorem Blk.grew {w w' : World} {g : Nat} {t e' : TypeId} {cs : Array Value} {base' size' n' : Nat} {v0 v1 : Value} {xs' : List Value} (h : Blk w g t cs) (h' : w.ownsRow base' e' size' v0 n' xs') (hne : e' ≠ t) (hg : Grew base' w w' v0 v1) : Blk w' g t cs :=
  h.grown hg.grown (fun e => own_blk_ne h' h hne e.symm)

theorem IsB.below {w w' : World} {B : Nat} {K : Nat → Prop} {v : Value} {l : List UInt8} (h : IsB w K v l) (hb : Below B w w') (hK : ∀ b, K b → b < B) : IsB w' K v l := h.keep fun _ hp _ => hb.cell (hK _ hp)

/-- 'append(s, x)' of one cell, the new cell's block named as the walk names it -/
theorem wpList_app1g {P : Program} {w : World} {ops : Array Oper} {rest : List Oper} {o : Oper} {a : Act} {Q : Exit → Act → World → Prop} (hgd : o.guard = none) (s x : Operand) (t : TypeId)
    (ho : o.op = .call { callee := .builtin .append, args := #[s, x], argTypes := #[t, t] })
    (base : Nat) (e : TypeId) (i : TypeInfo) (z : Value) (bytes : Nat) (ht : P.underlying t = some (.slice e)) (hi : P.info? e = some i) (hz : i.zero = some z)
    (hsize : i.size = 1) (hby : i.bytes = bytes) (hzs : z.cells.size = 1)
    {v : Value} {n : Nat} {xs : List Value} (hs : a.eval s = v) (hown : w.ownsRow base e 1 v n xs)
    {u : Value} {g : Nat} (hx : a.eval x = .slice (some ⟨g, 0, none⟩) 1 1) (hg : w.heap.size = g) (h1 : u.oneCell' = true)
    (h63 : n + 1 ≤ maxLen) (hbytes : (n + 1) * bytes ≤ 140737488355328) (hbase : base ≤ w.heap.size)
    (h : ∀ A' c' w', w'.ownsRow base e 1 (.slice A' (n + 1) c') (n + 1) (xs ++ [u]) → Grew base w w' v (.slice A' (n + 1) c') → wpList P ops Q rest (a.put o.dst (.slice A' (n + 1) c')) w') :
    wpList P ops Q (o :: rest) a (w.alloc (.cells #[u] e)) := by
  subst hg
  exact wpList_app1 hgd s x t ho base e i z bytes ht hi hz hsize hby hzs hs hown hx h1 h63 hbytes hbase h

end Go.Proofs.Ytpacjjaekmipfaa
