/- Bytes do not lie in a block of no bytes; a command leaves as many zones as there were. -/
import Derived.Test.YtcjmcfjjbicimaaRepZ
import Derived.Test.YtcjmcfjjbicimaaDeskOps
namespace Go.Proofs.Ytcjmcfjjbicimaa
open Go.RowKit

/-- bytes do not lie in a block of no bytes -/
theorem IsB.away {w : World} {K : Nat → Prop} {v : Value} {l : List UInt8} {b : Nat} {t : TypeId} {cs : Array Value} (h : IsB w K v l) (hB : Blk w b t cs) (hc : ∀ (o : Nat) (n : Int), cs[o]? ≠ some (Value.int .u8 n)) : IsB w (fun x => K x ∧ x ≠ b) v l := by
  obtain ⟨A, c, rfl, ⟨h1, h2⟩, h3⟩ := h
  refine ⟨A, c, rfl, ⟨h1, fun hn => ?_⟩, h3⟩
  obtain ⟨ad, e, hK, hc'⟩ := h2 hn
  refine ⟨ad, e, ⟨hK, fun hb => ?_⟩, hc'⟩
  obtain ⟨x, l', rfl⟩ : ∃ x l', l = x :: l' := by
    cases l with
    | nil => exact absurd hn (Nat.lt_irrefl _)
    | cons x l' => exact ⟨x, l', rfl⟩
  have h0 := hc' 0 (B8 x) rfl
  rw [addr0] at h0
  obtain ⟨ab, ao, az⟩ := ad
  have hb' : ab = b := hb
  subst hb'
  unfold Blk at hB
  cases az with
  | some s => simp [World.cell?, hB] at h0
  | none =>
    rw [show w.cell? ⟨ab, ao, none⟩ = cs[ao]? by simp [World.cell?, hB]] at h0
    exact hc _ _ h0
theorem CellsL.zaway {w : World} {K : Nat → Prop} {b : Nat} {t : TypeId} {cs9 : Array Value} (hB : Blk w b t cs9) (hc : ∀ (o : Nat) (n : Int), cs9[o]? ≠ some (Value.int .u8 n)) : ∀ {l : List Zn} {cs : List Value}, CellsL Rp.zone w K cs l → CellsL Rp.zone w (fun x => K x ∧ x ≠ b) cs l
  | [], _, h => h
  | _ :: _, _, ⟨c1, c2, e, ⟨v, e1, h1⟩, h2⟩ => ⟨c1, c2, e, ⟨v, e1, h1.away hB hc⟩, h2.zaway hB hc⟩
theorem RowZ.away {w : World} {g : Nat} {t : TypeId} {K : Nat → Prop} {l : List Zn} {b : Nat} {t9 : TypeId} {cs9 : Array Value} (h : RowZ w g t K l) (hB : Blk w b t9 cs9) (hc : ∀ (o : Nat) (n : Int), cs9[o]? ≠ some (Value.int .u8 n)) : RowZ w g t (fun x => K x ∧ x ≠ b) l := by
  obtain ⟨cs, sp, h1, h2⟩ := h; exact ⟨cs, sp, h1, h2.zaway hB hc⟩
theorem nb4 {a b c : Int} : ∀ (o : Nat) (n : Int), (#[.int .i64 a, .int .i64 b, .int .i64 c, .slice none 0 0] : Array Value)[o]? ≠ some (Value.int .u8 n) := by
  intro o n
  rcases o with _ | _ | _ | _ | o <;> simp
theorem nb3 {a b : Int} : ∀ (o : Nat) (n : Int), (#[.int .i64 a, .int .i64 b, .slice none 0 0] : Array Value)[o]? ≠ some (Value.int .u8 n) := by
  intro o n
  rcases o with _ | _ | _ | o <;> simp

theorem doK_len (d : Zd) (i : Nat) (c : Cm) : (doK d i c).2.1.length = d.z.length := by
  have hr := room_len d i
  have ha : (appendK d i c).2.1.length = d.z.length := by
    unfold appendK
    dsimp only
    (repeat' split) <;> simp [hr]
  unfold doK tornK readK openK closeK fenceK
  dsimp only
  (repeat' split) <;> simp [hr, ha]
end Go.Proofs.Ytcjmcfjjbicimaa
