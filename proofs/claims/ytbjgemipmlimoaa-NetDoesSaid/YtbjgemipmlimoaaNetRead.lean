/- The walk of net.Read. -/
import Derived.Test.YtbjgemipmlimoaaNetIO
import Derived.Deep.DrawnRows
namespace Go.Proofs.Ytbjgemipmlimoaa
open Go.RowKit

theorem OwnR.putB {w wx w' : World} {base : Nat} {X : Nat → Prop} {A A' : Option Addr} {c c' n : Nat} {cs : List Value} {l : List Ms} {m : Ms} {A1 : Option Addr} {c1 : Nat} {A2 : Option Addr} {c2 : Nat} {t : TypeId} (hb : Below w.heap.size w wx) (hn : l.length = n)
    (hcl : CellsL Rp.msg w (fun b => X b ∧ b < w.heap.size ∧ some b ≠ (Value.slice A n c).ownBlock) cs l) (him : IsM w (fun b => X b ∧ b < w.heap.size ∧ some b ≠ (Value.slice A n c).ownBlock) (mv m A1 c1 A2 c2) m)
    (hown : w'.ownsRow base t 6 (.slice A' (n + 1) c') (n + 1) (cs ++ cellsM m A1 c1 A2 c2)) (hg : Grew base wx w' (.slice A n c) (.slice A' (n + 1) c')) :
    OwnR Rp.msg w' base t X (.slice A' (n + 1) c') (l ++ [m]) := by
  subst hn
  have hs : ∀ b, (X b ∧ b < w.heap.size ∧ some b ≠ (Value.slice A l.length c).ownBlock) → (X b ∧ b < wx.heap.size ∧ some b ≠ (Value.slice A l.length c).ownBlock) := fun b h => ⟨h.1, by have := hb.size; omega, h.2.2⟩
  exact OwnR.push ((hcl.step hb).more hs) (Rp.msg.more (Rp.step (isM_cells him) hb) hs) hown hg

def ReadInv (w w2 wr : World) (g6 : Nat) (most : Int) (R : Option (List Ms)) (N : Nat) (x0 : Value) (fuel : Nat) : Prop :=
  ∃ (rest : List UInt8) (q : List Ms) (A : Option Addr) (c : Nat), IsB wr (· < w.heap.size) x0 rest ∧ rest.length ≤ fuel ∧ readG fuel rest q = R ∧ q.length + rest.length ≤ N ∧ Blk wr g6 38 #[.int .i64 most, .slice A q.length c] ∧
    OwnR Rp.msg wr w2.heap.size 45 (fun b => g6 < b) (.slice A q.length c) q ∧ Below w.heap.size w wr ∧ Blk wr w.heap.size 38 #[.int .i64 0, .slice none 0 0] ∧ w2.heap.size ≤ wr.heap.size

set_option maxRecDepth 100000 in
set_option maxHeartbeats 8000000 in
theorem read_any (v : Value) (b : List UInt8) (most : Int) (K : Nat → Prop) (w : World) (hv : IsB w K v b) (hl9 : b.length ≤ 1000000000) :
    Calls Try.prog 46 #[v, .int .i64 most] w fun e w' => ∃ A' c', e = .returned (.tuple #[.agg #[.int .i64 (readN b most).1, .slice A' (readN b most).2.1.length c'], .int .i64 (readN b most).2.2]) ∧
      OwnR Rp.msg w' w.heap.size 45 (fun b => w.heap.size ≤ b) (.slice A' (readN b most).2.1.length c') (readN b most).2.1 ∧ Below w.heap.size w w' := by
  obtain ⟨i0, hi, hz0, hz1, hz2⟩ := info_parts Try.infM
  obtain ⟨res, hres⟩ : ∃ res, readN b most = res := ⟨_, rfl⟩
  rw [hres]
  have hv1 := (hv.lt).more (K' := (· < w.heap.size)) (fun b hb => hb.2)
  obtain ⟨r, hr⟩ : ∃ r, newN most = r := ⟨_, rfl⟩
  obtain ⟨nc, ne⟩ := r
  have hcap : ne = 0 → nc = most := by
    intro h
    unfold newN at hr
    split at hr
    · injection hr with h1 h2; exact h1.symm
    · injection hr with h1 h2; omega
  have hcap2 : ne ≠ 0 → nc = 0 := by
    intro h
    unfold newN at hr
    split at hr
    · injection hr with h1 h2; omega
    · injection hr with h1 h2; exact h1.symm
  have hrd : res = if ne ≠ 0 then (0, [], ne) else match readG b.length b [] with
    | none => (0, [], 21)
    | some q => if most < q.length then (0, [], 2) else (most, q, 0) := by rw [← hres]; unfold readN; rw [hr]; rfl
  have HRES := Lib.hid hrd; clear hrd hres
  have HR := Lib.hid hr; clear hr
  have E := ((Kn.start w).give Stable.bytes hv1).push 38 #[.int .i64 0, .slice none 0 0]
  obtain ⟨A0, c0, rfl, _⟩ := hv
  clear hv1
  by_cases hne : ne = 0
  · subst hne
    have hcm := hcap rfl
    subst hcm
    clear hcap hcap2
    go_enter Try.func46, Try.ntmps46
    go_wp2_with fail
    refine (netNew_any nc _).mono ?_
    rw [HR.out]
    rintro e w1 ⟨rfl, hb1⟩
    replace E := (E.step hb1).push 38 #[.int .i64 nc, .slice none 0 0]
    have s1 := hb1.size
    simp at s1
    clear hb1
    go_wp2_with fail
    generalize hw2 : w1.alloc (.cells #[.int .i64 nc, .slice none 0 0] 38) = w2 at E ⊢
    have s2 : w1.heap.size < w2.heap.size := (E.at_ m0).lt
    clear hw2
    obtain ⟨R, hR⟩ : ∃ R, readG b.length b [] = R := ⟨_, rfl⟩
    have HRR := Lib.hid hR
    go_loopg [0, 8, 9, 10] b.length (fun fuel x0 x8 x9 x10 wr => ReadInv w w2 wr w1.heap.size nc R b.length x0 fuel ∧ (∃ y8 y9 y10, x8 = y8 ∧ x9 = y9 ∧ x10 = y10))
    case atStart => exact ⟨⟨b, [], none, 0, E.get m0, Nat.le_refl _, hR, by simp, E.at_ m0, OwnR.nil_ _ _ _ _, E.below, E.at_ m1, Nat.le_refl _⟩, _, _, _, rfl, rfl, rfl⟩
    case round =>
      obtain ⟨⟨rest, q, A, c, hb, hfu, hrg, hN, C6, hown, hbw, C4, h2r⟩, y8, y9, y10, rfl, rfl, rfl⟩ := hrel
      have hb0 := hb
      obtain ⟨Ab, cb, rfl, hrb, hlcb, hccb, hl47⟩ := hb
      have F := ((((Kn.from_ hbw hbw.size).give Stable.bytes hb0).give (f := fun W => OwnR Rp.msg W w2.heap.size 45 (fun b => w1.heap.size < b) (.slice A q.length c) q) (fun _ _ h hb => OwnR.step h hb) hown).know C4).know C6
      have hg6 := C6.lt
      have hg4 := C4.lt
      have HROWR := Lib.hid (OwnR.rowlt hown)
      clear hb0 hown C4 C6
      by_cases hnil : rest.length = 0
      · have hrn : rest = [] := List.eq_nil_of_length_eq_zero hnil
        subst hrn
        have hRq : R = some q := by rw [← hrg]; cases gk <;> rfl
        have hx : res = if nc < q.length then (0, [], 2) else (nc, q, 0) := by rw [HRES.out, HRR.out, hRq]; simp
        have HX := Lib.hid hx
        clear hx hRq hrg hnil
        obtain ⟨q1, f1, t1⟩ := F.rules m0
        obtain ⟨q2, f2, t2⟩ := F.rules m1
        by_cases hlong : nc < (q.length : Int)
        · have hx : res = (0, [], 2) := by rw [HX.out, if_pos hlong]
          have HX2 := Lib.hid hx
          clear hx
          go_wp2
          rw [HX2.out]
          have G := ((F.at_ m1).set2 (x := .int .i64 0) (y := .slice none 0 0)).rules
          refine bodyPost_ret (v := .tuple #[.agg #[.int .i64 0, .slice none 0 0], .int .i64 2]) (by simp [results, Try.results46, go_sem, G.1]) rfl ⟨none, 0, rfl, OwnR.nil_ _ _ _ _, below_set2 F.below (Nat.le_refl _)⟩
        · have hx : res = (nc, q, 0) := by rw [HX.out, if_neg hlong]
          have HX2 := Lib.hid hx
          have hlong' : ¬ nc < (q.length : Int) := hlong
          clear hx hlong
          go_wp2
          rw [HX2.out]
          have G := ((F.at_ m1).set2 (x := .int .i64 nc) (y := .slice A q.length c)).rules
          refine bodyPost_ret (v := .tuple #[.agg #[.int .i64 nc, .slice A q.length c], .int .i64 0]) (by simp [results, Try.results46, go_sem, G.1]) rfl ⟨A, c, rfl, ?_, below_set2 F.below (Nat.le_refl _)⟩
          have h1 := OwnR.far (F.get m0) (F.at_ m1) (by decide) (by omega) 0 (.int .i64 nc)
          have h2 := h1.far ((F.at_ m1).set_ 0 _) (by decide) (by omega) 1 (.slice A q.length c)
          exact (h2.lower (by omega)).more (fun b hb _ => by omega)
      · obtain ⟨k, rfl⟩ : ∃ k, gk = k + 1 := ⟨gk - 1, by omega⟩
        obtain ⟨ab, rfl, _⟩ := hrb.2 (by omega)
        obtain ⟨t, ht⟩ : ∃ t, takeMsgL rest = t := ⟨_, rfl⟩
        have hone := fun m k h => takeMsg_one (b := rest) (m := m) (k := k) h
        have hne0 : ¬ rest = [] := fun h => hnil (by rw [h]; rfl)
        unfold readG at hrg
        rw [if_neg hne0, ht] at hrg
        rw [ht] at hone
        obtain ⟨m, kk, ee⟩ := t
        simp only at hrg
        have HT := Lib.hid ht
        have HRG := Lib.hid hrg
        have hpos : (0 : Int) < (rest.length : Int) := by omega
        have hone2 : ee = 0 → ∃ j : Nat, kk = (j : Int) ∧ 1 ≤ j ∧ j ≤ rest.length ∧ okM m := fun h => by
          subst h
          obtain ⟨j, h1, h2, h3, _, h4⟩ := hone m kk rfl
          exact ⟨j, h1, h2, h3, h4⟩
        have HONE := Lib.hid hone2
        clear ht hrg hone hone2 hne0 hnil
        go_wp2_with fail
        refine (takeMsg_any _ rest _ _ (F.get m1) (by omega)).mono ?_
        rw [HT.out]
        rintro e w4 ⟨v4, rfl, him, hb4⟩
        have s4 := hb4.size
        obtain ⟨A1, c1, A2, c2, rfl, hrp⟩ := isM_rp him.lt
        clear hrp
        unfold mv
        replace F := ((F.step hb4).give Stable.msg him).push 45 #[.int .i64 m.kind, .int .i64 m.frm, .int .i64 m.to, .int .i64 m.id, .slice A1 m.args.length c1, .slice A2 m.data.length c2]
        clear him hb4
        by_cases hee : ee = 0
        · subst hee
          obtain ⟨j, rfl, hj1, hj2, hokm⟩ := HONE.out rfl
          have hargs : m.args.length ≤ 64 := hokm.2.1
          clear hokm
          go_upto_region 8 with fail
          generalize hwA : w4.alloc (.cells #[.int .i64 m.kind, .int .i64 m.frm, .int .i64 m.to, .int .i64 m.id, .slice A1 m.args.length c1, .slice A2 m.data.length c2] 45) = wA at F ⊢
          have s4A : w4.heap.size < wA.heap.size := (F.at_ m0).lt
          clear hwA
          have hown := F.get m1
          have hrow := OwnR.rowlt hown
          have HROW := Lib.hid hrow
          obtain ⟨hjj, cs, own5, cl5⟩ := OwnR.open_ hown
          clear hjj hown hrow
          replace own5 : wA.ownsRow w2.heap.size 45 6 (.slice A q.length c) q.length cs := own5
          have HIM := Lib.hid (F.get m0)
          have HCL := Lib.hid cl5
          have HOWN := Lib.hid own5
          clear cl5 own5
          have HN := Lib.hid hN
          obtain ⟨A3, hA3⟩ : ∃ A3, (if cb = j then some ab else some (ab.add j)) = A3 := ⟨_, rfl⟩
          have hcutb := cut_bytes (F.get m2) (at' := j) hj2
          rw [show (if cb = j then some ab else (some ab).map (·.add j)) = A3 from hA3] at hcutb
          have HCUT := Lib.hid hcutb
          clear hcutb
          have i0' : (0 : Int) ≤ (j : Int) := by omega
          have i2 : (j : Int) ≤ (rest.length : Int) := by omega
          have i3 : (rest.length : Int) ≤ (cb : Int) := by omega
          have i4 : (j : Int) ≤ (cb : Int) := by omega
          obtain ⟨q8, f8, t8⟩ := F.rules m0
          obtain ⟨q6, f6, t6⟩ := F.rules m1
          have hql : q.length ≤ 1000000000 := by omega
          have hownA : ((wA.alloc (.cells #[.int .i64 m.kind, .int .i64 m.frm, .int .i64 m.to, .int .i64 m.id, .slice A1 m.args.length c1, .slice A2 m.data.length c2] 45)).drew).ownsRow w2.heap.size 45 6 (.slice A q.length c) q.length cs := HOWN.out.alloc (.cells #[.int .i64 m.kind, .int .i64 m.frm, .int .i64 m.to, .int .i64 m.id, .slice A1 m.args.length c1, .slice A2 m.data.length c2] 45)
          have hrdA : Reads ((wA.alloc (.cells #[.int .i64 m.kind, .int .i64 m.frm, .int .i64 m.to, .int .i64 m.id, .slice A1 m.args.length c1, .slice A2 m.data.length c2] 45)).drew) (fun b => b = wA.heap.size) 6 (some ⟨wA.heap.size, 0, none⟩) 1 (cellsM m A1 c1 A2 c2) := Reads.new (xs := cellsM m A1 c1 A2 c2) (n := 1) rfl rfl rfl
          have hB6A : Blk ((wA.alloc (.cells #[.int .i64 m.kind, .int .i64 m.frm, .int .i64 m.to, .int .i64 m.id, .slice A1 m.args.length c1, .slice A2 m.data.length c2] 45)).drew) w1.heap.size 38 #[.int .i64 nc, .slice A q.length c] := (F.at_ m1).alloc (.cells #[.int .i64 m.kind, .int .i64 m.frm, .int .i64 m.to, .int .i64 m.id, .slice A1 m.args.length c1, .slice A2 m.data.length c2] 45)
          have hszA : w2.heap.size ≤ ((wA.alloc (.cells #[.int .i64 m.kind, .int .i64 m.frm, .int .i64 m.to, .int .i64 m.id, .slice A1 m.args.length c1, .slice A2 m.data.length c2] 45)).drew).heap.size := by simp; omega
          have HOWNA := Lib.hid hownA; have HRDA := Lib.hid hrdA; have HB6A := Lib.hid hB6A
          clear hownA hrdA hB6A
          go_region_law (first
            | (refine step_appN (by rfl) (.tmp 33) (.tmp 35) _ (by rfl) w2.heap.size 45 i0 _ 6 80 Try.underlying35 hi hz0 hz1 hz2 rfl (by omega) (by rfl) HOWNA.out (by rfl) HRDA.out cellsM_one (by simp only [maxLen]; omega) (by omega) hszA ?_
               intro A9 c9 wP own9 hg9
               have D6P := HB6A.out.grew HOWNA.out (by decide) hg9
               obtain ⟨qP, fP⟩ := D6P.rules
               have tP := D6P.lt))
          all_goals
            go_wp2
            go_roundg k
            case measure => omega
            have hsP := hg9.below.size
            have hbA : Below wA.heap.size wA ((wA.alloc (.cells #[.int .i64 m.kind, .int .i64 m.frm, .int .i64 m.to, .int .i64 m.id, .slice A1 m.args.length c1, .slice A2 m.data.length c2] 45)).drew) := ((Below.refl _ _).alloc (Nat.le_refl _) _).drew
            have hlr : (rest.drop j).length = rest.length - j := by rw [List.length_drop]
            have hlq : (q ++ [m]).length = q.length + 1 := by simp
            have hBn : IsB wA (· < w.heap.size) (.slice A3 (rest.length - j) (cb - j)) (rest.drop j) := ⟨A3, cb - j, by rw [hlr], by rw [hlr]; exact HCUT.out, by rw [hlr]; omega, by omega, by rw [hlr]; omega⟩
            have hO := OwnR.putB (w := wA) (X := fun b => w1.heap.size < b) hbA rfl HCL.out (HIM.out.lt.more fun b hb => ⟨by omega, hb.2, fun e => by
              have h2 := hb.1
              have h3 := (HROWR.out b e.symm).2
              omega⟩) own9 hg9
            have hszc : w2.heap.size ≤ (wP.setCell ⟨w1.heap.size, 1, none⟩ (.slice A9 (q.length + 1) c9)).heap.size := by simp [World.setCell]; omega
            refine ⟨⟨rest.drop j, q ++ [m], A9, c9, ((hBn.step hbA).below hg9.below (fun b hb => by omega)).far (by omega) 1 _, by rw [hlr]; omega, ?_, by rw [hlr, hlq]; have := HN.out; omega, by rw [hlq]; exact D6P.set_ 1 _, by rw [hlq]; exact hO.far D6P (by decide) (by omega) 1 _,
              ((F.below.trans (hbA.mono F.below.size)).trans (hg9.below.mono (by omega))).setCell (by show w.heap.size ≤ w1.heap.size; omega) _, ((Blk.grew ((F.at_ m2).alloc (.cells #[.int .i64 m.kind, .int .i64 m.frm, .int .i64 m.to, .int .i64 m.id, .slice A1 m.args.length c1, .slice A2 m.data.length c2] 45)).drew HOWNA.out (by decide) hg9).far (by show w.heap.size ≠ w1.heap.size; omega) _), hszc⟩, _, _, _, rfl, rfl, rfl⟩
            simpa using HRG.out
        · have heb : (ee != 0) = true := by simpa using hee
          have hx : res = (0, [], 21) := by
            have h := HRG.out
            rw [if_neg hee] at h
            rw [HRES.out, HRR.out, ← h]; simp
          have HX := Lib.hid hx
          clear hx hee
          obtain ⟨q2, f2, t2⟩ := F.rules m2
          go_wp2
          rw [HX.out]
          have G := ((F.at_ m2).set2 (x := .int .i64 0) (y := .slice none 0 0)).rules
          refine bodyPost_ret (v := .tuple #[.agg #[.int .i64 0, .slice none 0 0], .int .i64 21]) (by simp [results, Try.results46, go_sem, G.1]) rfl ⟨none, 0, rfl, OwnR.nil_ _ _ _ _, below_set2 F.below (Nat.le_refl _)⟩
  · have hcz := hcap2 hne
    subst hcz
    have hx : res = (0, [], ne) := by rw [HRES.out, if_pos hne]
    have HX := Lib.hid hx
    have heb : (ne != 0) = true := by simpa using hne
    clear hx hne hcap hcap2
    go_enter Try.func46, Try.ntmps46
    go_wp2_with fail
    refine (netNew_any most _).mono ?_
    rw [HR.out]
    rintro e w1 ⟨rfl, hb1⟩
    replace E := E.step hb1
    obtain ⟨q2, f2, t2⟩ := E.rules m0
    have s1 := E.base
    go_wp2
    rw [HX.out]
    have G := (((E.at_ m0).set2 (x := .int .i64 0) (y := .slice none 0 0)).alloc (.cells #[.int .i64 0, .slice none 0 0] 38)).rules
    refine bodyPost_ret (v := .tuple #[.agg #[.int .i64 0, .slice none 0 0], .int .i64 ne]) (by simp [results, Try.results46, go_sem, G.1]) rfl ⟨none, 0, rfl, OwnR.nil_ _ _ _ _, ?_⟩
    exact (below_set2 E.below (Nat.le_refl _)).alloc (by rw [size_set2]; exact s1) _
end Go.Proofs.Ytbjgemipmlimoaa
