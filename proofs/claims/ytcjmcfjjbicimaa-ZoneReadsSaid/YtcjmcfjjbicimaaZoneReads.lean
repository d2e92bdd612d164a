/- The walk of quicksetlaw04.ZoneReads. -/
import Derived.Test.YtcjmcfjjbicimaaZoneLive
import Derived.Test.YtcjmcfjjbicimaaZoneTorn
import Derived.Deep.RegionWith
namespace Go.Proofs.Ytcjmcfjjbicimaa
open Go.RowKit

theorem Try.infoInt : (Try.prog.info? 3).map (fun i => (i.zero, i.size, i.bytes)) = some (some (.int .i64 0), 1, 8) := by kernel_rfl
theorem Try.infoBs : (Try.prog.info? 24).map (fun i => (i.zero, i.size, i.bytes)) = some (some (.slice none 0 0), 1, 24) := by kernel_rfl

/-- where each of several texts begins, one behind the other -/
def offs (tl : List (List UInt8)) : List Int := (List.range tl.length).map fun i => ((tl.take i).flatten.length : Int)

theorem offs_snoc (tl : List (List UInt8)) (b : List UInt8) : offs (tl ++ [b]) = offs tl ++ [(tl.flatten.length : Int)] := by
  unfold offs
  rw [List.length_append, List.length_singleton, List.range_succ, List.map_append]
  congr 1
  · apply List.map_congr_left
    intro i hi
    rw [List.take_append_of_le_length (by have := List.mem_range.1 hi; omega)]
  · simp

/-- a slice of slices of bytes that came in, below B -/
def IsBs (w : World) (B : Nat) (SA : Option Addr) (ls : List (List UInt8)) (vs : List Value) : Prop :=
  Reads w (· < B) 1 SA ls.length vs ∧ vs.length = ls.length ∧ ∀ (i : Nat) (v : Value) (b : List UInt8), vs[i]? = some v → ls[i]? = some b → IsB w (· < B) v b

def ReadsInv (w wr : World) (B g6 : Nat) (ls : List (List UInt8)) (most : Int) (a7 a8 i : Value) : Prop :=
  ∃ (j : Nat) (z : Zn) (tl : List (List UInt8)) (tvs : List Value) (A7 A8 A6 : Option Addr) (c7 c8 c6 : Nat),
    i = .int .i64 j ∧ j ≤ ls.length ∧ tl.length ≤ j ∧ a7 = .slice A7 tl.length c7 ∧ a8 = .slice A8 tl.length c8 ∧
    wr.ownsRow B 3 1 (.slice A7 tl.length c7) tl.length ((offs tl).map I64) ∧ wr.ownsRow B 24 1 (.slice A8 tl.length c8) tl.length tvs ∧
    (∀ (k : Nat) (v : Value) (b : List UInt8), tvs[k]? = some v → tl[k]? = some b → IsB wr (· < w.heap.size) v b ∧ b.length ≤ 3000) ∧
    Blk wr g6 26 #[.int .i64 z.st, .int .i64 z.fe, .slice A6 z.d.length c6] ∧ wr.ownsRow B 5 1 (.slice A6 z.d.length c6) z.d.length (cells8 z.d) ∧
    z.d = tl.flatten ∧ (z.d.length : Int) ≤ most ∧ Below w.heap.size w wr

theorem offs_get (tl : List (List UInt8)) {k : Nat} (hk : k < tl.length) : ((offs tl).map I64)[k]? = some (.int .i64 ((tl.take k).flatten.length : Int)) := by
  unfold offs I64
  rw [List.getElem?_map, List.getElem?_map, List.getElem?_range hk]
  rfl
theorem flat_take (tl : List (List UInt8)) {k : Nat} (hk : k < tl.length) : (tl.take (k + 1)).flatten = (tl.take k).flatten ++ tl[k] := by
  rw [List.take_succ_eq_append_getElem hk, List.flatten_append]
  simp only [List.flatten_cons, List.flatten_nil, List.append_nil]
theorem flat_split (tl : List (List UInt8)) {k : Nat} (hk : k < tl.length) : tl.flatten = (tl.take k).flatten ++ (tl[k] ++ (tl.drop (k + 1)).flatten) := by
  rw [← List.append_assoc, ← flat_take tl hk, ← List.flatten_append, List.take_append_drop]
theorem reads_mid (tl : List (List UInt8)) {k : Nat} (hk : k < tl.length) (z : Zn) (hz : z.d = tl.flatten) : readZ z ((tl.take k).flatten.length : Int) (tl[k].length : Int) = (tl[k], 0) := by
  unfold readZ
  have h := flat_split tl hk
  rw [if_pos (by rw [hz, h]; simp; omega), Int.toNat_natCast, Int.toNat_natCast, hz, h, List.drop_left, List.take_left]

set_option maxRecDepth 100000 in
set_option maxHeartbeats 2000000 in
theorem zoneReads_any (most0 : Int) (ls : List (List UInt8)) (SA : Option Addr) (sc : Nat) (vs : List Value) (w : World) (hls : IsBs w w.heap.size SA ls vs) (hl63 : ls.length ≤ 140737488355328) :
    Calls Try.prog 3 #[.int .i64 most0, .slice SA ls.length sc] w fun e w' => e = .returned (.bool true) ∧ Below w.heap.size w w' := by
  by_cases hbig : ls.length ≤ 100
  · go_enter Try.func3, Try.ntmps3
    go_wp2_with (go_at_call 14; refine (live04_any w).mono ?_; rintro e w1 ⟨rfl, hb1⟩)
    have hmod := norm_mod most0 2000 (by omega) (by omega)
    have hM : wrap64 (1 + (wrap64 (most0.tmod 2000 + 2000)).tmod 2000) = 1 + (wrap64 (most0.tmod 2000 + 2000)).tmod 2000 := by unfold wrap64 at hmod ⊢; omega
    have hM1 : 1 ≤ wrap64 (1 + (wrap64 (most0.tmod 2000 + 2000)).tmod 2000) := by omega
    have hM2 : wrap64 (1 + (wrap64 (most0.tmod 2000 + 2000)).tmod 2000) ≤ 2000 := by omega
    clear hM hmod
    generalize wrap64 (1 + (wrap64 (most0.tmod 2000 + 2000)).tmod 2000) = M at hM1 hM2 ⊢
    have hw1 := hb1.size
    go_loopw [7, 8, 34] (fun a7 a8 i wr => ReadsInv w wr w1.heap.size w1.heap.size ls M a7 a8 i) (fun _ _ i _ => ls.length - (intOf i).toNat)
    case atStart =>
      exact ⟨0, z0, [], [], none, none, none, 0, 0, 0, rfl, Nat.zero_le _, Nat.zero_le _, rfl, rfl, World.ownsRow_nil _ _ _ _, World.ownsRow_nil _ _ _ _, by simp, Blk.new _ _ _ rfl, World.ownsRow_nil _ _ _ _, rfl, by simp [z0]; omega, hb1.alloc hb1.size _⟩
    case round =>
      obtain ⟨j, z, tl, tvs, A7, A8, A6, c7, c8, c6, rfl, hj, htl, rfl, rfl, ho7, ho8, htv, Bz, hoz, hzd, hzm, hbw⟩ := hrel
      obtain ⟨qz, fz⟩ := Bz.rules
      have hltz := Bz.lt
      have hszw := hbw.size
      by_cases hlt : j < ls.length
      · obtain ⟨hr, hvl, hel⟩ := hls
        obtain ⟨ad, u, rfl, hbB, hu, hc⟩ := (hr.step hbw).at_ hlt
        have hB := hel j u ls[j] hu (List.getElem?_eq_getElem hlt)
        have hBw := hB.step hbw
        have hbl := hB.len
        generalize hbb : ls[j] = b at hB hBw hbl
        have HB := Lib.hid hbb; clear hbb
        obtain ⟨Ab, cb, rfl, _⟩ := hB
        by_cases hlen : b.length ≤ 3000
        · have hzl : z.d.length ≤ 140737488355328 := by omega
          have hz : IsZ wr (fun b => w1.heap.size ≤ b) (zv z A6 c6) z := ⟨A6, c6, rfl, IsB.of_own hoz hzl⟩
          have HZD := Lib.hid hzd; clear hzd
          by_cases hr0 : roomZ z M b = 0
          · obtain ⟨_, _, _, hfit⟩ := roomZ_zero hr0
            have hA : appZ z M b = (grownZ z M b, (z.d.length : Int), 0) := if_pos hr0
            have HA := Lib.hid hA; clear hA
            have hgd : (grownZ z M b).d = z.d ++ b := rfl
            have hgl : ((grownZ z M b).d.length : Int) ≤ M := by rw [hgd, List.length_append]; omega
            generalize grownZ z M b = z' at HA hgd hgl
            have HGD := Lib.hid hgd; clear hgd
            have HR0 := Lib.hid hr0; clear hr0
            obtain ⟨i0, hi0, hz0, hz1, hz2⟩ := info_parts Try.infoInt
            obtain ⟨i1, hi1, hy0, hy1, hy2⟩ := info_parts Try.infoBs
            have hl7 : tl.length ≤ 100 := by omega
            go_wp2_with (first
              | (go_at_call 15; refine (append_any _ _ z M b _ _ wr hz hBw).mono ?_; rintro e w2 ⟨v2, rfl, ho2, hb2⟩; rw [HA.out] at ho2 ⊢; obtain ⟨A2, c2, rfl, hown2⟩ := ho2; unfold zv; have Bz2 := Bz.step hb2; obtain ⟨qz2, fz2⟩ := Bz2.rules; have hlt2 := Bz2.lt; have BW := (Bz2.set3 (x := .int .i64 z'.st) (y := .int .i64 z'.fe) (z := .slice A2 z'.d.length c2)).alloc (.cells #[.int .i64 z'.st, .int .i64 z'.fe, .slice A2 z'.d.length c2] 26); have o7 := (own_setBlk3 (x := .int .i64 z'.st) (y := .int .i64 z'.fe) (z := .slice A2 z'.d.length c2) (own_below ho7 hb2 (Nat.le_refl _)) Bz2 (by decide)).alloc (.cells #[.int .i64 z'.st, .int .i64 z'.fe, .slice A2 z'.d.length c2] 26); have o8 := (own_setBlk3 (x := .int .i64 z'.st) (y := .int .i64 z'.fe) (z := .slice A2 z'.d.length c2) (own_below ho8 hb2 (Nat.le_refl _)) Bz2 (by decide)).alloc (.cells #[.int .i64 z'.st, .int .i64 z'.fe, .slice A2 z'.d.length c2] 26); have oz := (own_setBlk3 (x := .int .i64 z'.st) (y := .int .i64 z'.fe) (z := .slice A2 z'.d.length c2) (own_base hown2 (Nat.le_of_lt hltz)) Bz2 (by decide)).alloc (.cells #[.int .i64 z'.st, .int .i64 z'.fe, .slice A2 z'.d.length c2] 26))
              | (at_builtin; refine wpList_app1g rfl (.tmp 53) (.tmp 55) 27 rfl w1.heap.size 3 i0 _ 8 Try.underlying27 hi0 hz0 hz1 hz2 rfl rfl o7 rfl (by simp) rfl (by simp only [maxLen]; omega) (by omega) ?_ ?_; (simp; omega); intro A7' c7' w4 o7' hg4; have o84 := own_grew o8 o7 (by decide) hg4; have oz4 := own_grew oz o7 (by decide) hg4; have B4 := BW.grew o7 (by decide) hg4)
              | (at_builtin; refine wpList_app1g rfl (.tmp 57) (.tmp 59) 22 rfl w1.heap.size 24 i1 _ 24 Try.underlying22 hi1 hy0 hy1 hy2 rfl rfl o84 rfl rfl rfl (by simp only [maxLen]; omega) (by omega) ?_ ?_; (have := hg4.below.size; simp at this; omega); intro A8' c8' w5 o8' hg5))
            go_roundw
            case rel =>
              have hX : Below w.heap.size wr w5 := (((below_set3 (hb2.mono hszw) (by omega)).alloc (by simp [World.setCell]; omega) _).trans (hg4.below.mono hw1)).trans (hg5.below.mono hw1)
              have hzd5 : z'.d = (tl ++ [b]).flatten := by rw [HGD.out, HZD.out]; simp
              have hvl8 : tvs.length = tl.length := by have := ho8.1; simpa using this
              refine ⟨j + 1, z', tl ++ [b], tvs ++ [.slice Ab b.length cb], A7', A8', A2, c7', c8', c2, by go_num, by omega, by simp; omega, by simp, by simp, ?_, ?_, ?_, B4.grew o84 (by decide) hg5, own_grew oz4 o84 (by decide) hg5, hzd5, hgl, hbw.trans hX⟩
              · have := own_grew o7' o84 (by decide) hg5
                rw [offs_snoc, List.map_append, List.length_append, ← HZD.out]
                exact this
              · rw [List.length_append]; exact o8'
              · intro k v b' h1 h2
                rcases Nat.lt_or_ge k tl.length with hk | hk
                · rw [List.getElem?_append_left (by omega)] at h1 h2
                  exact ⟨(htv k v b' h1 h2).1.below hX (fun _ h => h), (htv k v b' h1 h2).2⟩
                · rw [List.getElem?_append_right (by omega)] at h1 h2
                  have hk0 : k - tl.length = 0 := by have := (List.getElem?_eq_some_iff.1 h2).1; simp at this; omega
                  rw [hk0] at h2; rw [hvl8, hk0] at h1
                  simp at h1 h2
                  subst h1 h2
                  exact ⟨hBw.below hX (fun _ h => h), hlen⟩
            case measure => simp [intOf]; omega
          · have hA : appZ z M b = (z0, 0, roomZ z M b) := if_neg hr0
            have HA := Lib.hid hA; clear hA
            have hrb : (roomZ z M b != 0) = true := by simpa using hr0
            clear hr0
            generalize roomZ z M b = r at HA hrb
            go_wp2_with (go_at_call 15; refine (append_any _ _ z M b _ _ wr hz hBw).mono ?_; rintro e w2 ⟨v2, rfl, ho2, hb2⟩; rw [HA.out] at ho2 ⊢; obtain ⟨A2, c2, rfl, hown2⟩ := ho2; unfold zv z0)
            go_roundw
            case rel =>
              exact ⟨j + 1, z, tl, tvs, A7, A8, A6, c7, c8, c6, by go_num, by omega, by omega, rfl, rfl, (own_below ho7 hb2 (Nat.le_refl _)).alloc _, (own_below ho8 hb2 (Nat.le_refl _)).alloc _, fun k v b' h1 h2 => ⟨((htv k v b' h1 h2).1.step hb2).alloc _, (htv k v b' h1 h2).2⟩, (Bz.step hb2).alloc _, (own_below hoz hb2 (Nat.le_refl _)).alloc _, HZD.out, hzm, (hbw.trans (hb2.mono hszw)).alloc (by have := hb2.size; omega) _⟩
            case measure => simp [intOf]; omega
        · have hlb : (3000 : Int) < (b.length : Int) := by omega
          clear hlen
          go_wp2
          go_ret
          exact ⟨rfl, hbw⟩
      · obtain rfl : j = ls.length := by omega
        have hzl : z.d.length ≤ 2000 := by omega
        have hr7 := Reads.of_own ho7
        have hr8 := Reads.of_own ho8
        have hvl8 : tvs.length = tl.length := by have := ho8.1; simpa using this
        have hz : IsZ wr (fun b => w1.heap.size ≤ b) (zv z A6 c6) z := ⟨A6, c6, rfl, IsB.of_own hoz (by omega)⟩
        have HZD := Lib.hid hzd; clear hzd
        have HV := Lib.hid hvl8; clear hvl8
        go_wp2_with fail
        obtain ⟨wo, rfl⟩ : ∃ wo : World, wo = wr := ⟨_, rfl⟩
        go_loopw [14, 64] (fun t i wq => ∃ k : Nat, k ≤ tl.length ∧ i = .int .i64 k ∧ t = .int .i64 ((tl.take k).flatten.length : Int) ∧ Below wo.heap.size wo wq) (fun _ i _ => tl.length - (intOf i).toNat)
        case atStart => exact ⟨0, Nat.zero_le _, rfl, rfl, Below.refl _ _⟩
        case round =>
          obtain ⟨k, hk, rfl, rfl, hbq⟩ := hrel
          have Bq := Bz.step hbq
          obtain ⟨qq, fq⟩ := Bq.rules
          have hltq := Bq.lt
          have hzq := hz.step hbq
          have hszq := hbq.size
          by_cases hkl : k < tl.length
          · obtain ⟨ad7, u7, hA7, _, hu7, hc7⟩ := (hr7.step hbq).at_ hkl
            obtain ⟨ad8, u8, hA8, _, hu8, hc8⟩ := (hr8.step hbq).at_ hkl
            rw [offs_get tl hkl] at hu7
            injection hu7 with hu7
            subst hu7 hA7 hA8
            have hB := (htv k u8 tl[k] hu8 (List.getElem?_eq_getElem hkl)).1.step hbq
            have hB3 := (htv k u8 tl[k] hu8 (List.getElem?_eq_getElem hkl)).2
            have hrm := reads_mid tl hkl z HZD.out
            have hfl : ((tl.take (k + 1)).flatten.length : Int) = ((tl.take k).flatten.length : Int) + (tl[k].length : Int) := by rw [flat_take tl hkl]; simp
            have hle : (tl.take k).flatten.length ≤ 2000 := by have := congrArg List.length (flat_split tl hkl); rw [← HZD.out] at this; simp only [List.length_append] at this; omega
            generalize hbb : tl[k] = b at hB hB3 hrm hfl
            generalize (tl.take k).flatten.length = off at hrm hfl hle hc7 ⊢
            have HRM := Lib.hid hrm; clear hrm
            have HFL := Lib.hid hfl; clear hfl
            have HBB := Lib.hid hbb; clear hbb
            have hBq := hB
            obtain ⟨Ab, cb, rfl, hrb, _⟩ := hB
            have hoff : (off : Int) ≤ 9223372036854775807 := by omega
            go_wp2_with fail
            go_region_with (go_at_call 16; refine (read_any _ z off b.length (fun b => w1.heap.size ≤ b) _ ?_ hoff).mono ?_; (first | exact hzq | exact hzq.drew); rw [HRM.out]; rintro e w3 ⟨v3, rfl, ⟨A3, c3, rfl, hown3⟩, hb3⟩; have hs1 := run_string_of (P := Try.prog) (cap := c3) w3 24 9 5 Try.underlying24 Try.underlying5 Try.underlying9 rfl (Reads.of_own hown3); have hs2 := run_string_of (P := Try.prog) (cap := cb) w3 24 9 5 Try.underlying24 Try.underlying5 Try.underlying9 rfl (hrb.drew.step hb3); have hc73 := ((hb3.cell (p := ad7.add k) (World.block_lt_of_cell? wr _ hc7)).trans hc7))
            all_goals
              go_wp2
              go_roundw
              case rel => exact ⟨k + 1, by omega, by go_num, by rw [HFL.out], hbq.drew.trans (hb3.mono hszq)⟩
              case measure => simp [intOf]; omega
          · obtain rfl : k = tl.length := by omega
            have hd : (tl.take tl.length).flatten.length = z.d.length := by rw [List.take_length, HZD.out]
            rw [hd]
            have hrm : readZ z (z.d.length : Int) 1 = ([], 1) := if_neg (by omega)
            have HRM := Lib.hid hrm; clear hrm
            clear hd
            go_wp2_with (go_at_call 16; refine (read_any _ z z.d.length 1 _ _ hzq (by omega)).mono ?_; rw [HRM.out]; rintro e w3 ⟨v3, rfl, ⟨A3, c3, rfl, hown3⟩, hb3⟩; have Bq3 := Bq.step hb3; obtain ⟨qq3, fq3⟩ := Bq3.rules)
            go_ret
            exact ⟨rfl, hbw.trans ((hbq.trans (hb3.mono hszq)).mono hszw)⟩
  · have hb : (100 : Int) < (ls.length : Int) := by omega
    clear hbig
    go_enter Try.func3, Try.ntmps3
    go_wp2_with (go_at_call 14; refine (live04_any w).mono ?_; rintro e w1 ⟨rfl, hb1⟩)
    go_ret
    exact ⟨rfl, hb1⟩
end Go.Proofs.Ytcjmcfjjbicimaa
