/- A part of the proof. -/
import Derived.Test.YtjahaflkdpmhpaaGreatHostSpec
namespace Go.Proofs.YtjahaflkdpmhpaaGreat
open Go.RowKit
def fz (F : Nat → Int) (n j : Nat) : List Zn := (List.range n).map fun k => if k < j then ⟨0, F k, []⟩ else z0
def fo (F : Nat → Int) (j : Nat) : List Fn := (List.range j).map fun (k : Nat) => ⟨(k : Int), 1, F k⟩
def startH (S : List Sp) (F : Nat → Int) (j : Nat) : Ho := ⟨1, fo F j, S, false, p0k, [], 1, 0⟩
def s200 : List Sp := [⟨0, 200, 1, 1⟩]
section
variable {n j : Nat} {M : Int} {F : Nat → Int} {S : List Sp}
theorem fz_len : (fz F n j).length = n := by simp [fz]
theorem fz_at {k : Nat} (hk : k < n) : (fz F n j)[k]? = some (if k < j then ⟨0, F k, []⟩ else z0) := by
 unfold fz
 rw [List.getElem?_map, List.getElem?_range hk]; rfl
theorem fz_ok (hM : 1 ≤ M ∧ M ≤ 65536) (hn : 1 ≤ n ∧ n ≤ 64) (hF : ∀ k, k < n → 0 ≤ F k) : OkA M (fz F n j) := by
 refine ⟨hM, by rw [fz_len]; exact hn, fun z hz => ?_⟩
 obtain ⟨k, hk, rfl⟩ := List.mem_map.1 hz
 have := hF k (List.mem_range.1 hk)
 unfold okZ
 split
 · exact ⟨hM.1, hM.2, this, .inl ⟨rfl, rfl⟩⟩
 · exact ⟨hM.1, hM.2, by decide, .inl ⟨rfl, rfl⟩⟩
theorem fz_set (hj : j < n) : (fz F n j).set j ⟨0, F j, []⟩ = fz F n (j + 1) := by
 refine List.ext_getElem? fun k => ?_
 rw [List.getElem?_set]
 by_cases hk : k < n
 · rw [fz_at hk, fz_at hk, fz_len]
   by_cases hjk : j = k
   · subst hjk; rw [if_pos rfl, if_pos hj, if_pos (by omega)]
   · rw [if_neg hjk]
     by_cases h1 : k < j
     · rw [if_pos h1, if_pos (by omega)]
     · rw [if_neg h1, if_neg (by omega)]
 · rw [if_neg (by omega), List.getElem?_eq_none (by rw [fz_len]; omega), List.getElem?_eq_none (by rw [fz_len]; omega)]
theorem fence_at (hM : 1 ≤ M ∧ M ≤ 65536) (hn : 1 ≤ n ∧ n ≤ 64) (hF : ∀ k, k < n → 0 < F k) (hj : j < n) :
 doZ (devA M (fz F n j)) ⟨7, j, F j, 0, 0, []⟩ = (devA M (fz F n (j + 1)), dn0) := by
 rw [devA_fence (z := z0) (fz_ok hM hn fun k hk => by have := hF k hk; omega) (by rw [fz_at hj, if_neg (Nat.lt_irrefl j)]) (hF j hj)]
 rw [← fz_set hj]
 rfl
theorem fo_at {k : Nat} {e : Fn} (h : (fo F j)[k]? = some e) : k < j ∧ e = ⟨(k : Int), 1, F k⟩ := by
 unfold fo at h
 rw [List.getElem?_map] at h
 obtain ⟨x, hx, rfl⟩ := Option.map_eq_some_iff.1 h
 obtain ⟨h1, rfl⟩ := List.getElem?_eq_some_iff.1 hx
 rw [List.length_range] at h1
 exact ⟨h1, by rw [List.getElem_range]⟩
theorem fo_len : (fo F j).length = j := by simp [fo]
theorem gain_at : gainH (startH S F j) j (F j) = startH S F (j + 1) := by
 have hp : posF (fo F j) (j : Int) = j := posF_is (by rw [fo_len]; exact Nat.le_refl _) (fun k e hk he => by obtain ⟨_, rfl⟩ := fo_at he; show (k : Int) < j; omega) (fun e he => by have := (fo_at he).1; omega)
 have hh : hasF (fo F j) (j : Int) = false := by
  unfold hasF
  rw [hp, List.getElem?_eq_none (by rw [fo_len]; exact Nat.le_refl _)]
 have hput : putF (fo F j) (j : Int) 1 (F j) = fo F (j + 1) := by
  unfold putF
  rw [hh, hp, if_neg (by simp), List.take_of_length_le (by rw [fo_len]; exact Nat.le_refl _), List.drop_of_length_le (by rw [fo_len]; exact Nat.le_refl _), List.append_nil]
  unfold fo
  rw [List.range_succ, List.map_append]
  rfl
 unfold gainH startH
 rw [if_neg (by simp), hput]
theorem fo_rise : (fo F j).Pairwise (fun a b => a.zone < b.zone) := by
 rw [List.pairwise_iff_getElem]
 intro a b ha hb hab
 have h1 := fo_at (List.getElem?_eq_getElem ha)
 have h2 := fo_at (List.getElem?_eq_getElem hb)
 rw [h1.2, h2.2]
 show (a : Int) < b
 omega
theorem HInv.start (hM : 1 ≤ M ∧ M ≤ 4000) (hn : 1 ≤ n ∧ n ≤ 64) (hF : ∀ k, k < n → 0 < F k ∧ F k ≤ 1000000) : HInv n M F 10000 S (devA M (fz F n n)) (startH S F n) (fun _ => ⟨1, 0, 0⟩) [] := by
 have hz : ∀ k, k < n → (fz F n n).getD k z0 = ⟨0, F k, []⟩ := fun k hk => by
  rw [List.getD_eq_getElem?_getD, fz_at hk, if_pos hk]; rfl
 refine ⟨by simp [devA], fz_ok ⟨hM.1, by omega⟩ hn fun k hk => by have := hF k hk; omega, hM.2, by decide, ⟨fun _ => okHead_of (by decide) (by decide) (by decide), by simp, by simp, by simp, fun k => by simp [zbH, rsOf]⟩, ⟨fz_len, fun k hk => by
  show ((fz F n n).getD k z0).d = _
  rw [hz k hk]; simp [zbH, rsOf]⟩, fun k hk => by
  show ((fz F n n).getD k z0).fe = _
  rw [hz k hk], fun k hk => by have := hF k hk; omega, rfl, rfl, rfl, ?_, by simp [startH], by simp [startH], by simp, by simp [startH], (fun h => by cases h), fun _ => rfl⟩
 refine ⟨trivial, fun b => ?_⟩
 have : entsH (fun _ => (⟨1, 0, 0⟩ : Hd)) ([] : List (Nat × Rc)) (List.range n) = [] := by
  unfold entsH
  rw [List.flatMap_eq_nil_iff]
  intro k _
  simp [entsF, fdH, rsOf, f0d]
 rw [this]
 show Best [] b (see [] b)
 rw [see_nil]
 intro e he
 cases he
theorem group_fine (o : Og) (i : Int) : (∀ x ∈ groupL o i, ioErr s200 x = 0) ∧ ∀ x ∈ groupL o i, ∀ v : Int, 0 ≤ v ∧ v ≤ 1000000 → GoodR 10000 (recI v x) := by
 have hk := grK_in o
 have hn := grN_in o
 have hl := grL_in o
 have hm : ∀ lba n : Int, 0 ≤ lba → 1 ≤ n → lba + n ≤ 200 → mineS s200 lba n = true := fun lba n h1 h2 h3 => by
  unfold mineS
  rw [decide_eq_true (show someB lba n 1099511627776 from ⟨h1, h2, by omega, by omega⟩), Bool.true_and, decide_eq_true_eq]
  unfold s200 reachS
  simp only [List.foldl_cons, List.foldl_nil]
  rw [if_pos ⟨h1, by omega⟩]
  exact h3
 have hj : ∀ j : Nat, j < (grN o).toNat → 0 ≤ (j : Int) * grK o ∧ (j : Int) * grK o ≤ 4 * 4 := fun j h =>
  ⟨Int.mul_nonneg (by omega) (by omega), Int.mul_le_mul (by omega) (by omega) (by omega) (by omega)⟩
 refine ⟨fun x hx => ?_, fun x hx v hv => ?_⟩
 · rcases groupL_at hx with ⟨h1, h2, h3, h4⟩ | ⟨j, h1, rfl⟩
   · unfold ioErr
     rw [if_neg, if_pos]
     · rw [h2, h3]; exact hm _ _ hl.1 hk.1 (by omega)
     · rw [Decidable.not_not]
       unfold someB ioMost ioLong
       rw [h1, h2, h3, h4]
       simp
       omega
   · have := hj j h1
     unfold ioErr
     rw [if_neg, if_pos]
     · exact hm _ _ (by show 0 ≤ grL o + (j : Int) * grK o; omega) hk.1 (by show grL o + (j : Int) * grK o + grK o ≤ 200; omega)
     · rw [Decidable.not_not]
       unfold someB ioMost ioLong grIo
       simp
       omega
 · rcases groupL_at hx with ⟨h1, h2, h3, h4⟩ | ⟨j, h1, rfl⟩
   · unfold recI
     rw [h1, h2, h3, h4]
     exact ⟨.inr (by simp), ⟨hl.1, hk.1, by show grL o + grK o ≤ 10000; omega⟩, by show grK o ≤ 256; omega, hv, ⟨rfl, rfl⟩, fun h => by simp at h, fun _ => rfl⟩
   · have := hj j h1
     exact ⟨.inl rfl, ⟨by show 0 ≤ grL o + (j : Int) * grK o; omega, hk.1, by show grL o + (j : Int) * grK o + grK o ≤ 10000; omega⟩, by show grK o ≤ 256; omega, hv, ⟨rfl, rfl⟩, fun _ => by
      show ((List.replicate (16 * grK o).toNat _).length : Int) = 16 * grK o
      rw [List.length_replicate]; omega, fun h => by cases h⟩
end
section
variable {n : Nat} {M : Int} {F : Nat → Int} {d : Zd} {h : Ho} {H : Nat → Hd} {log : List (Nat × Rc)}
theorem HInv.okd (hi : HInv n M F 10000 s200 d h H log) : okD d := by rw [hi.dev]; exact hi.ok.ok
theorem HInv.small (hi : HInv n M F 10000 s200 d h H log) : SmallHo h := by
 have hn := hi.n64
 have hf := hi.few
 refine ⟨by rw [hi.own]; simp; omega, by rw [hi.s]; decide, ?_, ?_, by omega⟩
 all_goals
  cases hop : h.opn with
  | false => rw [hi.shut hop]; decide
  | true => obtain ⟨k, _, _, h2, _⟩ := hi.opened hop; rw [h2]; simp
theorem HInv.okh (hi : HInv n M F 10000 s200 d h H log) (hl : log.length ≤ 900000) : OkHo h := by
 have hs := hi.seq
 refine ⟨?_, fun f hf => ?_, by rw [hi.id]; decide, fun f hf => ?_, by omega⟩
 · cases hop : h.opn with
   | false => rw [hi.shut hop]; unfold OkPk OkHd p0k; simp
   | true =>
     obtain ⟨k, hk, _, h2, _⟩ := hi.opened hop
     have hn := hi.n64
     have hM := hi.ok.1
     have hz := hi.good.fits k
     rw [h2]
     unfold OkPk
     refine ⟨(hi.good.hd k).1, by show _ ≤ (k : Int) ∧ (k : Int) ≤ _; omega, by show 0 ≤ M ∧ M ≤ _; omega, ?_⟩
     simp
     omega
 · rw [hi.own] at hf
   obtain ⟨k, _, rfl⟩ := List.mem_map.1 hf
   show 0 ≤ (k : Int)
   omega
 · rw [hi.own] at hf
   obtain ⟨k, hk, rfl⟩ := List.mem_map.1 hf
   have := hi.F0 k (List.mem_range.1 hk)
   show _ ≤ F k ∧ F k ≤ _
   omega
end
end Go.Proofs.YtjahaflkdpmhpaaGreat
namespace Go.Proofs.YtjahaflkdpmhpaaGreat
open Go.RowKit
def wantIo (f : Int → UInt8) (x : Io) : Int → UInt8 := fun b => if x.lba ≤ b ∧ b < x.lba + x.n then (if x.op = 1 then x.data.headD 0 else 0) else f b
def wantL (f : Int → UInt8) (g : List Io) : Int → UInt8 := g.foldl wantIo f
def WantF (f : Int → UInt8) (log : List (Nat × Rc)) : Prop := ∀ b, contO (lastC log b) b = List.replicate 16 (f b)
def OneIo (x : Io) : Prop := (x.op = 2 ∧ x.data = []) ∨ (x.op = 1 ∧ 1 ≤ x.n ∧ ∃ c, x.data = List.replicate (16 * x.n).toNat c)
theorem group_one (o : Og) (i : Int) : ∀ x ∈ groupL o i, OneIo x := fun x hx => by
 have hk := grK_in o
 rcases groupL_at hx with ⟨h1, _, _, h4⟩ | ⟨j, _, rfl⟩
 · exact .inl ⟨h1, h4⟩
 · exact .inr ⟨rfl, hk.1, _, rfl⟩
theorem WantF.nil : WantF (fun _ => 0) [] := fun _ => rfl
theorem WantF.one {f : Int → UInt8} {log : List (Nat × Rc)} (h : WantF f log) {x : Io} (hx : OneIo x) (k : Nat) (v : Int) : WantF (wantIo f x) (log ++ [(k, recI v x)]) := fun b => by
 rw [lastC_snoc]
 unfold wantIo
 show contO (if x.lba ≤ b ∧ b < x.lba + x.n then some (recI v x) else lastC log b) b = _
 by_cases hb : x.lba ≤ b ∧ b < x.lba + x.n
 · rw [if_pos hb, if_pos hb]
   show contR (recI v x) b = _
   unfold contR recI
   rcases hx with ⟨h1, h2⟩ | ⟨h1, h2, c, h3⟩
   · rw [h1, h2]; rfl
   · simp only [h1, if_true]
     rw [if_neg (by decide), h3]
     rw [List.drop_replicate, List.take_replicate]
     have e1 : min 16 ((16 * x.n).toNat - (16 * (b - x.lba)).toNat) = 16 := by omega
     rw [e1]
     congr 1
     obtain ⟨m, hm⟩ : ∃ m, (16 * x.n).toNat = m + 1 := ⟨(16 * x.n).toNat - 1, by omega⟩
     rw [hm]; rfl
 · rw [if_neg hb, if_neg hb]; exact h b
theorem WantF.adds {k : Nat} : ∀ {g : List Io} {f : Int → UInt8} {log : List (Nat × Rc)} {v : Int}, WantF f log → (∀ x ∈ g, OneIo x) → WantF (wantL f g) (log ++ (recsI v g).map (k, ·))
 | [], f, log, v, h, _ => by
   show WantF f (log ++ [])
   rw [List.append_nil]; exact h
 | x :: g, f, log, v, h, hg => by
   have h1 := WantF.adds (k := k) (v := v + 1) (h.one (hg x (List.mem_cons_self ..)) k v) (fun y hy => hg y (List.mem_cons_of_mem _ hy))
   show WantF (wantL (wantIo f x) g) (log ++ (k, recI v x) :: (recsI (v + 1) g).map (k, ·))
   rw [List.append_assoc] at h1
   exact h1
theorem recsI_last : ∀ {g : List Io} (v : Int), g ≠ [] → ∃ r ∈ recsI v g, r.ver = v + g.length - 1
 | [x], v, _ => ⟨recI v x, List.mem_cons_self .., by show v = v + 1 - 1; omega⟩
 | x :: y :: g, v, _ => by
   obtain ⟨r, h1, h2⟩ := recsI_last (g := y :: g) (v + 1) (by simp)
   refine ⟨r, List.mem_cons_of_mem _ h1, ?_⟩
   rw [h2]
   simp only [List.length_cons]
   omega
theorem fz_found (F : Nat → Int) (n : Nat) : foundL (fz F n 0) = List.replicate n f0d := by
 have : fz F n 0 = List.replicate n z0 := by
  unfold fz
  rw [List.eq_replicate_iff]
  exact ⟨by simp, fun z hz => by obtain ⟨k, _, rfl⟩ := List.mem_map.1 hz; rw [if_neg (by omega)]⟩
 rw [this]
 unfold foundL
 rw [List.map_replicate]
 congr 1
theorem fz_none (F : Nat → Int) (n : Nat) : fz F n 0 = List.replicate n z0 := by
 unfold fz
 rw [List.eq_replicate_iff]
 exact ⟨by simp, fun z hz => by obtain ⟨k, _, rfl⟩ := List.mem_map.1 hz; rw [if_neg (by omega)]⟩
theorem newD_any (F : Nat → Int) {n : Nat} {M : Int} (hn : 1 ≤ n ∧ n ≤ 64) (hM : 1 ≤ M ∧ M ≤ 65536) : newD n M n n = (devA M (fz F n 0), 0) := by
 have hok : OkA M (fz (fun _ => 0) n 0) := fz_ok hM hn fun _ _ => Int.le_refl 0
 have hok := hok.ok
 rw [fz_none] at hok
 unfold newD
 rw [if_neg (by omega), Int.toNat_natCast]
 have : devA M (List.replicate n z0) = ⟨M, n, n, List.replicate n z0⟩ := by unfold devA; rw [List.length_replicate]
 rw [← this, if_pos (by unfold chkD; rw [if_pos hok]), fz_none]
theorem fz_ents (F : Nat → Int) (n : Nat) : entsU (foundL (fz F n 0)) [] n = [] := by
 unfold entsU
 rw [List.flatMap_eq_nil_iff]
 intro k _
 rw [fz_found]
 have : (List.replicate n f0d).getD k f0d = f0d := by
  rw [List.getD_eq_getElem?_getD, List.getElem?_replicate]
  split <;> rfl
 rw [this]
 split
 · rfl
 · rfl
theorem newF_none : ∀ n, newF 0 (List.replicate n f0d) = 0
 | 0 => rfl
 | n + 1 => by
   unfold newF
   rw [List.replicate_succ, List.foldl_cons]
   exact newF_none n
end Go.Proofs.YtjahaflkdpmhpaaGreat
namespace Go.Proofs.YtjahaflkdpmhpaaGreat
open Go.RowKit
abbrev zdC (d : Zd) (A : Option Addr) (c : Nat) : Array Value := #[.int .i64 d.cap, .int .i64 d.opn, .int .i64 d.act, .slice A d.z.length c]
theorem ho_formX {w : World} {K : Nat → Prop} {v : Value} {h : Ho} (hh : IsHo w K v h) : ∃ Ao co As cs Ab cb Al cl Am cm, v = .agg (hoS h Ao co As cs Ab cb Al cl Am cm) := by
 obtain ⟨vo, vs, vb, vl, vm, rfl, a1, a2, a3, a4, a5⟩ := hh
 obtain ⟨Ao, co, rfl, -⟩ := a1.form
 obtain ⟨As, cs, rfl, -⟩ := a2.form
 obtain ⟨Ab, cb, rfl, -⟩ := isB_form a3
 obtain ⟨Al, cl, rfl, -⟩ := a4.form
 obtain ⟨Am, cm, rfl, -⟩ := a5.form
 exact ⟨Ao, co, As, cs, Ab, cb, Al, cl, Am, cm, rfl⟩
theorem ho_cs {w : World} {K : Nat → Prop} {v : Value} {h : Ho} (hh : IsHo w K v h) : ∃ cs : Array Value, v = .agg cs ∧ cs.size = 15 ∧ cs.toList.all (·.oneCell') = true ∧ cs[3]? = some (.bool h.opn) := by
 obtain ⟨Ao, co, As, cs, Ab, cb, Al, cl, Am, cm, rfl⟩ := ho_formX hh
 exact ⟨_, rfl, rfl, rfl, rfl⟩
section
variable {ops : Array Oper} {o : Oper} {a : Act} {w : World} {K : Act → World → Prop} {Q : Exit → Act → World → Prop} {x y : Operand} {g : Nat} {t : TypeId} {cs cs' : Array Value}
end
structure DH (w : World) (gd gh : Nat) (wr : World) (d : Zd) (h : Ho) : Prop where
 below : Below w.heap.size w wr
 dev : ∃ A c, Blk wr gd 28 (zdC d A c) ∧ IsL Rp.zone wr (fun b => b ≠ gd ∧ b ≠ gh) (.slice A d.z.length c) d.z
 host : ∃ cs, Blk wr gh 42 cs ∧ cs.size = 15 ∧ IsHo wr (fun b => b ≠ gd ∧ b ≠ gh) (.agg cs) h
 g0 : w.heap.size ≤ gd
 gl : gd < gh
section
variable {w wr wr' : World} {gd gh : Nat} {d d' : Zd} {h h' : Ho}
theorem DH.step (hi : DH w gd gh wr d h) (hb : Below wr.heap.size wr wr') : DH w gd gh wr' d h := by
 obtain ⟨h1, ⟨A, c, h2, h3⟩, ⟨cs, h4, h5, h6⟩, h7, h8⟩ := hi
 exact ⟨h1.trans (hb.mono h1.size), ⟨A, c, h2.step hb, h3.step hb⟩, ⟨cs, h4.step hb, h5, h6.step hb⟩, h7, h8⟩
theorem DH.stD (hi : DH w gd gh wr d h) (ht : Turned wr wr' (fun b => b = gd)) {A : Option Addr} {c : Nat} (hz : IsL Rp.zone wr (fun b => b ≠ gd ∧ b ≠ gh) (.slice A d'.z.length c) d'.z) (hB : Blk wr' gd 28 (zdC d' A c)) : DH w gd gh wr' d' h := by
 obtain ⟨h1, _, ⟨cs, h4, h5, h6⟩, h7, h8⟩ := hi
 exact ⟨Turned.upon h1 ht h7 (Nat.le_refl _), ⟨A, c, hB, hz.turned ht (fun b hb e => hb.1 e)⟩, ⟨cs, h4.turned ht (by omega), h5, IsHo.keep h6 (ht.cells (K := fun b => b ≠ gd ∧ b ≠ gh) fun b hb e => hb.1 e)⟩, h7, h8⟩
theorem DH.stH (hi : DH w gd gh wr d h) (ht : Turned wr wr' (fun b => b = gh)) {cs : Array Value} (hn : cs.size = 15) (hh : IsHo wr (fun b => b ≠ gd ∧ b ≠ gh) (.agg cs) h') (hB : Blk wr' gh 42 cs) : DH w gd gh wr' d h' := by
 obtain ⟨h1, ⟨A, c, h2, h3⟩, _, h7, h8⟩ := hi
 exact ⟨Turned.upon h1 ht (by omega) (Nat.le_refl _), ⟨A, c, h2.turned ht (by omega), h3.turned ht (fun b hb e => hb.2 e)⟩, ⟨cs, hB, hn, IsHo.keep hh (ht.cells (K := fun b => b ≠ gd ∧ b ≠ gh) fun b hb e => hb.2 e)⟩, h7, h8⟩
theorem DH.made {A : Option Addr} {c : Nat} {cs : Array Value} (hb : Below w.heap.size w wr) (h2 : Blk wr gd 28 (zdC d A c)) (h3 : IsL Rp.zone wr (fun b => b ≠ gd ∧ b ≠ gh) (.slice A d.z.length c) d.z) (h4 : Blk wr gh 42 cs) (h5 : cs.size = 15)
 (h6 : IsHo wr (fun b => b ≠ gd ∧ b ≠ gh) (.agg cs) h) (g0 : w.heap.size ≤ gd) (gl : gd < gh) : DH w gd gh wr d h := ⟨hb, ⟨A, c, h2, h3⟩, ⟨cs, h4, h5, h6⟩, g0, gl⟩
end
section
variable {n : Nat} {M : Int} {F : Nat → Int} {d : Zd} {h : Ho} {H : Nat → Hd} {log : List (Nat × Rc)}
theorem group_recs (hi : HInv n M F 10000 s200 d h H log) (o : Og) (i : Int) (hl : log.length ≤ 800000) : errL (recsI h.ver (groupL o i)) = 0 := by
 refine errL_of fun r hr => ?_
 obtain ⟨k, x, h1, h2, rfl⟩ := recsI_mem hr
 have hv := hi.ver
 have h3 := groupL_len o i
 exact ((group_fine o i).2 x h2 _ (by omega)).fit (by decide)
theorem hcommit_inv (hi : HInv n M F 10000 s200 d h H log) (o : Og) (i : Int) (hl : log.length ≤ 800000) (Az : Option Addr) (cz : Nat) (v : Value) (A : Option Addr) (c : Nat) (K Kl : Nat → Prop) (w : World) (hz : IsL Rp.zone w K (.slice Az d.z.length cz) d.z) (hv : IsHo w K v h) (hgl : IsL Rp.io w Kl (.slice A (groupL o i).length c) (groupL o i)) (hK : ∀ b, K b → b < w.heap.size) :
 Calls Tryz.prog 16 #[.agg #[.int .i64 d.cap, .int .i64 d.opn, .int .i64 d.act, .slice Az d.z.length cz], v, .slice A (groupL o i).length c] w fun e w' => ∃ dv vh, e = .returned (.tuple #[dv, vh, .int .i64 (commitH d h (groupL o i)).2.2]) ∧ DevHo w' (fun b => K b ∨ w.heap.size ≤ b) dv vh (commitH d h (groupL o i)).1 (commitH d h (groupL o i)).2.1 ∧ Below w.heap.size w w' := by
 have hver := hi.ver
 have hgl4 := groupL_len o i
 have hst := (commit_step hi (groupL_ne o i) (group_fine o i).1 (group_fine o i).2 (by omega)).2
 exact hcommit_any d Az cz h v A c (groupL o i) K Kl w hz hv hgl hK hi.okd (hi.okh (by omega)) hi.small (by omega) (by omega) (groupL_ne o i) (fun _ => group_recs hi o i hl) (fun _ h0 => hst h0)
end
end Go.Proofs.YtjahaflkdpmhpaaGreat
