/- The contract of the document's One: what it answers, as blocks of the padded text. -/
import Derived.Test.YtgaekibompacnaaDoorQDShaSame
import Derived.Test.YtgaekibompacnaaDoorQDShaSum
import Derived.Test.YtgaekibompacnaaDoorQDRefEight
import Derived.Deep.RegionHeld3
import Derived.Laws.CopyOwn
set_option linter.unusedVariables false
set_option linter.unusedSimpArgs false
namespace Go.Proofs.YtgaekibompacnaaDoor.QD
open Go.RowKit Go.Proofs.YtgaekibompacnaaDoorW.PrintWords Go.Proofs.YtgaekibompacnaaDoorW.PrintLast Go.Proofs.YtgaekibompacnaaDoorW.PrintMore
def Z64 : List Int := List.replicate 64 0
set_option maxRecDepth 100000 in
set_option maxHeartbeats 8000000 in
theorem keys_calls (w : World) : Calls Tryd.prog 29 #[] w fun en w' => en = .returned (.agg (longs KK)) ∧ Below w.heap.size w w' := by
  have HI : Aside0 ((Tryd.prog.info? 59).map (·.size) = some (longs KK).size) := ⟨by kernel_rfl⟩
  have HO : Aside0 ((longs Z64).size = (longs KK).size) := ⟨by kernel_rfl⟩
  have HB : Aside0 (Below w.heap.size w (w.alloc (.cells (longs Z64) 59))) := ⟨below_alloc (Below.refl _ _) _⟩
  have HR1 : Aside0 ((w.alloc (.cells (longs Z64) 59)).heap[w.heap.size]? = some (.cells (longs Z64) 59 (0, 0))) := ⟨blk_new _ _⟩
  go_enter Tryd.func29, Tryd.ntmps29
  go_wp2_with (first | ((with_reducible refine gate_dst (N := 0) rfl ?_); refine Kd.event_run (v := .pointer (some ⟨w.heap.size, 0, none⟩)) (w1 := w.alloc (.cells (longs Z64) 59)) rfl ?hr ?_; (case hr => first | rfl | (go_simp; rfl)); generalize w.alloc (.cells (longs Z64) 59) = w1 at *) | ((with_reducible refine gate_store (t := 59) (p := 0) (v := .tmp 1) rfl ?_); refine wpList_store_row rfl 59 (.tmp 0) (.tmp 1) rfl w.heap.size (longs KK) rfl rfl 59 _ HR1.out HI.out HO.out (longs_one KK) ?_))
  (try simp only [Exit.inBlock, Exit.then])
  refine bodyPost_ret (results_cell_row (p := 0) (ty := 59) rfl _ _ w.heap.size 59 (longs KK) (0, 0) _ rfl (setRow_heap w1 w.heap.size _ (longs KK) _ _ HR1.out) Tryd.underlying59 rfl HI.out) rfl ?_
  exact ⟨rfl, below_setRow HB.out (Nat.le_refl _) _⟩
/-- One's call, while it pads: the result, the keys, the row. -/
def OneW (w : World) (gk : Nat) (v : Value) (r : List Int) (wr : World) : Prop := wr.heap[w.heap.size]? = some (.cells (octs (List.replicate 32 0)) 25 (0, 0)) ∧ wr.heap[gk]? = some (.cells (longs KK) 59 (0, 0)) ∧ Kd.R (Kd.int .u8) 5 wr w.heap.size (fun _ => True) v r ∧ Below w.heap.size w wr
theorem OneW.drewN {w wr : World} {gk : Nat} {r : List Int} {v : Value} (h : OneW w gk v r wr) (m : Nat) : OneW w gk v r (wr.drewN m) := ⟨h.1, h.2.1, Kd.R_drewN h.2.2.1 m, pw_below_drewN h.2.2.2 m⟩
theorem OneW.drew {w wr : World} {gk : Nat} {r : List Int} {v : Value} (h : OneW w gk v r wr) : OneW w gk v r wr.drew := ⟨h.1, h.2.1, Kd.R_drew h.2.2.1, below_drew1 h.2.2.2⟩
theorem OneW.below {w wr W : World} {gk : Nat} {r : List Int} {v : Value} (h : OneW w gk v r wr) (hb : Below wr.heap.size wr W) : OneW w gk v r W := ⟨blk_below h.1 hb, blk_below h.2.1 hb, Kd.R_below h.2.2.1 hb, below_step h.2.2.2 hb⟩
theorem OneW.alloc {w wr : World} {gk : Nat} {r : List Int} {v : Value} (h : OneW w gk v r wr) (o : Obj) : OneW w gk v r (wr.alloc o) := h.below (below_alloc (Below.refl _ _) o)
theorem OneW.cell {w wr : World} {gk g tt : Nat} {cs : Array Value} {r : List Int} {v : Value} (h : OneW w gk v r wr) (hg : wr.heap[g]? = some (.cells cs tt (0, 0))) (h1 : g ≠ w.heap.size) (h2 : g ≠ gk) (hB : w.heap.size ≤ g) (ht : ∀ q, q ∈ 5 :: (Kd.int .u8).E → q ≠ tt) (i : Nat) (u : Value) : OneW w gk v r (wr.setCell ⟨g, i, none⟩ u) :=
  ⟨(Below.heap_setCell _ _ _ _ (by show w.heap.size ≠ g; omega)).trans h.1, (Below.heap_setCell _ _ _ _ (by show gk ≠ g; omega)).trans h.2.1, Kd.R_set h.2.2.1 hg ht i u, h.2.2.2.setCell (p := ⟨g, i, none⟩) hB u⟩
def OneH (w : World) (gk gh : Nat) (st : List Int) (v : Value) (p : List Int) (wr : World) : Prop := OneW w gk v p wr ∧ wr.heap[gh]? = some (.cells (longs st) 61 (0, 0))
theorem OneH.below {w wr W : World} {gk gh : Nat} {st p : List Int} {v : Value} (h : OneH w gk gh st v p wr) (hb : Below wr.heap.size wr W) : OneH w gk gh st v p W := ⟨h.1.below hb, blk_below h.2 hb⟩
theorem OneH.alloc {w wr : World} {gk gh : Nat} {st p : List Int} {v : Value} (h : OneH w gk gh st v p wr) (o : Obj) : OneH w gk gh st v p (wr.alloc o) := h.below (below_alloc (Below.refl _ _) o)
theorem OneH.cell {w wr : World} {gk gh g tt : Nat} {cs : Array Value} {st p : List Int} {v : Value} (h : OneH w gk gh st v p wr) (hg : wr.heap[g]? = some (.cells cs tt (0, 0))) (h1 : g ≠ w.heap.size) (h2 : g ≠ gk) (h3 : g ≠ gh) (hB : w.heap.size ≤ g) (ht : ∀ q, q ∈ 5 :: (Kd.int .u8).E → q ≠ tt) (i : Nat) (u : Value) : OneH w gk gh st v p (wr.setCell ⟨g, i, none⟩ u) :=
  ⟨h.1.cell hg h1 h2 hB ht i u, (Below.heap_setCell _ _ _ _ (by show gh ≠ g; omega)).trans h.2⟩
theorem OneH.set {w wr : World} {gk gh : Nat} {st st' p : List Int} {v u : Value} (h : OneH w gk gh st v p wr) (h1 : w.heap.size < gh) (h2 : gk < gh) {i : Nat} (hs : (longs st).setIfInBounds i u = longs st') : OneH w gk gh st' v p (wr.setCell ⟨gh, i, none⟩ u) :=
  ⟨h.1.cell h.2 (by omega) (by omega) (by omega) (by decide) i u, by rw [blk_set h.2, hs]⟩
theorem OneH.put8 {w W : World} {gk gh : Nat} {p : List Int} {v : Value} {a0 a1 a2 a3 a4 a5 a6 a7 : Int} (h : OneH w gk gh [a0, a1, a2, a3, a4, a5, a6, a7] v p W) (k1 : w.heap.size < gh) (k2 : gk < gh) (v0 v1 v2 v3 v4 v5 v6 v7 : Int) :
    OneH w gk gh [v0, v1, v2, v3, v4, v5, v6, v7] v p ((((((((W.setCell ⟨gh, 0, none⟩ (.int .u64 v0)).setCell ⟨gh, 1, none⟩ (.int .u64 v1)).setCell ⟨gh, 2, none⟩ (.int .u64 v2)).setCell ⟨gh, 3, none⟩ (.int .u64 v3)).setCell ⟨gh, 4, none⟩ (.int .u64 v4)).setCell ⟨gh, 5, none⟩ (.int .u64 v5)).setCell ⟨gh, 6, none⟩ (.int .u64 v6)).setCell ⟨gh, 7, none⟩ (.int .u64 v7)) := by
  have h0 := OneH.set (st' := [v0, a1, a2, a3, a4, a5, a6, a7]) h k1 k2 (i := 0) (u := .int .u64 v0) rfl
  have h1 := OneH.set (st' := [v0, v1, a2, a3, a4, a5, a6, a7]) h0 k1 k2 (i := 1) (u := .int .u64 v1) rfl
  have h2 := OneH.set (st' := [v0, v1, v2, a3, a4, a5, a6, a7]) h1 k1 k2 (i := 2) (u := .int .u64 v2) rfl
  have h3 := OneH.set (st' := [v0, v1, v2, v3, a4, a5, a6, a7]) h2 k1 k2 (i := 3) (u := .int .u64 v3) rfl
  have h4 := OneH.set (st' := [v0, v1, v2, v3, v4, a5, a6, a7]) h3 k1 k2 (i := 4) (u := .int .u64 v4) rfl
  have h5 := OneH.set (st' := [v0, v1, v2, v3, v4, v5, a6, a7]) h4 k1 k2 (i := 5) (u := .int .u64 v5) rfl
  have h6 := OneH.set (st' := [v0, v1, v2, v3, v4, v5, v6, a7]) h5 k1 k2 (i := 6) (u := .int .u64 v6) rfl
  have h7 := OneH.set (st' := [v0, v1, v2, v3, v4, v5, v6, v7]) h6 k1 k2 (i := 7) (u := .int .u64 v7) rfl
  exact h7
def OneV (w : World) (gk gh gw : Nat) (st ws : List Int) (v : Value) (p : List Int) (wr : World) : Prop := OneH w gk gh st v p wr ∧ wr.heap[gw]? = some (.cells (longs ws) 59 (0, 0))
theorem OneV.below {w wr W : World} {gk gh gw : Nat} {st ws p : List Int} {v : Value} (h : OneV w gk gh gw st ws v p wr) (hb : Below wr.heap.size wr W) : OneV w gk gh gw st ws v p W := ⟨h.1.below hb, blk_below h.2 hb⟩
theorem OneV.drew {w wr : World} {gk gh gw : Nat} {st ws p : List Int} {v : Value} (h : OneV w gk gh gw st ws v p wr) : OneV w gk gh gw st ws v p wr.drew := ⟨⟨h.1.1.drew, blk_drew h.1.2⟩, blk_drew h.2⟩
theorem OneV.set {w wr : World} {gk gh gw : Nat} {st ws ws' p : List Int} {v u : Value} (h : OneV w gk gh gw st ws v p wr) (h1 : w.heap.size < gw) (h2 : gk < gw) (h3 : gh < gw) {i : Nat} (hs : (longs ws).setIfInBounds i u = longs ws') : OneV w gk gh gw st ws' v p (wr.setCell ⟨gw, i, none⟩ u) :=
  ⟨h.1.cell h.2 (by omega) (by omega) (by omega) (by omega) (by decide) i u, by rw [blk_set h.2, hs]⟩
/-- The words of a block, its first i bytes taken. -/
def pk (b : List Int) : Nat → List Int
  | 0 => Z64
  | i + 1 => (pk b i).set (i / 4) (IntKind.u64.wrap (IntKind.u64.wrap (rd (pk b i) (i / 4 : Nat) * 256) + IntKind.u64.wrap (rd b i)))
theorem pk_len (b : List Int) : ∀ i, (pk b i).length = 64
  | 0 => rfl
  | i + 1 => by rw [pk, List.length_set, pk_len b i]
def H64 : List Int := [1779033703, 3144134277, 1013904242, 2773480762, 1359893119, 2600822924, 528734635, 1541459225]
/-- The state behind the first m blocks. -/
def foldG (p : List Int) : Nat → List Int
  | 0 => H64
  | m + 1 => blockL (foldG p m) (pk (p.drop (64 * m)) 64) KK
theorem foldG_len (p : List Int) : ∀ m, (foldG p m).length = 8
  | 0 => rfl
  | m + 1 => blockL_len (foldG_len p m)
/-- The whole padded text. -/
def padG (b : List Int) : List Int := (b ++ [128]) ++ List.replicate ((120 - (b.length + 1) % 64) % 64) 0 ++ OctetMath.eight ((b.length : Int) * 8)
def outZ (l : List Int) (j : Nat) : List Int := l.take j ++ List.replicate (32 - j) 0
theorem outZ_set (l : List Int) (hl : l.length = 32) {j : Nat} (h : j < 32) : (octs (outZ l j)).setIfInBounds j (.int .u8 (rd l j)) = octs (outZ l (j + 1)) := by
  unfold octs outZ
  obtain ⟨m, hm⟩ : ∃ m, 32 - j = m + 1 := ⟨31 - j, by omega⟩
  have h2 : 32 - (j + 1) = m := by omega
  have ht : (l.take j).length = j := by simp; omega
  rw [hm, h2, List.replicate_succ, List.take_succ_eq_append_getElem (by omega)]
  simp only [List.map_append, List.map_cons, List.setIfInBounds_toArray, List.map_nil]
  rw [List.set_append_right _ _ (by simp; omega)]
  simp [rd, List.getD_eq_getElem?_getD, List.getElem?_eq_getElem (show j < l.length by omega), show min j l.length = j by omega]
theorem outZ_at (l : List Int) (hl : l.length = 32) {j : Nat} (h : j < 32) : (octs (outZ l j))[j]? = some (.int .u8 0) := by
  unfold octs outZ
  obtain ⟨m, hm⟩ : ∃ m, 32 - j = m + 1 := ⟨31 - j, by omega⟩
  rw [hm, List.replicate_succ]
  simp [show min j l.length = j by omega, List.getElem?_append_right]
theorem outZ_all (l : List Int) (hl : l.length = 32) : outZ l 32 = l := by simp [outZ, ← hl]
/-- A state's bytes. -/
def bytesOf (st : List Int) : List Int := st.flatMap fun x => (OctetMath.eight x).drop 4
theorem bytesOf_len {st : List Int} (h : st.length = 8) : (bytesOf st).length = 32 := by
  obtain ⟨a, b, c, d, e, f, g, k, rfl⟩ := eight_of h
  rfl
theorem bytesOf_at {st : List Int} (h : st.length = 8) {i n : Nat} (hi : i < 8) (hn : n < 4) : rd (bytesOf st) ((4 * i + n : Nat) : Int) = rd (OctetMath.eight (rd st (i : Int))) ((4 + n : Nat) : Int) := by
  obtain ⟨a, b, c, d, e, f, g, k, rfl⟩ := eight_of h
  have h8 : i = 0 ∨ i = 1 ∨ i = 2 ∨ i = 3 ∨ i = 4 ∨ i = 5 ∨ i = 6 ∨ i = 7 := by omega
  have h4 : n = 0 ∨ n = 1 ∨ n = 2 ∨ n = 3 := by omega
  rcases h8 with rfl | rfl | rfl | rfl | rfl | rfl | rfl | rfl <;> rcases h4 with rfl | rfl | rfl | rfl <;> rfl
def OneO (w : World) (gh go : Nat) (st l : List Int) (j : Nat) (wr : World) : Prop := wr.heap[w.heap.size]? = some (.cells (octs (List.replicate 32 0)) 25 (0, 0)) ∧ wr.heap[gh]? = some (.cells (longs st) 61 (0, 0)) ∧ wr.heap[go]? = some (.cells (octs (outZ l j)) 25 (0, 0)) ∧ Below w.heap.size w wr
theorem OneO.below {w wr W : World} {gh go j : Nat} {st l : List Int} (h : OneO w gh go st l j wr) (hb : Below wr.heap.size wr W) : OneO w gh go st l j W := ⟨blk_below h.1 hb, blk_below h.2.1 hb, blk_below h.2.2.1 hb, below_step h.2.2.2 hb⟩
theorem OneO.set {w wr : World} {gh go j : Nat} {st l : List Int} {u : Value} (h : OneO w gh go st l j wr) (h1 : w.heap.size < go) (h2 : gh < go) (hs : (octs (outZ l j)).setIfInBounds j u = octs (outZ l (j + 1))) : OneO w gh go st l (j + 1) (wr.setCell ⟨go, j, none⟩ u) :=
  ⟨(Below.heap_setCell _ _ _ _ (by show w.heap.size ≠ go; omega)).trans h.1, (Below.heap_setCell _ _ _ _ (by show gh ≠ go; omega)).trans h.2.1, by rw [blk_set h.2.2.1, hs], h.2.2.2.setCell (p := ⟨go, j, none⟩) (by show w.heap.size ≤ go; omega) u⟩
def oneL (b : List Int) : List Int := bytesOf (foldG (padG b) ((padG b).length / 64))
theorem mid_set (A R : List Int) (x v : Int) : (A ++ x :: R).set A.length v = A ++ v :: R := by
  rw [List.set_append_right _ _ (Nat.le_refl _), Nat.sub_self, List.set_cons_zero]
theorem mid_rd (A R : List Int) (x : Int) : rd (A ++ x :: R) (A.length : Int) = x := by
  unfold rd
  rw [Int.toNat_natCast, List.getD_eq_getElem?_getD, List.getElem?_append_right (Nat.le_refl _), Nat.sub_self]
  rfl
theorem pk_step {b A R : List Int} {x : Int} {i : Nat} (h : pk b i = A ++ x :: R) (hi : i / 4 = A.length) : pk b (i + 1) = A ++ IntKind.u64.wrap (IntKind.u64.wrap (x * 256) + IntKind.u64.wrap (rd b i)) :: R := by
  rw [pk, hi, h, mid_set, mid_rd]
theorem pk_four {b : List Int} (hb : AllBy b) : ∀ m, m ≤ 16 → pk b (4 * m) = wordsAt b m ++ List.replicate (64 - m) 0
  | 0, _ => rfl
  | m + 1, hm => by
    have ih := pk_four hb m (by omega)
    obtain ⟨r, hr⟩ : ∃ r, 64 - m = r + 1 := ⟨63 - m, by omega⟩
    have hr2 : 64 - (m + 1) = r := by omega
    have hl := wordsAt_len b m
    rw [hr, List.replicate_succ] at ih
    have h1 := pk_step ih (by rw [hl]; omega)
    have h2 := pk_step h1 (by rw [hl]; omega)
    have h3 := pk_step h2 (by rw [hl]; omega)
    have h4 := pk_step h3 (by rw [hl]; omega)
    rw [show 4 * (m + 1) = 4 * m + 1 + 1 + 1 + 1 by omega, h4, wordsAt_succ, hr2, List.append_assoc, List.singleton_append]
    congr 2
    have e0 := hb.get ((4 * m : Nat) : Int); have e1 := hb.get ((4 * m + 1 : Nat) : Int); have e2 := hb.get ((4 * m + 1 + 1 : Nat) : Int); have e3 := hb.get ((4 * m + 1 + 1 + 1 : Nat) : Int)
    rw [(wordAt_is hb m).1]
    rw [show (4 * (m : Int)) = ((4 * m : Nat) : Int) by omega, show (((4 * m : Nat) : Int) + 1) = ((4 * m + 1 : Nat) : Int) by omega, show (((4 * m : Nat) : Int) + 2) = ((4 * m + 1 + 1 : Nat) : Int) by omega, show (((4 * m : Nat) : Int) + 3) = ((4 * m + 1 + 1 + 1 : Nat) : Int) by omega]
    generalize rd b ((4 * m : Nat) : Int) = w0 at *
    generalize rd b ((4 * m + 1 : Nat) : Int) = w1 at *
    generalize rd b ((4 * m + 1 + 1 : Nat) : Int) = w2 at *
    generalize rd b ((4 * m + 1 + 1 + 1 : Nat) : Int) = w3 at *
    rw [wrap64u (0 * 256) (by omega) (by omega), wrap64u w0 (by omega) (by omega), wrap64u (0 * 256 + w0) (by omega) (by omega), wrap64u ((0 * 256 + w0) * 256) (by omega) (by omega), wrap64u w1 (by omega) (by omega), wrap64u ((0 * 256 + w0) * 256 + w1) (by omega) (by omega), wrap64u (((0 * 256 + w0) * 256 + w1) * 256) (by omega) (by omega), wrap64u w2 (by omega) (by omega), wrap64u (((0 * 256 + w0) * 256 + w1) * 256 + w2) (by omega) (by omega), wrap64u ((((0 * 256 + w0) * 256 + w1) * 256 + w2) * 256) (by omega) (by omega), wrap64u w3 (by omega) (by omega), wrap64u _ (by omega) (by omega)]
    omega
theorem pk_same (b : List Int) (hb : AllBy b) : pk b 64 = fill (wordsAt b 16) 64 := by
  have h := pk_four hb 16 (Nat.le_refl _)
  unfold fill
  rw [wordsAt_len]
  exact h
theorem foldG_same {p : List Int} (hp : AllBy p) : ∀ m, AllWd (foldG p m) ∧ foldG p (m + 1) = mixL (foldG p m) (p.drop (64 * m)) := by
  have step : ∀ m, AllWd (foldG p m) → foldG p (m + 1) = mixL (foldG p m) (p.drop (64 * m)) ∧ AllWd (foldG p (m + 1)) := by
    intro m hm
    have hd : AllBy (p.drop (64 * m)) := fun x hx => hp x (List.mem_of_mem_drop hx)
    have := block_same (foldG_len p m) hm hd
    rw [← pk_same _ hd] at this
    have e : foldG p (m + 1) = mixL (foldG p m) (p.drop (64 * m)) := this.1
    exact ⟨e, by rw [e]; exact this.2⟩
  intro m
  induction m with
  | zero =>
    have h0 : AllWd (foldG p 0) := by
      intro x hx
      have h : (H64.all fun x => decide (0 ≤ x) && decide (x < 4294967296)) = true := by decide +kernel
      have := List.all_eq_true.1 h x hx
      simp only [Bool.and_eq_true, decide_eq_true_eq] at this
      exact this
    exact ⟨h0, (step 0 h0).1⟩
  | succ m ih => exact ⟨(step m ih.1).2, (step (m + 1) (step m ih.1).2).1⟩
theorem eight_by (v : Int) (h0 : 0 ≤ v) : AllBy (OctetMath.eight v) := by
  intro x hx
  simp only [OctetMath.eight, List.mem_cons, List.not_mem_nil, or_false] at hx
  rcases hx with rfl | rfl | rfl | rfl | rfl | rfl | rfl | rfl <;> exact ⟨by omega, by omega⟩
theorem padG_by {b : List Int} (hb : AllBy b) : AllBy (padG b) := by
  intro x hx
  rcases List.mem_append.1 hx with h | h
  · rcases List.mem_append.1 h with h | h
    · rcases List.mem_append.1 h with h | h
      · exact hb x h
      · rw [List.mem_singleton] at h; rw [h]; exact ⟨by decide, by decide⟩
    · rw [(List.mem_replicate.1 h).2]; exact ⟨by decide, by decide⟩
  · exact eight_by _ (by omega) x h
set_option maxRecDepth 100000 in
set_option maxHeartbeats 8000000 in
theorem one_calls (A : Option Addr) (c : Nat) (b : List Int) (w : World) (hr : Kd.C (Kd.int .u8) w A b.length b) (hc : b.length ≤ c) (hl : b.length ≤ 1000000) (hby : AllBy b) :
    Calls Tryd.prog 14 #[.slice A b.length c] w fun en w' => en = .returned (.agg (octs (oneL b))) ∧ Below w.heap.size w w' := by
  have HR := Aside0.mk hr
  have HC := Aside0.mk hc
  have HL := Aside0.mk hl
  have HBY := Aside0.mk hby
  clear hby
  have HIK : Aside0 ((Tryd.prog.info? 59).map (·.size) = some (longs KK).size) := ⟨by kernel_rfl⟩
  have HOK : Aside0 ((longs Z64).size = (longs KK).size) := ⟨by kernel_rfl⟩
  have HZ0 : Aside0 ((w.alloc (.cells (octs (List.replicate 32 0)) 25)).heap[w.heap.size]? = some (.cells (octs (List.replicate 32 0)) 25 (0, 0))) := ⟨blk_new _ _⟩
  have HB : Aside0 (Below w.heap.size w (w.alloc (.cells (octs (List.replicate 32 0)) 25))) := ⟨below_alloc (Below.refl _ _) _⟩
  obtain ⟨q, hq⟩ : ∃ q_, q_ = b ++ [128] := ⟨_, rfl⟩
  have HQL : Aside0 (q.length = b.length + 1) := ⟨by rw [hq]; simp⟩
  have HQE := Aside0.mk hq
  clear hr hc hl hq
  go_enter Tryd.func14, Tryd.ntmps14
  go_wp2_with (first | ((with_reducible refine gate_dst (N := 2) rfl ?_); refine Kd.event_run (v := .pointer (some ⟨w.heap.size, 0, none⟩)) (w1 := w.alloc (.cells (octs (List.replicate 32 0)) 25)) rfl ?hr ?_; (case hr => first | rfl | (go_simp; rfl)); generalize w.alloc (.cells (octs (List.replicate 32 0)) 25) = w1 at *) | (go_at_call 29; (with_reducible refine (keys_calls _).mono ?_); rintro en wz ⟨rfl, hb⟩; have HB' := Aside0.mk (below_step (by repeat (first | (with_reducible first | exact HB.out | apply below_alloc | apply pw_below_drewN | apply below_drew1) | exact HB.out)) hb); have HZ0' := Aside0.mk (blk_below (by repeat (first | exact HZ0.out | (with_reducible refine blk_drewN ?_ _) | (with_reducible refine blk_drew ?_) | (with_reducible refine blk_alloc ?_ _))) hb); clear hb HB HZ0; have HB := HB'; have HZ0 := HZ0'; clear HB' HZ0'; have HZ1 : Aside0 ((wz.alloc (.cells (longs Z64) 59)).heap[w.heap.size]? = some (.cells (octs (List.replicate 32 0)) 25 (0, 0))) := ⟨blk_alloc HZ0.out _⟩; have HB1 : Aside0 (Below w.heap.size w (wz.alloc (.cells (longs Z64) 59))) := ⟨below_alloc HB.out _⟩; have HK1 : Aside0 ((wz.alloc (.cells (longs Z64) 59)).heap[wz.heap.size]? = some (.cells (longs Z64) 59 (0, 0))) := ⟨blk_new _ _⟩; have HGK : Aside0 (w.heap.size < wz.heap.size) := ⟨blk_lt HZ0.out⟩) | ((with_reducible refine gate_dst (N := 3) rfl ?_); refine Kd.event_run (v := .pointer (some ⟨wz.heap.size, 0, none⟩)) (w1 := wz.alloc (.cells (longs Z64) 59)) rfl ?hr ?_; (case hr => first | rfl | (go_simp; rfl)); generalize wz.alloc (.cells (longs Z64) 59) = w2 at *) | ((with_reducible refine gate_store (t := 59) (p := 3) (v := .tmp 13) rfl ?_); refine wpList_store_row rfl 59 (.tmp 3) (.tmp 13) rfl wz.heap.size (longs KK) rfl rfl 59 _ HK1.out HIK.out HOK.out (longs_one KK) ?_; have HM := Aside0.mk (show OneW w wz.heap.size (.slice none 0 0) [] (w2.setRow wz.heap.size (longs KK)) from ⟨(setRow_other _ _ _ _ (Nat.ne_of_lt HGK.out)).trans HZ1.out, setRow_heap _ _ _ _ _ _ HK1.out, Kd.R_nil _ _ _ _ _, below_setRow HB1.out (Nat.le_of_lt HGK.out) _⟩); generalize w2.setRow wz.heap.size (longs KK) = w3 at *; obtain ⟨gk, hgk⟩ : ∃ g_, g_ = wz.heap.size := ⟨_, rfl⟩; rw [← hgk] at HM HGK ⊢; clear HZ1 HB1 HK1 HZ0 HB hgk) | ((with_reducible refine gate_dst (N := 14) rfl ?_); refine Kd.R_lit (Kd.int .u8) _ 5 ?hg (N := 14) ?hd (xs := ([] : List Int)) (inner := []) (ok := fun _ => True) (okp := fun _ => True) ?hr ?hp (fun _ hk => hk) trivial (Below.refl _ _) (Nat.le_refl _) (by simp) ?_; (case hd => rfl); (case hg => rfl); (case hr => first | (go_simp; done) | (go_simp; rfl)); (case hp => exact (Reps.none _ _)); intro v14 w14 ho hb hg_ hnew_; clear hg_ hnew_; have HM' : Aside0 (OneW w gk v14 [] w14) := ⟨blk_below HM.out.1 hb, blk_below HM.out.2.1 hb, Kd.R_lower ho (below_size HM.out.2.2.2), below_step HM.out.2.2.2 hb⟩; clear HM ho hb; have HM := HM'; clear HM'; have HNA := Aside0.mk (Kd.R_ne HM.out.2.2.1 HM.out.1 (by decide)); have HNB := Aside0.mk (Kd.R_ne HM.out.2.2.1 HM.out.2.1 (by decide))) | ((with_reducible refine gate_builtin (b := .append) (xs := #[.tmp 14, .tmp 15]) rfl ?_); at_builtin; refine Kd.R_append_rows (Kd.int .u8) (w0 := w) w.heap.size rfl (.tmp 14) (.tmp 15) 22 5 (.int .u8 0) 1 rfl Tryd.underlying22 info5 rfl (by decide) (by omega) v14 [] b _ _ _ (fun _ => True) (fun _ => False) rfl rfl ?aO ?aR (fun _ _ h => h) (fun _ h => h.elim) ?aF ?aB ?aS ?aL ?_; (case aR => repeat (first | exact (Kd.C_below HR.out HM.out.2.2.2) | (with_reducible refine Kd.C_alloc ?_ _) | (with_reducible refine Kd.C_drewN ?_ _) | (with_reducible refine Kd.C_drew ?_))); (case aB => exact (by repeat (first | (with_reducible first | exact HM.out.2.2.2 | apply below_alloc | apply pw_below_drewN | apply below_drew1) | exact HM.out.2.2.2))); (case aF => exact fun _ _ => trivial); (case aO => exact (by (with_reducible repeat (first | apply Kd.R_alloc | apply Kd.R_drewN | apply Kd.R_drew)); exact HM.out.2.2.1)); (case aS => exact below_size (by repeat (first | (with_reducible first | exact HM.out.2.2.2 | apply below_alloc | apply pw_below_drewN | apply below_drew1) | exact HM.out.2.2.2))); (case aL => have := HL.out; simp only [List.length_nil]; omega); intro v16 w16 ho hb hgr hat; have HM' : Aside0 (OneW w gk v16 b w16) := ⟨blk_grown HM.out.1 hgr HNA.out, blk_grown HM.out.2.1 hgr HNB.out, by rw [List.nil_append] at ho; exact ho, hb⟩; clear HM ho hb hgr hat HNA HNB; have HM := HM'; clear HM'; have HNA := Aside0.mk (Kd.R_ne HM.out.2.2.1 HM.out.1 (by decide)); have HNB := Aside0.mk (Kd.R_ne HM.out.2.2.1 HM.out.2.1 (by decide))) | ((with_reducible refine gate_builtin (b := .append) (xs := #[.tmp 16, .tmp 17]) rfl ?_); at_builtin; refine Kd.R_append (Kd.int .u8) (w0 := w) w.heap.size rfl (.tmp 16) (.tmp 17) 22 5 (.int .u8 0) 1 rfl Tryd.underlying22 info5 rfl (by decide) (by omega) v16 b 128 [.int .u8 128] (fun _ => True) (fun _ => False) rfl rfl ?aP (fun _ hk => hk.elim) ?aF ?aO ?aB ?aS ?aL ?_; (case aP => exact rfl); (case aF => exact fun _ _ => trivial); (case aO => exact (by (with_reducible repeat (first | apply Kd.R_alloc | apply Kd.R_drewN | apply Kd.R_drew)); exact HM.out.2.2.1)); (case aB => exact (by repeat (first | (with_reducible first | exact HM.out.2.2.2 | apply below_alloc | apply pw_below_drewN | apply below_drew1) | exact HM.out.2.2.2))); (case aS => exact below_size (by repeat (first | (with_reducible first | exact HM.out.2.2.2 | apply below_alloc | apply pw_below_drewN | apply below_drew1) | exact HM.out.2.2.2))); (case aL => have := HL.out; omega); intro v18 w18 ho hb hgr hat; have HM2 : Aside0 (OneW w gk v18 q w18) := ⟨blk_grown HM.out.1 hgr HNA.out, blk_grown HM.out.2.1 hgr HNB.out, by rw [HQE.out]; exact ho, hb⟩; clear HM ho hb hgr hat HNA HNB))
  go_loopw [4] (fun v4 wr => ∃ (j : Nat), j ≤ (120 - q.length % 64) % 64 ∧ Aside0 (OneW w gk v4 (q ++ List.replicate j 0) wr)) (fun v4 _ => (120 - q.length % 64) % 64 + q.length - lenOf v4)
  case atStart => exact ⟨0, Nat.zero_le _, ⟨by rw [List.replicate_zero, List.append_nil]; exact HM2.out⟩⟩
  case round =>
    clear HM2
    obtain ⟨j, hj, HM⟩ := hrel
    obtain ⟨s, hs⟩ : ∃ s_, s_ = q ++ List.replicate j 0 := ⟨_, rfl⟩
    have hsl : s.length = q.length + j := by rw [hs]; simp
    rw [← hs] at HM
    obtain ⟨A4, c4, e4⟩ := Kd.R_slice HM.out.2.2.1
    by_cases hjl : j < (120 - q.length % 64) % 64
    · obtain ⟨tm, htm⟩ : ∃ x_, x_ = Int.tmod (s.length : Int) 64 := ⟨_, rfl⟩
      have htm2 : (tm != 56) = true := by
        rw [bne_iff_ne, htm, Int.tmod_eq_emod_of_nonneg (by omega)]
        omega
      have htm3 : Int.tmod (s.length : Int) 64 = tm := htm.symm
      obtain ⟨s2, hs2⟩ : ∃ s_, s_ = s ++ [0] := ⟨_, rfl⟩
      have HS2 := Aside0.mk hs2
      have HS3 : Aside0 (q ++ List.replicate (j + 1) 0 = s2) := ⟨by rw [hs2, hs, List.replicate_succ', List.append_assoc]⟩
      have HNA := Aside0.mk (Kd.R_ne HM.out.2.2.1 HM.out.1 (by decide))
      have HNB := Aside0.mk (Kd.R_ne HM.out.2.2.1 HM.out.2.1 (by decide))
      have HJL := Aside0.mk hjl
      have HSL := Aside0.mk hsl
      have HS2L : Aside0 (s2.length = s.length + 1) := ⟨by rw [hs2]; simp⟩
      clear hjl hs hsl hs2 hj htm
      subst e4
      go_wp2_with (first | ((with_reducible refine gate_builtin (b := .append) (xs := #[.tmp 23, .tmp 24]) rfl ?_); at_builtin; refine Kd.R_append (Kd.int .u8) (w0 := w) w.heap.size rfl (.tmp 23) (.tmp 24) 22 5 (.int .u8 0) 1 rfl Tryd.underlying22 info5 rfl (by decide) (by omega) (.slice A4 s.length c4) s 0 [.int .u8 0] (fun _ => True) (fun _ => False) rfl rfl ?aP (fun _ hk => hk.elim) ?aF ?aO ?aB ?aS ?aL ?_; (case aP => exact rfl); (case aF => exact fun _ _ => trivial); (case aO => exact (by (with_reducible repeat (first | apply Kd.R_alloc | apply Kd.R_drewN | apply Kd.R_drew)); exact HM.out.2.2.1)); (case aB => exact (by repeat (first | (with_reducible first | exact HM.out.2.2.2 | apply below_alloc | apply pw_below_drewN | apply below_drew1) | exact HM.out.2.2.2))); (case aS => exact below_size (by repeat (first | (with_reducible first | exact HM.out.2.2.2 | apply below_alloc | apply pw_below_drewN | apply below_drew1) | exact HM.out.2.2.2))); (case aL => have := HSL.out; have := HQL.out; have := HL.out; have := HJL.out; omega); intro v25 w25 ho hb hgr hat; have HM2 : Aside0 (OneW w gk v25 s2 w25) := ⟨blk_grown HM.out.1 hgr HNA.out, blk_grown HM.out.2.1 hgr HNB.out, by rw [HS2.out]; exact ho, hb⟩; clear HM ho hb hgr hat HNA HNB))
      obtain ⟨A5, c5, e5⟩ := Kd.R_slice HM2.out.2.2.1
      subst e5
      go_wp2
      go_roundw
      case rel => exact ⟨j + 1, HJL.out, ⟨by rw [HS3.out]; exact HM2.out⟩⟩
      case measure => have h1_ := HJL.out; have h2_ := HSL.out; have h3_ := HS2L.out; show (120 - q.length % 64) % 64 + q.length - s2.length < (120 - q.length % 64) % 64 + q.length - s.length; omega
    · have hj2 : j = (120 - q.length % 64) % 64 := by omega
      have htm2 : Int.tmod (s.length : Int) 64 = 56 := by
        rw [Int.tmod_eq_emod_of_nonneg (by omega)]
        omega
      have hl := HL.out
      have hql := HQL.out
      obtain ⟨pd, hpd⟩ : ∃ s_, s_ = s := ⟨_, rfl⟩
      have HPD : Aside0 (pd = b ++ [128] ++ List.replicate ((120 - (b.length + 1) % 64) % 64) 0) := ⟨by rw [hpd, hs, hj2, HQE.out, hql.symm, HQE.out]⟩
      have HPL : Aside0 (pd.length % 64 = 56 ∧ pd.length ≤ 1000100) := ⟨by rw [hpd]; omega⟩
      rw [← hpd] at HM e4 htm2
      obtain ⟨n8, hn8⟩ : ∃ x_ : Int, x_ = (b.length : Int) * 8 := ⟨_, rfl⟩
      have hw1 : IntKind.u64.wrap (b.length : Int) = (b.length : Int) := OctetMath.wrap_u64 (by omega) (by omega)
      have hw2 : IntKind.u64.wrap ((b.length : Int) * 8) = n8 := by rw [OctetMath.wrap_u64 (by omega) (by omega), hn8]
      obtain ⟨p, hp⟩ : ∃ s_, s_ = pd ++ OctetMath.eight n8 := ⟨_, rfl⟩
      have HE8 : Aside0 (touchstoneref1_Eight.f 10 pd n8 = some p) := ⟨by have := HPL.out; rw [refEight_is (by omega) (by omega) (by omega) (by omega), hp]⟩
      have HP : Aside0 (p = padG b) := ⟨by rw [hp, HPD.out, hn8]; rfl⟩
      have HPL2 : Aside0 (p.length % 64 = 0 ∧ p.length ≤ 1000200) := ⟨by have := HPL.out; have h8 : (OctetMath.eight n8).length = 8 := rfl; rw [hp, List.length_append, h8]; omega⟩
      clear hs hsl hj2 hjl hj hpd hn8 hp hl hql
      have HCD := Aside0.mk (Kd.R_reads' (e4 ▸ HM.out.2.2.1)).2
      subst e4
      go_wp2_with (first | (go_at_call 21; refine (touchstoneref1_Eight.calls 10 A4 c4 pd n8 p _ ?s1 HCD.out.1 HE8.out).mono ?_; (case s1 => repeat (first | exact (Kd.R_reads' HM.out.2.2.1).2.2 | (with_reducible refine Kd.C_alloc ?_ _) | (with_reducible refine Kd.C_drewN ?_ _) | (with_reducible refine Kd.C_drew ?_))); rintro en w5 ⟨v5, rfl, ho, hb⟩; have HM' : Aside0 (OneW w gk v5 p w5) := ⟨blk_below HM.out.1 hb, blk_below HM.out.2.1 hb, Kd.R_lower ho (below_size HM.out.2.2.2), below_step HM.out.2.2.2 hb⟩; clear HM ho hb; have HM := HM'; clear HM'; obtain ⟨Ap, cp, ep⟩ := Kd.R_slice HM.out.2.2.1; subst ep))
      have HS : Aside0 (OneH w gk w5.heap.size (foldG p 0) (.slice Ap p.length cp) p (w5.alloc (.cells #[.int .u64 1779033703, .int .u64 3144134277, .int .u64 1013904242, .int .u64 2773480762, .int .u64 1359893119, .int .u64 2600822924, .int .u64 528734635, .int .u64 1541459225] 61))) := ⟨HM.out.alloc _, blk_new w5 _⟩
      have HGH : Aside0 (w.heap.size < w5.heap.size ∧ gk < w5.heap.size) := ⟨blk_lt HM.out.1, blk_lt HM.out.2.1⟩
      obtain ⟨gh, hgh⟩ : ∃ g_, g_ = w5.heap.size := ⟨_, rfl⟩
      rw [← hgh] at HS HGH ⊢
      generalize w5.alloc (.cells #[.int .u64 1779033703, .int .u64 3144134277, .int .u64 1013904242, .int .u64 2773480762, .int .u64 1359893119, .int .u64 2600822924, .int .u64 528734635, .int .u64 1541459225] 61) = w6 at *
      clear HM hgh htm2 hw1 hw2
      go_loopw [6] (fun v6 wr => ∃ (m : Nat), 64 * m ≤ p.length ∧ v6 = .int .i64 ((64 * m : Nat) : Int) ∧ Aside0 (OneH w gk gh (foldG p m) (.slice Ap p.length cp) p wr)) (fun v6 _ => p.length - (intOf v6).toNat)
      case atStart => exact ⟨0, by omega, rfl, HS⟩
      case round =>
        clear HS
        obtain ⟨m, hm, rfl, HH⟩ := hrel
        obtain ⟨n, hn⟩ : ∃ n_, n_ = 64 * m := ⟨_, rfl⟩
        rw [← hn]
        have hpl := HPL2.out
        by_cases hlt : n < p.length
        · have hg : decide ((n : Int) < (p.length : Int)) = true := by simp; omega
          have hg2 : decide (n < p.length) = true := decide_eq_true hlt
          have HNP : Aside0 (n + 64 ≤ p.length ∧ p.length ≤ 1000200) := ⟨by omega⟩
          obtain ⟨bl, hbl⟩ : ∃ b_, b_ = p.drop n := ⟨_, rfl⟩
          have HBL := Aside0.mk hbl
          have HN := Aside0.mk hn
          have HGW : Aside0 (w.heap.size < wr.heap.size ∧ gk < wr.heap.size ∧ gh < wr.heap.size) := ⟨blk_lt HH.out.1.1, blk_lt HH.out.1.2.1, blk_lt HH.out.2⟩
          have HV0 : Aside0 (OneV w gk gh wr.heap.size (foldG p m) Z64 (.slice Ap p.length cp) p (wr.alloc (.cells (longs Z64) 59))) := ⟨HH.out.alloc _, blk_new wr _⟩
          have HSL0 : Aside0 ((foldG p m).length = 8) := ⟨foldG_len p m⟩
          obtain ⟨st, hst⟩ : ∃ s_, s_ = foldG p m := ⟨_, rfl⟩
          have HST := Aside0.mk hst
          rw [← hst] at HV0 HSL0
          have HWN0 : Aside0 (wrap64 ((n : Int) + 64) = ((n + 64 : Nat) : Int)) := ⟨(OctetMath.wrap64_id (by omega) (by omega)).trans (by omega)⟩
          have HN64 : Aside0 (n + 64 = 64 * (m + 1)) := ⟨by omega⟩
          clear hbl hn hm hpl hlt HH hst
          go_wp2_with (first | ((with_reducible refine gate_dst (N := 7) rfl ?_); refine Kd.event_run (v := .pointer (some ⟨wr.heap.size, 0, none⟩)) (w1 := wr.alloc (.cells (longs Z64) 59)) rfl ?hr ?_; (case hr => first | rfl | (go_simp; rfl)); generalize wr.alloc (.cells (longs Z64) 59) = w7 at *))
          obtain ⟨gw, hgw⟩ : ∃ g_, g_ = wr.heap.size := ⟨_, rfl⟩
          rw [← hgw] at HV0 HGW ⊢
          clear hgw
          go_loopw [8] (fun v8 wr => ∃ (i : Nat), i ≤ 64 ∧ v8 = .int .i64 (i : Int) ∧ Aside0 (OneV w gk gh gw st (pk bl i) (.slice Ap p.length cp) p wr)) (fun v8 _ => 64 - (intOf v8).toNat)
          case atStart => exact ⟨0, by omega, rfl, HV0⟩
          case round =>
            clear HV0
            obtain ⟨i, hi, rfl, HV⟩ := hrel
            by_cases hli : i < 64
            · have hil : decide ((i : Int) < 64) = true := by simp; omega
              obtain ⟨e, he⟩ : ∃ e_, e_ = i / 4 := ⟨_, rfl⟩
              have hq4 : Int.tdiv (i : Int) 4 = (e : Int) := by rw [Int.tdiv_eq_ediv_of_nonneg (by omega)]; omega
              have hq5 : IntKind.i64.wrap (e : Int) = (e : Int) := IntWalk.i64_in _ (by omega)
              have hnp := HNP.out
              obtain ⟨k, hk⟩ : ∃ k_, k_ = n + i := ⟨_, rfl⟩
              have hk1 : IntKind.i64.wrap ((n : Int) + (i : Int)) = (k : Int) := (IntWalk.i64_in _ (by omega)).trans (by omega)
              have hcp := (Kd.R_reads' HV.out.1.1.2.2.1).2.2
              obtain ⟨adp, eap, hxp⟩ := Kd.at_int hcp (k : Int) (by omega) (by omega)
              obtain ⟨cc, hcc⟩ : ∃ c_, c_ = rd p k := ⟨_, rfl⟩
              rw [← hcc, Int.toNat_natCast] at hxp
              obtain ⟨x, hx⟩ : ∃ x_, x_ = rd (pk bl i) (e : Int) := ⟨_, rfl⟩
              have hpkl := pk_len bl i
              have HQ : Aside0 (∀ W : World, OneV w gk gh gw st (pk bl i) (.slice Ap p.length cp) p W → W.cell? ⟨gw, e, none⟩ = some (.int .u64 x)) := ⟨fun W hW => by
                rw [blk_cell hW.2, longs_at _ (by omega), hx]⟩
              have HCC : Aside0 (cc = rd bl i) := ⟨by rw [hcc, HBL.out]; unfold rd; rw [Int.toNat_natCast, Int.toNat_natCast, List.getD_eq_getElem?_getD, List.getD_eq_getElem?_getD, List.getElem?_drop, hk]⟩
              have he0 : (0 : Int) ≤ (e : Int) := by omega
              have he64 : (e : Int) < 64 := by omega
              have hk0 : (0 : Int) ≤ (k : Int) := by omega
              have hkp : (k : Int) < (p.length : Int) := by omega
              have HWI0 : Aside0 (wrap64 ((i : Int) + 1) = ((i + 1 : Nat) : Int)) := ⟨(OctetMath.wrap64_id (by omega) (by omega)).trans (by omega)⟩
              have HPK : Aside0 (pk bl (i + 1) = (pk bl i).set e (IntKind.u64.wrap (IntKind.u64.wrap (x * 256) + IntKind.u64.wrap cc))) := ⟨by rw [HCC.out, hx, he]; rfl⟩
              have HLI := Aside0.mk hli
              have hfr := blk_frozen HV.out.2 e
              have hcx := HQ.out wr HV.out
              clear hnp hcp hcc hpkl hx hk hli hi he
              subst eap
              have HWI := HWI0.out
              go_wp2
              go_still_tail 16, (by kernel_rfl)
              change wpList _ _ _ _ _ wr.drew
              have HV2 := Aside0.mk HV.out.drew
              clear hxp hcx hfr HV
              generalize wr.drew = w8 at *
              have hfr := blk_frozen HV2.out.2 e
              have hcx := HQ.out w8 HV2.out
              go_wp2
              go_roundw
              case rel => exact ⟨i + 1, HLI.out, by first | rfl | (congr 1), ⟨OneV.set HV2.out HGW.out.1 HGW.out.2.1 HGW.out.2.2 (by rw [HPK.out]; exact longs_set _ _ _)⟩⟩
              case measure => first | (rw [HWI]; exact Nat.sub_lt_sub_left HLI.out (Nat.lt_succ_self i)) | (exact Nat.sub_lt_sub_left HLI.out (Nat.lt_succ_self i))
            · have hil : decide ((i : Int) < 64) = false := by simp; omega
              obtain rfl : i = 64 := by omega
              rw [show ((64 : Nat) : Int) = (64 : Int) from rfl] at hil ⊢
              have HPW : Aside0 ((pk bl 64).length = 64) := ⟨pk_len _ _⟩
              obtain ⟨ws, hws⟩ : ∃ s_, s_ = pk bl 64 := ⟨_, rfl⟩
              have HWS := Aside0.mk hws
              rw [← hws] at HV HPW
              have HIW : Aside0 ((Tryd.prog.info? 59).map (·.size) = some (longs ws).size) := ⟨by rw [longs_size, HPW.out]; kernel_rfl⟩
              obtain ⟨s0, s1, s2, s3, s4, s5, s6, s7, rfl⟩ := eight_of HSL0.out
              obtain ⟨z0, z1, z2, z3, z4, z5, z6, z7, hz⟩ := eight_of (blockL_len (ws := ws) (kk := KK) HSL0.out)
              have HZ := Aside0.mk hz
              have hH := HV.out.1.2
              have c0 : wr.cell? ⟨gh, 0, none⟩ = some (.int .u64 s0) := (blk_cell hH 0).trans rfl
              have c1 : wr.cell? ⟨gh, 1, none⟩ = some (.int .u64 s1) := (blk_cell hH 1).trans rfl
              have c2 : wr.cell? ⟨gh, 2, none⟩ = some (.int .u64 s2) := (blk_cell hH 2).trans rfl
              have c3 : wr.cell? ⟨gh, 3, none⟩ = some (.int .u64 s3) := (blk_cell hH 3).trans rfl
              have c4 : wr.cell? ⟨gh, 4, none⟩ = some (.int .u64 s4) := (blk_cell hH 4).trans rfl
              have c5 : wr.cell? ⟨gh, 5, none⟩ = some (.int .u64 s5) := (blk_cell hH 5).trans rfl
              have c6 : wr.cell? ⟨gh, 6, none⟩ = some (.int .u64 s6) := (blk_cell hH 6).trans rfl
              have c7 : wr.cell? ⟨gh, 7, none⟩ = some (.int .u64 s7) := (blk_cell hH 7).trans rfl
              clear hH hz hws hi hli
              have HWN := HWN0.out
              go_wp2_with (first | ((with_reducible refine gate_dst (N := 60) rfl ?_); refine wpList_load_row rfl 59 (.tmp 7) rfl gw rfl 59 (longs ws) (0, 0) _ HV.out.2 Tryd.underlying59 rfl HIW.out ?_) | ((with_reducible refine gate_dst (N := 61) rfl ?_); refine wpList_load_row rfl 59 (.tmp 3) rfl gk rfl 59 (longs KK) (0, 0) _ HV.out.1.1.2.1 Tryd.underlying59 rfl HIK.out ?_) | (go_at_call 30; refine (block_calls [s0, s1, s2, s3, s4, s5, s6, s7] ws KK _ HSL0.out HPW.out rfl).mono ?_; rintro en wm ⟨rfl, hb⟩; rw [HZ.out]; rw [show longs [z0, z1, z2, z3, z4, z5, z6, z7] = #[.int .u64 z0, .int .u64 z1, .int .u64 z2, .int .u64 z3, .int .u64 z4, .int .u64 z5, .int .u64 z6, .int .u64 z7] from rfl]; have HV2 := Aside0.mk (HV.out.below hb); have hH2 := HV2.out.1.2; have d0 : wm.cell? ⟨gh, 0, none⟩ = some (.int .u64 s0) := (blk_cell hH2 0).trans rfl; have d1 : wm.cell? ⟨gh, 1, none⟩ = some (.int .u64 s1) := (blk_cell hH2 1).trans rfl; have d2 : wm.cell? ⟨gh, 2, none⟩ = some (.int .u64 s2) := (blk_cell hH2 2).trans rfl; have d3 : wm.cell? ⟨gh, 3, none⟩ = some (.int .u64 s3) := (blk_cell hH2 3).trans rfl; have d4 : wm.cell? ⟨gh, 4, none⟩ = some (.int .u64 s4) := (blk_cell hH2 4).trans rfl; have d5 : wm.cell? ⟨gh, 5, none⟩ = some (.int .u64 s5) := (blk_cell hH2 5).trans rfl; have d6 : wm.cell? ⟨gh, 6, none⟩ = some (.int .u64 s6) := (blk_cell hH2 6).trans rfl; have d7 : wm.cell? ⟨gh, 7, none⟩ = some (.int .u64 s7) := (blk_cell hH2 7).trans rfl; have f0 := blk_frozen hH2 0; have f1 := blk_frozen hH2 1; have f2 := blk_frozen hH2 2; have f3 := blk_frozen hH2 3; have f4 := blk_frozen hH2 4; have f5 := blk_frozen hH2 5; have f6 := blk_frozen hH2 6; have f7 := blk_frozen hH2 7; clear hb hH2))
              have HH3 := Aside0.mk (HV2.out.1.put8 HGH.out.1 HGH.out.2 z0 z1 z2 z3 z4 z5 z6 z7)
              clear HV HV2 c0 c1 c2 c3 c4 c5 c6 c7 d0 d1 d2 d3 d4 d5 d6 d7 f0 f1 f2 f3 f4 f5 f6 f7
              generalize ((((((((wm.setCell ⟨gh, 0, none⟩ (.int .u64 z0)).setCell ⟨gh, 1, none⟩ (.int .u64 z1)).setCell ⟨gh, 2, none⟩ (.int .u64 z2)).setCell ⟨gh, 3, none⟩ (.int .u64 z3)).setCell ⟨gh, 4, none⟩ (.int .u64 z4)).setCell ⟨gh, 5, none⟩ (.int .u64 z5)).setCell ⟨gh, 6, none⟩ (.int .u64 z6)).setCell ⟨gh, 7, none⟩ (.int .u64 z7)) = w9 at *
              go_wp2
              go_roundw
              case rel => exact ⟨m + 1, by have h1_ := HN64.out; have h2_ := HNP.out; clear HWN; omega, by rw [HWN0.out, HN64.out], ⟨by rw [show foldG p (m + 1) = [z0, z1, z2, z3, z4, z5, z6, z7] from by rw [foldG, ← HST.out, ← HN.out, ← HBL.out, ← HWS.out, HZ.out]]; exact HH3.out⟩⟩
              case measure => have h_ := HNP.out; rw [HWN0.out]; show p.length - (n + 64) < p.length - n; clear HWN; omega
        · have hg : decide ((n : Int) < (p.length : Int)) = false := by simp; omega
          have hg2 : decide (n < p.length) = false := decide_eq_false hlt
          have hnl : n = p.length := by omega
          have HONE : Aside0 (bytesOf (foldG p m) = oneL b) := ⟨by unfold oneL; rw [← HP.out, show p.length / 64 = m by omega]⟩
          have HSL0 : Aside0 ((foldG p m).length = 8) := ⟨foldG_len p m⟩
          have HWD : Aside0 (AllWd (foldG p m)) := ⟨(foldG_same (by rw [HP.out]; exact padG_by HBY.out) m).1⟩
          obtain ⟨st, hst⟩ : ∃ s_, s_ = foldG p m := ⟨_, rfl⟩
          rw [← hst] at HH HONE HSL0 HWD
          have HO0 : Aside0 (OneO w gh wr.heap.size st (bytesOf st) 0 (wr.alloc (.cells (octs (List.replicate 32 0)) 25))) := ⟨blk_alloc HH.out.1.1 _, blk_alloc HH.out.2 _, blk_new wr _, below_alloc HH.out.1.2.2.2 _⟩
          have HGO : Aside0 (w.heap.size < wr.heap.size ∧ gh < wr.heap.size) := ⟨blk_lt HH.out.1.1, blk_lt HH.out.2⟩
          have HBL : Aside0 ((bytesOf st).length = 32) := ⟨bytesOf_len HSL0.out⟩
          clear hst hnl hpl hlt hm hn HH
          go_wp2_with (first | ((with_reducible refine gate_dst (N := 9) rfl ?_); refine Kd.event_run (v := .pointer (some ⟨wr.heap.size, 0, none⟩)) (w1 := wr.alloc (.cells (octs (List.replicate 32 0)) 25)) rfl ?hr ?_; (case hr => first | rfl | (go_simp; rfl)); generalize wr.alloc (.cells (octs (List.replicate 32 0)) 25) = w9 at *))
          obtain ⟨go, hgo⟩ : ∃ g_, g_ = wr.heap.size := ⟨_, rfl⟩
          rw [← hgo] at HO0 HGO ⊢
          clear hgo
          go_loopw [10] (fun v10 wr => ∃ (i : Nat), i ≤ 8 ∧ v10 = .int .i64 (i : Int) ∧ Aside0 (OneO w gh go st (bytesOf st) (4 * i) wr)) (fun v10 _ => 8 - (intOf v10).toNat)
          case atStart => exact ⟨0, by omega, rfl, HO0⟩
          case round =>
            clear HO0
            obtain ⟨i, hi, rfl, HO⟩ := hrel
            by_cases hi8 : i < 8
            · have hil : decide ((i : Int) < 8) = true := by simp; omega
              obtain ⟨x, hx⟩ : ∃ x_, x_ = rd st (i : Int) := ⟨_, rfl⟩
              have HX := Aside0.mk hx
              have hwx := HWD.out.get (i : Int)
              rw [← hx] at hwx
              obtain ⟨hx0, hx1⟩ := hwx
              have HE8 : Aside0 (touchstoneref1_Eight.f 10 [] x = some (OctetMath.eight x)) := ⟨by rw [refEight_is (by omega) hx0 (by omega) (by simp), List.nil_append]⟩
              have hch : wr.cell? ⟨gh, i, none⟩ = some (.int .u64 x) := by rw [blk_cell HO.out.2.1, longs_at _ (by rw [HSL0.out]; exact hi8), hx]
              have hip0 : (0 : Int) ≤ (i : Int) := by omega
              have hip8 : (i : Int) < 8 := by omega
              have HI8 := Aside0.mk hi8
              have HWI0 : Aside0 (wrap64 ((i : Int) + 1) = ((i + 1 : Nat) : Int)) := ⟨(OctetMath.wrap64_id (by omega) (by omega)).trans (by omega)⟩
              clear hi hi8 hx hx0 hx1
              go_wp2_with (first | (go_at_call 21; refine (touchstoneref1_Eight.calls 10 none 0 [] x (OctetMath.eight x) _ (Kd.C_nil _ _) (Nat.le_refl _) HE8.out).mono ?_; rintro en wx ⟨vx, rfl, ho, hb⟩; have HXR : Aside0 (Kd.R (Kd.int .u8) 5 wx w.heap.size (fun _ => True) vx (OctetMath.eight x)) := ⟨Kd.R_lower ho (below_size HO.out.2.2.2)⟩; have HO' := Aside0.mk (HO.out.below hb); clear HO ho hb; have HO := HO'; clear HO'; obtain ⟨Ax, cx, ex⟩ := Kd.R_slice HXR.out; subst ex))
              clear hch
              go_loopw [12] (fun v12 wr => ∃ (n : Nat), n ≤ 4 ∧ v12 = .int .i64 (n : Int) ∧ Aside0 (OneO w gh go st (bytesOf st) (4 * i + n) wr) ∧ Aside0 (Kd.R (Kd.int .u8) 5 wr w.heap.size (fun _ => True) (.slice Ax (OctetMath.eight x).length cx) (OctetMath.eight x))) (fun v12 _ => 4 - (intOf v12).toNat)
              case atStart => exact ⟨0, by omega, rfl, HO, HXR⟩
              case round =>
                clear HO HXR
                obtain ⟨nn, hnn, rfl, HO, HXR⟩ := hrel
                by_cases hn4 : nn < 4
                · have hnl : decide ((nn : Int) < 4) = true := by simp; omega
                  have hi9 := HI8.out
                  obtain ⟨i4, hi4⟩ : ∃ k_, k_ = 4 * i := ⟨_, rfl⟩
                  obtain ⟨k, hk⟩ : ∃ k_, k_ = 4 * i + nn := ⟨_, rfl⟩
                  obtain ⟨k2, hk2⟩ : ∃ k_, k_ = 4 + nn := ⟨_, rfl⟩
                  have hm1 : wrap64 (4 * (i : Int)) = (i4 : Int) := (OctetMath.wrap64_id (by omega) (by omega)).trans (by omega)
                  have hm2 : wrap64 ((i4 : Int) + (nn : Int)) = (k : Int) := (OctetMath.wrap64_id (by omega) (by omega)).trans (by omega)
                  have hm4 : wrap64 (4 * (i : Int) + (nn : Int)) = (k : Int) := (OctetMath.wrap64_id (by omega) (by omega)).trans (by omega)
                  have hm3 : wrap64 (4 + (nn : Int)) = (k2 : Int) := (OctetMath.wrap64_id (by omega) (by omega)).trans (by omega)
                  have h88 : (OctetMath.eight x).length = 8 := rfl
                  have hcp := (Kd.R_reads' HXR.out).2.2
                  obtain ⟨adx, eax, hxp⟩ := Kd.at_int hcp (k2 : Int) (by omega) (by omega)
                  obtain ⟨cc, hcc⟩ : ∃ c_, c_ = rd (OctetMath.eight x) (k2 : Int) := ⟨_, rfl⟩
                  rw [← hcc, Int.toNat_natCast] at hxp
                  have HCC : Aside0 (rd (bytesOf st) (k : Int) = cc) := ⟨by rw [hcc, hk, hk2, bytesOf_at HSL0.out hi9 hn4, HX.out]⟩
                  have hk0 : (0 : Int) ≤ (k : Int) := by omega
                  have hk32 : (k : Int) < 32 := by omega
                  have hk20 : (0 : Int) ≤ (k2 : Int) := by omega
                  have hk28 : (k2 : Int) < (((OctetMath.eight x).length : Nat) : Int) := by omega
                  have HK := Aside0.mk hk
                  have HK32 : Aside0 (k < 32) := ⟨by omega⟩
                  rw [← hk] at HO
                  have hoc : wr.cell? ⟨go, k, none⟩ = some (.int .u8 0) := by rw [blk_cell HO.out.2.2.1, outZ_at _ HBL.out HK32.out]
                  have hof := blk_frozen HO.out.2.2.1 k
                  have HN4 := Aside0.mk hn4
                  have HWM0 : Aside0 (wrap64 ((nn : Int) + 1) = ((nn + 1 : Nat) : Int)) := ⟨(OctetMath.wrap64_id (by omega) (by omega)).trans (by omega)⟩
                  clear hi9 hi4 hk hk2 hcp hcc hnn hn4 h88
                  subst eax
                  have HWM := HWM0.out
                  go_wp2
                  go_roundw
                  case rel => exact ⟨nn + 1, HN4.out, by first | rfl | (congr 1), ⟨by have h_ := HK.out; rw [show 4 * i + (nn + 1) = k + 1 by clear HWM; omega]; exact HO.out.set HGO.out.1 HGO.out.2 (by rw [← HCC.out]; exact outZ_set _ HBL.out HK32.out)⟩, ⟨Kd.R_set HXR.out HO.out.2.2.1 (by decide) _ _⟩⟩
                  case measure => first | (rw [HWM]; exact Nat.sub_lt_sub_left HN4.out (Nat.lt_succ_self nn)) | (exact Nat.sub_lt_sub_left HN4.out (Nat.lt_succ_self nn))
                · have hnl : decide ((nn : Int) < 4) = false := by simp; omega
                  obtain rfl : nn = 4 := by omega
                  clear hnn hn4
                  have HWI := HWI0.out
                  go_wp2
                  go_roundw
                  case rel => exact ⟨i + 1, HI8.out, by first | rfl | (congr 1), HO⟩
                  case measure => first | (rw [HWI]; exact Nat.sub_lt_sub_left HI8.out (Nat.lt_succ_self i)) | (exact Nat.sub_lt_sub_left HI8.out (Nat.lt_succ_self i))
            · have hil : decide ((i : Int) < 8) = false := by simp; omega
              obtain rfl : i = 8 := by omega
              clear hi hi8
              rw [show ((8 : Nat) : Int) = (8 : Int) from rfl] at hil ⊢
              have HR1 := Aside0.mk HO.out.1
              have HR2 : Aside0 (wr.heap[go]? = some (.cells (octs (oneL b)) 25 (0, 0))) := ⟨by have h_ := HO.out.2.2.1; rw [show (4 * 8 : Nat) = 32 from rfl, outZ_all _ HBL.out, HONE.out] at h_; exact h_⟩
              have HB := Aside0.mk HO.out.2.2.2
              obtain ⟨bs, hbs⟩ : ∃ b_, b_ = oneL b := ⟨_, rfl⟩
              have HSH := Aside0.mk hbs
              have hbl : bs.length = 32 := by rw [hbs, ← HONE.out]; exact HBL.out
              rw [← hbs] at HR2 
              have HI : Aside0 ((Tryd.prog.info? 25).map (·.size) = some (octs bs).size) := ⟨by rw [octs_size hbl]; kernel_rfl⟩
              have HOS : Aside0 ((octs (List.replicate 32 0)).size = (octs bs).size) := ⟨by rw [octs_size hbl]; exact octs_size (by simp)⟩
              clear HO hbs hbl
              go_wp2_with (first | ((with_reducible refine gate_dst (N := 85) rfl ?_); refine wpList_load_row rfl 25 (.tmp 9) rfl go rfl 25 (octs bs) (0, 0) _ HR2.out Tryd.underlying25 rfl HI.out ?_) | ((with_reducible refine gate_store (t := 25) (p := 2) (v := .tmp 85) rfl ?_); refine wpList_store_row rfl 25 (.tmp 2) (.tmp 85) rfl w.heap.size (octs bs) rfl rfl 25 _ HR1.out HI.out HOS.out (octs_one bs) ?_))
              (try simp only [Exit.inBlock, Exit.then])
              refine bodyPost_ret (results_cell_row (p := 2) (ty := 25) rfl _ _ w.heap.size 25 (octs bs) (0, 0) _ rfl (setRow_heap wr w.heap.size _ (octs bs) _ _ HR1.out) Tryd.underlying25 rfl HI.out) rfl ?_
              exact ⟨by rw [HSH.out], below_setRow HB.out (Nat.le_refl _) _⟩
end Go.Proofs.YtgaekibompacnaaDoor.QD
