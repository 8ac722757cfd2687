/- The contract of the document's block: the state behind sixteen words. -/
import Derived.Test.YtgaekibompacnaaDoorQDShaRefMath
import Derived.WalkKit
import Derived.LoopTactic
import Derived.Outline
import Derived.WalkSpells
import Derived.Lib.Hide
import Derived.KernelRfl
import Derived.RowKit3
import Derived.IntWalk
import Derived.BigQuiet
import Derived.Deep.QuietTactic
import Derived.StillTailTactics
import Derived.Laws.Rows
set_option linter.unusedVariables false
set_option linter.unusedSimpArgs false
namespace Go.Proofs.YtgaekibompacnaaDoor.QD
open Go.RowKit Go.Proofs.YtgaekibompacnaaDoorW.PrintWords Go.Proofs.YtgaekibompacnaaDoorW.PrintLast Go.Proofs.YtgaekibompacnaaDoorW.PrintMore
def BlkW (w : World) (st ws kk : List Int) (wr : World) : Prop := wr.heap.size = w.heap.size + 4 ∧ wr.heap[w.heap.size]? = some (.cells (longs st) 61 (0, 0)) ∧ wr.heap[w.heap.size + 1]? = some (.cells (longs ws) 59 (0, 0)) ∧ wr.heap[w.heap.size + 1 + 1]? = some (.cells (longs kk) 59 (0, 0)) ∧ wr.heap[w.heap.size + 1 + 1 + 1]? = some (.cells (longs (List.replicate 8 0)) 61 (0, 0)) ∧ Below w.heap.size w wr
theorem BlkW.start (w : World) (st ws kk : List Int) : BlkW w st ws kk ((((w.alloc (.cells (longs st) 61)).alloc (.cells (longs ws) 59)).alloc (.cells (longs kk) 59)).alloc (.cells (longs (List.replicate 8 0)) 61)) := by
  refine ⟨by rw [size_alloc1, size_alloc1, size_alloc1, size_alloc1], blk_alloc (blk_alloc (blk_alloc (blk_new w _) _) _) _, blk_alloc (blk_alloc ?_ _) _, blk_alloc ?_ _, ?_, below_alloc (below_alloc (below_alloc (below_alloc (Below.refl _ _) _) _) _) _⟩
  · have := blk_new (w.alloc (.cells (longs st) 61)) (.cells (longs ws) 59)
    rwa [size_alloc1] at this
  · have := blk_new ((w.alloc (.cells (longs st) 61)).alloc (.cells (longs ws) 59)) (.cells (longs kk) 59)
    rwa [size_alloc1, size_alloc1] at this
  · have := blk_new (((w.alloc (.cells (longs st) 61)).alloc (.cells (longs ws) 59)).alloc (.cells (longs kk) 59)) (.cells (longs (List.replicate 8 0)) 61)
    rwa [size_alloc1, size_alloc1, size_alloc1] at this
theorem BlkW.drewN {w wr : World} {st ws kk : List Int} (h : BlkW w st ws kk wr) (m : Nat) : BlkW w st ws kk (wr.drewN m) := ⟨h.1, h.2.1, h.2.2.1, h.2.2.2.1, h.2.2.2.2.1, pw_below_drewN h.2.2.2.2.2 m⟩
theorem BlkW.drew {w wr : World} {st ws kk : List Int} (h : BlkW w st ws kk wr) : BlkW w st ws kk wr.drew := ⟨h.1, h.2.1, h.2.2.1, h.2.2.2.1, h.2.2.2.2.1, below_drew1 h.2.2.2.2.2⟩
theorem BlkW.set {w wr : World} {st ws ws' kk : List Int} (h : BlkW w st ws kk wr) {i : Nat} {u : Value} (hs : (longs ws).setIfInBounds i u = longs ws') : BlkW w st ws' kk (wr.setCell ⟨w.heap.size + 1, i, none⟩ u) := by
  obtain ⟨h1, h2, h3, h4, h5, h6⟩ := h
  refine ⟨by rw [World.size_setCell]; exact h1, (Below.heap_setCell _ _ _ _ (by show w.heap.size ≠ w.heap.size + 1; omega)).trans h2, ?_, (Below.heap_setCell _ _ _ _ (by show w.heap.size + 1 + 1 ≠ w.heap.size + 1; omega)).trans h4, (Below.heap_setCell _ _ _ _ (by show w.heap.size + 1 + 1 + 1 ≠ w.heap.size + 1; omega)).trans h5, h6.setCell (p := ⟨w.heap.size + 1, i, none⟩) (by show w.heap.size ≤ w.heap.size + 1; omega) u⟩
  rw [blk_set h3, hs]
def BlkS (w : World) (gs : Nat) (st ws kk x : List Int) (wr : World) : Prop := wr.heap[w.heap.size]? = some (.cells (longs st) 61 (0, 0)) ∧ wr.heap[w.heap.size + 1]? = some (.cells (longs ws) 59 (0, 0)) ∧ wr.heap[w.heap.size + 1 + 1]? = some (.cells (longs kk) 59 (0, 0)) ∧ wr.heap[w.heap.size + 1 + 1 + 1]? = some (.cells (longs (List.replicate 8 0)) 61 (0, 0)) ∧ wr.heap[gs]? = some (.cells (longs x) 61 (0, 0)) ∧ Below w.heap.size w wr
theorem BlkS.drewN {w wr : World} {gs : Nat} {st ws kk x : List Int} (h : BlkS w gs st ws kk x wr) (m : Nat) : BlkS w gs st ws kk x (wr.drewN m) := ⟨h.1, h.2.1, h.2.2.1, h.2.2.2.1, h.2.2.2.2.1, pw_below_drewN h.2.2.2.2.2 m⟩
theorem BlkS.drew {w wr : World} {gs : Nat} {st ws kk x : List Int} (h : BlkS w gs st ws kk x wr) : BlkS w gs st ws kk x wr.drew := ⟨h.1, h.2.1, h.2.2.1, h.2.2.2.1, h.2.2.2.2.1, below_drew1 h.2.2.2.2.2⟩
theorem BlkS.set {w wr : World} {gs : Nat} {st ws kk x x' : List Int} (h : BlkS w gs st ws kk x wr) (hg : gs = w.heap.size + 4) {i : Nat} {u : Value} (hs : (longs x).setIfInBounds i u = longs x') : BlkS w gs st ws kk x' (wr.setCell ⟨gs, i, none⟩ u) := by
  obtain ⟨h1, h2, h3, h4, h5, h6⟩ := h
  refine ⟨(Below.heap_setCell _ _ _ _ (by show w.heap.size ≠ gs; omega)).trans h1, (Below.heap_setCell _ _ _ _ (by show w.heap.size + 1 ≠ gs; omega)).trans h2, (Below.heap_setCell _ _ _ _ (by show w.heap.size + 1 + 1 ≠ gs; omega)).trans h3, (Below.heap_setCell _ _ _ _ (by show w.heap.size + 1 + 1 + 1 ≠ gs; omega)).trans h4, ?_, h6.setCell (p := ⟨gs, i, none⟩) (by show w.heap.size ≤ gs; omega) u⟩
  rw [blk_set h5, hs]
theorem BlkS.put8 {w W : World} {gs : Nat} {st ws kk : List Int} {a0 a1 a2 a3 a4 a5 a6 a7 : Int} (h : BlkS w gs st ws kk [a0, a1, a2, a3, a4, a5, a6, a7] W) (hg : gs = w.heap.size + 4) (v0 v1 v2 v3 v4 v5 v6 v7 : Int) :
    BlkS w gs st ws kk [v0, v1, v2, v3, v4, v5, v6, v7] ((((((((W.setCell ⟨gs, 0, none⟩ (.int .u64 v0)).setCell ⟨gs, 1, none⟩ (.int .u64 v1)).setCell ⟨gs, 2, none⟩ (.int .u64 v2)).setCell ⟨gs, 3, none⟩ (.int .u64 v3)).setCell ⟨gs, 4, none⟩ (.int .u64 v4)).setCell ⟨gs, 5, none⟩ (.int .u64 v5)).setCell ⟨gs, 6, none⟩ (.int .u64 v6)).setCell ⟨gs, 7, none⟩ (.int .u64 v7)) := by
  have h0 := BlkS.set (x' := [v0, a1, a2, a3, a4, a5, a6, a7]) h hg (i := 0) (u := .int .u64 v0) (longs_set _ _ _)
  have h1 := BlkS.set (x' := [v0, v1, a2, a3, a4, a5, a6, a7]) h0 hg (i := 1) (u := .int .u64 v1) (longs_set _ _ _)
  have h2 := BlkS.set (x' := [v0, v1, v2, a3, a4, a5, a6, a7]) h1 hg (i := 2) (u := .int .u64 v2) (longs_set _ _ _)
  have h3 := BlkS.set (x' := [v0, v1, v2, v3, a4, a5, a6, a7]) h2 hg (i := 3) (u := .int .u64 v3) (longs_set _ _ _)
  have h4 := BlkS.set (x' := [v0, v1, v2, v3, v4, a5, a6, a7]) h3 hg (i := 4) (u := .int .u64 v4) (longs_set _ _ _)
  have h5 := BlkS.set (x' := [v0, v1, v2, v3, v4, v5, a6, a7]) h4 hg (i := 5) (u := .int .u64 v5) (longs_set _ _ _)
  have h6 := BlkS.set (x' := [v0, v1, v2, v3, v4, v5, v6, a7]) h5 hg (i := 6) (u := .int .u64 v6) (longs_set _ _ _)
  have h7 := BlkS.set (x' := [v0, v1, v2, v3, v4, v5, v6, v7]) h6 hg (i := 7) (u := .int .u64 v7) (longs_set _ _ _)
  exact h7
theorem BlkS.setH {w wr : World} {gs : Nat} {st st' ws kk x : List Int} (h : BlkS w gs st ws kk x wr) (hg : gs = w.heap.size + 4) {i : Nat} {u : Value} (hs : (longs st).setIfInBounds i u = longs st') : BlkS w gs st' ws kk x (wr.setCell ⟨w.heap.size, i, none⟩ u) := by
  obtain ⟨h1, h2, h3, h4, h5, h6⟩ := h
  refine ⟨?_, (Below.heap_setCell _ _ _ _ (by show w.heap.size + 1 ≠ w.heap.size; omega)).trans h2, (Below.heap_setCell _ _ _ _ (by show w.heap.size + 1 + 1 ≠ w.heap.size; omega)).trans h3, (Below.heap_setCell _ _ _ _ (by show w.heap.size + 1 + 1 + 1 ≠ w.heap.size; omega)).trans h4, (Below.heap_setCell _ _ _ _ (by show gs ≠ w.heap.size; omega)).trans h5, h6.setCell (p := ⟨w.heap.size, i, none⟩) (Nat.le_refl _) u⟩
  rw [blk_set h1, hs]
theorem set8l {W : World} {g t : Nat} {a0 a1 a2 a3 a4 a5 a6 a7 : Int} (h : W.heap[g]? = some (.cells (longs [a0, a1, a2, a3, a4, a5, a6, a7]) t (0, 0))) (v0 v1 v2 v3 v4 v5 v6 v7 : Int) :
    ((((((((W.setCell ⟨g, 0, none⟩ (.int .u64 v0)).setCell ⟨g, 1, none⟩ (.int .u64 v1)).setCell ⟨g, 2, none⟩ (.int .u64 v2)).setCell ⟨g, 3, none⟩ (.int .u64 v3)).setCell ⟨g, 4, none⟩ (.int .u64 v4)).setCell ⟨g, 5, none⟩ (.int .u64 v5)).setCell ⟨g, 6, none⟩ (.int .u64 v6)).setCell ⟨g, 7, none⟩ (.int .u64 v7)).heap[g]? = some (.cells (longs [v0, v1, v2, v3, v4, v5, v6, v7]) t (0, 0)) := by
  have h0 : (W.setCell ⟨g, 0, none⟩ (.int .u64 v0)).heap[g]? = some (.cells (longs [v0, a1, a2, a3, a4, a5, a6, a7]) t (0, 0)) := (blk_set h 0 (.int .u64 v0)).trans rfl
  have h1 : ((W.setCell ⟨g, 0, none⟩ (.int .u64 v0)).setCell ⟨g, 1, none⟩ (.int .u64 v1)).heap[g]? = some (.cells (longs [v0, v1, a2, a3, a4, a5, a6, a7]) t (0, 0)) := (blk_set h0 1 (.int .u64 v1)).trans rfl
  have h2 : (((W.setCell ⟨g, 0, none⟩ (.int .u64 v0)).setCell ⟨g, 1, none⟩ (.int .u64 v1)).setCell ⟨g, 2, none⟩ (.int .u64 v2)).heap[g]? = some (.cells (longs [v0, v1, v2, a3, a4, a5, a6, a7]) t (0, 0)) := (blk_set h1 2 (.int .u64 v2)).trans rfl
  have h3 : ((((W.setCell ⟨g, 0, none⟩ (.int .u64 v0)).setCell ⟨g, 1, none⟩ (.int .u64 v1)).setCell ⟨g, 2, none⟩ (.int .u64 v2)).setCell ⟨g, 3, none⟩ (.int .u64 v3)).heap[g]? = some (.cells (longs [v0, v1, v2, v3, a4, a5, a6, a7]) t (0, 0)) := (blk_set h2 3 (.int .u64 v3)).trans rfl
  have h4 : (((((W.setCell ⟨g, 0, none⟩ (.int .u64 v0)).setCell ⟨g, 1, none⟩ (.int .u64 v1)).setCell ⟨g, 2, none⟩ (.int .u64 v2)).setCell ⟨g, 3, none⟩ (.int .u64 v3)).setCell ⟨g, 4, none⟩ (.int .u64 v4)).heap[g]? = some (.cells (longs [v0, v1, v2, v3, v4, a5, a6, a7]) t (0, 0)) := (blk_set h3 4 (.int .u64 v4)).trans rfl
  have h5 : ((((((W.setCell ⟨g, 0, none⟩ (.int .u64 v0)).setCell ⟨g, 1, none⟩ (.int .u64 v1)).setCell ⟨g, 2, none⟩ (.int .u64 v2)).setCell ⟨g, 3, none⟩ (.int .u64 v3)).setCell ⟨g, 4, none⟩ (.int .u64 v4)).setCell ⟨g, 5, none⟩ (.int .u64 v5)).heap[g]? = some (.cells (longs [v0, v1, v2, v3, v4, v5, a6, a7]) t (0, 0)) := (blk_set h4 5 (.int .u64 v5)).trans rfl
  have h6 : (((((((W.setCell ⟨g, 0, none⟩ (.int .u64 v0)).setCell ⟨g, 1, none⟩ (.int .u64 v1)).setCell ⟨g, 2, none⟩ (.int .u64 v2)).setCell ⟨g, 3, none⟩ (.int .u64 v3)).setCell ⟨g, 4, none⟩ (.int .u64 v4)).setCell ⟨g, 5, none⟩ (.int .u64 v5)).setCell ⟨g, 6, none⟩ (.int .u64 v6)).heap[g]? = some (.cells (longs [v0, v1, v2, v3, v4, v5, v6, a7]) t (0, 0)) := (blk_set h5 6 (.int .u64 v6)).trans rfl
  have h7 : ((((((((W.setCell ⟨g, 0, none⟩ (.int .u64 v0)).setCell ⟨g, 1, none⟩ (.int .u64 v1)).setCell ⟨g, 2, none⟩ (.int .u64 v2)).setCell ⟨g, 3, none⟩ (.int .u64 v3)).setCell ⟨g, 4, none⟩ (.int .u64 v4)).setCell ⟨g, 5, none⟩ (.int .u64 v5)).setCell ⟨g, 6, none⟩ (.int .u64 v6)).setCell ⟨g, 7, none⟩ (.int .u64 v7)).heap[g]? = some (.cells (longs [v0, v1, v2, v3, v4, v5, v6, v7]) t (0, 0)) := (blk_set h6 7 (.int .u64 v7)).trans rfl
  exact h7
def bnx (x16 x15 x7 x2 : Int) : Int := Go.bits .and .u64 (IntKind.u64.wrap (IntKind.u64.wrap (IntKind.u64.wrap (x16 + sigA64 x15) + x7) + sigB64 x2)) 4294967295
def bnxt (l : List Int) (n : Nat) : Int := bnx (rd l ((n : Int) - 16)) (rd l ((n : Int) - 15)) (rd l ((n : Int) - 7)) (rd l ((n : Int) - 2))
def bsch (ws : List Int) : Nat → List Int
  | 0 => ws
  | n + 1 => (bsch ws n).set (16 + n) (bnxt (bsch ws n) (16 + n))
theorem bsch_len (ws : List Int) : ∀ n, (bsch ws n).length = ws.length
  | 0 => rfl
  | n + 1 => by rw [bsch, List.length_set, bsch_len ws n]
def bSum (e : Int) : Int := Go.bits .xor .u64 (Go.bits .xor .u64 (tr64 e 6) (tr64 e 11)) (tr64 e 25)
def bCh (e f g : Int) : Int := Go.bits .xor .u64 (Go.bits .and .u64 e f) (Go.bits .and .u64 (IntKind.u64.wrap (4294967295 - e)) g)
def bMost (a b c : Int) : Int := Go.bits .xor .u64 (Go.bits .xor .u64 (Go.bits .and .u64 a b) (Go.bits .and .u64 a c)) (Go.bits .and .u64 b c)
def bTwo (a : Int) : Int := Go.bits .xor .u64 (Go.bits .xor .u64 (tr64 a 2) (tr64 a 13)) (tr64 a 22)
def bFst (e f g h k w a b c : Int) : Int := Go.bits .and .u64 (IntKind.u64.wrap (IntKind.u64.wrap (IntKind.u64.wrap (IntKind.u64.wrap (IntKind.u64.wrap (IntKind.u64.wrap (h + bSum e) + bCh e f g) + k) + w) + bTwo a) + bMost a b c)) 4294967295
def bMid (e f g h k w d : Int) : Int := Go.bits .and .u64 (IntKind.u64.wrap (d + IntKind.u64.wrap (IntKind.u64.wrap (IntKind.u64.wrap (IntKind.u64.wrap (h + bSum e) + bCh e f g) + k) + w))) 4294967295
def brnd (k w : Int) : List Int → List Int
  | [a, b, c, d, e, f, g, h] => [bFst e f g h k w a b c, a, b, c, bMid e f g h k w d, e, f, g]
  | l => l
def brounds (ws kk st : List Int) : Nat → List Int
  | 0 => st
  | i + 1 => brnd (rd kk i) (rd ws i) (brounds ws kk st i)
theorem brnd_len {k w : Int} {l : List Int} (h : l.length = 8) : (brnd k w l).length = 8 := by
  obtain ⟨a, b, c, d, e, f, g, i, rfl⟩ := eight_of h
  rfl
theorem brounds_len {ws kk st : List Int} (h : st.length = 8) : ∀ i, (brounds ws kk st i).length = 8
  | 0 => h
  | i + 1 => brnd_len (brounds_len h i)
def badd (a b : Int) : Int := Go.bits .and .u64 (IntKind.u64.wrap (a + b)) 4294967295
def baddN (st x : List Int) (i : Nat) : List Int := (List.range i).map (fun j : Nat => badd (rd st j) (rd x j)) ++ st.drop i
theorem baddN_set (st x : List Int) {i : Nat} (h : i < st.length) : (longs (baddN st x i)).setIfInBounds i (.int .u64 (badd (rd st i) (rd x i))) = longs (baddN st x (i + 1)) := by
  unfold longs baddN
  have h2 : st.drop i = st[i] :: st.drop (i + 1) := List.drop_eq_getElem_cons h
  rw [h2, List.range_succ]
  simp only [List.map_append, List.map_cons, List.setIfInBounds_toArray, List.map_nil]
  rw [List.set_append_right _ _ (by simp)]
  simp
theorem baddN_at (st x : List Int) {i : Nat} (h : i < st.length) : (longs (baddN st x i))[i]? = some (.int .u64 (rd st i)) := by
  unfold longs baddN rd
  have h2 : st.drop i = st[i] :: st.drop (i + 1) := List.drop_eq_getElem_cons h
  rw [h2]
  simp [List.getElem?_append_right, List.getD_eq_getElem?_getD, List.getElem?_eq_getElem h]
def blockL (st ws kk : List Int) : List Int := baddN st (brounds (bsch ws 48) kk st 64) 8
theorem blockL_len {st ws kk : List Int} (h : st.length = 8) : (blockL st ws kk).length = 8 := by simp [blockL, baddN, h]
set_option maxRecDepth 100000 in
set_option maxHeartbeats 8000000 in
theorem block_calls (st ws kk : List Int) (w : World) (hst : st.length = 8) (hws : ws.length = 64) (hkk : kk.length = 64) :
    Calls Tryd.prog 30 #[.agg (longs st), .agg (longs ws), .agg (longs kk)] w fun en w' => en = .returned (.agg (longs (blockL st ws kk))) ∧ Below w.heap.size w w' := by
  have HST := Aside0.mk hst
  have HWS := Aside0.mk hws
  have HKK := Aside0.mk hkk
  clear hst hws hkk
  go_enter Tryd.func30, Tryd.ntmps30
  go_wp2
  go_loopw [7] (fun v7 wr => ∃ (i : Nat), i ≤ 48 ∧ v7 = .int .i64 ((16 + i : Nat) : Int) ∧ Aside0 (BlkW w st (bsch ws i) kk wr)) (fun v7 _ => 64 - (intOf v7).toNat)
  case atStart => exact ⟨0, by omega, rfl, ⟨BlkW.start w st ws kk⟩⟩
  case round =>
    obtain ⟨i, hi, rfl, HM⟩ := hrel
    obtain ⟨n, hn⟩ : ∃ n_, n_ = 16 + i := ⟨_, rfl⟩
    rw [← hn]
    by_cases hlt : i < 48
    · have hil : decide ((n : Int) < 64) = true := by simp; omega
      have HWR0 : Aside0 (wrap64 ((n : Int) + 1) = ((n + 1 : Nat) : Int)) := ⟨(OctetMath.wrap64_id (by omega) (by omega)).trans (by omega)⟩
      have hn0 : (0 : Int) ≤ (n : Int) := by omega
      have hn64 : (n : Int) < 64 := by omega
      have HLT := Aside0.mk hlt
      have HN := Aside0.mk hn
      obtain ⟨cu, hcu⟩ : ∃ x_, x_ = bsch ws i := ⟨_, rfl⟩
      have hcl : cu.length = 64 := by rw [hcu, bsch_len, HWS.out]
      have HCL := Aside0.mk hcl
      rw [← hcu] at HM
      have HCU := Aside0.mk hcu
      obtain ⟨x15, hx15⟩ : ∃ x_, x_ = rd cu ((n : Int) - 15) := ⟨_, rfl⟩
      obtain ⟨x2, hx2⟩ : ∃ x_, x_ = rd cu ((n : Int) - 2) := ⟨_, rfl⟩
      obtain ⟨x16, hx16⟩ : ∃ x_, x_ = rd cu ((n : Int) - 16) := ⟨_, rfl⟩
      obtain ⟨x7, hx7⟩ : ∃ x_, x_ = rd cu ((n : Int) - 7) := ⟨_, rfl⟩
      obtain ⟨xn, hxn⟩ : ∃ x_, x_ = rd cu (n : Int) := ⟨_, rfl⟩
      have HQ : Aside0 (∀ W : World, BlkW w st cu kk W → W.cell? ⟨w.heap.size + 1, ((n : Int) - 15).toNat, none⟩ = some (.int .u64 x15) ∧ W.cell? ⟨w.heap.size + 1, ((n : Int) - 2).toNat, none⟩ = some (.int .u64 x2) ∧ W.cell? ⟨w.heap.size + 1, ((n : Int) - 16).toNat, none⟩ = some (.int .u64 x16) ∧ W.cell? ⟨w.heap.size + 1, ((n : Int) - 7).toNat, none⟩ = some (.int .u64 x7) ∧ W.cell? ⟨w.heap.size + 1, n, none⟩ = some (.int .u64 xn)) := ⟨fun W hW => by
        have hB := hW.2.2.1
        refine ⟨?_, ?_, ?_, ?_, ?_⟩
        · rw [blk_cell hB, longs_at _ (by omega), Int.toNat_of_nonneg (by omega), hx15]
        · rw [blk_cell hB, longs_at _ (by omega), Int.toNat_of_nonneg (by omega), hx2]
        · rw [blk_cell hB, longs_at _ (by omega), Int.toNat_of_nonneg (by omega), hx16]
        · rw [blk_cell hB, longs_at _ (by omega), Int.toNat_of_nonneg (by omega), hx7]
        · rw [blk_cell hB, longs_at _ (by omega), hxn]⟩
      have HX : Aside0 (bnxt cu n = bnx x16 x15 x7 x2) := ⟨by unfold bnxt; rw [hx15, hx2, hx16, hx7]⟩
      have hp15 : (0 : Int) ≤ (n : Int) - 15 := by omega
      have hr15 : (15 : Int) ≤ (n : Int) := by omega
      have hq15 : (n : Int) - 15 < 64 := by omega
      have hp2 : (0 : Int) ≤ (n : Int) - 2 := by omega
      have hr2 : (2 : Int) ≤ (n : Int) := by omega
      have hq2 : (n : Int) - 2 < 64 := by omega
      have hp16 : (0 : Int) ≤ (n : Int) - 16 := by omega
      have hr16 : (16 : Int) ≤ (n : Int) := by omega
      have hq16 : (n : Int) - 16 < 64 := by omega
      have hp7 : (0 : Int) ≤ (n : Int) - 7 := by omega
      have hr7 : (7 : Int) ≤ (n : Int) := by omega
      have hq7 : (n : Int) - 7 < 64 := by omega
      have HV15 : Aside0 (IntKind.i64.wrap ((n : Int) - 15) = (n : Int) - 15) := ⟨IntWalk.i64_in _ (by omega)⟩
      have HV2 : Aside0 (IntKind.i64.wrap ((n : Int) - 2) = (n : Int) - 2) := ⟨IntWalk.i64_in _ (by omega)⟩
      have HV16 : Aside0 (IntKind.i64.wrap ((n : Int) - 16) = (n : Int) - 16) := ⟨IntWalk.i64_in _ (by omega)⟩
      have HV7 : Aside0 (IntKind.i64.wrap ((n : Int) - 7) = (n : Int) - 7) := ⟨IntWalk.i64_in _ (by omega)⟩
      have hv15 := HV15.out
      have hv2 := HV2.out
      have hv16 := HV16.out
      have hv7 := HV7.out
      clear hlt hi hn hx15 hx2 hx16 hx7 hxn hcl hcu
      have HWR := HWR0.out
      have hn' : (intOf (.int .i64 (n : Int))).toNat = n := rfl
      obtain ⟨hc15, hc2, hc16, hc7, hcn⟩ := HQ.out wr HM.out
      go_wp2
      go_quiet (fail)
      have HM2 := Aside0.mk (HM.out.drewN nq)
      clear hc15 hc2 hc16 hc7 hcn HM
      have HM := HM2
      clear HM2
      generalize wr.drewN nq = w2 at *
      go_wp2_with (first | (go_at_call 39; (with_reducible refine (turn64_c _ _ _ (by decide) (by decide)).mono ?_); rintro en wz ⟨rfl, m_, hz_⟩; have HM' := Aside0.mk (show BlkW w st cu kk wz from hz_ ▸ HM.out.drewN m_); clear hz_ HM; have HM := HM'; clear HM') | (go_at_call 40; (with_reducible refine (down64_c _ _ _ (by decide) (by decide)).mono ?_); rintro en wz ⟨rfl, m_, hz_⟩; have HM' := Aside0.mk (show BlkW w st cu kk wz from hz_ ▸ HM.out.drewN m_); clear hz_ HM; have HM := HM'; clear HM'))
      obtain ⟨hc15, hc2, hc16, hc7, hcn⟩ := HQ.out wz HM.out
      go_still_tail 16, (by kernel_rfl)
      change wpList _ _ _ _ _ wz.drew
      have HM4 := Aside0.mk HM.out.drew
      clear hc15 hc2 hc16 hc7 hcn HM
      generalize wz.drew = w4 at *
      have hfr := blk_frozen HM4.out.2.2.1 n
      obtain ⟨-, -, -, -, hcn⟩ := HQ.out w4 HM4.out
      go_wp2
      go_roundw
      case rel => exact ⟨i + 1, HLT.out, by have h_ := HN.out; clear HWR; first | (congr 1; omega) | rfl, ⟨BlkW.set HM4.out (by rw [show bsch ws (i + 1) = (bsch ws i).set (16 + i) (bnxt (bsch ws i) (16 + i)) from rfl, ← HCU.out, ← HN.out, HX.out]; exact longs_set _ _ _)⟩⟩
      case measure => have h1 := HLT.out; have h2 := HN.out; first | (rw [HWR]; exact Nat.sub_lt_sub_left (by show n < 64; clear HWR hn'; omega) (Nat.lt_succ_self n)) | (exact Nat.sub_lt_sub_left (by show n < 64; clear HWR hn'; omega) (Nat.lt_succ_self n))
    · have hil : decide ((n : Int) < 64) = false := by simp; omega
      obtain rfl : i = 48 := by omega
      skip
      obtain ⟨cu, hcu⟩ : ∃ x_, x_ = bsch ws 48 := ⟨_, rfl⟩
      have HCL : Aside0 (cu.length = 64) := ⟨by rw [hcu, bsch_len, HWS.out]⟩
      rw [← hcu] at HM
      have HCU := Aside0.mk hcu
      have hst := HST.out
      obtain ⟨s0, s1, s2, s3, s4, s5, s6, s7, rfl⟩ := eight_of hst
      have hH := HM.out.2.1
      have c0 : wr.cell? ⟨w.heap.size, 0, none⟩ = some (.int .u64 s0) := (blk_cell hH 0).trans rfl
      have c1 : wr.cell? ⟨w.heap.size, 1, none⟩ = some (.int .u64 s1) := (blk_cell hH 1).trans rfl
      have c2 : wr.cell? ⟨w.heap.size, 2, none⟩ = some (.int .u64 s2) := (blk_cell hH 2).trans rfl
      have c3 : wr.cell? ⟨w.heap.size, 3, none⟩ = some (.int .u64 s3) := (blk_cell hH 3).trans rfl
      have c4 : wr.cell? ⟨w.heap.size, 4, none⟩ = some (.int .u64 s4) := (blk_cell hH 4).trans rfl
      have c5 : wr.cell? ⟨w.heap.size, 5, none⟩ = some (.int .u64 s5) := (blk_cell hH 5).trans rfl
      have c6 : wr.cell? ⟨w.heap.size, 6, none⟩ = some (.int .u64 s6) := (blk_cell hH 6).trans rfl
      have c7 : wr.cell? ⟨w.heap.size, 7, none⟩ = some (.int .u64 s7) := (blk_cell hH 7).trans rfl
      clear hH hst hcu
      have H1 := Aside0.mk HM.out.2.1
      have H2 := Aside0.mk HM.out.2.2.1
      have H3 := Aside0.mk HM.out.2.2.2.1
      have H4 := Aside0.mk HM.out.2.2.2.2.1
      have H5 := Aside0.mk HM.out.2.2.2.2.2
      have HSZ := Aside0.mk HM.out.1
      clear HM
      go_wp2
      obtain ⟨gs, hgs⟩ : ∃ g_, g_ = wr.heap.size := ⟨_, rfl⟩
      have HGS : Aside0 (gs = w.heap.size + 4) := ⟨by rw [hgs]; exact HSZ.out⟩
      have HS0 : Aside0 (BlkS w gs [s0, s1, s2, s3, s4, s5, s6, s7] cu kk [s0, s1, s2, s3, s4, s5, s6, s7] (wr.alloc (.cells #[.int .u64 s0, .int .u64 s1, .int .u64 s2, .int .u64 s3, .int .u64 s4, .int .u64 s5, .int .u64 s6, .int .u64 s7] 61))) := ⟨blk_alloc H1.out _, blk_alloc H2.out _, blk_alloc H3.out _, blk_alloc H4.out _, by rw [hgs]; exact blk_new wr _, below_alloc H5.out _⟩
      rw [← hgs]
      generalize wr.alloc (.cells #[.int .u64 s0, .int .u64 s1, .int .u64 s2, .int .u64 s3, .int .u64 s4, .int .u64 s5, .int .u64 s6, .int .u64 s7] 61) = w6 at *
      clear c0 c1 c2 c3 c4 c5 c6 c7 hil hn H1 H2 H3 H4 H5 HSZ hgs
      go_loopw [13] (fun v13 wr => ∃ (i : Nat), i ≤ 64 ∧ v13 = .int .i64 (i : Int) ∧ Aside0 (BlkS w gs [s0, s1, s2, s3, s4, s5, s6, s7] cu kk (brounds cu kk [s0, s1, s2, s3, s4, s5, s6, s7] i) wr)) (fun v13 _ => 64 - (intOf v13).toNat)
      case atStart => exact ⟨0, by omega, rfl, HS0⟩
      case round =>
        clear HS0
        obtain ⟨i, hi, rfl, HM⟩ := hrel
        by_cases hlt : i < 64
        · have hil : decide ((i : Int) < 64) = true := by simp; omega
          have HRL := Aside0.mk (brounds_len (ws := cu) (kk := kk) HST.out i)
          obtain ⟨a0, a1, a2, a3, a4, a5, a6, a7, hr8⟩ := eight_of HRL.out
          have HR8 := Aside0.mk hr8
          rw [hr8] at HM
          obtain ⟨xk, hxk⟩ : ∃ x_, x_ = rd kk i := ⟨_, rfl⟩
          obtain ⟨xw, hxw⟩ : ∃ x_, x_ = rd cu i := ⟨_, rfl⟩
          have HQ : Aside0 (∀ W : World, BlkS w gs [s0, s1, s2, s3, s4, s5, s6, s7] cu kk [a0, a1, a2, a3, a4, a5, a6, a7] W → W.cell? ⟨gs, 0, none⟩ = some (.int .u64 a0) ∧ W.cell? ⟨gs, 1, none⟩ = some (.int .u64 a1) ∧ W.cell? ⟨gs, 2, none⟩ = some (.int .u64 a2) ∧ W.cell? ⟨gs, 3, none⟩ = some (.int .u64 a3) ∧ W.cell? ⟨gs, 4, none⟩ = some (.int .u64 a4) ∧ W.cell? ⟨gs, 5, none⟩ = some (.int .u64 a5) ∧ W.cell? ⟨gs, 6, none⟩ = some (.int .u64 a6) ∧ W.cell? ⟨gs, 7, none⟩ = some (.int .u64 a7) ∧ W.cell? ⟨w.heap.size + 1, i, none⟩ = some (.int .u64 xw) ∧ W.cell? ⟨w.heap.size + 1 + 1, i, none⟩ = some (.int .u64 xk)) := ⟨fun W hW => by
            obtain ⟨_, h2, h3, _, h5, _⟩ := hW
            refine ⟨(blk_cell h5 0).trans rfl, (blk_cell h5 1).trans rfl, (blk_cell h5 2).trans rfl, (blk_cell h5 3).trans rfl, (blk_cell h5 4).trans rfl, (blk_cell h5 5).trans rfl, (blk_cell h5 6).trans rfl, (blk_cell h5 7).trans rfl, ?_, ?_⟩
            · rw [blk_cell h2, longs_at _ (by rw [HCL.out]; exact hlt), hxw]
            · rw [blk_cell h3, longs_at _ (by rw [HKK.out]; exact hlt), hxk]⟩
          have HXK := Aside0.mk hxk
          have HXW := Aside0.mk hxw
          have hi0 : (0 : Int) ≤ (i : Int) := by omega
          have hi64 : (i : Int) < 64 := by omega
          have HLT := Aside0.mk hlt
          have HWR0 : Aside0 (wrap64 ((i : Int) + 1) = ((i + 1 : Nat) : Int)) := ⟨(OctetMath.wrap64_id (by omega) (by omega)).trans (by omega)⟩
          clear hlt hi hr8 hxk hxw
          have HWR := HWR0.out
          obtain ⟨c0, c1, c2, c3, c4, c5, c6, c7, cw, ck⟩ := HQ.out wr HM.out
          go_wp2
          go_quiet (fail)
          have HM2 := Aside0.mk (HM.out.drewN nq)
          clear c0 c1 c2 c3 c4 c5 c6 c7 cw ck HM
          have HM := HM2
          clear HM2
          generalize wr.drewN nq = w2 at *
          obtain ⟨c0, c1, c2, c3, c4, c5, c6, c7, cw, ck⟩ := HQ.out w2 HM.out
          go_wp2_with (first | (go_at_call 39; (with_reducible refine (turn64_c _ _ _ (by decide) (by decide)).mono ?_); rintro en wz ⟨rfl, m_, hz_⟩; have HM' := Aside0.mk (show BlkS w gs [s0, s1, s2, s3, s4, s5, s6, s7] cu kk [a0, a1, a2, a3, a4, a5, a6, a7] wz from hz_ ▸ HM.out.drewN m_); clear hz_ HM c0 c1 c2 c3 c4 c5 c6 c7 cw ck; have HM := HM'; clear HM'; obtain ⟨c0, c1, c2, c3, c4, c5, c6, c7, cw, ck⟩ := HQ.out wz HM.out))
          go_quiet (fail)
          have HM2 := Aside0.mk (HM.out.drewN nq)
          clear c0 c1 c2 c3 c4 c5 c6 c7 cw ck HM
          have HM := HM2
          clear HM2
          generalize World.drewN _ nq = w3 at *
          obtain ⟨c0, c1, c2, c3, c4, c5, c6, c7, cw, ck⟩ := HQ.out w3 HM.out
          go_wp2_with (first | (go_at_call 39; (with_reducible refine (turn64_c _ _ _ (by decide) (by decide)).mono ?_); rintro en wz ⟨rfl, m_, hz_⟩; have HM' := Aside0.mk (show BlkS w gs [s0, s1, s2, s3, s4, s5, s6, s7] cu kk [a0, a1, a2, a3, a4, a5, a6, a7] wz from hz_ ▸ HM.out.drewN m_); clear hz_ HM c0 c1 c2 c3 c4 c5 c6 c7 cw ck; have HM := HM'; clear HM'; obtain ⟨c0, c1, c2, c3, c4, c5, c6, c7, cw, ck⟩ := HQ.out wz HM.out; (try clear f0); (try clear f1); (try clear f2); (try clear f3); (try clear f4); (try clear f5); (try clear f6); (try clear f7); have f0 := blk_frozen HM.out.2.2.2.2.1 0; have f1 := blk_frozen HM.out.2.2.2.2.1 1; have f2 := blk_frozen HM.out.2.2.2.2.1 2; have f3 := blk_frozen HM.out.2.2.2.2.1 3; have f4 := blk_frozen HM.out.2.2.2.2.1 4; have f5 := blk_frozen HM.out.2.2.2.2.1 5; have f6 := blk_frozen HM.out.2.2.2.2.1 6; have f7 := blk_frozen HM.out.2.2.2.2.1 7))
          go_roundw
          case rel => exact ⟨i + 1, HLT.out, by first | rfl | (congr 1), ⟨by rw [show ∀ ws kk st, brounds ws kk st (i + 1) = brnd (rd kk i) (rd ws i) (brounds ws kk st i) from fun _ _ _ => rfl, HR8.out, ← HXK.out, ← HXW.out]; simp only [brnd]; exact BlkS.put8 HM.out HGS.out _ _ _ _ _ _ _ _⟩⟩
          case measure => first | (rw [HWR]; exact Nat.sub_lt_sub_left HLT.out (Nat.lt_succ_self i)) | (exact Nat.sub_lt_sub_left HLT.out (Nat.lt_succ_self i))
        · have hil : decide ((i : Int) < 64) = false := by simp; omega
          obtain rfl : i = 64 := by omega
          have HS4 := Aside0.mk HST.out
          clear HST
          obtain ⟨st, hst_⟩ : ∃ x_, x_ = [s0, s1, s2, s3, s4, s5, s6, s7] := ⟨_, rfl⟩
          obtain ⟨x, hx⟩ : ∃ x_, x_ = brounds cu kk [s0, s1, s2, s3, s4, s5, s6, s7] 64 := ⟨_, rfl⟩
          have HXL : Aside0 (x.length = 8) := ⟨by rw [hx]; exact brounds_len HS4.out 64⟩
          rw [← hx] at HM
          have HXE := Aside0.mk hx
          clear hx
          rw [← hst_] at HM HXE HS4 ⊢
          have HSE := Aside0.mk hst_
          clear hst_
          rw [show ((64 : Nat) : Int) = (64 : Int) from rfl] at hil ⊢
          go_wp2
          go_loopw [21] (fun v21 wr => ∃ (i : Nat), i ≤ 8 ∧ v21 = .int .i64 (i : Int) ∧ Aside0 (BlkS w gs (baddN st x i) cu kk x wr)) (fun v21 _ => 8 - (intOf v21).toNat)
          case atStart => exact ⟨0, by omega, rfl, ⟨by have := HM.out; simpa [baddN] using this⟩⟩
          case round =>
            clear HM
            obtain ⟨i, hi, rfl, HM⟩ := hrel
            by_cases hlt : i < 8
            · have hil : decide ((i : Int) < 8) = true := by simp; omega
              have hi0 : (0 : Int) ≤ (i : Int) := by omega
              have hi8 : (i : Int) < 8 := by omega
              have HLT := Aside0.mk hlt
              have HWR0 : Aside0 (wrap64 ((i : Int) + 1) = ((i + 1 : Nat) : Int)) := ⟨(OctetMath.wrap64_id (by omega) (by omega)).trans (by omega)⟩
              obtain ⟨yh, hyh⟩ : ∃ x_, x_ = rd st i := ⟨_, rfl⟩
              obtain ⟨yx, hyx⟩ : ∃ x_, x_ = rd x i := ⟨_, rfl⟩
              have HQ : Aside0 (∀ W : World, BlkS w gs (baddN st x i) cu kk x W → W.cell? ⟨w.heap.size, i, none⟩ = some (.int .u64 yh) ∧ W.cell? ⟨gs, i, none⟩ = some (.int .u64 yx)) := ⟨fun W hW => by
                obtain ⟨h1, _, _, _, h5, _⟩ := hW
                exact ⟨by rw [blk_cell h1, baddN_at st x (by rw [HS4.out]; exact hlt), hyh], by rw [blk_cell h5, longs_at x (by rw [HXL.out]; exact hlt), hyx]⟩⟩
              have HAD : Aside0 ((longs (baddN st x i)).setIfInBounds i (.int .u64 (badd yh yx)) = longs (baddN st x (i + 1))) := ⟨by rw [hyh, hyx]; exact baddN_set st x (by rw [HS4.out]; exact hlt)⟩
              clear hlt hi hyh hyx
              have HWR := HWR0.out
              obtain ⟨ch, cx⟩ := HQ.out wr HM.out
              go_wp2
              go_still_tail 10, (by kernel_rfl)
              change wpList _ _ _ _ _ wr.drew
              have HM2 := Aside0.mk HM.out.drew
              clear ch cx HM
              generalize wr.drew = w2 at *
              obtain ⟨ch, cx⟩ := HQ.out w2 HM2.out
              have hfr := blk_frozen HM2.out.1 i
              go_wp2
              go_roundw
              case rel => exact ⟨i + 1, HLT.out, by first | rfl | (congr 1), ⟨BlkS.setH HM2.out HGS.out HAD.out⟩⟩
              case measure => first | (rw [HWR]; exact Nat.sub_lt_sub_left HLT.out (Nat.lt_succ_self i)) | (exact Nat.sub_lt_sub_left HLT.out (Nat.lt_succ_self i))
            · have hil : decide ((i : Int) < 8) = false := by simp; omega
              obtain rfl : i = 8 := by omega
              have HRES : Aside0 (baddN st x 8 = blockL st ws kk) := ⟨by rw [HXE.out, HCU.out]; rfl⟩
              rw [HRES.out] at HM
              have hml : (blockL st ws kk).length = 8 := blockL_len HS4.out
              obtain ⟨y0, y1, y2, y3, y4, y5, y6, y7, hy⟩ := eight_of hml
              have HYE := Aside0.mk hy
              rw [hy] at HM
              clear hml hy HRES
              obtain ⟨h1, _, _, h4, _, h5⟩ := HM.out
              have H2 := Aside0.mk h4
              have H5 := Aside0.mk h5
              have c0 : wr.cell? ⟨w.heap.size, 0, none⟩ = some (.int .u64 y0) := (blk_cell h1 0).trans rfl
              have c1 : wr.cell? ⟨w.heap.size, 1, none⟩ = some (.int .u64 y1) := (blk_cell h1 1).trans rfl
              have c2 : wr.cell? ⟨w.heap.size, 2, none⟩ = some (.int .u64 y2) := (blk_cell h1 2).trans rfl
              have c3 : wr.cell? ⟨w.heap.size, 3, none⟩ = some (.int .u64 y3) := (blk_cell h1 3).trans rfl
              have c4 : wr.cell? ⟨w.heap.size, 4, none⟩ = some (.int .u64 y4) := (blk_cell h1 4).trans rfl
              have c5 : wr.cell? ⟨w.heap.size, 5, none⟩ = some (.int .u64 y5) := (blk_cell h1 5).trans rfl
              have c6 : wr.cell? ⟨w.heap.size, 6, none⟩ = some (.int .u64 y6) := (blk_cell h1 6).trans rfl
              have c7 : wr.cell? ⟨w.heap.size, 7, none⟩ = some (.int .u64 y7) := (blk_cell h1 7).trans rfl
              have z0 : wr.cell? ⟨w.heap.size + 1 + 1 + 1, 0, none⟩ = some (.int .u64 0) := (blk_cell h4 0).trans rfl
              have z1 : wr.cell? ⟨w.heap.size + 1 + 1 + 1, 1, none⟩ = some (.int .u64 0) := (blk_cell h4 1).trans rfl
              have z2 : wr.cell? ⟨w.heap.size + 1 + 1 + 1, 2, none⟩ = some (.int .u64 0) := (blk_cell h4 2).trans rfl
              have z3 : wr.cell? ⟨w.heap.size + 1 + 1 + 1, 3, none⟩ = some (.int .u64 0) := (blk_cell h4 3).trans rfl
              have z4 : wr.cell? ⟨w.heap.size + 1 + 1 + 1, 4, none⟩ = some (.int .u64 0) := (blk_cell h4 4).trans rfl
              have z5 : wr.cell? ⟨w.heap.size + 1 + 1 + 1, 5, none⟩ = some (.int .u64 0) := (blk_cell h4 5).trans rfl
              have z6 : wr.cell? ⟨w.heap.size + 1 + 1 + 1, 6, none⟩ = some (.int .u64 0) := (blk_cell h4 6).trans rfl
              have z7 : wr.cell? ⟨w.heap.size + 1 + 1 + 1, 7, none⟩ = some (.int .u64 0) := (blk_cell h4 7).trans rfl
              have f0 := blk_frozen h4 0
              have f1 := blk_frozen h4 1
              have f2 := blk_frozen h4 2
              have f3 := blk_frozen h4 3
              have f4 := blk_frozen h4 4
              have f5 := blk_frozen h4 5
              have f6 := blk_frozen h4 6
              have f7 := blk_frozen h4 7
              clear h1 h4 h5 HM hlt hi
              go_wp2
              (try simp only [Exit.inBlock, Exit.then])
              refine bodyPost_ret (results_cell_row (p := 6) (ty := 61) rfl _ _ (w.heap.size + 1 + 1 + 1) 61 (longs [y0, y1, y2, y3, y4, y5, y6, y7]) (0, 0) _ rfl (set8l (a0 := 0) (a1 := 0) (a2 := 0) (a3 := 0) (a4 := 0) (a5 := 0) (a6 := 0) (a7 := 0) H2.out y0 y1 y2 y3 y4 y5 y6 y7) Tryd.underlying61 rfl (by kernel_rfl)) rfl ?_
              exact ⟨by rw [← HSE.out, HYE.out], below8 H5.out (by omega) _ _ _ _ _ _ _ _⟩
end Go.Proofs.YtgaekibompacnaaDoor.QD
