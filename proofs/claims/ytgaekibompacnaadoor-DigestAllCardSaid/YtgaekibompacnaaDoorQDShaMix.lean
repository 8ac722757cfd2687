/- The contract of digest's mix. -/
import Derived.Test.YtgaekibompacnaaDoorQDShaMath
import Derived.WalkKit
import Derived.LoopTactic
import Derived.Outline
import Derived.WalkSpells
import Derived.Lib.Hide
import Derived.KernelRfl
import Derived.RowKit3
import Derived.IntWalk
import Derived.BigQuiet
import Derived.Deep.QuietTactic
import Derived.StillTailTactics
import Derived.Laws.Rows
set_option linter.unusedVariables false
set_option linter.unusedSimpArgs false
namespace Go.Proofs.YtgaekibompacnaaDoor.QD
open Go.RowKit Go.Proofs.YtgaekibompacnaaDoorW.PrintWords Go.Proofs.YtgaekibompacnaaDoorW.PrintLast Go.Proofs.YtgaekibompacnaaDoorW.PrintMore
theorem turn_quiet (w : World) (x n : Int) (h0 : 0 ≤ n) (h1 : n ≤ 32) (a : Nat) : Calls Tryd.prog 38 #[.int .u32 x, .int .u64 n] (w.drewN a) fun e w'' => e = .returned (.int .u32 (trn x n)) ∧ ∃ m, w'' = w.drewN m :=
  Calls.quiet_of (w := w) (n := a) ((digest_turn.calls x n _ (w.drewN a) (turn_is x n h0 h1)).mono fun e w' ⟨he, m, hm⟩ => ⟨he, m, hm⟩)
def MixW (w : World) (st ws : List Int) (wr : World) : Prop := wr.heap.size = w.heap.size + 3 ∧ wr.heap[w.heap.size]? = some (.cells (words st) 56 (0, 0)) ∧ wr.heap[w.heap.size + 1]? = some (.cells (words (List.replicate 8 0)) 56 (0, 0)) ∧ wr.heap[w.heap.size + 1 + 1]? = some (.cells (words ws) 71 (0, 0)) ∧ Below w.heap.size w wr
theorem size_alloc1 (w : World) (o : Obj) : (w.alloc o).heap.size = w.heap.size + 1 := by simp
theorem MixW.start (w : World) (st : List Int) : MixW w st (List.replicate 64 0) (((w.alloc (.cells (words st) 56)).alloc (.cells (words (List.replicate 8 0)) 56)).alloc (.cells (words (List.replicate 64 0)) 71)) := by
  refine ⟨by rw [size_alloc1, size_alloc1, size_alloc1], blk_alloc (blk_alloc (blk_new w _) _) _, blk_alloc ?_ _, ?_, below_alloc (below_alloc (below_alloc (Below.refl _ _) _) _) _⟩
  · have := blk_new (w.alloc (.cells (words st) 56)) (.cells (words (List.replicate 8 0)) 56)
    rwa [size_alloc1] at this
  · have := blk_new ((w.alloc (.cells (words st) 56)).alloc (.cells (words (List.replicate 8 0)) 56)) (.cells (words (List.replicate 64 0)) 71)
    rwa [size_alloc1, size_alloc1] at this
theorem MixW.drewN {w wr : World} {st ws : List Int} (h : MixW w st ws wr) (m : Nat) : MixW w st ws (wr.drewN m) := ⟨h.1, h.2.1, h.2.2.1, h.2.2.2.1, pw_below_drewN h.2.2.2.2 m⟩
theorem MixW.drew {w wr : World} {st ws : List Int} (h : MixW w st ws wr) : MixW w st ws wr.drew := ⟨h.1, h.2.1, h.2.2.1, h.2.2.2.1, below_drew1 h.2.2.2.2⟩
theorem MixW.set {w wr : World} {st ws ws' : List Int} (h : MixW w st ws wr) {i : Nat} {u : Value} (hs : (words ws).setIfInBounds i u = words ws') : MixW w st ws' (wr.setCell ⟨w.heap.size + 1 + 1, i, none⟩ u) := by
  obtain ⟨h1, h2, h3, h4, h5⟩ := h
  refine ⟨by rw [World.size_setCell]; exact h1, (Below.heap_setCell _ _ _ _ (by show w.heap.size ≠ w.heap.size + 1 + 1; omega)).trans h2, (Below.heap_setCell _ _ _ _ (by show w.heap.size + 1 ≠ w.heap.size + 1 + 1; omega)).trans h3, ?_, h5.setCell (p := ⟨w.heap.size + 1 + 1, i, none⟩) (by show w.heap.size ≤ w.heap.size + 1 + 1; omega) u⟩
  rw [blk_set h4, hs]
/-- .. and the state that is turned. -/
def MixS (w : World) (gs : Nat) (st ws x : List Int) (wr : World) : Prop := wr.heap[w.heap.size]? = some (.cells (words st) 56 (0, 0)) ∧ wr.heap[w.heap.size + 1]? = some (.cells (words (List.replicate 8 0)) 56 (0, 0)) ∧ wr.heap[w.heap.size + 1 + 1]? = some (.cells (words ws) 71 (0, 0)) ∧ wr.heap[gs]? = some (.cells (words x) 56 (0, 0)) ∧ Below w.heap.size w wr
theorem MixS.drewN {w wr : World} {gs : Nat} {st ws x : List Int} (h : MixS w gs st ws x wr) (m : Nat) : MixS w gs st ws x (wr.drewN m) := ⟨h.1, h.2.1, h.2.2.1, h.2.2.2.1, pw_below_drewN h.2.2.2.2 m⟩
theorem MixS.drew {w wr : World} {gs : Nat} {st ws x : List Int} (h : MixS w gs st ws x wr) : MixS w gs st ws x wr.drew := ⟨h.1, h.2.1, h.2.2.1, h.2.2.2.1, below_drew1 h.2.2.2.2⟩
theorem MixS.set {w wr : World} {gs : Nat} {st ws x x' : List Int} (h : MixS w gs st ws x wr) (hg : gs = w.heap.size + 3) {i : Nat} {u : Value} (hs : (words x).setIfInBounds i u = words x') : MixS w gs st ws x' (wr.setCell ⟨gs, i, none⟩ u) := by
  obtain ⟨h1, h2, h3, h4, h5⟩ := h
  refine ⟨(Below.heap_setCell _ _ _ _ (by show w.heap.size ≠ gs; omega)).trans h1, (Below.heap_setCell _ _ _ _ (by show w.heap.size + 1 ≠ gs; omega)).trans h2, (Below.heap_setCell _ _ _ _ (by show w.heap.size + 1 + 1 ≠ gs; omega)).trans h3, ?_, h5.setCell (p := ⟨gs, i, none⟩) (by show w.heap.size ≤ gs; omega) u⟩
  rw [blk_set h4, hs]
theorem MixS.put8 {w W : World} {gs : Nat} {st ws : List Int} {a0 a1 a2 a3 a4 a5 a6 a7 : Int} (h : MixS w gs st ws [a0, a1, a2, a3, a4, a5, a6, a7] W) (hg : gs = w.heap.size + 3) (v0 v1 v2 v3 v4 v5 v6 v7 : Int) :
    MixS w gs st ws [v0, v1, v2, v3, v4, v5, v6, v7] ((((((((W.setCell ⟨gs, 0, none⟩ (.int .u32 v0)).setCell ⟨gs, 1, none⟩ (.int .u32 v1)).setCell ⟨gs, 2, none⟩ (.int .u32 v2)).setCell ⟨gs, 3, none⟩ (.int .u32 v3)).setCell ⟨gs, 4, none⟩ (.int .u32 v4)).setCell ⟨gs, 5, none⟩ (.int .u32 v5)).setCell ⟨gs, 6, none⟩ (.int .u32 v6)).setCell ⟨gs, 7, none⟩ (.int .u32 v7)) := by
  have h0 := MixS.set (x' := [v0, a1, a2, a3, a4, a5, a6, a7]) h hg (i := 0) (u := .int .u32 v0) rfl
  have h1 := MixS.set (x' := [v0, v1, a2, a3, a4, a5, a6, a7]) h0 hg (i := 1) (u := .int .u32 v1) rfl
  have h2 := MixS.set (x' := [v0, v1, v2, a3, a4, a5, a6, a7]) h1 hg (i := 2) (u := .int .u32 v2) rfl
  have h3 := MixS.set (x' := [v0, v1, v2, v3, a4, a5, a6, a7]) h2 hg (i := 3) (u := .int .u32 v3) rfl
  have h4 := MixS.set (x' := [v0, v1, v2, v3, v4, a5, a6, a7]) h3 hg (i := 4) (u := .int .u32 v4) rfl
  have h5 := MixS.set (x' := [v0, v1, v2, v3, v4, v5, a6, a7]) h4 hg (i := 5) (u := .int .u32 v5) rfl
  have h6 := MixS.set (x' := [v0, v1, v2, v3, v4, v5, v6, a7]) h5 hg (i := 6) (u := .int .u32 v6) rfl
  exact MixS.set (x' := [v0, v1, v2, v3, v4, v5, v6, v7]) h6 hg (i := 7) (u := .int .u32 v7) rfl
theorem MixS.setH {w wr : World} {gs : Nat} {st st' ws x : List Int} (h : MixS w gs st ws x wr) (hg : gs = w.heap.size + 3) {i : Nat} {u : Value} (hs : (words st).setIfInBounds i u = words st') : MixS w gs st' ws x (wr.setCell ⟨w.heap.size, i, none⟩ u) := by
  obtain ⟨h1, h2, h3, h4, h5⟩ := h
  refine ⟨?_, (Below.heap_setCell _ _ _ _ (by show w.heap.size + 1 ≠ w.heap.size; omega)).trans h2, (Below.heap_setCell _ _ _ _ (by show w.heap.size + 1 + 1 ≠ w.heap.size; omega)).trans h3, (Below.heap_setCell _ _ _ _ (by show gs ≠ w.heap.size; omega)).trans h4, h5.setCell (p := ⟨w.heap.size, i, none⟩) (Nat.le_refl _) u⟩
  rw [blk_set h1, hs]
theorem set8 {W : World} {g t : Nat} {a0 a1 a2 a3 a4 a5 a6 a7 : Int} (h : W.heap[g]? = some (.cells (words [a0, a1, a2, a3, a4, a5, a6, a7]) t (0, 0))) (v0 v1 v2 v3 v4 v5 v6 v7 : Int) :
    ((((((((W.setCell ⟨g, 0, none⟩ (.int .u32 v0)).setCell ⟨g, 1, none⟩ (.int .u32 v1)).setCell ⟨g, 2, none⟩ (.int .u32 v2)).setCell ⟨g, 3, none⟩ (.int .u32 v3)).setCell ⟨g, 4, none⟩ (.int .u32 v4)).setCell ⟨g, 5, none⟩ (.int .u32 v5)).setCell ⟨g, 6, none⟩ (.int .u32 v6)).setCell ⟨g, 7, none⟩ (.int .u32 v7)).heap[g]? = some (.cells (words [v0, v1, v2, v3, v4, v5, v6, v7]) t (0, 0)) := by
  have h0 : (W.setCell ⟨g, 0, none⟩ (.int .u32 v0)).heap[g]? = some (.cells (words [v0, a1, a2, a3, a4, a5, a6, a7]) t (0, 0)) := (blk_set h 0 (.int .u32 v0)).trans rfl
  have h1 : ((W.setCell ⟨g, 0, none⟩ (.int .u32 v0)).setCell ⟨g, 1, none⟩ (.int .u32 v1)).heap[g]? = some (.cells (words [v0, v1, a2, a3, a4, a5, a6, a7]) t (0, 0)) := (blk_set h0 1 (.int .u32 v1)).trans rfl
  have h2 : (((W.setCell ⟨g, 0, none⟩ (.int .u32 v0)).setCell ⟨g, 1, none⟩ (.int .u32 v1)).setCell ⟨g, 2, none⟩ (.int .u32 v2)).heap[g]? = some (.cells (words [v0, v1, v2, a3, a4, a5, a6, a7]) t (0, 0)) := (blk_set h1 2 (.int .u32 v2)).trans rfl
  have h3 : ((((W.setCell ⟨g, 0, none⟩ (.int .u32 v0)).setCell ⟨g, 1, none⟩ (.int .u32 v1)).setCell ⟨g, 2, none⟩ (.int .u32 v2)).setCell ⟨g, 3, none⟩ (.int .u32 v3)).heap[g]? = some (.cells (words [v0, v1, v2, v3, a4, a5, a6, a7]) t (0, 0)) := (blk_set h2 3 (.int .u32 v3)).trans rfl
  have h4 : (((((W.setCell ⟨g, 0, none⟩ (.int .u32 v0)).setCell ⟨g, 1, none⟩ (.int .u32 v1)).setCell ⟨g, 2, none⟩ (.int .u32 v2)).setCell ⟨g, 3, none⟩ (.int .u32 v3)).setCell ⟨g, 4, none⟩ (.int .u32 v4)).heap[g]? = some (.cells (words [v0, v1, v2, v3, v4, a5, a6, a7]) t (0, 0)) := (blk_set h3 4 (.int .u32 v4)).trans rfl
  have h5 : ((((((W.setCell ⟨g, 0, none⟩ (.int .u32 v0)).setCell ⟨g, 1, none⟩ (.int .u32 v1)).setCell ⟨g, 2, none⟩ (.int .u32 v2)).setCell ⟨g, 3, none⟩ (.int .u32 v3)).setCell ⟨g, 4, none⟩ (.int .u32 v4)).setCell ⟨g, 5, none⟩ (.int .u32 v5)).heap[g]? = some (.cells (words [v0, v1, v2, v3, v4, v5, a6, a7]) t (0, 0)) := (blk_set h4 5 (.int .u32 v5)).trans rfl
  have h6 : (((((((W.setCell ⟨g, 0, none⟩ (.int .u32 v0)).setCell ⟨g, 1, none⟩ (.int .u32 v1)).setCell ⟨g, 2, none⟩ (.int .u32 v2)).setCell ⟨g, 3, none⟩ (.int .u32 v3)).setCell ⟨g, 4, none⟩ (.int .u32 v4)).setCell ⟨g, 5, none⟩ (.int .u32 v5)).setCell ⟨g, 6, none⟩ (.int .u32 v6)).heap[g]? = some (.cells (words [v0, v1, v2, v3, v4, v5, v6, a7]) t (0, 0)) := (blk_set h5 6 (.int .u32 v6)).trans rfl
  have h7 : ((((((((W.setCell ⟨g, 0, none⟩ (.int .u32 v0)).setCell ⟨g, 1, none⟩ (.int .u32 v1)).setCell ⟨g, 2, none⟩ (.int .u32 v2)).setCell ⟨g, 3, none⟩ (.int .u32 v3)).setCell ⟨g, 4, none⟩ (.int .u32 v4)).setCell ⟨g, 5, none⟩ (.int .u32 v5)).setCell ⟨g, 6, none⟩ (.int .u32 v6)).setCell ⟨g, 7, none⟩ (.int .u32 v7)).heap[g]? = some (.cells (words [v0, v1, v2, v3, v4, v5, v6, v7]) t (0, 0)) := (blk_set h6 7 (.int .u32 v7)).trans rfl
  exact h7
theorem below8 {B g : Nat} {w W : World} (h : Below B w W) (hg : B ≤ g) (v0 v1 v2 v3 v4 v5 v6 v7 : Value) : Below B w ((((((((W.setCell ⟨g, 0, none⟩ v0).setCell ⟨g, 1, none⟩ (v1)).setCell ⟨g, 2, none⟩ (v2)).setCell ⟨g, 3, none⟩ (v3)).setCell ⟨g, 4, none⟩ (v4)).setCell ⟨g, 5, none⟩ (v5)).setCell ⟨g, 6, none⟩ (v6)).setCell ⟨g, 7, none⟩ (v7)) :=
  ((((((((h.setCell (p := ⟨g, 0, none⟩) hg v0).setCell (p := ⟨g, 1, none⟩) hg v1).setCell (p := ⟨g, 2, none⟩) hg v2).setCell (p := ⟨g, 3, none⟩) hg v3).setCell (p := ⟨g, 4, none⟩) hg v4).setCell (p := ⟨g, 5, none⟩) hg v5).setCell (p := ⟨g, 6, none⟩) hg v6).setCell (p := ⟨g, 7, none⟩) hg v7)
/-- The table of the rounds' words, as it lies in the world. -/
def Laid (w : World) : Prop := 0 < w.heap.size ∧ ∀ i : Nat, i < 64 → w.cell? ⟨0, i, none⟩ = some (.int .u32 (rd KK i))
theorem Laid.below {w wr : World} (h : Laid w) (hb : Below w.heap.size w wr) : Laid wr := ⟨Nat.lt_of_lt_of_le h.1 hb.size, fun i hi => (hb.cell (p := ⟨0, i, none⟩) h.1).trans (h.2 i hi)⟩
set_option maxRecDepth 100000 in
set_option maxHeartbeats 8000000 in
theorem mix_calls (st : List Int) (A : Option Addr) (c : Nat) (b : List Int) (w : World) (hk : Laid w) (hst : st.length = 8) (hb : Kd.C (Kd.int .u8) w A b.length b) (hc : b.length ≤ c) (h64 : 64 ≤ b.length) :
    Calls Tryd.prog 28 #[.agg (words st), .slice A b.length c] w fun en w' => en = .returned (.agg (words (mixL st b))) ∧ Below w.heap.size w w' := by
  have HK : Aside0 (∀ W : World, Below w.heap.size w W → Laid W) := ⟨fun W hW => hk.below hW⟩
  have HBC := Aside0.mk hb
  have HST := Aside0.mk hst
  have H64 := Aside0.mk h64
  clear hb hst h64 hk
  go_enter Tryd.func28, Tryd.ntmps28
  go_wp2
  go_loopw [18] (fun v18 wr => ∃ (i : Nat), i ≤ 16 ∧ v18 = .int .i64 (i : Int) ∧ Aside0 (MixW w st (fill (wordsAt b i) 64) wr)) (fun v18 _ => 16 - (intOf v18).toNat)
  case atStart => exact ⟨0, by omega, rfl, ⟨MixW.start w st⟩⟩
  case round =>
    obtain ⟨i, hi, rfl, HM⟩ := hrel
    by_cases hlt : i < 16
    · have hil : decide ((i : Int) < 16) = true := by simp; omega
      have h64 := H64.out
      have hb' := Kd.C_below HBC.out HM.out.2.2.2.2
      obtain ⟨ad, ea, hx0⟩ := Kd.at_int hb' (4 * i : Int) (by omega) (by omega)
      cases ea
      obtain ⟨_, ea, hx1⟩ := Kd.at_int hb' (4 * i + 1 : Int) (by omega) (by omega)
      cases ea
      obtain ⟨_, ea, hx2⟩ := Kd.at_int hb' (4 * i + 2 : Int) (by omega) (by omega)
      cases ea
      obtain ⟨_, ea, hx3⟩ := Kd.at_int hb' (4 * i + 3 : Int) (by omega) (by omega)
      cases ea
      have hp0 : (0 : Int) ≤ 4 * (i : Int) := by omega
      have hq0 : 4 * (i : Int) < (b.length : Int) := by omega
      have hp1 : (0 : Int) ≤ 4 * (i : Int) + 1 := by omega
      have hq1 : 4 * (i : Int) + 1 < (b.length : Int) := by omega
      have hp2 : (0 : Int) ≤ 4 * (i : Int) + 2 := by omega
      have hq2 : 4 * (i : Int) + 2 < (b.length : Int) := by omega
      have hp3 : (0 : Int) ≤ 4 * (i : Int) + 3 := by omega
      have hq3 : 4 * (i : Int) + 3 < (b.length : Int) := by omega
      have hi64 : (i : Int) < 64 := by omega
      have hi0 : (0 : Int) ≤ (i : Int) := by omega
      have HLT := Aside0.mk hlt
      have HW4 : Aside0 (IntKind.i64.wrap ((i : Int) + 1) = ((i + 1 : Nat) : Int)) := ⟨(IntWalk.i64_in _ (by omega)).trans (by omega)⟩
      have hw0 : IntKind.i64.wrap (4 * (i : Int)) = 4 * (i : Int) := IntWalk.i64_in _ (by omega)
      have HW1 : Aside0 (IntKind.i64.wrap (4 * (i : Int) + 1) = 4 * (i : Int) + 1) := ⟨IntWalk.i64_in _ (by clear hw0; omega)⟩
      have HW2 : Aside0 (IntKind.i64.wrap (4 * (i : Int) + 2) = 4 * (i : Int) + 2) := ⟨IntWalk.i64_in _ (by clear hw0; omega)⟩
      have HW3 : Aside0 (IntKind.i64.wrap (4 * (i : Int) + 3) = 4 * (i : Int) + 3) := ⟨IntWalk.i64_in _ (by clear hw0; omega)⟩
      have hw1 := HW1.out
      have hw2 := HW2.out
      have hw3 := HW3.out
      have hw4 := HW4.out
      clear hlt h64 hi hb'
      go_wp2
      go_still_tail 35, (by kernel_rfl)
      change wpList _ _ _ _ _ wr.drew
      have HM2 := Aside0.mk HM.out.drew
      clear hx0 hx1 hx2 hx3 HM
      generalize wr.drew = w2 at *
      have hfr := blk_frozen HM2.out.2.2.2.1 i
      have hcl := blk_cell HM2.out.2.2.2.1 i
      have hl := fill_new (wordsAt b i) (n := 64) (by rw [wordsAt_len]; have := HLT.out; omega)
      rw [wordsAt_len] at hl
      rw [hl] at hcl
      go_wp2
      go_roundw
      case rel => exact ⟨i + 1, HLT.out, by first | rfl | (congr 1), ⟨MixW.set HM2.out (by have := fill_set (wordsAt b i) (wordAt b i) (n := 64) (by rw [wordsAt_len]; have := HLT.out; omega); rw [wordsAt_len, ← wordsAt_succ] at this; exact this)⟩⟩
      case measure => first | (rw [hw4]; exact Nat.sub_lt_sub_left HLT.out (Nat.lt_succ_self i)) | exact Nat.sub_lt_sub_left HLT.out (Nat.lt_succ_self i)
    · have hil : decide ((i : Int) < 16) = false := by simp; omega
      obtain rfl : i = 16 := by omega
      rw [show ((16 : Nat) : Int) = (16 : Int) from rfl]
      go_wp2
      go_loopw [7] (fun v7 wr => ∃ (i : Nat), i ≤ 48 ∧ v7 = .int .i64 ((16 + i : Nat) : Int) ∧ Aside0 (MixW w st (fill (sch b i) 64) wr)) (fun v7 _ => 64 - (intOf v7).toNat)
      case atStart => exact ⟨0, by omega, rfl, HM⟩
      case round =>
        clear HM
        obtain ⟨i, hi, rfl, HM⟩ := hrel
        obtain ⟨n, hn⟩ : ∃ n_, n_ = 16 + i := ⟨_, rfl⟩
        rw [← hn]
        by_cases hlt : i < 48
        · have hil : decide ((n : Int) < 64) = true := by simp; omega
          have hls := sch_len b i
          rw [← hn] at hls
          have hl := fill_new (sch b i) (n := 64) (by omega)
          rw [hls] at hl
          have HL := Aside0.mk hl
          have HWR0 : Aside0 (wrap64 ((n : Int) + 1) = ((n + 1 : Nat) : Int)) := ⟨(OctetMath.wrap64_id (by omega) (by omega)).trans (by omega)⟩
          have hn0 : (0 : Int) ≤ (n : Int) := by omega
          have hn64 : (n : Int) < 64 := by omega
          have HLT := Aside0.mk hlt
          have HN := Aside0.mk hn
          have HLS := Aside0.mk hls
          obtain ⟨x15, hx15⟩ : ∃ x_, x_ = rd (sch b i) ((n : Int) - 15) := ⟨_, rfl⟩
          obtain ⟨x2, hx2⟩ : ∃ x_, x_ = rd (sch b i) ((n : Int) - 2) := ⟨_, rfl⟩
          obtain ⟨x16, hx16⟩ : ∃ x_, x_ = rd (sch b i) ((n : Int) - 16) := ⟨_, rfl⟩
          obtain ⟨x7, hx7⟩ : ∃ x_, x_ = rd (sch b i) ((n : Int) - 7) := ⟨_, rfl⟩
          have HQ : Aside0 (∀ W : World, W.heap[w.heap.size + 1 + 1]? = some (.cells (words (fill (sch b i) 64)) 71 (0, 0)) → W.cell? ⟨w.heap.size + 1 + 1, ((n : Int) - 15).toNat, none⟩ = some (.int .u32 x15) ∧ W.cell? ⟨w.heap.size + 1 + 1, ((n : Int) - 2).toNat, none⟩ = some (.int .u32 x2) ∧ W.cell? ⟨w.heap.size + 1 + 1, ((n : Int) - 16).toNat, none⟩ = some (.int .u32 x16) ∧ W.cell? ⟨w.heap.size + 1 + 1, ((n : Int) - 7).toNat, none⟩ = some (.int .u32 x7)) := ⟨fun W hW => by
            refine ⟨?_, ?_, ?_, ?_⟩
            · rw [blk_cell hW, fill_at _ _ _ (by omega), Int.toNat_of_nonneg (by omega), hx15]
            · rw [blk_cell hW, fill_at _ _ _ (by omega), Int.toNat_of_nonneg (by omega), hx2]
            · rw [blk_cell hW, fill_at _ _ _ (by omega), Int.toNat_of_nonneg (by omega), hx16]
            · rw [blk_cell hW, fill_at _ _ _ (by omega), Int.toNat_of_nonneg (by omega), hx7]⟩
          have HX : Aside0 (nxt (sch b i) = (x16 + sigA x15 + x7 + sigB x2) % 4294967296) := ⟨by unfold nxt; rw [hls, hx15, hx2, hx16, hx7]⟩
          have hp15 : (0 : Int) ≤ (n : Int) - 15 := by omega
          have hr15 : (15 : Int) ≤ (n : Int) := by omega
          have hq15 : (n : Int) - 15 < 64 := by omega
          have hp2 : (0 : Int) ≤ (n : Int) - 2 := by omega
          have hr2 : (2 : Int) ≤ (n : Int) := by omega
          have hq2 : (n : Int) - 2 < 64 := by omega
          have hp16 : (0 : Int) ≤ (n : Int) - 16 := by omega
          have hr16 : (16 : Int) ≤ (n : Int) := by omega
          have hq16 : (n : Int) - 16 < 64 := by omega
          have hp7 : (0 : Int) ≤ (n : Int) - 7 := by omega
          have hr7 : (7 : Int) ≤ (n : Int) := by omega
          have hq7 : (n : Int) - 7 < 64 := by omega
          have HV15 : Aside0 (IntKind.i64.wrap ((n : Int) - 15) = (n : Int) - 15) := ⟨IntWalk.i64_in _ (by omega)⟩
          have HV2 : Aside0 (IntKind.i64.wrap ((n : Int) - 2) = (n : Int) - 2) := ⟨IntWalk.i64_in _ (by omega)⟩
          have HV16 : Aside0 (IntKind.i64.wrap ((n : Int) - 16) = (n : Int) - 16) := ⟨IntWalk.i64_in _ (by omega)⟩
          have HV7 : Aside0 (IntKind.i64.wrap ((n : Int) - 7) = (n : Int) - 7) := ⟨IntWalk.i64_in _ (by omega)⟩
          have hv15 := HV15.out
          have hv2 := HV2.out
          have hv16 := HV16.out
          have hv7 := HV7.out
          clear hlt hls hl hi hn hx15 hx2 hx16 hx7
          have HWR := HWR0.out
          have hn' : (intOf (.int .i64 (n : Int))).toNat = n := rfl
          obtain ⟨hc15, hc2, hc16, hc7⟩ := HQ.out wr HM.out.2.2.2.1
          go_wp2
          go_quiet (exact turn_quiet _ _ _ (by decide) (by decide) _)
          have HM2 := Aside0.mk (HM.out.drewN nq)
          clear hc15 hc2 hc16 hc7 HM
          generalize wr.drewN nq = w2 at *
          obtain ⟨hc15, hc2, hc16, hc7⟩ := HQ.out w2 HM2.out.2.2.2.1
          go_wp2
          go_quiet (exact turn_quiet _ _ _ (by decide) (by decide) _)
          have HM3 := Aside0.mk (HM2.out.drewN nq)
          clear hc15 hc2 hc16 hc7 HM2
          generalize w2.drewN nq = w3 at *
          obtain ⟨hc15, hc2, hc16, hc7⟩ := HQ.out w3 HM3.out.2.2.2.1
          go_wp2
          go_still_tail 15, (by kernel_rfl)
          change wpList _ _ _ _ _ w3.drew
          have HM4 := Aside0.mk HM3.out.drew
          clear hc15 hc2 hc16 hc7 HM3
          generalize w3.drew = w4 at *
          have hfr := blk_frozen HM4.out.2.2.2.1 n
          have hcn := blk_cell HM4.out.2.2.2.1 n
          rw [HL.out] at hcn
          go_wp2
          go_roundw
          case rel => exact ⟨i + 1, HLT.out, by have h_ := HN.out; clear HWR; first | (congr 1; omega) | rfl, ⟨MixW.set HM4.out (by have := fill_set (sch b i) (nxt (sch b i)) (n := 64) (by rw [HLS.out, HN.out]; have := HLT.out; omega); rw [HLS.out] at this; rw [show sch b (i + 1) = sch b i ++ [nxt (sch b i)] from rfl, ← this, HX.out]; rfl)⟩⟩
          case measure => have h1 := HLT.out; have h2 := HN.out; first | (rw [HWR]; exact Nat.sub_lt_sub_left (by show n < 64; clear HWR hn'; omega) (Nat.lt_succ_self n)) | (exact Nat.sub_lt_sub_left (by show n < 64; clear HWR hn'; omega) (Nat.lt_succ_self n))
        · have hil : decide ((n : Int) < 64) = false := by simp; omega
          obtain rfl : i = 48 := by omega
          have hfull : fill (sch b 48) 64 = sch b 48 := fill_full (by rw [sch_len])
          rw [hfull] at HM
          have hst := HST.out
          obtain ⟨s0, s1, s2, s3, s4, s5, s6, s7, rfl⟩ := eight_of hst
          have hH := HM.out.2.1
          have c0 : wr.cell? ⟨w.heap.size, 0, none⟩ = some (.int .u32 s0) := (blk_cell hH 0).trans rfl
          have c1 : wr.cell? ⟨w.heap.size, 1, none⟩ = some (.int .u32 s1) := (blk_cell hH 1).trans rfl
          have c2 : wr.cell? ⟨w.heap.size, 2, none⟩ = some (.int .u32 s2) := (blk_cell hH 2).trans rfl
          have c3 : wr.cell? ⟨w.heap.size, 3, none⟩ = some (.int .u32 s3) := (blk_cell hH 3).trans rfl
          have c4 : wr.cell? ⟨w.heap.size, 4, none⟩ = some (.int .u32 s4) := (blk_cell hH 4).trans rfl
          have c5 : wr.cell? ⟨w.heap.size, 5, none⟩ = some (.int .u32 s5) := (blk_cell hH 5).trans rfl
          have c6 : wr.cell? ⟨w.heap.size, 6, none⟩ = some (.int .u32 s6) := (blk_cell hH 6).trans rfl
          have c7 : wr.cell? ⟨w.heap.size, 7, none⟩ = some (.int .u32 s7) := (blk_cell hH 7).trans rfl
          clear hH hst
          have hX := HM.out.2.2.2.1
          have HXX := Aside0.mk hX
          have HRR := Aside0.mk HM.out.2.2.1
          have HHH := Aside0.mk HM.out.2.1
          have HBB := Aside0.mk HM.out.2.2.2.2
          have HSZ := Aside0.mk HM.out.1
          clear hX HM hfull
          go_wp2
          obtain ⟨gs, hgs⟩ : ∃ g_, g_ = wr.heap.size := ⟨_, rfl⟩
          have HGS : Aside0 (gs = w.heap.size + 3) := ⟨by rw [hgs]; exact HSZ.out⟩
          have HS0 : Aside0 (MixS w gs [s0, s1, s2, s3, s4, s5, s6, s7] (sch b 48) [s0, s1, s2, s3, s4, s5, s6, s7] (wr.alloc (.cells #[.int .u32 s0, .int .u32 s1, .int .u32 s2, .int .u32 s3, .int .u32 s4, .int .u32 s5, .int .u32 s6, .int .u32 s7] 56))) := ⟨blk_alloc HHH.out _, blk_alloc HRR.out _, blk_alloc HXX.out _, by rw [hgs]; exact blk_new wr _, below_alloc HBB.out _⟩
          rw [← hgs]
          generalize wr.alloc (.cells #[.int .u32 s0, .int .u32 s1, .int .u32 s2, .int .u32 s3, .int .u32 s4, .int .u32 s5, .int .u32 s6, .int .u32 s7] 56) = w6 at *
          clear c0 c1 c2 c3 c4 c5 c6 c7 hil hn HXX HRR HHH HBB HSZ hgs
          go_loopw [111] (fun v111 wr => ∃ (i : Nat), i ≤ 64 ∧ v111 = .int .i64 (i : Int) ∧ Aside0 (MixS w gs [s0, s1, s2, s3, s4, s5, s6, s7] (sch b 48) (rounds (sch b 48) [s0, s1, s2, s3, s4, s5, s6, s7] i) wr)) (fun v111 _ => 64 - (intOf v111).toNat)
          case atStart => exact ⟨0, by omega, rfl, HS0⟩
          case round =>
            clear HS0
            obtain ⟨i, hi, rfl, HM⟩ := hrel
            by_cases hlt : i < 64
            · have hil : decide ((i : Int) < 64) = true := by simp; omega
              have HRL := Aside0.mk (rounds_len (ws := sch b 48) HST.out i)
              obtain ⟨a0, a1, a2, a3, a4, a5, a6, a7, hr8⟩ := eight_of HRL.out
              have HR8 := Aside0.mk hr8
              rw [hr8] at HM
              obtain ⟨xk, hxk⟩ : ∃ x_, x_ = rd KK i := ⟨_, rfl⟩
              obtain ⟨xw, hxw⟩ : ∃ x_, x_ = rd (sch b 48) i := ⟨_, rfl⟩
              have HQ : Aside0 (∀ W : World, MixS w gs [s0, s1, s2, s3, s4, s5, s6, s7] (sch b 48) [a0, a1, a2, a3, a4, a5, a6, a7] W → W.cell? ⟨gs, 0, none⟩ = some (.int .u32 a0) ∧ W.cell? ⟨gs, 1, none⟩ = some (.int .u32 a1) ∧ W.cell? ⟨gs, 2, none⟩ = some (.int .u32 a2) ∧ W.cell? ⟨gs, 3, none⟩ = some (.int .u32 a3) ∧ W.cell? ⟨gs, 4, none⟩ = some (.int .u32 a4) ∧ W.cell? ⟨gs, 5, none⟩ = some (.int .u32 a5) ∧ W.cell? ⟨gs, 6, none⟩ = some (.int .u32 a6) ∧ W.cell? ⟨gs, 7, none⟩ = some (.int .u32 a7) ∧ W.cell? ⟨w.heap.size + 1 + 1, i, none⟩ = some (.int .u32 xw) ∧ W.cell? ⟨0, i, none⟩ = some (.int .u32 xk)) := ⟨fun W hW => by
                obtain ⟨_, _, h3, h4, h5⟩ := hW
                refine ⟨(blk_cell h4 0).trans rfl, (blk_cell h4 1).trans rfl, (blk_cell h4 2).trans rfl, (blk_cell h4 3).trans rfl, (blk_cell h4 4).trans rfl, (blk_cell h4 5).trans rfl, (blk_cell h4 6).trans rfl, (blk_cell h4 7).trans rfl, ?_, ?_⟩
                · rw [blk_cell h3, hxw]
                  have := fill_at (sch b 48) 64 i (by rw [sch_len]; omega)
                  rwa [fill_full (by rw [sch_len])] at this
                · rw [hxk]
                  exact (HK.out W h5).2 i hlt⟩
              have HXK := Aside0.mk hxk
              have HXW := Aside0.mk hxw
              have hi0 : (0 : Int) ≤ (i : Int) := by omega
              have hi64 : (i : Int) < 64 := by omega
              have HLT := Aside0.mk hlt
              have HWR0 : Aside0 (wrap64 ((i : Int) + 1) = ((i + 1 : Nat) : Int)) := ⟨(OctetMath.wrap64_id (by omega) (by omega)).trans (by omega)⟩
              clear hlt hi hr8 hxk hxw
              have HWR := HWR0.out
              obtain ⟨c0, c1, c2, c3, c4, c5, c6, c7, cw, ck⟩ := HQ.out wr HM.out
              go_wp2
              go_quiet (exact turn_quiet _ _ _ (by decide) (by decide) _)
              have HM2 := Aside0.mk (HM.out.drewN nq)
              clear c0 c1 c2 c3 c4 c5 c6 c7 cw ck HM
              generalize wr.drewN nq = w2 at *
              obtain ⟨c0, c1, c2, c3, c4, c5, c6, c7, cw, ck⟩ := HQ.out w2 HM2.out
              go_wp2
              go_quiet (fail)
              have HM3 := Aside0.mk (HM2.out.drewN nq)
              clear c0 c1 c2 c3 c4 c5 c6 c7 cw ck HM2
              generalize w2.drewN nq = w3 at *
              obtain ⟨c0, c1, c2, c3, c4, c5, c6, c7, cw, ck⟩ := HQ.out w3 HM3.out
              go_wp2
              go_quiet (exact turn_quiet _ _ _ (by decide) (by decide) _)
              have HM4 := Aside0.mk (HM3.out.drewN nq)
              clear c0 c1 c2 c3 c4 c5 c6 c7 cw ck HM3
              generalize w3.drewN nq = w4 at *
              obtain ⟨c0, c1, c2, c3, c4, c5, c6, c7, cw, ck⟩ := HQ.out w4 HM4.out
              have f0 := blk_frozen HM4.out.2.2.2.1 0
              have f1 := blk_frozen HM4.out.2.2.2.1 1
              have f2 := blk_frozen HM4.out.2.2.2.1 2
              have f3 := blk_frozen HM4.out.2.2.2.1 3
              have f4 := blk_frozen HM4.out.2.2.2.1 4
              have f5 := blk_frozen HM4.out.2.2.2.1 5
              have f6 := blk_frozen HM4.out.2.2.2.1 6
              have f7 := blk_frozen HM4.out.2.2.2.1 7
              go_wp2
              go_roundw
              case rel => exact ⟨i + 1, HLT.out, by first | rfl | (congr 1), ⟨by rw [show ∀ ws st, rounds ws st (i + 1) = rnd (rd KK i) (rd ws i) (rounds ws st i) from fun _ _ => rfl, HR8.out, ← HXK.out, ← HXW.out]; simp only [rnd, rOne, rTwo, rSum, rCh, rMost]; exact MixS.put8 HM4.out HGS.out _ _ _ _ _ _ _ _⟩⟩
              case measure => first | (rw [HWR]; exact Nat.sub_lt_sub_left HLT.out (Nat.lt_succ_self i)) | (exact Nat.sub_lt_sub_left HLT.out (Nat.lt_succ_self i))
            · have hil : decide ((i : Int) < 64) = false := by simp; omega
              obtain rfl : i = 64 := by omega
              rw [show ((64 : Nat) : Int) = (64 : Int) from rfl]
              have HS4 := Aside0.mk HST.out
              clear HST
              obtain ⟨st, hst_⟩ : ∃ x_, x_ = [s0, s1, s2, s3, s4, s5, s6, s7] := ⟨_, rfl⟩
              obtain ⟨x, hx⟩ : ∃ x_, x_ = rounds (sch b 48) [s0, s1, s2, s3, s4, s5, s6, s7] 64 := ⟨_, rfl⟩
              have HXL : Aside0 (x.length = 8) := ⟨by rw [hx]; exact rounds_len HS4.out 64⟩
              rw [← hx] at HM
              have HXE := Aside0.mk hx
              clear hx
              rw [← hst_] at HM HXE HS4 ⊢
              have HSE := Aside0.mk hst_
              clear hst_
              go_wp2
              go_loopw [202] (fun v202 wr => ∃ (i : Nat), i ≤ 8 ∧ v202 = .int .i64 (i : Int) ∧ Aside0 (MixS w gs (addN st x i) (sch b 48) x wr)) (fun v202 _ => 8 - (intOf v202).toNat)
              case atStart => exact ⟨0, by omega, rfl, ⟨by have := HM.out; simpa [addN] using this⟩⟩
              case round =>
                clear HM
                obtain ⟨i, hi, rfl, HM⟩ := hrel
                by_cases hlt : i < 8
                · have hil : decide ((i : Int) < 8) = true := by simp; omega
                  have hi0 : (0 : Int) ≤ (i : Int) := by omega
                  have hi8 : (i : Int) < 8 := by omega
                  have HLT := Aside0.mk hlt
                  have HWR0 : Aside0 (wrap64 ((i : Int) + 1) = ((i + 1 : Nat) : Int)) := ⟨(OctetMath.wrap64_id (by omega) (by omega)).trans (by omega)⟩
                  obtain ⟨yh, hyh⟩ : ∃ x_, x_ = rd st i := ⟨_, rfl⟩
                  obtain ⟨yx, hyx⟩ : ∃ x_, x_ = rd x i := ⟨_, rfl⟩
                  have HQ : Aside0 (∀ W : World, MixS w gs (addN st x i) (sch b 48) x W → W.cell? ⟨w.heap.size, i, none⟩ = some (.int .u32 yh) ∧ W.cell? ⟨gs, i, none⟩ = some (.int .u32 yx)) := ⟨fun W hW => by
                    obtain ⟨h1, _, _, h4, _⟩ := hW
                    exact ⟨by rw [blk_cell h1, addN_at st x (by rw [HS4.out]; exact hlt), hyh], by rw [blk_cell h4, words_at x (by rw [HXL.out]; exact hlt), hyx]⟩⟩
                  have HAD : Aside0 ((words (addN st x i)).setIfInBounds i (.int .u32 ((yh + yx) % 4294967296)) = words (addN st x (i + 1))) := ⟨by rw [hyh, hyx]; exact addN_set st x (by rw [HS4.out]; exact hlt)⟩
                  clear hlt hi hyh hyx
                  have HWR := HWR0.out
                  obtain ⟨ch, cx⟩ := HQ.out wr HM.out
                  go_wp2
                  go_still_tail 8, (by kernel_rfl)
                  change wpList _ _ _ _ _ wr.drew
                  have HM2 := Aside0.mk HM.out.drew
                  clear ch cx HM
                  generalize wr.drew = w2 at *
                  obtain ⟨ch, cx⟩ := HQ.out w2 HM2.out
                  have hfr := blk_frozen HM2.out.1 i
                  go_wp2
                  go_roundw
                  case rel => exact ⟨i + 1, HLT.out, by first | rfl | (congr 1), ⟨MixS.setH HM2.out HGS.out HAD.out⟩⟩
                  case measure => first | (rw [HWR]; exact Nat.sub_lt_sub_left HLT.out (Nat.lt_succ_self i)) | (exact Nat.sub_lt_sub_left HLT.out (Nat.lt_succ_self i))
                · have hil : decide ((i : Int) < 8) = false := by simp; omega
                  obtain rfl : i = 8 := by omega
                  have HRES : Aside0 (addN st x 8 = mixL st b) := ⟨by rw [HXE.out]; rfl⟩
                  rw [HRES.out] at HM
                  have hml : (mixL st b).length = 8 := mixL_len HS4.out
                  obtain ⟨y0, y1, y2, y3, y4, y5, y6, y7, hy⟩ := eight_of hml
                  have HYE := Aside0.mk hy
                  rw [hy] at HM
                  clear hml hy HRES
                  have HM2 := HM
                  obtain ⟨h1, h2, _, _, h5⟩ := HM.out
                  have H2 := Aside0.mk h2
                  have H5 := Aside0.mk h5
                  have c0 : wr.cell? ⟨w.heap.size, 0, none⟩ = some (.int .u32 y0) := (blk_cell h1 0).trans rfl
                  have c1 : wr.cell? ⟨w.heap.size, 1, none⟩ = some (.int .u32 y1) := (blk_cell h1 1).trans rfl
                  have c2 : wr.cell? ⟨w.heap.size, 2, none⟩ = some (.int .u32 y2) := (blk_cell h1 2).trans rfl
                  have c3 : wr.cell? ⟨w.heap.size, 3, none⟩ = some (.int .u32 y3) := (blk_cell h1 3).trans rfl
                  have c4 : wr.cell? ⟨w.heap.size, 4, none⟩ = some (.int .u32 y4) := (blk_cell h1 4).trans rfl
                  have c5 : wr.cell? ⟨w.heap.size, 5, none⟩ = some (.int .u32 y5) := (blk_cell h1 5).trans rfl
                  have c6 : wr.cell? ⟨w.heap.size, 6, none⟩ = some (.int .u32 y6) := (blk_cell h1 6).trans rfl
                  have c7 : wr.cell? ⟨w.heap.size, 7, none⟩ = some (.int .u32 y7) := (blk_cell h1 7).trans rfl
                  have z0 : wr.cell? ⟨w.heap.size + 1, 0, none⟩ = some (.int .u32 0) := (blk_cell h2 0).trans rfl
                  have z1 : wr.cell? ⟨w.heap.size + 1, 1, none⟩ = some (.int .u32 0) := (blk_cell h2 1).trans rfl
                  have z2 : wr.cell? ⟨w.heap.size + 1, 2, none⟩ = some (.int .u32 0) := (blk_cell h2 2).trans rfl
                  have z3 : wr.cell? ⟨w.heap.size + 1, 3, none⟩ = some (.int .u32 0) := (blk_cell h2 3).trans rfl
                  have z4 : wr.cell? ⟨w.heap.size + 1, 4, none⟩ = some (.int .u32 0) := (blk_cell h2 4).trans rfl
                  have z5 : wr.cell? ⟨w.heap.size + 1, 5, none⟩ = some (.int .u32 0) := (blk_cell h2 5).trans rfl
                  have z6 : wr.cell? ⟨w.heap.size + 1, 6, none⟩ = some (.int .u32 0) := (blk_cell h2 6).trans rfl
                  have z7 : wr.cell? ⟨w.heap.size + 1, 7, none⟩ = some (.int .u32 0) := (blk_cell h2 7).trans rfl
                  have f0 := blk_frozen h2 0
                  have f1 := blk_frozen h2 1
                  have f2 := blk_frozen h2 2
                  have f3 := blk_frozen h2 3
                  have f4 := blk_frozen h2 4
                  have f5 := blk_frozen h2 5
                  have f6 := blk_frozen h2 6
                  have f7 := blk_frozen h2 7
                  clear h1 h2 h5 HM hlt hi
                  go_wp2
                  (try simp only [Exit.inBlock, Exit.then])
                  refine bodyPost_ret (results_cell_row (p := 4) (ty := 56) rfl _ _ (w.heap.size + 1) 56 (words [y0, y1, y2, y3, y4, y5, y6, y7]) (0, 0) _ rfl (set8 (a0 := 0) (a1 := 0) (a2 := 0) (a3 := 0) (a4 := 0) (a5 := 0) (a6 := 0) (a7 := 0) H2.out y0 y1 y2 y3 y4 y5 y6 y7) Tryd.underlying56 rfl (by kernel_rfl)) rfl ?_
                  exact ⟨by rw [← HSE.out, HYE.out], below8 H5.out (Nat.le_succ _) _ _ _ _ _ _ _ _⟩
end Go.Proofs.YtgaekibompacnaaDoor.QD
