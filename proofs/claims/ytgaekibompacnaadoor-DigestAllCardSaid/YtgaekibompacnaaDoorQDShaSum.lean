/- The contract of digest's Sum. -/
import Derived.Test.YtgaekibompacnaaDoorQDShaMix
import Derived.Deep.RegionHeld3
import Derived.Laws.CopyOwn
set_option linter.unusedVariables false
set_option linter.unusedSimpArgs false
namespace Go.Proofs.YtgaekibompacnaaDoor.QD
open Go.RowKit Go.Proofs.YtgaekibompacnaaDoorW.PrintWords Go.Proofs.YtgaekibompacnaaDoorW.PrintLast Go.Proofs.YtgaekibompacnaaDoorW.PrintMore
def H0 : List Int := [1779033703, 3144134277, 1013904242, 2773480762, 1359893119, 2600822924, 528734635, 1541459225]
/-- One byte more: the state, and what waits for a whole block. -/
def eat (s : List Int × List Int) (c : Int) : List Int × List Int := if (s.2 ++ [c]).length = 64 then (mixL s.1 (s.2 ++ [c]), []) else (s.1, s.2 ++ [c])
def eats (bs : List Int) : List Int × List Int := bs.foldl eat (H0, [])
theorem eats_snoc (bs : List Int) (c : Int) : eats (bs ++ [c]) = eat (eats bs) c := by simp [eats]
theorem eats_ok (bs : List Int) : (eats bs).1.length = 8 ∧ (eats bs).2.length < 64 := by
  have : ∀ (bs : List Int) (s : List Int × List Int), s.1.length = 8 ∧ s.2.length < 64 → (bs.foldl eat s).1.length = 8 ∧ (bs.foldl eat s).2.length < 64 := by
    intro bs
    induction bs with
    | nil => exact fun s h => h
    | cons c bs ih =>
      intro s h
      refine ih _ ?_
      unfold eat
      split
      · exact ⟨mixL_len h.1, by simp⟩
      · rename_i h2
        refine ⟨h.1, ?_⟩
        simp only [List.length_append, List.length_singleton] at h2 ⊢
        omega
  exact this bs _ ⟨rfl, by simp⟩
def lenOf (v : Value) : Nat := match v with | .slice _ n _ => n | _ => 0
/-- A size's bytes, the greatest first: the first j. -/
def sizeB (n j : Nat) : List Int := (List.range j).map fun k : Nat => (n : Int) * 8 / 2 ^ (56 - 8 * k) % 256
theorem sizeB_succ (n j : Nat) : sizeB n (j + 1) = sizeB n j ++ [(n : Int) * 8 / 2 ^ (56 - 8 * j) % 256] := by simp [sizeB, List.range_succ]
theorem sizeB_len (n j : Nat) : (sizeB n j).length = j := by simp [sizeB]
/-- A word's four bytes, the greatest first. -/
def b4 (x : Int) : List Int := [x / 16777216 % 256, x / 65536 % 256, x / 256 % 256, x % 256]
def outP (ys : List Int) (i : Nat) : List Int := (ys.take i).flatMap b4 ++ List.replicate (32 - 4 * i) 0
def octs (l : List Int) : Array Value := (l.map (Value.int .u8)).toArray
/-- What Sum's call has: the result, the state, what waits. -/
def SumW (w : World) (st : List Int) (v : Value) (r : List Int) (wr : World) : Prop := wr.heap[w.heap.size]? = some (.cells (octs (List.replicate 32 0)) 25 (0, 0)) ∧ wr.heap[w.heap.size + 1]? = some (.cells (words st) 56 (0, 0)) ∧ Kd.R (Kd.int .u8) 5 wr w.heap.size (fun _ => True) v r ∧ Below w.heap.size w wr
theorem SumW.drewN {w wr : World} {st r : List Int} {v : Value} (h : SumW w st v r wr) (m : Nat) : SumW w st v r (wr.drewN m) := ⟨h.1, h.2.1, Kd.R_drewN h.2.2.1 m, pw_below_drewN h.2.2.2 m⟩
theorem SumW.drew {w wr : World} {st r : List Int} {v : Value} (h : SumW w st v r wr) : SumW w st v r wr.drew := ⟨h.1, h.2.1, Kd.R_drew h.2.2.1, below_drew1 h.2.2.2⟩
theorem SumW.below {w wr W : World} {st r : List Int} {v : Value} (h : SumW w st v r wr) (hb : Below wr.heap.size wr W) : SumW w st v r W := ⟨blk_below h.1 hb, blk_below h.2.1 hb, Kd.R_below h.2.2.1 hb, below_step h.2.2.2 hb⟩
theorem SumW.alloc {w wr : World} {st r : List Int} {v : Value} (h : SumW w st v r wr) (o : Obj) : SumW w st v r (wr.alloc o) := h.below (below_alloc (Below.refl _ _) o)
theorem SumW.row {w wr : World} {st r r' : List Int} {v v' : Value} (h : SumW w st v r wr) (hr : Kd.R (Kd.int .u8) 5 wr w.heap.size (fun _ => True) v' r') : SumW w st v' r' wr := ⟨h.1, h.2.1, hr, h.2.2.2⟩
theorem SumW.set {w wr : World} {st st' r : List Int} {v u : Value} (h : SumW w st v r wr) {i : Nat} (hs : (words st).setIfInBounds i u = words st') : SumW w st' v r (wr.setCell ⟨w.heap.size + 1, i, none⟩ u) := by
  obtain ⟨h1, h2, h3, h4⟩ := h
  refine ⟨(Below.heap_setCell _ _ _ _ (by show w.heap.size ≠ w.heap.size + 1; omega)).trans h1, ?_, Kd.R_set h3 h2 (by decide) i u, h4.setCell (p := ⟨w.heap.size + 1, i, none⟩) (by show w.heap.size ≤ w.heap.size + 1; omega) u⟩
  rw [blk_set h2, hs]
theorem SumW.put8 {w W : World} {r : List Int} {v : Value} {y0 y1 y2 y3 y4 y5 y6 y7 : Int} (h : SumW w [y0, y1, y2, y3, y4, y5, y6, y7] v r W) (z0 z1 z2 z3 z4 z5 z6 z7 : Int) :
    SumW w [z0, z1, z2, z3, z4, z5, z6, z7] v r ((((((((W.setCell ⟨w.heap.size + 1, 0, none⟩ (.int .u32 z0)).setCell ⟨w.heap.size + 1, 1, none⟩ (.int .u32 z1)).setCell ⟨w.heap.size + 1, 2, none⟩ (.int .u32 z2)).setCell ⟨w.heap.size + 1, 3, none⟩ (.int .u32 z3)).setCell ⟨w.heap.size + 1, 4, none⟩ (.int .u32 z4)).setCell ⟨w.heap.size + 1, 5, none⟩ (.int .u32 z5)).setCell ⟨w.heap.size + 1, 6, none⟩ (.int .u32 z6)).setCell ⟨w.heap.size + 1, 7, none⟩ (.int .u32 z7)) := by
  have h0 := SumW.set (st' := [z0, y1, y2, y3, y4, y5, y6, y7]) h (i := 0) (u := .int .u32 z0) rfl
  have h1 := SumW.set (st' := [z0, z1, y2, y3, y4, y5, y6, y7]) h0 (i := 1) (u := .int .u32 z1) rfl
  have h2 := SumW.set (st' := [z0, z1, z2, y3, y4, y5, y6, y7]) h1 (i := 2) (u := .int .u32 z2) rfl
  have h3 := SumW.set (st' := [z0, z1, z2, z3, y4, y5, y6, y7]) h2 (i := 3) (u := .int .u32 z3) rfl
  have h4 := SumW.set (st' := [z0, z1, z2, z3, z4, y5, y6, y7]) h3 (i := 4) (u := .int .u32 z4) rfl
  have h5 := SumW.set (st' := [z0, z1, z2, z3, z4, z5, y6, y7]) h4 (i := 5) (u := .int .u32 z5) rfl
  have h6 := SumW.set (st' := [z0, z1, z2, z3, z4, z5, z6, y7]) h5 (i := 6) (u := .int .u32 z6) rfl
  have h7 := SumW.set (st' := [z0, z1, z2, z3, z4, z5, z6, z7]) h6 (i := 7) (u := .int .u32 z7) rfl
  exact h7
/-- The words of the state, told one by one. -/
def SumS (w : World) (y0 y1 y2 y3 y4 y5 y6 y7 : Int) (W : World) : Prop := W.cell? ⟨w.heap.size + 1, 0, none⟩ = some (.int .u32 y0) ∧ W.cell? ⟨w.heap.size + 1, 1, none⟩ = some (.int .u32 y1) ∧ W.cell? ⟨w.heap.size + 1, 2, none⟩ = some (.int .u32 y2) ∧ W.cell? ⟨w.heap.size + 1, 3, none⟩ = some (.int .u32 y3) ∧ W.cell? ⟨w.heap.size + 1, 4, none⟩ = some (.int .u32 y4) ∧ W.cell? ⟨w.heap.size + 1, 5, none⟩ = some (.int .u32 y5) ∧ W.cell? ⟨w.heap.size + 1, 6, none⟩ = some (.int .u32 y6) ∧ W.cell? ⟨w.heap.size + 1, 7, none⟩ = some (.int .u32 y7)
theorem SumW.cells {w W : World} {r : List Int} {v : Value} {y0 y1 y2 y3 y4 y5 y6 y7 : Int} (h : SumW w [y0, y1, y2, y3, y4, y5, y6, y7] v r W) : SumS w y0 y1 y2 y3 y4 y5 y6 y7 W :=
  ⟨(blk_cell h.2.1 0).trans rfl, (blk_cell h.2.1 1).trans rfl, (blk_cell h.2.1 2).trans rfl, (blk_cell h.2.1 3).trans rfl, (blk_cell h.2.1 4).trans rfl, (blk_cell h.2.1 5).trans rfl, (blk_cell h.2.1 6).trans rfl, (blk_cell h.2.1 7).trans rfl⟩
theorem SumW.held {w W_ : World} {r : List Int} {v : Value} {y0 y1 y2 y3 y4 y5 y6 y7 : Int} (h : SumW w [y0, y1, y2, y3, y4, y5, y6, y7] v r W_) : W_.cell? ⟨w.heap.size + 1, 0, none⟩ = some (.int .u32 y0) ∧ W_.cell? ⟨w.heap.size + 1, 1, none⟩ = some (.int .u32 y1) ∧ W_.cell? ⟨w.heap.size + 1, 2, none⟩ = some (.int .u32 y2) ∧ W_.cell? ⟨w.heap.size + 1, 3, none⟩ = some (.int .u32 y3) ∧ W_.cell? ⟨w.heap.size + 1, 4, none⟩ = some (.int .u32 y4) ∧ W_.cell? ⟨w.heap.size + 1, 5, none⟩ = some (.int .u32 y5) ∧ W_.cell? ⟨w.heap.size + 1, 6, none⟩ = some (.int .u32 y6) ∧ W_.cell? ⟨w.heap.size + 1, 7, none⟩ = some (.int .u32 y7) ∧ SumW w [y0, y1, y2, y3, y4, y5, y6, y7] v r W_ :=
  ⟨(blk_cell h.2.1 0).trans rfl, (blk_cell h.2.1 1).trans rfl, (blk_cell h.2.1 2).trans rfl, (blk_cell h.2.1 3).trans rfl, (blk_cell h.2.1 4).trans rfl, (blk_cell h.2.1 5).trans rfl, (blk_cell h.2.1 6).trans rfl, (blk_cell h.2.1 7).trans rfl, h⟩
theorem SumW.frozen {w W : World} {st r : List Int} {v : Value} (h : SumW w st v r W) (i : Nat) : W.frozen? ⟨w.heap.size + 1, i, none⟩ = false := blk_frozen h.2.1 i
theorem SumW.start (w : World) : SumW w H0 (.slice none 0 0) [] ((w.alloc (.cells (octs (List.replicate 32 0)) 25)).alloc (.cells (words H0) 56)) := by
  refine ⟨blk_alloc (blk_new w _) _, ?_, Kd.R_nil _ _ _ _ _, below_alloc (below_alloc (Below.refl _ _) _) _⟩
  have := blk_new (w.alloc (.cells (octs (List.replicate 32 0)) 25)) (.cells (words H0) 56)
  rwa [size_alloc1] at this
/-- Behind the padding: what is left is only read. -/
def SumF (w : World) (st : List Int) (A : Option Addr) (y : List Int) (wr : World) : Prop := wr.heap[w.heap.size]? = some (.cells (octs (List.replicate 32 0)) 25 (0, 0)) ∧ wr.heap[w.heap.size + 1]? = some (.cells (words st) 56 (0, 0)) ∧ Kd.F (Kd.int .u8) wr (fun k_ => k_ ≠ w.heap.size + 1) A y.length y ∧ Below w.heap.size w wr
theorem SumW.toF {w wr : World} {st y : List Int} {A : Option Addr} {n c : Nat} (h : SumW w st (.slice A n c) y wr) : SumF w st A y wr := by
  obtain ⟨h1, h2, h3, h4⟩ := h
  have hn := (Kd.R_reads' h3).1
  subst hn
  exact ⟨h1, h2, Kd.F_mono (Kd.R_F (Kd.R_types h3 h2 (by decide))) (fun k_ hk_ => hk_.2), h4⟩
theorem SumF.below {w wr W : World} {st y : List Int} {A : Option Addr} (h : SumF w st A y wr) (hb : Below wr.heap.size wr W) : SumF w st A y W := ⟨blk_below h.1 hb, blk_below h.2.1 hb, Kd.F_below h.2.2.1 hb, below_step h.2.2.2 hb⟩
theorem SumF.set {w wr : World} {st st' y : List Int} {A : Option Addr} {u : Value} (h : SumF w st A y wr) {i : Nat} (hs : (words st).setIfInBounds i u = words st') : SumF w st' A y (wr.setCell ⟨w.heap.size + 1, i, none⟩ u) := by
  obtain ⟨h1, h2, h3, h4⟩ := h
  refine ⟨(Below.heap_setCell _ _ _ _ (by show w.heap.size ≠ w.heap.size + 1; omega)).trans h1, ?_, Kd.F_far h3 (fun k_ hk_ => hk_) u, h4.setCell (p := ⟨w.heap.size + 1, i, none⟩) (by show w.heap.size ≤ w.heap.size + 1; omega) u⟩
  rw [blk_set h2, hs]
theorem SumF.put8 {w W : World} {y : List Int} {A : Option Addr} {y0 y1 y2 y3 y4 y5 y6 y7 : Int} (h : SumF w [y0, y1, y2, y3, y4, y5, y6, y7] A y W) (z0 z1 z2 z3 z4 z5 z6 z7 : Int) :
    SumF w [z0, z1, z2, z3, z4, z5, z6, z7] A y ((((((((W.setCell ⟨w.heap.size + 1, 0, none⟩ (.int .u32 z0)).setCell ⟨w.heap.size + 1, 1, none⟩ (.int .u32 z1)).setCell ⟨w.heap.size + 1, 2, none⟩ (.int .u32 z2)).setCell ⟨w.heap.size + 1, 3, none⟩ (.int .u32 z3)).setCell ⟨w.heap.size + 1, 4, none⟩ (.int .u32 z4)).setCell ⟨w.heap.size + 1, 5, none⟩ (.int .u32 z5)).setCell ⟨w.heap.size + 1, 6, none⟩ (.int .u32 z6)).setCell ⟨w.heap.size + 1, 7, none⟩ (.int .u32 z7)) := by
  have h0 := SumF.set (st' := [z0, y1, y2, y3, y4, y5, y6, y7]) h (i := 0) (u := .int .u32 z0) rfl
  have h1 := SumF.set (st' := [z0, z1, y2, y3, y4, y5, y6, y7]) h0 (i := 1) (u := .int .u32 z1) rfl
  have h2 := SumF.set (st' := [z0, z1, z2, y3, y4, y5, y6, y7]) h1 (i := 2) (u := .int .u32 z2) rfl
  have h3 := SumF.set (st' := [z0, z1, z2, z3, y4, y5, y6, y7]) h2 (i := 3) (u := .int .u32 z3) rfl
  have h4 := SumF.set (st' := [z0, z1, z2, z3, z4, y5, y6, y7]) h3 (i := 4) (u := .int .u32 z4) rfl
  have h5 := SumF.set (st' := [z0, z1, z2, z3, z4, z5, y6, y7]) h4 (i := 5) (u := .int .u32 z5) rfl
  have h6 := SumF.set (st' := [z0, z1, z2, z3, z4, z5, z6, y7]) h5 (i := 6) (u := .int .u32 z6) rfl
  have h7 := SumF.set (st' := [z0, z1, z2, z3, z4, z5, z6, z7]) h6 (i := 7) (u := .int .u32 z7) rfl
  exact h7
theorem SumF.held {w W_ : World} {y : List Int} {A : Option Addr} {y0 y1 y2 y3 y4 y5 y6 y7 : Int} (h : SumF w [y0, y1, y2, y3, y4, y5, y6, y7] A y W_) : W_.cell? ⟨w.heap.size + 1, 0, none⟩ = some (.int .u32 y0) ∧ W_.cell? ⟨w.heap.size + 1, 1, none⟩ = some (.int .u32 y1) ∧ W_.cell? ⟨w.heap.size + 1, 2, none⟩ = some (.int .u32 y2) ∧ W_.cell? ⟨w.heap.size + 1, 3, none⟩ = some (.int .u32 y3) ∧ W_.cell? ⟨w.heap.size + 1, 4, none⟩ = some (.int .u32 y4) ∧ W_.cell? ⟨w.heap.size + 1, 5, none⟩ = some (.int .u32 y5) ∧ W_.cell? ⟨w.heap.size + 1, 6, none⟩ = some (.int .u32 y6) ∧ W_.cell? ⟨w.heap.size + 1, 7, none⟩ = some (.int .u32 y7) ∧ SumF w [y0, y1, y2, y3, y4, y5, y6, y7] A y W_ :=
  ⟨(blk_cell h.2.1 0).trans rfl, (blk_cell h.2.1 1).trans rfl, (blk_cell h.2.1 2).trans rfl, (blk_cell h.2.1 3).trans rfl, (blk_cell h.2.1 4).trans rfl, (blk_cell h.2.1 5).trans rfl, (blk_cell h.2.1 6).trans rfl, (blk_cell h.2.1 7).trans rfl, h⟩
theorem SumF.frozen {w W : World} {st y : List Int} {A : Option Addr} (h : SumF w st A y W) (i : Nat) : W.frozen? ⟨w.heap.size + 1, i, none⟩ = false := blk_frozen h.2.1 i
/-- The blocks of what is left, one by one. -/
def foldB : Nat → List Int → List Int → List Int
  | 0, st, _ => st
  | k + 1, st, y => if y.length = 0 then st else foldB k (mixL st y) (y.drop 64)
theorem foldB_len : ∀ (k : Nat) (st y : List Int), st.length = 8 → (foldB k st y).length = 8
  | 0, st, y, h => h
  | k + 1, st, y, h => by
    rw [foldB]
    split
    · exact h
    · exact foldB_len k _ _ (mixL_len h)
theorem octs_size {l : List Int} (h : l.length = 32) : (octs l).size = 32 := by simp [octs, h]
theorem octs_one (l : List Int) : (octs l).all (·.oneCell') = true := by simp [octs, Value.oneCell']
def padL (r : List Int) : List Int := (r ++ [128]) ++ List.replicate ((120 - (r ++ [128]).length) % 64) 0
/-- SHA-256. -/
def shaL (bs : List Int) : List Int := outP (foldB 4 (eats bs).1 (padL (eats bs).2 ++ sizeB bs.length 8)) 8
theorem outP_len {ys : List Int} (h : ys.length = 8) : (outP ys 8).length = 32 := by
  obtain ⟨a, b, c, d, e, f, g, k, rfl⟩ := eight_of h
  rfl
theorem shaL_len (bs : List Int) : (shaL bs).length = 32 := outP_len (foldB_len _ _ _ (eats_ok bs).1)
set_option maxRecDepth 100000 in
set_option maxHeartbeats 8000000 in
theorem sum_calls (A : Option Addr) (c : Nat) (xs : List (List Int)) (w : World) (hk : Laid w) (hr : Kd.C (Kd.slice 5 (Kd.int .u8)) w A xs.length xs) (hc : xs.length ≤ c) (hl : xs.length ≤ 1000000) (hs : xs.flatten.length ≤ 1000000) :
    Calls Tryd.prog 11 #[.slice A xs.length c] w fun en w' => en = .returned (.agg (octs (shaL xs.flatten))) ∧ Below w.heap.size w w' := by
  have HK : Aside0 (∀ W : World, Below w.heap.size w W → Laid W) := ⟨fun W hW => hk.below hW⟩
  have HR := Aside0.mk hr
  clear hk hr
  go_enter Tryd.func11, Tryd.ntmps11
  go_wp2
  go_loopw [4, 5, 17] (fun v4 v5 v17 wr => ∃ (i n : Nat) (st r : List Int), i ≤ xs.length ∧ v17 = .int .i64 (i : Int) ∧ v5 = .int .u64 (n : Int) ∧ Aside0 (n = (xs.take i).flatten.length) ∧ Aside0 (eats (xs.take i).flatten = (st, r)) ∧ Aside0 (SumW w st v4 r wr)) (fun _ _ v17 _ => xs.length - (intOf v17).toNat)
  case atStart => exact ⟨0, 0, H0, [], by omega, rfl, rfl, ⟨rfl⟩, ⟨rfl⟩, ⟨SumW.start w⟩⟩
  case round =>
    obtain ⟨i, n, st, r, hi, rfl, rfl, HN, HE, HM⟩ := hrel
    by_cases hlt : i < xs.length
    · have hil : decide ((i : Int) < (xs.length : Int)) = true := by simp; omega
      obtain ⟨ad, Ap, cp, ea, hx, hlp, hip⟩ := at_L1 HR.out (i : Int) (by omega) (by omega)
      cases ea
      have hrd : rd_L1 xs i = xs[i] := by simp [rd_L1, List.getD_eq_getElem?_getD, List.getElem?_eq_getElem hlt]
      rw [hrd] at hx hlp hip
      obtain ⟨p, hp⟩ : ∃ p_, p_ = xs[i] := ⟨_, rfl⟩
      rw [← hp] at hx hlp hip
      rw [Int.toNat_natCast] at hx
      have HCX := Aside0.mk hx
      have hx2 := pw_cell_below HM.out.2.2.2 hx
      have HPC := Aside0.mk hip
      have HPc := Aside0.mk hlp
      have htk : (xs.take (i + 1)).flatten = (xs.take i).flatten ++ p := by rw [List.take_succ_eq_append_getElem hlt, List.flatten_append, List.flatten_singleton, hp]
      have hfl : (xs.take (i + 1)).flatten.length ≤ xs.flatten.length := by
        have h1 : (xs.take (i + 1)).flatten ++ (xs.drop (i + 1)).flatten = xs.flatten := by rw [← List.flatten_append, List.take_append_drop]
        rw [← h1, List.length_append]; omega
      rw [htk, List.length_append] at hfl
      obtain ⟨pre, hpre⟩ : ∃ p_, p_ = (xs.take i).flatten := ⟨_, rfl⟩
      rw [← hpre] at htk hfl HE HN
      have HTK := Aside0.mk htk
      have HFL : Aside0 (pre.length + p.length ≤ 1000000) := ⟨by omega⟩
      have hn := HN.out
      obtain ⟨nz, hnz⟩ : ∃ n_, n_ = n + p.length := ⟨_, rfl⟩
      have HNZ : Aside0 (nz = (xs.take (i + 1)).flatten.length) := ⟨by rw [htk, List.length_append, hnz, hn]⟩
      have HWS0 : Aside0 (IntKind.u64.wrap ((n : Int) + (p.length : Int)) = (nz : Int)) := ⟨by rw [OctetMath.wrap_u64 (by omega) (by omega)]; omega⟩
      have HWP0 : Aside0 (IntKind.u64.wrap (p.length : Int) = (p.length : Int)) := ⟨OctetMath.wrap_u64 (by omega) (by omega)⟩
      have HWR0 : Aside0 (wrap64 ((i : Int) + 1) = ((i + 1 : Nat) : Int)) := ⟨(OctetMath.wrap64_id (by omega) (by omega)).trans (by omega)⟩
      have hip0 : (0 ≤ (i : Int)) := by omega
      have hiq0 : ((i : Int) < (xs.length : Int)) := by omega
      have HLT := Aside0.mk hlt
      clear hx hip hlp hrd hp htk hfl hpre hlt hi hn hnz HN
      have HWS := HWS0.out
      have HWP := HWP0.out
      go_wp2
      go_loopw [4, 28] (fun v4 v28 wr => ∃ (j : Nat) (st r : List Int), j ≤ p.length ∧ v28 = .int .i64 (j : Int) ∧ Aside0 (eats (pre ++ p.take j) = (st, r)) ∧ Aside0 (SumW w st v4 r wr)) (fun _ v28 _ => p.length - (intOf v28).toNat)
      case atStart => exact ⟨0, st, r, by omega, rfl, ⟨by rw [List.take_zero, List.append_nil]; exact HE.out⟩, HM⟩
      case round =>
        clear HM HE hx2
        obtain ⟨j, st, r, hj, rfl, HE, HM⟩ := hrel
        by_cases hjl : j < p.length
        · have hjd : decide ((j : Int) < (p.length : Int)) = true := by simp; omega
          have hcb := Kd.C_below HPC.out HM.out.2.2.2
          obtain ⟨adp, eap, hxp⟩ := Kd.at_int hcb (j : Int) (by omega) (by omega)
          have hpfl := HFL.out
          have hok : st.length = 8 ∧ r.length < 64 := by
            have h_ := eats_ok (pre ++ p.take j)
            rw [HE.out] at h_
            exact h_
          obtain ⟨cc, hcc⟩ : ∃ c_, c_ = rd p j := ⟨_, rfl⟩
          rw [← hcc, Int.toNat_natCast] at hxp
          obtain ⟨r2, hr2⟩ : ∃ r_, r_ = r ++ [cc] := ⟨_, rfl⟩
          have hpt : p.take (j + 1) = p.take j ++ [cc] := by rw [List.take_succ_eq_append_getElem hjl, hcc]; simp [rd, List.getD_eq_getElem?_getD, List.getElem?_eq_getElem hjl]
          have HE2 : Aside0 (eats (pre ++ p.take (j + 1)) = eat (st, r) cc) := ⟨by rw [hpt, ← List.append_assoc, eats_snoc, HE.out]⟩
          have HAL : Aside0 ((r.length + 1) * 1 ≤ 140737488355328) := ⟨by omega⟩
          have HST := Aside0.mk hok.1
          have HRL : Aside0 (r2.length = r.length + 1 ∧ r.length < 64) := ⟨by rw [hr2]; simp, hok.2⟩
          have HR2 := Aside0.mk hr2
          have HWJ0 : Aside0 (wrap64 ((j : Int) + 1) = ((j + 1 : Nat) : Int)) := ⟨(OctetMath.wrap64_id (by omega) (by omega)).trans (by omega)⟩
          have hjp0 : (0 ≤ (j : Int)) := by omega
          have hjq0 : ((j : Int) < (p.length : Int)) := by omega
          have HNA := Aside0.mk (Kd.R_ne HM.out.2.2.1 HM.out.1 (by decide))
          have HNB := Aside0.mk (Kd.R_ne HM.out.2.2.1 HM.out.2.1 (by decide))
          have HJL := Aside0.mk hjl
          by_cases h64 : r2.length = 64
          · have hq : ((r2.length : Int) == 64) = true := by simp; omega
            have HE3 : Aside0 (eat (st, r) cc = (mixL st r2, [])) := ⟨by unfold eat; rw [if_pos (by rw [← hr2]; exact h64), ← hr2]⟩
            have H64 := Aside0.mk h64
            clear hcb hpfl hok hcc hr2 hpt hjl hj h64
            subst eap
            obtain ⟨y0, y1, y2, y3, y4, y5, y6, y7, rfl⟩ := eight_of HST.out
            obtain ⟨z0, z1, z2, z3, z4, z5, z6, z7, hz⟩ := eight_of (mixL_len (b := r2) HST.out)
            have HZ := Aside0.mk hz
            clear hz
            go_wp2_with (first | ((with_reducible refine gate_builtin (b := .append) (xs := #[.tmp 32, .tmp 34]) rfl ?_); at_builtin; refine Kd.R_append (Kd.int .u8) (w0 := w) w.heap.size rfl (.tmp 32) (.tmp 34) 22 5 (.int .u8 0) 1 rfl Tryd.underlying22 info5 rfl (by decide) (by omega) u4 r cc [.int .u8 cc] (fun _ => True) (fun _ => False) rfl rfl ?aP (fun _ hk => hk.elim) ?aF ?aO ?aB ?aS ?aL ?_; (case aP => exact rfl); (case aF => exact fun _ _ => trivial); (case aO => exact (by (with_reducible repeat (first | apply Kd.R_alloc | apply Kd.R_drewN | apply Kd.R_drew)); exact HM.out.2.2.1)); (case aB => exact (by repeat (first | (with_reducible first | exact HM.out.2.2.2 | apply below_alloc | apply pw_below_drewN | apply below_drew1) | exact HM.out.2.2.2))); (case aS => exact below_size (by repeat (first | (with_reducible first | exact HM.out.2.2.2 | apply below_alloc | apply pw_below_drewN | apply below_drew1) | exact HM.out.2.2.2))); (case aL => exact HAL.out); intro v35 w35 ho hb hgr hat; have HM2 : Aside0 (SumW w _ v35 r2 w35) := ⟨blk_grown HM.out.1 hgr HNA.out, blk_grown HM.out.2.1 hgr HNB.out, by rw [HR2.out]; exact ho, hb⟩; clear HM ho hb hgr hat; obtain ⟨A35, c35, e35⟩ := Kd.R_slice HM2.out.2.2.1; subst e35))
            obtain ⟨c0, c1, c2, c3, c4, c5, c6, c7, _⟩ := HM2.out.held
            refine wp_region_held_drew (S := (fun W_ => ∃ st_, SumW w st_ (.slice A35 r2.length c35) r2 W_)) (by kernel_rfl) (by (try dsimp only); first | exact ⟨_, HM4.out⟩ | exact ⟨_, HM3.out⟩ | exact ⟨_, HM2.out⟩ | exact ⟨_, HM2.out.drew⟩ | exact ⟨_, HM3.out.drew⟩ | exact ⟨_, HM4.out.drew⟩) (fun hHeld => ?_)
            refine wpAnyH_take (i := 1) (v := ?_) rfl (by kernel_rfl) (by kernel_rfl) (by kernel_rfl) (fun _ _ _ h => h) (Or.inl ⟨by rfl, ?_⟩) (by assumption) ?_
            rotate_left
            · ((intro w hSw; (try dsimp only at hSw); go_simp) <;> with_reducible rfl)
            try simp only [Act.put, List.setIfInBounds_toArray, List.set_cons_zero, List.set_cons_succ]
            refine wpAnyH_take (i := 3) (v := ?_) rfl (by kernel_rfl) (by kernel_rfl) (by kernel_rfl) (fun _ _ _ h => h) (Or.inl ⟨by rfl, ?_⟩) (by assumption) ?_
            rotate_left
            · ((intro w hSw; (try dsimp only at hSw); go_simp) <;> with_reducible rfl)
            try simp only [Act.put, List.setIfInBounds_toArray, List.set_cons_zero, List.set_cons_succ]
            refine wpAnyH_take (i := 4) (v := ?_) rfl (by kernel_rfl) (by kernel_rfl) (by kernel_rfl) (fun _ _ _ h => h) (Or.inl ⟨by rfl, ?_⟩) (by assumption) ?_
            rotate_left
            · ((intro w hSw; (try dsimp only at hSw); go_simp) <;> with_reducible rfl)
            try simp only [Act.put, List.setIfInBounds_toArray, List.set_cons_zero, List.set_cons_succ]
            refine wpAnyH_ready (rs := [0]) (by kernel_rfl) (by simp) (AllReadyH.cons rfl (fun K hK => ?_) AllReadyH.nil)
            go_simp
            refine hK.out _ _ (by (try dsimp only); first | exact ⟨_, HM4.out⟩ | exact ⟨_, HM3.out⟩ | exact ⟨_, HM2.out⟩ | exact ⟨_, HM2.out.drew⟩ | exact ⟨_, HM3.out.drew⟩ | exact ⟨_, HM4.out.drew⟩) (fun hHeld2 => ?_)
            clear hK K hHeld
            have hHeld := hHeld2
            clear hHeld2
            try simp only [Act.put, List.setIfInBounds_toArray, List.set_cons_zero, List.set_cons_succ]
            refine wpAnyH_ready (rs := [2]) (by kernel_rfl) (by simp) (AllReadyH.cons rfl (fun K hK => ?_) AllReadyH.nil)
            go_simp
            go_wp2_with (first | (go_at_call 28; refine (mix_calls [y0, y1, y2, y3, y4, y5, y6, y7] A35 c35 r2 _ ((HK.out _ (by repeat (first | exact HM2.out.2.2.2 | apply below_drew1 | apply pw_below_drewN)))) HST.out ?s1 ?s2 (Nat.le_of_eq H64.out.symm)).mono ?_; (case s1 => exact (Kd.R_reads' (show Kd.R (Kd.int .u8) 5 _ w.heap.size (fun _ => True) (.slice A35 r2.length c35) r2 from by (with_reducible repeat (first | apply Kd.R_drewN | apply Kd.R_drew)); exact HM2.out.2.2.1)).2.2); (case s2 => exact (Kd.R_reads' HM2.out.2.2.1).2.1); rintro en wm ⟨rfl, hb⟩; rw [HZ.out]; have HM3 := Aside0.mk (SumW.below (wr := _) (by first | exact HM2.out | exact HM2.out.drew | exact HM2.out.drewN _) hb); rw [show words [z0, z1, z2, z3, z4, z5, z6, z7] = #[.int .u32 z0, .int .u32 z1, .int .u32 z2, .int .u32 z3, .int .u32 z4, .int .u32 z5, .int .u32 z6, .int .u32 z7] from rfl]))
            refine hK.out _ _ (by (try dsimp only); first | exact ⟨_, HM4.out⟩ | exact ⟨_, HM3.out⟩ | exact ⟨_, HM2.out⟩ | exact ⟨_, HM2.out.drew⟩ | exact ⟨_, HM3.out.drew⟩ | exact ⟨_, HM4.out.drew⟩) (fun hHeld2 => ?_)
            clear hK K hHeld
            have hHeld := hHeld2
            clear hHeld2
            try simp only [Act.put, List.setIfInBounds_toArray, List.set_cons_zero, List.set_cons_succ]
            obtain ⟨d0, d1, d2, d3, d4, d5, d6, d7, _⟩ := HM3.out.held
            have f0 := HM3.out.frozen 0
            have f1 := HM3.out.frozen 1
            have f2 := HM3.out.frozen 2
            have f3 := HM3.out.frozen 3
            have f4 := HM3.out.frozen 4
            have f5 := HM3.out.frozen 5
            have f6 := HM3.out.frozen 6
            have f7 := HM3.out.frozen 7
            have HM4 := Aside0.mk (HM3.out.put8 z0 z1 z2 z3 z4 z5 z6 z7)
            refine wpAnyH_ready (rs := [5]) (by kernel_rfl) (by simp) (AllReadyH.cons rfl (fun K hK => ?_) AllReadyH.nil)
            go_simp
            refine hK.out _ _ (by (try dsimp only); first | exact ⟨_, HM4.out⟩ | exact ⟨_, HM3.out⟩ | exact ⟨_, HM2.out⟩ | exact ⟨_, HM2.out.drew⟩ | exact ⟨_, HM3.out.drew⟩ | exact ⟨_, HM4.out.drew⟩) (fun hHeld2 => ?_)
            clear hK K hHeld
            have hHeld := hHeld2
            clear hHeld2
            try simp only [Act.put, List.setIfInBounds_toArray, List.set_cons_zero, List.set_cons_succ]
            refine wpAnyH_take (i := 6) (v := ?_) rfl (by kernel_rfl) (by kernel_rfl) (by kernel_rfl) (fun _ _ _ h => h) (Or.inl ⟨by rfl, ?_⟩) (by assumption) ?_
            rotate_left
            · ((intro w hSw; (try dsimp only at hSw); go_simp) <;> with_reducible rfl)
            try simp only [Act.put, List.setIfInBounds_toArray, List.set_cons_zero, List.set_cons_succ]
            refine wpAnyH_done (by kernel_rfl) ?_ _
            have HWJ := HWJ0.out
            have HM5 := Aside0.mk (SumW.row (r' := []) (v' := .slice A35 0 c35) HM4.out (by have h_ := Kd.R_take (m := 0) HM4.out.2.2.1 (Nat.zero_le _); simpa using h_))
            clear HM2 HM3 HM4 c0 c1 c2 c3 c4 c5 c6 c7 d0 d1 d2 d3 d4 d5 d6 d7 f0 f1 f2 f3 f4 f5 f6 f7 hHeld
            generalize ((((((((wm.setCell ⟨w.heap.size + 1, 0, none⟩ (.int .u32 z0)).setCell ⟨w.heap.size + 1, 1, none⟩ (.int .u32 z1)).setCell ⟨w.heap.size + 1, 2, none⟩ (.int .u32 z2)).setCell ⟨w.heap.size + 1, 3, none⟩ (.int .u32 z3)).setCell ⟨w.heap.size + 1, 4, none⟩ (.int .u32 z4)).setCell ⟨w.heap.size + 1, 5, none⟩ (.int .u32 z5)).setCell ⟨w.heap.size + 1, 6, none⟩ (.int .u32 z6)).setCell ⟨w.heap.size + 1, 7, none⟩ (.int .u32 z7)) = w9 at *
            go_wp2
            go_roundw
            case rel => exact ⟨j + 1, _, [], HJL.out, by first | rfl | (congr 1), ⟨HE2.out.trans (HE3.out.trans (by rw [HZ.out]))⟩, HM5⟩
            case measure => first | (rw [HWJ]; exact Nat.sub_lt_sub_left HJL.out (Nat.lt_succ_self j)) | (exact Nat.sub_lt_sub_left HJL.out (Nat.lt_succ_self j))
          · have hq : ((r2.length : Int) == 64) = false := by simp; omega
            have HE3 : Aside0 (eat (st, r) cc = (st, r2)) := ⟨by unfold eat; rw [if_neg (by rw [← hr2]; exact h64), ← hr2]⟩
            clear hcb hpfl hok hcc hr2 hpt hjl hj h64
            subst eap
            go_wp2_with (first | ((with_reducible refine gate_builtin (b := .append) (xs := #[.tmp 32, .tmp 34]) rfl ?_); at_builtin; refine Kd.R_append (Kd.int .u8) (w0 := w) w.heap.size rfl (.tmp 32) (.tmp 34) 22 5 (.int .u8 0) 1 rfl Tryd.underlying22 info5 rfl (by decide) (by omega) u4 r cc [.int .u8 cc] (fun _ => True) (fun _ => False) rfl rfl ?aP (fun _ hk => hk.elim) ?aF ?aO ?aB ?aS ?aL ?_; (case aP => exact rfl); (case aF => exact fun _ _ => trivial); (case aO => exact (by (with_reducible repeat (first | apply Kd.R_alloc | apply Kd.R_drewN | apply Kd.R_drew)); exact HM.out.2.2.1)); (case aB => exact (by repeat (first | (with_reducible first | exact HM.out.2.2.2 | apply below_alloc | apply pw_below_drewN | apply below_drew1) | exact HM.out.2.2.2))); (case aS => exact below_size (by repeat (first | (with_reducible first | exact HM.out.2.2.2 | apply below_alloc | apply pw_below_drewN | apply below_drew1) | exact HM.out.2.2.2))); (case aL => exact HAL.out); intro v35 w35 ho hb hgr hat; have HM2 : Aside0 (SumW w _ v35 r2 w35) := ⟨blk_grown HM.out.1 hgr HNA.out, blk_grown HM.out.2.1 hgr HNB.out, by rw [HR2.out]; exact ho, hb⟩; clear HM ho hb hgr hat; obtain ⟨A35, c35, e35⟩ := Kd.R_slice HM2.out.2.2.1; subst e35))
            have HWJ := HWJ0.out
            go_roundw
            case rel => exact ⟨j + 1, st, r2, HJL.out, by first | rfl | (congr 1), ⟨HE2.out.trans HE3.out⟩, HM2⟩
            case measure => first | (rw [HWJ]; exact Nat.sub_lt_sub_left HJL.out (Nat.lt_succ_self j)) | (exact Nat.sub_lt_sub_left HJL.out (Nat.lt_succ_self j))
        · have hjd : decide ((j : Int) < (p.length : Int)) = false := by simp; omega
          obtain rfl : j = p.length := by omega
          rw [List.take_length] at HE
          have HE2 : Aside0 (eats (xs.take (i + 1)).flatten = (st, r)) := ⟨by rw [HTK.out]; exact HE.out⟩
          have HWR := HWR0.out
          go_wp2
          go_roundw
          case rel => exact ⟨i + 1, nz, st, r, HLT.out, by first | rfl | (congr 1), rfl, HNZ, HE2, HM⟩
          case measure => first | (rw [HWR]; exact Nat.sub_lt_sub_left HLT.out (Nat.lt_succ_self i)) | (exact Nat.sub_lt_sub_left HLT.out (Nat.lt_succ_self i))
    · have hil : decide ((i : Int) < (xs.length : Int)) = false := by simp; omega
      obtain rfl : i = xs.length := by omega
      rw [List.take_length] at HE HN
      have hok : st.length = 8 ∧ r.length < 64 := by
        have h_ := eats_ok xs.flatten
        rw [HE.out] at h_
        exact h_
      have hn := HN.out
      obtain ⟨q, hq⟩ : ∃ q_, q_ = r ++ [128] := ⟨_, rfl⟩
      have hql : q.length = r.length + 1 := by rw [hq]; simp
      have HQE := Aside0.mk hq
      have HST := Aside0.mk hok.1
      have HQL : Aside0 (1 ≤ q.length ∧ q.length ≤ 64) := ⟨by omega⟩
      have HNL : Aside0 (n ≤ 1000000) := ⟨by omega⟩
      have HAL : Aside0 ((r.length + 1) * 1 ≤ 140737488355328) := ⟨by omega⟩
      have HNA := Aside0.mk (Kd.R_ne HM.out.2.2.1 HM.out.1 (by decide))
      have HNB := Aside0.mk (Kd.R_ne HM.out.2.2.1 HM.out.2.1 (by decide))
      clear hok hn hq hql hi hlt
      go_wp2_with (first | ((with_reducible refine gate_builtin (b := .append) (xs := #[.tmp 46, .tmp 47]) rfl ?_); at_builtin; refine Kd.R_append (Kd.int .u8) (w0 := w) w.heap.size rfl (.tmp 46) (.tmp 47) 22 5 (.int .u8 0) 1 rfl Tryd.underlying22 info5 rfl (by decide) (by omega) u4 r 128 [.int .u8 128] (fun _ => True) (fun _ => False) rfl rfl ?aP (fun _ hk => hk.elim) ?aF ?aO ?aB ?aS ?aL ?_; (case aP => exact rfl); (case aF => exact fun _ _ => trivial); (case aO => exact (by (with_reducible repeat (first | apply Kd.R_alloc | apply Kd.R_drewN | apply Kd.R_drew)); exact HM.out.2.2.1)); (case aB => exact (by repeat (first | (with_reducible first | exact HM.out.2.2.2 | apply below_alloc | apply pw_below_drewN | apply below_drew1) | exact HM.out.2.2.2))); (case aS => exact below_size (by repeat (first | (with_reducible first | exact HM.out.2.2.2 | apply below_alloc | apply pw_below_drewN | apply below_drew1) | exact HM.out.2.2.2))); (case aL => exact HAL.out); intro v48 w48 ho hb hgr hat; have HM2 : Aside0 (SumW w _ v48 q w48) := ⟨blk_grown HM.out.1 hgr HNA.out, blk_grown HM.out.2.1 hgr HNB.out, by rw [HQE.out]; exact ho, hb⟩; clear HM ho hb hgr hat))
      go_loopw [4] (fun v4 wr => ∃ (j : Nat), j ≤ (120 - q.length) % 64 ∧ Aside0 (SumW w st v4 (q ++ List.replicate j 0) wr)) (fun v4 _ => (120 - q.length) % 64 + q.length - lenOf v4)
      case atStart => exact ⟨0, Nat.zero_le _, ⟨by rw [List.replicate_zero, List.append_nil]; exact HM2.out⟩⟩
      case round =>
        clear HM2
        obtain ⟨j, hj, HM⟩ := hrel
        obtain ⟨s, hs⟩ : ∃ s_, s_ = q ++ List.replicate j 0 := ⟨_, rfl⟩
        have hsl : s.length = q.length + j := by rw [hs]; simp
        rw [← hs] at HM
        obtain ⟨A4, c4, e4⟩ := Kd.R_slice HM.out.2.2.1
        have hq1 := HQL.out
        by_cases hjl : j < (120 - q.length) % 64
        · obtain ⟨tm, htm⟩ : ∃ x_, x_ = Int.tmod (s.length : Int) 64 := ⟨_, rfl⟩
          have htm2 : (tm != 56) = true := by
            rw [bne_iff_ne, htm, Int.tmod_eq_emod_of_nonneg (by omega)]
            omega
          have htm3 : Int.tmod (s.length : Int) 64 = tm := htm.symm
          obtain ⟨s2, hs2⟩ : ∃ s_, s_ = s ++ [0] := ⟨_, rfl⟩
          have HS2 := Aside0.mk hs2
          have HS3 : Aside0 (q ++ List.replicate (j + 1) 0 = s2) := ⟨by rw [hs2, hs, List.replicate_succ', List.append_assoc]⟩
          have HAL2 : Aside0 ((s.length + 1) * 1 ≤ 140737488355328) := ⟨by omega⟩
          have HNA := Aside0.mk (Kd.R_ne HM.out.2.2.1 HM.out.1 (by decide))
          have HNB := Aside0.mk (Kd.R_ne HM.out.2.2.1 HM.out.2.1 (by decide))
          have HJL := Aside0.mk hjl
          have HSL := Aside0.mk hsl
          have HS2L : Aside0 (s2.length = s.length + 1) := ⟨by rw [hs2]; simp⟩
          clear hjl hs hsl hs2 hq1 hj htm
          subst e4
          go_wp2_with (first | ((with_reducible refine gate_builtin (b := .append) (xs := #[.tmp 53, .tmp 54]) rfl ?_); at_builtin; refine Kd.R_append (Kd.int .u8) (w0 := w) w.heap.size rfl (.tmp 53) (.tmp 54) 22 5 (.int .u8 0) 1 rfl Tryd.underlying22 info5 rfl (by decide) (by omega) (.slice A4 s.length c4) s 0 [.int .u8 0] (fun _ => True) (fun _ => False) rfl rfl ?aP (fun _ hk => hk.elim) ?aF ?aO ?aB ?aS ?aL ?_; (case aP => exact rfl); (case aF => exact fun _ _ => trivial); (case aO => exact (by (with_reducible repeat (first | apply Kd.R_alloc | apply Kd.R_drewN | apply Kd.R_drew)); exact HM.out.2.2.1)); (case aB => exact (by repeat (first | (with_reducible first | exact HM.out.2.2.2 | apply below_alloc | apply pw_below_drewN | apply below_drew1) | exact HM.out.2.2.2))); (case aS => exact below_size (by repeat (first | (with_reducible first | exact HM.out.2.2.2 | apply below_alloc | apply pw_below_drewN | apply below_drew1) | exact HM.out.2.2.2))); (case aL => exact HAL2.out); intro v55 w55 ho hb hgr hat; have HM2 : Aside0 (SumW w _ v55 s2 w55) := ⟨blk_grown HM.out.1 hgr HNA.out, blk_grown HM.out.2.1 hgr HNB.out, by rw [HS2.out]; exact ho, hb⟩; clear HM ho hb hgr hat))
          obtain ⟨A5, c5, e5⟩ := Kd.R_slice HM2.out.2.2.1
          subst e5
          go_wp2
          go_roundw
          case rel => exact ⟨j + 1, HJL.out, ⟨by rw [HS3.out]; exact HM2.out⟩⟩
          case measure => have h1_ := HJL.out; have h2_ := HSL.out; have h3_ := HS2L.out; show (120 - q.length) % 64 + q.length - s2.length < (120 - q.length) % 64 + q.length - s.length; omega
        · have hj2 : j = (120 - q.length) % 64 := by omega
          have htm2 : Int.tmod (s.length : Int) 64 = 56 := by
            rw [Int.tmod_eq_emod_of_nonneg (by omega)]
            omega
          obtain ⟨pd, hpd⟩ : ∃ s_, s_ = s := ⟨_, rfl⟩
          have HPD : Aside0 (pd = q ++ List.replicate ((120 - q.length) % 64) 0) := ⟨by rw [hpd, hs, hj2]⟩
          have HPL : Aside0 (pd.length % 64 = 56 ∧ pd.length ≤ 200) := ⟨by rw [hpd]; omega⟩
          rw [← hpd] at HM e4 htm2
          clear hs hsl hj2 hjl hj hq1 hpd
          subst e4
          go_wp2
          go_loopw [4, 10] (fun v4 v10 wr => ∃ (j : Nat), j ≤ 8 ∧ v10 = .int .i64 (56 - 8 * (j : Int)) ∧ Aside0 (SumW w st v4 (pd ++ sizeB n j) wr)) (fun _ v10 _ => (8 + intOf v10).toNat)
          case atStart => exact ⟨0, by omega, rfl, ⟨by have := HM.out; simpa [sizeB] using this⟩⟩
          case round =>
            clear HM htm2
            obtain ⟨j, hj, rfl, HM⟩ := hrel
            obtain ⟨sh, hsh⟩ : ∃ x_ : Int, x_ = 56 - 8 * (j : Int) := ⟨_, rfl⟩
            rw [← hsh]
            by_cases hjl : j < 8
            · have hg : decide ((0 : Int) ≤ sh) = true := by simp; omega
              have hg2 : (0 : Int) ≤ sh := by omega
              have hg3 : sh < 64 := by omega
              have hn := HNL.out
              obtain ⟨n8, hn8⟩ : ∃ x_ : Int, x_ = (n : Int) * 8 := ⟨_, rfl⟩
              have HW1 : Aside0 (IntKind.u64.wrap ((n : Int) * 8) = n8) := ⟨by rw [OctetMath.wrap_u64 (by omega) (by omega), hn8]⟩
              have HW2 : Aside0 (IntKind.u64.wrap sh = sh) := ⟨OctetMath.wrap_u64 (by omega) (by omega)⟩
              have HW3 : Aside0 (wrap64 (sh - 8) = sh - 8) := ⟨OctetMath.wrap64_id (by omega) (by omega)⟩
              have hw1 := HW1.out
              have hw2 := HW2.out
              have HJ := Aside0.mk hsh
              obtain ⟨s, hs⟩ : ∃ s_, s_ = pd ++ sizeB n j := ⟨_, rfl⟩
              obtain ⟨s2, hs2⟩ : ∃ s_, s_ = s ++ [n8 / 2 ^ sh.toNat % 256] := ⟨_, rfl⟩
              have HS2 := Aside0.mk hs2
              have HS3 : Aside0 (pd ++ sizeB n (j + 1) = s2) := ⟨by rw [hs2, hs, sizeB_succ, List.append_assoc, hn8, show sh.toNat = 56 - 8 * j by omega]⟩
              have hpl := HPL.out
              have HAL2 : Aside0 ((s.length + 1) * 1 ≤ 140737488355328) := ⟨by rw [hs, List.length_append, sizeB_len]; omega⟩
              rw [← hs] at HM
              have HNA := Aside0.mk (Kd.R_ne HM.out.2.2.1 HM.out.1 (by decide))
              have HNB := Aside0.mk (Kd.R_ne HM.out.2.2.1 HM.out.2.1 (by decide))
              have HJL := Aside0.mk hjl
              have HWV : Aside0 (sh - 8 = 56 - 8 * ((j + 1 : Nat) : Int)) := ⟨by omega⟩
              clear hn hn8 hjl hj hsh hs hs2 hpl
              go_wp2_with (first | ((with_reducible refine gate_builtin (b := .append) (xs := #[.tmp 60, .tmp 67]) rfl ?_); at_builtin; refine Kd.R_append (Kd.int .u8) (w0 := w) w.heap.size rfl (.tmp 60) (.tmp 67) 22 5 (.int .u8 0) 1 rfl Tryd.underlying22 info5 rfl (by decide) (by omega) u4 s (n8 / 2 ^ sh.toNat % 256) [.int .u8 (n8 / 2 ^ sh.toNat % 256)] (fun _ => True) (fun _ => False) rfl rfl ?aP (fun _ hk => hk.elim) ?aF ?aO ?aB ?aS ?aL ?_; (case aP => exact rfl); (case aF => exact fun _ _ => trivial); (case aO => exact (by (with_reducible repeat (first | apply Kd.R_alloc | apply Kd.R_drewN | apply Kd.R_drew)); exact HM.out.2.2.1)); (case aB => exact (by repeat (first | (with_reducible first | exact HM.out.2.2.2 | apply below_alloc | apply pw_below_drewN | apply below_drew1) | exact HM.out.2.2.2))); (case aS => exact below_size (by repeat (first | (with_reducible first | exact HM.out.2.2.2 | apply below_alloc | apply pw_below_drewN | apply below_drew1) | exact HM.out.2.2.2))); (case aL => exact HAL2.out); intro v68 w68 ho hb hgr hat; have HM2 : Aside0 (SumW w _ v68 s2 w68) := ⟨blk_grown HM.out.1 hgr HNA.out, blk_grown HM.out.2.1 hgr HNB.out, by rw [HS2.out]; exact ho, hb⟩; clear HM ho hb hgr hat))
              have HW3_ := HW3.out
              go_wp2
              go_roundw
              case rel => exact ⟨j + 1, HJL.out, by rw [← HWV.out], ⟨by rw [HS3.out]; exact HM2.out⟩⟩
              case measure => have h1_ := HJ.out; have h2_ := HJL.out; show (8 + (sh - 8)).toNat < (8 + sh).toNat; clear hw1 hw2 HW3_; omega
            · have hg : decide ((0 : Int) ≤ sh) = false := by simp; omega
              have hj8 : j = 8 := by omega
              subst hj8
              clear hsh hjl hj
              go_wp2
              obtain ⟨full, hfull⟩ : ∃ s_, s_ = pd ++ sizeB n 8 := ⟨_, rfl⟩
              have hfl : full.length = pd.length + 8 := by rw [hfull, List.length_append, sizeB_len]
              have hpl := HPL.out
              have HFE := Aside0.mk hfull
              rw [← hfull] at HM
              obtain ⟨A4, c4, e4⟩ := Kd.R_slice HM.out.2.2.1
              have hc4 := HM.out.2.2.1
              rw [e4] at hc4
              have HC4 := Aside0.mk (Kd.R_reads' hc4).2.1
              rw [e4] at HM
              have HF0 := Aside0.mk HM.out.toF
              have HL0 : Aside0 (full.length % 64 = 0 ∧ full.length ≤ 208) := ⟨by omega⟩
              subst e4
              clear HM hc4 hfull hfl hpl
              go_loopw [4] (fun v4 wr => ∃ (m : Nat) (y sj : List Int) (Ab : Option Addr) (cb : Nat), v4 = .slice Ab y.length cb ∧ Aside0 (foldB m sj y = foldB 4 st full) ∧ Aside0 (y.length % 64 = 0 ∧ y.length ≤ 64 * m) ∧ Aside0 (sj.length = 8) ∧ Aside0 (y.length ≤ cb) ∧ Aside0 (SumF w sj Ab y wr)) (fun v4 _ => lenOf v4)
              case atStart => exact ⟨4, full, st, A4, c4, rfl, ⟨rfl⟩, ⟨by have := HL0.out; omega⟩, HST, HC4, HF0⟩
              case round =>
                clear HF0 HC4
                obtain ⟨m, y, sj, Ab, cb, rfl, HFO, HYL, HSL, HCB, HF⟩ := hrel
                have hyl := HYL.out
                by_cases hy : y.length = 0
                · have hg : decide ((0 : Int) < (y.length : Int)) = false := decide_eq_false (by omega)
                  have hg2 : decide (0 < y.length) = false := decide_eq_false (by omega)
                  have hfo := HFO.out
                  have HRES : Aside0 (sj = foldB 4 st full) := ⟨by
                    rw [← hfo]
                    cases m with
                    | zero => rfl
                    | succ m => rw [foldB, if_pos hy]⟩
                  clear hyl hfo
                  obtain ⟨y0, y1, y2, y3, y4, y5, y6, y7, rfl⟩ := eight_of HSL.out
                  have c0 : ∀ o_ : Obj, (wr.alloc o_).cell? ⟨w.heap.size + 1, 0, none⟩ = some (.int .u32 y0) := fun o_ => (blk_cell (blk_alloc HF.out.2.1 o_) 0).trans rfl
                  have c1 : ∀ o_ : Obj, (wr.alloc o_).cell? ⟨w.heap.size + 1, 1, none⟩ = some (.int .u32 y1) := fun o_ => (blk_cell (blk_alloc HF.out.2.1 o_) 1).trans rfl
                  have c2 : ∀ o_ : Obj, (wr.alloc o_).cell? ⟨w.heap.size + 1, 2, none⟩ = some (.int .u32 y2) := fun o_ => (blk_cell (blk_alloc HF.out.2.1 o_) 2).trans rfl
                  have c3 : ∀ o_ : Obj, (wr.alloc o_).cell? ⟨w.heap.size + 1, 3, none⟩ = some (.int .u32 y3) := fun o_ => (blk_cell (blk_alloc HF.out.2.1 o_) 3).trans rfl
                  have c4 : ∀ o_ : Obj, (wr.alloc o_).cell? ⟨w.heap.size + 1, 4, none⟩ = some (.int .u32 y4) := fun o_ => (blk_cell (blk_alloc HF.out.2.1 o_) 4).trans rfl
                  have c5 : ∀ o_ : Obj, (wr.alloc o_).cell? ⟨w.heap.size + 1, 5, none⟩ = some (.int .u32 y5) := fun o_ => (blk_cell (blk_alloc HF.out.2.1 o_) 5).trans rfl
                  have c6 : ∀ o_ : Obj, (wr.alloc o_).cell? ⟨w.heap.size + 1, 6, none⟩ = some (.int .u32 y6) := fun o_ => (blk_cell (blk_alloc HF.out.2.1 o_) 6).trans rfl
                  have c7 : ∀ o_ : Obj, (wr.alloc o_).cell? ⟨w.heap.size + 1, 7, none⟩ = some (.int .u32 y7) := fun o_ => (blk_cell (blk_alloc HF.out.2.1 o_) 7).trans rfl
                  go_wp2
                  have HR0 : Aside0 ((wr.alloc (.cells (octs (List.replicate 32 0)) 25)).heap[w.heap.size]? = some (.cells (octs (List.replicate 32 0)) 25 (0, 0))) := ⟨blk_alloc HF.out.1 _⟩
                  have HB0 : Aside0 (Below w.heap.size w (wr.alloc (.cells (octs (List.replicate 32 0)) 25))) := ⟨below_alloc HF.out.2.2.2 _⟩
                  have HO0 : Aside0 ((wr.alloc (.cells (octs (List.replicate 32 0)) 25)).heap[wr.heap.size]? = some (.cells (octs (List.replicate 32 0)) 25 (0, 0))) := ⟨blk_new _ _⟩
                  have HGO : Aside0 (w.heap.size + 1 < wr.heap.size) := ⟨blk_lt HF.out.2.1⟩
                  have HNG0 : Aside0 (w.heap.size ≠ wr.heap.size) := ⟨by have := HGO.out; omega⟩
                  have HGB0 : Aside0 (w.heap.size ≤ wr.heap.size) := ⟨by have := HGO.out; omega⟩
                  obtain ⟨go, hgo⟩ : ∃ g_, g_ = wr.heap.size := ⟨_, rfl⟩
                  rw [← hgo] at HO0 HGO HNG0 HGB0 ⊢
                  have HNG := HNG0
                  have HGB := HGB0
                  rw [show (octs (List.replicate 32 0)) = #[.int .u8 0, .int .u8 0, .int .u8 0, .int .u8 0, .int .u8 0, .int .u8 0, .int .u8 0, .int .u8 0, .int .u8 0, .int .u8 0, .int .u8 0, .int .u8 0, .int .u8 0, .int .u8 0, .int .u8 0, .int .u8 0, .int .u8 0, .int .u8 0, .int .u8 0, .int .u8 0, .int .u8 0, .int .u8 0, .int .u8 0, .int .u8 0, .int .u8 0, .int .u8 0, .int .u8 0, .int .u8 0, .int .u8 0, .int .u8 0, .int .u8 0, .int .u8 0] from rfl] at HR0 HB0 HO0
                  generalize wr.alloc (.cells #[.int .u8 0, .int .u8 0, .int .u8 0, .int .u8 0, .int .u8 0, .int .u8 0, .int .u8 0, .int .u8 0, .int .u8 0, .int .u8 0, .int .u8 0, .int .u8 0, .int .u8 0, .int .u8 0, .int .u8 0, .int .u8 0, .int .u8 0, .int .u8 0, .int .u8 0, .int .u8 0, .int .u8 0, .int .u8 0, .int .u8 0, .int .u8 0, .int .u8 0, .int .u8 0, .int .u8 0, .int .u8 0, .int .u8 0, .int .u8 0, .int .u8 0, .int .u8 0] 25) = w6 at *
                  have HO1 : Aside0 (w6.heap[go]? = some (.cells (octs (outP [y0, y1, y2, y3, y4, y5, y6, y7] 0)) 25 (0, 0))) := HO0
                  clear HO0 c0 c1 c2 c3 c4 c5 c6 c7 hgo HF HFO HYL HSL HCB hg hg2 hy
                  go_loopw [78] (fun v78 wr => ∃ (i : Nat), i ≤ 8 ∧ v78 = .int .i64 (i : Int) ∧ Aside0 (wr.heap[w.heap.size]? = some (.cells #[.int .u8 0, .int .u8 0, .int .u8 0, .int .u8 0, .int .u8 0, .int .u8 0, .int .u8 0, .int .u8 0, .int .u8 0, .int .u8 0, .int .u8 0, .int .u8 0, .int .u8 0, .int .u8 0, .int .u8 0, .int .u8 0, .int .u8 0, .int .u8 0, .int .u8 0, .int .u8 0, .int .u8 0, .int .u8 0, .int .u8 0, .int .u8 0, .int .u8 0, .int .u8 0, .int .u8 0, .int .u8 0, .int .u8 0, .int .u8 0, .int .u8 0, .int .u8 0] 25 (0, 0))) ∧ Aside0 (wr.heap[go]? = some (.cells (octs (outP [y0, y1, y2, y3, y4, y5, y6, y7] i)) 25 (0, 0))) ∧ Aside0 (Below w.heap.size w wr)) (fun v78 _ => 8 - (intOf v78).toNat)
                  case atStart => exact ⟨0, by omega, rfl, HR0, HO1, HB0⟩
                  case round =>
                    clear HR0 HO1 HB0
                    obtain ⟨i, hi, rfl, HR0, HO, HB⟩ := hrel
                    by_cases hlt : i < 8
                    · have h8 : i = 0 ∨ i = 1 ∨ i = 2 ∨ i = 3 ∨ i = 4 ∨ i = 5 ∨ i = 6 ∨ i = 7 := by omega
                      clear hi hlt
                      have hsz : ∀ h_ : 55 < Tryd.prog.types.size, (Tryd.prog.types[55]'h_).size = 1 := fun h_ => by kernel_rfl
                      rcases h8 with rfl | rfl | rfl | rfl | rfl | rfl | rfl | rfl
                      · rw [show ((0 : Nat) : Int) = (0 : Int) from rfl]
                        have e0 : wr.cell? ⟨go, 0, none⟩ = some (.int .u8 0) := (blk_cell HO.out 0).trans rfl
                        have f0 := blk_frozen HO.out 0
                        have e1 : wr.cell? ⟨go, 1, none⟩ = some (.int .u8 0) := (blk_cell HO.out 1).trans rfl
                        have f1 := blk_frozen HO.out 1
                        have e2 : wr.cell? ⟨go, 2, none⟩ = some (.int .u8 0) := (blk_cell HO.out 2).trans rfl
                        have f2 := blk_frozen HO.out 2
                        have e3 : wr.cell? ⟨go, 3, none⟩ = some (.int .u8 0) := (blk_cell HO.out 3).trans rfl
                        have f3 := blk_frozen HO.out 3
                        have HS : Aside0 (((((wr.setCell ⟨go, 0, none⟩ (.int .u8 (y0 / 16777216 % 256))).setCell ⟨go, 1, none⟩ (.int .u8 (y0 / 65536 % 256))).setCell ⟨go, 2, none⟩ (.int .u8 (y0 / 256 % 256))).setCell ⟨go, 3, none⟩ (.int .u8 (y0 % 256))).heap[go]? = some (.cells (octs (outP [y0, y1, y2, y3, y4, y5, y6, y7] 1)) 25 (0, 0))) := by
                          have h0_ := blk_set HO.out 0 (.int .u8 (y0 / 16777216 % 256))
                          have h1_ := blk_set h0_ 1 (.int .u8 (y0 / 65536 % 256))
                          have h2_ := blk_set h1_ 2 (.int .u8 (y0 / 256 % 256))
                          have h3_ := blk_set h2_ 3 (.int .u8 (y0 % 256))
                          exact ⟨h3_.trans rfl⟩
                        go_wp2_with (first | ((with_reducible refine gate_dst (N := 81) rfl ?_); refine Kd.event_run (v := .int .u32 y0) (w1 := wr) rfl ?hr ?_; (case hr => first | kernel_rfl | rfl)))
                        go_roundw
                        case rel => exact ⟨1, by omega, by first | rfl | (congr 1), ⟨(Below.heap_setCell _ _ _ _ HNG.out).trans ((Below.heap_setCell _ _ _ _ HNG.out).trans ((Below.heap_setCell _ _ _ _ HNG.out).trans ((Below.heap_setCell _ _ _ _ HNG.out).trans HR0.out)))⟩, HS, ⟨(((HB.out.setCell (p := ⟨go, 0, none⟩) HGB.out _).setCell (p := ⟨go, 1, none⟩) HGB.out _).setCell (p := ⟨go, 2, none⟩) HGB.out _).setCell (p := ⟨go, 3, none⟩) HGB.out _⟩⟩
                        case measure => first | decide | (show 8 - 1 < 8 - 0; omega)
                      · rw [show ((1 : Nat) : Int) = (1 : Int) from rfl]
                        have e0 : wr.cell? ⟨go, 4, none⟩ = some (.int .u8 0) := (blk_cell HO.out 4).trans rfl
                        have f0 := blk_frozen HO.out 4
                        have e1 : wr.cell? ⟨go, 5, none⟩ = some (.int .u8 0) := (blk_cell HO.out 5).trans rfl
                        have f1 := blk_frozen HO.out 5
                        have e2 : wr.cell? ⟨go, 6, none⟩ = some (.int .u8 0) := (blk_cell HO.out 6).trans rfl
                        have f2 := blk_frozen HO.out 6
                        have e3 : wr.cell? ⟨go, 7, none⟩ = some (.int .u8 0) := (blk_cell HO.out 7).trans rfl
                        have f3 := blk_frozen HO.out 7
                        have HS : Aside0 (((((wr.setCell ⟨go, 4, none⟩ (.int .u8 (y1 / 16777216 % 256))).setCell ⟨go, 5, none⟩ (.int .u8 (y1 / 65536 % 256))).setCell ⟨go, 6, none⟩ (.int .u8 (y1 / 256 % 256))).setCell ⟨go, 7, none⟩ (.int .u8 (y1 % 256))).heap[go]? = some (.cells (octs (outP [y0, y1, y2, y3, y4, y5, y6, y7] 2)) 25 (0, 0))) := by
                          have h0_ := blk_set HO.out 4 (.int .u8 (y1 / 16777216 % 256))
                          have h1_ := blk_set h0_ 5 (.int .u8 (y1 / 65536 % 256))
                          have h2_ := blk_set h1_ 6 (.int .u8 (y1 / 256 % 256))
                          have h3_ := blk_set h2_ 7 (.int .u8 (y1 % 256))
                          exact ⟨h3_.trans rfl⟩
                        go_wp2_with (first | ((with_reducible refine gate_dst (N := 81) rfl ?_); refine Kd.event_run (v := .int .u32 y1) (w1 := wr) rfl ?hr ?_; (case hr => first | kernel_rfl | rfl)))
                        go_roundw
                        case rel => exact ⟨2, by omega, by first | rfl | (congr 1), ⟨(Below.heap_setCell _ _ _ _ HNG.out).trans ((Below.heap_setCell _ _ _ _ HNG.out).trans ((Below.heap_setCell _ _ _ _ HNG.out).trans ((Below.heap_setCell _ _ _ _ HNG.out).trans HR0.out)))⟩, HS, ⟨(((HB.out.setCell (p := ⟨go, 4, none⟩) HGB.out _).setCell (p := ⟨go, 5, none⟩) HGB.out _).setCell (p := ⟨go, 6, none⟩) HGB.out _).setCell (p := ⟨go, 7, none⟩) HGB.out _⟩⟩
                        case measure => first | decide | (show 8 - 2 < 8 - 1; omega)
                      · rw [show ((2 : Nat) : Int) = (2 : Int) from rfl]
                        have e0 : wr.cell? ⟨go, 8, none⟩ = some (.int .u8 0) := (blk_cell HO.out 8).trans rfl
                        have f0 := blk_frozen HO.out 8
                        have e1 : wr.cell? ⟨go, 9, none⟩ = some (.int .u8 0) := (blk_cell HO.out 9).trans rfl
                        have f1 := blk_frozen HO.out 9
                        have e2 : wr.cell? ⟨go, 10, none⟩ = some (.int .u8 0) := (blk_cell HO.out 10).trans rfl
                        have f2 := blk_frozen HO.out 10
                        have e3 : wr.cell? ⟨go, 11, none⟩ = some (.int .u8 0) := (blk_cell HO.out 11).trans rfl
                        have f3 := blk_frozen HO.out 11
                        have HS : Aside0 (((((wr.setCell ⟨go, 8, none⟩ (.int .u8 (y2 / 16777216 % 256))).setCell ⟨go, 9, none⟩ (.int .u8 (y2 / 65536 % 256))).setCell ⟨go, 10, none⟩ (.int .u8 (y2 / 256 % 256))).setCell ⟨go, 11, none⟩ (.int .u8 (y2 % 256))).heap[go]? = some (.cells (octs (outP [y0, y1, y2, y3, y4, y5, y6, y7] 3)) 25 (0, 0))) := by
                          have h0_ := blk_set HO.out 8 (.int .u8 (y2 / 16777216 % 256))
                          have h1_ := blk_set h0_ 9 (.int .u8 (y2 / 65536 % 256))
                          have h2_ := blk_set h1_ 10 (.int .u8 (y2 / 256 % 256))
                          have h3_ := blk_set h2_ 11 (.int .u8 (y2 % 256))
                          exact ⟨h3_.trans rfl⟩
                        go_wp2_with (first | ((with_reducible refine gate_dst (N := 81) rfl ?_); refine Kd.event_run (v := .int .u32 y2) (w1 := wr) rfl ?hr ?_; (case hr => first | kernel_rfl | rfl)))
                        go_roundw
                        case rel => exact ⟨3, by omega, by first | rfl | (congr 1), ⟨(Below.heap_setCell _ _ _ _ HNG.out).trans ((Below.heap_setCell _ _ _ _ HNG.out).trans ((Below.heap_setCell _ _ _ _ HNG.out).trans ((Below.heap_setCell _ _ _ _ HNG.out).trans HR0.out)))⟩, HS, ⟨(((HB.out.setCell (p := ⟨go, 8, none⟩) HGB.out _).setCell (p := ⟨go, 9, none⟩) HGB.out _).setCell (p := ⟨go, 10, none⟩) HGB.out _).setCell (p := ⟨go, 11, none⟩) HGB.out _⟩⟩
                        case measure => first | decide | (show 8 - 3 < 8 - 2; omega)
                      · rw [show ((3 : Nat) : Int) = (3 : Int) from rfl]
                        have e0 : wr.cell? ⟨go, 12, none⟩ = some (.int .u8 0) := (blk_cell HO.out 12).trans rfl
                        have f0 := blk_frozen HO.out 12
                        have e1 : wr.cell? ⟨go, 13, none⟩ = some (.int .u8 0) := (blk_cell HO.out 13).trans rfl
                        have f1 := blk_frozen HO.out 13
                        have e2 : wr.cell? ⟨go, 14, none⟩ = some (.int .u8 0) := (blk_cell HO.out 14).trans rfl
                        have f2 := blk_frozen HO.out 14
                        have e3 : wr.cell? ⟨go, 15, none⟩ = some (.int .u8 0) := (blk_cell HO.out 15).trans rfl
                        have f3 := blk_frozen HO.out 15
                        have HS : Aside0 (((((wr.setCell ⟨go, 12, none⟩ (.int .u8 (y3 / 16777216 % 256))).setCell ⟨go, 13, none⟩ (.int .u8 (y3 / 65536 % 256))).setCell ⟨go, 14, none⟩ (.int .u8 (y3 / 256 % 256))).setCell ⟨go, 15, none⟩ (.int .u8 (y3 % 256))).heap[go]? = some (.cells (octs (outP [y0, y1, y2, y3, y4, y5, y6, y7] 4)) 25 (0, 0))) := by
                          have h0_ := blk_set HO.out 12 (.int .u8 (y3 / 16777216 % 256))
                          have h1_ := blk_set h0_ 13 (.int .u8 (y3 / 65536 % 256))
                          have h2_ := blk_set h1_ 14 (.int .u8 (y3 / 256 % 256))
                          have h3_ := blk_set h2_ 15 (.int .u8 (y3 % 256))
                          exact ⟨h3_.trans rfl⟩
                        go_wp2_with (first | ((with_reducible refine gate_dst (N := 81) rfl ?_); refine Kd.event_run (v := .int .u32 y3) (w1 := wr) rfl ?hr ?_; (case hr => first | kernel_rfl | rfl)))
                        go_roundw
                        case rel => exact ⟨4, by omega, by first | rfl | (congr 1), ⟨(Below.heap_setCell _ _ _ _ HNG.out).trans ((Below.heap_setCell _ _ _ _ HNG.out).trans ((Below.heap_setCell _ _ _ _ HNG.out).trans ((Below.heap_setCell _ _ _ _ HNG.out).trans HR0.out)))⟩, HS, ⟨(((HB.out.setCell (p := ⟨go, 12, none⟩) HGB.out _).setCell (p := ⟨go, 13, none⟩) HGB.out _).setCell (p := ⟨go, 14, none⟩) HGB.out _).setCell (p := ⟨go, 15, none⟩) HGB.out _⟩⟩
                        case measure => first | decide | (show 8 - 4 < 8 - 3; omega)
                      · rw [show ((4 : Nat) : Int) = (4 : Int) from rfl]
                        have e0 : wr.cell? ⟨go, 16, none⟩ = some (.int .u8 0) := (blk_cell HO.out 16).trans rfl
                        have f0 := blk_frozen HO.out 16
                        have e1 : wr.cell? ⟨go, 17, none⟩ = some (.int .u8 0) := (blk_cell HO.out 17).trans rfl
                        have f1 := blk_frozen HO.out 17
                        have e2 : wr.cell? ⟨go, 18, none⟩ = some (.int .u8 0) := (blk_cell HO.out 18).trans rfl
                        have f2 := blk_frozen HO.out 18
                        have e3 : wr.cell? ⟨go, 19, none⟩ = some (.int .u8 0) := (blk_cell HO.out 19).trans rfl
                        have f3 := blk_frozen HO.out 19
                        have HS : Aside0 (((((wr.setCell ⟨go, 16, none⟩ (.int .u8 (y4 / 16777216 % 256))).setCell ⟨go, 17, none⟩ (.int .u8 (y4 / 65536 % 256))).setCell ⟨go, 18, none⟩ (.int .u8 (y4 / 256 % 256))).setCell ⟨go, 19, none⟩ (.int .u8 (y4 % 256))).heap[go]? = some (.cells (octs (outP [y0, y1, y2, y3, y4, y5, y6, y7] 5)) 25 (0, 0))) := by
                          have h0_ := blk_set HO.out 16 (.int .u8 (y4 / 16777216 % 256))
                          have h1_ := blk_set h0_ 17 (.int .u8 (y4 / 65536 % 256))
                          have h2_ := blk_set h1_ 18 (.int .u8 (y4 / 256 % 256))
                          have h3_ := blk_set h2_ 19 (.int .u8 (y4 % 256))
                          exact ⟨h3_.trans rfl⟩
                        go_wp2_with (first | ((with_reducible refine gate_dst (N := 81) rfl ?_); refine Kd.event_run (v := .int .u32 y4) (w1 := wr) rfl ?hr ?_; (case hr => first | kernel_rfl | rfl)))
                        go_roundw
                        case rel => exact ⟨5, by omega, by first | rfl | (congr 1), ⟨(Below.heap_setCell _ _ _ _ HNG.out).trans ((Below.heap_setCell _ _ _ _ HNG.out).trans ((Below.heap_setCell _ _ _ _ HNG.out).trans ((Below.heap_setCell _ _ _ _ HNG.out).trans HR0.out)))⟩, HS, ⟨(((HB.out.setCell (p := ⟨go, 16, none⟩) HGB.out _).setCell (p := ⟨go, 17, none⟩) HGB.out _).setCell (p := ⟨go, 18, none⟩) HGB.out _).setCell (p := ⟨go, 19, none⟩) HGB.out _⟩⟩
                        case measure => first | decide | (show 8 - 5 < 8 - 4; omega)
                      · rw [show ((5 : Nat) : Int) = (5 : Int) from rfl]
                        have e0 : wr.cell? ⟨go, 20, none⟩ = some (.int .u8 0) := (blk_cell HO.out 20).trans rfl
                        have f0 := blk_frozen HO.out 20
                        have e1 : wr.cell? ⟨go, 21, none⟩ = some (.int .u8 0) := (blk_cell HO.out 21).trans rfl
                        have f1 := blk_frozen HO.out 21
                        have e2 : wr.cell? ⟨go, 22, none⟩ = some (.int .u8 0) := (blk_cell HO.out 22).trans rfl
                        have f2 := blk_frozen HO.out 22
                        have e3 : wr.cell? ⟨go, 23, none⟩ = some (.int .u8 0) := (blk_cell HO.out 23).trans rfl
                        have f3 := blk_frozen HO.out 23
                        have HS : Aside0 (((((wr.setCell ⟨go, 20, none⟩ (.int .u8 (y5 / 16777216 % 256))).setCell ⟨go, 21, none⟩ (.int .u8 (y5 / 65536 % 256))).setCell ⟨go, 22, none⟩ (.int .u8 (y5 / 256 % 256))).setCell ⟨go, 23, none⟩ (.int .u8 (y5 % 256))).heap[go]? = some (.cells (octs (outP [y0, y1, y2, y3, y4, y5, y6, y7] 6)) 25 (0, 0))) := by
                          have h0_ := blk_set HO.out 20 (.int .u8 (y5 / 16777216 % 256))
                          have h1_ := blk_set h0_ 21 (.int .u8 (y5 / 65536 % 256))
                          have h2_ := blk_set h1_ 22 (.int .u8 (y5 / 256 % 256))
                          have h3_ := blk_set h2_ 23 (.int .u8 (y5 % 256))
                          exact ⟨h3_.trans rfl⟩
                        go_wp2_with (first | ((with_reducible refine gate_dst (N := 81) rfl ?_); refine Kd.event_run (v := .int .u32 y5) (w1 := wr) rfl ?hr ?_; (case hr => first | kernel_rfl | rfl)))
                        go_roundw
                        case rel => exact ⟨6, by omega, by first | rfl | (congr 1), ⟨(Below.heap_setCell _ _ _ _ HNG.out).trans ((Below.heap_setCell _ _ _ _ HNG.out).trans ((Below.heap_setCell _ _ _ _ HNG.out).trans ((Below.heap_setCell _ _ _ _ HNG.out).trans HR0.out)))⟩, HS, ⟨(((HB.out.setCell (p := ⟨go, 20, none⟩) HGB.out _).setCell (p := ⟨go, 21, none⟩) HGB.out _).setCell (p := ⟨go, 22, none⟩) HGB.out _).setCell (p := ⟨go, 23, none⟩) HGB.out _⟩⟩
                        case measure => first | decide | (show 8 - 6 < 8 - 5; omega)
                      · rw [show ((6 : Nat) : Int) = (6 : Int) from rfl]
                        have e0 : wr.cell? ⟨go, 24, none⟩ = some (.int .u8 0) := (blk_cell HO.out 24).trans rfl
                        have f0 := blk_frozen HO.out 24
                        have e1 : wr.cell? ⟨go, 25, none⟩ = some (.int .u8 0) := (blk_cell HO.out 25).trans rfl
                        have f1 := blk_frozen HO.out 25
                        have e2 : wr.cell? ⟨go, 26, none⟩ = some (.int .u8 0) := (blk_cell HO.out 26).trans rfl
                        have f2 := blk_frozen HO.out 26
                        have e3 : wr.cell? ⟨go, 27, none⟩ = some (.int .u8 0) := (blk_cell HO.out 27).trans rfl
                        have f3 := blk_frozen HO.out 27
                        have HS : Aside0 (((((wr.setCell ⟨go, 24, none⟩ (.int .u8 (y6 / 16777216 % 256))).setCell ⟨go, 25, none⟩ (.int .u8 (y6 / 65536 % 256))).setCell ⟨go, 26, none⟩ (.int .u8 (y6 / 256 % 256))).setCell ⟨go, 27, none⟩ (.int .u8 (y6 % 256))).heap[go]? = some (.cells (octs (outP [y0, y1, y2, y3, y4, y5, y6, y7] 7)) 25 (0, 0))) := by
                          have h0_ := blk_set HO.out 24 (.int .u8 (y6 / 16777216 % 256))
                          have h1_ := blk_set h0_ 25 (.int .u8 (y6 / 65536 % 256))
                          have h2_ := blk_set h1_ 26 (.int .u8 (y6 / 256 % 256))
                          have h3_ := blk_set h2_ 27 (.int .u8 (y6 % 256))
                          exact ⟨h3_.trans rfl⟩
                        go_wp2_with (first | ((with_reducible refine gate_dst (N := 81) rfl ?_); refine Kd.event_run (v := .int .u32 y6) (w1 := wr) rfl ?hr ?_; (case hr => first | kernel_rfl | rfl)))
                        go_roundw
                        case rel => exact ⟨7, by omega, by first | rfl | (congr 1), ⟨(Below.heap_setCell _ _ _ _ HNG.out).trans ((Below.heap_setCell _ _ _ _ HNG.out).trans ((Below.heap_setCell _ _ _ _ HNG.out).trans ((Below.heap_setCell _ _ _ _ HNG.out).trans HR0.out)))⟩, HS, ⟨(((HB.out.setCell (p := ⟨go, 24, none⟩) HGB.out _).setCell (p := ⟨go, 25, none⟩) HGB.out _).setCell (p := ⟨go, 26, none⟩) HGB.out _).setCell (p := ⟨go, 27, none⟩) HGB.out _⟩⟩
                        case measure => first | decide | (show 8 - 7 < 8 - 6; omega)
                      · rw [show ((7 : Nat) : Int) = (7 : Int) from rfl]
                        have e0 : wr.cell? ⟨go, 28, none⟩ = some (.int .u8 0) := (blk_cell HO.out 28).trans rfl
                        have f0 := blk_frozen HO.out 28
                        have e1 : wr.cell? ⟨go, 29, none⟩ = some (.int .u8 0) := (blk_cell HO.out 29).trans rfl
                        have f1 := blk_frozen HO.out 29
                        have e2 : wr.cell? ⟨go, 30, none⟩ = some (.int .u8 0) := (blk_cell HO.out 30).trans rfl
                        have f2 := blk_frozen HO.out 30
                        have e3 : wr.cell? ⟨go, 31, none⟩ = some (.int .u8 0) := (blk_cell HO.out 31).trans rfl
                        have f3 := blk_frozen HO.out 31
                        have HS : Aside0 (((((wr.setCell ⟨go, 28, none⟩ (.int .u8 (y7 / 16777216 % 256))).setCell ⟨go, 29, none⟩ (.int .u8 (y7 / 65536 % 256))).setCell ⟨go, 30, none⟩ (.int .u8 (y7 / 256 % 256))).setCell ⟨go, 31, none⟩ (.int .u8 (y7 % 256))).heap[go]? = some (.cells (octs (outP [y0, y1, y2, y3, y4, y5, y6, y7] 8)) 25 (0, 0))) := by
                          have h0_ := blk_set HO.out 28 (.int .u8 (y7 / 16777216 % 256))
                          have h1_ := blk_set h0_ 29 (.int .u8 (y7 / 65536 % 256))
                          have h2_ := blk_set h1_ 30 (.int .u8 (y7 / 256 % 256))
                          have h3_ := blk_set h2_ 31 (.int .u8 (y7 % 256))
                          exact ⟨h3_.trans rfl⟩
                        go_wp2_with (first | ((with_reducible refine gate_dst (N := 81) rfl ?_); refine Kd.event_run (v := .int .u32 y7) (w1 := wr) rfl ?hr ?_; (case hr => first | kernel_rfl | rfl)))
                        go_roundw
                        case rel => exact ⟨8, by omega, by first | rfl | (congr 1), ⟨(Below.heap_setCell _ _ _ _ HNG.out).trans ((Below.heap_setCell _ _ _ _ HNG.out).trans ((Below.heap_setCell _ _ _ _ HNG.out).trans ((Below.heap_setCell _ _ _ _ HNG.out).trans HR0.out)))⟩, HS, ⟨(((HB.out.setCell (p := ⟨go, 28, none⟩) HGB.out _).setCell (p := ⟨go, 29, none⟩) HGB.out _).setCell (p := ⟨go, 30, none⟩) HGB.out _).setCell (p := ⟨go, 31, none⟩) HGB.out _⟩⟩
                        case measure => first | decide | (show 8 - 8 < 8 - 7; omega)
                    · obtain rfl : i = 8 := by omega
                      clear hi hlt
                      rw [show ((8 : Nat) : Int) = (8 : Int) from rfl]
                      obtain ⟨bs, hbs⟩ : ∃ b_, b_ = outP [y0, y1, y2, y3, y4, y5, y6, y7] 8 := ⟨_, rfl⟩
                      have hbl : bs.length = 32 := by rw [hbs]; exact outP_len rfl
                      have HSH : Aside0 (bs = shaL xs.flatten) := ⟨by rw [hbs, HRES.out, HFE.out, HPD.out, HQE.out]; unfold shaL padL; rw [HE.out, HN.out]⟩
                      rw [← hbs] at HO
                      have HI : Aside0 ((Tryd.prog.info? 25).map (·.size) = some (octs bs).size) := ⟨by rw [octs_size hbl]; kernel_rfl⟩
                      have HOS : Aside0 ((octs (List.replicate 32 0)).size = (octs bs).size) := ⟨by rw [octs_size hbl]; exact octs_size (by simp)⟩
                      clear hbs hbl
                      have HR1 : Aside0 (wr.heap[w.heap.size]? = some (.cells (octs (List.replicate 32 0)) 25 (0, 0))) := HR0
                      clear HR0
                      go_wp2_with (first | ((with_reducible refine gate_dst (N := 109) rfl ?_); refine wpList_load_row rfl 25 (.tmp 11) rfl go rfl 25 (octs bs) (0, 0) _ HO.out Tryd.underlying25 rfl HI.out ?_) | ((with_reducible refine gate_store (t := 25) (p := 2) (v := .tmp 109) rfl ?_); refine wpList_store_row rfl 25 (.tmp 2) (.tmp 109) rfl w.heap.size (octs bs) rfl rfl 25 _ HR1.out HI.out HOS.out (octs_one bs) ?_))
                      (try simp only [Exit.inBlock, Exit.then])
                      refine bodyPost_ret (results_cell_row (p := 2) (ty := 25) rfl _ _ w.heap.size 25 (octs bs) (0, 0) _ rfl (setRow_heap wr w.heap.size _ (octs bs) _ _ HR1.out) Tryd.underlying25 rfl HI.out) rfl ?_
                      exact ⟨by rw [HSH.out], below_setRow HB.out (Nat.le_refl _) _⟩
                · have hg : decide ((0 : Int) < (y.length : Int)) = true := decide_eq_true (by omega)
                  have hg2 : decide (0 < y.length) = true := decide_eq_true (by omega)
                  have hg3 : 0 < y.length := by omega
                  obtain ⟨m2, hm2⟩ : ∃ m2, m = m2 + 1 := ⟨m - 1, by omega⟩
                  subst hm2
                  have H64 : Aside0 (64 ≤ y.length) := ⟨by omega⟩
                  obtain ⟨y0, y1, y2, y3, y4, y5, y6, y7, rfl⟩ := eight_of HSL.out
                  obtain ⟨z0, z1, z2, z3, z4, z5, z6, z7, hz⟩ := eight_of (mixL_len (b := y) HSL.out)
                  have HZ := Aside0.mk hz
                  have hfo := HFO.out
                  rw [foldB, if_neg hy, hz] at hfo
                  have HFO2 := Aside0.mk hfo
                  have HZL : Aside0 ([z0, z1, z2, z3, z4, z5, z6, z7].length = 8) := ⟨rfl⟩
                  obtain ⟨i06, hi06, _, hsz6, _⟩ := info_parts info5
                  obtain ⟨Ad, hcutB, hAB, hCB⟩ := print_drop_of (P := Tryd.prog) (Value.int .u8) 0 22 5 .i64 Tryd.underlying22 hi06 hsz6 Ab cb y 64 (by omega) (by omega) HCB.out
                  rw [show ((64 : Int)).toNat = 64 from rfl] at hcutB hAB hCB
                  obtain ⟨yd, hyd⟩ : ∃ s_, s_ = y.drop 64 := ⟨_, rfl⟩
                  have HYD : Aside0 (yd.length % 64 = 0 ∧ yd.length ≤ 64 * m2 ∧ yd.length < y.length) := ⟨by rw [hyd, List.length_drop]; omega⟩
                  rw [← hyd] at hcutB hAB hCB HFO2
                  have HAB := Aside0.mk hAB
                  have HCD := Aside0.mk hCB
                  clear hz hfo hAB hCB hyd hi06 hsz6 hyl hy
                  obtain ⟨c0, c1, c2, c3, c4, c5, c6, c7, _⟩ := HF.out.held
                  go_wp2_with (first | (go_at_call 28; refine (mix_calls [y0, y1, y2, y3, y4, y5, y6, y7] Ab cb y _ (HK.out _ HF.out.2.2.2) HSL.out (Kd.F_now HF.out.2.2.1) HCB.out H64.out).mono ?_; rintro en wm ⟨rfl, hb⟩; rw [HZ.out]; rw [show words [z0, z1, z2, z3, z4, z5, z6, z7] = #[.int .u32 z0, .int .u32 z1, .int .u32 z2, .int .u32 z3, .int .u32 z4, .int .u32 z5, .int .u32 z6, .int .u32 z7] from rfl]; have HF2 := Aside0.mk (HF.out.below hb); obtain ⟨d0, d1, d2, d3, d4, d5, d6, d7, _⟩ := HF2.out.held; have f0 := HF2.out.frozen 0; have f1 := HF2.out.frozen 1; have f2 := HF2.out.frozen 2; have f3 := HF2.out.frozen 3; have f4 := HF2.out.frozen 4; have f5 := HF2.out.frozen 5; have f6 := HF2.out.frozen 6; have f7 := HF2.out.frozen 7; have HF3 := Aside0.mk (HF2.out.put8 z0 z1 z2 z3 z4 z5 z6 z7); clear hb))
                  have HF4 := Aside0.mk (show SumF w [z0, z1, z2, z3, z4, z5, z6, z7] Ad yd _ from ⟨HF3.out.1, HF3.out.2.1, Kd.F_imp HF3.out.2.2.1 (fun W' h_ => Kd.C_of_reads (h1 := fun _ => rfl) (HAB.out _ (Kd.reads_of_C h_))), HF3.out.2.2.2⟩)
                  clear HF HF2 HF3 c0 c1 c2 c3 c4 c5 c6 c7 d0 d1 d2 d3 d4 d5 d6 d7 f0 f1 f2 f3 f4 f5 f6 f7
                  generalize ((((((((wm.setCell ⟨w.heap.size + 1, 0, none⟩ (.int .u32 z0)).setCell ⟨w.heap.size + 1, 1, none⟩ (.int .u32 z1)).setCell ⟨w.heap.size + 1, 2, none⟩ (.int .u32 z2)).setCell ⟨w.heap.size + 1, 3, none⟩ (.int .u32 z3)).setCell ⟨w.heap.size + 1, 4, none⟩ (.int .u32 z4)).setCell ⟨w.heap.size + 1, 5, none⟩ (.int .u32 z5)).setCell ⟨w.heap.size + 1, 6, none⟩ (.int .u32 z6)).setCell ⟨w.heap.size + 1, 7, none⟩ (.int .u32 z7)) = w9 at *
                  go_roundw
                  case rel => exact ⟨m2, yd, _, Ad, cb - 64, rfl, HFO2, ⟨⟨HYD.out.1, HYD.out.2.1⟩⟩, HZL, HCD, HF4⟩
                  case measure => exact HYD.out.2.2
end Go.Proofs.YtgaekibompacnaaDoor.QD
