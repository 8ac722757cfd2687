/- Scripts of the printed walks under short names. -/
import Derived.Test.YtpejhapgffcngaaWWords
set_option linter.unusedVariables false
namespace Go.Proofs.YtpejhapgffcngaaW.PrintWords
open Go.RowKit
theorem aS {p : Prop} (h : p) : Aside0 p := ⟨h⟩
theorem bk {P Q : Prop} (g : Q) (h : Q → P := by intro g1; (with_reducible repeat (first | refine blk_drewN ?_ _ | refine blk_drew ?_ | refine blk_alloc ?_ _)); exact g1) : P := h g
theorem bkw {W W1 : World} {g : Nat} {o : Obj} (h : Aside0 (W.heap[g]? = some o)) (e : W.heap[g]? = some o → W1.heap[g]? = some o := by intro g1; (with_reducible repeat (first | refine blk_drewN ?_ _ | refine blk_drew ?_ | refine blk_alloc ?_ _)); exact g1) : W1.heap[g]? = some o := e h.out
theorem hbk {b : Nat} {w W W1 : World} (h : Aside0 (Below b w W)) (e : Below b w W → Below b w W1 := by intro g1; repeat (first | (with_reducible first | exact g1 | apply below_alloc | apply pw_below_drewN | apply below_drew1 | refine below_set ?_ (Aside0.out (by assumption))) | exact g1)) : Below b w W1 := e h.out
theorem kn {P Q : Prop} (g : Q) (h : Q → P := by intro g1; (with_reducible repeat (first | apply Kd.N_alloc | apply Kd.N_drewN | apply Kd.N_drew)); exact g1) : P := h g
theorem kr_ {P Q : Prop} (g : Q) (h : Q → P := by intro g1; (with_reducible repeat (first | apply Kd.R_alloc | apply Kd.R_drewN | apply Kd.R_drew)); exact g1) : P := h g
theorem ks {P Q : Prop} (g : Q) (h : Q → P := by intro g1; (with_reducible repeat (first | apply Kd.S_alloc | apply Kd.S_drewN | apply Kd.S_drew)); exact g1) : P := h g
theorem cr {P Q : Prop} (g : Q) (h : Q → P := by intro g1; repeat (first | exact g1 | (with_reducible refine Kd.C_alloc ?_ _) | (with_reducible refine Kd.C_drewN ?_ _) | (with_reducible refine Kd.C_drew ?_))) : P := h g
theorem nb {P Q : Prop} (g : Q) (h : Q → P := by intro g1; first | exact Kd.N_base g1 | exact Kd.R_base g1) : P := h g
theorem bl {P : Prop} (h : P := by (try simp only [List.map_toArray, List.map_cons, List.map_nil]); first | done | rfl | (simp only [List.length_drop, List.length_take]; rfl)) : P := h
theorem br {P : Prop} (h : P := by first | rfl | (simp; done) | (simp [*]; done)) : P := h
theorem ba {P : Prop} (h : P := by first | (with_reducible assumption) | assumption) : P := h
theorem Bk {W W1 w1 : World} {g : Nat} {o : Obj} (h : Aside0 (W.heap[g]? = some o)) (hb : Below W1.heap.size W1 w1) (e : W.heap[g]? = some o → W1.heap[g]? = some o := by intro g1; (with_reducible repeat (first | refine blk_drewN ?_ _ | refine blk_drew ?_ | refine blk_alloc ?_ _)); exact g1) : Aside0 (w1.heap[g]? = some o) := ⟨blk_below (e h.out) hb⟩
theorem Hs {w W W1 w1 : World} (h : Aside0 (Below w.heap.size w W)) (hb : Below W1.heap.size W1 w1) (e : Below w.heap.size w W → Below w.heap.size w W1 := by intro g1; repeat (first | (with_reducible first | exact g1 | apply below_alloc | apply pw_below_drewN | apply below_drew1 | refine below_set ?_ (Aside0.out (by assumption))) | exact g1)) : Aside0 (Below w.heap.size w w1) := ⟨below_step (e h.out) hb⟩
theorem Gz {w W W1 : World} {g : Nat} (hg : g = W1.heap.size) (h : Aside0 (Below w.heap.size w W)) (e : Below w.heap.size w W → Below w.heap.size w W1 := by intro g1; repeat (first | (with_reducible first | exact g1 | apply below_alloc | apply pw_below_drewN | apply below_drew1 | refine below_set ?_ (Aside0.out (by assumption))) | exact g1)) : Aside0 (w.heap.size ≤ g) := ⟨hg ▸ below_size (e h.out)⟩
theorem Nl {W W1 : World} {g g' : Nat} {o : Obj} (hg : g' = W1.heap.size) (h : Aside0 (W.heap[g]? = some o)) (e : W.heap[g]? = some o → W1.heap[g]? = some o := by intro g1; (with_reducible repeat (first | refine blk_drewN ?_ _ | refine blk_drew ?_ | refine blk_alloc ?_ _)); exact g1) : Aside0 (g ≠ g') := ⟨hg ▸ Nat.ne_of_lt (blk_lt (e h.out))⟩
theorem Ng {W W1 : World} {g g' : Nat} {o : Obj} (hg : g' = W1.heap.size) (h : Aside0 (W.heap[g]? = some o)) (e : W.heap[g]? = some o → W1.heap[g]? = some o := by intro g1; (with_reducible repeat (first | refine blk_drewN ?_ _ | refine blk_drew ?_ | refine blk_alloc ?_ _)); exact g1) : Aside0 (g' ≠ g) := ⟨hg ▸ Nat.ne_of_gt (blk_lt (e h.out))⟩
theorem ap {α : Type} {a b : α} (h : a = b := by show Act.put _ (some _) _ = _; simp only [Act.put, List.setIfInBounds_toArray, List.set_cons_zero, List.set_cons_succ, i64_w, i32_w]; rfl) : a = b := h
theorem cz {w : World} {g t : Nat} {cs : Array Value} {v : Value} (h : Aside0 (w.heap[g]? = some (.cells cs t (0, 0)))) (i : Nat) (e : cs[i]? = some v := by rfl) : w.cell? ⟨g, i, none⟩ = some v := (blk_cell h.out i).trans e
section
variable {w : World} {g t : Nat} {a b c d f : Value}
theorem cl5 (h : Aside0 (w.heap[g]? = some (.cells #[a, b, c, d, f] t (0, 0)))) : w.cell? ⟨g, 0, none⟩ = some a ∧ w.cell? ⟨g, 1, none⟩ = some b ∧ w.cell? ⟨g, 2, none⟩ = some c ∧ w.cell? ⟨g, 3, none⟩ = some d ∧ w.cell? ⟨g, 4, none⟩ = some f := ⟨blk_cell h.out 0, blk_cell h.out 1, blk_cell h.out 2, blk_cell h.out 3, blk_cell h.out 4⟩
theorem fz5 (h : Aside0 (w.heap[g]? = some (.cells #[a, b, c, d, f] t (0, 0)))) : w.frozen? ⟨g, 0, none⟩ = false ∧ w.frozen? ⟨g, 1, none⟩ = false ∧ w.frozen? ⟨g, 2, none⟩ = false ∧ w.frozen? ⟨g, 3, none⟩ = false ∧ w.frozen? ⟨g, 4, none⟩ = false := ⟨blk_frozen h.out 0, blk_frozen h.out 1, blk_frozen h.out 2, blk_frozen h.out 3, blk_frozen h.out 4⟩
theorem cl3 (h : Aside0 (w.heap[g]? = some (.cells #[a, b, c] t (0, 0)))) : w.cell? ⟨g, 0, none⟩ = some a ∧ w.cell? ⟨g, 1, none⟩ = some b ∧ w.cell? ⟨g, 2, none⟩ = some c := ⟨blk_cell h.out 0, blk_cell h.out 1, blk_cell h.out 2⟩
theorem fz3 (h : Aside0 (w.heap[g]? = some (.cells #[a, b, c] t (0, 0)))) : w.frozen? ⟨g, 0, none⟩ = false ∧ w.frozen? ⟨g, 1, none⟩ = false ∧ w.frozen? ⟨g, 2, none⟩ = false := ⟨blk_frozen h.out 0, blk_frozen h.out 1, blk_frozen h.out 2⟩
end
end Go.Proofs.YtpejhapgffcngaaW.PrintWords

