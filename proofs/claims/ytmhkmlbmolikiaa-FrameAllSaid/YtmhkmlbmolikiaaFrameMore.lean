/- Frames that were laid are read as they were, whatever stands behind them. -/
import Derived.Test.YtmhkmlbmolikiaaFrameMath
set_option linter.unusedVariables false
set_option linter.unusedSimpArgs false
namespace Go.Proofs.Ytmhkmlbmolikiaa.FrameMath
open Go.RowKit Go.Proofs.YtmhkmlbmolikiaaW.PrintWords Go.Proofs.YtmhkmlbmolikiaaW.PrintLast Go.Proofs.YtmhkmlbmolikiaaW.PrintMore Go.Proofs.Ytmhkmlbmolikiaa.OctetMath

/-- Frames, one behind the other. -/
def rowsT (ts : List (List Int)) : List Int := ts.flatMap fun t => lay t.length ++ t
theorem rowsT_nil : rowsT [] = [] := rfl
theorem rowsT_cons (t : List Int) (ts : List (List Int)) : rowsT (t :: ts) = lay t.length ++ t ++ rowsT ts := by simp [rowsT]
theorem rowsT_append (a b : List (List Int)) : rowsT (a ++ b) = rowsT a ++ rowsT b := by simp [rowsT]
theorem rowsT_bytes {ts : List (List Int)} (h : ∀ t ∈ ts, Bytes t ∧ t.length ≤ 65536) : Bytes (rowsT ts) := by
  intro c hc
  obtain ⟨t, ht, hc⟩ := List.mem_flatMap.mp hc
  have := h t ht
  exact ((lay_bytes (v := (t.length : Int)) (by omega) (by omega)).append this.1) c hc
def sumL (ts : List (List Int)) : Nat := ts.foldr (fun t n => t.length + n) 0
theorem sumL_append (a b : List (List Int)) : sumL (a ++ b) = sumL a + sumL b := by
  induction a with
  | nil => simp [sumL]
  | cons t a ih => simp only [List.cons_append, sumL, List.foldr_cons] at ih ⊢; omega
theorem rowsT_len (ts : List (List Int)) : (rowsT ts).length ≤ sumL ts + 10 * ts.length := by
  induction ts with
  | nil => simp [rowsT, sumL]
  | cons t ts ih =>
    have h1 := (lay_length (t.length : Int)).2
    rw [rowsT_cons]
    simp only [List.length_append, List.length_cons, sumL, List.foldr_cons] at ih ⊢
    omega
theorem fed_rows {ts : List (List Int)} {q : List Int} {fs : List (List Int)} {r : List Int} {e : Int} (h : ∀ t ∈ ts, t.length ≤ 65536) (hf : Fed q fs r e) : Fed (rowsT ts ++ q) (ts ++ fs) r e := by
  induction ts with
  | nil => exact hf
  | cons t ts ih =>
    have ht := h t (by simp)
    rw [rowsT_cons, List.append_assoc]
    refine .more _ t (((lay t.length ++ t).length : Nat) : Int) _ r e ?_ ?_
    · have := tkText_lay (s := t) (r := rowsT ts ++ q) (most := 65536) (by omega) (by omega)
      simpa using this
    · rw [Int.toNat_natCast, List.drop_left]
      exact ih (fun t ht => h t (List.mem_cons_of_mem _ ht))
theorem fed_nil : Fed [] [] [] 2 := .stop [] 2 (by rw [tkText_nil]) (by decide)
theorem fed_all {ts : List (List Int)} (h : ∀ t ∈ ts, t.length ≤ 65536) : Fed (rowsT ts) ts [] 2 := by
  have := fed_rows h fed_nil
  simpa using this
/-- A part of good frames is good. -/
theorem fed_part {p q : List Int} {ts fs : List (List Int)} {r : List Int} {e : Int} (hp : Bytes p) (h : Fed p fs r e) (ht : Fed (p ++ q) ts [] 2) : e = 2 := by
  rcases Decidable.em (e = 2) with h2 | h2
  · exact h2
  · exact ((ht.det (h.bad h2 hp)).2.2)
end Go.Proofs.Ytmhkmlbmolikiaa.FrameMath
