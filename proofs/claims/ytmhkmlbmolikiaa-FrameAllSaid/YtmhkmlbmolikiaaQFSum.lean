/- The sum of texts' lengths, as the law takes it: what is not more than the bound is the sum. -/
import Derived.Test.YtmhkmlbmolikiaaFrameMore
import Derived.Test.YtmhkmlbmolikiaaQFx1
set_option linter.unusedVariables false
set_option linter.unusedSimpArgs false
namespace Go.Proofs.Ytmhkmlbmolikiaa.QF
open Go.RowKit Go.Proofs.YtmhkmlbmolikiaaW.PrintWords Go.Proofs.YtmhkmlbmolikiaaW.PrintLast Go.Proofs.YtmhkmlbmolikiaaW.PrintMore Go.Proofs.Ytmhkmlbmolikiaa.FrameMath Go.Proofs.Ytmhkmlbmolikiaa.OctetMath

theorem rdL1_eq {l : List (List Int)} {i : Nat} (h : i < l.length) : rd_L1 l i = l[i] := by
  simp [rd_L1, List.getD_eq_getElem?_getD, List.getElem?_eq_getElem h]
theorem sumL_drop {l : List (List Int)} {i : Nat} (h : i < l.length) : sumL (l.drop i) = l[i].length + sumL (l.drop (i + 1)) := by
  rw [List.drop_eq_getElem_cons h]
  rfl
theorem sumG (l : List (List Int)) (m : Int) (h0 : 0 ≤ m) (h1 : m ≤ 1000000) : ∀ (n i k : Nat) (acc : Int), n + i = l.length → 2 * n + 2 ≤ k → 0 ≤ acc → acc ≤ 2 * m → l.length < 1000000000000 →
    ∃ r, touchstonelaw0_Sum.l0 k l m acc i = some r ∧ (r ≤ m → acc + sumL (l.drop i) ≤ m) := by
  intro n
  induction n with
  | zero =>
    intro i k acc hi hk ha hb hl
    obtain ⟨k, rfl⟩ : ∃ q, k = q + 2 := ⟨k - 2, by omega⟩
    refine ⟨acc, ?_, fun h => ?_⟩
    · rw [touchstonelaw0_Sum.l0, if_neg (by omega), touchstonelaw0_Sum.j1, if_neg (by decide)]
    · rw [List.drop_of_length_le (by omega)]
      simpa [sumL] using h
  | succ n ih =>
    intro i k acc hi hk ha hb hl
    obtain ⟨k, rfl⟩ : ∃ q, k = q + 2 := ⟨k - 2, by omega⟩
    have hlt : i < l.length := by omega
    rw [touchstonelaw0_Sum.l0, if_pos (by omega), touchstonelaw0_Sum.j1]
    by_cases h : acc ≤ m
    · rw [if_pos (by simpa using h), if_pos (by omega), if_pos (by omega), rdL1_eq hlt]
      by_cases h2 : (l[i].length : Int) > m
      · rw [if_pos h2]
        refine ⟨_, rfl, fun h3 => ?_⟩
        rw [wrap64_id (by omega) (by omega)] at h3
        omega
      · rw [if_neg h2, wrap64_id (by omega) (by omega), wrap64_id (by omega) (by omega), show (i : Int) + 1 = ((i + 1 : Nat) : Int) by omega]
        obtain ⟨r, h3, h4⟩ := ih (i + 1) k (acc + l[i].length) (by omega) (by omega) (by omega) (by omega) hl
        refine ⟨r, h3, fun h5 => ?_⟩
        have := h4 h5
        rw [sumL_drop hlt]
        omega
    · rw [if_neg (by simpa using h)]
      exact ⟨acc, rfl, fun h3 => absurd h3 h⟩
/-- Sum tells a number, and where it is not more than the bound, the texts' lengths are no more. -/
theorem sum_is (l : List (List Int)) (m : Int) (h0 : 0 ≤ m) (h1 : m ≤ 1000000) (hl : l.length < 1000000000000) : ∃ r, touchstonelaw0_Sum.f (2 * l.length + 2) l m = some r ∧ (r ≤ m → sumL l ≤ m) := by
  obtain ⟨r, h2, h3⟩ := sumG l m h0 h1 l.length 0 (2 * l.length + 2) 0 (by omega) (Nat.le_refl _) (by omega) (by omega) hl
  exact ⟨r, h2, fun h => by simpa using h3 h⟩
theorem sumL_mem {l : List (List Int)} {t : List Int} (h : t ∈ l) : t.length ≤ sumL l := by
  induction l with
  | nil => cases h
  | cons a l ih =>
    simp only [sumL, List.foldr_cons] at ih ⊢
    rcases List.mem_cons.mp h with rfl | h
    · omega
    · have := ih h
      omega
theorem rowsT_take {l : List (List Int)} {i : Nat} (h : i < l.length) : rowsT (l.take (i + 1)) = rowsT (l.take i) ++ lay (l[i].length : Int) ++ l[i] := by
  rw [List.take_succ_eq_append_getElem h, rowsT_append, rowsT_cons, rowsT_nil, List.append_nil, List.append_assoc]
end Go.Proofs.Ytmhkmlbmolikiaa.QF
