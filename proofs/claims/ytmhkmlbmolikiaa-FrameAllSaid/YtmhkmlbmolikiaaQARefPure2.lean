/- What the reference's TakeVar, TakeText and TakeEight answer: the same as OctetMath's. -/
import Derived.Test.YtmhkmlbmolikiaaQAx1
import Derived.Test.YtmhkmlbmolikiaaOctetMath
set_option linter.unusedVariables false
set_option linter.unusedSimpArgs false
namespace Go.Proofs.Ytmhkmlbmolikiaa.QA
open Go.RowKit Go.Proofs.YtmhkmlbmolikiaaW.PrintWords Go.Proofs.YtmhkmlbmolikiaaW.PrintLast Go.Proofs.YtmhkmlbmolikiaaW.PrintMore Go.Proofs.Ytmhkmlbmolikiaa.OctetMath

theorem refTakeVarL : ∀ (n i k : Nat) (v : Int) (l : List Int), n + i = 9 → 2 * n + 2 < k → Bytes l → l.length ≤ 140737488355328 → 0 ≤ v → v < 128 ^ i → i ≤ l.length →
    touchstoneref1_TakeVar.l0 k l v (128 ^ i) i = some (tk (l.drop i) i v) := by
  intro n
  induction n with
  | zero =>
    intro i k v l hn hk hb hl h0 h1 hi
    obtain ⟨k, rfl⟩ : ∃ m, k = m + 2 := ⟨k - 2, by omega⟩
    have e9 : i = 9 := by omega
    subst e9
    rw [touchstoneref1_TakeVar.l0]
    rw [show (((9 : Nat) : Int)) = 9 from rfl] at *
    rw [if_pos (by omega)]
    by_cases hlt : 9 < l.length
    · rw [if_neg (by omega), if_pos rfl, if_pos (by omega), if_pos (by omega), rd_cons_drop hlt]
      have hc := rd_byte hb hlt
      rw [show (((9 : Nat) : Int)) = 9 from rfl] at *
      rw [touchstoneref1_TakeVar.j1]
      by_cases hgt : rd l 9 > 1
      · rw [if_pos (by simpa using hgt), tk, if_pos ⟨rfl, hgt⟩]
      · simp only [Int.reducePow] at h1 ⊢
        rw [if_neg (by simpa using hgt), if_pos (by omega), if_pos (by omega), if_pos (by omega), Int.tmod_eq_emod_of_nonneg hc.1, wrap_u64 (n := rd l 9 % 128) (by omega) (by omega), wrap_u64 (n := rd l 9 % 128 * 9223372036854775808) (by omega) (by omega), wrap_u64 (by omega) (by omega), wrap64_id (by omega) (by omega)]
        rw [tk, if_neg (show ¬ (9 = 9 ∧ rd l 9 > 1) from fun h => hgt h.2), if_neg (show ¬ rd l 9 ≥ 128 by omega)]
        by_cases hz : rd l 9 = 0
        · rw [if_pos hz, if_pos (by omega), if_pos ⟨hz, by omega⟩]
        · rw [if_neg hz, if_neg (fun h => hz h.1)]
          simp
    · rw [if_pos (by omega), List.drop_of_length_le (by omega), tk]
  | succ n ih =>
    intro i k v l hn hk hb hl h0 h1 hi
    obtain ⟨k, rfl⟩ : ∃ m, k = m + 2 := ⟨k - 2, by omega⟩
    rw [touchstoneref1_TakeVar.l0, if_pos (by omega)]
    by_cases hlt : i < l.length
    · rw [if_neg (by omega), if_neg (by omega), rd_cons_drop hlt]
      have hc := rd_byte hb hlt
      have hpos : (0 : Int) < 128 ^ i := Int.pow_pos (by omega)
      have h8 : (128 : Int) ^ i ≤ 128 ^ 8 := pow_le_int 128 (by omega) (by omega)
      have hmul : rd l i % 128 * 128 ^ i ≤ 127 * 128 ^ i := Int.mul_le_mul_of_nonneg_right (by omega) (by omega)
      have hmul0 : 0 ≤ rd l i % 128 * 128 ^ i := Int.mul_nonneg (by omega) (by omega)
      simp only [Int.reducePow] at h8
      rw [touchstoneref1_TakeVar.j1, if_neg (by decide), if_pos (by omega), if_pos (by omega), Int.tmod_eq_emod_of_nonneg hc.1, wrap_u64 (n := rd l i % 128) (by omega) (by omega), wrap_u64 (n := rd l i % 128 * 128 ^ i) hmul0 (by omega), wrap_u64 (n := v + _) (by omega) (by omega), wrap64_id (by omega) (by omega)]
      rw [tk, if_neg (show ¬ (i = 9 ∧ rd l i > 1) by omega)]
      by_cases h128 : rd l i ≥ 128
      · rw [if_neg (show ¬ rd l i < 128 by omega), if_pos h128, wrap_u64 (n := 128 ^ i * 128) (by omega) (by omega)]
        have := ih (i + 1) k (v + rd l i % 128 * 128 ^ i) l (by omega) (by omega) hb hl (by omega) (by rw [Int.pow_succ]; omega) (by omega)
        rw [show ((i : Int) + 1) = ((i + 1 : Nat) : Int) by omega, ← Int.pow_succ]
        exact this
      · rw [if_pos (show rd l i < 128 by omega), if_neg h128]
        by_cases hz : rd l i = 0
        · rw [if_pos hz]
          by_cases hi0 : (i : Int) > 0
          · rw [if_pos hi0, if_pos ⟨hz, by omega⟩]
          · rw [if_neg hi0, if_neg (fun h => hi0 (by omega))]
        · rw [if_neg hz, if_neg (fun h => hz h.1)]
    · rw [if_pos (by omega), List.drop_of_length_le (by omega), tk]
theorem refTakeVar_is {k : Nat} {l : List Int} (hk : 24 ≤ k) (hb : Bytes l) (hl : l.length ≤ 140737488355328) : touchstoneref1_TakeVar.f k l = some (tk l 0 0) := by
  unfold touchstoneref1_TakeVar.f
  exact refTakeVarL 9 0 k 0 l rfl (by omega) hb hl (by omega) (by simp) (by omega)

theorem refTakeText_is {k : Nat} {l : List Int} {most : Int} (hk : 24 ≤ k) (hb : Bytes l) (hl : l.length ≤ 70368744177600) (h0 : -9223372036854775808 ≤ most) (h1 : most ≤ 9223372036854775807) :
    touchstoneref1_TakeText.f k l most = some (tkText l most) := by
  have ok := tk_ok l 0 0 (by omega) hb (by omega) (by simp)
  unfold touchstoneref1_TakeText.f tkText
  rw [refTakeVar_is hk hb (by omega), Option.bind_some]
  obtain ⟨⟨v, n, e⟩, hv⟩ : ∃ p, p = tk l 0 0 := ⟨_, rfl⟩
  rw [← hv] at ok ⊢
  simp only at ok ⊢
  rw [show mx most 0 = if most < 0 then 0 else most from rfl]
  by_cases he : e = 0
  · have ok5 := ok.2.2.2.2 he
    rw [if_pos he, if_pos he, wrap_u64 (by split <;> omega) (by split <;> omega)]
    by_cases hm : v > (if most < 0 then 0 else most)
    · rw [if_pos hm, if_pos hm]
    · rw [if_neg hm, if_neg hm, wrap64_id (n := (l.length : Int) - n) (by omega) (by omega), wrap_u64 (n := (l.length : Int) - n) (by omega) (by omega)]
      by_cases hs : v > (l.length : Int) - n
      · rw [if_pos (show (l.length : Int) - n < v from hs), if_pos hs]
      · rw [if_neg (show ¬ (l.length : Int) - n < v from hs), if_neg hs]
        simp only [Option.bind_some]
        rw [wrap64_id (n := v) (by omega) (by omega), wrap64_id (by omega) (by omega), if_pos (by omega), if_pos (by omega), if_pos (by omega), if_pos (by simp; omega)]
        simp
  · rw [if_neg he, if_neg he]

end Go.Proofs.Ytmhkmlbmolikiaa.QA
