/- What the reference's Var and Text answer: the same as OctetMath's lay. -/
import Derived.Test.YtaoapdcdnjmoiaaQWx3
import Derived.Test.YtaoapdcdnjmoiaaOctetMath
set_option linter.unusedVariables false
set_option linter.unusedSimpArgs false
namespace Go.Proofs.Ytaoapdcdnjmoiaa.QW
open Go.RowKit Go.Proofs.YtaoapdcdnjmoiaaW.PrintWords Go.Proofs.YtaoapdcdnjmoiaaW.PrintLast Go.Proofs.YtaoapdcdnjmoiaaW.PrintMore Go.Proofs.Ytaoapdcdnjmoiaa.OctetMath

theorem refVarL : ∀ n k v x, n < k → 0 ≤ v → v < 128 ^ n * 2 → v < 18446744073709551616 → x.length + n ≤ 140737488351300 → touchstoneref1_Var.l0 k v x = some (x ++ layF n v)
  | 0, k, v, x, hk, h0, h1, h64, hx => by
    obtain ⟨k, rfl⟩ : ∃ m, k = m + 1 := ⟨k - 1, by omega⟩
    simp at h1
    simp only [touchstoneref1_Var.l0, layF]
    rw [if_neg (by omega), if_pos (by omega)]
  | n + 1, k, v, x, hk, h0, h1, h64, hx => by
    obtain ⟨k, rfl⟩ : ∃ m, k = m + 1 := ⟨k - 1, by omega⟩
    have e : (128 : Int) ^ (n + 1) * 2 = 128 ^ n * 2 * 128 := by rw [Int.pow_succ, Int.mul_assoc, Int.mul_assoc]; rfl
    simp only [touchstoneref1_Var.l0]
    unfold layF
    by_cases hv : v ≥ 128
    · have h2 : v / 128 < 128 ^ n * 2 := Int.ediv_lt_of_lt_mul (by omega) (by rw [e] at h1; exact h1)
      rw [if_pos hv, if_pos (by omega), if_pos hv, Int.tdiv_eq_ediv_of_nonneg h0, Int.tmod_eq_emod_of_nonneg h0, wrap_u64 (by omega) (by omega), refVarL n k (v / 128) _ (by omega) (by omega) h2 (by omega) (by simp; omega)]
      rw [List.append_assoc, show (v % 128 + 128) % 256 = v % 128 + 128 by omega]
      rfl
    · rw [if_neg hv, if_pos (by omega), if_neg hv, show v % 256 = v by omega]
theorem refVar_is {k : Nat} {l : List Int} {v : Int} (hk : 10 ≤ k) (h0 : 0 ≤ v) (h1 : v < 18446744073709551616) (hl : l.length ≤ 140737488351232) : touchstoneref1_Var.f k l v = some (l ++ lay v) := by
  unfold touchstoneref1_Var.f
  simp only [Option.bind_some, List.nil_append, List.length_nil, Nat.zero_add]
  rw [if_pos (by omega)]
  exact refVarL 9 k v l (by omega) h0 (by simp only [Int.reducePow, Int.reduceMul]; omega) h1 (by omega)
theorem refText_is {k : Nat} {l s : List Int} (hk : 10 ≤ k) (hl : l.length ≤ 70368744177600) (hs : s.length ≤ 70368744177600) : touchstoneref1_Text.f k l s = some (l ++ lay s.length ++ s) := by
  unfold touchstoneref1_Text.f
  have := (lay_length s.length).2
  rw [wrap_u64 (by omega) (by omega), refVar_is hk (by omega) (by omega) (by omega), Option.bind_some, if_pos (by simp; omega)]
end Go.Proofs.Ytaoapdcdnjmoiaa.QW
