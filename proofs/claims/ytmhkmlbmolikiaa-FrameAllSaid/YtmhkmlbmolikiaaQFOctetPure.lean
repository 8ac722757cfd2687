/- What the printed functions of chapter 1 answer, in plain words of OctetMath. -/
import Derived.Test.YtmhkmlbmolikiaaQFx1
import Derived.Test.YtmhkmlbmolikiaaQFx2
import Derived.Test.YtmhkmlbmolikiaaOctetMath
set_option linter.unusedVariables false
set_option linter.unusedSimpArgs false
namespace Go.Proofs.Ytmhkmlbmolikiaa.QF
open Go.RowKit Go.Proofs.YtmhkmlbmolikiaaW.PrintWords Go.Proofs.YtmhkmlbmolikiaaW.PrintLast Go.Proofs.YtmhkmlbmolikiaaW.PrintMore Go.Proofs.Ytmhkmlbmolikiaa.OctetMath

theorem room_is {l : List Int} {n : Int} (h0 : 0 ≤ n) (h1 : n ≤ 100) (hl : l.length ≤ 140737488351232) : octet_room.f l n = some l := by
  unfold octet_room.f
  rw [wrap64_id (by omega) (by omega), if_pos (by omega), if_pos (by omega)]
  simp only [Option.bind_some, List.nil_append, List.length_nil, Nat.zero_add]
  rw [if_pos (by omega)]

theorem varL : ∀ n k v x, n < k → 0 ≤ v → v < 128 ^ n * 2 → x.length + n ≤ 140737488351300 → octet_Var.l0 k v x = some (x ++ layF n v)
  | 0, k, v, x, hk, h0, h1, hx => by
    obtain ⟨k, rfl⟩ : ∃ m, k = m + 1 := ⟨k - 1, by omega⟩
    simp at h1
    simp only [octet_Var.l0, layF]
    rw [if_neg (by omega), if_pos (by omega)]
  | n + 1, k, v, x, hk, h0, h1, hx => by
    obtain ⟨k, rfl⟩ : ∃ m, k = m + 1 := ⟨k - 1, by omega⟩
    have e : (128 : Int) ^ (n + 1) * 2 = 128 ^ n * 2 * 128 := by rw [Int.pow_succ, Int.mul_assoc, Int.mul_assoc]; rfl
    simp only [octet_Var.l0]
    unfold layF
    by_cases hv : v ≥ 128
    · have h2 : v / 128 < 128 ^ n * 2 := Int.ediv_lt_of_lt_mul (by omega) (by rw [e] at h1; exact h1)
      rw [if_pos hv, if_pos (by omega), if_pos hv, or128 (by omega) (by omega), varL n k (v / 128) _ (by omega) (by omega) h2 (by simp; omega)]
      rw [List.append_assoc, show v % 256 % 128 = v % 128 by omega]
      rfl
    · rw [if_neg hv, if_pos (by omega), if_neg hv, show v % 256 = v by omega]
theorem var_is {k : Nat} {l : List Int} {v : Int} (hk : 10 ≤ k) (h0 : 0 ≤ v) (h1 : v < 18446744073709551616) (hl : l.length ≤ 140737488351232) : octet_Var.f k l v = some (l ++ lay v) := by
  unfold octet_Var.f
  rw [room_is (by omega) (by omega) hl, Option.bind_some]
  exact varL 9 k v l (by omega) h0 (by simp only [Int.reducePow, Int.reduceMul]; omega) (by omega)

theorem takeVarL : ∀ (n i k : Nat) (v : Int) (l : List Int), n + i = 9 → 2 * n + 2 < k → Bytes l → l.length ≤ 140737488355328 → 0 ≤ v → v < 128 ^ i → i ≤ l.length →
    octet_TakeVar.l0 k v l l.length i = some (tk (l.drop i) i v) := by
  intro n
  induction n with
  | zero =>
    intro i k v l hn hk hb hl h0 h1 hi
    obtain ⟨k, rfl⟩ : ∃ m, k = m + 2 := ⟨k - 2, by omega⟩
    have e9 : i = 9 := by omega
    subst e9
    rw [octet_TakeVar.l0]
    by_cases hlt : 9 < l.length
    · rw [if_pos (by omega), if_pos (by omega), if_pos (by omega), rd_cons_drop hlt]
      have hc := rd_byte hb hlt
      rw [show (((9 : Nat) : Int)) = 9 from rfl] at *
      rw [if_pos rfl, octet_TakeVar.j1]
      by_cases hgt : rd l 9 > 1
      · rw [if_pos (by simpa using hgt), tk, if_pos ⟨rfl, hgt⟩]
      · rw [if_neg (by simpa using hgt)]
        rw [show IntKind.u64.wrap (wrap64 (7 * 9)) = 63 by decide +kernel, if_pos (show (0 : Int) ≤ 63 by omega), if_neg (show ¬ rd l 9 ≥ 128 by omega)]
        rw [andNot128 hc.1 hc.2, wrap_u64 (show 0 ≤ rd l 9 % 128 by omega) (by omega)]
        simp only [shl, IntKind.bits, Int.reduceToNat, show min 63 64 = 63 from rfl]
        have h63 : rd l 9 % 128 * 2 ^ 63 < 18446744073709551616 := by simp only [Int.reducePow]; omega
        rw [wrap_u64 (by simp only [Int.reducePow]; omega) h63, or_add h0 (by simpa using h1) (by omega) h63 (by simp only [Int.reducePow] at h1; omega)]
        rw [wrap64_id (by omega) (by omega)]
        rw [tk, if_neg (show ¬ (9 = 9 ∧ rd l 9 > 1) from fun h => hgt h.2), if_neg (show ¬ rd l 9 ≥ 128 by omega)]
        by_cases hz : rd l 9 = 0
        · rw [if_pos hz, if_pos (by omega), if_pos ⟨hz, by omega⟩]
        · rw [if_neg hz, if_neg (fun h => hz h.1)]
          simp
    · rw [if_neg (by omega), List.drop_of_length_le (by omega), tk]
  | succ n ih =>
    intro i k v l hn hk hb hl h0 h1 hi
    obtain ⟨k, rfl⟩ : ∃ m, k = m + 2 := ⟨k - 2, by omega⟩
    rw [octet_TakeVar.l0]
    by_cases hlt : i < l.length
    · rw [if_pos (by omega), if_pos (by omega), if_pos (by omega), rd_cons_drop hlt]
      have hc := rd_byte hb hlt
      rw [if_neg (show ¬ (i : Int) = 9 by omega), octet_TakeVar.j1, if_neg (show ¬ (false = true) by decide)]
      have e7 : IntKind.u64.wrap (wrap64 (7 * (i : Int))) = ((7 * i : Nat) : Int) := by
        rw [wrap64_id (by omega) (by omega), wrap_u64 (by omega) (by omega)]; omega
      rw [e7, if_pos (show (0 : Int) ≤ ((7 * i : Nat) : Int) by omega), andNot128 hc.1 hc.2, wrap_u64 (show 0 ≤ rd l i % 128 by omega) (by omega)]
      have hp : (2 : Int) ^ (7 * i) = 128 ^ i := by rw [Int.pow_mul]; rfl
      have hpos : (0 : Int) < 128 ^ i := Int.pow_pos (by omega)
      have h8 : (128 : Int) ^ i ≤ 128 ^ 8 := by exact_mod_cast Nat.pow_le_pow_right (by omega) (show i ≤ 8 by omega)
      have hmul : rd l i % 128 * 128 ^ i ≤ 127 * 128 ^ i := Int.mul_le_mul_of_nonneg_right (by omega) (by omega)
      have hmul0 : 0 ≤ rd l i % 128 * 128 ^ i := Int.mul_nonneg (by omega) (by omega)
      simp only [Int.reducePow] at h8
      simp only [shl, IntKind.bits, Int.toNat_natCast]
      rw [Nat.min_eq_left (by omega), hp, wrap_u64 hmul0 (by omega), ← hp, or_add h0 (by rw [hp]; exact h1) (by omega) (by rw [hp]; omega) (by omega), hp, wrap64_id (by omega) (by omega)]
      rw [tk, if_neg (show ¬ (i = 9 ∧ rd l i > 1) by omega)]
      by_cases h128 : rd l i ≥ 128
      · rw [if_pos h128, if_pos h128]
        have := ih (i + 1) k (v + rd l i % 128 * 128 ^ i) l (by omega) (by omega) hb hl (by omega) (by rw [Int.pow_succ]; omega) (by omega)
        rw [show ((i : Int) + 1) = ((i + 1 : Nat) : Int) by omega]
        exact this
      · rw [if_neg h128, if_neg h128]
        by_cases hz : rd l i = 0
        · rw [if_pos hz]
          by_cases hi0 : (i : Int) > 0
          · rw [if_pos hi0, if_pos ⟨hz, by omega⟩]
          · rw [if_neg hi0, if_neg (fun h => hi0 (by omega))]
        · rw [if_neg hz, if_neg (fun h => hz h.1)]
    · rw [if_neg (by omega), List.drop_of_length_le (by omega), tk]
theorem takeVar_is {k : Nat} {l : List Int} (hk : 24 ≤ k) (hb : Bytes l) (hl : l.length ≤ 140737488355328) : octet_TakeVar.f k l = some (tk l 0 0) := by
  unfold octet_TakeVar.f
  exact takeVarL 9 0 k 0 l rfl (by omega) hb hl (by omega) (by simp) (by omega)
end Go.Proofs.Ytmhkmlbmolikiaa.QF
