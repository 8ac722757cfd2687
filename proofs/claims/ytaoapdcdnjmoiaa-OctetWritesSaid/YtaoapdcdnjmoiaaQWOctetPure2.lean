/- What Text, TakeText and TakeEight answer, in plain words of OctetMath. -/
import Derived.Test.YtaoapdcdnjmoiaaQWx3
import Derived.Test.YtaoapdcdnjmoiaaQWx2
import Derived.Test.YtaoapdcdnjmoiaaQWOctetPure
set_option linter.unusedVariables false
set_option linter.unusedSimpArgs false
namespace Go.Proofs.Ytaoapdcdnjmoiaa.QW
open Go.RowKit Go.Proofs.YtaoapdcdnjmoiaaW.PrintWords Go.Proofs.YtaoapdcdnjmoiaaW.PrintLast Go.Proofs.YtaoapdcdnjmoiaaW.PrintMore Go.Proofs.Ytaoapdcdnjmoiaa.OctetMath

theorem text_is {k : Nat} {l s : List Int} (hk : 10 ≤ k) (hl : l.length ≤ 70368744177600) (hs : s.length ≤ 70368744177600) : octet_Text.f k l s = some (l ++ lay s.length ++ s) := by
  unfold octet_Text.f
  have := (lay_length s.length).2
  rw [wrap_u64 (by omega) (by omega), var_is hk (by omega) (by omega) (by omega), Option.bind_some, if_pos (by simp; omega)]

theorem mx_zero (a : Int) : mx a 0 = if a < 0 then 0 else a := rfl
theorem takeText_is {k : Nat} {l : List Int} {most : Int} (hk : 24 ≤ k) (hb : Bytes l) (hl : l.length ≤ 70368744177600) (h0 : -9223372036854775808 ≤ most) (h1 : most ≤ 9223372036854775807) :
    octet_TakeText.f k l most = some (tkText l most) := by
  have ok := tk_ok l 0 0 (by omega) hb (by omega) (by simp)
  unfold octet_TakeText.f tkText
  rw [takeVar_is hk hb (by omega), Option.bind_some]
  obtain ⟨⟨v, n, e⟩, hv⟩ : ∃ p, p = tk l 0 0 := ⟨_, rfl⟩
  rw [← hv] at ok ⊢
  simp only at ok ⊢
  rw [mx_zero]
  by_cases he : e = 0
  · have ok5 := ok.2.2.2.2 he
    rw [if_pos he, if_pos he, wrap_u64 (by split <;> omega) (by split <;> omega)]
    by_cases hm : v > (if most < 0 then 0 else most)
    · rw [if_pos hm, if_pos hm]
    · rw [if_neg hm, if_neg hm, wrap64_id (n := (l.length : Int) - n) (by omega) (by omega), wrap_u64 (n := (l.length : Int) - n) (by omega) (by omega)]
      by_cases hs : v > (l.length : Int) - n
      · rw [if_pos hs, if_pos hs]
      · rw [if_neg hs, if_neg hs]
        simp only [Option.bind_some]
        rw [wrap64_id (n := v) (by omega) (by omega), wrap64_id (by omega) (by omega), if_pos (by omega), if_pos (by omega), if_pos (by omega), if_pos (by simp; omega)]
        simp
  · rw [if_neg he, if_neg he]

theorem takeEightL : ∀ (n i k : Nat) (v : Int) (l : List Int), n + i = 8 → n < k → Bytes l → l.length = 8 → 0 ≤ v → v < 256 ^ i →
    octet_TakeEight.l0 k v l l.length i = some ((l.drop i).foldl (fun v c => v * 256 + c) v, 0)
  | 0, i, k, v, l, hn, hk, hb, hl, h0, h1 => by
    obtain ⟨k, rfl⟩ : ∃ m, k = m + 1 := ⟨k - 1, by omega⟩
    rw [octet_TakeEight.l0, if_neg (by omega), List.drop_of_length_le (by omega)]
    rfl
  | n + 1, i, k, v, l, hn, hk, hb, hl, h0, h1 => by
    obtain ⟨k, rfl⟩ : ∃ m, k = m + 1 := ⟨k - 1, by omega⟩
    have hlt : i < l.length := by omega
    have hc := rd_byte hb hlt
    have h7 : (256 : Int) ^ i ≤ 256 ^ 7 := pow_le_int 256 (by omega) (by omega)
    simp only [Int.reducePow] at h7
    rw [octet_TakeEight.l0, if_pos (by omega), if_pos (by omega), if_pos (by omega), rd_cons_drop hlt]
    have e : Go.bits .or .u64 (IntKind.u64.wrap (v * 256)) (IntKind.u64.wrap (rd l i)) = v * 256 + rd l i := by
      rw [wrap_u64 (by omega) (by omega), wrap_u64 (by omega) (by omega), u64_or _ _ (by omega) (by omega) (by omega) (by omega)]
      obtain ⟨c, hc'⟩ := Int.eq_ofNat_of_zero_le hc.1
      obtain ⟨v, rfl⟩ := Int.eq_ofNat_of_zero_le h0
      rw [hc'] at hc ⊢
      have e2 : ((v : Int) * 256) = ((2 ^ 8 * v : Nat) : Int) := by omega
      rw [e2, Int.toNat_natCast, Int.toNat_natCast, ← Nat.two_pow_add_eq_or_of_lt (by omega)]
      omega
    rw [e, wrap64_id (by omega) (by omega), show ((i : Int) + 1) = ((i + 1 : Nat) : Int) by omega]
    exact takeEightL n (i + 1) k _ l (by omega) (by omega) hb hl (by omega) (by rw [Int.pow_succ]; omega)
theorem takeEight_is {k : Nat} {l : List Int} (hk : 10 ≤ k) (hb : Bytes l) : octet_TakeEight.f k l = some (if l.length < 8 then (0, 2) else (back8 (l.take 8), 0)) := by
  unfold octet_TakeEight.f
  by_cases h : l.length < 8
  · rw [if_pos (by omega), if_pos h]
  · rw [if_neg (by omega), if_neg h, if_pos (by omega)]
    have := takeEightL 8 0 k 0 (l.take 8) rfl (by omega) (hb.take 8) (by rw [List.length_take]; omega) (by omega) (by simp)
    simpa [back8] using this
end Go.Proofs.Ytaoapdcdnjmoiaa.QW
