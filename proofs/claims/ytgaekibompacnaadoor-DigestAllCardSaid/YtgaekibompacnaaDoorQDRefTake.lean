/- What the reference's TakeVar, TakeText and TakeEight answer: the same as OctetMath's. -/
import Derived.Test.YtgaekibompacnaaDoorQDx1
import Derived.Test.YtgaekibompacnaaDoorOctetMath
set_option linter.unusedVariables false
set_option linter.unusedSimpArgs false
namespace Go.Proofs.YtgaekibompacnaaDoor.QD
open Go.RowKit Go.Proofs.YtgaekibompacnaaDoorW.PrintWords Go.Proofs.YtgaekibompacnaaDoorW.PrintLast Go.Proofs.YtgaekibompacnaaDoorW.PrintMore Go.Proofs.YtgaekibompacnaaDoor.OctetMath

theorem refTakeEightL : ∀ (n i k : Nat) (v : Int) (l : List Int), n + i = 8 → n < k → Bytes l → 8 ≤ l.length → 0 ≤ v → v < 256 ^ i →
    touchstoneref1_TakeEight.l0 k l v i = some (((l.take 8).drop i).foldl (fun v c => v * 256 + c) v, 0)
  | 0, i, k, v, l, hn, hk, hb, hl, h0, h1 => by
    obtain ⟨k, rfl⟩ : ∃ m, k = m + 1 := ⟨k - 1, by omega⟩
    rw [touchstoneref1_TakeEight.l0, if_neg (by omega), List.drop_of_length_le (by rw [List.length_take]; omega)]
    rfl
  | n + 1, i, k, v, l, hn, hk, hb, hl, h0, h1 => by
    obtain ⟨k, rfl⟩ : ∃ m, k = m + 1 := ⟨k - 1, by omega⟩
    have hlt : i < (l.take 8).length := by rw [List.length_take]; omega
    have hc := rd_byte (hb.take 8) hlt
    have er : rd (l.take 8) i = rd l i := by
      simp only [rd, List.getD_eq_getElem?_getD, Int.toNat_natCast]
      rw [List.getElem?_take_of_lt (by omega)]
    have h7 : (256 : Int) ^ i ≤ 256 ^ 7 := pow_le_int 256 (by omega) (by omega)
    simp only [Int.reducePow] at h7
    rw [touchstoneref1_TakeEight.l0, if_pos (by omega), if_pos (by omega), if_pos (by omega), rd_cons_drop hlt, er]
    rw [er] at hc
    rw [wrap_u64 (n := v * 256) (by omega) (by omega), wrap_u64 (n := rd l i) (by omega) (by omega), wrap_u64 (by omega) (by omega), wrap64_id (by omega) (by omega), show ((i : Int) + 1) = ((i + 1 : Nat) : Int) by omega]
    exact refTakeEightL n (i + 1) k _ l (by omega) (by omega) hb hl (by omega) (by rw [Int.pow_succ]; omega)
theorem refTakeEight_is {k : Nat} {l : List Int} (hk : 10 ≤ k) (hb : Bytes l) : touchstoneref1_TakeEight.f k l = some (if l.length < 8 then (0, 2) else (back8 (l.take 8), 0)) := by
  unfold touchstoneref1_TakeEight.f
  by_cases h : l.length < 8
  · rw [if_pos (by omega), if_pos h]
  · rw [if_neg (by omega), if_neg h]
    have := refTakeEightL 8 0 k 0 l rfl (by omega) hb (by omega) (by omega) (by simp)
    simpa [back8] using this
end Go.Proofs.YtgaekibompacnaaDoor.QD
