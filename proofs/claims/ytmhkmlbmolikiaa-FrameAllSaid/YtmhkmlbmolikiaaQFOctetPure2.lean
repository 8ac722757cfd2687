/- What Text, TakeText and TakeEight answer, in plain words of OctetMath. -/
import Derived.Test.YtmhkmlbmolikiaaQFx2
import Derived.Test.YtmhkmlbmolikiaaQFx1
import Derived.Test.YtmhkmlbmolikiaaQFOctetPure
set_option linter.unusedVariables false
set_option linter.unusedSimpArgs false
namespace Go.Proofs.Ytmhkmlbmolikiaa.QF
open Go.RowKit Go.Proofs.YtmhkmlbmolikiaaW.PrintWords Go.Proofs.YtmhkmlbmolikiaaW.PrintLast Go.Proofs.YtmhkmlbmolikiaaW.PrintMore Go.Proofs.Ytmhkmlbmolikiaa.OctetMath

theorem text_is {k : Nat} {l s : List Int} (hk : 10 ≤ k) (hl : l.length ≤ 70368744177600) (hs : s.length ≤ 70368744177600) : octet_Text.f k l s = some (l ++ lay s.length ++ s) := by
  unfold octet_Text.f
  have := (lay_length s.length).2
  rw [wrap_u64 (by omega) (by omega), var_is hk (by omega) (by omega) (by omega), Option.bind_some, if_pos (by simp; omega)]

theorem mx_zero (a : Int) : mx a 0 = if a < 0 then 0 else a := rfl
theorem takeText_is {k : Nat} {l : List Int} {most : Int} (hk : 24 ≤ k) (hb : Bytes l) (hl : l.length ≤ 70368744177600) (h0 : -9223372036854775808 ≤ most) (h1 : most ≤ 9223372036854775807) :
    octet_TakeText.f k l most = some (tkText l most) := by
  have ok := tk_ok l 0 0 (by omega) hb (by omega) (by simp)
  unfold octet_TakeText.f tkText
  rw [takeVar_is hk hb (by omega), Option.bind_some]
  obtain ⟨⟨v, n, e⟩, hv⟩ : ∃ p, p = tk l 0 0 := ⟨_, rfl⟩
  rw [← hv] at ok ⊢
  simp only at ok ⊢
  rw [mx_zero]
  by_cases he : e = 0
  · have ok5 := ok.2.2.2.2 he
    rw [if_pos he, if_pos he, wrap_u64 (by split <;> omega) (by split <;> omega)]
    by_cases hm : v > (if most < 0 then 0 else most)
    · rw [if_pos hm, if_pos hm]
    · rw [if_neg hm, if_neg hm, wrap64_id (n := (l.length : Int) - n) (by omega) (by omega), wrap_u64 (n := (l.length : Int) - n) (by omega) (by omega)]
      by_cases hs : v > (l.length : Int) - n
      · rw [if_pos hs, if_pos hs]
      · rw [if_neg hs, if_neg hs]
        simp only [Option.bind_some]
        rw [wrap64_id (n := v) (by omega) (by omega), wrap64_id (by omega) (by omega), if_pos (by omega), if_pos (by omega), if_pos (by omega), if_pos (by simp; omega)]
        simp
  · rw [if_neg he, if_neg he]

end Go.Proofs.Ytmhkmlbmolikiaa.QF
