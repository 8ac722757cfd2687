/- OctetBack: what Var, Text and Eight lay is read back by TakeVar, TakeText and TakeEight, whatever stands behind it; for all bytes and numbers. -/
import Derived.Test.YtaoapdcdnjmoiaaQAx4
import Derived.Test.YtaoapdcdnjmoiaaOctetPure2
import Derived.Test.YtaoapdcdnjmoiaaOctetBegun
set_option linter.unusedVariables false
set_option linter.unusedSimpArgs false
namespace Go.Proofs.Ytaoapdcdnjmoiaa.Pure
open Go.RowKit Go.Proofs.Ytaoapdcdnjmoiaa.QA Go.Proofs.YtaoapdcdnjmoiaaW.PrintWords Go.Proofs.YtaoapdcdnjmoiaaW.PrintLast Go.Proofs.YtaoapdcdnjmoiaaW.PrintMore Go.Proofs.Ytaoapdcdnjmoiaa.OctetMath

theorem OctetBack : touchstonelaw1_OctetBack.Pure := by
  intro s rest v hs1 hs2 hs hr1 hr2 hr hv
  obtain ⟨v0, v1⟩ := u64_wf hv
  have bs := Bytes.of_wf hs
  have br := Bytes.of_wf hr
  refine ⟨40, ?_⟩
  unfold touchstonelaw1_OctetBack.f
  rw [begun_is (by omega), Option.bind_some, if_pos rfl]
  by_cases h1 : (s.length : Int) > 16384
  · rw [if_pos h1, touchstonelaw1_OctetBack.j0, if_pos rfl]
  rw [if_neg h1, touchstonelaw1_OctetBack.j0]
  by_cases h2 : (rest.length : Int) > 16384
  · rw [if_pos (by simpa using h2)]
  have lv := lay_length v
  have ls := lay_length s.length
  rw [if_neg (by simpa using h2), var_is (by omega) v0 v1 (by simp), Option.bind_some, text_is (by omega) (by simp) (by omega), Option.bind_some, eight_is (by omega) v0 v1 (by simp), Option.bind_some]
  simp only [List.nil_append]
  have b1 := lay_bytes v0 v1
  have b2 := lay_bytes (v := s.length) (by omega) (by omega)
  rw [if_pos (by omega), takeVar_is (by omega) (b1.append br) (by simp; omega), Option.bind_some, if_pos (by simp; omega), takeText_is (by omega) ((b2.append bs).append br) (by simp; omega) (by omega) (by omega), Option.bind_some, if_pos (by simp [eight]; omega), takeEight_is (by omega) ((eight_bytes v).append br), Option.bind_some]
  rw [tk_lay rest v0 v1, tkText_lay (Int.le_refl _) (by omega), if_neg (show ¬ (eight v ++ rest).length < 8 by simp [eight])]
  have e8 : (eight v ++ rest).take 8 = eight v := List.take_left' rfl
  rw [e8, back8_eight v0 v1]
  simp
end Go.Proofs.Ytaoapdcdnjmoiaa.Pure
