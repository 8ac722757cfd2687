/- OctetCuts: a number, a text, eight bytes that are cut off anywhere are told as too short; for all numbers, cuts, and texts of at most 300 bytes (beyond them the law answers true by itself). -/
import Derived.Test.YtaoapdcdnjmoiaaQCx3
import Derived.Test.YtaoapdcdnjmoiaaQCOctetPure2
import Derived.Test.YtaoapdcdnjmoiaaQCOctetBegun
import Derived.Test.YtaoapdcdnjmoiaaQCRefPure1
set_option linter.unusedVariables false
set_option linter.unusedSimpArgs false
namespace Go.Proofs.Ytaoapdcdnjmoiaa.Pure
open Go.RowKit Go.Proofs.Ytaoapdcdnjmoiaa.QC Go.Proofs.YtaoapdcdnjmoiaaW.PrintWords Go.Proofs.YtaoapdcdnjmoiaaW.PrintLast Go.Proofs.YtaoapdcdnjmoiaaW.PrintMore Go.Proofs.Ytaoapdcdnjmoiaa.OctetMath

theorem tkText_cut {s : List Int} {most : Int} (hl : (s.length : Int) ≤ most) (hs : (s.length : Int) < 18446744073709551616) {m : Nat} (hm : m < (lay s.length ++ s).length) :
    tkText ((lay s.length ++ s).take m) most = ([], 0, 2) := by
  unfold tkText
  rcases Nat.lt_or_ge m (lay s.length).length with h | h
  · rw [List.take_append_of_le_length (by omega), show tk ((lay s.length).take m) 0 0 = (0, 0, 2) from tk_cut 9 0 s.length 0 m rfl (by omega) h, if_neg (by decide)]
  · have e : (lay s.length ++ s).take m = lay s.length ++ s.take (m - (lay s.length).length) := by
      rw [List.take_append, List.take_of_length_le h]
    rw [e, tk_lay _ (by omega) hs, if_pos rfl]
    simp only [List.length_append] at hm
    rw [if_neg (by simp only; split <;> omega), if_pos (by simp only [List.length_append, List.length_take]; omega)]

theorem OctetCuts : touchstonelaw1_OctetCuts.Pure := by
  intro v s cut hv hs1 hs2 hs hc
  obtain ⟨v0, v1⟩ := u64_wf hv
  have bs := Bytes.of_wf hs
  have hc' : 0 ≤ cut ∧ cut < 65536 := by
    simp [Lit.wf, IntKind.min, IntKind.max, IntKind.bits, IntKind.signed] at hc
    omega
  refine ⟨40, ?_⟩
  unfold touchstonelaw1_OctetCuts.f
  rw [begun_is (by omega), Option.bind_some, if_pos rfl]
  by_cases h1 : (s.length : Int) > 300
  · rw [if_pos h1]
  have lv := lay_length v
  have ls := lay_length s.length
  have b1 := lay_bytes v0 v1
  have b2 := (lay_bytes (v := s.length) (by omega) (by omega)).append bs
  rw [if_neg h1, var_is (by omega) v0 v1 (by simp), Option.bind_some, text_is (by omega) (by simp) (by omega), Option.bind_some]
  simp only [List.nil_append]
  rw [wrap64_id (n := cut) (by omega) (by omega), Int.tmod_eq_emod_of_nonneg hc'.1, Int.tmod_eq_emod_of_nonneg hc'.1, Int.tmod_eq_emod_of_nonneg hc'.1]
  obtain ⟨m1, hm1, hm1'⟩ : ∃ m : Nat, cut % ((lay v).length : Int) = (m : Int) ∧ m < (lay v).length := by
    have := Int.emod_nonneg cut (show ((lay v).length : Int) ≠ 0 by omega)
    have := Int.emod_lt_of_pos cut (show 0 < ((lay v).length : Int) by omega)
    exact ⟨(cut % ((lay v).length : Int)).toNat, by omega, by omega⟩
  have hll : (lay s.length ++ s).length = (lay s.length).length + s.length := List.length_append
  obtain ⟨m2, hm2, hm2'⟩ : ∃ m : Nat, cut % ((lay s.length ++ s).length : Int) = (m : Int) ∧ m < (lay s.length ++ s).length := by
    have := Int.emod_nonneg cut (show ((lay s.length ++ s).length : Int) ≠ 0 by omega)
    have := Int.emod_lt_of_pos cut (show 0 < ((lay s.length ++ s).length : Int) by omega)
    exact ⟨(cut % ((lay s.length ++ s).length : Int)).toNat, by omega, by omega⟩
  obtain ⟨m3, hm3, hm3'⟩ : ∃ m : Nat, cut % 8 = (m : Int) ∧ m < 8 := ⟨(cut % 8).toNat, by omega, by omega⟩
  rw [hm1, hm2, hm3, if_neg (by omega), if_pos (by omega), if_pos (by omega)]
  simp only [Int.toNat_natCast]
  rw [takeVar_is (by omega) (b1.take m1) (by simp; omega), Option.bind_some, if_neg (by omega), if_pos (by omega), if_pos (by omega), takeText_is (by omega) (b2.take m2) (by rw [List.length_take]; omega) (by omega) (by omega), Option.bind_some]
  rw [eight_is (by omega) v0 v1 (by simp), Option.bind_some]
  simp only [List.nil_append]
  have l8 : (eight v).length = 8 := rfl
  rw [if_pos (by omega), if_pos (by omega), takeEight_is (by omega) ((eight_bytes v).take m3), Option.bind_some]
  rw [show tk ((lay v).take m1) 0 0 = (0, 0, 2) from tk_cut 9 0 v 0 m1 rfl v0 hm1', tkText_cut (by omega) (by omega) hm2', if_pos (show ((eight v).take m3).length < 8 by rw [List.length_take]; omega)]
  dsimp only
  rw [if_pos rfl, if_pos rfl, if_pos rfl, if_pos rfl, if_pos (show (([] : List Int).length : Int) = 0 from rfl), if_pos rfl, refText_is (by omega) (by simp) (by omega), Option.bind_some]
  simp
end Go.Proofs.Ytaoapdcdnjmoiaa.Pure
