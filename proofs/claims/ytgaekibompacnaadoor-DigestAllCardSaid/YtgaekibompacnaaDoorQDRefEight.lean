/- What the reference's Eight answers. -/
import Derived.Test.YtgaekibompacnaaDoorQDx1
import Derived.Test.YtgaekibompacnaaDoorOctetMath
set_option linter.unusedVariables false
set_option linter.unusedSimpArgs false
namespace Go.Proofs.YtgaekibompacnaaDoor.QD
open Go.RowKit Go.Proofs.YtgaekibompacnaaDoorW.PrintWords Go.Proofs.YtgaekibompacnaaDoorW.PrintLast Go.Proofs.YtgaekibompacnaaDoorW.PrintMore Go.Proofs.YtgaekibompacnaaDoor.OctetMath

theorem refEight_is {k : Nat} {l : List Int} {v : Int} (hk : 10 ≤ k) (h0 : 0 ≤ v) (h1 : v < 18446744073709551616) (hl : l.length ≤ 140737488351232) : touchstoneref1_Eight.f k l v = some (l ++ eight v) := by
  obtain ⟨k, rfl⟩ : ∃ m, k = m + 10 := ⟨k - 10, by omega⟩
  unfold touchstoneref1_Eight.f
  rw [if_pos (by omega)]
  have st : ∀ j (s : Int) (x : List Int) (i : Int), 0 ≤ i → i ≤ 7 → x.length = 8 → 0 ≤ s → s < 18446744073709551616 → touchstoneref1_Eight.l0 (j + 1) l s x i = touchstoneref1_Eight.l0 j l (s / 256) (x.set i.toNat (s % 256)) (i - 1) := by
    intro j s x i hi0 hi1 hx hs0 hs1
    rw [touchstoneref1_Eight.l0, if_pos (by omega), if_pos (by omega), if_pos (by omega), Int.tdiv_eq_ediv_of_nonneg hs0, Int.tmod_eq_emod_of_nonneg hs0, wrap_u64 (by omega) (by omega), wrap64_id (by omega) (by omega), show s % 256 % 256 = s % 256 by omega]
  rw [st _ _ _ _ (by omega) (by omega) (by simp) (by omega) (by omega), st _ _ _ _ (by omega) (by omega) (by simp) (by omega) (by omega), st _ _ _ _ (by omega) (by omega) (by simp) (by omega) (by omega), st _ _ _ _ (by omega) (by omega) (by simp) (by omega) (by omega), st _ _ _ _ (by omega) (by omega) (by simp) (by omega) (by omega), st _ _ _ _ (by omega) (by omega) (by simp) (by omega) (by omega), st _ _ _ _ (by omega) (by omega) (by simp) (by omega) (by omega), st _ _ _ _ (by omega) (by omega) (by simp) (by omega) (by omega)]
  rw [touchstoneref1_Eight.l0, if_neg (by omega)]
  simp only [Option.bind_some, List.nil_append, List.length_nil, Nat.zero_add]
  rw [if_pos (by omega), if_pos (by simp; omega)]
  simp only [eight, List.replicate, Int.reducePow, Int.reduceSub, Int.reduceToNat, List.set_cons_zero, List.set_cons_succ, show (7 : Int).toNat = 7 from rfl, show (6 : Int).toNat = 6 from rfl, show (5 : Int).toNat = 5 from rfl, show (4 : Int).toNat = 4 from rfl, show (3 : Int).toNat = 3 from rfl, show (2 : Int).toNat = 2 from rfl, show (1 : Int).toNat = 1 from rfl, show (0 : Int).toNat = 0 from rfl]
  congr 2
  simp only [List.cons.injEq, and_true]
  repeat' (first | apply And.intro | omega)
end Go.Proofs.YtgaekibompacnaaDoor.QD
