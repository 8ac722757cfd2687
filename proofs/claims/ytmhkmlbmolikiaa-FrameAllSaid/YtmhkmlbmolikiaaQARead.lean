/- What the document's read answers: the frames that are read off the bytes. -/
import Derived.Test.YtmhkmlbmolikiaaQARefPure2
import Derived.Test.YtmhkmlbmolikiaaQFFed
import Derived.Test.YtmhkmlbmolikiaaQAx1
set_option linter.unusedVariables false
set_option linter.unusedSimpArgs false
namespace Go.Proofs.Ytmhkmlbmolikiaa.QA
open Go.RowKit Go.Proofs.YtmhkmlbmolikiaaW.PrintWords Go.Proofs.YtmhkmlbmolikiaaW.PrintLast Go.Proofs.YtmhkmlbmolikiaaW.PrintMore Go.Proofs.Ytmhkmlbmolikiaa.FrameMath Go.Proofs.Ytmhkmlbmolikiaa.OctetMath

theorem readL_fed {y : List Int} {fs : List (List Int)} {r : List Int} {e : Int} (h : Fed y fs r e) : ∀ (k : Nat) (x0 : List Int) (acc : List (List Int)) (a : Nat), y = x0.drop a → a ≤ x0.length → Bytes x0 → x0.length ≤ 100000000000 → acc.length + fs.length ≤ 1000000000000 → fs.length + 25 ≤ k →
    ∃ a' : Nat, touchstoneref3_read.l0 k x0 acc a = some (acc ++ fs, (a' : Int), QF.told e) ∧ x0.drop a' = r ∧ a' ≤ x0.length := by
  induction h with
  | stop y e h1 h2 =>
    intro k x0 acc a hy ha hb hl hf hk
    obtain ⟨k, rfl⟩ : ∃ m, k = m + 1 := ⟨k - 1, by omega⟩
    refine ⟨a, ?_, hy.symm, ha⟩
    rw [touchstoneref3_read.l0, if_pos (by omega), if_pos (by omega), Int.toNat_natCast, ← hy, refTakeText_is (by simp only [List.length_nil] at hk; omega) (by rw [hy]; exact hb.drop _) (by rw [hy, List.length_drop]; omega) (by omega) (by omega), Option.bind_some, h1, List.append_nil]
    by_cases h : e = 2
    · rw [if_pos h, h]; rfl
    · rw [if_neg h, if_neg h2, show QF.told e = e from if_neg h]
  | more y t n fs r e h1 h2 ih =>
    intro k x0 acc a hy ha hb hl hf hk
    obtain ⟨k, rfl⟩ : ∃ m, k = m + 1 := ⟨k - 1, by omega⟩
    simp only [List.length_cons] at hf hk
    have hby : Bytes y := by rw [hy]; exact hb.drop _
    have ok := tkText_ok hby (by rw [h1])
    rw [h1] at ok
    simp only at ok
    have hyl : y.length = x0.length - a := by rw [hy, List.length_drop]
    obtain ⟨a', h3, h4⟩ := ih k x0 (acc ++ [t]) (a + n.toNat) (by rw [hy, List.drop_drop]) (by omega) hb hl (by simp only [List.length_append, List.length_singleton]; omega) (by omega)
    refine ⟨a', ?_, h4⟩
    rw [touchstoneref3_read.l0, if_pos (by omega), if_pos (by omega), Int.toNat_natCast, ← hy, refTakeText_is (by omega) hby (by omega) (by omega) (by omega), Option.bind_some, h1]
    simp only
    rw [if_neg (by omega), if_pos trivial, if_pos (by omega), wrap64_id (by omega) (by omega), show (a : Int) + n = ((a + n.toNat : Nat) : Int) by omega, h3, List.append_assoc]
    rfl
/-- What read answers for bytes that are read so. -/
theorem read_is {y : List Int} {fs : List (List Int)} {r : List Int} {e : Int} (h : Fed y fs r e) (hb : Bytes y) (hl : y.length ≤ 100000000000) : ∃ a : Nat, touchstoneref3_read.f (fs.length + 25) y = some (fs, (a : Int), QF.told e) ∧ y.length = a + r.length := by
  have hlen := h.len hb
  obtain ⟨a', h1, h2, h3⟩ := readL_fed h (fs.length + 25) y [] 0 (by simp) (by omega) hb hl (by simp only [List.length_nil]; omega) (Nat.le_refl _)
  refine ⟨a', h1, ?_⟩
  rw [← h2, List.length_drop]
  omega
end Go.Proofs.Ytmhkmlbmolikiaa.QA
