/- DrawLine: what the printed functions answer is true. -/
import Derived.Test.YtgaekibompacnaaDoorQRMath
import Derived.Test.YtgaekibompacnaaDoorQRx10
set_option linter.unusedVariables false
set_option linter.unusedSimpArgs false
namespace Go.Proofs.YtgaekibompacnaaDoor.Pure
open Go.RowKit Go.Proofs.YtgaekibompacnaaDoor.QR Go.Proofs.YtgaekibompacnaaDoorW.PrintWords Go.Proofs.YtgaekibompacnaaDoorW.PrintLast Go.Proofs.YtgaekibompacnaaDoorW.PrintMore
theorem less_iff (a b c d : Int) : lessB a b c d = true ↔ (a < c ∨ (a = c ∧ b < d)) := by simp [lessB]
theorem DrawLine (a b c d e f : Int) : ∃ k, touchstonelaw22_DrawLine.f k a b c d e f = some true := by
  obtain ⟨K, hK⟩ : ∃ K : Nat, K = 50 := ⟨_, rfl⟩
  refine ⟨K, ?_⟩
  have l1 := less_is (k := K) (by omega) a b c d
  have l2 := less_is (k := K) (by omega) c d a b
  have l3 := less_is (k := K) (by omega) c d e f
  have l4 := less_is (k := K) (by omega) a b e f
  have i1 := less_iff a b c d
  have i2 := less_iff c d a b
  have i3 := less_iff c d e f
  have i4 := less_iff a b e f
  have ie : (a == c && (b == d)) = true ↔ (a = c ∧ b = d) := by simp
  unfold touchstonelaw22_DrawLine.f
  rw [begun_is (by omega), Option.bind_some, if_pos rfl]
  generalize lessB a b c d = x1 at *
  generalize lessB c d a b = x2 at *
  generalize lessB c d e f = x3 at *
  generalize lessB a b e f = x4 at *
  generalize (a == c && (b == d)) = x5 at *
  simp only [l1, l2, l3, l4, Option.bind_some]
  have hx : ¬ (x1 = true ∧ x2 = true) := by rw [i1, i2]; omega
  have hy : x5 = true ↔ ¬ (x1 = true) ∧ ¬ (x2 = true) := by rw [i1, i2, ie]; omega
  have hz : x1 = true → x3 = true → x4 = true := by rw [i1, i3, i4]; omega
  clear i1 i2 i3 i4 ie l1 l2 l3 l4 hK
  revert x1 x2 x3 x4 x5
  decide
end Go.Proofs.YtgaekibompacnaaDoor.Pure
namespace Go.Proofs.YtgaekibompacnaaDoor.QR
open Go.RowKit Go.Proofs.YtgaekibompacnaaDoorW.PrintWords Go.Proofs.YtgaekibompacnaaDoorW.PrintLast Go.Proofs.YtgaekibompacnaaDoorW.PrintMore
theorem touchstonelaw22_DrawLine.walk (a b c d e f : Int) (w : World) (hlaid : QD.Laid w) :
    Calls Tryd.prog 8 #[.agg #[.int .u64 a, .int .u64 b], .agg #[.int .u64 c, .int .u64 d], .agg #[.int .u64 e, .int .u64 f]] w fun e w' => e = .returned (.bool true) ∧ Below w.heap.size w w' := by
  obtain ⟨k, h⟩ := Pure.DrawLine a b c d e f
  exact touchstonelaw22_DrawLine.calls k a b c d e f true w hlaid h
end Go.Proofs.YtgaekibompacnaaDoor.QR
