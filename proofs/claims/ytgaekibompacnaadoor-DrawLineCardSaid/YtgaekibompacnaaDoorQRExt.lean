/- What the printed texts of draw call: the contracts of digest's First and of the document's, as the printing program wants them. -/
import Derived.Test.YtgaekibompacnaaDoorQDShaFirst
set_option linter.unusedVariables false
namespace Go.Proofs.YtgaekibompacnaaDoor.QR
open Go.RowKit Go.Proofs.YtgaekibompacnaaDoorW.PrintWords Go.Proofs.YtgaekibompacnaaDoorW.PrintLast Go.Proofs.YtgaekibompacnaaDoorW.PrintMore
export QD (Laid Laid.below AllBy hi8 lo8)
def digest_First.f (l : List Int) : Option (Int × Int) := if l.length ≤ 1000000 then some (QD.hi8 l, QD.lo8 l) else none
theorem digest_First.calls (A0 : Option Addr) (c0 : Nat) (l0 : List Int) (r1 r2 : Int) (w : World) (hlaid : QD.Laid w) (hr0 : Kd.C (Kd.int .u8) w A0 l0.length l0) (hc0 : l0.length ≤ c0) (h : digest_First.f l0 = some (r1, r2)) :
    Calls Tryd.prog 18 #[.slice A0 l0.length c0] w fun e w' => e = .returned (.agg #[.int .u64 r1, .int .u64 r2]) ∧ Below w.heap.size w w' := by
  unfold digest_First.f at h
  by_cases hl : l0.length ≤ 1000000
  · rw [if_pos hl] at h
    simp only [Option.some.injEq, Prod.mk.injEq] at h
    rw [← h.1, ← h.2]
    exact QD.first_calls A0 c0 l0 w hlaid hr0 hc0 hl
  · rw [if_neg hl] at h
    exact absurd h (by simp)
def bytesB (l : List Int) : Bool := l.all fun x => decide (0 ≤ x) && decide (x < 256)
theorem bytesB_is {l : List Int} : bytesB l = true ↔ QD.AllBy l := by
  unfold bytesB QD.AllBy
  simp [List.all_eq_true]
def touchstoneref2_First.f (l : List Int) : Option (Int × Int) := if l.length ≤ 1000000 then (if bytesB l = true then some (QD.hi8 l, QD.lo8 l) else none) else none
theorem touchstoneref2_First.calls (A0 : Option Addr) (c0 : Nat) (l0 : List Int) (r1 r2 : Int) (w : World) (hr0 : Kd.C (Kd.int .u8) w A0 l0.length l0) (hc0 : l0.length ≤ c0) (h : touchstoneref2_First.f l0 = some (r1, r2)) :
    Calls Tryd.prog 19 #[.slice A0 l0.length c0] w fun e w' => e = .returned (.agg #[.int .u64 r1, .int .u64 r2]) ∧ Below w.heap.size w w' := by
  unfold touchstoneref2_First.f at h
  by_cases hl : l0.length ≤ 1000000
  · rw [if_pos hl] at h
    by_cases hb : bytesB l0 = true
    · rw [if_pos hb] at h
      simp only [Option.some.injEq, Prod.mk.injEq] at h
      rw [← h.1, ← h.2]
      exact QD.refFirst_calls A0 c0 l0 w hr0 hc0 hl (bytesB_is.1 hb)
    · rw [if_neg hb] at h
      exact absurd h (by simp)
  · rw [if_neg hl] at h
    exact absurd h (by simp)
end Go.Proofs.YtgaekibompacnaaDoor.QR
