/- What draw's functions answer. -/
import Derived.Test.YtgaekibompacnaaDoorQREight
import Derived.Test.YtgaekibompacnaaDoorQRRefEight
import Derived.Test.YtgaekibompacnaaDoorQRExt
import Derived.Test.YtgaekibompacnaaDoorQRx4
import Derived.Test.YtgaekibompacnaaDoorQRx5
import Derived.Test.YtgaekibompacnaaDoorQRx6
import Derived.Test.YtgaekibompacnaaDoorQRx7
set_option linter.unusedVariables false
set_option linter.unusedSimpArgs false
namespace Go.Proofs.YtgaekibompacnaaDoor.QR
open Go.RowKit Go.Proofs.YtgaekibompacnaaDoorW.PrintWords Go.Proofs.YtgaekibompacnaaDoorW.PrintLast Go.Proofs.YtgaekibompacnaaDoorW.PrintMore
/-- A 64-bit number. -/
def Dw (x : Int) : Prop := 0 ≤ x ∧ x < 18446744073709551616
/-- The text of a draw. -/
def two (s c : Int) : List Int := OctetMath.eight s ++ OctetMath.eight c
theorem two_by {s c : Int} (hs : Dw s) (hc : Dw c) : QD.AllBy (two s c) := fun x hx => (List.mem_append.1 hx).elim (QD.eight_by s hs.1 x) (QD.eight_by c hc.1 x)
theorem two_len (s c : Int) : (two s c).length = 16 := rfl
theorem first_is {l : List Int} (h : l.length ≤ 1000000) : digest_First.f l = some (QD.hi8 l, QD.lo8 l) := by
  unfold digest_First.f
  rw [if_pos h]
theorem refFirst_is {l : List Int} (h : l.length ≤ 1000000) (hb : QD.AllBy l) : touchstoneref2_First.f l = some (QD.hi8 l, QD.lo8 l) := by
  unfold touchstoneref2_First.f
  rw [if_pos h, if_pos (bytesB_is.2 hb)]
theorem eight_two {k : Nat} {s c : Int} (hk : 10 ≤ k) (hc : Dw c) : octet_Eight.f k (OctetMath.eight s) c = some (two s c) := eight_is hk hc.1 hc.2 (by rw [show (OctetMath.eight s).length = 8 from rfl]; omega)
theorem refEight_two {k : Nat} {s c : Int} (hk : 10 ≤ k) (hc : Dw c) : touchstoneref1_Eight.f k (OctetMath.eight s) c = some (two s c) := refEight_is hk hc.1 hc.2 (by rw [show (OctetMath.eight s).length = 8 from rfl]; omega)
theorem eight_one {k : Nat} {s : Int} (hk : 10 ≤ k) (hs : Dw s) : octet_Eight.f k [] s = some (OctetMath.eight s) := eight_is hk hs.1 hs.2 (by rw [List.length_nil]; omega)
theorem refEight_one {k : Nat} {s : Int} (hk : 10 ≤ k) (hs : Dw s) : touchstoneref1_Eight.f k [] s = some (OctetMath.eight s) := refEight_is hk hs.1 hs.2 (by rw [List.length_nil]; omega)
theorem next_is {k : Nat} {s c : Int} (hk : 10 ≤ k) (hs : Dw s) (hc : Dw c) : draw_Draws_Next.f k s c = some (QD.hi8 (two s c), QD.lo8 (two s c), s, IntKind.u64.wrap (c + 1)) := by
  unfold draw_Draws_Next.f
  rw [eight_one hk hs, Option.bind_some, eight_two hk hc, Option.bind_some, first_is (by rw [two_len]; omega), Option.bind_some]
theorem draw_is {k : Nat} {s c : Int} (hk : 10 ≤ k) (hs : Dw s) (hc : Dw c) : touchstoneref24_Draw.f k s c = some (QD.hi8 (two s c), QD.lo8 (two s c)) := by
  unfold touchstoneref24_Draw.f
  rw [refEight_one hk hs, Option.bind_some, refEight_two hk hc, Option.bind_some, refFirst_is (by rw [two_len]; omega) (two_by hs hc), Option.bind_some]
theorem cmp_is (a b : Int) : cmp_Compare_uint64.f a b = some (if a < b then -1 else if b < a then 1 else 0) := by
  unfold cmp_Compare_uint64.f cmp_isNaN_uint64.f
  simp only [bne_self_eq_false, Option.bind_some, Bool.false_eq_true, if_false]
  by_cases h : a < b
  · simp [h]
  · by_cases h2 : b < a
    · simp [h, h2]
    · simp [h, h2]
theorem or_is {k : Nat} (hk : 4 ≤ k) (a b : Int) : cmp_Or_int.f k [a, b] = some (if a = 0 then b else a) := by
  obtain ⟨k, rfl⟩ : ∃ m, k = m + 4 := ⟨k - 4, by omega⟩
  have w0 : wrap64 (0 + 1) = 1 := OctetMath.wrap64_id (by decide) (by decide)
  have w1 : wrap64 (1 + 1) = 2 := OctetMath.wrap64_id (by decide) (by decide)
  have r0 : rd [a, b] 0 = a := rfl
  have r1 : rd [a, b] 1 = b := rfl
  unfold cmp_Or_int.f
  simp only [cmp_Or_int.l0, List.length_cons, List.length_nil, w0, w1, r0, r1]
  by_cases h : a = 0
  · by_cases h2 : b = 0
    · simp [h, h2]
    · simp [h, h2]
  · simp [h]
/-- A handle is ahead of another one. -/
def lessB (a b c d : Int) : Bool := decide (a < c) || (a == c && decide (b < d))
theorem less_is {k : Nat} (hk : 4 ≤ k) (a b c d : Int) : draw_Less.f k a b c d = some (lessB a b c d) := by
  unfold draw_Less.f
  rw [cmp_is, cmp_is]
  simp only [Option.bind_some]
  rw [or_is hk]
  simp only [Option.bind_some, lessB]
  congr 1
  by_cases h1 : a < c
  · simp [h1]
  · by_cases h2 : c < a
    · have h3 : ¬ a = c := by omega
      simp [h1, h2, h3]
    · have h3 : a = c := by omega
      subst h3
      by_cases h4 : b < d
      · simp [h4]
      · by_cases h5 : d < b
        · simp [h4, h5]
        · simp [h4, h5]
theorem apart7 : (QD.hi8 (two 7 0) == QD.hi8 (two 7 1)) = false := by decide +kernel
theorem begun_is {k : Nat} (hk : 10 ≤ k) : touchstonelaw22_begun.f k = some true := by
  have d7 : Dw 7 := ⟨by decide, by decide⟩
  have d0 : Dw 0 := ⟨by decide, by decide⟩
  have d1 : Dw 1 := ⟨by decide, by decide⟩
  have w1 : IntKind.u64.wrap (0 + 1) = 1 := by decide
  have w2 : IntKind.u64.wrap (1 + 1) = 2 := by decide
  unfold touchstonelaw22_begun.f draw_New.f
  simp only [Option.bind_some]
  rw [next_is hk d7 d0]
  simp only [Option.bind_some, w1]
  rw [next_is hk d7 d1]
  simp only [Option.bind_some, w2, apart7]
  simp only [Bool.not_false, Bool.true_or, if_true]
  rw [draw_is hk d7 d0]
  simp only [Option.bind_some, beq_self_eq_true, Bool.and_self, if_true]
  rw [less_is (by omega)]
  rfl
end Go.Proofs.YtgaekibompacnaaDoor.QR
