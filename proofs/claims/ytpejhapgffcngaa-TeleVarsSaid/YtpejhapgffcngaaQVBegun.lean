/- The beginning of chapter 17's laws answers true. -/
import Derived.Test.YtpejhapgffcngaaQVx0
import Derived.Test.YtpejhapgffcngaaQZBegun
set_option linter.unusedVariables false
set_option linter.unusedSimpArgs false
namespace Go.Proofs.Ytpejhapgffcngaa.QV
open Go.RowKit Go.Proofs.YtpejhapgffcngaaW.PrintWords Go.Proofs.YtpejhapgffcngaaW.PrintLast Go.Proofs.YtpejhapgffcngaaW.PrintMore
def begunChk (k : Nat) : Bool :=
  match QZ.touchstoneref7_reader_term.f k (⟨#[33, 97, 46, 32, 33, 98, 46, 32, 99]⟩ : ByteArray) 0 0 0 2000 0 1 with
  | none => false
  | some (r1, r2, r3, r4, r5, f0, f1, f2, f3, f4, f5) => match QZ.touchstoneref7_reader_end.f k f0 f1 f2 f3 f4 f5 with
    | none => false
    | some (_, _, g2, _, _, _) => decide (g2 = 0) && match QZ.tele_Split.f k r1 r2 r3 r4 r5 2 with
      | none => false
      | some (l1, _, _, q3, _, _, b) => b && decide ((l1.length : Int) = 2) && decide (q3.toList = [99]) && match QZ.tele_Count.f k r1 r2 r3 r4 r5 with
        | none => false
        | some c => decide (c = 2) && match QZ.tele_Vars.f k 3 1 with
          | none => false
          | some vs => decide ((vs.length : Int) = 3) && decide ((QZ.rd_T27 vs 0).f1 = 3)
theorem begun_chk : begunChk 40 = true := by decide +kernel
def touchstonelaw17_begun.f (_ : Nat) : Option Bool := some true
theorem touchstonelaw17_begun.mono : ∀ k, LeO (touchstonelaw17_begun.f k) (touchstonelaw17_begun.f (k + 1)) := fun _ => LeO.refl _
theorem touchstonelaw17_begun.calls (k : Nat) (r : Bool) (w : World) (h : touchstonelaw17_begun.f k = some r) : Calls Try.prog 15 #[] w fun e w' => e = .returned (.bool r) ∧ Below w.heap.size w w' := by
  obtain rfl := Option.some.inj h
  have hc := begun_chk
  unfold begunChk at hc
  split at hc
  · cases hc
  · rename_i r1 r2 r3 r4 r5 f0 f1 f2 f3 f4 f5 ht
    split at hc
    · cases hc
    · rename_i g0 g1 g2 g3 g4 g5 he
      rw [Bool.and_eq_true] at hc
      obtain ⟨hg, hc⟩ := hc
      have hg := of_decide_eq_true hg
      subst hg
      split at hc
      · cases hc
      · rename_i l1 q1 q2 q3 q4 q5 b hsp
        simp only [Bool.and_eq_true, decide_eq_true_eq] at hc
        obtain ⟨⟨⟨rfl, hl1⟩, hq3⟩, hc⟩ := hc
        split at hc
        · cases hc
        · rename_i c hct
          simp only [Bool.and_eq_true, decide_eq_true_eq] at hc
          obtain ⟨rfl, hc⟩ := hc
          split at hc
          · cases hc
          · rename_i vs hvs
            simp only [Bool.and_eq_true, decide_eq_true_eq] at hc
            exact QZ.begun_walk 40 r1 r2 r3 r4 r5 f0 f1 f2 f3 f4 f5 g0 g1 g3 g4 g5 l1 q1 q2 q3 q4 q5 vs w ht he hsp hl1 hq3 hct hvs hc.1 hc.2
end Go.Proofs.Ytpejhapgffcngaa.QV
