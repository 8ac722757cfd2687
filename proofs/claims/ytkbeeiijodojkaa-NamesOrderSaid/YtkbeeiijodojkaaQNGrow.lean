/- slices.Grow of nil, in the printed form. -/
import Derived.Test.YtkbeeiijodojkaaQNx0
set_option linter.unusedVariables false
set_option linter.unusedSimpArgs false
namespace Go.Proofs.Ytkbeeiijodojkaa.QN
open Go.RowKit Go.Proofs.YtkbeeiijodojkaaW.PrintWords Go.Proofs.YtkbeeiijodojkaaW.PrintLast Go.Proofs.YtkbeeiijodojkaaW.PrintMore
attribute [local go_sem] max2_int min2_int max_two min_two max_three min_three max_four min_four

def slices_Grow_string_string.f (_ : List ByteArray) (n : Int) : Option (List ByteArray) := if 0 ≤ n ∧ n ≤ 10000 then some [] else none
set_option maxHeartbeats 8000000 in
set_option maxRecDepth 100000 in
/-- Of nil (whatever row the first three stand for). -/
theorem slices_Grow_string_string.calls (A0 : Option Addr) (c0 : Nat) (l0 : List ByteArray) (a1 : Int) (r : List ByteArray) (w : World) (hr0 : Kd.C Kd.string w A0 l0.length l0) (hc0 : l0.length ≤ c0) (h : slices_Grow_string_string.f l0 a1 = some r) :
    Calls Try.prog 27 #[.slice none 0 0, .int .i64 a1] w fun e w' => ∃ v0_ : Value, e = .returned (v0_) ∧ Kd.R Kd.string 9 w' w.heap.size (fun _ => True) v0_ r ∧ Below w.heap.size w w' := by
  unfold slices_Grow_string_string.f at h
  split at h
  case isFalse => cases h
  case isTrue hn =>
  obtain rfl := Option.some.inj h
  clear h hr0 hc0
  obtain ⟨h0, h1⟩ := hn
  have hu := Try.underlying22
  have c1 : decide (a1 < 0) = false := decide_eq_false (by omega)
  have e1 : wrap64 a1 = a1 := by unfold wrap64; omega
  obtain ⟨i0, hi0, _⟩ := Option.map_eq_some_iff.1 info9
  have h1' := Aside0.mk h1
  have h0w : Aside0 (0 ≤ wrap64 a1) := ⟨by rw [e1]; exact h0⟩
  by_cases hz : 0 < a1
  · have c2 : decide (0 < a1) = true := decide_eq_true hz
    clear hz h0 h1
    go_enter Try.func27, Try.ntmps27
    go_wp2_with (first | (at_builtin; refine Kd.R_append_zeros Kd.string (w0 := w) w.heap.size rfl (.tmp 20) (.tmp 21) 22 3 9 (.string ⟨#[]⟩) 16 rfl Try.underlying22 Try.underlying3 info9 rfl (by decide) (by omega) (.slice none 0 0) [] (⟨#[]⟩ : ByteArray) (wrap64 a1) (fun _ => True) rfl rfl rfl ?aF ?aO h0w.out ?aB ?aS ?aL ?_; (case aF => exact fun _ _ => trivial); (case aO => exact Kd.R_nil _ _ _ _ _); (case aB => exact Below.refl _ _); (case aS => exact Nat.le_refl _); (case aL => have := h1'.out; rw [e1]; simp; omega); intro v1 w1 hR HB hg_ hn_; rw [e1, show ([] : List ByteArray) ++ List.replicate a1.toNat (⟨#[]⟩ : ByteArray) = List.replicate a1.toNat (⟨#[]⟩ : ByteArray) from rfl] at hR; obtain ⟨A, c, rfl⟩ := Kd.R_slice hR; have HB1 := Aside0.mk HB; have hlen := (Kd.R_reads' hR).2.1; have hcut := cut_to (P := Try.prog) 22 9 .i64 Try.underlying22 hi0 A (List.replicate a1.toNat (⟨#[]⟩ : ByteArray)).length c 0 (Int.le_refl 0) (Int.natCast_nonneg _) hlen; have HR := Aside0.mk hR; clear hR HB hg_ hn_ hlen))
    go_ret
    exact ⟨_, rfl, Kd.R_take (m := 0) HR.out (Nat.zero_le _), HB1.out⟩
  · have c2 : decide (0 < a1) = false := decide_eq_false hz
    have : a1 = 0 := by omega
    subst this
    clear hz h0 h1
    go_enter Try.func27, Try.ntmps27
    go_wp2
    go_ret
    exact ⟨_, rfl, Kd.R_nil _ _ _ _ _, Below.refl _ _⟩
end Go.Proofs.Ytkbeeiijodojkaa.QN
