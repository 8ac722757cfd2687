/- DrawAll: what the printed functions answer is true. -/
import Derived.Test.YtgaekibompacnaaDoorQRMath
import Derived.Test.YtgaekibompacnaaDoorQRx8
set_option linter.unusedVariables false
set_option linter.unusedSimpArgs false
namespace Go.Proofs.YtgaekibompacnaaDoor.Pure
open Go.RowKit Go.Proofs.YtgaekibompacnaaDoor.QR Go.Proofs.YtgaekibompacnaaDoorW.PrintWords Go.Proofs.YtgaekibompacnaaDoorW.PrintLast Go.Proofs.YtgaekibompacnaaDoorW.PrintMore
theorem all_step {k : Nat} {s c a2 p q r t i m h l c1 i1 : Int} (hm : Int.tmod a2 20 = m) (hm1 : wrap64 m = m) (hlt : i < m) (hn : draw_Draws_Next.f k s c = some (h, l, s, c1)) (hd : touchstoneref24_Draw.f k s c = some (h, l)) (hc : IntKind.u64.wrap (c + 1) = c1) (hw : wrap64 (i + 1) = i1) :
    touchstonelaw22_DrawAll.l0 (k + 1) s c a2 i p q r t s c = touchstonelaw22_DrawAll.l0 k s c1 a2 i1 p q r t s c1 := by
  rw [touchstonelaw22_DrawAll.l0, hm, hm1, if_pos hlt, hn, Option.bind_some, hd, Option.bind_some]
  simp only [beq_self_eq_true, Bool.not_true, Bool.or_self, Bool.false_eq_true, if_false, if_true, hc, hw]
theorem all_end {k : Nat} {s c a2 p q r t i m : Int} (hk : 4 ≤ k) (hm : Int.tmod a2 20 = m) (hm1 : wrap64 m = m) (hlt : ¬ i < m) :
    touchstonelaw22_DrawAll.l0 (k + 1) s c a2 i p q r t s c = some true := by
  rw [touchstonelaw22_DrawAll.l0, hm, hm1, if_neg hlt, show draw_New.f s = some (s, 0) from rfl, Option.bind_some, if_pos rfl, if_pos rfl, less_is hk, Option.bind_some, refLess_is, Option.bind_some, beq_self_eq_true]
theorem all_l0 {s a2 p q r t : Int} {m : Nat} (hs : Dw s) (hm2 : Int.tmod a2 20 = (m : Int)) (hwm : wrap64 (m : Int) = (m : Int)) (hm : m < 20) :
    ∀ (e i k : Nat) (c : Int), Dw c → i + e = m → e + 80 ≤ k → touchstonelaw22_DrawAll.l0 k s c a2 (i : Int) p q r t s c = some true
  | 0, i, k, c, hc, hi, hk => by
    obtain ⟨k, rfl⟩ : ∃ m, k = m + 1 := ⟨k - 1, by omega⟩
    have hge : ¬ (i : Int) < (m : Int) := by clear hwm hm2; omega
    exact all_end (by omega) hm2 hwm hge
  | e + 1, i, k, c, hc, hi, hk => by
    obtain ⟨k, rfl⟩ : ∃ m, k = m + 1 := ⟨k - 1, by omega⟩
    have hge : (i : Int) < (m : Int) := by clear hwm hm2; omega
    have hw2 : wrap64 ((i : Int) + 1) = ((i + 1 : Nat) : Int) := by clear hwm hm2; exact (OctetMath.wrap64_id (by omega) (by omega)).trans (by omega)
    have hd1 : Dw (IntKind.u64.wrap (c + 1)) := by
      simp only [IntKind.wrap, IntKind.signed, IntKind.bits, Dw]
      simp
      omega
    refine (all_step hm2 hwm hge (next_is (by omega) hs hc) (draw_is (by omega) hs hc) rfl hw2).trans ?_
    exact all_l0 hs hm2 hwm hm e (i + 1) k _ hd1 (by omega) (by omega)
theorem DrawAll (a0 a1 a2 p q r t : Int) (h0 : (Lit.int .u64 a0).wf = true) (h1 : (Lit.int .u64 a1).wf = true) (h2 : (Lit.int .u8 a2).wf = true) : ∃ k, touchstonelaw22_DrawAll.f k a0 a1 a2 p q r t = some true := by
  have hs : Dw a0 := OctetMath.u64_wf h0
  have hc : Dw a1 := OctetMath.u64_wf h1
  have hb2 := OctetMath.Bytes.of_wf (l := [a2]) (by simpa using h2) a2 (by simp)
  obtain ⟨m, hm, hm2⟩ : ∃ m : Nat, m < 20 ∧ Int.tmod a2 20 = (m : Int) := ⟨(Int.tmod a2 20).toNat, by rw [Int.tmod_eq_emod_of_nonneg hb2.1]; omega, by rw [Int.tmod_eq_emod_of_nonneg hb2.1]; omega⟩
  have hwm : wrap64 (m : Int) = (m : Int) := OctetMath.wrap64_id (by omega) (by omega)
  obtain ⟨K, hK⟩ : ∃ K : Nat, K = 200 := ⟨_, rfl⟩
  refine ⟨K, ?_⟩
  unfold touchstonelaw22_DrawAll.f
  rw [begun_is (by omega), Option.bind_some, if_pos rfl]
  have h := all_l0 (p := p) (q := q) (r := r) (t := t) hs hm2 hwm hm m 0 K a1 hc (by omega) (by omega)
  rw [show ((0 : Nat) : Int) = 0 from rfl] at h
  exact h
end Go.Proofs.YtgaekibompacnaaDoor.Pure
namespace Go.Proofs.YtgaekibompacnaaDoor.QR
open Go.RowKit Go.Proofs.YtgaekibompacnaaDoorW.PrintWords Go.Proofs.YtgaekibompacnaaDoorW.PrintLast Go.Proofs.YtgaekibompacnaaDoorW.PrintMore
theorem touchstonelaw22_DrawAll.walk (a0 a1 a2 p q r t : Int) (w : World) (hlaid : QD.Laid w) (w0 : (Lit.int .u64 a0).wf = true) (w1 : (Lit.int .u64 a1).wf = true) (w2 : (Lit.int .u8 a2).wf = true) :
    Calls Tryd.prog 7 #[.int .u64 a0, .int .u64 a1, .int .u8 a2, .agg #[.int .u64 p, .int .u64 q], .agg #[.int .u64 r, .int .u64 t]] w fun e w' => e = .returned (.bool true) ∧ Below w.heap.size w w' := by
  obtain ⟨k, h⟩ := Pure.DrawAll a0 a1 a2 p q r t w0 w1 w2
  exact touchstonelaw22_DrawAll.calls k a0 a1 a2 p q r t true w hlaid h
end Go.Proofs.YtgaekibompacnaaDoor.QR
