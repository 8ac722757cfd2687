/- DrawApart: what the printed functions answer is true. -/
import Derived.Test.YtgaekibompacnaaDoorQRMath
import Derived.Test.YtgaekibompacnaaDoorQRx9
set_option linter.unusedVariables false
set_option linter.unusedSimpArgs false
namespace Go.Proofs.YtgaekibompacnaaDoor.Pure
open Go.RowKit Go.Proofs.YtgaekibompacnaaDoor.QR Go.Proofs.YtgaekibompacnaaDoorW.PrintWords Go.Proofs.YtgaekibompacnaaDoorW.PrintLast Go.Proofs.YtgaekibompacnaaDoorW.PrintMore
/-- The draws that were made. -/
def drawn (s : Int) (n : Nat) : List S38 := (List.range n).map fun i : Nat => (⟨QD.hi8 (two s i), QD.lo8 (two s i)⟩ : S38)
theorem drawn_len (s : Int) (n : Nat) : (drawn s n).length = n := by simp [drawn]
theorem drawn_succ (s : Int) (n : Nat) : drawn s (n + 1) = drawn s n ++ [⟨QD.hi8 (two s n), QD.lo8 (two s n)⟩] := by simp [drawn, List.range_succ]
theorem drawn_at (s : Int) {n i : Nat} (h : i < n) : rd_T38 (drawn s n) (i : Int) = ⟨QD.hi8 (two s i), QD.lo8 (two s i)⟩ := by
  unfold rd_T38 drawn
  simp [List.getD_eq_getElem?_getD, List.getElem?_map, List.getElem?_range h]
theorem apart_step {k : Nat} {s : Int} {X : List S38} {j j1 N h l : Int} (h0 : 0 ≤ j) (hlt : j < (X.length : Int)) (hn : draw_Draws_Next.f k s j = some (h, l, s, j1)) (hu : IntKind.u64.wrap j = j) (hw : wrap64 (j + 1) = j1) (hd : touchstoneref24_Draw.f k s j = some (h, l)) (hr : rd_T38 X j = ⟨h, l⟩) :
    touchstonelaw22_DrawApart.l1 (k + 1) s X j s N s j = touchstonelaw22_DrawApart.l1 k s X j1 s N s j1 := by
  rw [touchstonelaw22_DrawApart.l1, if_pos hlt, hn, Option.bind_some, if_pos h0, hr]
  simp only [beq_self_eq_true, Bool.not_true, Bool.or_self, Bool.false_eq_true, if_false]
  rw [hu, hd, Option.bind_some]
  simp only [beq_self_eq_true, Bool.not_true, Bool.or_self, Bool.false_eq_true, if_false]
  rw [hw]
theorem apart_end {k : Nat} {s : Int} {X : List S38} {j N : Int} (hlt : ¬ j < (X.length : Int)) : touchstonelaw22_DrawApart.l1 (k + 1) s X j s N s N = some true := by
  rw [touchstonelaw22_DrawApart.l1, if_neg hlt]
  simp only [beq_self_eq_true, Bool.and_self]
theorem apart_l1 {s : Int} (hs : Dw s) (n : Nat) (hn : n ≤ 100) : ∀ (e j k : Nat), j + e = n → e + 12 ≤ k → touchstonelaw22_DrawApart.l1 k s (drawn s n) (j : Int) s (n : Int) s (j : Int) = some true
  | 0, j, k, hj, hk => by
    obtain ⟨k, rfl⟩ : ∃ m, k = m + 1 := ⟨k - 1, by omega⟩
    have : j = n := by omega
    subst this
    exact apart_end (by rw [drawn_len]; omega)
  | e + 1, j, k, hj, hk => by
    obtain ⟨k, rfl⟩ : ∃ m, k = m + 1 := ⟨k - 1, by omega⟩
    have hd : Dw (j : Int) := ⟨by omega, by omega⟩
    have hw : IntKind.u64.wrap ((j : Int) + 1) = ((j + 1 : Nat) : Int) := by rw [OctetMath.wrap_u64 (by omega) (by omega)]; omega
    have hw2 : wrap64 ((j : Int) + 1) = ((j + 1 : Nat) : Int) := (OctetMath.wrap64_id (by omega) (by omega)).trans (by omega)
    have hw3 : IntKind.u64.wrap (j : Int) = (j : Int) := OctetMath.wrap_u64 (by omega) (by omega)
    have h1 := next_is (k := k) (by omega) hs hd
    rw [hw] at h1
    have h2 := draw_is (k := k) (by omega) hs hd
    have h3 := drawn_at s (n := n) (i := j) (by omega)
    rw [apart_step (by omega) (by rw [drawn_len]; omega) h1 hw3 hw2 h2 h3]
    exact apart_l1 hs n hn e (j + 1) k (by omega) (by omega)
theorem apart_more {k : Nat} {s a1 a2 : Int} {X : List S38} {i i1 h l kk m : Int} (hm : Int.tmod a1 10 = m) (hm1 : wrap64 m = m) (hm2 : wrap64 (30 + m) = 30 + m) (hlt : i < 30 + m) (hX : X.length < 8796093022208) (hn : draw_Draws_Next.f k s i = some (h, l, s, i1)) (hw : wrap64 (i + 1) = i1) :
    touchstonelaw22_DrawApart.l0 (k + 1) s a1 a2 X i s i s kk = touchstonelaw22_DrawApart.l0 k s a1 a2 (X ++ [⟨h, l⟩]) i1 s i1 s kk := by
  rw [touchstonelaw22_DrawApart.l0, hm, hm1, hm2, if_pos hlt, hn, Option.bind_some, if_pos hX, hw]
theorem apart_turn {k : Nat} {s a1 a2 : Int} {X : List S38} {i kk m : Int} (hm : Int.tmod a1 10 = m) (hm1 : wrap64 m = m) (hm2 : wrap64 (30 + m) = 30 + m) (hlt : ¬ i < 30 + m) (hk : Int.tmod a2 30 = kk) (hw : wrap64 kk = kk) :
    touchstonelaw22_DrawApart.l0 (k + 1) s a1 a2 X i s i s kk = touchstonelaw22_DrawApart.l1 k s X kk s i s kk := by
  rw [touchstonelaw22_DrawApart.l0, hm, hm1, hm2, if_neg hlt, hk, hw]
theorem apart_l0 {s a1 a2 : Int} {m j : Nat} (hs : Dw s) (hm2 : Int.tmod a1 10 = (m : Int)) (hwm : wrap64 (m : Int) = (m : Int)) (hwm2 : wrap64 (30 + (m : Int)) = 30 + (m : Int)) (hj2 : Int.tmod a2 30 = (j : Int)) (hwj : wrap64 (j : Int) = (j : Int)) (hm : m < 10) (hj : j < 30) :
    ∀ (e i k : Nat), i + e = 30 + m → e + 80 ≤ k → touchstonelaw22_DrawApart.l0 k s a1 a2 (drawn s i) (i : Int) s (i : Int) s (j : Int) = some true
  | 0, i, k, hi, hk => by
    obtain ⟨k, rfl⟩ : ∃ m, k = m + 1 := ⟨k - 1, by omega⟩
    have hge : ¬ (i : Int) < 30 + (m : Int) := by clear hwm hwm2 hj2 hwj hm2; omega
    rw [apart_turn hm2 hwm hwm2 hge hj2 hwj]
    exact apart_l1 hs i (by omega) (i - j) j k (by omega) (by omega)
  | e + 1, i, k, hi, hk => by
    obtain ⟨k, rfl⟩ : ∃ m, k = m + 1 := ⟨k - 1, by omega⟩
    have hd : Dw (i : Int) := ⟨by omega, by omega⟩
    have hge : (i : Int) < 30 + (m : Int) := by clear hwm hwm2 hj2 hwj hm2; omega
    have hX : (drawn s i).length < 8796093022208 := by rw [drawn_len]; omega
    have hw : IntKind.u64.wrap ((i : Int) + 1) = ((i + 1 : Nat) : Int) := by clear hwm hwm2 hj2 hwj hm2; rw [OctetMath.wrap_u64 (by omega) (by omega)]; omega
    have hw2 : wrap64 ((i : Int) + 1) = ((i + 1 : Nat) : Int) := by clear hwm hwm2 hj2 hwj hm2 hw; exact (OctetMath.wrap64_id (by omega) (by omega)).trans (by omega)
    have h1 := next_is (k := k) (by omega) hs hd
    rw [hw] at h1
    refine (apart_more hm2 hwm hwm2 hge hX h1 hw2).trans ?_
    have h2 := apart_l0 hs hm2 hwm hwm2 hj2 hwj hm hj e (i + 1) k (by omega) (by omega)
    rw [drawn_succ] at h2
    exact h2
theorem DrawApart : touchstonelaw22_DrawApart.Pure := by
  intro a0 a1 a2 h0 h1 h2
  have hs : Dw a0 := OctetMath.u64_wf h0
  have hb1 := OctetMath.Bytes.of_wf (l := [a1]) (by simpa using h1) a1 (by simp)
  have hb2 := OctetMath.Bytes.of_wf (l := [a2]) (by simpa using h2) a2 (by simp)
  obtain ⟨K, hK⟩ : ∃ K : Nat, K = 200 := ⟨_, rfl⟩
  refine ⟨K, ?_⟩
  unfold touchstonelaw22_DrawApart.f
  rw [begun_is (by omega), Option.bind_some, if_pos rfl, show draw_New.f a0 = some (a0, 0) from rfl, Option.bind_some]
  obtain ⟨j, hj, hj2⟩ : ∃ j : Nat, j < 30 ∧ Int.tmod a2 30 = (j : Int) := ⟨(Int.tmod a2 30).toNat, by rw [Int.tmod_eq_emod_of_nonneg hb2.1]; omega, by rw [Int.tmod_eq_emod_of_nonneg hb2.1]; omega⟩
  obtain ⟨m, hm, hm2⟩ : ∃ m : Nat, m < 10 ∧ Int.tmod a1 10 = (m : Int) := ⟨(Int.tmod a1 10).toNat, by rw [Int.tmod_eq_emod_of_nonneg hb1.1]; omega, by rw [Int.tmod_eq_emod_of_nonneg hb1.1]; omega⟩
  rw [hj2, OctetMath.wrap_u64 (n := (j : Int)) (by omega) (by omega)]
  have hwm : wrap64 (m : Int) = (m : Int) := OctetMath.wrap64_id (by omega) (by omega)
  have hwm2 : wrap64 (30 + (m : Int)) = 30 + (m : Int) := OctetMath.wrap64_id (by omega) (by omega)
  have hwj : wrap64 (j : Int) = (j : Int) := OctetMath.wrap64_id (by omega) (by omega)
  have h := apart_l0 hs hm2 hwm hwm2 hj2 hwj (by omega) (by omega) (30 + m) 0 K (by omega) (by omega)
  rw [show drawn a0 0 = [] from rfl, show ((0 : Nat) : Int) = 0 from rfl] at h
  exact h
end Go.Proofs.YtgaekibompacnaaDoor.Pure
