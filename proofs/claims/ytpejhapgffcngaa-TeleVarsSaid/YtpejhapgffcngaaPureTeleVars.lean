/- TeleVars, in plain Lean: what its printed function answers is true. -/
import Derived.Test.YtpejhapgffcngaaQVx4
import Derived.OpenShut
set_option linter.unusedVariables false
set_option linter.unusedSimpArgs false
namespace Go.Proofs.Ytpejhapgffcngaa.Pure
open Go.RowKit Go.Proofs.Ytpejhapgffcngaa.QV Go.Proofs.YtpejhapgffcngaaW.PrintWords Go.Proofs.YtpejhapgffcngaaW.PrintLast Go.Proofs.YtpejhapgffcngaaW.PrintMore
theorem wsm (x : Int) (h0 : -1000 ≤ x) (h1 : x ≤ 1000) : wrap64 x = x := by unfold wrap64; omega
/-- the list of variables, as far as it is laid -/
def vl (n m : Nat) (i : Nat) : List S27 := (List.range i).map fun (j : Nat) => (⟨0, ((m + n : Nat) : Int) - 1 - (j : Int), ⟨#[]⟩, [], []⟩ : S27)
theorem vl_len (n m i : Nat) : (vl n m i).length = i := by unfold vl; simp
theorem vl_succ (n m i : Nat) : vl n m (i + 1) = vl n m i ++ [(⟨0, ((m + n : Nat) : Int) - 1 - (i : Int), ⟨#[]⟩, [], []⟩ : S27)] := by
  unfold vl; rw [List.range_succ, List.map_append]; rfl
theorem vl_get (n m N i : Nat) (h : i < N) : rd_T27 (vl n m N) (i : Int) = (⟨0, ((m + n : Nat) : Int) - 1 - (i : Int), ⟨#[]⟩, [], []⟩ : S27) := by
  unfold rd_T27 vl
  rw [Int.toNat_natCast]
  simp [List.getD_eq_getElem?_getD, h]
theorem build (n m : Nat) (hn : n ≤ 255) (hm : m ≤ 255) : ∀ (d i k : Nat), i + d = n → d + 1 ≤ k →
    tele_Vars.l0 k (n : Int) (m : Int) (vl n m i) (n : Int) (i : Int) = some (vl n m n) := by
  intro d
  induction d with
  | zero =>
    intro i k hi hk
    obtain ⟨k, rfl⟩ : ∃ q, k = q + 1 := ⟨k - 1, by omega⟩
    obtain rfl : i = n := by omega
    rw [tele_Vars.l0, if_neg (by omega)]
  | succ d ih =>
    intro i k hi hk
    obtain ⟨k, rfl⟩ : ∃ q, k = q + 1 := ⟨k - 1, by omega⟩
    have e1 : wrap64 ((m : Int) + (n : Int)) = (m : Int) + n := wsm _ (by omega) (by omega)
    have e2 : wrap64 ((m : Int) + (n : Int) - 1) = (m : Int) + n - 1 := wsm _ (by omega) (by omega)
    have e3 : wrap64 ((m : Int) + (n : Int) - 1 - (i : Int)) = ((m + n : Nat) : Int) - 1 - (i : Int) := by rw [wsm _ (by omega) (by omega)]; omega
    have e4 : wrap64 ((i : Int) + 1) = ((i + 1 : Nat) : Int) := by rw [wsm _ (by omega) (by omega)]; omega
    rw [tele_Vars.l0, if_pos (by omega), e1, e2, e3, e4]
    unfold quick_Var.f
    rw [Option.bind_some, if_pos (by rw [vl_len]; omega)]
    have hs := vl_succ n m i
    rw [← hs]
    exact ih (i + 1) k (by omega) (by omega)
theorem look (n m : Nat) (hn : n ≤ 255) (hm : m ≤ 255) : ∀ (d i k : Nat), i + d = n → d + 1 ≤ k →
    touchstonelaw17_TeleVars.l0 k (n : Int) (m : Int) (vl n m n) (i : Int) = some true := by
  intro d
  induction d with
  | zero =>
    intro i k hi hk
    obtain ⟨k, rfl⟩ : ∃ q, k = q + 1 := ⟨k - 1, by omega⟩
    obtain rfl : i = n := by omega
    rw [touchstonelaw17_TeleVars.l0, if_neg (by rw [vl_len]; omega), vl_len, wsm _ (by omega) (by omega)]
    simp
  | succ d ih =>
    intro i k hi hk
    obtain ⟨k, rfl⟩ : ∃ q, k = q + 1 := ⟨k - 1, by omega⟩
    have q1 : i + 1 + d = n := by omega
    have q2 : d + 1 ≤ k := by omega
    have hg := vl_get n m n i (by omega)
    have q3 : (0 : Int) ≤ (i : Int) := by omega
    have hl : (i : Int) < ((vl n m n).length : Int) := by rw [vl_len]; omega
    have f1 : wrap64 (m : Int) = m := wsm _ (by omega) (by omega)
    have f2 : wrap64 (n : Int) = n := wsm _ (by omega) (by omega)
    have e1 : wrap64 ((m : Int) + (n : Int)) = (m : Int) + n := wsm _ (by omega) (by omega)
    have e2 : wrap64 ((m : Int) + (n : Int) - 1) = (m : Int) + n - 1 := wsm _ (by omega) (by omega)
    have e3 : wrap64 ((m : Int) + (n : Int) - 1 - (i : Int)) = ((m + n : Nat) : Int) - 1 - (i : Int) := by rw [wsm _ (by omega) (by omega)]; omega
    have e4 : wrap64 ((i : Int) + 1) = ((i + 1 : Nat) : Int) := by rw [wsm _ (by omega) (by omega)]; omega
    have g0 : (rd_T27 (vl n m n) (i : Int)).f0 = 0 := by rw [hg]
    have g1 : (rd_T27 (vl n m n) (i : Int)).f1 = ((m + n : Nat) : Int) - 1 - (i : Int) := by rw [hg]
    rw [touchstonelaw17_TeleVars.l0, if_pos hl, if_pos q3, if_pos g0, f1, f2, e1, e2, e3, e4, if_pos g1]
    exact ih (i + 1) k q1 q2
theorem TeleVars : touchstonelaw17_TeleVars.Pure := by
  intro a0 a1 w0 w1
  have b0 : 0 ≤ a0 ∧ a0 ≤ 255 := bounds_u8 w0
  have b1 : 0 ≤ a1 ∧ a1 ≤ 255 := bounds_u8 w1
  obtain ⟨n, rfl⟩ : ∃ n : Nat, a0 = (n : Int) := ⟨a0.toNat, by omega⟩
  obtain ⟨m, rfl⟩ : ∃ m : Nat, a1 = (m : Int) := ⟨a1.toNat, by omega⟩
  have hb := build n m (by omega) (by omega) n 0 (n + 1) (by omega) (by omega)
  have hl := look n m (by omega) (by omega) n 0 (n + 1) (by omega) (by omega)
  have f1 : wrap64 (m : Int) = m := wsm _ (by omega) (by omega)
  have f2 : wrap64 (n : Int) = n := wsm _ (by omega) (by omega)
  have m1 : mx (n : Int) 0 = n := by unfold mx; rw [if_neg (by omega)] 
  have m2 : mx (m : Int) 0 = m := by unfold mx; rw [if_neg (by omega)]
  refine ⟨n + 1, ?_⟩
  unfold touchstonelaw17_TeleVars.f touchstonelaw17_begun.f
  rw [Option.bind_some, if_pos rfl]
  unfold tele_Vars.f
  rw [f1, f2]
  have e0 : vl n m 0 = [] := rfl
  rw [e0] at hb
  have z : ((0 : Nat) : Int) = 0 := rfl
  rw [z] at hb hl
  first
    | rw [m1, m2, hb, Option.bind_some, hl]
    | (have m1' : mx 0 (n : Int) = n := by unfold mx; split <;> omega
       have m2' : mx 0 (m : Int) = m := by unfold mx; split <;> omega
       rw [m1', m2', hb, Option.bind_some, hl])
end Go.Proofs.Ytpejhapgffcngaa.Pure
