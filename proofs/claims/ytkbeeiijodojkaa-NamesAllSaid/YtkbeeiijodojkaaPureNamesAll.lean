/- NamesAll, in plain Lean: what its printed function answers is true. -/
import Derived.Test.YtkbeeiijodojkaaQNPure2
import Derived.Test.YtkbeeiijodojkaaQNx10
set_option linter.unusedVariables false
set_option linter.unusedSimpArgs false
namespace Go.Proofs.Ytkbeeiijodojkaa.Pure
open Go.RowKit Go.Proofs.Ytkbeeiijodojkaa.QN Go.Proofs.Ytkbeeiijodojkaa.NM Go.Proofs.YtkbeeiijodojkaaW.PrintWords Go.Proofs.YtkbeeiijodojkaaW.PrintLast
theorem srt_len (l : List ByteArray) : (srt l).length ≤ l.length := by
  unfold srt sortedL
  rw [List.length_map]
  refine Nat.le_trans (Lib.compact_length_le _) ?_
  rw [List.length_mergeSort, List.length_map]
  exact Nat.le_refl _
theorem sorted_eq (l : List ByteArray) (h : l.length ≤ 1000) : names_Sorted.f l = some (srt l) := by
  unfold names_Sorted.f; rw [if_pos h]; rfl
theorem wipe_from (x0 : List ByteArray) (hx : x0.length ≤ 1000) : ∀ (d i : Nat) (x8 : List ByteArray) (k : Nat), x8.length - i = d → i ≤ x8.length → x8.length ≤ 1000 → d + x0.length + 3 ≤ k →
    touchstonelaw10_NamesAll.l0 k x0 x0 x8 true (i : Int) = some true := by
  intro d
  induction d with
  | zero =>
    intro i x8 k hd hi h8 hk
    obtain ⟨k, rfl⟩ : ∃ m, k = m + 1 := ⟨k - 1, by omega⟩
    have ha := alike_from x0 (by omega) x0.length 0 k (by omega) (by omega) (by omega)
    rw [touchstonelaw10_NamesAll.l0, if_neg (by omega), if_pos rfl, touchstonelaw10_alike.f, if_pos rfl]
    rw [show ((0 : Nat) : Int) = 0 from rfl] at ha
    rw [ha, Option.bind_some]
  | succ d ih =>
    intro i x8 k hd hi h8 hk
    obtain ⟨k, rfl⟩ : ∃ m, k = m + 1 := ⟨k - 1, by omega⟩
    rw [touchstonelaw10_NamesAll.l0, if_pos (by omega), if_pos (by omega), w64 i (by omega)]
    exact ih (i + 1) _ k (by simp; omega) (by simp; omega) (by simp; omega) (by omega)
theorem NamesAll : touchstonelaw10_NamesAll.Pure := by
  intro l0 l1 s hl0 hl1 hs
  obtain ⟨K1, b1⟩ := begun_ev
  obtain ⟨v0, ⟨K2, b2⟩, c0⟩ := light_ev l0
  obtain ⟨v1, ⟨K3, b3⟩, c1⟩ := light_ev l1
  have hj : ∀ k, touchstonelaw10_NamesAll.j0 (k + 1) l0 l1 s true = some true := fun k => by rw [touchstonelaw10_NamesAll.j0, if_pos rfl]
  by_cases h0 : v0 = true
  · by_cases h1 : v1 = true
    · by_cases h2 : (s.size : Int) > 60
      · refine ⟨K1 + K2 + K3 + 1, ?_⟩
        have g1 := b1 (K1 + K2 + K3 + 1) (by omega)
        have g2 := b2 (K1 + K2 + K3 + 1) (by omega)
        have g3 := b3 (K1 + K2 + K3 + 1) (by omega)
        simp only at g1 g2 g3
        rw [touchstonelaw10_NamesAll.f, g1, Option.bind_some, if_pos rfl, g2, Option.bind_some, if_pos h0, g3, Option.bind_some, if_pos h1, decide_eq_true h2, hj]
      · obtain ⟨n0, z0⟩ := c0 h0
        obtain ⟨n1, z1⟩ := c1 h1
        obtain ⟨K4, b4⟩ := join_ev l0 l1 (by omega) (by omega)
        obtain ⟨K5, b5⟩ := ref_sorted l0 (by omega) (fun y hy => by have := z0 y hy; omega)
        obtain ⟨K6, b6⟩ := ref_sorted (l0 ++ l1) (by simp; omega) (fun y hy => by rcases List.mem_append.mp hy with h | h; exact Nat.le_trans (z0 y h) (by omega); exact Nat.le_trans (z1 y h) (by omega))
        have l0s := srt_len l0
        have l1s := srt_len (l0 ++ l1)
        rw [List.length_append] at l1s
        obtain ⟨K7, b7⟩ := alike_ev (srt l0) (by omega)
        obtain ⟨K8, b8⟩ := alike_ev (srt (l0 ++ l1)) (by omega)
        obtain ⟨v, ⟨K9, b9⟩, ⟨K10, b10⟩⟩ := may_is s (by omega)
        obtain ⟨K11, b11⟩ := has_ev (srt l0) s (by omega) (srt_strict l0)
        obtain ⟨K12, b12⟩ := refHas_ev l0 s (by omega)
        have eh : inB s (srt l0) = inB s l0 := inB_congr (srt_mem l0 s)
        obtain ⟨k, hk⟩ : ∃ k, k = K1 + K2 + K3 + K4 + K5 + K6 + K7 + K8 + K9 + K10 + K11 + K12 + 1000 := ⟨_, rfl⟩
        refine ⟨k + 2, ?_⟩
        have g1 := b1 (k + 2) (by omega)
        have g2 := b2 (k + 2) (by omega)
        have g3 := b3 (k + 2) (by omega)
        have g4 := b4 (k + 1) (by omega)
        have g5 := b5 (k + 1) (by omega)
        have g6 := b6 (k + 1) (by omega)
        have g7 := b7 (k + 1) (by omega)
        have g8 := b8 (k + 1) (by omega)
        have g9 := b9 (k + 1) (by omega)
        have g10 := b10 (k + 1) (by omega)
        have g11 := b11 (k + 1) (by omega)
        have g12 := b12 (k + 1) (by omega)
        simp only at g1 g2 g3 g4 g5 g6 g7 g8 g9 g10 g11 g12
        have hw := wipe_from l0 (by omega) (srt l0).length 0 (srt l0) k (by omega) (by omega) (by omega) (by omega)
        rw [show ((0 : Nat) : Int) = 0 from rfl] at hw
        rw [touchstonelaw10_NamesAll.f, g1, Option.bind_some, if_pos rfl, g2, Option.bind_some, if_pos h0, g3, Option.bind_some, if_pos h1, decide_eq_false h2,
          touchstonelaw10_NamesAll.j0, if_neg (by decide), Option.bind_some, List.nil_append, if_pos (by simp; omega), Option.bind_some, sorted_eq l0 (by omega), Option.bind_some, g4, Option.bind_some, g5, Option.bind_some, g7, Option.bind_some, if_pos rfl,
          Option.bind_some, List.nil_append, if_pos (by simp; omega), Option.bind_some, if_pos (by omega), g6, Option.bind_some, g8, Option.bind_some, if_pos rfl, g9, Option.bind_some, g10, Option.bind_some, if_pos (by simp), g11, Option.bind_some, g12, Option.bind_some, eh, show (inB s l0 == inB s l0) = true by simp,
          touchstonelaw10_NamesAll.j1, hw]
    · refine ⟨K1 + K2 + K3 + 1, ?_⟩
      have g1 := b1 (K1 + K2 + K3 + 1) (by omega)
      have g2 := b2 (K1 + K2 + K3 + 1) (by omega)
      have g3 := b3 (K1 + K2 + K3 + 1) (by omega)
      simp only at g1 g2 g3
      rw [touchstonelaw10_NamesAll.f, g1, Option.bind_some, if_pos rfl, g2, Option.bind_some, if_pos h0, g3, Option.bind_some, if_neg h1, hj]
  · refine ⟨K1 + K2 + 1, ?_⟩
    have g1 := b1 (K1 + K2 + 1) (by omega)
    have g2 := b2 (K1 + K2 + 1) (by omega)
    simp only at g1 g2
    rw [touchstonelaw10_NamesAll.f, g1, Option.bind_some, if_pos rfl, g2, Option.bind_some, if_neg h0, hj]
end Go.Proofs.Ytkbeeiijodojkaa.Pure
