/- NamesOrder, in plain Lean: what its printed function answers is true. -/
import Derived.Test.YtkbeeiijodojkaaQNPure2
import Derived.Test.YtkbeeiijodojkaaQNx11
set_option linter.unusedVariables false
set_option linter.unusedSimpArgs false
namespace Go.Proofs.Ytkbeeiijodojkaa.Pure
open Go.RowKit Go.Proofs.Ytkbeeiijodojkaa.QN Go.Proofs.Ytkbeeiijodojkaa.NM Go.Proofs.YtkbeeiijodojkaaW.PrintWords Go.Proofs.YtkbeeiijodojkaaW.PrintLast
theorem srt_len (l : List ByteArray) : (srt l).length ≤ l.length := by
  unfold srt sortedL
  rw [List.length_map]
  refine Nat.le_trans (Lib.compact_length_le _) ?_
  rw [List.length_mergeSort, List.length_map]
  exact Nat.le_refl _
theorem sorted_eq (l : List ByteArray) (h : l.length ≤ 1000) : names_Sorted.f l = some (srt l) := by
  unfold names_Sorted.f; rw [if_pos h]; rfl
theorem srt_srt (l : List ByteArray) : srt (srt l) = srt l := strict_unique _ _ (srt_strict _) (srt_strict _) (fun y => by rw [srt_mem])
/-- The end of the law: the line that names stand in. -/
theorem line_from (x0 s : List ByteArray) (a b c : ByteArray) (hs : Strict s) (hss : srt s = s) (hn : s.length ≤ 1000) (ha : a.size ≤ 60) (hx : ∀ y ∈ x0, y ∈ s) (h0 : x0.length ≤ 1000) (K : Nat) (hK : ∀ y ∈ x0, ∀ k, K ≤ k → names_Has.f k s y = some true) :
    ∀ (d i k : Nat), x0.length - i = d → i ≤ x0.length → d + K + 3000 ≤ k → touchstonelaw10_NamesOrder.l1 k x0 a b c s (i : Int) = some true := by
  intro d
  induction d with
  | zero =>
    intro i k hd hi hk
    obtain ⟨k, rfl⟩ : ∃ m, k = m + 1 := ⟨k - 1, by omega⟩
    have hl := less_ev a b (by omega) k (by omega)
    have hal : touchstonelaw10_alike.f k s s = some true := by
      have h := alike_from s (by omega) s.length 0 k (by omega) (by omega) (by omega)
      rw [show ((0 : Nat) : Int) = 0 from rfl] at h
      rw [touchstonelaw10_alike.f, if_pos rfl, h]
    have hso := sorted_eq s (by omega)
    rw [hss] at hso
    have heq : (a.toList == b.toList) = decide (a = b) := by
      by_cases h : a = b
      · subst h; simp
      · have : ¬ a.toList = b.toList := fun e => h (dt_inj (by simpa [ByteArray.toList_eq] using e))
        simp [h, this]
    rw [touchstonelaw10_NamesOrder.l1, if_neg (by omega), heq]
    simp only [less_eq, Option.bind_some, hl, hso, hal]
    have hlb : lessB a b = decide (dt a < dt b) := by
      by_cases h : dt a < dt b
      · rw [decide_eq_true h, (lessB_iff a b).mpr h]
      · rw [decide_eq_false h, (lessB_not a b).mpr h]
    rw [hlb]
    by_cases hab : dt a < dt b
    · have hne : a ≠ b := fun e => by subst e; exact List.lt_irrefl _ hab
      by_cases hbc : dt b < dt c
      · have hac := List.lt_trans hab hbc
        simp [hab, hbc, hac, hne]
      · simp [hab, hbc, hne]
    · by_cases hba : dt b < dt a
      · have hne : a ≠ b := fun e => by subst e; exact List.lt_irrefl _ hba
        simp [hab, hba, hne]
      · have he : a = b := dt_inj (List.le_antisymm (List.not_lt.mp hba) (List.not_lt.mp hab))
        subst he
        simp [hab]
  | succ d ih =>
    intro i k hd hi hk
    obtain ⟨k, rfl⟩ : ∃ m, k = m + 1 := ⟨k - 1, by omega⟩
    have hil : i < x0.length := by omega
    rw [touchstonelaw10_NamesOrder.l1, if_pos (by omega), if_pos (by omega), rd_at x0 i hil, hK _ (List.getElem_mem _) k (by omega), Option.bind_some, if_pos rfl, w64 i (by omega)]
    exact ih (i + 1) k (by omega) (by omega) (by omega)
theorem rise_from (x0 s : List ByteArray) (a b c : ByteArray) (hs : Strict s) (hn : s.length ≤ 1000) (K : Nat) (hK : ∀ k, K ≤ k → touchstonelaw10_NamesOrder.l1 k x0 a b c s 0 = some true) :
    ∀ (d i k : Nat), s.length - i = d → 1 ≤ i → d + K + 1 ≤ k → touchstonelaw10_NamesOrder.l0 k x0 a b c s (i : Int) = some true := by
  intro d
  induction d with
  | zero =>
    intro i k hd hi hk
    obtain ⟨k, rfl⟩ : ∃ m, k = m + 1 := ⟨k - 1, by omega⟩
    rw [touchstonelaw10_NamesOrder.l0, if_neg (by omega)]
    exact hK k (by omega)
  | succ d ih =>
    intro i k hd hi hk
    obtain ⟨k, rfl⟩ : ∃ m, k = m + 1 := ⟨k - 1, by omega⟩
    have hil : i < s.length := by omega
    have hw : wrap64 ((i : Int) - 1) = ((i - 1 : Nat) : Int) := by unfold wrap64; omega
    have hlt := (List.pairwise_iff_getElem.mp hs) (i - 1) i (by omega) hil (by omega)
    rw [touchstonelaw10_NamesOrder.l0, if_pos (by omega), hw, if_pos (by omega), if_pos (by omega), if_pos (by omega), rd_at s i hil, rd_at s (i - 1) (by omega), less_eq, Option.bind_some, if_pos (decide_eq_true hlt), w64 i (by omega)]
    exact ih (i + 1) k (by omega) (by omega) (by omega)
theorem NamesOrder : touchstonelaw10_NamesOrder.Pure := by
  intro l a b c hl ha hb hc
  obtain ⟨K1, b1⟩ := begun_ev
  obtain ⟨v0, ⟨K2, b2⟩, c0⟩ := light_ev l
  have hj : ∀ k, touchstonelaw10_NamesOrder.j0 (k + 1) l a b c true = some true := fun k => by rw [touchstonelaw10_NamesOrder.j0, if_pos rfl]
  have go : ∀ k, K1 + K2 ≤ k → touchstonelaw10_NamesOrder.f k l a b c = if v0 = true then (if (a.size : Int) > 60 then touchstonelaw10_NamesOrder.j0 k l a b c true else if (b.size : Int) > 60 then touchstonelaw10_NamesOrder.j0 k l a b c true else touchstonelaw10_NamesOrder.j0 k l a b c (decide ((c.size : Int) > 60))) else touchstonelaw10_NamesOrder.j0 k l a b c true := by
    intro k hk
    have g1 := b1 k (by omega)
    have g2 := b2 k (by omega)
    simp only at g1 g2
    rw [touchstonelaw10_NamesOrder.f, g1, Option.bind_some, if_pos rfl, g2, Option.bind_some]
  by_cases h0 : v0 = true
  · by_cases h1 : (a.size : Int) > 60
    · exact ⟨K1 + K2 + 1, by rw [go _ (by omega), if_pos h0, if_pos h1, hj]⟩
    · by_cases h2 : (b.size : Int) > 60
      · exact ⟨K1 + K2 + 1, by rw [go _ (by omega), if_pos h0, if_neg h1, if_pos h2, hj]⟩
      · by_cases h3 : (c.size : Int) > 60
        · exact ⟨K1 + K2 + 1, by rw [go _ (by omega), if_pos h0, if_neg h1, if_neg h2, decide_eq_true h3, hj]⟩
        · obtain ⟨n0, z0⟩ := c0 h0
          have sl := srt_len l
          have hK : ∀ y ∈ l, ∀ k, (srt l).length + 1 ≤ k → names_Has.f k (srt l) y = some true := by
            intro y hy k hk
            obtain ⟨p, h⟩ := search_from (srt l) y (by omega) (srt_strict l) (srt l).length 0 (srt l).length k (by omega) (by omega) (Nat.le_refl _) hk (fun t ht h => absurd h (Nat.not_lt_zero _)) (fun t ht h => absurd ht (by omega))
            rw [show ((0 : Nat) : Int) = 0 from rfl] at h
            rw [names_Has.f, slices_BinarySearch_string_string.f, h, Option.bind_some, inB_t ((srt_mem l y).mpr hy)]
          have hline : ∀ k, 5000 ≤ k → touchstonelaw10_NamesOrder.l1 k l a b c (srt l) 0 = some true := by
            intro k hk
            have h := line_from l (srt l) a b c (srt_strict l) (srt_srt l) (by omega) (by omega) (fun y hy => (srt_mem l y).mpr hy) (by omega) ((srt l).length + 1) hK l.length 0 k (by omega) (by omega) (by omega)
            rw [show ((0 : Nat) : Int) = 0 from rfl] at h
            exact h
          refine ⟨K1 + K2 + 6000 + 1, ?_⟩
          have hr := rise_from l (srt l) a b c (srt_strict l) (by omega) 5000 hline ((srt l).length - 1) 1 (K1 + K2 + 6000) (by omega) (by omega) (by omega)
          rw [show ((1 : Nat) : Int) = 1 from rfl] at hr
          rw [go _ (by omega), if_pos h0, if_neg h1, if_neg h2, decide_eq_false h3, touchstonelaw10_NamesOrder.j0, if_neg (by decide), sorted_eq l (by omega), Option.bind_some, hr]
  · exact ⟨K1 + K2 + 1, by rw [go _ (by omega), if_neg h0, hj]⟩
end Go.Proofs.Ytkbeeiijodojkaa.Pure
