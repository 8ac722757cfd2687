/- Sorted lists of texts: what is of no program. -/
import Derived.Lib.SlicesCompact
import Derived.Lib.Bytealg
import Derived.Sort.Walk0
set_option linter.unusedVariables false
set_option linter.unusedSimpArgs false
namespace Go.Proofs.Ytkbeeiijodojkaa.NM
abbrev S := List UInt8
theorem compare_lt : ∀ a b : S, Lib.compareBytes a b < 0 ↔ a < b
  | [], [] => by simp [Lib.compareBytes]
  | [], b :: vs => by simp [Lib.compareBytes]
  | a :: us, [] => by simp [Lib.compareBytes]
  | a :: us, b :: vs => by
    rw [List.cons_lt_cons_iff]
    simp only [Lib.compareBytes]
    by_cases h1 : a < b
    · simp [h1]
    · by_cases h2 : b < a
      · have : a ≠ b := fun e => by subst e; exact h1 h2
        simp [h1, h2, this]
      · have e : a = b := by
          apply UInt8.toNat_inj.mp
          rw [UInt8.lt_iff_toNat_lt] at h1 h2
          omega
        subst e
        simp [h1, compare_lt us vs]
theorem lt_of_le_ne {a b : S} (h : a ≤ b) (hn : a ≠ b) : a < b := by
  apply Classical.byContradiction
  intro k
  exact hn (List.le_antisymm h (List.not_lt.mp k))
theorem strict_ext : ∀ us vs : List S, us.Pairwise (· < ·) → vs.Pairwise (· < ·) → (∀ x, x ∈ us ↔ x ∈ vs) → us = vs
  | [], [], _, _, _ => rfl
  | [], b :: vs, _, _, h => by have := (h b).mpr (by simp); cases this
  | a :: us, [], _, _, h => by have := (h a).mp (by simp); cases this
  | a :: us, b :: vs, ha, hb, h => by
    rw [List.pairwise_cons] at ha hb
    have e : a = b := by
      have h1 := (h a).mp (by simp)
      have h2 := (h b).mpr (by simp)
      rw [List.mem_cons] at h1 h2
      rcases h1 with h1 | h1
      · exact h1
      · rcases h2 with h2 | h2
        · exact h2.symm
        · exact absurd (List.lt_trans (ha.1 _ h2) (hb.1 _ h1)) (List.lt_irrefl a)
    subst e
    congr 1
    refine strict_ext us vs ha.2 hb.2 (fun x => ⟨fun hx => ?_, fun hx => ?_⟩)
    · have h1 := (h x).mp (List.mem_cons_of_mem _ hx)
      rcases List.mem_cons.mp h1 with h2 | h2
      · subst h2; exact absurd (ha.1 _ hx) (List.lt_irrefl _)
      · exact h2
    · have h1 := (h x).mpr (List.mem_cons_of_mem _ hx)
      rcases List.mem_cons.mp h1 with h2 | h2
      · subst h2; exact absurd (hb.1 _ hx) (List.lt_irrefl _)
      · exact h2
theorem get_bang (zs : List S) (m : Nat) (h : m < zs.length) : zs.toArray[m]! = zs[m] := by simp [h]
theorem compact_upto (zs : List S) (hs : zs.Pairwise (· ≤ ·)) : ∀ m, m ≤ zs.length → (Lib.compactUpTo zs.toArray m).Pairwise (· < ·) ∧ ∀ x, x ∈ Lib.compactUpTo zs.toArray m ↔ ∃ j, j < m ∧ zs[j]? = some x := by
  intro m
  induction m with
  | zero => intro _; refine ⟨by simp [Lib.compactUpTo], fun x => ?_⟩; simp [Lib.compactUpTo]
  | succ m ih =>
    intro hm
    obtain ⟨h1, h2⟩ := ih (by omega)
    have hlt : m < zs.length := by omega
    rw [Lib.compactUpTo_succ, get_bang zs m hlt]
    by_cases hk : Lib.keeps zs.toArray m = true
    · rw [if_pos hk]
      constructor
      · rw [List.pairwise_append]
        refine ⟨h1, List.pairwise_singleton _ _, fun x hx y hy => ?_⟩
        rw [List.mem_singleton] at hy
        subst hy
        obtain ⟨j, hj, hjx⟩ := (h2 x).mp hx
        have hjl : j < zs.length := by omega
        rw [List.getElem?_eq_getElem hjl] at hjx
        obtain rfl := Option.some.inj hjx
        have hne : zs[m] ≠ zs[m - 1]'(by omega) := by
          have := hk
          simp only [Lib.keeps, decide_eq_true_eq] at this
          rcases this with h0 | h0
          · omega
          · rw [get_bang zs m hlt, get_bang zs (m - 1) (by omega)] at h0; exact h0
        have hle : zs[m - 1]'(by omega) ≤ zs[m] := (List.pairwise_iff_getElem.mp hs) (m - 1) m (by omega) hlt (by omega)
        have hlt2 := lt_of_le_ne hle (Ne.symm hne)
        by_cases hjm : j = m - 1
        · subst hjm; exact hlt2
        · have := (List.pairwise_iff_getElem.mp hs) j (m - 1) hjl (by omega) (by omega)
          exact List.lt_of_le_of_lt this hlt2
      · intro x
        rw [List.mem_append, h2, List.mem_singleton]
        constructor
        · rintro (⟨j, hj, e⟩ | rfl)
          · exact ⟨j, by omega, e⟩
          · exact ⟨m, by omega, List.getElem?_eq_getElem hlt⟩
        · rintro ⟨j, hj, e⟩
          by_cases hjm : j = m
          · subst hjm
            rw [List.getElem?_eq_getElem hlt] at e
            exact .inr (Option.some.inj e).symm
          · exact .inl ⟨j, by omega, e⟩
    · rw [if_neg hk, List.append_nil]
      refine ⟨h1, fun x => ?_⟩
      rw [h2]
      have hk' : ¬ (m = 0) ∧ zs[m] = zs[m - 1]'(by omega) := by
        have := hk
        simp only [Lib.keeps, decide_eq_true_eq, not_or, Classical.not_not] at this
        rw [get_bang zs m hlt, get_bang zs (m - 1) (by omega)] at this
        exact this
      constructor
      · rintro ⟨j, hj, e⟩; exact ⟨j, by omega, e⟩
      · rintro ⟨j, hj, e⟩
        by_cases hjm : j = m
        · subst hjm
          refine ⟨j - 1, by omega, ?_⟩
          rw [List.getElem?_eq_getElem hlt] at e
          rw [List.getElem?_eq_getElem (by omega), ← hk'.2]
          exact e
        · exact ⟨j, by omega, e⟩
theorem compact_spec (zs : List S) (hs : zs.Pairwise (· ≤ ·)) : (Lib.compact zs).Pairwise (· < ·) ∧ ∀ x, x ∈ Lib.compact zs ↔ x ∈ zs := by
  obtain ⟨h1, h2⟩ := compact_upto zs hs zs.length (Nat.le_refl _)
  refine ⟨h1, fun x => ?_⟩
  unfold Lib.compact
  rw [h2, List.mem_iff_getElem?]
  constructor
  · rintro ⟨j, _, e⟩; exact ⟨j, e⟩
  · rintro ⟨j, e⟩
    refine ⟨j, ?_, e⟩
    exact (List.getElem?_eq_some_iff.mp e).1
/-- Sorted, each once. -/
def sorted (zs : List S) : List S := Lib.compact (zs.mergeSort fun x y => decide (x ≤ y))
theorem sorted_spec (zs : List S) : (sorted zs).Pairwise (· < ·) ∧ ∀ x, x ∈ sorted zs ↔ x ∈ zs := by
  have hp : (zs.mergeSort fun x y => decide (x ≤ y)).Pairwise (· ≤ ·) := by
    have := List.pairwise_mergeSort (le := fun (x y : S) => decide (x ≤ y)) (fun a b c h k => by simp only [decide_eq_true_eq] at *; exact List.le_trans h k) (fun a b => by simp only [Bool.or_eq_true, decide_eq_true_eq]; exact List.le_total a b) zs
    exact this.imp (fun h => by simpa using h)
  obtain ⟨h1, h2⟩ := compact_spec _ hp
  refine ⟨h1, fun x => ?_⟩
  unfold sorted
  rw [h2]
  exact (List.mergeSort_perm zs _).mem_iff
theorem sorted_unique (zs ws : List S) (hw : ws.Pairwise (· < ·)) (h : ∀ x, x ∈ ws ↔ x ∈ zs) : sorted zs = ws :=
  strict_ext _ _ (sorted_spec zs).1 hw (fun x => by rw [(sorted_spec zs).2, h])
end Go.Proofs.Ytkbeeiijodojkaa.NM
