/- A search in a sorted list; the beginning; what is light. -/
import Derived.Test.YtkbeeiijodojkaaQNPure
set_option linter.unusedVariables false
set_option linter.unusedSimpArgs false
namespace Go.Proofs.Ytkbeeiijodojkaa.QN
open Go.RowKit Go.Proofs.Ytkbeeiijodojkaa.NM Go.Proofs.YtkbeeiijodojkaaW.PrintWords Go.Proofs.YtkbeeiijodojkaaW.PrintLast Go.Proofs.YtkbeeiijodojkaaW.PrintMore

open Classical in
/-- Is a text in a list? -/
noncomputable def inB (s : ByteArray) (xs : List ByteArray) : Bool := decide (s ∈ xs)
theorem inB_t {s : ByteArray} {xs : List ByteArray} (h : s ∈ xs) : inB s xs = true := by unfold inB; simp [h]
theorem inB_f {s : ByteArray} {xs : List ByteArray} (h : s ∉ xs) : inB s xs = false := by unfold inB; simp [h]
theorem inB_congr {s : ByteArray} {xs ys : List ByteArray} (h : s ∈ xs ↔ s ∈ ys) : inB s xs = inB s ys := by
  by_cases k : s ∈ xs
  · rw [inB_t k, inB_t (h.mp k)]
  · rw [inB_f k, inB_f (fun q => k (h.mpr q))]
theorem cmpLess_eq (a b : ByteArray) : cmp_Less_string.f a b = some (decide (dt a < dt b)) := by
  have h : ∀ x : ByteArray, cmp_isNaN_string.f x = some false := fun x => by unfold cmp_isNaN_string.f; simp
  rw [cmp_Less_string.f, h, Option.bind_some, if_neg (by decide), Go.Proofs.bytesLess_eq, ByteArray.toList_eq, ByteArray.toList_eq]
theorem half (i j : Nat) (h : i + j ≤ 1000000) : wrap64 ((IntKind.u64.wrap (wrap64 ((i : Int) + (j : Int)))) / 2) = (((i + j) / 2 : Nat) : Int) := by
  have e : wrap64 ((i : Int) + (j : Int)) = ((i + j : Nat) : Int) := by unfold wrap64; omega
  have e2 : IntKind.u64.wrap ((i + j : Nat) : Int) = ((i + j : Nat) : Int) := by
    simp only [IntKind.wrap, IntKind.signed, IntKind.bits]
    simp
    omega
  rw [e, e2]
  unfold wrap64
  omega
theorem search_from (xs : List ByteArray) (s : ByteArray) (hx : xs.length ≤ 100000) (hs : Strict xs) : ∀ (d i j k : Nat), j - i ≤ d → i ≤ j → j ≤ xs.length → d + 1 ≤ k →
    (∀ (t : Nat) (ht : t < xs.length), t < i → dt xs[t] < dt s) → (∀ (t : Nat) (ht : t < xs.length), j ≤ t → ¬ dt xs[t] < dt s) →
    ∃ p, slices_BinarySearch_string_string.l0 k xs s (xs.length : Int) (i : Int) (j : Int) = some (p, inB s xs) := by
  intro d
  induction d with
  | zero =>
    intro i j k hd hij hj hk hlo hhi
    obtain ⟨k, rfl⟩ : ∃ m, k = m + 1 := ⟨k - 1, by omega⟩
    have e : i = j := by omega
    subst e
    rw [slices_BinarySearch_string_string.l0, if_neg (by omega)]
    by_cases hi : i < xs.length
    · rw [if_pos (by omega), if_pos (by omega), if_pos (by omega), rd_at xs i hi]
      by_cases he : xs[i].toList = s.toList
      · rw [if_pos he]
        have he' : xs[i] = s := dt_inj (by simpa [ByteArray.toList_eq] using he)
        exact ⟨_, by rw [inB_t (by rw [← he']; exact List.getElem_mem _)]⟩
      · have hn : s ∉ xs := by
          intro hm
          obtain ⟨t, ht, e⟩ := List.mem_iff_getElem.mp hm
          by_cases h1 : t < i
          · have := hlo t ht h1; rw [e] at this; exact List.lt_irrefl _ this
          · by_cases h2 : t = i
            · subst h2; exact he (by rw [e])
            · have h3 := (List.pairwise_iff_getElem.mp hs) i t hi ht (by omega)
              rw [e] at h3
              exact hhi i hi (Nat.le_refl _) h3
        have hnan : ∀ x : ByteArray, slices_isNaN_string.f x = some false := fun x => by unfold slices_isNaN_string.f; simp
        rw [if_neg he, hnan, Option.bind_some, if_neg (by decide)]
        exact ⟨_, by rw [inB_f hn]⟩
    · rw [if_neg (by omega)]
      have hn : s ∉ xs := by
        intro hm
        obtain ⟨t, ht, e⟩ := List.mem_iff_getElem.mp hm
        have := hlo t ht (by omega); rw [e] at this; exact List.lt_irrefl _ this
      exact ⟨_, by rw [inB_f hn]⟩
  | succ d ih =>
    intro i j k hd hij hj hk hlo hhi
    by_cases he : i = j
    · exact ih i j k (by omega) hij hj (by omega) hlo hhi
    obtain ⟨k, rfl⟩ : ∃ m, k = m + 1 := ⟨k - 1, by omega⟩
    have hm : (i + j) / 2 < xs.length := by omega
    rw [slices_BinarySearch_string_string.l0, if_pos (by omega), half i j (by omega), if_pos (by omega), if_pos (by omega), rd_at xs _ hm, cmpLess_eq, Option.bind_some]
    by_cases hl : dt xs[(i + j) / 2] < dt s
    · rw [decide_eq_true hl, if_pos rfl, w64 _ (by omega)]
      refine ih ((i + j) / 2 + 1) j k (by omega) (by omega) hj (by omega) (fun t ht h => ?_) hhi
      by_cases e : t = (i + j) / 2
      · subst e; exact hl
      · exact List.lt_trans ((List.pairwise_iff_getElem.mp hs) t _ ht hm (by omega)) hl
    · rw [decide_eq_false hl, if_neg (by decide)]
      refine ih i ((i + j) / 2) k (by omega) (by omega) (by omega) (by omega) hlo (fun t ht h => ?_)
      by_cases e : t = (i + j) / 2
      · subst e; exact hl
      · intro h2
        exact hl (List.lt_trans ((List.pairwise_iff_getElem.mp hs) _ t hm ht (by omega)) h2)
theorem has_ev (xs : List ByteArray) (s : ByteArray) (hx : xs.length ≤ 100000) (hs : Strict xs) : Ev (fun k => names_Has.f k xs s) (inB s xs) := by
  refine ⟨xs.length + 1, fun k hk => ?_⟩
  obtain ⟨p, h⟩ := search_from xs s hx hs xs.length 0 xs.length k (by omega) (by omega) (Nat.le_refl _) hk (fun t ht h => absurd h (Nat.not_lt_zero _)) (fun t ht h => absurd ht (by omega))
  show names_Has.f k xs s = _
  rw [names_Has.f, slices_BinarySearch_string_string.f]
  rw [show ((0 : Nat) : Int) = 0 from rfl] at h
  rw [h, Option.bind_some]
theorem refHas_from (l : List ByteArray) (s : ByteArray) (hl : l.length ≤ 100000) : ∀ (d i k : Nat), l.length - i = d → i ≤ l.length → d + 1 ≤ k → touchstoneref11_Has.l0 k l s (i : Int) = some (inB s (l.drop i)) := by
  intro d
  induction d with
  | zero =>
    intro i k hd hi hk
    obtain ⟨k, rfl⟩ : ∃ m, k = m + 1 := ⟨k - 1, by omega⟩
    rw [touchstoneref11_Has.l0, if_neg (by omega), List.drop_eq_nil_of_le (by omega), inB_f (by simp)]
  | succ d ih =>
    intro i k hd hi hk
    obtain ⟨k, rfl⟩ : ∃ m, k = m + 1 := ⟨k - 1, by omega⟩
    have hil : i < l.length := by omega
    rw [touchstoneref11_Has.l0, if_pos (by omega), if_pos (by omega), rd_at l i hil, w64 i (by omega), ih (i + 1) k (by omega) (by omega) (by omega), List.drop_eq_getElem_cons hil]
    by_cases he : l[i].toList = s.toList
    · rw [if_pos he]
      have he' : l[i] = s := dt_inj (by simpa [ByteArray.toList_eq] using he)
      rw [inB_t (by rw [he']; exact List.mem_cons_self)]
    · rw [if_neg he]
      have hn : ¬ s = l[i] := fun h => he (by rw [h])
      congr 1
      exact inB_congr ⟨fun h => List.mem_cons_of_mem _ h, fun h => (List.mem_cons.mp h).resolve_left hn⟩
theorem refHas_ev (l : List ByteArray) (s : ByteArray) (hl : l.length ≤ 100000) : Ev (fun k => touchstoneref11_Has.f k l s) (inB s l) :=
  ⟨l.length + 1, fun k hk => by
    have h := refHas_from l s hl l.length 0 k (by omega) (by omega) hk
    rw [show ((0 : Nat) : Int) = 0 from rfl, List.drop_zero] at h
    exact h⟩
theorem light_from (l : List ByteArray) (hl : l.length ≤ 60) : ∀ (d i k : Nat), l.length - i = d → i ≤ l.length → d + 1 ≤ k → touchstonelaw10_light.l0 k l (i : Int) = some (decide (∀ x ∈ l.drop i, x.size ≤ 60)) := by
  intro d
  induction d with
  | zero =>
    intro i k hd hi hk
    obtain ⟨k, rfl⟩ : ∃ m, k = m + 1 := ⟨k - 1, by omega⟩
    rw [touchstonelaw10_light.l0, if_neg (by omega), List.drop_eq_nil_of_le (by omega)]; simp
  | succ d ih =>
    intro i k hd hi hk
    obtain ⟨k, rfl⟩ : ∃ m, k = m + 1 := ⟨k - 1, by omega⟩
    have hil : i < l.length := by omega
    rw [touchstonelaw10_light.l0, if_pos (by omega), if_pos (by omega), rd_at l i hil, w64 i (by omega), ih (i + 1) k (by omega) (by omega) (by omega), List.drop_eq_getElem_cons hil]
    by_cases he : (l[i].size : Int) > 60
    · rw [if_pos he, decide_eq_false (fun h => by have := h l[i] List.mem_cons_self; omega)]
    · rw [if_neg he]
      congr 1
      have : l[i].size ≤ 60 := by omega
      exact decide_eq_decide.mpr ⟨fun h x hx => (List.mem_cons.mp hx).elim (fun e => by rw [e]; exact this) (h x), fun h x hx => h x (List.mem_cons_of_mem _ hx)⟩
theorem light_ev (l : List ByteArray) : ∃ b, Ev (fun k => touchstonelaw10_light.f k l) b ∧ (b = true → l.length ≤ 60 ∧ ∀ x ∈ l, x.size ≤ 60) := by
  by_cases h : (l.length : Int) > 60
  · exact ⟨false, ⟨0, fun k _ => by show touchstonelaw10_light.f k l = _; rw [touchstonelaw10_light.f, if_pos h]⟩, fun h => by cases h⟩
  · refine ⟨decide (∀ x ∈ l, x.size ≤ 60), ⟨l.length + 1, fun k hk => ?_⟩, fun hb => ⟨by omega, of_decide_eq_true hb⟩⟩
    show touchstonelaw10_light.f k l = _
    have h2 := light_from l (by omega) l.length 0 k (by omega) (by omega) hk
    rw [show ((0 : Nat) : Int) = 0 from rfl, List.drop_zero] at h2
    rw [touchstonelaw10_light.f, if_neg h, h2]
theorem less_eq (a b : ByteArray) : names_Less.f a b = some (decide (dt a < dt b)) := by
  unfold names_Less.f
  congr 1
  exact decide_eq_decide.mpr (compare_lt _ _)
def ab : List ByteArray := [⟨#[97]⟩, ⟨#[98]⟩]
theorem ab_strict : Strict ab := by
  unfold Strict ab
  simp only [List.pairwise_cons, List.mem_cons, List.not_mem_nil, or_false, forall_eq, false_implies, implies_true, List.Pairwise.nil, and_true]
  decide
theorem bab : srt ([(⟨#[98]⟩ : ByteArray), (⟨#[97]⟩ : ByteArray)] ++ [(⟨#[98]⟩ : ByteArray)]) = ab := by
  refine strict_unique _ _ (srt_strict _) ab_strict (fun y => ?_)
  rw [srt_mem]
  simp only [ab, List.cons_append, List.nil_append, List.mem_cons, List.not_mem_nil, or_false]
  constructor
  · rintro (h | h | h)
    · exact .inr h
    · exact .inl h
    · exact .inr h
  · rintro (h | h)
    · exact .inr (.inl h)
    · exact .inl h
theorem begun_ev : Ev (fun k => touchstonelaw10_begun.f k) true := by
  obtain ⟨K1, h1⟩ := join_ev [(⟨#[98]⟩ : ByteArray), (⟨#[97]⟩ : ByteArray)] [(⟨#[98]⟩ : ByteArray)] (by decide) (by decide)
  have h2 : Ev (fun k => names_May.f k (⟨#[97, 46, 98]⟩ : ByteArray)) true := Ev.of (fun k => names_May.mono _ k) (k := 40) (by decide +kernel)
  have h3 : Ev (fun k => names_May.f k (⟨#[49, 97]⟩ : ByteArray)) false := Ev.of (fun k => names_May.mono _ k) (k := 40) (by decide +kernel)
  obtain ⟨K2, h2⟩ := h2
  obtain ⟨K3, h3⟩ := h3
  obtain ⟨K4, h4⟩ := has_ev ab (⟨#[98]⟩ : ByteArray) (by decide) ab_strict
  refine ⟨K1 + K2 + K3 + K4, fun k hk => ?_⟩
  have g1 := h1 k (by omega)
  have g2 := h2 k (by omega)
  have g3 := h3 k (by omega)
  have g4 := h4 k (by omega)
  simp only at g1 g2 g3 g4
  show touchstonelaw10_begun.f k = _
  rw [touchstonelaw10_begun.f, g1, Option.bind_some, bab, g2, Option.bind_some, if_pos rfl, g3, Option.bind_some, if_neg (by decide), less_eq, Option.bind_some, if_pos (by decide), if_pos (by decide), if_pos (by decide), if_pos (by decide +kernel), g4, Option.bind_some, inB_t (by simp [ab])]
end Go.Proofs.Ytkbeeiijodojkaa.QN
