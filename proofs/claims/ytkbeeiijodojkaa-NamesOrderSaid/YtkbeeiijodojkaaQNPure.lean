/- What the printed functions of names and of its law answer. -/
import Derived.Test.YtkbeeiijodojkaaQNRefMath
import Derived.Test.YtkbeeiijodojkaaQNx8
import Derived.Test.YtkbeeiijodojkaaQNx9
import Derived.Test.YtkbeeiijodojkaaQNx7
set_option linter.unusedVariables false
set_option linter.unusedSimpArgs false
namespace Go.Proofs.Ytkbeeiijodojkaa.QN
open Go.RowKit Go.Proofs.Ytkbeeiijodojkaa.NM Go.Proofs.YtkbeeiijodojkaaW.PrintWords Go.Proofs.YtkbeeiijodojkaaW.PrintLast Go.Proofs.YtkbeeiijodojkaaW.PrintMore

theorem concat_eq (a b : List ByteArray) (ha : a.length ≤ 1000) (hb : b.length ≤ 1000) (k : Nat) : slices_Concat_string_string.f (k + 6) [a, b] = some (a ++ b) := by
  have e1 : wrap64 (0 + (a.length : Int)) = (a.length : Int) := by unfold wrap64; omega
  have e2 : wrap64 ((a.length : Int) + (b.length : Int)) = (a.length : Int) + (b.length : Int) := by unfold wrap64; omega
  have e3 : wrap64 (0 + 1) = 1 := by unfold wrap64; omega
  have e4 : wrap64 (1 + 1) = 2 := by unfold wrap64; omega
  have r0 : rd_L1 [a, b] 0 = a := rfl
  have r1 : rd_L1 [a, b] 1 = b := rfl
  have hlen : (([a, b] : List (List ByteArray)).length : Int) = 2 := rfl
  rw [slices_Concat_string_string.f, hlen, slices_Concat_string_string.l0, hlen, if_pos (by decide), if_pos (by decide), if_pos (by decide), r0, e1, if_neg (by omega), e3,
    slices_Concat_string_string.l0, hlen, if_pos (by decide), if_pos (by decide), if_pos (by decide), r1, e2, if_neg (by omega), e4,
    slices_Concat_string_string.l0, hlen, if_neg (by decide)]
  rw [slices_Grow_string_string.f, if_pos ⟨by omega, by omega⟩, Option.bind_some,
    slices_Concat_string_string.l1, hlen, if_pos (by decide), if_pos (by decide), if_pos (by decide), r0, if_pos (by simp; omega), e3,
    slices_Concat_string_string.l1, hlen, if_pos (by decide), if_pos (by decide), if_pos (by decide), r1, if_pos (by simp; omega), e4,
    slices_Concat_string_string.l1, if_neg (by decide)]
  simp
theorem join_ev (a b : List ByteArray) (ha : a.length ≤ 500) (hb : b.length ≤ 500) : Ev (fun k => names_Join.f k a b) (srt (a ++ b)) := by
  refine ⟨6, fun k hk => ?_⟩
  obtain ⟨m, rfl⟩ : ∃ m, k = m + 6 := ⟨k - 6, by omega⟩
  show names_Join.f (m + 6) a b = _
  rw [names_Join.f, concat_eq a b (by omega) (by omega), Option.bind_some, names_Sorted.f, if_pos (by simp; omega), Option.bind_some]
  rfl
theorem alike_from (x : List ByteArray) (hx : x.length ≤ 100000) : ∀ (d i k : Nat), x.length - i = d → i ≤ x.length → d + 1 ≤ k → touchstonelaw10_alike.l0 k x x (i : Int) = some true := by
  intro d
  induction d with
  | zero =>
    intro i k hd hi hk
    obtain ⟨k, rfl⟩ : ∃ m, k = m + 1 := ⟨k - 1, by omega⟩
    rw [touchstonelaw10_alike.l0, if_neg (by omega)]
  | succ d ih =>
    intro i k hd hi hk
    obtain ⟨k, rfl⟩ : ∃ m, k = m + 1 := ⟨k - 1, by omega⟩
    rw [touchstonelaw10_alike.l0, if_pos (by omega), if_pos (by omega), if_pos (by omega), if_pos rfl, w64 i (by omega)]
    exact ih (i + 1) k (by omega) (by omega) (by omega)
theorem alike_ev (x : List ByteArray) (hx : x.length ≤ 100000) : Ev (fun k => touchstonelaw10_alike.f k x x) true :=
  ⟨x.length + 1, fun k hk => by
    show touchstonelaw10_alike.f k x x = _
    rw [touchstonelaw10_alike.f, if_pos rfl]
    exact alike_from x hx x.length 0 k (by omega) (by omega) hk⟩
/-! ### names -/
def Lt (c : Int) : Bool := (names_Letter.f c).getD false
def Dg (c : Int) : Bool := (names_Digit.f c).getD false
theorem letter_eq (c : Int) : names_Letter.f c = some (Lt c) := by
  unfold Lt names_Letter.f; (repeat' split) <;> rfl
theorem letter7_eq (c : Int) : touchstoneref7_letter.f c = some (Lt c) := by
  rw [← letter_eq]; rfl
theorem digit_eq (c : Int) : names_Digit.f c = some (Dg c) := by
  unfold Dg names_Digit.f; (repeat' split) <;> rfl
theorem digit7_eq (c : Int) : touchstoneref7_digit.f c = some (Dg c) := by
  rw [← digit_eq]; rfl
def dotc (s : ByteArray) (i : Nat) : Bool := decide (bt s (i : Int) = 46) && decide (i + 1 < s.size) && Lt (bt s ((i + 1 : Nat) : Int))
def okc (s : ByteArray) (i : Nat) : Bool := Lt (bt s (i : Int)) || Dg (bt s (i : Int)) || decide (bt s (i : Int) = 95) || dotc s i
def endAt (cap : Nat) (s : ByteArray) : Nat → Nat → Nat
  | 0, i => i
  | d + 1, i => if i ≤ cap then (if okc s i = true then endAt cap s d (i + 1) else i) else i
theorem name_from (s : ByteArray) (hs : s.size ≤ 100000) : ∀ (d i k : Nat), s.size - i = d → i ≤ s.size → 2 * d + 1 ≤ k → touchstoneref7_Name.l0 k s (i : Int) = some ((endAt 100000 s d i : Nat) : Int) := by
  intro d
  induction d with
  | zero =>
    intro i k hd hi hk
    obtain ⟨k, rfl⟩ : ∃ m, k = m + 1 := ⟨k - 1, by omega⟩
    rw [touchstoneref7_Name.l0, if_neg (by omega)]; rfl
  | succ d ih =>
    intro i k hd hi hk
    obtain ⟨k, rfl⟩ : ∃ m, k = m + 2 := ⟨k - 2, by omega⟩
    have hgo : touchstoneref7_Name.l0 k s ((i + 1 : Nat) : Int) = some ((endAt 100000 s d (i + 1) : Nat) : Int) := ih (i + 1) k (by omega) (by omega) (by omega)
    have ht : touchstoneref7_Name.j2 (k + 1) s (i : Int) true = some ((endAt 100000 s d (i + 1) : Nat) : Int) := by
      rw [touchstoneref7_Name.j2, if_pos rfl, w64 i (by omega)]; exact hgo
    rw [touchstoneref7_Name.l0, if_pos (by omega), if_pos (by omega), letter7_eq, Option.bind_some, digit7_eq, Option.bind_some]
    rw [endAt, if_pos (show i ≤ 100000 by omega)]
    by_cases h1 : Lt (bt s (i : Int)) = true
    · rw [if_pos h1, ht, if_pos (by simp [okc, h1])]
    · rw [if_neg h1]
      by_cases h2 : Dg (bt s (i : Int)) = true
      · rw [if_pos h2, ht, if_pos (by simp [okc, h2])]
      · rw [if_neg h2]
        by_cases h3 : bt s (i : Int) = 95
        · rw [show (bt s (i : Int) == 95) = true by simp [h3], ht, if_pos (by simp [okc, h3])]
        · rw [show (bt s (i : Int) == 95) = false by simp [h3], touchstoneref7_Name.j2, if_neg (by decide), if_pos (by omega), if_pos (by omega), w64 i (by omega)]
          by_cases h4 : bt s (i : Int) = 46
          · rw [if_pos h4]
            by_cases h5 : i + 1 < s.size
            · rw [if_pos (by omega), if_pos (by omega), letter7_eq, Option.bind_some]
              by_cases h6 : Lt (bt s ((i + 1 : Nat) : Int)) = true
              · rw [if_pos h6, hgo, if_pos (by unfold okc dotc; rw [decide_eq_true h4, decide_eq_true h5, h6]; simp)]
              · rw [if_neg h6, if_neg (by unfold okc dotc; rw [Bool.eq_false_iff.mpr h1, Bool.eq_false_iff.mpr h2, decide_eq_false h3, decide_eq_true h4, decide_eq_true h5, Bool.eq_false_iff.mpr h6]; decide)]
            · rw [if_neg (by omega), if_neg (by unfold okc dotc; rw [Bool.eq_false_iff.mpr h1, Bool.eq_false_iff.mpr h2, decide_eq_false h3, decide_eq_false h5]; simp)]
          · rw [if_neg h4, if_neg (by unfold okc dotc; rw [Bool.eq_false_iff.mpr h1, Bool.eq_false_iff.mpr h2, decide_eq_false h3, decide_eq_false h4]; simp)]
theorem run_from (s : ByteArray) (hs : s.size ≤ 100000) : ∀ (d i k : Nat), s.size - i = d → i ≤ s.size → 3 * d + 2 ≤ k → names_Run.l0 k s (i : Int) = some ((endAt 24 s d i : Nat) : Int) := by
  intro d
  induction d with
  | zero =>
    intro i k hd hi hk
    obtain ⟨k, rfl⟩ : ∃ m, k = m + 2 := ⟨k - 2, by omega⟩
    rw [names_Run.l0, if_neg (by omega), names_Run.j2, if_neg (by decide)]; rfl
  | succ d ih =>
    intro i k hd hi hk
    obtain ⟨k, rfl⟩ : ∃ m, k = m + 3 := ⟨k - 3, by omega⟩
    rw [names_Run.l0, if_pos (by omega), endAt]
    by_cases hc : i ≤ 24
    · rw [decide_eq_true (by omega : (i : Int) ≤ 24), if_pos hc, names_Run.j2, if_pos rfl, if_pos (by omega), if_pos (by omega), w64 i (by omega)]
      have hgo : names_Run.l0 k s ((i + 1 : Nat) : Int) = some ((endAt 24 s d (i + 1) : Nat) : Int) := ih (i + 1) k (by omega) (by omega) (by omega)
      have hj : ∀ x5 : Bool, names_Run.j3 (k + 1) s (i : Int) (bt s (i : Int)) x5 = if (Lt (bt s (i : Int)) || Dg (bt s (i : Int)) || decide (bt s (i : Int) = 95) || x5) = true then some ((endAt 24 s d (i + 1) : Nat) : Int) else some (i : Int) := by
        intro x5
        rw [names_Run.j3, letter_eq, Option.bind_some, digit_eq, Option.bind_some, w64 i (by omega), hgo]
        by_cases h1 : Lt (bt s (i : Int)) = true
        · simp [h1]
        · by_cases h2 : Dg (bt s (i : Int)) = true
          · simp [h1, h2]
          · by_cases h3 : bt s (i : Int) = 95
            · simp [h3]
            · cases x5 <;> simp [h1, h2, h3]
      have hd' : ∀ b : Bool, b = dotc s i → (if (Lt (bt s (i : Int)) || Dg (bt s (i : Int)) || decide (bt s (i : Int) = 95) || b) = true then some ((endAt 24 s d (i + 1) : Nat) : Int) else some (i : Int)) = some (((if okc s i = true then endAt 24 s d (i + 1) else i : Nat)) : Int) := by
        intro b hb
        subst hb
        show (if okc s i = true then _ else _) = _
        split <;> rfl
      by_cases h4 : bt s (i : Int) = 46
      · rw [if_pos h4]
        by_cases h5 : i + 1 < s.size
        · rw [if_pos (by omega), if_pos (by omega), letter_eq, Option.bind_some, hj, hd' _ (by unfold dotc; rw [decide_eq_true h4, decide_eq_true h5]; simp)]
        · rw [if_neg (by omega), hj, hd' _ (by unfold dotc; rw [decide_eq_false h5]; simp)]
      · rw [if_neg h4, hj, hd' _ (by unfold dotc; rw [decide_eq_false h4]; simp)]
    · rw [decide_eq_false (by omega : ¬ (i : Int) ≤ 24), if_neg hc, names_Run.j2, if_neg (by decide)]
theorem endAt_same (s : ByteArray) (hs : s.size ≤ 24) : ∀ (d i : Nat), s.size - i = d → i ≤ s.size → endAt 24 s d i = endAt 100000 s d i := by
  intro d
  induction d with
  | zero => intro i _ _; rfl
  | succ d ih =>
    intro i hd hi
    rw [endAt, endAt, if_pos (show i ≤ 24 by omega), if_pos (show i ≤ 100000 by omega), ih (i + 1) (by omega) (by omega)]
theorem may_is (s : ByteArray) (hs : s.size ≤ 100000) : ∃ v, Ev (fun k => names_May.f k s) v ∧ Ev (fun k => touchstoneref7_IsName.f k s) v := by
  by_cases h0 : s.size = 0
  · refine ⟨false, ⟨1, fun k hk => ?_⟩, ⟨0, fun k _ => ?_⟩⟩
    · obtain ⟨k, rfl⟩ : ∃ m, k = m + 1 := ⟨k - 1, by omega⟩
      have hl : s.toList = [] := by
        rw [ByteArray.toList_eq]; exact List.length_eq_zero_iff.mp (by simpa using h0)
      show names_May.f (k + 1) s = _
      rw [names_May.f, names_Run.f, if_pos hl, names_Run.j0, if_pos rfl, Option.bind_some, if_neg (by decide)]
    · show touchstoneref7_IsName.f k s = _
      rw [touchstoneref7_IsName.f, if_neg (by omega)]
  · have hl : ¬ s.toList = [] := by
      rw [ByteArray.toList_eq]; intro h; apply h0; have := congrArg List.length h; simpa using this
    by_cases hlt : Lt (bt s 0) = true
    · refine ⟨decide (s.size ≤ 24 ∧ endAt 24 s (s.size - 1) 1 = s.size), ⟨3 * s.size + 5, fun k hk => ?_⟩, ⟨3 * s.size + 5, fun k hk => ?_⟩⟩
      · obtain ⟨k, rfl⟩ : ∃ m, k = m + 1 := ⟨k - 1, by omega⟩
        have hr := run_from s hs (s.size - 1) 1 k (by omega) (by omega) (by omega)
        show names_May.f (k + 1) s = _
        rw [names_May.f, names_Run.f, if_neg hl, if_pos (by omega), letter_eq, Option.bind_some, hlt, names_Run.j0, if_neg (by decide)]
        rw [show (1 : Int) = ((1 : Nat) : Int) from rfl, hr, Option.bind_some]
        have hge : ∀ (d i : Nat), 1 ≤ i → 1 ≤ endAt 24 s d i := by
          intro d
          induction d with
          | zero => intro i hi; exact hi
          | succ d ih => intro i hi; rw [endAt]; split; (split; exact ih _ (by omega); exact hi); exact hi
        have hge1 := hge (s.size - 1) 1 (Nat.le_refl _)
        generalize endAt 24 s (s.size - 1) 1 = r at *
        rw [if_pos (by omega)]
        by_cases he : r = s.size
        · subst he
          rw [if_pos rfl]
          by_cases h24 : s.size ≤ 24
          · rw [decide_eq_true (by omega : ((s.size : Nat) : Int) ≤ 24), decide_eq_true ⟨h24, rfl⟩]
          · rw [decide_eq_false (by omega : ¬ ((s.size : Nat) : Int) ≤ 24), decide_eq_false (fun h => h24 h.1)]
        · rw [if_neg (by omega), decide_eq_false (fun h => he h.2)]
      · obtain ⟨k, rfl⟩ : ∃ m, k = m + 1 := ⟨k - 1, by omega⟩
        show touchstoneref7_IsName.f (k + 1) s = _
        rw [touchstoneref7_IsName.f, if_pos (by omega)]
        by_cases h24 : s.size ≤ 24
        · have hr := name_from s hs (s.size - 1) 1 k (by omega) (by omega) (by omega)
          rw [if_pos (by omega), touchstoneref7_Name.f, if_neg (by omega), if_pos (by omega), letter7_eq, Option.bind_some, hlt, touchstoneref7_Name.j0, if_neg (by decide)]
          rw [show (1 : Int) = ((1 : Nat) : Int) from rfl, hr, Option.bind_some, ← endAt_same s h24 (s.size - 1) 1 (by omega) (by omega)]
          congr 1
          generalize endAt 24 s (s.size - 1) 1 = r
          by_cases he : r = s.size
          · subst he; simp [h24]
          · have : ¬ ((r : Nat) : Int) = (s.size : Int) := by omega
            simp [he, this]
        · rw [if_neg (by omega), decide_eq_false (fun h => h24 h.1)]
    · refine ⟨false, ⟨1, fun k hk => ?_⟩, ⟨1, fun k hk => ?_⟩⟩
      · obtain ⟨k, rfl⟩ : ∃ m, k = m + 1 := ⟨k - 1, by omega⟩
        show names_May.f (k + 1) s = _
        rw [names_May.f, names_Run.f, if_neg hl, if_pos (by omega), letter_eq, Option.bind_some, show (!Lt (bt s 0)) = true by simp [hlt], names_Run.j0, if_pos rfl, Option.bind_some, if_neg (by decide)]
      · obtain ⟨k, rfl⟩ : ∃ m, k = m + 1 := ⟨k - 1, by omega⟩
        show touchstoneref7_IsName.f (k + 1) s = _
        rw [touchstoneref7_IsName.f, if_pos (by omega)]
        by_cases h24 : s.size ≤ 24
        · rw [if_pos (by omega), touchstoneref7_Name.f, if_neg (by omega), if_pos (by omega), letter7_eq, Option.bind_some, show (!Lt (bt s 0)) = true by simp [hlt], touchstoneref7_Name.j0, if_pos rfl, Option.bind_some]
          congr 1
          have : ¬ (0 : Int) = (s.size : Int) := by omega
          simp [this]
        · rw [if_neg (by omega)]
end Go.Proofs.Ytkbeeiijodojkaa.QN
