/- Reading frames off bytes: what is read of some bytes is read of more, however they come. -/
import Derived.Test.YtmhkmlbmolikiaaOctetMath
set_option linter.unusedVariables false
set_option linter.unusedSimpArgs false
namespace Go.Proofs.Ytmhkmlbmolikiaa.FrameMath
open Go.RowKit Go.Proofs.YtmhkmlbmolikiaaW.PrintWords Go.Proofs.YtmhkmlbmolikiaaW.PrintLast Go.Proofs.YtmhkmlbmolikiaaW.PrintMore Go.Proofs.Ytmhkmlbmolikiaa.OctetMath

theorem tk_more (r : List Int) : ∀ (l : List Int) (i : Nat) (v : Int), (tk l i v).2.2 ≠ 2 → tk (l ++ r) i v = tk l i v
  | [], i, v, h => by simp [tk] at h
  | c :: l, i, v, h => by
    simp only [List.cons_append, tk] at h ⊢
    split
    · rfl
    · rename_i h1
      rw [if_neg h1] at h
      split
      · rename_i h2
        rw [if_pos h2] at h
        exact tk_more r l _ _ h
      · rfl
theorem tk_less (r : List Int) : ∀ (l : List Int) (i : Nat) (v : Int), i ≤ 9 → Bytes (l ++ r) → 0 ≤ v → v < 128 ^ i → (tk (l ++ r) i v).2.2 = 0 → (tk (l ++ r) i v).2.1 ≤ i + l.length → tk l i v = tk (l ++ r) i v
  | [], i, v, hi, hb, h0, h1, h, hl => by
    have := (tk_ok r i v hi hb h0 h1).2.2.2.2 h
    simp only [List.nil_append, List.length_nil] at hl
    omega
  | c :: l, i, v, hi, hb, h0, h1, h, hl => by
    have hc := hb c (by simp)
    have hr : Bytes (l ++ r) := fun d hd => hb d (List.mem_cons_of_mem _ hd)
    have hmul : c % 128 * 128 ^ i ≤ 127 * 128 ^ i := Int.mul_le_mul_of_nonneg_right (by omega) (by exact Int.le_of_lt (Int.pow_pos (by omega)))
    have hmul0 : 0 ≤ c % 128 * 128 ^ i := Int.mul_nonneg (by omega) (by exact Int.le_of_lt (Int.pow_pos (by omega)))
    have h2 : v + c % 128 * 128 ^ i < 128 ^ (i + 1) := by rw [Int.pow_succ]; omega
    simp only [List.cons_append, tk] at h hl ⊢
    split
    · rfl
    · rename_i h9
      rw [if_neg h9] at h hl
      split
      · rename_i h128
        rw [if_pos h128] at h hl
        have hi' : i + 1 ≤ 9 := by
          rcases Nat.lt_or_ge i 9 with h | h
          · omega
          · exact absurd (show i = 9 ∧ c > 1 by omega) h9
        exact tk_less r l (i + 1) _ hi' hr (by omega) h2 h (by simp only [List.length_cons] at hl; omega)
      · rfl
/-- What is no shortness stays when more comes. -/
theorem tkText_more {l r : List Int} {most : Int} (hb : Bytes l) (h : (tkText l most).2.2 ≠ 2) : tkText (l ++ r) most = tkText l most := by
  have ok := tk_ok l 0 0 (by omega) hb (by omega) (by simp)
  unfold tkText at h ⊢
  by_cases h0 : (tk l 0 0).2.2 = 0
  · rw [if_pos h0] at h
    rw [tk_more r l 0 0 (by rw [h0]; decide), if_pos h0, if_pos h0]
    by_cases h1 : (tk l 0 0).1 > (if most < 0 then 0 else most)
    · rw [if_pos h1, if_pos h1]
    · rw [if_neg h1] at h ⊢
      rw [if_neg h1]
      by_cases h2 : (tk l 0 0).1 > (l.length : Int) - (tk l 0 0).2.1
      · rw [if_pos h2] at h
        exact absurd rfl h
      · rw [if_neg h2, if_neg (by simp only [List.length_append]; omega), List.take_append_of_le_length (by omega)]
  · rw [if_neg h0] at h
    rw [tk_more r l 0 0 h, if_neg h0, if_neg h0]
theorem tkText_ok {l : List Int} {most : Int} (hb : Bytes l) (h : (tkText l most).2.2 = 0) : 1 ≤ (tkText l most).2.1 ∧ (tkText l most).2.1 ≤ l.length := by
  have ok := tk_ok l 0 0 (by omega) hb (by omega) (by simp)
  unfold tkText at h ⊢
  by_cases h0 : (tk l 0 0).2.2 = 0
  · have := ok.2.2.2.2 h0
    rw [if_pos h0] at h ⊢
    by_cases h1 : (tk l 0 0).1 > (if most < 0 then 0 else most)
    · rw [if_pos h1] at h; exact absurd h (by simp)
    · rw [if_neg h1] at h ⊢
      by_cases h2 : (tk l 0 0).1 > (l.length : Int) - (tk l 0 0).2.1
      · rw [if_pos h2] at h; exact absurd h (by simp)
      · rw [if_neg h2]
        simp only
        omega
  · rw [if_neg h0] at h
    exact absurd h h0
theorem tkText_less {l r : List Int} {most : Int} (hb : Bytes (l ++ r)) (h : (tkText (l ++ r) most).2.2 = 0) (hn : (tkText (l ++ r) most).2.1 ≤ l.length) : (tkText l most).2.2 = 0 := by
  have ok := tk_ok (l ++ r) 0 0 (by omega) hb (by omega) (by simp)
  unfold tkText at h hn ⊢
  by_cases h0 : (tk (l ++ r) 0 0).2.2 = 0
  · have := ok.2.2.2.2 h0
    rw [if_pos h0] at h hn
    by_cases h1 : (tk (l ++ r) 0 0).1 > (if most < 0 then 0 else most)
    · rw [if_pos h1] at h; exact absurd h (by simp)
    · rw [if_neg h1] at h hn
      by_cases h2 : (tk (l ++ r) 0 0).1 > ((l ++ r).length : Int) - (tk (l ++ r) 0 0).2.1
      · rw [if_pos h2] at h; exact absurd h (by simp)
      · rw [if_neg h2] at hn
        simp only at hn
        rw [tk_less r l 0 0 (by omega) hb (by omega) (by simp) h0 (by omega), if_pos h0, if_neg h1, if_neg (by omega)]
  · rw [if_neg h0] at h
    exact absurd h h0
theorem tkText_nil (most : Int) : tkText [] most = ([], 0, 2) := by simp [tkText, tk]
/-- A text that the last byte makes whole is all there is. -/
theorem tkText_last {l : List Int} {c : Int} {most : Int} (hb : Bytes (l ++ [c])) (h2 : (tkText l most).2.2 = 2) (h : (tkText (l ++ [c]) most).2.2 = 0) : (tkText (l ++ [c]) most).2.1 = l.length + 1 := by
  have h1 := tkText_ok hb h
  rcases Int.lt_or_le (l.length : Int) (tkText (l ++ [c]) most).2.1 with h3 | h3
  · simp only [List.length_append, List.length_singleton] at h1
    omega
  · rw [tkText_less hb h h3] at h2
    exact absurd h2 (by decide)

/-- The frames that bytes begin with, what is left, and why no more is read. -/
inductive Fed : List Int → List (List Int) → List Int → Int → Prop
  | stop (y : List Int) (e : Int) : (tkText y 65536).2.2 = e → e ≠ 0 → Fed y [] y e
  | more (y t : List Int) (n : Int) (fs : List (List Int)) (r : List Int) (e : Int) : tkText y 65536 = (t, n, 0) → Fed (y.drop n.toNat) fs r e → Fed y (t :: fs) r e
theorem Fed.exists : ∀ (m : Nat) (y : List Int), y.length ≤ m → Bytes y → ∃ fs r e, Fed y fs r e := by
  intro m
  induction m with
  | zero =>
    intro y hm _
    obtain rfl := List.eq_nil_of_length_eq_zero (Nat.le_zero.mp hm)
    exact ⟨[], [], 2, .stop [] 2 (by rw [tkText_nil]) (by decide)⟩
  | succ m ih =>
    intro y hm hb
    by_cases h : (tkText y 65536).2.2 = 0
    · have ok := tkText_ok hb h
      obtain ⟨fs, r, e, hf⟩ := ih (y.drop (tkText y 65536).2.1.toNat) (by rw [List.length_drop]; omega) (hb.drop _)
      exact ⟨_, r, e, .more y (tkText y 65536).1 (tkText y 65536).2.1 fs r e (by rw [← h]) hf⟩
    · exact ⟨[], y, _, .stop y _ rfl h⟩
theorem Fed.det {y : List Int} {fs : List (List Int)} {r : List Int} {e : Int} (h : Fed y fs r e) : ∀ {gs : List (List Int)} {s : List Int} {f : Int}, Fed y gs s f → gs = fs ∧ s = r ∧ f = e := by
  induction h with
  | stop y e h1 h2 =>
    intro gs s f h
    cases h with
    | stop _ _ h3 h4 => exact ⟨rfl, rfl, h3.symm.trans h1⟩
    | more _ t n gs' _ _ h3 h4 => rw [h3] at h1; exact absurd h1.symm h2
  | more y t n fs r e h1 h2 ih =>
    intro gs s f h
    cases h with
    | stop _ _ h3 h4 => rw [h1] at h3; exact absurd h3.symm h4
    | more _ t' n' gs' _ _ h3 h4 =>
      rw [h1] at h3
      simp only [Prod.mk.injEq, and_true] at h3
      obtain ⟨rfl, rfl⟩ := h3
      obtain ⟨rfl, rfl, rfl⟩ := ih h4
      exact ⟨rfl, rfl, rfl⟩
theorem Fed.end_ {y : List Int} {fs : List (List Int)} {r : List Int} {e : Int} (h : Fed y fs r e) : (tkText r 65536).2.2 = e ∧ e ≠ 0 := by
  induction h with
  | stop y e h1 h2 => exact ⟨h1, h2⟩
  | more y t n fs r e h1 h2 ih => exact ih
theorem Fed.bytes {y : List Int} {fs : List (List Int)} {r : List Int} {e : Int} (h : Fed y fs r e) : Bytes y → Bytes r := by
  induction h with
  | stop y e h1 h2 => exact id
  | more y t n fs r e h1 h2 ih => exact fun hb => ih (hb.drop _)
theorem Fed.len {y : List Int} {fs : List (List Int)} {r : List Int} {e : Int} (h : Fed y fs r e) : Bytes y → fs.length + r.length ≤ y.length := by
  induction h with
  | stop y e h1 h2 => exact fun _ => by simp
  | more y t n fs r e h1 h2 ih =>
    intro hb
    have := ih (hb.drop _)
    have ok := tkText_ok hb (by rw [h1])
    rw [h1] at ok
    simp only [List.length_cons, List.length_drop] at this ok ⊢
    omega
/-- Frames of some bytes, and then of what was left with more behind it. -/
theorem Fed.then_ {p : List Int} {fs : List (List Int)} {r : List Int} {e : Int} (h : Fed p fs r e) (he : e = 2) : ∀ {q : List Int} {gs : List (List Int)} {s : List Int} {f : Int}, Bytes p → Fed (r ++ q) gs s f → Fed (p ++ q) (fs ++ gs) s f := by
  induction h with
  | stop y e h1 h2 => exact fun _ h => h
  | more y t n fs r e h1 h2 ih =>
    intro q gs s f hb h
    have ok := tkText_ok hb (by rw [h1])
    rw [h1] at ok
    simp only at ok
    refine .more _ t n _ s f (by rw [tkText_more hb (by rw [h1]; show (0 : Int) ≠ 2; decide), h1]) ?_
    rw [List.drop_append_of_le_length (by omega)]
    exact ih he (hb.drop _) h
/-- A fault stays. -/
theorem Fed.bad {p : List Int} {fs : List (List Int)} {r : List Int} {e : Int} (h : Fed p fs r e) (he : e ≠ 2) : ∀ {q : List Int}, Bytes p → Fed (p ++ q) fs (r ++ q) e := by
  induction h with
  | stop y e h1 h2 => exact fun {q} hb => .stop _ e (by rw [tkText_more hb (by rw [h1]; exact he), h1]) h2
  | more y t n fs r e h1 h2 ih =>
    intro q hb
    have ok := tkText_ok hb (by rw [h1])
    rw [h1] at ok
    simp only at ok
    refine .more _ t n _ _ e (by rw [tkText_more hb (by rw [h1]; show (0 : Int) ≠ 2; decide), h1]) ?_
    rw [List.drop_append_of_le_length (by omega)]
    exact ih he (hb.drop _)
/-- One byte more: no frame, or one and nothing left. -/
theorem Fed.one {l : List Int} {c : Int} {fs : List (List Int)} {r : List Int} {e : Int} (hb : Bytes (l ++ [c])) (h2 : (tkText l 65536).2.2 = 2) (h : Fed (l ++ [c]) fs r e) : fs = [] ∧ r = l ++ [c] ∨ fs.length = 1 ∧ r = [] ∧ e = 2 := by
  cases h with
  | stop _ _ h3 h4 => exact .inl ⟨rfl, rfl⟩
  | more _ t n gs _ _ h3 h4 =>
    right
    have hn := tkText_last hb h2 (by rw [h3])
    rw [h3] at hn
    simp only at hn
    rw [List.drop_of_length_le (by simp only [List.length_append, List.length_singleton]; omega)] at h4
    cases h4 with
    | stop _ _ h5 h6 => exact ⟨rfl, rfl, by rw [tkText_nil] at h5; exact h5.symm⟩
    | more _ t' n' gs' _ _ h5 h6 => rw [tkText_nil] at h5; simp at h5
end Go.Proofs.Ytmhkmlbmolikiaa.FrameMath
