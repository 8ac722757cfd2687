/- The document's order of texts is the library's. -/
import Derived.Test.YtkbeeiijodojkaaQNx8
import Derived.Test.YtkbeeiijodojkaaQNOwn
set_option linter.unusedVariables false
set_option linter.unusedSimpArgs false
namespace Go.Proofs.Ytkbeeiijodojkaa.QN
open Go.RowKit Go.Proofs.YtkbeeiijodojkaaW.PrintWords Go.Proofs.YtkbeeiijodojkaaW.PrintLast Go.Proofs.YtkbeeiijodojkaaW.PrintMore

theorem bt_get (a : ByteArray) (i : Nat) (h : i < a.size) : bt a (i : Int) = ((a.data.toList[i]'(by simpa using h)).toNat : Int) := by
  unfold bt
  have h' : ((i : Int)).toNat < a.size := by simpa using h
  rw [dif_pos h']
  rfl
def lessB (a b : ByteArray) : Bool := decide (Lib.compareBytes a.data.toList b.data.toList < 0)
theorem less_from : ∀ (d k i : Nat) (a b : ByteArray), a.size ≤ 4611686018427387904 → a.size - i = d → i ≤ a.size → i ≤ b.size → 2 * d + 2 ≤ k →
    touchstoneref11_Less.l0 k a b (i : Int) = some (decide (Lib.compareBytes (a.data.toList.drop i) (b.data.toList.drop i) < 0)) := by
  intro d
  induction d with
  | zero =>
    intro k i a b hm hd ha hb hk
    obtain ⟨k, rfl⟩ : ∃ m, k = m + 2 := ⟨k - 2, by omega⟩
    have hi : i = a.size := by omega
    subst hi
    rw [touchstoneref11_Less.l0, if_neg (by omega), touchstoneref11_Less.j1, if_neg (by decide)]
    have h1 : a.data.toList.drop a.size = [] := List.drop_eq_nil_of_le (by simp)
    rw [h1]
    by_cases hlt : a.size < b.size
    · have h2 : ∃ y ys, b.data.toList.drop a.size = y :: ys := by
        cases h : b.data.toList.drop a.size with
        | nil => have := congrArg List.length h; simp at this; omega
        | cons y ys => exact ⟨y, ys, rfl⟩
      obtain ⟨y, ys, h2⟩ := h2
      rw [h2]
      simp [Lib.compareBytes, hlt]
    · have h2 : b.data.toList.drop a.size = [] := List.drop_eq_nil_of_le (by simp; omega)
      rw [h2]
      simp [Lib.compareBytes, hlt]
  | succ d ih =>
    intro k i a b hm hd ha hb hk
    obtain ⟨k, rfl⟩ : ∃ m, k = m + 2 := ⟨k - 2, by omega⟩
    have hia : i < a.size := by omega
    have ea : a.data.toList.drop i = a.data.toList[i]'(by simpa using hia) :: a.data.toList.drop (i + 1) := List.drop_eq_getElem_cons _
    rw [touchstoneref11_Less.l0, if_pos (by omega)]
    by_cases hib : i < b.size
    · have eb : b.data.toList.drop i = b.data.toList[i]'(by simpa using hib) :: b.data.toList.drop (i + 1) := List.drop_eq_getElem_cons _
      have hdec : decide ((i : Int) < (b.size : Int)) = true := decide_eq_true (by omega)
      rw [hdec, touchstoneref11_Less.j1, if_pos rfl, if_pos (by omega), if_pos (by omega), if_pos (by omega), bt_get a i hia, bt_get b i hib, ea, eb]
      generalize a.data.toList[i]'(by simpa using hia) = x
      generalize b.data.toList[i]'(by simpa using hib) = y
      by_cases hxy : x = y
      · subst hxy
        rw [if_pos rfl]
        have hw : wrap64 ((i : Int) + 1) = ((i + 1 : Nat) : Int) := by unfold wrap64; omega
        rw [hw, ih k (i + 1) a b hm (by omega) (by omega) (by omega) (by omega)]
        simp [Lib.compareBytes]
      · rw [if_neg (by intro h; apply hxy; exact UInt8.toNat_inj.mp (by omega))]
        by_cases hlt : x < y
        · have : (x.toNat : Int) < (y.toNat : Int) := by have := UInt8.lt_iff_toNat_lt.mp hlt; omega
          simp [Lib.compareBytes, hlt, this]
        · have h2 : y < x := by
            rw [UInt8.lt_iff_toNat_lt] at *
            have : x.toNat ≠ y.toNat := fun h => hxy (UInt8.toNat_inj.mp h)
            omega
          have h3 : ¬ ((x.toNat : Int) < (y.toNat : Int)) := by rw [UInt8.lt_iff_toNat_lt] at hlt; omega
          simp [Lib.compareBytes, hlt, h2, h3]
    · have hdec : decide ((i : Int) < (b.size : Int)) = false := decide_eq_false (by omega)
      have h2 : b.data.toList.drop i = [] := List.drop_eq_nil_of_le (by simp; omega)
      rw [hdec, touchstoneref11_Less.j1, if_neg (by decide), ea, h2]
      have h3 : ¬ ((a.size : Int) < (b.size : Int)) := by omega
      simp [Lib.compareBytes, h3]
theorem less_ev (a b : ByteArray) (h : a.size ≤ 4611686018427387904) (k : Nat) (hk : 2 * a.size + 2 ≤ k) : touchstoneref11_Less.f k a b = some (lessB a b) := by
  have := less_from a.size k 0 a b h (by omega) (by omega) (by omega) hk
  simpa [touchstoneref11_Less.f, lessB] using this
/-- The document's Less as a function without rounds. -/
def less11.f (a b : ByteArray) : Option Bool := if a.size ≤ 4611686018427387904 then some (lessB a b) else none
theorem less11.calls (a0 a1 : ByteArray) (r : Bool) (w : World) (h : less11.f a0 a1 = some r) :
    Calls Try.prog 16 #[.string a0, .string a1] w fun e w' => e = .returned (.bool r) ∧ Drawn0 w w' := by
  unfold less11.f at h
  split at h
  case isFalse => cases h
  case isTrue hs => exact touchstoneref11_Less.calls (2 * a0.size + 2) a0 a1 r w ((less_ev a0 a1 hs _ (Nat.le_refl _)).trans h)
end Go.Proofs.Ytkbeeiijodojkaa.QN
