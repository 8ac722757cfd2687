/- The document's sum of a text is the program's. -/
import Derived.Test.YtgaekibompacnaaDoorQDShaOne
set_option linter.unusedVariables false
set_option linter.unusedSimpArgs false
namespace Go.Proofs.YtgaekibompacnaaDoor.QD
open Go.RowKit Go.Proofs.YtgaekibompacnaaDoorW.PrintWords Go.Proofs.YtgaekibompacnaaDoorW.PrintLast Go.Proofs.YtgaekibompacnaaDoorW.PrintMore
/-- The blocks of a text, one by one, m of them. -/
def foldM (p : List Int) : Nat → List Int → List Int
  | 0, st => st
  | m + 1, st => foldM (p.drop 64) m (mixL st p)
theorem wordAt_cut (b t : List Int) {i : Nat} (hi : i < 16) (hb : 64 ≤ b.length) : wordAt (b ++ t) i = wordAt b i := by
  unfold wordAt rd
  have h : ∀ k : Nat, k < 64 → (b ++ t).getD ((k : Int)).toNat 0 = b.getD ((k : Int)).toNat 0 := by
    intro k hk
    rw [Int.toNat_natCast, List.getD_eq_getElem?_getD, List.getD_eq_getElem?_getD, List.getElem?_append_left (by omega)]
  have e0 := h (4 * i) (by omega); have e1 := h (4 * i + 1) (by omega); have e2 := h (4 * i + 2) (by omega); have e3 := h (4 * i + 3) (by omega)
  have c0 : ((4 * i : Nat) : Int) = 4 * (i : Int) := by omega
  have c1 : ((4 * i + 1 : Nat) : Int) = 4 * (i : Int) + 1 := by omega
  have c2 : ((4 * i + 2 : Nat) : Int) = 4 * (i : Int) + 2 := by omega
  have c3 : ((4 * i + 3 : Nat) : Int) = 4 * (i : Int) + 3 := by omega
  rw [c0] at e0; rw [c1] at e1; rw [c2] at e2; rw [c3] at e3
  rw [e0, e1, e2, e3]
/-- A mix looks at 64 bytes alone. -/
theorem mixL_cut (st b t : List Int) (hb : 64 ≤ b.length) : mixL st (b ++ t) = mixL st b := by
  have h : ∀ n, sch (b ++ t) n = sch b n := by
    intro n
    induction n with
    | zero => exact List.map_congr_left fun i hi => wordAt_cut b t (List.mem_range.1 hi) hb
    | succ n ih => rw [sch, sch, ih]
  unfold mixL
  rw [h]
theorem foldM_cut : ∀ (m : Nat) (p t st : List Int), 64 * m ≤ p.length → foldM (p ++ t) m st = foldM p m st
  | 0, _, _, _, _ => rfl
  | m + 1, p, t, st, h => by
    rw [foldM, foldM, mixL_cut _ _ _ (by omega), List.drop_append_of_le_length (by omega)]
    exact foldM_cut m _ t _ (by rw [List.length_drop]; omega)
theorem foldM_add : ∀ (m k : Nat) (p st : List Int), foldM p (m + k) st = foldM (p.drop (64 * m)) k (foldM p m st)
  | 0, k, p, st => by rw [Nat.zero_add]; rfl
  | m + 1, k, p, st => by
    rw [Nat.add_right_comm, foldM, foldM_add m k, foldM, List.drop_drop]
    congr 2
    omega
theorem foldG_is {p : List Int} (hp : AllBy p) : ∀ m, foldG p m = foldM p m H64
  | 0 => rfl
  | m + 1 => by
    rw [(foldG_same hp m).2, foldG_is hp m, foldM_add m 1]
    rfl
/-- What was eaten is whole blocks, and what waits is the rest. -/
theorem eats_is (bs : List Int) : (eats bs).1 = foldM bs (bs.length / 64) H64 ∧ (eats bs).2 = bs.drop (64 * (bs.length / 64)) := by
  have key : ∀ n, ∀ bs : List Int, bs.length = n → (eats bs).1 = foldM bs (bs.length / 64) H64 ∧ (eats bs).2 = bs.drop (64 * (bs.length / 64)) := by
    intro n
    induction n with
    | zero =>
      intro bs h
      rw [List.length_eq_zero_iff.1 h]
      exact ⟨rfl, rfl⟩
    | succ n ih =>
      intro bs h
      obtain ⟨pre, c, rfl⟩ : ∃ pre c, bs = pre ++ [c] := ⟨bs.dropLast, bs.getLast (by intro h2; rw [h2] at h; simp at h), (List.dropLast_concat_getLast _).symm⟩
      have hl : pre.length = n := by simpa using h
      obtain ⟨i1, i2⟩ := ih pre hl
      have hr : (eats pre).2.length = n % 64 := by rw [i2, List.length_drop, hl]; omega
      have hlen : (pre ++ [c]).length = n + 1 := by simp [hl]
      rw [eats_snoc, hlen]
      unfold eat
      have hq : ((eats pre).2 ++ [c]).length = n % 64 + 1 := by rw [List.length_append, hr]; rfl
      have hd : (pre ++ [c]).drop (64 * (n / 64)) = (eats pre).2 ++ [c] := by rw [i2, List.drop_append_of_le_length (by omega), hl]
      by_cases h64 : n % 64 + 1 = 64
      · rw [if_pos (by rw [hq]; exact h64)]
        have hd2 : (n + 1) / 64 = n / 64 + 1 := by omega
        rw [hd2]
        constructor
        · show mixL (eats pre).1 ((eats pre).2 ++ [c]) = _
          rw [foldM_add (n / 64) 1, hd, foldM_cut (n / 64) pre [c] H64 (by omega)]
          rw [hl] at i1
          rw [← i1]
          rfl
        · show [] = _
          rw [List.drop_eq_nil_of_le (by omega)]
      · rw [if_neg (by rw [hq]; exact h64)]
        have hd2 : (n + 1) / 64 = n / 64 := by omega
        rw [hd2]
        constructor
        · show (eats pre).1 = _
          rw [foldM_cut _ _ _ _ (by omega), ← hl]
          exact i1
        · exact hd.symm
  exact key _ bs rfl
theorem foldB_is : ∀ (k m : Nat) (st y : List Int), y.length = 64 * m → m ≤ k → foldB k st y = foldM y m st
  | 0, m, st, y, h, hk => by
    obtain rfl : m = 0 := by omega
    rfl
  | k + 1, 0, st, y, h, hk => by rw [foldB, if_pos (by omega)]; rfl
  | k + 1, m + 1, st, y, h, hk => by
    rw [foldB, if_neg (by omega), foldM]
    exact foldB_is k m _ _ (by rw [List.length_drop]; omega) (by omega)
theorem sizeB_is (n : Nat) : sizeB n 8 = OctetMath.eight ((n : Int) * 8) := by
  unfold sizeB OctetMath.eight
  simp only [List.range, List.range.loop, List.map]
  simp
theorem bytesOf_is {st : List Int} (h8 : st.length = 8) : bytesOf st = outP st 8 := by
  obtain ⟨a, b, c, d, e, f, g, k, rfl⟩ := eight_of h8
  rfl
theorem one_is {b : List Int} (hb : AllBy b) : oneL b = shaL b := by
  have hp := padG_by hb
  have h8 := foldG_len (padG b) ((padG b).length / 64)
  unfold oneL shaL
  rw [bytesOf_is h8, foldG_is hp]
  obtain ⟨e1, e2⟩ := eats_is b
  have hdm := Nat.div_add_mod b.length 64
  have hr : (b.drop (64 * (b.length / 64))).length = b.length % 64 := by rw [List.length_drop]; omega
  have hpd : padL (b.drop (64 * (b.length / 64))) ++ sizeB b.length 8 = (padG b).drop (64 * (b.length / 64)) := by
    unfold padL padG
    rw [sizeB_is, List.drop_append_of_le_length (by simp; omega), List.drop_append_of_le_length (by simp; omega), List.drop_append_of_le_length (by omega)]
    have : ((b.drop (64 * (b.length / 64)) ++ [128] : List Int)).length = b.length % 64 + 1 := by rw [List.length_append, hr]; rfl
    rw [this]
    have e : (120 - (b.length % 64 + 1)) % 64 = (120 - (b.length + 1) % 64) % 64 := by omega
    rw [e]
  have h8l : ∀ v, (OctetMath.eight v).length = 8 := fun _ => rfl
  have hpl : (padG b).length = 64 * (b.length / 64) + (b.length % 64 + 1 + (120 - (b.length + 1) % 64) % 64 + 8) := by
    unfold padG
    rw [List.length_append, List.length_append, List.length_append, List.length_replicate, h8l]
    show b.length + 1 + _ + 8 = _
    omega
  obtain ⟨k, hk⟩ : ∃ k, b.length % 64 + 1 + (120 - (b.length + 1) % 64) % 64 + 8 = 64 * k := ⟨(b.length % 64 + 1 + (120 - (b.length + 1) % 64) % 64 + 8) / 64, by omega⟩
  have hk4 : k ≤ 4 := by omega
  rw [e2, hpd, foldB_is 4 k _ _ (by rw [List.length_drop, hpl]; omega) hk4, e1]
  rw [show (padG b).length / 64 = b.length / 64 + k by rw [hpl]; omega, foldM_add]
  congr 2
  have : padG b = b ++ (([128] ++ List.replicate ((120 - (b.length + 1) % 64) % 64) 0) ++ OctetMath.eight ((b.length : Int) * 8)) := by unfold padG; simp only [List.append_assoc]
  rw [this, foldM_cut _ _ _ _ (by omega)]
end Go.Proofs.YtgaekibompacnaaDoor.QD
