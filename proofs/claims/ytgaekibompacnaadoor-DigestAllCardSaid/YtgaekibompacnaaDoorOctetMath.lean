/- Plain arithmetic of chapter 1: what Var, Text and Eight lay, and what is read back. No program in sight. -/
import Derived.Test.YtgaekibompacnaaDoorXWords
import Derived.Laws.BitsAllLaws
set_option linter.unusedVariables false
set_option linter.unusedSimpArgs false
namespace Go.Proofs.YtgaekibompacnaaDoor.OctetMath
open Go.RowKit Go.Proofs.YtgaekibompacnaaDoorW.PrintWords Go.Proofs.YtgaekibompacnaaDoorW.PrintLast Go.Proofs.YtgaekibompacnaaDoorW.PrintMore

def layF : Nat → Int → List Int
  | 0, v => [v % 256]
  | n + 1, v => if v ≥ 128 then (v % 128 + 128) :: layF n (v / 128) else [v]
def lay (v : Int) : List Int := layF 9 v

def Bytes (l : List Int) : Prop := ∀ c ∈ l, 0 ≤ c ∧ c < 256
theorem Bytes.of_wf {l : List Int} (h : ∀ x ∈ l, (Lit.int .u8 x).wf = true) : Bytes l := by
  intro c hc
  have := h c hc
  simp [Lit.wf, IntKind.min, IntKind.max, IntKind.bits, IntKind.signed] at this
  omega
theorem Bytes.append {a b : List Int} (h : Bytes a) (k : Bytes b) : Bytes (a ++ b) := by
  intro c hc
  rcases List.mem_append.1 hc with hc | hc
  · exact h c hc
  · exact k c hc
theorem Bytes.drop {a : List Int} (h : Bytes a) (n : Nat) : Bytes (a.drop n) := fun c hc => h c (List.mem_of_mem_drop hc)
theorem Bytes.take {a : List Int} (h : Bytes a) (n : Nat) : Bytes (a.take n) := fun c hc => h c (List.mem_of_mem_take hc)
theorem Bytes.nil : Bytes [] := fun c hc => by cases hc
theorem Bytes.cons {c : Int} {a : List Int} (hc : 0 ≤ c ∧ c < 256) (h : Bytes a) : Bytes (c :: a) := by
  intro d hd
  rcases List.mem_cons.1 hd with rfl | hd
  · exact hc
  · exact h d hd
theorem u64_wf {v : Int} (h : (Lit.int .u64 v).wf = true) : 0 ≤ v ∧ v < 18446744073709551616 := by
  simp [Lit.wf, IntKind.min, IntKind.max, IntKind.bits, IntKind.signed] at h
  omega
theorem rd_cons_drop {l : List Int} {i : Nat} (h : i < l.length) : l.drop i = rd l i :: l.drop (i + 1) := by
  rw [List.drop_eq_getElem_cons h]
  simp [rd, List.getD_eq_getElem?_getD, List.getElem?_eq_getElem h]
theorem rd_byte {l : List Int} (hb : Bytes l) {i : Nat} (h : i < l.length) : 0 ≤ rd l i ∧ rd l i < 256 := by
  have : rd l i = l[i] := by simp [rd, List.getD_eq_getElem?_getD, List.getElem?_eq_getElem h]
  rw [this]
  exact hb _ (List.getElem_mem h)

theorem layF_bytes : ∀ n v, 0 ≤ v → v < 256 * 128 ^ n → Bytes (layF n v)
  | 0, v, h0, h1 => Bytes.cons (by simp at h1; omega) Bytes.nil
  | n + 1, v, h0, h1 => by
    unfold layF
    split
    · refine Bytes.cons (by omega) (layF_bytes n _ (by omega) ?_)
      rw [Int.pow_succ] at h1
      have : v / 128 < 256 * 128 ^ n := Int.ediv_lt_of_lt_mul (by omega) (by rw [Int.mul_assoc]; exact h1)
      exact this
    · exact Bytes.cons (by omega) Bytes.nil
theorem lay_bytes {v : Int} (h0 : 0 ≤ v) (h1 : v < 18446744073709551616) : Bytes (lay v) := layF_bytes 9 v h0 (by simp only [Int.reducePow, Int.reduceMul]; omega)
theorem layF_length : ∀ n v, 1 ≤ (layF n v).length ∧ (layF n v).length ≤ n + 1
  | 0, v => by simp [layF]
  | n + 1, v => by
    unfold layF
    split
    · have := layF_length n (v / 128)
      simp; omega
    · simp
theorem lay_length (v : Int) : 1 ≤ (lay v).length ∧ (lay v).length ≤ 10 := layF_length 9 v
theorem layF_mono : ∀ n a b, a ≤ b → (layF n a).length ≤ (layF n b).length
  | 0, a, b, h => by simp [layF]
  | n + 1, a, b, h => by
    unfold layF
    by_cases ha : a ≥ 128
    · rw [if_pos ha, if_pos (by omega)]
      have := layF_mono n (a / 128) (b / 128) (by omega)
      simpa using this
    · rw [if_neg ha]
      split
      · simp
      · simp

/-- What TakeVar tells: from byte i on, v gathered so far. -/
def tk : List Int → Nat → Int → Int × Int × Int
  | [], _, _ => (0, 0, 2)
  | c :: r, i, v => if i = 9 ∧ c > 1 then (0, 0, 4) else if c ≥ 128 then tk r (i + 1) (v + c % 128 * 128 ^ i) else if c = 0 ∧ i > 0 then (0, 0, 5) else (v + c % 128 * 128 ^ i, i + 1, 0)

theorem tk_layF (r : List Int) : ∀ n i v acc, n + i = 9 → 0 ≤ v → v < 128 ^ n * 2 → (i > 0 → v > 0) → tk (layF n v ++ r) i acc = (acc + v * 128 ^ i, ((i + (layF n v).length : Nat) : Int), 0)
  | 0, i, v, acc, hn, h0, h1, hp => by
    have hi : i = 9 := by omega
    subst hi
    have hv : v % 256 = v := by simp at h1; omega
    have := hp (by omega)
    simp only [layF, List.cons_append, List.nil_append, tk, hv, List.length_cons, List.length_nil]
    simp at h1
    rw [if_neg (by omega), if_neg (by omega), if_neg (by omega)]
    rw [show v % 128 = v by omega]
    simp
  | n + 1, i, v, acc, hn, h0, h1, hp => by
    unfold layF
    split
    · rename_i hv
      have e : (128 : Int) ^ (n + 1) * 2 = 128 ^ n * 2 * 128 := by rw [Int.pow_succ, Int.mul_assoc, Int.mul_assoc]; rfl
      have h2 : v / 128 < 128 ^ n * 2 := Int.ediv_lt_of_lt_mul (by omega) (by rw [e] at h1; exact h1)
      have ih := tk_layF r n (i + 1) (v / 128) (acc + (v % 128 + 128) % 128 * 128 ^ i) (by omega) (by omega) h2 (fun _ => by omega)
      simp only [List.cons_append, tk]
      rw [if_neg (by omega), if_pos (by omega), ih]
      have e1 : (v % 128 + 128) % 128 = v % 128 := by omega
      have e2 : acc + v % 128 * 128 ^ i + v / 128 * 128 ^ (i + 1) = acc + v * 128 ^ i := by
        rw [Int.pow_succ, Int.mul_comm (128 ^ i) 128, ← Int.mul_assoc, Int.add_assoc, ← Int.add_mul]
        congr 2
        omega
      rw [e1, e2]
      simp
      omega
    · rename_i hv
      simp only [List.cons_append, List.nil_append, tk]
      rw [if_neg (by omega), if_neg (by omega), if_neg (by omega), show v % 128 = v by omega]
      simp
theorem tk_lay (r : List Int) {v : Int} (h0 : 0 ≤ v) (h1 : v < 18446744073709551616) : tk (lay v ++ r) 0 0 = (v, (((lay v).length : Nat) : Int), 0) := by
  have := tk_layF r 9 0 v 0 rfl h0 (by simp only [Int.reducePow, Int.reduceMul]; omega) (fun h => absurd h (by omega))
  simpa [lay] using this
/-- A number that is cut off. -/
theorem tk_cut : ∀ n i v acc m, n + i = 9 → 0 ≤ v → m < (layF n v).length → tk ((layF n v).take m) i acc = (0, 0, 2)
  | 0, i, v, acc, m, hn, h0, hm => by
    simp [layF] at hm
    subst hm
    simp [tk]
  | n + 1, i, v, acc, m, hn, h0, hm => by
    unfold layF at hm ⊢
    split at hm
    · rename_i hv
      rw [if_pos hv]
      cases m with
      | zero => simp [tk]
      | succ m =>
        simp only [List.take_succ_cons, tk]
        rw [if_neg (by omega), if_pos (by omega)]
        exact tk_cut n (i + 1) (v / 128) _ m (by omega) (by omega) (by simpa using hm)
    · have : m = 0 := by simpa using hm
      subst this
      simp [tk]

/-- What TakeText tells. -/
def tkText (l : List Int) (most : Int) : List Int × Int × Int :=
  if (tk l 0 0).2.2 = 0 then
    if (tk l 0 0).1 > (if most < 0 then 0 else most) then ([], 0, 3)
    else if (tk l 0 0).1 > (l.length : Int) - (tk l 0 0).2.1 then ([], 0, 2)
    else ((l.take ((tk l 0 0).2.1 + (tk l 0 0).1).toNat).drop (tk l 0 0).2.1.toNat, (tk l 0 0).2.1 + (tk l 0 0).1, 0)
  else ([], 0, (tk l 0 0).2.2)
theorem tk_ok : ∀ (l : List Int) (i : Nat) (v : Int), i ≤ 9 → Bytes l → 0 ≤ v → v < 128 ^ i → 0 ≤ (tk l i v).1 ∧ (tk l i v).1 < 18446744073709551616 ∧ 0 ≤ (tk l i v).2.1 ∧ (tk l i v).2.1 ≤ 10 ∧ ((tk l i v).2.2 = 0 → i < (tk l i v).2.1 ∧ (tk l i v).2.1 ≤ i + l.length)
  | [], i, v, hi, hb, h0, h1 => by simp [tk]
  | c :: r, i, v, hi, hb, h0, h1 => by
    have hc := hb c List.mem_cons_self
    have hr : Bytes r := fun d hd => hb d (List.mem_cons_of_mem _ hd)
    have hpos : (0 : Int) < 128 ^ i := by exact Int.pow_pos (by omega)
    have hm : c % 128 ≤ 127 := by omega
    have hm0 : 0 ≤ c % 128 := by omega
    have hmul : c % 128 * 128 ^ i ≤ 127 * 128 ^ i := Int.mul_le_mul_of_nonneg_right hm (by omega)
    have hmul0 : 0 ≤ c % 128 * 128 ^ i := Int.mul_nonneg hm0 (by omega)
    unfold tk
    split
    · simp
    · rename_i h9
      split
      · rename_i h128
        have hi' : i + 1 ≤ 9 := by
          rcases Nat.lt_or_ge i 9 with h | h
          · omega
          · exact absurd (show i = 9 ∧ c > 1 by omega) h9
        have h2 : v + c % 128 * 128 ^ i < 128 ^ (i + 1) := by rw [Int.pow_succ]; omega
        have ih := tk_ok r (i + 1) _ hi' hr (by omega) h2
        refine ⟨ih.1, ih.2.1, ih.2.2.1, ih.2.2.2.1, fun h => ?_⟩
        have := ih.2.2.2.2 h
        simp only [List.length_cons]
        omega
      · split
        · simp
        · rename_i h128 _
          refine ⟨by simp only; omega, ?_, by simp only; omega, by simp only; omega, fun _ => by simp only [List.length_cons]; omega⟩
          simp only
          rcases Nat.lt_or_ge i 9 with h | h
          · have h3 : (128 : Int) ^ i ≤ 128 ^ 8 := by
              exact_mod_cast Nat.pow_le_pow_right (by omega) (show i ≤ 8 by omega)
            simp only [Int.reducePow] at h3
            omega
          · have h4 : i = 9 := by omega
            subst h4
            have h5 : c ≤ 1 := by
              rcases Int.lt_or_le 1 c with h | h
              · exact absurd ⟨rfl, h⟩ h9
              · exact h
            have h6 : c % 128 = c := by omega
            simp only [Int.reducePow] at h1 ⊢
            omega
theorem tkText_lay {s r : List Int} {most : Int} (hl : (s.length : Int) ≤ most) (hs : (s.length : Int) < 18446744073709551616) :
    tkText (lay s.length ++ s ++ r) most = (s, (((lay s.length).length + s.length : Nat) : Int), 0) := by
  have h := tk_lay (s ++ r) (v := s.length) (by omega) hs
  rw [← List.append_assoc] at h
  unfold tkText
  rw [h]
  simp only [if_true]
  rw [if_neg (by split <;> omega), if_neg (by simp only [List.length_append]; omega)]
  have e : (((lay ↑s.length).length : Int) + (s.length : Int)).toNat = (lay ↑s.length).length + s.length := by omega
  rw [show (((lay ↑s.length).length : Nat) : Int).toNat = (lay ↑s.length).length from Int.toNat_natCast _, e]
  refine Prod.ext ?_ (Prod.ext ?_ rfl)
  · simp only
    rw [List.take_append_of_le_length (by simp), List.take_of_length_le (by simp), List.drop_left]
  · simp
/-- Eight bytes, the greatest first. -/
def eight (v : Int) : List Int := [v / 2 ^ 56 % 256, v / 2 ^ 48 % 256, v / 2 ^ 40 % 256, v / 2 ^ 32 % 256, v / 2 ^ 24 % 256, v / 2 ^ 16 % 256, v / 2 ^ 8 % 256, v % 256]
def back8 (l : List Int) : Int := l.foldl (fun v c => v * 256 + c) 0
theorem back8_eight {v : Int} (h0 : 0 ≤ v) (h1 : v < 18446744073709551616) : back8 (eight v) = v := by
  simp only [back8, eight, List.foldl_cons, List.foldl_nil, Int.reducePow]
  omega
theorem eight_bytes (v : Int) : Bytes (eight v) := by
  intro c hc
  simp only [eight, List.mem_cons, List.not_mem_nil, or_false, Int.reducePow] at hc
  rcases hc with rfl | rfl | rfl | rfl | rfl | rfl | rfl | rfl <;> omega

theorem pow_le_int (b : Nat) {i j : Nat} (hb : 0 < b) (h : i ≤ j) : (b : Int) ^ i ≤ (b : Int) ^ j := by
  have := Nat.pow_le_pow_right hb h
  rw [← Int.natCast_pow, ← Int.natCast_pow]
  exact Int.ofNat_le.2 this
/-! bits -/
theorem or128 {y : Int} (h0 : 0 ≤ y) (h1 : y < 256) : Go.bits .or .u8 y 128 = y % 128 + 128 := by
  rw [u8_or y 128 h0 h1 (by omega) (by omega)]
  have : ∀ n : Fin 256, n.val ||| 128 = n.val % 128 + 128 := by decide +kernel
  have h2 := this ⟨y.toNat, by omega⟩
  simp only at h2
  rw [show (128 : Int).toNat = 128 from rfl, h2]
  omega
theorem andNot128 {c : Int} (h0 : 0 ≤ c) (h1 : c < 256) : Go.bits .andNot .u8 c 128 = c % 128 := by
  rw [u8_andNot c 128 h0 h1 (by omega) (by omega)]
  have : ∀ n : Fin 256, n.val &&& 127 = n.val % 128 := by decide +kernel
  have h2 := this ⟨c.toNat, by omega⟩
  simp only at h2
  rw [show 255 - (128 : Int).toNat = 127 from rfl, h2]
  omega
theorem or_add {a b : Int} {i : Nat} (h0 : 0 ≤ a) (h1 : a < 2 ^ i) (h2 : 0 ≤ b) (h3 : b * 2 ^ i < 18446744073709551616) (h4 : a < 18446744073709551616) : Go.bits .or .u64 a (b * 2 ^ i) = a + b * 2 ^ i := by
  have hp : (0 : Int) < 2 ^ i := Int.pow_pos (by omega)
  have h5 : 0 ≤ b * 2 ^ i := Int.mul_nonneg h2 (by omega)
  rw [u64_or _ _ h0 h4 h5 h3]
  obtain ⟨a, rfl⟩ := Int.eq_ofNat_of_zero_le h0
  obtain ⟨b, rfl⟩ := Int.eq_ofNat_of_zero_le h2
  have e : ((b : Int) * 2 ^ i) = ((2 ^ i * b : Nat) : Int) := by rw [Int.natCast_mul, Int.natCast_pow, Int.mul_comm]; rfl
  rw [e, Int.toNat_natCast, Int.toNat_natCast, Nat.or_comm, ← Nat.two_pow_add_eq_or_of_lt (by exact_mod_cast h1)]
  omega
theorem wrap_u64 {n : Int} (h0 : 0 ≤ n) (h1 : n < 18446744073709551616) : IntKind.u64.wrap n = n := by
  rw [IntKind.wrap_u64]; omega
theorem wrap64_id {n : Int} (h0 : -9223372036854775808 ≤ n) (h1 : n ≤ 9223372036854775807) : wrap64 n = n := by
  unfold wrap64; omega
end Go.Proofs.YtgaekibompacnaaDoor.OctetMath
