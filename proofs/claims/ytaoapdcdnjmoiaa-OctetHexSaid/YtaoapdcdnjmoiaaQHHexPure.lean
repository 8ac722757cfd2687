/- What Hex and Unhex answer, the program's and the reference's. -/
import Derived.Test.YtaoapdcdnjmoiaaQHx1
import Derived.Test.YtaoapdcdnjmoiaaQHx2
import Derived.Test.YtaoapdcdnjmoiaaOctetMath
import Derived.Test.YtaoapdcdnjmoiaaRefHex
set_option linter.unusedVariables false
set_option linter.unusedSimpArgs false
namespace Go.Proofs.Ytaoapdcdnjmoiaa.QH
open Go.RowKit Go.Proofs.YtaoapdcdnjmoiaaW.PrintWords Go.Proofs.YtaoapdcdnjmoiaaW.PrintLast Go.Proofs.YtaoapdcdnjmoiaaW.PrintMore Go.Proofs.Ytaoapdcdnjmoiaa.OctetMath Go.Proofs.Ytaoapdcdnjmoiaa.RefHex

/-- A sign's number. -/
def val (c : Int) : Option Int := if 48 ≤ c ∧ c ≤ 57 then some (c - 48) else if 97 ≤ c ∧ c ≤ 102 then some (c - 87) else none
theorem val_range {c v : Int} (h : val c = some v) : 0 ≤ v ∧ v < 16 := by
  unfold val at h
  split at h
  · injection h with h; omega
  · split at h
    · injection h with h; omega
    · cases h
theorem val_sign {n : Int} (h0 : 0 ≤ n) (h1 : n < 16) : val (sign n) = some n := by
  unfold val sign
  by_cases h : n < 10
  · rw [if_pos h, if_pos (by omega)]; congr 1; omega
  · rw [if_neg h, if_neg (by omega), if_pos (by omega)]; congr 1; omega
theorem half_is {k : Nat} {c : Int} (hk : 2 ≤ k) (h0 : 0 ≤ c) (h1 : c ≤ 255) : octet_half.f k c = some (match val c with | some v => (v, true) | none => (0, false)) := by
  have : ∀ c : Fin 256, octet_half.f 2 (c.val : Int) = some (match val (c.val : Int) with | some v => (v, true) | none => (0, false)) := by decide +kernel
  have h := this ⟨c.toNat, by omega⟩
  simp only [Int.toNat_of_nonneg h0] at h
  exact at_rounds (fun j => octet_half.mono c j) hk h
theorem digit_is {k : Nat} {c : Int} (hk : 20 ≤ k) (h0 : 0 ≤ c) (h1 : c ≤ 255) : touchstoneref1_digit.f k c = some (match val c with | some v => v | none => -1) := by
  have : ∀ c : Fin 256, touchstoneref1_digit.f 20 (c.val : Int) = some (match val (c.val : Int) with | some v => v | none => -1) := by decide +kernel
  have h := this ⟨c.toNat, by omega⟩
  simp only [Int.toNat_of_nonneg h0] at h
  exact at_rounds (fun j => touchstoneref1_digit.mono c j) hk h
def ux : Nat → ByteArray → Nat → List Int → List Int × Int
  | 0, _, _, acc => (acc, 0)
  | n + 1, s, i, acc => match val (bt s i), val (bt s ((i + 1 : Nat) : Int)) with
    | some a, some b => ux n s (i + 2) (acc ++ [a * 16 + b])
    | _, _ => ([], 5)
theorem or16 {a b : Int} (ha0 : 0 ≤ a) (ha1 : a < 16) (hb0 : 0 ≤ b) (hb1 : b < 16) : Go.bits .or .u8 ((a * 16) % 256) b = a * 16 + b := by
  rw [u8_or _ _ (by omega) (by omega) hb0 (by omega)]
  have : ∀ a b : Fin 16, (a.val * 16) ||| b.val = a.val * 16 + b.val := by decide +kernel
  have h := this ⟨a.toNat, by omega⟩ ⟨b.toNat, by omega⟩
  simp only at h
  rw [show (a * 16 % 256).toNat = a.toNat * 16 by omega, h]
  omega
theorem unhexL (s : ByteArray) (hs : s.size ≤ 140737488351232) : ∀ n i k acc, i + 2 * n = s.size → n + 3 ≤ k → acc.length + n ≤ 140737488355000 → octet_Unhex.l0 k s acc i = some (ux n s i acc)
  | 0, i, k, acc, hn, hk, ha => by
    obtain ⟨k, rfl⟩ : ∃ m, k = m + 1 := ⟨k - 1, by omega⟩
    rw [octet_Unhex.l0, if_neg (by omega)]; rfl
  | n + 1, i, k, acc, hn, hk, ha => by
    obtain ⟨k, rfl⟩ : ∃ m, k = m + 1 := ⟨k - 1, by omega⟩
    have b1 := bt_range s i
    have b2 := bt_range s ((i + 1 : Nat) : Int)
    rw [octet_Unhex.l0, if_pos (by omega), if_pos (by omega), half_is (by omega) b1.1 b1.2, Option.bind_some, wrap64_id (n := (i : Int) + 1) (by omega) (by omega), if_pos (by omega), if_pos (by omega), show ((i : Int) + 1) = ((i + 1 : Nat) : Int) by omega, half_is (by omega) b2.1 b2.2, Option.bind_some, ux]
    cases h1 : val (bt s i) with
    | none => simp
    | some a =>
      cases h2 : val (bt s ((i + 1 : Nat) : Int)) with
      | none => simp
      | some b =>
        have r1 := val_range h1
        have r2 := val_range h2
        simp only [if_true]
        rw [if_pos (by omega), or16 r1.1 r1.2 r2.1 r2.2, wrap64_id (by omega) (by omega), show ((i : Int) + 2) = ((i + 2 : Nat) : Int) by omega]
        exact unhexL s hs n (i + 2) k _ (by omega) (by omega) (by simp; omega)
theorem refUnhexL (s : ByteArray) (hs : s.size ≤ 140737488351232) : ∀ n i k acc, i + 2 * n = s.size → 2 * n + 24 ≤ k → acc.length + n ≤ 140737488355000 → touchstoneref1_Unhex.l0 k s acc i = some (ux n s i acc)
  | 0, i, k, acc, hn, hk, ha => by
    obtain ⟨k, rfl⟩ : ∃ m, k = m + 1 := ⟨k - 1, by omega⟩
    rw [touchstoneref1_Unhex.l0, if_neg (by omega)]; rfl
  | n + 1, i, k, acc, hn, hk, ha => by
    obtain ⟨k, rfl⟩ : ∃ m, k = m + 2 := ⟨k - 2, by omega⟩
    have b1 := bt_range s i
    have b2 := bt_range s ((i + 1 : Nat) : Int)
    rw [touchstoneref1_Unhex.l0, if_pos (by omega), if_pos (by omega), digit_is (by omega) b1.1 b1.2, Option.bind_some, wrap64_id (n := (i : Int) + 1) (by omega) (by omega), show ((i : Int) + 1) = ((i + 1 : Nat) : Int) by omega, ux]
    cases h1 : val (bt s i) with
    | none =>
      simp only
      rw [if_pos (by omega), touchstoneref1_Unhex.j1, if_pos rfl]
    | some a =>
      have r1 := val_range h1
      simp only
      rw [if_neg (by omega), if_pos (by omega), if_pos (by omega), digit_is (by omega) b2.1 b2.2, Option.bind_some, touchstoneref1_Unhex.j1]
      cases h2 : val (bt s ((i + 1 : Nat) : Int)) with
      | none =>
        simp only
        rw [if_pos (by decide)]
      | some b =>
        have r2 := val_range h2
        simp only
        rw [if_neg (by simp; omega), if_pos (by omega), if_pos (by omega), digit_is (by omega) b1.1 b1.2, Option.bind_some, wrap64_id (n := (i : Int) + 1) (by omega) (by omega), show ((i : Int) + 1) = ((i + 1 : Nat) : Int) by omega, if_pos (by omega), if_pos (by omega), digit_is (by omega) b2.1 b2.2, Option.bind_some, h1, h2]
        simp only
        rw [if_pos (by omega), wrap64_id (n := 16 * a) (by omega) (by omega), wrap64_id (n := 16 * a + b) (by omega) (by omega), wrap64_id (by omega) (by omega), show ((i : Int) + 2) = ((i + 2 : Nat) : Int) by omega, show (16 * a + b) % 256 = a * 16 + b by omega]
        exact refUnhexL s hs n (i + 2) k _ (by omega) (by omega) (by simp; omega)
/-- What a text shows. -/
def unhex (s : ByteArray) : List Int × Int := if (s.size : Int) % 2 = 1 then ([], 5) else ux (s.size / 2) s 0 []
theorem unhex_is {k : Nat} {s : ByteArray} (hs : s.size ≤ 140737488351232) (hk : s.size + 30 ≤ k) : octet_Unhex.f k s = some (unhex s) := by
  unfold octet_Unhex.f unhex
  split
  · rfl
  · exact unhexL s hs (s.size / 2) 0 k [] (by omega) (by omega) (by simp; omega)
theorem refUnhex_is {k : Nat} {s : ByteArray} (hs : s.size ≤ 140737488351232) (hk : s.size + 30 ≤ k) : touchstoneref1_Unhex.f k s = some (unhex s) := by
  unfold touchstoneref1_Unhex.f unhex
  split
  · rfl
  · exact refUnhexL s hs (s.size / 2) 0 k [] (by omega) (by omega) (by simp; omega)
theorem bt_strOf {l : List Int} (hb : Bytes l) {i : Nat} (h : i < l.length) : bt (strOfNums l) i = l[i] := by
  have hs : (strOfNums l).size = l.length := strOfNums_size l
  have := hb l[i] (List.getElem_mem h)
  unfold bt
  rw [dif_pos (by rw [hs]; simpa using h)]
  simp only [Int.toNat_natCast, strOfNums]
  have e : ((⟨(l.map fun n : Int => UInt8.ofNat n.toNat).toArray⟩ : ByteArray)[i]'(by simpa [ByteArray.size] using h)) = UInt8.ofNat l[i].toNat := by
    show ((l.map fun n : Int => UInt8.ofNat n.toNat).toArray)[i]'_ = _
    simp
  rw [e]
  simp only [UInt8.toNat_ofNat']
  omega
theorem hexL_len : ∀ l : List Int, (hexL l).length = 2 * l.length
  | [] => rfl
  | c :: l => by
    have := hexL_len l
    simp only [hexL, List.flatMap_cons, List.length_append, List.length_cons, List.length_nil] at *; omega
theorem hexL_bytes {l : List Int} (hb : Bytes l) : Bytes (hexL l) := by
  intro c hc
  obtain ⟨b, h, hc⟩ := List.mem_flatMap.1 hc
  have := hb b h
  simp only [List.mem_cons, List.not_mem_nil, or_false] at hc
  unfold sign at hc
  rcases hc with rfl | rfl <;> split <;> omega
theorem hexL_at {l : List Int} {j : Nat} (h : j < l.length) : (hexL l)[2 * j]? = some (sign (l[j] / 16)) ∧ (hexL l)[2 * j + 1]? = some (sign (l[j] % 16)) := by
  induction l generalizing j with
  | nil => simp at h
  | cons c l ih =>
    cases j with
    | zero => simp [hexL]
    | succ j =>
      have := ih (j := j) (by simpa using h)
      simp only [hexL, List.flatMap_cons] at this ⊢
      rw [List.getElem?_append_right (by simp; omega), List.getElem?_append_right (by simp; omega)]
      simp only [List.length_cons, List.length_nil, List.getElem_cons_succ]
      rw [show 2 * (j + 1) - (0 + 1 + 1) = 2 * j by omega, show 2 * (j + 1) + 1 - (0 + 1 + 1) = 2 * j + 1 by omega]
      exact this
theorem ux_hex {l : List Int} (hb : Bytes l) : ∀ n j acc, j + n = l.length → ux n (strOfNums (hexL l)) (2 * j) acc = (acc ++ l.drop j, 0)
  | 0, j, acc, hn => by rw [ux, List.drop_of_length_le (by omega), List.append_nil]
  | n + 1, j, acc, hn => by
    have hj : j < l.length := by omega
    have hl := hexL_len l
    obtain ⟨h1, h2⟩ := hexL_at hj
    have hbj := hb l[j] (List.getElem_mem hj)
    have e1 : bt (strOfNums (hexL l)) ((2 * j : Nat) : Int) = sign (l[j] / 16) := by
      rw [bt_strOf (hexL_bytes hb) (by omega)]
      exact Option.some.inj ((List.getElem?_eq_getElem _).symm.trans h1)
    have e2 : bt (strOfNums (hexL l)) ((2 * j + 1 : Nat) : Int) = sign (l[j] % 16) := by
      rw [bt_strOf (hexL_bytes hb) (by omega)]
      exact Option.some.inj ((List.getElem?_eq_getElem _).symm.trans h2)
    rw [ux, e1, e2, val_sign (by omega) (by omega), val_sign (by omega) (by omega)]
    simp only
    rw [show 2 * j + 2 = 2 * (j + 1) by omega, ux_hex hb n (j + 1) _ (by omega), List.drop_eq_getElem_cons hj, show l[j] / 16 * 16 + l[j] % 16 = l[j] by omega]
    simp
theorem unhex_hex {l : List Int} (hb : Bytes l) : unhex (strOfNums (hexL l)) = (l, 0) := by
  have hs : (strOfNums (hexL l)).size = 2 * l.length := by rw [strOfNums_size, hexL_len]
  unfold unhex
  rw [if_neg (by rw [hs]; omega), hs, show 2 * l.length / 2 = l.length by omega]
  have := ux_hex hb l.length 0 [] (by omega)
  simpa using this
theorem and15 {c : Int} (h0 : 0 ≤ c) (h1 : c < 256) : Go.bits .and .u8 c 15 = c % 16 := u8_and15 c h0 h1
theorem bt_digs {n : Int} (h0 : 0 ≤ n) (h1 : n < 16) : bt (⟨#[48, 49, 50, 51, 52, 53, 54, 55, 56, 57, 97, 98, 99, 100, 101, 102]⟩ : ByteArray) n = sign n := by
  have : ∀ n : Fin 16, bt (⟨#[48, 49, 50, 51, 52, 53, 54, 55, 56, 57, 97, 98, 99, 100, 101, 102]⟩ : ByteArray) (n.val : Int) = sign (n.val : Int) := by decide +kernel
  have h := this ⟨n.toNat, by omega⟩
  simpa only [Int.toNat_of_nonneg h0] using h
theorem hexLL {l : List Int} (hb : Bytes l) (hl : l.length ≤ 70368744177600) : ∀ n i k, n + i = l.length → n < k → octet_Hex.l0 k (hexL (l.take i)) l l.length i = some (strOfNums (hexL l))
  | 0, i, k, hn, hk => by
    obtain ⟨k, rfl⟩ : ∃ m, k = m + 1 := ⟨k - 1, by omega⟩
    rw [octet_Hex.l0, if_neg (by omega), List.take_of_length_le (by omega)]
  | n + 1, i, k, hn, hk => by
    obtain ⟨k, rfl⟩ : ∃ m, k = m + 1 := ⟨k - 1, by omega⟩
    have hi : i < l.length := by omega
    have hc := rd_byte hb hi
    have er : rd l (i : Int) = l[i] := by simp [rd, List.getD_eq_getElem?_getD, List.getElem?_eq_getElem hi]
    have hll := hexL_len (l.take i)
    rw [List.length_take] at hll
    rw [octet_Hex.l0, if_pos (by omega), if_pos (by omega), if_pos (by omega), and15 hc.1 hc.2, if_pos (by omega), if_pos (by omega), if_pos (by omega), if_pos (by omega), bt_digs (by omega) (by omega), bt_digs (by omega) (by omega)]
    simp only [Option.bind_some]
    rw [if_pos (by simp; omega), wrap64_id (by omega) (by omega), show ((i : Int) + 1) = ((i + 1 : Nat) : Int) by omega]
    have e : hexL (l.take i) ++ [sign (rd l i / 16), sign (rd l i % 16)] = hexL (l.take (i + 1)) := by
      rw [List.take_succ_eq_append_getElem hi, er]
      simp only [hexL, List.flatMap_append, List.flatMap_cons, List.flatMap_nil, List.append_nil]
    rw [e]
    exact hexLL hb hl n (i + 1) k (by omega) (by omega)
theorem hex_is {k : Nat} {l : List Int} (hb : Bytes l) (hl : l.length ≤ 70368744177600) (hk : l.length < k) : octet_Hex.f k l = some (strOfNums (hexL l)) := by
  unfold octet_Hex.f
  rw [if_pos (by omega), if_pos (by omega)]
  have := hexLL hb hl l.length 0 k (by omega) hk
  simpa [hexL] using this
end Go.Proofs.Ytaoapdcdnjmoiaa.QH
