/- OctetRows: numbers and texts that stand in a row are read on, one by one, and nothing is left; for at most 20 numbers and 20 texts of at most 200 bytes (beyond them the law answers true by itself). -/
import Derived.Test.YtaoapdcdnjmoiaaQAx5
import Derived.Test.YtaoapdcdnjmoiaaOctetPure2
import Derived.Test.YtaoapdcdnjmoiaaOctetBegun
set_option linter.unusedVariables false
set_option linter.unusedSimpArgs false
namespace Go.Proofs.Ytaoapdcdnjmoiaa.Pure
open Go.RowKit Go.Proofs.Ytaoapdcdnjmoiaa.QA Go.Proofs.YtaoapdcdnjmoiaaW.PrintWords Go.Proofs.YtaoapdcdnjmoiaaW.PrintLast Go.Proofs.YtaoapdcdnjmoiaaW.PrintMore Go.Proofs.Ytaoapdcdnjmoiaa.OctetMath

def rowsV (vs : List Int) : List Int := vs.flatMap lay
def rowsT (ts : List (List Int)) : List Int := ts.flatMap fun t => lay t.length ++ t
def U64s (vs : List Int) : Prop := ∀ v ∈ vs, 0 ≤ v ∧ v < 18446744073709551616
theorem rd_eq {l : List Int} {i : Nat} (h : i < l.length) : rd l i = l[i] := by
  simp [rd, List.getD_eq_getElem?_getD, List.getElem?_eq_getElem h]
theorem rdL_eq {l : List (List Int)} {i : Nat} (h : i < l.length) : rd_L1 l i = l[i] := by
  simp [rd_L1, List.getD_eq_getElem?_getD, List.getElem?_eq_getElem h]
theorem rowsV_bytes {vs : List Int} (h : U64s vs) : Bytes (rowsV vs) := by
  intro c hc
  obtain ⟨v, hv, hc⟩ := List.mem_flatMap.1 hc
  exact lay_bytes (h v hv).1 (h v hv).2 c hc
theorem rowsT_bytes {ts : List (List Int)} (h : ∀ t ∈ ts, Bytes t ∧ t.length ≤ 200) : Bytes (rowsT ts) := by
  intro c hc
  obtain ⟨t, ht, hc⟩ := List.mem_flatMap.1 hc
  have := (h t ht).2
  exact ((lay_bytes (by omega) (by omega)).append (h t ht).1) c hc
theorem rowsV_len : ∀ (vs : List Int), (rowsV vs).length ≤ 10 * vs.length
  | [] => by simp [rowsV]
  | v :: vs => by
    have := rowsV_len vs
    have := (lay_length v).2
    simp only [rowsV, List.flatMap_cons, List.length_append, List.length_cons] at *
    omega
theorem rowsT_len : ∀ (ts : List (List Int)), (∀ t ∈ ts, t.length ≤ 200) → (rowsT ts).length ≤ 210 * ts.length
  | [], _ => by simp [rowsT]
  | t :: ts, h => by
    have := rowsT_len ts (fun x hx => h x (List.mem_cons_of_mem _ hx))
    have := (lay_length t.length).2
    have := h t List.mem_cons_self
    simp only [rowsT, List.flatMap_cons, List.length_append, List.length_cons] at *
    omega

theorem read_texts {ts : List (List Int)} (h20 : ts.length ≤ 20) (h : ∀ t ∈ ts, Bytes t ∧ t.length ≤ 200) : ∀ (n i k : Nat), n + i = ts.length → n + 40 ≤ k → touchstonelaw1_OctetRows.l3 k ts (rowsT (ts.drop i)) i = some true := by
  intro n
  induction n with
  | zero =>
    intro i k hn hk
    obtain ⟨k, rfl⟩ : ∃ m, k = m + 1 := ⟨k - 1, by omega⟩
    rw [touchstonelaw1_OctetRows.l3, if_neg (by omega), List.drop_of_length_le (by omega)]
    simp [rowsT]
  | succ n ih =>
    intro i k hn hk
    obtain ⟨k, rfl⟩ : ∃ m, k = m + 1 := ⟨k - 1, by omega⟩
    have hi : i < ts.length := by omega
    have hd : ∀ t ∈ ts.drop i, Bytes t ∧ t.length ≤ 200 := fun t ht => h t (List.mem_of_mem_drop ht)
    have hb := rowsT_bytes hd
    have hl := rowsT_len (ts.drop i) (fun t ht => (hd t ht).2)
    rw [List.length_drop] at hl
    rw [touchstonelaw1_OctetRows.l3, if_pos (by omega), takeText_is (by omega) hb (by omega) (by omega) (by omega), Option.bind_some, rdL_eq hi]
    have ht := h ts[i] (List.getElem_mem hi)
    have e : rowsT (ts.drop i) = lay ts[i].length ++ ts[i] ++ rowsT (ts.drop (i + 1)) := by
      rw [List.drop_eq_getElem_cons hi]
      rw [rowsT, List.flatMap_cons, rowsT]
    rw [e, tkText_lay (by omega) (by omega)]
    dsimp only
    rw [if_pos rfl, if_pos (by omega), if_pos rfl, if_pos (by omega), if_pos (by simp; omega), wrap64_id (by omega) (by omega)]
    have e2 : (lay ts[i].length ++ ts[i] ++ rowsT (ts.drop (i + 1))).drop ((((lay ts[i].length).length + ts[i].length : Nat) : Int).toNat) = rowsT (ts.drop (i + 1)) := by
      rw [Int.toNat_natCast, List.drop_left' (by simp)]
    rw [e2, show ((i : Int) + 1) = ((i + 1 : Nat) : Int) by omega]
    exact ih (i + 1) k (by omega) (by omega)
theorem read_nums {vs : List Int} {ts : List (List Int)} (hv20 : vs.length ≤ 20) (hv : U64s vs) (h20 : ts.length ≤ 20) (h : ∀ t ∈ ts, Bytes t ∧ t.length ≤ 200) : ∀ (n i k : Nat), n + i = vs.length → n + 70 ≤ k → touchstonelaw1_OctetRows.l2 k vs ts (rowsV (vs.drop i) ++ rowsT ts) i = some true := by
  intro n
  induction n with
  | zero =>
    intro i k hn hk
    obtain ⟨k, rfl⟩ : ∃ m, k = m + 1 := ⟨k - 1, by omega⟩
    rw [touchstonelaw1_OctetRows.l2, if_neg (by omega), List.drop_of_length_le (by omega)]
    exact read_texts h20 h ts.length 0 k (by omega) (by omega)
  | succ n ih =>
    intro i k hn hk
    obtain ⟨k, rfl⟩ : ∃ m, k = m + 1 := ⟨k - 1, by omega⟩
    have hi : i < vs.length := by omega
    have hd : U64s (vs.drop i) := fun v hx => hv v (List.mem_of_mem_drop hx)
    have hb := (rowsV_bytes hd).append (rowsT_bytes h)
    have hl := rowsV_len (vs.drop i)
    have hl2 := rowsT_len ts (fun t ht => (h t ht).2)
    rw [List.length_drop] at hl
    have hvi := hv vs[i] (List.getElem_mem hi)
    rw [touchstonelaw1_OctetRows.l2, if_pos (by omega), takeVar_is (by omega) hb (by simp; omega), Option.bind_some, rd_eq hi]
    have e : rowsV (vs.drop i) ++ rowsT ts = lay vs[i] ++ (rowsV (vs.drop (i + 1)) ++ rowsT ts) := by
      rw [List.drop_eq_getElem_cons hi]
      rw [rowsV, List.flatMap_cons, rowsV, List.append_assoc]
    rw [e, tk_lay _ hvi.1 hvi.2]
    dsimp only
    rw [if_pos rfl, if_pos (by omega), if_pos rfl, if_pos (by omega), if_pos (by simp; omega), wrap64_id (by omega) (by omega)]
    rw [Int.toNat_natCast, List.drop_left, show ((i : Int) + 1) = ((i + 1 : Nat) : Int) by omega]
    exact ih (i + 1) k (by omega) (by omega)
theorem lay_texts {vs : List Int} {ts : List (List Int)} (hv20 : vs.length ≤ 20) (hv : U64s vs) (h20 : ts.length ≤ 20) (hB : ∀ t ∈ ts, Bytes t) : ∀ (n i k : Nat), n + i = ts.length → n + 100 ≤ k → (∀ t ∈ ts.take i, t.length ≤ 200) →
    touchstonelaw1_OctetRows.l1 k vs ts (rowsV vs ++ rowsT (ts.take i)) i = some true := by
  intro n
  induction n with
  | zero =>
    intro i k hn hk h200
    obtain ⟨k, rfl⟩ : ∃ m, k = m + 1 := ⟨k - 1, by omega⟩
    rw [List.take_of_length_le (by omega)] at h200 ⊢
    rw [touchstonelaw1_OctetRows.l1, if_neg (by omega)]
    exact read_nums hv20 hv h20 (fun t ht => ⟨hB t ht, h200 t ht⟩) vs.length 0 k (by omega) (by omega)
  | succ n ih =>
    intro i k hn hk h200
    obtain ⟨k, rfl⟩ : ∃ m, k = m + 1 := ⟨k - 1, by omega⟩
    have hi : i < ts.length := by omega
    have hl := rowsV_len vs
    have hl2 := rowsT_len (ts.take i) h200
    rw [List.length_take] at hl2
    rw [touchstonelaw1_OctetRows.l1, if_pos (by omega), if_pos (by omega), rdL_eq hi]
    by_cases hg : (ts[i].length : Int) > 200
    · rw [if_pos hg]
    · rw [if_neg hg, text_is (by omega) (by simp; omega) (by omega), Option.bind_some, wrap64_id (by omega) (by omega), show ((i : Int) + 1) = ((i + 1 : Nat) : Int) by omega]
      have e : rowsV vs ++ rowsT (ts.take i) ++ lay ts[i].length ++ ts[i] = rowsV vs ++ rowsT (ts.take (i + 1)) := by
        rw [List.take_succ_eq_append_getElem hi]
        simp only [rowsT, List.flatMap_append, List.flatMap_cons, List.flatMap_nil, List.append_nil, List.append_assoc]
      rw [e]
      refine ih (i + 1) k (by omega) (by omega) (fun t ht => ?_)
      rw [List.take_succ_eq_append_getElem hi] at ht
      rcases List.mem_append.1 ht with ht | ht
      · exact h200 t ht
      · rw [List.mem_singleton.1 ht]; omega
theorem lay_nums {vs : List Int} {ts : List (List Int)} (hv20 : vs.length ≤ 20) (hv : U64s vs) (h20 : ts.length ≤ 20) (hB : ∀ t ∈ ts, Bytes t) : ∀ (n i k : Nat), n + i = vs.length → n + 130 ≤ k → touchstonelaw1_OctetRows.l0 k vs ts (rowsV (vs.take i)) i = some true := by
  intro n
  induction n with
  | zero =>
    intro i k hn hk
    obtain ⟨k, rfl⟩ : ∃ m, k = m + 1 := ⟨k - 1, by omega⟩
    rw [List.take_of_length_le (by omega)]
    rw [touchstonelaw1_OctetRows.l0, if_neg (by omega)]
    have := lay_texts hv20 hv h20 hB ts.length 0 k (by omega) (by omega) (by simp)
    simpa [rowsT] using this
  | succ n ih =>
    intro i k hn hk
    obtain ⟨k, rfl⟩ : ∃ m, k = m + 1 := ⟨k - 1, by omega⟩
    have hi : i < vs.length := by omega
    have hl := rowsV_len (vs.take i)
    rw [List.length_take] at hl
    have hvi := hv vs[i] (List.getElem_mem hi)
    rw [touchstonelaw1_OctetRows.l0, if_pos (by omega), if_pos (by omega), rd_eq hi, var_is (by omega) hvi.1 hvi.2 (by omega), Option.bind_some, wrap64_id (by omega) (by omega), show ((i : Int) + 1) = ((i + 1 : Nat) : Int) by omega]
    have e : rowsV (vs.take i) ++ lay vs[i] = rowsV (vs.take (i + 1)) := by
      rw [List.take_succ_eq_append_getElem hi]
      simp only [rowsV, List.flatMap_append, List.flatMap_cons, List.flatMap_nil, List.append_nil]
    rw [e]
    exact ih (i + 1) k (by omega) (by omega)

theorem OctetRows : touchstonelaw1_OctetRows.Pure := by
  intro vs ts _ _ hv ht
  refine ⟨200, ?_⟩
  have hB : ∀ t ∈ ts, Bytes t := fun t h => Bytes.of_wf (ht.2.2 t h).2.2
  have hU : U64s vs := fun v h => u64_wf (hv v h)
  unfold touchstonelaw1_OctetRows.f
  rw [begun_is (by omega), Option.bind_some, if_pos rfl]
  by_cases h1 : (vs.length : Int) > 20
  · rw [if_pos h1, touchstonelaw1_OctetRows.j0, if_pos rfl]
  rw [if_neg h1, touchstonelaw1_OctetRows.j0]
  by_cases h2 : (ts.length : Int) > 20
  · rw [if_pos (by simpa using h2)]
  rw [if_neg (by simpa using h2)]
  have := lay_nums (by omega) hU (by omega) hB vs.length 0 199 (by omega) (by omega)
  simpa [rowsV] using this
end Go.Proofs.Ytaoapdcdnjmoiaa.Pure
