/- What came in, read as lists of the printed kinds: slices of slices, records, trees of them. Used by the rows of laws. -/
import Derived.Deep.Slices
import Derived.SizedLaws
import Derived.Test.YtkbeeiijodojkaaXWords
set_option linter.unusedVariables false
set_option linter.unusedSimpArgs false
namespace Go.Proofs.YtkbeeiijodojkaaW.PrintWords
open Go.RowKit
/-- Whatever can be read as a datum of type t, and is no wider than may be, is of the kind d. -/
def Opens (P : Program) (t : TypeId) {α : Type} (d : Kd α) (Wf : α → Prop) : Prop :=
  ∀ {H : Type} (enc : TypeId × Value → H) (w : World) (base : Nat) (spare : Nat → Bool) (held : Bool) (fuel : Nat) (cs : List Value) (x : DataW H × List MemPlace),
    DataW.trod enc P w base spare held fuel t cs = some x → (∀ n ∈ x.1.weights P t, n ≤ reachBytes) → ∃ y, d.K w y cs ∧ Wf y
theorem opens_int {P : Program} {t : TypeId} {k : IntKind} (ht : P.underlying t = some (.int k)) : Opens P t (Kd.int k) (fun n => (Lit.int k n).wf = true) := by
  intro H enc w base spare held fuel cs x h hw
  obtain ⟨n, rfl, hx, hn⟩ := DataW.trod_int ht h
  exact ⟨n, rfl, hn⟩
theorem opens_bool {P : Program} {t : TypeId} (ht : P.underlying t = some .bool) : Opens P t Kd.bool (fun _ => True) := by
  intro H enc w base spare held fuel cs x h hw
  obtain ⟨b, rfl, hx⟩ := DataW.trod_bool ht h
  exact ⟨b, rfl, trivial⟩
theorem opens_string {P : Program} {t : TypeId} (ht : P.underlying t = some .string) : Opens P t Kd.string (fun s => s.size ≤ 140737488351232) := by
  intro H enc w base spare held fuel cs x h hw
  obtain ⟨s, rfl, rfl, hs⟩ := DataW.trod_string ht h
  refine ⟨s, rfl, ?_⟩
  have := hw s.data.toList.length (by simp [DataW.weights])
  simp only [reachBytes, Array.length_toList] at this
  exact this
theorem opens_slice {P : Program} {t e : TypeId} {α : Type} {d : Kd α} {Wf : α → Prop} (ht : P.underlying t = some (.slice e)) (hc : P.cellsOf e = d.sz) {B : Nat} (hB : P.bytesOf e = B) (ho : Opens P e d Wf) :
    Opens P t (Kd.slice e d) (fun xs => xs.length * B ≤ 140737488351232 ∧ xs.length ≤ maxLen ∧ ∀ x ∈ xs, Wf x) := by
  intro H enc w base spare held fuel cs x h hw
  rcases Go.Deep.open_slice ht h with ⟨rfl, rfl⟩ | ⟨a, len, cap, m, n, D, Pl, rfl, hb, hl, hm, hmm, rfl, hx⟩
  · exact ⟨[], ⟨none, 0, rfl, Nat.le_refl _, Kd.C_nil _ _⟩, by simp, by simp, fun x hx => by cases hx⟩
  · have hlm : len ≤ m := by subst hmm; split <;> omega
    have each : ∀ i, i < len → ∃ y, (∃ c, c.length = d.sz ∧ d.K w y c ∧ ∀ j u, c[j]? = some u → w.cell? (a.add (i * d.sz + j)) = some u) ∧ Wf y := by
      intro i hi
      obtain ⟨c, h1, h2⟩ := hx i (by omega)
      obtain ⟨_, hlen, hcell⟩ := World.cells?_some h1
      have hwi : ∀ n ∈ (D i).weights P e, n ≤ reachBytes := by
        intro n hn
        refine hw n ?_
        simp only [DataW.weights, ht, List.mem_cons, List.mem_append]
        refine Or.inr (Or.inl ?_)
        have hmem : D i ∈ (List.range len).map D := List.mem_map.2 ⟨i, List.mem_range.2 hi, rfl⟩
        revert hmem
        generalize (List.range len).map D = l
        induction l with
        | nil => intro hmem; cases hmem
        | cons z l ih =>
          intro hmem
          simp only [DataW.weightsAll, List.mem_append]
          rcases List.mem_cons.1 hmem with rfl | hmem
          · exact Or.inl hn
          · exact Or.inr (ih hmem)
      obtain ⟨y, hK, hW⟩ := ho enc w base spare held n c (D i, Pl i) h2 hwi
      refine ⟨y, ⟨c, by rw [hlen, hc], hK, fun j u hj => ?_⟩, hW⟩
      have hjl : j < P.cellsOf e := by rw [← hlen]; exact (List.getElem?_eq_some_iff.1 hj).1
      have := hcell j hjl
      rw [hj, hc, Addr.add_add] at this
      exact this
    classical
    let f : Nat → Option α := fun i => if hi : i < len then some (Classical.choose (each i hi)) else none
    have hf : ∀ i, (hi : i < len) → f i = some (Classical.choose (each i hi)) := fun i hi => dif_pos hi
    obtain ⟨ys, hys, hget⟩ : ∃ ys : List α, ys.length = len ∧ ∀ i, (hi : i < len) → ys[i]? = some (Classical.choose (each i hi)) := by
      refine ⟨(List.range len).pmap (fun i hi => Classical.choose (each i hi)) (fun i hi => List.mem_range.1 hi), by simp, fun i hi => ?_⟩
      rw [List.getElem?_pmap]
      simp [List.getElem?_range hi, hi]
    refine ⟨ys, ⟨some a, cap, by rw [hys], by omega, ?_⟩, ?_, ?_, ?_⟩
    · refine ⟨rfl, by rw [hys]; simp only [maxLen] at hm; omega, fun _ => ⟨a, rfl, fun j p hj => ?_⟩⟩
      have hjl : j < len := by rw [← hys]; exact (List.getElem?_eq_some_iff.1 hj).1
      rw [hget j hjl] at hj
      obtain rfl := Option.some.inj hj
      exact (Classical.choose_spec (each j hjl)).1
    · have := hw ((len + (m - len)) * P.bytesOf e) (by simp [DataW.weights, ht])
      rw [hB] at this
      rw [hys]
      have h2 : len * B ≤ (len + (m - len)) * B := Nat.mul_le_mul_right _ (by omega)
      simp only [reachBytes] at this
      omega
    · rw [hys]; exact Nat.le_trans hl hm
    · intro y hy
      obtain ⟨j, hj, rfl⟩ := List.mem_iff_getElem.1 hy
      have hjl : j < len := by omega
      have h3 := hget j hjl
      rw [List.getElem?_eq_getElem hj] at h3
      rw [Option.some.inj h3]
      exact (Classical.choose_spec (each j hjl)).2
/-- A parameter that is a slice, opened. -/
theorem opens_param {H : Type} {enc : TypeId × Value → H} {P : Program} {W : World} {base : Nat} {spare : Nat → Bool} {held : Bool} {t : TypeId} {v : Value} {d : DataW H} {ps : List MemPlace} {ts : List TypeId} {ds : List (DataW H)} {j : Nat} {α : Type} {kd : Kd α} {Wf : α → Prop}
    (hsz : (DataW.weightsEach P ts ds).all (· ≤ reachBytes) = true) (ht : ts[j]? = some t) (hd : ds[j]? = some d) (ho : Opens P t kd Wf) (h : DataW.Trod enc P W base spare held t v d ps) :
    ∃ y, kd.K W y v.cells.toList ∧ Wf y := by
  obtain ⟨fuel, hf⟩ := h
  exact ho enc W base spare held fuel _ _ hf (fun n hn => by
    have := List.all_eq_true.1 hsz _ (DataW.weights_mem_each ht hd n hn)
    simpa using this)
end Go.Proofs.YtkbeeiijodojkaaW.PrintWords
