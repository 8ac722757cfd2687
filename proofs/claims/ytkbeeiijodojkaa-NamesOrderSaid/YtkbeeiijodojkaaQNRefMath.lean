/- The document's sorted list is the sorted list, each once. -/
import Derived.Test.YtkbeeiijodojkaaQNRef
import Derived.Test.YtkbeeiijodojkaaNamesMath
set_option linter.unusedVariables false
set_option linter.unusedSimpArgs false
namespace Go.Proofs.Ytkbeeiijodojkaa.QN
open Go.RowKit Go.Proofs.Ytkbeeiijodojkaa.NM Go.Proofs.YtkbeeiijodojkaaW.PrintWords Go.Proofs.YtkbeeiijodojkaaW.PrintLast Go.Proofs.YtkbeeiijodojkaaW.PrintMore
abbrev dt (x : ByteArray) : List UInt8 := x.data.toList
theorem dt_inj {x y : ByteArray} (h : dt x = dt y) : x = y := by
  cases x; cases y; simp [dt] at h; simp [h]
theorem rd_at (xs : List ByteArray) (j : Nat) (h : j < xs.length) : rdOf ByteArray.empty xs (j : Int) = xs[j] := by
  simp [rdOf, h]
theorem w64 (j : Nat) (h : j ≤ 1000000) : wrap64 ((j : Int) + 1) = ((j + 1 : Nat) : Int) := by unfold wrap64; omega
def Strict (xs : List ByteArray) : Prop := xs.Pairwise (fun x y => dt x < dt y)
theorem lessB_iff (x y : ByteArray) : lessB x y = true ↔ dt x < dt y := by
  unfold lessB; rw [decide_eq_true_eq]; exact compare_lt _ _
theorem lessB_not (x y : ByteArray) : lessB x y = false ↔ ¬ dt x < dt y := by
  rw [← lessB_iff]; simp
theorem less11_some (x y : ByteArray) (h : x.size ≤ 1000000) : less11.f x y = some (lessB x y) := by
  unfold less11.f; rw [if_pos (by omega)]
theorem ins11_eq (xs : List ByteArray) (k : Nat) (x : ByteArray) (hk : k ≤ xs.length) (hx : xs.length ≤ 10000) : ins11.f xs (k : Int) x = some (xs.take k ++ [x] ++ xs.drop k) := by
  unfold ins11.f; rw [if_pos ⟨by omega, by omega, hx⟩]; rfl
/-- Put in at a place between the smaller and the greater ones. -/
theorem ins_strict (xs : List ByteArray) (k : Nat) (x : ByteArray) (hk : k ≤ xs.length) (hs : Strict xs) (h1 : ∀ (t : Nat) (ht : t < xs.length), t < k → dt xs[t] < dt x) (h2 : ∀ hk' : k < xs.length, dt x < dt xs[k]) :
    Strict (xs.take k ++ [x] ++ xs.drop k) ∧ ∀ y, y ∈ xs.take k ++ [x] ++ xs.drop k ↔ y = x ∨ y ∈ xs := by
  have hlow : ∀ y ∈ xs.take k, dt y < dt x := by
    intro y hy
    obtain ⟨t, ht, rfl⟩ := List.mem_iff_getElem.mp hy
    rw [List.length_take] at ht
    rw [List.getElem_take]
    exact h1 t (by omega) (by omega)
  have hhigh : ∀ y ∈ xs.drop k, dt x < dt y := by
    intro y hy
    obtain ⟨t, ht, rfl⟩ := List.mem_iff_getElem.mp hy
    rw [List.length_drop] at ht
    rw [List.getElem_drop]
    have h3 := h2 (by omega)
    by_cases h0 : t = 0
    · subst h0; simpa using h3
    · exact List.lt_trans h3 ((List.pairwise_iff_getElem.mp hs) k (k + t) (by omega) (by omega) (by omega))
  constructor
  · unfold Strict
    rw [List.pairwise_append, List.pairwise_append]
    refine ⟨⟨hs.sublist (List.take_sublist _ _), List.pairwise_singleton _ _, fun a ha b hb => ?_⟩, hs.sublist (List.drop_sublist _ _), fun a ha b hb => ?_⟩
    · rw [List.mem_singleton] at hb; subst hb; exact hlow a ha
    · rw [List.mem_append, List.mem_singleton] at ha
      rcases ha with ha | rfl
      · exact List.lt_trans (hlow a ha) (hhigh b hb)
      · exact hhigh b hb
  · intro y
    rw [List.mem_append, List.mem_append, List.mem_singleton]
    have : y ∈ xs ↔ y ∈ xs.take k ∨ y ∈ xs.drop k := by rw [← List.mem_append, List.take_append_drop]
    rw [this]
    constructor
    · rintro ((h | h) | h)
      · exact .inr (.inl h)
      · exact .inl h
      · exact .inr (.inr h)
    · rintro (h | h | h)
      · exact .inl (.inr h)
      · exact .inl (.inl h)
      · exact .inr h
theorem l1_ev (l xs : List ByteArray) (i : Nat) (hi : i < l.length) (hl : l.length ≤ 1000) (hs : Strict xs) (hx : xs.length ≤ 1000) (hz : ∀ y ∈ l, y.size ≤ 1000000) (hzx : ∀ y ∈ xs, y.size ≤ 1000000) :
    ∀ (d j : Nat), xs.length - j = d → j ≤ xs.length → (∀ (t : Nat) (ht : t < xs.length), t < j → dt xs[t] < dt l[i]) →
    ∃ ys, Strict ys ∧ (∀ y, y ∈ ys ↔ y = l[i] ∨ y ∈ xs) ∧ ys.length ≤ xs.length + 1 ∧ ∀ r, Ev (fun k => touchstoneref11_Sorted.l0 k l ys ((i + 1 : Nat) : Int)) r → Ev (fun k => touchstoneref11_Sorted.l1 k l xs (i : Int) (j : Int)) r := by
  intro d
  induction d with
  | zero =>
    intro j hd hj hlow
    have hj' : j = xs.length := by omega
    subst hj'
    obtain ⟨h1, h2⟩ := ins_strict xs xs.length l[i] (Nat.le_refl _) hs (fun t ht _ => hlow t ht ht) (fun h => absurd h (Nat.lt_irrefl _))
    refine ⟨_, h1, h2, by simp [Nat.min_def], fun r hr => Ev.step (fun k => ?_) hr⟩
    rw [touchstoneref11_Sorted.l1, if_neg (by omega), if_pos rfl, if_pos (by omega), if_pos (by omega), rd_at l i hi, ins11_eq xs xs.length _ (Nat.le_refl _) (by omega), Option.bind_some, w64 i (by omega)]
  | succ d ih =>
    intro j hd hj hlow
    have hjl : j < xs.length := by omega
    by_cases hless : lessB xs[j] l[i] = true
    · obtain ⟨ys, h1, h2, h3, h4⟩ := ih (j + 1) (by omega) (by omega) (fun t ht htj => by
        by_cases e : t = j
        · subst e; exact (lessB_iff _ _).mp hless
        · exact hlow t ht (by omega))
      refine ⟨ys, h1, h2, h3, fun r hr => Ev.step (fun k => ?_) (h4 r hr)⟩
      rw [touchstoneref11_Sorted.l1, if_pos (by omega), if_pos (by omega), if_pos (by omega), if_pos (by omega), rd_at l i hi, rd_at xs j hjl, less11_some _ _ (hzx _ (List.getElem_mem _)), Option.bind_some, hless, if_pos rfl, w64 j (by omega)]
    · have hless' : lessB xs[j] l[i] = false := by simpa using hless
      have hnl := (lessB_not _ _).mp hless'
      by_cases heq : xs[j] = l[i]
      · refine ⟨xs, hs, fun y => ⟨fun h => .inr h, fun h => h.elim (fun e => by rw [e, ← heq]; exact List.getElem_mem _) id⟩, by omega, fun r hr => Ev.step (fun k => ?_) hr⟩
        rw [touchstoneref11_Sorted.l1, if_pos (by omega), if_pos (by omega), if_pos (by omega), if_pos (by omega), rd_at l i hi, rd_at xs j hjl, less11_some _ _ (hzx _ (List.getElem_mem _)), Option.bind_some, hless', if_neg (by decide), if_neg (by omega), if_pos (by rw [heq]), w64 i (by omega)]
      · have hne : ¬ xs[j].toList = l[i].toList := by
          intro h
          apply heq
          apply dt_inj
          simpa [ByteArray.toList_eq] using h
        have hgt : dt l[i] < dt xs[j] := by
          refine lt_of_le_ne (List.not_lt.mp hnl) (fun e => heq (dt_inj e.symm))
        obtain ⟨h1, h2⟩ := ins_strict xs j l[i] (by omega) hs hlow (fun _ => hgt)
        refine ⟨_, h1, h2, by simp; omega, fun r hr => Ev.step (fun k => ?_) hr⟩
        rw [touchstoneref11_Sorted.l1, if_pos (by omega), if_pos (by omega), if_pos (by omega), if_pos (by omega), rd_at l i hi, rd_at xs j hjl, less11_some _ _ (hzx _ (List.getElem_mem _)), Option.bind_some, hless', if_neg (by decide), if_neg (by omega), if_neg hne, ins11_eq xs j _ (by omega) (by omega), Option.bind_some, w64 i (by omega)]
theorem l0_ev (l : List ByteArray) (hl : l.length ≤ 1000) (hz : ∀ y ∈ l, y.size ≤ 1000000) :
    ∀ (d i : Nat) (xs : List ByteArray), l.length - i = d → i ≤ l.length → xs.length ≤ i → Strict xs → (∀ y ∈ xs, y ∈ l) →
    ∃ R, Strict R ∧ (∀ y, y ∈ R ↔ y ∈ xs ∨ y ∈ l.drop i) ∧ Ev (fun k => touchstoneref11_Sorted.l0 k l xs (i : Int)) R := by
  intro d
  induction d with
  | zero =>
    intro i xs hd hi hx hs hm
    refine ⟨xs, hs, fun y => ?_, Ev.step (fun k => ?_) (Ev.now xs)⟩
    · rw [List.drop_eq_nil_of_le (by omega)]; simp
    · rw [touchstoneref11_Sorted.l0, if_neg (by omega)]
  | succ d ih =>
    intro i xs hd hi hx hs hm
    have hil : i < l.length := by omega
    obtain ⟨ys, h1, h2, h3, h4⟩ := l1_ev l xs i hil hl hs (by omega) hz (fun y hy => hz y (hm y hy)) xs.length 0 (by omega) (by omega) (fun t _ ht => absurd ht (Nat.not_lt_zero _))
    obtain ⟨R, g1, g2, g3⟩ := ih (i + 1) ys (by omega) (by omega) (by omega) h1 (fun y hy => by
      rcases (h2 y).mp hy with e | e
      · rw [e]; exact List.getElem_mem _
      · exact hm y e)
    refine ⟨R, g1, fun y => ?_, Ev.step (fun k => ?_) (h4 R g3)⟩
    · rw [g2, h2, List.drop_eq_getElem_cons hil, List.mem_cons]
      constructor
      · rintro ((h | h) | h)
        · exact .inr (.inl h)
        · exact .inl h
        · exact .inr (.inr h)
      · rintro (h | h | h)
        · exact .inl (.inr h)
        · exact .inl (.inl h)
        · exact .inr h
    · rw [touchstoneref11_Sorted.l0, if_pos (by omega)]; rfl
/-- The sorted list of texts. -/
def srt (l : List ByteArray) : List ByteArray := (sortedL l).map bs
theorem sortedL_eq (l : List ByteArray) : sortedL l = sorted (l.map dt) := rfl
theorem srt_strict (l : List ByteArray) : Strict (srt l) := by
  unfold Strict srt
  rw [List.pairwise_map]
  have := (sorted_spec (l.map dt)).1
  rw [← sortedL_eq] at this
  exact this.imp (fun h => by simpa [dt, bs] using h)
theorem srt_mem (l : List ByteArray) (y : ByteArray) : y ∈ srt l ↔ y ∈ l := by
  unfold srt
  rw [List.mem_map]
  constructor
  · rintro ⟨z, hz, rfl⟩
    rw [sortedL_eq, (sorted_spec _).2, List.mem_map] at hz
    obtain ⟨x, hx, rfl⟩ := hz
    rw [show bs (dt x) = x from bs_of x]
    exact hx
  · intro h
    refine ⟨dt y, ?_, bs_of y⟩
    rw [sortedL_eq, (sorted_spec _).2, List.mem_map]
    exact ⟨y, h, rfl⟩
theorem strict_unique (xs ys : List ByteArray) (hx : Strict xs) (hy : Strict ys) (h : ∀ y, y ∈ xs ↔ y ∈ ys) : xs = ys := by
  have hm : xs.map dt = ys.map dt := by
    refine strict_ext _ _ (by rw [List.pairwise_map]; exact hx) (by rw [List.pairwise_map]; exact hy) (fun x => ?_)
    simp only [List.mem_map]
    constructor
    · rintro ⟨a, ha, rfl⟩; exact ⟨a, (h a).mp ha, rfl⟩
    · rintro ⟨a, ha, rfl⟩; exact ⟨a, (h a).mpr ha, rfl⟩
  have hb : ∀ zs : List ByteArray, (zs.map dt).map bs = zs := fun zs => by
    rw [List.map_map]
    conv => rhs; rw [← List.map_id zs]
    exact List.map_congr_left (fun x _ => bs_of x)
  rw [← hb xs, ← hb ys, hm]
theorem ref_sorted (l : List ByteArray) (hl : l.length ≤ 1000) (hz : ∀ y ∈ l, y.size ≤ 1000000) : Ev (fun k => touchstoneref11_Sorted.f k l) (srt l) := by
  obtain ⟨R, h1, h2, h3⟩ := l0_ev l hl hz l.length 0 [] (by omega) (by omega) (by simp) List.Pairwise.nil (fun y hy => by cases hy)
  have : R = srt l := strict_unique _ _ h1 (srt_strict l) (fun y => by rw [h2, srt_mem]; simp)
  subst this
  exact h3
end Go.Proofs.Ytkbeeiijodojkaa.QN
