/- What came in, read as terms: a struct nested in itself, by value, opened. -/
import Derived.Test.YtpejhapgffcngaaXShort
import Derived.Test.YtpejhapgffcngaaQKTree
import Derived.Test.YtpejhapgffcngaaXOpen
set_option linter.unusedVariables false
set_option linter.unusedSimpArgs false
namespace Go.Proofs.Ytpejhapgffcngaa.QK
open Go.WideShapes Go.RowKit Go.Proofs.YtpejhapgffcngaaW.PrintWords Go.Proofs.YtpejhapgffcngaaW.PrintLast Go.Proofs.YtpejhapgffcngaaW.PrintMore
def OpensAt (P : Program) (t : TypeId) {α : Type} (d : Kd α) (Wf : α → Prop) (fuel : Nat) : Prop :=
 ∀ {H : Type} (enc : TypeId × Value → H) (w : World) (base : Nat) (spare : Nat → Bool) (held : Bool) (cs : List Value) (x : DataW H × List MemPlace),
  DataW.trod enc P w base spare held fuel t cs = some x → (∀ n ∈ x.1.weights P t, n ≤ reachBytes) → ∃ y, d.K w y cs ∧ Wf y
theorem opens_of_at {P : Program} {t : TypeId} {α : Type} {d : Kd α} {Wf : α → Prop} (h : ∀ fuel, OpensAt P t d Wf fuel) : Opens P t d Wf := fun enc w base spare held fuel cs x ht hw => h fuel enc w base spare held cs x ht hw
theorem weights_all {H : Type} {P : Program} {e : TypeId} {d : DataW H} {n : Nat} : ∀ {l : List (DataW H)}, d ∈ l → n ∈ d.weights P e → n ∈ DataW.weightsAll P e l
 | [], h, _ => by cases h
 | z :: l, h, hn => by
  simp only [DataW.weightsAll, List.mem_append]
  rcases List.mem_cons.1 h with rfl | h
  ·exact Or.inl hn
  ·exact Or.inr (weights_all h hn)
theorem opens_slice_at {P : Program} {t e : TypeId} {α : Type} {d : Kd α} {Wf : α → Prop} {fuel : Nat} (ht : P.underlying t = some (.slice e)) (hc : P.cellsOf e = d.sz) {B : Nat} (hB : P.bytesOf e = B) (ho : ∀ n, n < fuel → OpensAt P e d Wf n) :
  OpensAt P t (Kd.slice e d) (fun xs => xs.length * B ≤ 140737488351232 ∧ ∀ x ∈ xs, Wf x) fuel := by
 intro H enc w base spare held cs x h hw
 rcases DataW.trod_slice ht h with ⟨rfl, rfl⟩ | ⟨a, len, cap, elems, rest, n, hn, rfl, rfl, hb, hl, hm, hlen, hx, _, _⟩
 ·exact ⟨[], ⟨none, 0, rfl, Nat.le_refl _, Kd.C_nil _ _⟩, by simp, fun x hx => by cases hx⟩
 ·have each : ∀ i, i < len → ∃ y, (∃ c, c.length = d.sz ∧ d.K w y c ∧ ∀ j u, c[j]? = some u → w.cell? (a.add (i * d.sz + j)) = some u) ∧ Wf y := by
   intro i hi
   have h1 := hx i hi
   rw [List.getElem?_eq_getElem (by omega)] at h1
   obtain ⟨c, h1, h2⟩ := Option.bind_eq_some_iff.1 h1
   obtain ⟨_, hcl, hcell⟩ := World.cells?_some h1
   have hwi : ∀ q ∈ (elems[i]'(by omega)).1.weights P e, q ≤ reachBytes := by
    intro q hq
    refine hw q ?_
    simp only [DataW.weights, ht, List.mem_cons, List.mem_append]
    exact Or.inr (Or.inl (weights_all (List.mem_map.2 ⟨_, List.getElem_mem (by omega), rfl⟩) hq))
   obtain ⟨y, hK, hW⟩ := ho n (by omega) enc w base spare held c _ h2 hwi
   refine ⟨y, ⟨c, by rw [hcl, hc], hK, fun j u hj => ?_⟩, hW⟩
   have hjl : j < P.cellsOf e := by rw [← hcl]; exact (List.getElem?_eq_some_iff.1 hj).1
   have := hcell j hjl
   rw [hj, hc, Addr.add_add] at this
   exact this
  classical
  obtain ⟨ys, hys, hget⟩ : ∃ ys : List α, ys.length = len ∧ ∀ i, (hi : i < len) → ys[i]? = some (Classical.choose (each i hi)) := by
   refine ⟨(List.range len).pmap (fun i hi => Classical.choose (each i hi)) (fun i hi => List.mem_range.1 hi), by simp, fun i hi => ?_⟩
   rw [List.getElem?_pmap]
   simp [List.getElem?_range hi, hi]
  refine ⟨ys, ⟨some a, cap, by rw [hys], by omega, ?_⟩, ?_, ?_⟩
  ·refine ⟨rfl, by rw [hys]; simp only [maxLen] at hm; omega, fun _ => ⟨a, rfl, fun j p hj => ?_⟩⟩
   have hjl : j < len := by rw [← hys]; exact (List.getElem?_eq_some_iff.1 hj).1
   rw [hget j hjl] at hj
   obtain rfl := Option.some.inj hj
   exact (Classical.choose_spec (each j hjl)).1
  ·have := hw ((len + rest.length) * P.bytesOf e) (by simp [DataW.weights, ht, hlen])
   rw [hB] at this
   rw [hys]
   have h2 : len * B ≤ (len + rest.length) * B := Nat.mul_le_mul_right _ (by omega)
   simp only [reachBytes] at this
   omega
  ·intro y hy
   obtain ⟨j, hj, rfl⟩ := List.mem_iff_getElem.1 hy
   have hjl : j < len := by omega
   have h3 := hget j hjl
   rw [List.getElem?_eq_getElem hj] at h3
   rw [Option.some.inj h3]
   exact (Classical.choose_spec (each j hjl)).2
theorem list3 {α : Type} : ∀ {l : List α}, l.length = 3 → ∃ a b c, l = [a, b, c]
 | [a, b, c], _ => ⟨a, b, c, rfl⟩
theorem list5 {α : Type} : ∀ {l : List α}, l.length = 5 → ∃ a b c d e, l = [a, b, c, d, e]
 | [a, b, c, d, e], _ => ⟨a, b, c, d, e, rfl⟩
set_option maxRecDepth 100000 in
theorem opens76_at : ∀ fuel, OpensAt Try.prog 76 k76 Ok76 fuel := by
 intro fuel
 induction fuel using Nat.strongRecOn with
 | _ fuel ih =>
 intro H enc w base spare held cs x h hw
 obtain ⟨xs, n, hn, rfl, hl, hlen, hf⟩ := DataW.trod_struct Try.underlying76 h
 have hl' : cs.length = 3 := hl.trans (by kernel_rfl)
 obtain ⟨c0, c1, c2, rfl⟩ := list3 hl'
 obtain ⟨x0, x1, x2, rfl⟩ := list3 hlen
 have h0 : DataW.trod enc Try.prog w base spare held n 3 [c0] = some x0 := hf 0 _ rfl
 have h1 : DataW.trod enc Try.prog w base spare held n 3 [c1] = some x1 := hf 1 _ rfl
 have h2 : DataW.trod enc Try.prog w base spare held n 25 [c2] = some x2 := hf 2 _ rfl
 obtain ⟨a0, e0, _, w0⟩ := DataW.trod_int Try.underlying3 h0
 obtain ⟨a1, e1, _, w1⟩ := DataW.trod_int Try.underlying3 h1
 have hwe : ∀ (j : Nat) (t : TypeId) (y : DataW H × List MemPlace), ([3, 3, 25] : List TypeId)[j]? = some t → [x0, x1, x2][j]? = some y → ∀ q ∈ y.1.weights Try.prog t, q ≤ reachBytes := by
  intro j t y ht hy q hq
  refine hw q ?_
  simp only [DataW.weights, Try.underlying76]
  exact DataW.weights_mem_each (ts := [3, 3, 25]) (j := j) ht (by rw [List.getElem?_map, hy]; rfl) q hq
 obtain ⟨l, ⟨A, c, hcs, hlc, hC⟩, hB, hA⟩ := opens_slice_at (d := k76) (Wf := Ok76) (B := 40) Try.underlying25 (by kernel_rfl) (by kernel_rfl) (fun m hm => ih m (by omega)) enc w base spare held [c2] x2 h2 (hwe 2 25 x2 rfl rfl)
 simp only [List.cons.injEq, and_true] at e0 e1 hcs
 subst e0 e1 hcs
 exact ⟨⟨a0, a1, l⟩, k76_mk w ⟨a0, a1, l⟩ hlc hC, .mk w0 w1 hB hA⟩
set_option maxRecDepth 100000 in
theorem opens27_at : ∀ fuel, OpensAt Try.prog 27 k27 Ok27 fuel := by
 intro fuel
 induction fuel using Nat.strongRecOn with
 | _ fuel ih =>
 intro H enc w base spare held cs x h hw
 obtain ⟨xs, n, hn, rfl, hl, hlen, hf⟩ := DataW.trod_struct Try.underlying27 h
 have hl' : cs.length = 5 := hl.trans (by kernel_rfl)
 obtain ⟨c0, c1, c2, c3, c4, rfl⟩ := list5 hl'
 obtain ⟨x0, x1, x2, x3, x4, rfl⟩ := list5 hlen
 have h0 : DataW.trod enc Try.prog w base spare held n 3 [c0] = some x0 := hf 0 _ rfl
 have h1 : DataW.trod enc Try.prog w base spare held n 3 [c1] = some x1 := hf 1 _ rfl
 have h2 : DataW.trod enc Try.prog w base spare held n 9 [c2] = some x2 := hf 2 _ rfl
 have h3 : DataW.trod enc Try.prog w base spare held n 25 [c3] = some x3 := hf 3 _ rfl
 have h4 : DataW.trod enc Try.prog w base spare held n 23 [c4] = some x4 := hf 4 _ rfl
 obtain ⟨a0, e0, _, w0⟩ := DataW.trod_int Try.underlying3 h0
 obtain ⟨a1, e1, _, w1⟩ := DataW.trod_int Try.underlying3 h1
 obtain ⟨a2, e2, z2, w2⟩ := DataW.trod_string Try.underlying9 h2
 have hwe : ∀ (j : Nat) (t : TypeId) (y : DataW H × List MemPlace), ([3, 3, 9, 25, 23] : List TypeId)[j]? = some t → [x0, x1, x2, x3, x4][j]? = some y → ∀ q ∈ y.1.weights Try.prog t, q ≤ reachBytes := by
  intro j t y ht hy q hq
  refine hw q ?_
  simp only [DataW.weights, Try.underlying27]
  exact DataW.weights_mem_each (ts := [3, 3, 9, 25, 23]) (j := j) ht (by rw [List.getElem?_map, hy]; rfl) q hq
 have hs2 : a2.size ≤ 140737488351232 := by
  have := hwe 2 9 x2 rfl rfl a2.data.toList.length (by rw [z2]; simp [DataW.weights])
  simpa [reachBytes] using this
 obtain ⟨l3, ⟨A3, q3, hcs3, hlc3, hC3⟩, hB3, hA3⟩ := opens_slice_at (d := k76) (Wf := Ok76) (B := 40) Try.underlying25 (by kernel_rfl) (by kernel_rfl) (fun m hm => opens76_at m) enc w base spare held [c3] x3 h3 (hwe 3 25 x3 rfl rfl)
 obtain ⟨l4, ⟨A4, q4, hcs4, hlc4, hC4⟩, hB4, hA4⟩ := opens_slice_at (d := k27) (Wf := Ok27) (B := 80) Try.underlying23 (by kernel_rfl) (by kernel_rfl) (fun m hm => ih m (by omega)) enc w base spare held [c4] x4 h4 (hwe 4 23 x4 rfl rfl)
 simp only [List.cons.injEq, and_true] at e0 e1 e2 hcs3 hcs4
 subst e0 e1 e2 hcs3 hcs4
 exact ⟨⟨a0, a1, a2, l3, l4⟩, k27_mk w ⟨a0, a1, a2, l3, l4⟩ hlc3 hC3 hlc4 hC4, .mk w0 w1 hs2 hB3 hA3 hB4 hA4⟩
set_option maxRecDepth 100000 in
theorem open_term {H : Type} {enc : TypeId × Value → H} {W : World} {base b0 : Nat} {r : Reach} {spare : Nat → Bool} {held : Bool} {v : Value} {d : DataW H} {ps : List MemPlace} {ts : List TypeId} {ds : List (DataW H)} {j : Nat}
  (hsz : (DataW.weightsEach Try.prog ts ds).all (· ≤ reachBytes) = true) (ht : ts[j]? = some 27) (hd : ds[j]? = some d) (hv : Value.okWide Try.prog W r b0 27 v) (h : DataW.Trod enc Try.prog W base spare held 27 v d ps) :
  ∃ (t : S27) (A3 : Option Addr) (c3 : Nat) (A4 : Option Addr) (c4 : Nat), v = .agg #[.int .i64 t.f0, .int .i64 t.f1, .string t.f2, .slice A3 t.f3.length c3, .slice A4 t.f4.length c4] ∧ Kd.C k76 W A3 t.f3.length t.f3 ∧ t.f3.length ≤ c3 ∧ Kd.C k27 W A4 t.f4.length t.f4 ∧ t.f4.length ≤ c4 ∧ Ok27 t := by
 obtain ⟨cs, rfl, hcs⟩ := okWide_struct Try.underlying27 hv
 obtain ⟨t, hK, hO⟩ := opens_param hsz ht hd (opens_of_at opens27_at) h
 obtain ⟨A3, c3, A4, c4, e, l3, g3, l4, g4⟩ := k27_open hK
 refine ⟨t, A3, c3, A4, c4, ?_, g3, l3, g4, l4, hO⟩
 have e' : cs.toList = [.int .i64 t.f0, .int .i64 t.f1, .string t.f2, .slice A3 t.f3.length c3, .slice A4 t.f4.length c4] := e
 rw [← Array.toArray_toList (xs := cs), e']
set_option maxRecDepth 100000 in
theorem open_levels {H : Type} {enc : TypeId × Value → H} {W : World} {base b0 : Nat} {r : Reach} {spare : Nat → Bool} {held : Bool} {v : Value} {d : DataW H} {ps : List MemPlace} {ts : List TypeId} {ds : List (DataW H)} {j : Nat}
  (hsz : (DataW.weightsEach Try.prog ts ds).all (· ≤ reachBytes) = true) (ht : ts[j]? = some 25) (hd : ds[j]? = some d) (hv : Value.okWide Try.prog W r b0 25 v) (h : DataW.Trod enc Try.prog W base spare held 25 v d ps) :
  ∃ (ls : List S76) (A : Option Addr) (c : Nat), v = .slice A ls.length c ∧ Kd.C k76 W A ls.length ls ∧ ls.length ≤ c ∧ (ls.length * 40 ≤ 140737488351232 ∧ ∀ l ∈ ls, Ok76 l) := by
 obtain ⟨A, len, cap, rfl⟩ := okWide_slice Try.underlying25 hv
 obtain ⟨ls, ⟨A', c, e, hlc, hC⟩, hO⟩ := opens_param hsz ht hd (opens_of_at (fun fuel => opens_slice_at (d := k76) (Wf := Ok76) (B := 40) Try.underlying25 (by kernel_rfl) (by kernel_rfl) (fun m _ => opens76_at m))) h
 have e' : ([.slice A len cap] : List Value) = [.slice A' ls.length c] := e
 injection e' with e' _
 injection e' with e1 e2 e3
 subst e1 e2 e3
 exact ⟨ls, _, _, rfl, hC, hlc, hO⟩
end Go.Proofs.Ytpejhapgffcngaa.QK

