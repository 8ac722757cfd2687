/- A region that draws its order, by one invariant: each operation is carried out once, whatever has come up ahead of it. -/
import Derived.OrdersHeld
import Derived.Deep.RegionHeld3
import Derived.Laws.BitsLemmas
import Derived.RowKit
import Derived.Below
namespace Go.Proofs.YtpejhapgffcngaaI
open Go Go.RowKit
section
variable {P : Program} {ops : Array Oper} {Q : Exit → Act → World → Prop} {md : Region.Mode} {a0 : Act} {ds : List Nat} {Inv : (Nat → Bool) → (Nat → Value) → World → Prop}
def puts (ds : List Nat) (xs : Nat → Value) (a : Act) : Act := ds.foldl (fun a d => a.put (some d) (xs d)) a
def upd (xs : Nat → Value) (o : Option Nat) (v : Value) : Nat → Value := match o with
 | none => xs
 | some d => fun j => if j = d then v else xs j
def updB (D : Nat → Bool) (i : Nat) : Nat → Bool := fun j => if j = i then true else D j
theorem puts_size (xs : Nat → Value) : ∀ (ds : List Nat) (a : Act), (puts ds xs a).tmps.size = a.tmps.size
 | [], a => rfl
 | d :: ds, a => by
  show (puts ds xs (a.put (some d) (xs d))).tmps.size = _
  rw [puts_size xs ds]; simp [Act.put]
theorem puts_defers (xs : Nat → Value) : ∀ (ds : List Nat) (a : Act), (puts ds xs a).defers = a.defers
 | [], a => rfl
 | d :: ds, a => by
  show (puts ds xs (a.put (some d) (xs d))).defers = _
  rw [puts_defers xs ds]; simp [Act.put]
theorem put_size (a : Act) (o : Option Nat) (v : Value) : (a.put o v).tmps.size = a.tmps.size := by cases o <;> simp [Act.put]
theorem puts_get (xs : Nat → Value) (k : Nat) : ∀ (ds : List Nat) (a : Act), k < a.tmps.size → (puts ds xs a).tmps[k]? = if k ∈ ds then some (xs k) else a.tmps[k]?
 | [], a, _ => by simp [puts]
 | d :: ds, a, hk => by
  show (puts ds xs (a.put (some d) (xs d))).tmps[k]? = _
  rw [puts_get xs k ds _ (by simpa [Act.put] using hk)]
  by_cases h : k ∈ ds
  ·rw [if_pos h, if_pos (List.mem_cons_of_mem _ h)]
  rw [if_neg h]
  by_cases hd : k = d
  ·subst hd
   rw [if_pos (List.mem_cons_self ..)]
   simp [Act.put, hk]
  rw [if_neg (by simp [h, hd])]
  simp only [Act.put]
  rw [Array.getElem?_setIfInBounds_ne (Ne.symm hd)]
theorem act_ext {a b : Act} (h : a.tmps = b.tmps) (hd : a.defers = b.defers) : a = b := by
 cases a; cases b; simp at h hd; rw [h, hd]
theorem puts_put {xs : Nat → Value} {o : Option Nat} {v : Value} (h : ∀ d, o = some d → d ∈ ds) (a : Act) : (puts ds xs a).put o v = puts ds (upd xs o v) a := by
 cases o with
 | none => rfl
 | some d =>
  have hd := h d rfl
  refine act_ext (Array.ext_getElem? fun k => ?_) ?_
  ·by_cases hk : k < a.tmps.size
   ·rw [puts_get _ _ _ _ hk]
    simp only [Act.put, upd]
    by_cases hkd : k = d
    rotate_left
    ·rw [Array.getElem?_setIfInBounds_ne (Ne.symm hkd), puts_get _ _ _ _ hk, if_neg hkd]
    subst hkd
    rw [if_pos hd, if_pos rfl, Array.getElem?_setIfInBounds_self, if_pos (by rw [puts_size]; exact hk)]
   ·rw [Array.getElem?_eq_none (by rw [put_size, puts_size]; omega), Array.getElem?_eq_none (by rw [puts_size]; omega)]
  ·rw [puts_defers]
   show (puts ds xs a).defers = _
   rw [puts_defers]
theorem puts_self (ds : List Nat) (a : Act) : puts ds (fun d => a.tmps.getD d undef) a = a := by
 refine act_ext (Array.ext_getElem? fun k => ?_) (puts_defers _ _ _)
 by_cases hk : k < a.tmps.size
 ·rw [puts_get _ _ _ _ hk]
  split
  ·simp [hk]
  ·rfl
 rw [Array.getElem?_eq_none (by rw [puts_size]; omega), Array.getElem?_eq_none (by omega)]
def regB (md : Region.Mode) (ops : Array Oper) (ds : List Nat) : Bool :=
 (List.range ops.size).all fun i => match ops[i]? with
  | some o => (o.after.all fun e => !Region.binds md e || decide (e.on < i)) && (match o.dst with | none => true | some d => ds.contains d)
  | none => true
theorem regB_spec (h : regB md ops ds = true) {i : Nat} {o : Oper} (ho : ops[i]? = some o) : (∀ e ∈ o.after, Region.binds md e = true → e.on < i) ∧ ∀ d, o.dst = some d → d ∈ ds := by
 have hi : i < ops.size := (Array.getElem?_eq_some_iff.1 ho).1
 have h1 := List.all_eq_true.1 h i (List.mem_range.2 hi)
 simp only [ho, Bool.and_eq_true] at h1
 refine ⟨fun e he hb => ?_, fun d hd => ?_⟩
 ·have h2 := Array.all_eq_true_iff_forall_mem.1 h1.1 e he
  simpa [hb] using h2
 ·have h2 := h1.2
  rw [hd] at h2
  simpa using h2
theorem ready_all (h : regB md ops ds = true) {l : Array Bool} (hs : l.size = ops.size) (hr : Region.ready md ops l = []) : ∀ i, i < ops.size → l.getD i false = true := by
 intro i
 induction i using Nat.strongRecOn with
 | _ i ih =>
  intro hi
  cases hl : l.getD i false with
  | true => rfl
  | false =>
   have ho : ops[i]? = some ops[i] := Array.getElem?_eq_getElem hi
   have : i ∈ Region.ready md ops l := mem_ready.2 ⟨by simpa [Array.getD, hs, hi] using hl, _, ho, fun e he hb => ih e.on ((regB_spec h ho).1 e he hb) (Nat.lt_trans ((regB_spec h ho).1 e he hb) hi)⟩
   rw [hr] at this
   cases this
def dep (md : Region.Mode) (o : Oper) (p : Nat) : Bool := o.after.any fun e => Region.binds md e && e.on == p
def Steps (P : Program) (md : Region.Mode) (ops : Array Oper) (Q : Exit → Act → World → Prop) (ds : List Nat) (Inv : (Nat → Bool) → (Nat → Value) → World → Prop) (a0 : Act) (rs : List Nat) : Prop :=
 ∀ i ∈ rs, ∀ o, ops[i]? = some o → ∀ D xs w, Inv D xs w → D i = false → (∀ p, dep md o p = true → D p = true) → wpOp P ops Q i (fun a' w' => ∃ v, a' = (puts ds xs a0).put o.dst v ∧ Inv (updB D i) (upd xs o.dst v) w') (puts ds xs a0) w
theorem inv_any (hc : regB md ops ds = true) (hs : Steps P md ops Q ds Inv a0 (List.range ops.size)) (he : ∀ D xs w, Inv D xs w → (∀ i, i < ops.size → D i = true) → Q .normal (puts ds xs a0) w) :
  ∀ (n : Nat) (l : Array Bool) (xs : Nat → Value) (w : World), l.size = ops.size → ((List.range ops.size).filter fun i => !l.getD i true).length ≤ n → Inv (fun i => l.getD i false) xs w → wpAny P md ops Q n l (puts ds xs a0) w := by
 have hready : ∀ (l : Array Bool) i, i ∈ Region.ready md ops l → i ∈ (List.range ops.size).filter fun i => !l.getD i true := fun l i hi => by
  obtain ⟨h1, o, ho, _⟩ := mem_ready.1 hi
  exact List.mem_filter.2 ⟨List.mem_range.2 (Array.getElem?_eq_some_iff.1 ho).1, by rw [h1]; rfl⟩
 intro n
 induction n with
 | zero =>
  intro l xs w hsz hn hI
  have hnil : Region.ready md ops l = [] := by
   cases hr : Region.ready md ops l with
   | nil => rfl
   | cons i rs =>
    have := hready l i (by rw [hr]; exact List.mem_cons_self ..)
    rw [List.eq_nil_of_length_eq_zero (Nat.le_zero.1 hn)] at this
    cases this
  exact ⟨hnil, he _ _ _ hI (ready_all hc hsz hnil)⟩
 | succ n ih =>
  intro l xs w hsz hn hI
  refine ⟨fun hr => he _ _ _ hI (ready_all hc hsz hr), fun i hi => ?_⟩
  obtain ⟨h1, o, ho, h2⟩ := mem_ready.1 hi
  have hlt : i < ops.size := (Array.getElem?_eq_some_iff.1 ho).1
  have hli : l.getD i false = false := by simpa [Array.getD, hsz, hlt] using h1
  refine wpOp_mono ?_ (hs i (List.mem_range.2 hlt) o ho _ xs w hI hli (fun p hp => ?_))
  ·rintro a' w' ⟨v, rfl, hI'⟩
   rw [puts_put (regB_spec hc ho).2]
   refine ih _ _ _ (by simpa using hsz) ?_ ?_
   ·have hsub : ((List.range ops.size).filter fun j => !(l.setIfInBounds i true).getD j true).length < ((List.range ops.size).filter fun j => !l.getD j true).length := by
     have hf : (List.range ops.size).filter (fun j => !(l.setIfInBounds i true).getD j true) = ((List.range ops.size).filter fun j => !l.getD j true).filter (fun j => j != i) := by
      rw [List.filter_filter]
      refine List.filter_congr fun j hj => ?_
      by_cases hij : i = j
      rotate_left
      ·rw [getD_set_ne true hij]
       have : (j != i) = true := by simpa using (fun e => hij e.symm)
       rw [this]; simp
      subst hij
      have : (l.setIfInBounds i true).getD i true = true := getD_set_true_self (by rw [hsz]; exact hlt)
      rw [this]; simp
     rw [hf]
     refine List.length_filter_lt_length_iff_exists.2 ⟨i, hready l i hi, by simp⟩
    omega
   ·have he : (fun j => (l.setIfInBounds i true).getD j false) = updB (fun j => l.getD j false) i := by
     funext j
     unfold updB
     by_cases hij : i = j
     rotate_left
     ·rw [getD_set_ne false hij, if_neg (fun e => hij e.symm)]
     subst hij
     rw [if_pos rfl]
     simp [Array.getD, hsz, hlt]
    rw [he]
    exact hI'
  ·obtain ⟨e, hem, hb⟩ := Array.any_eq_true'.1 hp
   simp only [Bool.and_eq_true, beq_iff_eq] at hb
   rw [← hb.2]
   exact h2 e hem hb.1
where
 getD_set_true_self {l : Array Bool} {i : Nat} (h : i < l.size) : (l.setIfInBounds i true).getD i true = true := by simp [Array.getD, h]
def StepsL (P : Program) (md : Region.Mode) (ops : Array Oper) (Q : Exit → Act → World → Prop) (ds : List Nat) (Inv : (Nat → Bool) → (Nat → Value) → World → Prop) (a0 : Act) (i : Nat) (os : List Oper) : Prop :=
 ∀ j o, os[j]? = some o → ∀ D xs w, Inv D xs w → D (i + j) = false → (∀ p, dep md o p = true → D p = true) → ∀ K' : Act → World → Prop, Shut (∀ v w', Inv (updB D (i + j)) (upd xs o.dst v) w' → K' ((puts ds xs a0).put o.dst v) w') → if Region.wanted o (yielded ops (puts ds xs a0).tmps) = true then Oper.wp P o (puts ds xs a0) w K' Q else K' ((puts ds xs a0).put o.dst undef) w
theorem StepsL.nil {i : Nat} : StepsL P md ops Q ds Inv a0 i [] := fun j o h => by simp at h
theorem StepsL.cons {i i' : Nat} {o : Oper} {os : List Oper} (hi : i + 1 = i')
  (h : ∀ D xs w, Inv D xs w → D i = false → (∀ p, dep md o p = true → D p = true) → ∀ A, puts ds xs a0 = A → ∀ K' : Act → World → Prop, Shut (∀ v w', Inv (updB D i) (upd xs o.dst v) w' → K' (A.put o.dst v) w') → if Region.wanted o (yielded ops A.tmps) = true then Oper.wp P o A w K' Q else K' (A.put o.dst undef) w)
  (hs : StepsL P md ops Q ds Inv a0 i' os) : StepsL P md ops Q ds Inv a0 i (o :: os) := fun j q hq => by
 cases j with
 | zero =>
  obtain rfl : o = q := by simpa using hq
  exact fun D xs w hI hD hp K' hK => h D xs w hI hD hp _ rfl K' hK
 | succ j =>
  subst hi
  have := hs j q (by simpa using hq)
  rw [Nat.add_assoc, Nat.add_comm 1 j] at this
  exact this
theorem wp_region_inv {id : Nat} {w : World} {os : List Oper} (ds : List Nat) (Inv : (Nat → Bool) → (Nat → Value) → World → Prop) (hm : P.follows .mixedOrders = true) (hc : regB .any os.toArray ds = true)
  (h0 : Inv (fun _ => false) (fun d => a0.tmps.getD d undef) w.drew) (hs : StepsL P .any os.toArray Q ds Inv a0 0 os)
  (he : ∀ D xs w, Inv D xs w → (∀ i, i < os.length → D i = true) → Q .normal (puts ds xs a0) w) : (Code.region id os.toArray true).wp P Q a0 w := by
 refine wp_region_any hm ?_
 have hs' : Steps P .any os.toArray Q ds Inv a0 (List.range os.toArray.size) := fun i hi o ho D xs w hI hD hp => by
  refine wpOp_step ho (fun K' hK => ?_)
  have := hs i o (by simpa using ho) D xs w hI (by rw [Nat.zero_add]; exact hD) hp K' (by rw [Nat.zero_add]; exact fun v w' hv => hK _ _ ⟨v, rfl, hv⟩)
  exact this
 have h := inv_any hc hs' (fun D xs w hI hD => he D xs w hI (by simpa using hD)) os.toArray.size (Array.replicate os.toArray.size false) (fun d => a0.tmps.getD d undef) w.drew (by simp) (Nat.le_trans (List.length_filter_le ..) (by simp)) (by
  have : (fun i => (Array.replicate os.toArray.size false).getD i false) = fun _ => false := by
   funext i
   simp only [Array.getD]
   split <;> simp
  rw [this]; exact h0)
 rw [puts_self] at h
 exact h
end
abbrev Span := Nat × Nat
def Same (w w' : World) (p : Span) : Prop := ∀ k, p.1 ≤ k → k < p.2 → w'.heap[k]? = w.heap[k]?
structure Own (b : Nat) (w : World) (I : Nat → Span) : Prop where
 ge : ∀ i, b ≤ (I i).1
 lo : ∀ i, (I i).1 ≤ (I i).2
 le : ∀ i, (I i).2 ≤ w.heap.size
 ap : ∀ i j, i ≠ j → (I i).2 ≤ (I j).1 ∨ (I j).2 ≤ (I i).1
def updI (I : Nat → Span) (i : Nat) (p : Span) : Nat → Span := fun j => if j = i then p else I j
theorem Own.grow {b : Nat} {w w' : World} {I : Nat → Span} (h : Own b w I) (hs : w.heap.size ≤ w'.heap.size) : Own b w' I := ⟨h.ge, h.lo, fun i => Nat.le_trans (h.le i) hs, h.ap⟩
theorem Own.new {b : Nat} {w w' : World} {I : Nat → Span} (h : Own b w I) (hb : b ≤ w.heap.size) (i : Nat) {p : Span} (h1 : w.heap.size ≤ p.1) (h2 : p.2 ≤ w'.heap.size) (hs : w.heap.size ≤ w'.heap.size) (h3 : p.1 ≤ p.2) : Own b w' (updI I i p) := by
 refine ⟨fun j => ?_, fun j => ?_, fun j => ?_, fun j k hjk => ?_⟩
 ·unfold updI; split
  ·exact Nat.le_trans hb h1
  ·exact h.ge j
 ·unfold updI; split
  ·exact h3
  ·exact h.lo j
 ·unfold updI; split
  ·exact h2
  ·exact Nat.le_trans (h.le j) hs
 ·unfold updI; split
  ·split
   ·omega
   ·exact Or.inr (Nat.le_trans (h.le k) h1)
  ·split
   ·exact Or.inl (Nat.le_trans (h.le j) h1)
   ·exact h.ap j k hjk
theorem Own.same {b : Nat} {w w' : World} {I : Nat → Span} (h : Own b w I) (hb : Below w.heap.size w w') (i : Nat) : Same w w' (I i) := fun k _ h1 => hb.block k (Nat.lt_of_lt_of_le h1 (h.le i))
theorem Own.apart {b : Nat} {w w' : World} {I : Nat → Span} (h : Own b w I) (j : Nat) (hc : ∀ k, k < w.heap.size → ¬ ((I j).1 ≤ k ∧ k < (I j).2) → w'.heap[k]? = w.heap[k]?) (i : Nat) (hij : i ≠ j) : Same w w' (I i) := fun k h0 h1 => by
 refine hc k (Nat.lt_of_lt_of_le h1 (h.le i)) (fun hk => ?_)
 rcases h.ap i j hij with h2 | h2 <;> omega
theorem Own.base {b b0 : Nat} {w w' : World} {I : Nat → Span} (h : Own b w I) (hb0 : b0 ≤ b) (j : Nat) (ho : w'.os = w.os) (ht : w'.tape = w.tape) (hu : w'.output = w.output) (hs : w.heap.size ≤ w'.heap.size) (hbw : b0 ≤ w.heap.size) (hc : ∀ k, k < w.heap.size → ¬ ((I j).1 ≤ k ∧ k < (I j).2) → w'.heap[k]? = w.heap[k]?) : Below b0 w w' :=
 ⟨ho, ht, hu, hs, fun k hk => hc k (Nat.lt_of_lt_of_le hk hbw) (fun h1 => by have := h.ge j; omega)⟩
theorem Same.trans {w w1 w2 : World} {p : Span} (h : Same w w1 p) (k : Same w1 w2 p) : Same w w2 p := fun i h0 h1 => (k i h0 h1).trans (h i h0 h1)
def Held (w : World) (p : Span) (F : World → Prop) : Prop := ∀ W, Same w W p → F W
theorem Held.move {w w' : World} {p : Span} {F : World → Prop} (h : Held w p F) (hs : Same w w' p) : Held w' p F := fun W hW => h W (hs.trans hW)
theorem Held.now {w : World} {p : Span} {F : World → Prop} (h : Held w p F) : F w := h w (fun _ _ _ => rfl)
end Go.Proofs.YtpejhapgffcngaaI

