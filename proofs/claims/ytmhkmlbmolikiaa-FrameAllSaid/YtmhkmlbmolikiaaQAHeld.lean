/- What the two readers hold between calls; a list whose elements are written over one by one. -/
import Derived.Test.YtmhkmlbmolikiaaQARef
import Derived.Test.YtmhkmlbmolikiaaXTwin
set_option linter.unusedVariables false
set_option linter.unusedSimpArgs false
namespace Go.Proofs.Ytmhkmlbmolikiaa.QA
open Go.RowKit Go.Proofs.YtmhkmlbmolikiaaW.PrintWords Go.Proofs.YtmhkmlbmolikiaaW.PrintLast Go.Proofs.YtmhkmlbmolikiaaW.PrintMore Go.Proofs.Ytmhkmlbmolikiaa.FrameReader Go.Proofs.Ytmhkmlbmolikiaa.FrameMath Go.Proofs.Ytmhkmlbmolikiaa.OctetMath Go.Proofs.Ytmhkmlbmolikiaa.XTwin

/-- The given reader's block and row, and the document's. -/
def Held (g x : Nat) (v va : Value) (rk p : List Int) (e t : Int) (base : Nat) (W : World) : Prop :=
  W.heap[g]? = some (blkOf true v e) ∧ Kd.R (Kd.int .u8) 5 W base (fun _ => True) v rk ∧ W.heap[x]? = some (refOf va t e) ∧ Kd.R (Kd.int .u8) 5 W base (fun k_ => some k_ ≠ v.ownBlock) va p
theorem Held.a1 {g x : Nat} {v va : Value} {rk p : List Int} {e t : Int} {base : Nat} {W : World} (h : Held g x v va rk p e t base W) : W.heap[g]? = some (blkOf true v e) := h.1
theorem Held.a2 {g x : Nat} {v va : Value} {rk p : List Int} {e t : Int} {base : Nat} {W : World} (h : Held g x v va rk p e t base W) : Kd.R (Kd.int .u8) 5 W base (fun _ => True) v rk := h.2.1
theorem Held.a3 {g x : Nat} {v va : Value} {rk p : List Int} {e t : Int} {base : Nat} {W : World} (h : Held g x v va rk p e t base W) : W.heap[x]? = some (refOf va t e) := h.2.2.1
theorem Held.a4 {g x : Nat} {v va : Value} {rk p : List Int} {e t : Int} {base : Nat} {W : World} (h : Held g x v va rk p e t base W) : Kd.R (Kd.int .u8) 5 W base (fun k_ => some k_ ≠ v.ownBlock) va p := h.2.2.2
theorem Held.move {g x : Nat} {v va : Value} {rk p : List Int} {e t : Int} {base : Nat} {W W1 : World} (h : Held g x v va rk p e t base W)
    (hm : ∀ k_, k_ < W.heap.size → (k_ = g ∨ k_ = x ∨ some k_ = v.ownBlock ∨ some k_ = va.ownBlock) → W1.heap[k_]? = W.heap[k_]?) : Held g x v va rk p e t base W1 := by
  obtain ⟨h1, h2, h3, h4⟩ := h
  refine ⟨(hm g (blk_lt h1) (.inl rfl)).trans h1, ?_, (hm x (blk_lt h3) (.inr (.inl rfl))).trans h3, ?_⟩
  · exact Kd.R_mono (Kd.R_step (Kd.R_tight rfl h2) (fun k_ hk_ hlt_ => hm k_ hlt_ (.inr (.inr (.inl hk_))))) (fun _ _ => trivial)
  · exact Kd.R_mono (Kd.R_step (Kd.R_tight rfl h4) (fun k_ hk_ hlt_ => hm k_ hlt_ (.inr (.inr (.inr hk_))))) (fun k_ hk_ => h4.1 k_ hk_.symm)
theorem Held.below {g x : Nat} {v va : Value} {rk p : List Int} {e t : Int} {base : Nat} {W W1 : World} (h : Held g x v va rk p e t base W) (hb : Below W.heap.size W W1) : Held g x v va rk p e t base W1 := h.move (fun k_ hk_ _ => hb.block k_ hk_)
theorem Held.drewN {g x : Nat} {v va : Value} {rk p : List Int} {e t : Int} {base : Nat} {W : World} (h : Held g x v va rk p e t base W) (m : Nat) : Held g x v va rk p e t base (W.drewN m) := h
theorem Held.lts {g x : Nat} {v va : Value} {rk p : List Int} {e t : Int} {base n : Nat} {W : World} (h : Held g x v va rk p e t base W) (hn : W.heap.size ≤ n) :
    g < n ∧ x < n ∧ (∀ k_, v.ownBlock = some k_ → k_ < n) ∧ (∀ k_, va.ownBlock = some k_ → k_ < n) :=
  ⟨Nat.lt_of_lt_of_le (blk_lt h.1) hn, Nat.lt_of_lt_of_le (blk_lt h.2.2.1) hn, fun k_ hk_ => Nat.lt_of_lt_of_le (Kd.R_lt h.2.1 k_ hk_) hn, fun k_ hk_ => Nat.lt_of_lt_of_le (Kd.R_lt h.2.2.2 k_ hk_) hn⟩
theorem Held.waits {g x : Nat} {v va : Value} {rk p : List Int} {e t : Int} {base : Nat} {W : World} (h : Held g x v va rk p e t base W) :
    Calls Try.prog 16 #[.pointer (some ⟨g, 0, none⟩)] W fun en w' => en = .returned (.int .i64 rk.length) ∧ Drawn0 W w' := waits_calls g v e rk base (fun _ => True) W h.1 h.2.1
theorem Held.rwaits {g x : Nat} {v va : Value} {rk p : List Int} {t : Int} {base : Nat} {W : World} {fs : List (List Int)} {r : List Int} {e : Int} (h : Held g x v va rk p (QF.told e) t base W) (hf : Fed p fs r e) (hk : rk = QF.keep r e) (hb : Bytes p) (hl : p.length ≤ 100000000000) :
    Calls Try.prog 17 #[.pointer (some ⟨x, 0, none⟩)] W fun en w' => en = .returned (.int .i64 rk.length) ∧ Below W.heap.size W w' := by
  subst hk
  by_cases h2 : e = 2
  · subst h2
    obtain ⟨a, h3, h4⟩ := read_is hf hb hl
    exact rwaits_calls x va t p _ fs a _ _ base W h.2.2.1 (Kd.R_mono h.2.2.2 (fun _ _ => trivial)) h3 (by rw [wrap64_id (by omega) (by omega), show QF.keep r 2 = r from rfl]; omega)
  · have e1 : QF.told e = e := if_neg h2
    have e2 : QF.keep r e = [] := if_neg h2
    have h5 := h.2.2.1
    rw [e1] at h5
    rw [e2]
    exact rwaits_err x va t e W h5 hf.end_.2
/-- What the document's Put leaves behind, told by what is read. -/
def RefFed (x B : Nat) (z : List Int) (fs gs : List (List Int)) (e : Int) (w : World) (en : Ending) (w' : World) : Prop :=
  ∃ (Ao : Option Addr) (co : Nat) (v' : Value), en = .returned (.tuple #[.slice Ao gs.length co, .int .i64 (QF.told e)]) ∧ gs.length ≤ co ∧ Kd.C (Kd.slice 5 (Kd.int .u8)) w' Ao gs.length gs ∧
      w'.heap[x]? = some (refOf v' ((fs ++ gs).length : Int) (QF.told e)) ∧ Kd.R (Kd.int .u8) 5 w' w.heap.size (fun _ => True) v' z ∧ Below B w w' ∧ (∀ k_, k_ < w.heap.size → k_ ≠ x → w'.heap[k_]? = w.heap[k_]?)
theorem rput_fed (x B : Nat) (v : Value) (p : List Int) (A : Option Addr) (c : Nat) (l : List Int) (fs gs : List (List Int)) (r : List Int) (e : Int) (w : World) (hx : w.heap[x]? = some (refOf v (fs.length : Int) 0)) (hv : Kd.R (Kd.int .u8) 5 w B (fun _ => True) v p) (hB : B ≤ x)
    (hl : Kd.C (Kd.int .u8) w A l.length l) (hc : l.length ≤ c) (hlen : p.length + l.length ≤ 10000000000) (hb : Bytes (p ++ l)) (hf : Fed (p ++ l) (fs ++ gs) r e) :
    Calls Try.prog 13 #[.pointer (some ⟨x, 0, none⟩), .slice A l.length c] w (RefFed x B (p ++ l) fs gs e w) := by
  obtain ⟨a, h3, h4⟩ := read_is hf hb (by rw [List.length_append]; omega)
  refine (rput_calls x B v p A c l (p ++ l) _ (fs ++ gs) a (QF.told e) fs.length w hx hv hB hl hc hlen rfl h3 (by rw [List.length_append]; omega)).mono ?_
  rintro en w' ⟨Ao, co, v', h5, h6, h7, h8⟩
  rw [List.drop_left] at h5 h6 h7
  exact ⟨Ao, co, v', h5, h6, h7, h8⟩
/-- A twin's block is a row of one's own. -/
theorem twin_own {g : Nat} {l : List Int} {W : World} {base : Nat} (hg : W.heap[g]? = some (.cells (nums .u8 (twin l)).toArray 5 (0, 0))) (hb : base ≤ g) (hl : l.length ≤ 140737488351232) :
    Kd.R (Kd.int .u8) 5 W base (fun _ => True) (.slice (some ⟨g, 0, none⟩) l.length (l.length + 3)) l := by
  refine Kd.R_of_own (enc := Value.int .u8) (h1 := fun _ => rfl) ⟨by simp [encs], .inr ⟨g, l.length + 3, _, rfl, hb, hg, by omega, by unfold maxLen; omega, by simp [nums, twin], ?_⟩⟩ (fun _ _ => trivial)
  simp [nums, twin, encs]
/-- Elements from j0 on, each an own row apart from the others. -/
def Elems (A : Option Addr) (ok : Nat → Prop) (f : Nat → Nat) (base : Nat) (W : World) (xs : List (List Int)) (j0 : Nat) : Prop :=
  ∀ j x, j0 ≤ j → xs[j]? = some x → ∃ gl cells v, A = some ⟨gl, 0, none⟩ ∧ ok gl ∧ W.heap[gl]? = some (.cells cells 28 (0, 0)) ∧ W.cell? ⟨gl, j, none⟩ = some v ∧ Kd.R (Kd.int .u8) 5 W base (fun k_ => ok k_ ∧ f k_ = j) v x
theorem Elems.of_S {A : Option Addr} {c : Nat} {ok : Nat → Prop} {base : Nat} {W : World} {xs : List (List Int)} (h : Kd.S (Kd.slice 5 (Kd.int .u8)) 28 W base ok (.slice A xs.length c) xs) : ∃ f, Elems A ok f base W xs 0 := by
  have h' := h
  obtain ⟨f, hf⟩ := h
  refine ⟨f, fun j x _ hx => ?_⟩
  obtain ⟨hjl, hxe⟩ := List.getElem?_eq_some_iff.1 hx
  obtain ⟨gl, cap, hv, _, _, cells, hc⟩ := Kd.S_form h' (by omega)
  injection hv with hv1 hv2 hv3
  subst hv1
  have hzl : xs.zipIdx.length = xs.length := List.length_zipIdx
  obtain ⟨cs, hcl, hM, hcell⟩ := Kd.R_getA hf (([] : List Int), 0) (j : Int) (by omega) (by omega)
  have hz : xs.zipIdx.getD (j : Int).toNat (([] : List Int), 0) = (x, j) := by
    rw [Int.toNat_natCast, List.getD_eq_getElem?_getD, Kd.zip_at hx]
    rfl
  rw [hz] at hM
  obtain ⟨v, hv, hR⟩ := hM
  subst hv
  refine ⟨gl, cells, v, rfl, hf.1 gl rfl, hc, ?_, Kd.R_mono hR (fun k_ hk_ => ⟨hk_.1.1, hk_.2⟩)⟩
  have := hcell 0 v rfl
  rw [add_plain] at this
  simpa [Kd.tag, Kd.slice] using this
theorem Elems.move {A : Option Addr} {ok : Nat → Prop} {f : Nat → Nat} {base : Nat} {W W1 : World} {xs : List (List Int)} {j0 : Nat} (h : Elems A ok f base W xs j0) (hm : ∀ k_, ok k_ → k_ < W.heap.size → W1.heap[k_]? = W.heap[k_]?) : Elems A ok f base W1 xs j0 := by
  intro j x hj hx
  obtain ⟨gl, cells, v, h1, h2, h3, h4, h5⟩ := h j x hj hx
  have h3' := (hm gl h2 (blk_lt h3)).trans h3
  exact ⟨gl, cells, v, h1, h2, h3', by rw [blk_cell h3'] ; rw [blk_cell h3] at h4; exact h4, Kd.R_step h5 (fun k_ hk_ hlt_ => hm k_ hk_.1 hlt_)⟩
theorem Elems.drewN {A : Option Addr} {ok : Nat → Prop} {f : Nat → Nat} {base : Nat} {W : World} {xs : List (List Int)} {j0 : Nat} (h : Elems A ok f base W xs j0) (m : Nat) : Elems A ok f base (W.drewN m) xs j0 := h.move (fun _ _ _ => rfl)
/-- Element j0 is written over: the others are as they were. -/
theorem Elems.spoil {A : Option Addr} {ok : Nat → Prop} {f : Nat → Nat} {base : Nat} {W W1 : World} {xs : List (List Int)} {j0 : Nat} {u : Value} {y : List Int} (h : Elems A ok f base W xs j0) (hu : Kd.R (Kd.int .u8) 5 W base (fun k_ => ok k_ ∧ f k_ = j0) u y)
    (hm : ∀ k_, some k_ ≠ u.ownBlock → k_ < W.heap.size → W1.heap[k_]? = W.heap[k_]?) : Elems A ok f base W1 xs (j0 + 1) := by
  intro j x hj hx
  obtain ⟨gl, cells, v, h1, h2, h3, h4, h5⟩ := h j x (by omega) hx
  have h3' := (hm gl (Kd.R_ne hu h3 (by decide)) (blk_lt h3)).trans h3
  refine ⟨gl, cells, v, h1, h2, h3', by rw [blk_cell h3'] ; rw [blk_cell h3] at h4; exact h4, Kd.R_step h5 (fun k_ hk_ hlt_ => hm k_ (fun e_ => ?_) hlt_)⟩
  have := (hu.1 k_ e_.symm).2
  have := hk_.2
  omega
end Go.Proofs.Ytmhkmlbmolikiaa.QA
