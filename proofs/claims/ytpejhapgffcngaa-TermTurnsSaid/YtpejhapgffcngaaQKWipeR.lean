/- A result of the call's own may be wiped. -/
import Derived.Test.YtpejhapgffcngaaXShort
import Derived.Test.YtpejhapgffcngaaQKTree
import Derived.Test.YtpejhapgffcngaaQKx12
import Derived.Test.YtpejhapgffcngaaQKWipe0
set_option linter.unusedVariables false
set_option linter.unusedSimpArgs false
namespace Go.Proofs.Ytpejhapgffcngaa.QK
open Go.RowKit Go.Proofs.YtpejhapgffcngaaW.PrintWords Go.Proofs.YtpejhapgffcngaaW.PrintLast Go.Proofs.YtpejhapgffcngaaW.PrintMore
theorem partB_true {k n : Int} {nm : ByteArray} {ll la : Nat} (h : partB k n nm ll la = true) : (k = 0 → la = 0) ∧ 0 ≤ n ∧ n ≤ 1073741824 ∧ la ≤ 3 := by
 unfold partB at h
 by_cases h1 : argsI k = (la : Int)
 rotate_left
 ·rw [if_pos h1] at h; cases h
 rw [if_neg (by simpa using h1)] at h
 have hla : la ≤ 3 := by unfold argsI at h1; (repeat' split at h1) <;> omega
 by_cases hk : k = 0
 ·subst hk
  have : la = 0 := by unfold argsI at h1; simp at h1; omega
  rw [if_pos rfl] at h
  by_cases hn : n < 0
  ·rw [if_pos hn] at h; cases h
  rw [if_neg hn] at h
  by_cases hn2 : 1073741824 < n
  ·rw [if_pos hn2] at h; cases h
  exact ⟨fun _ => this, by omega, by omega, hla⟩
 rw [if_neg hk] at h
 by_cases hn : n = 0
 rotate_left
 ·rw [if_pos hn] at h; cases h
 exact ⟨fun e => absurd e hk, by omega, by omega, hla⟩
theorem Ok27.parts {t : S27} (h : Ok27 t) : t.f3.length * 40 ≤ 140737488351232 ∧ (∀ l ∈ t.f3, Ok76 l) ∧ t.f4.length * 80 ≤ 140737488351232 ∧ (∀ a ∈ t.f4, Ok27 a) := by
 cases h with
 | mk w0 w1 h2 h3 hl h4 hs => exact ⟨h3, hl, h4, hs⟩
theorem whole_loop {t : S27} (hlen : t.f4.length * 80 ≤ 140737488351232) (ih : ∀ a ∈ t.f4, ∀ left : Int, 0 ≤ left → left ≤ 1073741824 → ∃ r : Int × Bool, Ev (fun k => touchstoneref5_Whole.f k a.f0 a.f1 a.f2 a.f3 a.f4 left) r ∧ (r.2 = true → WhB 1073741824 a ∧ r.1 + szT a = left ∧ 0 ≤ r.1)) :
  ∀ d (i : Nat) (left : Int), t.f4.length - i = d → i ≤ t.f4.length → 0 ≤ left → left ≤ 1073741824 → ∃ r : Int × Bool, Ev (fun k => touchstoneref5_Whole.l0 k left (i : Int) t.f0 t.f1 t.f2 t.f3 t.f4) r ∧ (r.2 = true → (∀ a ∈ t.f4.drop i, WhB 1073741824 a) ∧ r.1 + szL (t.f4.drop i) = left ∧ 0 ≤ r.1) := by
 intro d
 induction d with
 | zero =>
  intro i left hd hi h0 h1
  have e : t.f4.drop i = [] := List.drop_eq_nil_of_le (by omega)
  refine ⟨(left, true), Ev.step (f := fun k => some (left, true)) (fun k => ?_) (Ev.now _), fun _ => ?_⟩
  ·simp only [touchstoneref5_Whole.l0]
   rw [if_neg (nlti (by omega))]
  ·rw [e, szL]
   exact ⟨fun a ha => (by cases ha), by simp, h0⟩
 | succ d ihd =>
  intro i left hd hi h0 h1
  have hlt : i < t.f4.length := by omega
  obtain ⟨r, hr, hr2⟩ := ih _ (List.getElem_mem hlt) left h0 h1
  have hw : wrap64 ((i : Int) + 1) = ((i + 1 : Nat) : Int) := wri hlt (by omega)
  have step : ∀ k, touchstoneref5_Whole.l0 (k + 1) left (i : Int) t.f0 t.f1 t.f2 t.f3 t.f4 = (touchstoneref5_Whole.f k (t.f4[i]).f0 (t.f4[i]).f1 (t.f4[i]).f2 (t.f4[i]).f3 (t.f4[i]).f4 left).bind fun q => if q.2 = true then touchstoneref5_Whole.l0 k q.1 ((i + 1 : Nat) : Int) t.f0 t.f1 t.f2 t.f3 t.f4 else some (-1, false) := by
   intro k
   simp only [touchstoneref5_Whole.l0]
   rw [if_pos (lti hlt), if_pos (Int.natCast_nonneg i), rd27 hlt, hw]
  obtain ⟨left', b⟩ := r
  cases b with
  | false => exact ⟨(-1, false), Ev.step step (Ev.bind hr (Ev.now _)), fun h => by cases h⟩
  | true =>
   obtain ⟨ha, hs, hp⟩ := hr2 rfl
   have hs' : left' + szT t.f4[i] = left := hs
   have hp' : 0 ≤ left' := hp
   obtain ⟨q, hq, hq2⟩ := ihd (i + 1) left' (by omega) (by omega) hp' (by omega)
   refine ⟨q, Ev.step step (Ev.bind hr (by simpa using hq)), fun h => ?_⟩
   obtain ⟨hA, hS, hP⟩ := hq2 h
   rw [drop_get hlt, szL]
   refine ⟨fun a hm => ?_, by omega, hP⟩
   rcases List.mem_cons.1 hm with rfl | hm
   ·exact ha
   ·exact hA a hm
theorem whole_is {t : S27} (h : Ok27 t) : ∀ left : Int, 0 ≤ left → left ≤ 1073741824 → ∃ r : Int × Bool, Ev (fun k => touchstoneref5_Whole.f k t.f0 t.f1 t.f2 t.f3 t.f4 left) r ∧ (r.2 = true → WhB 1073741824 t ∧ r.1 + szT t = left ∧ 0 ≤ r.1) := by
 induction h with
 | mk w0 w1 h2 h3 hl h4 hs ih =>
  rename_i t
  intro left hl0 hl1
  have hw : wrap64 (left - 1) = left - 1 := wr (by omega) (by omega)
  by_cases hneg : left - 1 < 0
  ·refine ⟨(-1, false), Ev.step (f := fun k => touchstoneref5_Whole.j0 k (left - 1) true t.f0 t.f1 t.f2 t.f3 t.f4) (fun k => ?_) (Ev.step (f := fun k => some (-1, false)) (fun k => ?_) (Ev.now _)), fun e => by cases e⟩
   ·simp only [touchstoneref5_Whole.f]; rw [hw, if_pos hneg]
   ·simp only [touchstoneref5_Whole.j0]; rw [if_pos trivial]
  have st : ∀ k, touchstoneref5_Whole.f (k + 1) t.f0 t.f1 t.f2 t.f3 t.f4 left = touchstoneref5_Whole.j0 k (left - 1) (!partB t.f0 t.f1 t.f2 t.f3.length t.f4.length) t.f0 t.f1 t.f2 t.f3 t.f4 := by
   intro k
   simp only [touchstoneref5_Whole.f]; rw [hw, if_neg hneg]; rfl
  cases hp : partB t.f0 t.f1 t.f2 t.f3.length t.f4.length
  ·refine ⟨(-1, false), Ev.step st (Ev.step (f := fun k => some (-1, false)) (fun k => ?_) (Ev.now _)), fun e => by cases e⟩
   simp only [touchstoneref5_Whole.j0, hp]; rw [if_pos (by rfl)]
  ·obtain ⟨p0, p1, p2, p3⟩ := partB_true hp
   obtain ⟨r, hr, hr2⟩ := whole_loop h4 ih t.f4.length 0 (left - 1) (by omega) (by omega) (by omega) (by omega)
   refine ⟨r, Ev.step st (Ev.step (f := fun k => touchstoneref5_Whole.l0 k (left - 1) 0 t.f0 t.f1 t.f2 t.f3 t.f4) (fun k => ?_) (by simpa using hr)), fun e => ?_⟩
   ·simp only [touchstoneref5_Whole.j0, hp]; rw [if_neg (by decide)]
   ·obtain ⟨hA, hS, hP⟩ := hr2 e
    rw [List.drop_zero] at hA hS
    refine ⟨.mk (fun e0 => List.eq_nil_of_length_eq_zero (p0 e0)) p1 p2 h3 hl p3 hA, ?_, hP⟩
    rw [sz_mk]; omega
theorem light_is {t : S27} (h : Ok27 t) (most : Int) (h0 : 0 ≤ most) (h1 : most ≤ 1073741824) : ∃ b, Ev (fun k => touchstonelaw5_Light.f k t.f0 t.f1 t.f2 t.f3 t.f4 most) b ∧ (b = true → WhB 1073741824 t ∧ szT t ≤ most) := by
 obtain ⟨r, hr, hr2⟩ := whole_is h most h0 h1
 refine ⟨r.2, Ev.bind hr (Ev.now _), fun e => ?_⟩
 obtain ⟨a, b, c⟩ := hr2 e
 exact ⟨a, by omega⟩
theorem WhB.more {B B' : Int} {t : S27} (h : WhB B t) (hB : B ≤ B') : WhB B' t := by
 induction h with
 | mk h0 h1 h2 h3 hl h4 hs ih => exact .mk h0 h1 (by omega) h3 hl h4 ih
theorem liL_mem {b fr kd inn : Int} {x : S27} : ∀ (ar : List S27) (i : Nat), x ∈ liL b fr kd i ar inn → ∃ a ∈ ar, ∃ j, x = liT b fr a (inn + bn kd j)
 | [], i, h => by rw [liL_nil] at h; cases h
 | a :: ar, i, h => by
  rw [liL_cons] at h
  rcases List.mem_cons.1 h with rfl | h
  ·exact ⟨a, List.mem_cons_self, i, rfl⟩
  ·obtain ⟨c, hc, j, e⟩ := liL_mem ar (i + 1) h
   exact ⟨c, List.mem_cons_of_mem _ hc, j, e⟩
theorem lift_wh {b fr B : Int} (hb : 0 ≤ b) {t : S27} (h : WhB B t) : ∀ inn, WhB (B + b) (liT b fr t inn) := by
 induction h with
 | mk h0 h1 h2 h3 hl h4 hs ih =>
  rename_i t
  intro inn
  rw [liT_mk]
  refine .mk (fun e => ?_) ?_ ?_ h3 hl ?_ ?_
  ·show liL b fr t.f0 0 t.f4 inn = []
   rw [h0 e, liL_nil]
  ·show 0 ≤ (if t.f0 = 0 then (if t.f1 - inn ≥ fr then t.f1 + b else t.f1) else t.f1)
   (repeat' split) <;> omega
  ·show (if t.f0 = 0 then (if t.f1 - inn ≥ fr then t.f1 + b else t.f1) else t.f1) ≤ B + b
   (repeat' split) <;> omega
  ·show (liL b fr t.f0 0 t.f4 inn).length ≤ 3
   rw [liL_len]; exact h4
  ·intro a ha
   obtain ⟨c, hc, j, rfl⟩ := liL_mem _ _ ha
   exact ih c hc _
theorem lift_liftL {n m f : Int} : ∀ (ar : List S27), (∀ a ∈ ar, ∀ j, liT m f (liT n f a j) j = liT (n + m) f a j) → ∀ kd i inn, liL m f kd i (liL n f kd i ar inn) inn = liL (n + m) f kd i ar inn
 | [], _, kd, i, inn => by rw [liL_nil, liL_nil, liL_nil]
 | a :: ar, h, kd, i, inn => by rw [liL_cons, liL_cons, liL_cons, h a List.mem_cons_self, lift_liftL ar (fun c hc => h c (List.mem_cons_of_mem _ hc))]
theorem lift_lift {n m f : Int} (hn : 0 ≤ n) {B : Int} {t : S27} (h : WhB B t) : ∀ inn, liT m f (liT n f t inn) inn = liT (n + m) f t inn := by
 induction h with
 | mk h0 h1 h2 h3 hl h4 hs ih =>
  rename_i t
  intro inn
  rw [liT_mk n f t inn, liT_mk, liT_mk (n + m)]
  simp only [lift_liftL t.f4 ih]
  by_cases hk : t.f0 = 0
  rotate_left
  ·simp only [if_neg hk]
  simp only [if_pos hk]
  by_cases hc : t.f1 - inn ≥ f
  rotate_left
  ·simp only [if_neg hc]
  simp only [if_pos hc]
  rw [if_pos (by omega), show t.f1 + n + m = t.f1 + (n + m) by omega]
end Go.Proofs.Ytpejhapgffcngaa.QK

set_option linter.unusedVariables false
set_option linter.unusedSimpArgs false
namespace Go.Proofs.Ytpejhapgffcngaa.QK
open Go.RowKit Go.Proofs.YtpejhapgffcngaaW.PrintWords Go.Proofs.YtpejhapgffcngaaW.PrintLast Go.Proofs.YtpejhapgffcngaaW.PrintMore
theorem LG.of_R {w : World} {b : Nat} {ok : Nat → Prop} {v : Value} {xs : List S76} (h : Kd.R k76 76 w b ok v xs) (hl : xs.length ≤ 4398046511104) : LG w b w.heap.size v := by
 obtain ⟨_, inner, ho, hr⟩ := h
 have hsz : k76.sz = 3 := rfl
 rcases ho.2 with ⟨hv, _⟩ | ⟨g, cap, cur, hv, hb, hh, hnc, hcm, hcs, ht⟩
 ·exact Or.inl ⟨none, 0, hv⟩
 ·rw [hsz] at hcs
  exact Or.inr ⟨g, xs.length, cap, cur, hv, ⟨hb, blk_lt hh⟩, hh, by rw [hcs]; exact Nat.mul_le_mul_right _ hnc, hl⟩
def dR (n : Nat) : Kd S27 := Kd.upto F27 5 [27, 76] n
theorem dR_sz (n : Nat) : (dR n).sz = 5 := sz27 n
theorem dR_open {n : Nat} {w : World} {base : Nat} {ok : Nat → Prop} {x : S27} {cs : List Value} (h : (dR (n + 1)).M w base ok x cs) : ∃ v3 v4 ok3 ok4, cs = [.int .i64 x.f0, .int .i64 x.f1, .string x.f2, v3, v4] ∧ Kd.R k76 76 w base ok3 v3 x.f3 ∧ Kd.R (dR n) 27 w base ok4 v4 x.f4 := by
 obtain ⟨_, _, rfl, rfl, ⟨_, _, rfl, rfl, ⟨_, _, rfl, rfl, ⟨_, _, rfl, ⟨v3, rfl, g3⟩, ⟨v4, rfl, g4⟩⟩⟩⟩⟩ := h
 exact ⟨v3, v4, _, _, rfl, g3, g4⟩
theorem TG.of_R {w : World} {b : Nat} {B : Int} : ∀ (n : Nat) (ok : Nat → Prop) (v : Value) (xs : List S27), (∀ x ∈ xs, WhB B x) → xs.length ≤ 4398046511104 → Kd.R (dR n) 27 w b ok v xs → TG w b w.heap.size n v
 | 0, ok, v, xs, hw, hl, h => by
  obtain ⟨A, c, rfl⟩ := Kd.R_slice h
  cases xs with
  | nil => exact ⟨A, c, rfl⟩
  | cons x xs =>
   obtain ⟨_, inner, ho, hr⟩ := h
   exact (hr.2 0 x rfl).elim
 | n + 1, ok, v, xs, hw, hl, h => by
  have h2 := h
  obtain ⟨_, inner, ho, hr⟩ := h2
  rcases ho.2 with ⟨hv, _⟩ | ⟨g, cap, cur, hv, hb, hh, hnc, hcm, hcs, ht⟩
  ·exact Or.inl ⟨none, 0, hv⟩
  ·rw [dR_sz] at hcs
   subst hv
   refine Or.inr ⟨g, xs.length, cap, cur, rfl, ⟨hb, blk_lt hh⟩, hh, ⟨by rw [hcs]; exact Nat.mul_le_mul_right _ hnc, hl⟩, fun i hi => ?_⟩
   obtain ⟨c, hcl, hM, hcc, _⟩ := Kd.R_elem h z27 (i : Int) (Int.natCast_nonneg i) (by omega)
   rw [dR_sz] at hcc
   rw [Int.toNat_natCast] at hM hcc
   have hmem : xs.getD i z27 ∈ xs := by rw [List.getD_eq_getElem?_getD, List.getElem?_eq_getElem hi]; exact List.getElem_mem _
   obtain ⟨_, _, _, w3, _, w4, ws⟩ := (hw _ hmem).parts
   obtain ⟨v3, v4, ok3, ok4, rfl, g3, g4⟩ := dR_open hM
   have hc : ∀ j u, ([.int .i64 (xs.getD i z27).f0, .int .i64 (xs.getD i z27).f1, .string (xs.getD i z27).f2, v3, v4] : List Value)[j]? = some u → cur[i * 5 + j]? = some u := fun j u hu => (blk_cell hh _).symm.trans (hcc j u hu)
   exact ⟨_, _, _, v3, v4, hc 0 _ rfl, hc 1 _ rfl, hc 2 _ rfl, hc 3 _ rfl, hc 4 _ rfl, LG.of_R g3 (by omega), TG.of_R n ok4 v4 _ ws (by omega) g4⟩
theorem dR_up : ∀ (n : Nat) (w : World) (base : Nat) (ok : Nat → Prop) (x : S27) (cs : List Value), (dR n).M w base ok x cs → (dR (n + 1)).M w base ok x cs
 | 0, _, _, _, _, _, h => h.elim
 | n + 1, w, base, ok, x, cs, h => by
  obtain ⟨_, _, rfl, rfl, ⟨_, _, rfl, rfl, ⟨_, _, rfl, rfl, ⟨_, _, rfl, ⟨v3, rfl, g3⟩, ⟨v4, rfl, g4⟩⟩⟩⟩⟩ := h
  exact ⟨_, _, rfl, rfl, ⟨_, _, rfl, rfl, ⟨_, _, rfl, rfl, ⟨_, _, rfl, ⟨v3, rfl, g3⟩, ⟨v4, rfl, Kd.R_imp (d := dR n) (d' := dR (n + 1)) (by rw [dR_sz, dR_sz]) (fun w base ok x cs h => dR_up n w base ok x cs h) g4⟩⟩⟩⟩⟩
theorem dR_le {n m : Nat} (h : n ≤ m) {w : World} {base : Nat} {ok : Nat → Prop} {x : S27} {cs : List Value} (hM : (dR n).M w base ok x cs) : (dR m).M w base ok x cs := by
 induction h with
 | refl => exact hM
 | step _ ih => exact dR_up _ _ _ _ _ _ ih
theorem k27_depth {w : World} {base : Nat} {ok : Nat → Prop} {v : Value} {xs : List S27} (h : Kd.R k27 27 w base ok v xs) : ∃ n, Kd.R (dR n) 27 w base ok v xs := by
 obtain ⟨h0, inner, ho, hr⟩ := h
 have hlen := hr.1
 obtain ⟨N, hN⟩ := max_of (P := fun j n => ∀ p, xs[j]? = some p → (dR n).M w base (fun k => ok k ∧ some k ≠ v.ownBlock) p ((inner.drop (j * 5)).take 5))
  (fun j n m hnm hP p hp => dR_le hnm (hP p hp)) xs.length (fun j hj => by
   obtain ⟨n, hn⟩ := hr.2 j _ (List.getElem?_eq_getElem hj)
   exact ⟨n, fun p hp => by rw [List.getElem?_eq_getElem hj] at hp; obtain rfl := Option.some.inj hp; exact hn⟩)
 refine ⟨N, h0, inner, by rw [dR_sz]; exact ho, by rw [dR_sz]; exact hlen, fun j p hj => ?_⟩
 rw [dR_sz]
 exact hN j (List.getElem?_eq_some_iff.1 hj).1 p hj
theorem wipe_may {w : World} {b : Nat} {ok : Nat → Prop} {v : Value} {B : Int} {x : S27} (hw : WhB B x) (h : Kd.R k27 27 w b ok v x.f4) : ∃ m, TG w b w.heap.size m v := by
 obtain ⟨n, h⟩ := k27_depth h
 obtain ⟨_, _, _, w3, _, w4, ws⟩ := hw.parts
 exact ⟨n, TG.of_R n ok v _ ws (by omega) h⟩
end Go.Proofs.Ytpejhapgffcngaa.QK

