/- Terms as trees: which are whole, and the laws of lifting and putting. -/
import Derived.Test.YtpejhapgffcngaaQKTree
import Derived.Test.YtpejhapgffcngaaQKx9
import Derived.Test.YtpejhapgffcngaaQKx10
set_option linter.unusedVariables false
set_option linter.unusedSimpArgs false
namespace Go.Proofs.Ytpejhapgffcngaa.QK
open Go.RowKit Go.Proofs.YtpejhapgffcngaaW.PrintWords Go.Proofs.YtpejhapgffcngaaW.PrintLast Go.Proofs.YtpejhapgffcngaaW.PrintMore
theorem partB_true {k n : Int} {nm : ByteArray} {ll la : Nat} (h : partB k n nm ll la = true) : (k = 0 → la = 0) ∧ 0 ≤ n ∧ n ≤ 1073741824 ∧ la ≤ 3 := by
 unfold partB at h
 by_cases h1 : argsI k = (la : Int)
 rotate_left
 ·rw [if_pos h1] at h; cases h
 rw [if_neg (by simpa using h1)] at h
 have hla : la ≤ 3 := by unfold argsI at h1; (repeat' split at h1) <;> omega
 by_cases hk : k = 0
 ·subst hk
  have : la = 0 := by unfold argsI at h1; simp at h1; omega
  rw [if_pos rfl] at h
  by_cases hn : n < 0
  ·rw [if_pos hn] at h; cases h
  rw [if_neg hn] at h
  by_cases hn2 : 1073741824 < n
  ·rw [if_pos hn2] at h; cases h
  exact ⟨fun _ => this, by omega, by omega, hla⟩
 rw [if_neg hk] at h
 by_cases hn : n = 0
 rotate_left
 ·rw [if_pos hn] at h; cases h
 exact ⟨fun e => absurd e hk, by omega, by omega, hla⟩
theorem Ok27.parts {t : S27} (h : Ok27 t) : t.f3.length * 40 ≤ 140737488351232 ∧ (∀ l ∈ t.f3, Ok76 l) ∧ t.f4.length * 80 ≤ 140737488351232 ∧ (∀ a ∈ t.f4, Ok27 a) := by
 cases h with
 | mk w0 w1 h2 h3 hl h4 hs => exact ⟨h3, hl, h4, hs⟩
theorem whole_loop {t : S27} (hlen : t.f4.length * 80 ≤ 140737488351232) (ih : ∀ a ∈ t.f4, ∀ left : Int, 0 ≤ left → left ≤ 1073741824 → ∃ r : Int × Bool, Ev (fun k => touchstoneref5_Whole.f k a.f0 a.f1 a.f2 a.f3 a.f4 left) r ∧ (r.2 = true → WhB 1073741824 a ∧ r.1 + szT a = left ∧ 0 ≤ r.1)) :
  ∀ d (i : Nat) (left : Int), t.f4.length - i = d → i ≤ t.f4.length → 0 ≤ left → left ≤ 1073741824 → ∃ r : Int × Bool, Ev (fun k => touchstoneref5_Whole.l0 k left (i : Int) t.f0 t.f1 t.f2 t.f3 t.f4) r ∧ (r.2 = true → (∀ a ∈ t.f4.drop i, WhB 1073741824 a) ∧ r.1 + szL (t.f4.drop i) = left ∧ 0 ≤ r.1) := by
 intro d
 induction d with
 | zero =>
  intro i left hd hi h0 h1
  have e : t.f4.drop i = [] := List.drop_eq_nil_of_le (by omega)
  refine ⟨(left, true), Ev.step (f := fun k => some (left, true)) (fun k => ?_) (Ev.now _), fun _ => ?_⟩
  ·simp only [touchstoneref5_Whole.l0]
   rw [if_neg (nlti (by omega))]
  ·rw [e, szL]
   exact ⟨fun a ha => (by cases ha), by simp, h0⟩
 | succ d ihd =>
  intro i left hd hi h0 h1
  have hlt : i < t.f4.length := by omega
  obtain ⟨r, hr, hr2⟩ := ih _ (List.getElem_mem hlt) left h0 h1
  have hw : wrap64 ((i : Int) + 1) = ((i + 1 : Nat) : Int) := wri hlt (by omega)
  have step : ∀ k, touchstoneref5_Whole.l0 (k + 1) left (i : Int) t.f0 t.f1 t.f2 t.f3 t.f4 = (touchstoneref5_Whole.f k (t.f4[i]).f0 (t.f4[i]).f1 (t.f4[i]).f2 (t.f4[i]).f3 (t.f4[i]).f4 left).bind fun q => if q.2 = true then touchstoneref5_Whole.l0 k q.1 ((i + 1 : Nat) : Int) t.f0 t.f1 t.f2 t.f3 t.f4 else some (-1, false) := by
   intro k
   simp only [touchstoneref5_Whole.l0]
   rw [if_pos (lti hlt), if_pos (Int.natCast_nonneg i), rd27 hlt, hw]
  obtain ⟨left', b⟩ := r
  cases b with
  | false => exact ⟨(-1, false), Ev.step step (Ev.bind hr (Ev.now _)), fun h => by cases h⟩
  | true =>
   obtain ⟨ha, hs, hp⟩ := hr2 rfl
   have hs' : left' + szT t.f4[i] = left := hs
   have hp' : 0 ≤ left' := hp
   obtain ⟨q, hq, hq2⟩ := ihd (i + 1) left' (by omega) (by omega) hp' (by omega)
   refine ⟨q, Ev.step step (Ev.bind hr (by simpa using hq)), fun h => ?_⟩
   obtain ⟨hA, hS, hP⟩ := hq2 h
   rw [drop_get hlt, szL]
   refine ⟨fun a hm => ?_, by omega, hP⟩
   rcases List.mem_cons.1 hm with rfl | hm
   ·exact ha
   ·exact hA a hm
theorem whole_is {t : S27} (h : Ok27 t) : ∀ left : Int, 0 ≤ left → left ≤ 1073741824 → ∃ r : Int × Bool, Ev (fun k => touchstoneref5_Whole.f k t.f0 t.f1 t.f2 t.f3 t.f4 left) r ∧ (r.2 = true → WhB 1073741824 t ∧ r.1 + szT t = left ∧ 0 ≤ r.1) := by
 induction h with
 | mk w0 w1 h2 h3 hl h4 hs ih =>
  rename_i t
  intro left hl0 hl1
  have hw : wrap64 (left - 1) = left - 1 := wr (by omega) (by omega)
  by_cases hneg : left - 1 < 0
  ·refine ⟨(-1, false), Ev.step (f := fun k => touchstoneref5_Whole.j0 k (left - 1) true t.f0 t.f1 t.f2 t.f3 t.f4) (fun k => ?_) (Ev.step (f := fun k => some (-1, false)) (fun k => ?_) (Ev.now _)), fun e => by cases e⟩
   ·simp only [touchstoneref5_Whole.f]; rw [hw, if_pos hneg]
   ·simp only [touchstoneref5_Whole.j0]; rw [if_pos trivial]
  have st : ∀ k, touchstoneref5_Whole.f (k + 1) t.f0 t.f1 t.f2 t.f3 t.f4 left = touchstoneref5_Whole.j0 k (left - 1) (!partB t.f0 t.f1 t.f2 t.f3.length t.f4.length) t.f0 t.f1 t.f2 t.f3 t.f4 := by
   intro k
   simp only [touchstoneref5_Whole.f]; rw [hw, if_neg hneg]; rfl
  cases hp : partB t.f0 t.f1 t.f2 t.f3.length t.f4.length
  ·refine ⟨(-1, false), Ev.step st (Ev.step (f := fun k => some (-1, false)) (fun k => ?_) (Ev.now _)), fun e => by cases e⟩
   simp only [touchstoneref5_Whole.j0, hp]; rw [if_pos (by rfl)]
  ·obtain ⟨p0, p1, p2, p3⟩ := partB_true hp
   obtain ⟨r, hr, hr2⟩ := whole_loop h4 ih t.f4.length 0 (left - 1) (by omega) (by omega) (by omega) (by omega)
   refine ⟨r, Ev.step st (Ev.step (f := fun k => touchstoneref5_Whole.l0 k (left - 1) 0 t.f0 t.f1 t.f2 t.f3 t.f4) (fun k => ?_) (by simpa using hr)), fun e => ?_⟩
   ·simp only [touchstoneref5_Whole.j0, hp]; rw [if_neg (by decide)]
   ·obtain ⟨hA, hS, hP⟩ := hr2 e
    rw [List.drop_zero] at hA hS
    refine ⟨.mk (fun e0 => List.eq_nil_of_length_eq_zero (p0 e0)) p1 p2 h3 hl p3 hA, ?_, hP⟩
    rw [sz_mk]; omega
theorem light_is {t : S27} (h : Ok27 t) (most : Int) (h0 : 0 ≤ most) (h1 : most ≤ 1073741824) : ∃ b, Ev (fun k => touchstonelaw5_Light.f k t.f0 t.f1 t.f2 t.f3 t.f4 most) b ∧ (b = true → WhB 1073741824 t ∧ szT t ≤ most) := by
 obtain ⟨r, hr, hr2⟩ := whole_is h most h0 h1
 refine ⟨r.2, Ev.bind hr (Ev.now _), fun e => ?_⟩
 obtain ⟨a, b, c⟩ := hr2 e
 exact ⟨a, by omega⟩
theorem far_loop {B : Int} {t : S27} (h : WhB B t) (ih : ∀ a ∈ t.f4, ∃ b, Ev (fun k => touchstonelaw5_far.f k a.f0 a.f1 a.f2 a.f3 a.f4) b ∧ (b = false → WhB 1000000 a)) :
  ∀ d (i : Nat), t.f4.length - i = d → i ≤ t.f4.length → ∃ b, Ev (fun k => touchstonelaw5_far.l0 k (i : Int) t.f0 t.f1 t.f2 t.f3 t.f4) b ∧ (b = false → ∀ a ∈ t.f4.drop i, WhB 1000000 a) := by
 obtain ⟨h0, h1, h2, h3, hl, h4, hs⟩ := h.parts
 intro d
 induction d with
 | zero =>
  intro i hd hi
  have e : t.f4.drop i = [] := List.drop_eq_nil_of_le (by omega)
  refine ⟨false, Ev.step (f := fun k => some false) (fun k => ?_) (Ev.now _), fun _ a ha => by rw [e] at ha; cases ha⟩
  simp only [touchstonelaw5_far.l0]
  rw [if_neg (nlti (by omega))]
 | succ d ihd =>
  intro i hd hi
  have hlt : i < t.f4.length := by omega
  obtain ⟨b, hb, hb2⟩ := ih _ (List.getElem_mem hlt)
  have hw : wrap64 ((i : Int) + 1) = ((i + 1 : Nat) : Int) := wri hlt (by omega)
  have step : ∀ k, touchstonelaw5_far.l0 (k + 1) (i : Int) t.f0 t.f1 t.f2 t.f3 t.f4 = (touchstonelaw5_far.f k (t.f4[i]).f0 (t.f4[i]).f1 (t.f4[i]).f2 (t.f4[i]).f3 (t.f4[i]).f4).bind fun q => if q = true then some true else touchstonelaw5_far.l0 k ((i + 1 : Nat) : Int) t.f0 t.f1 t.f2 t.f3 t.f4 := by
   intro k
   simp only [touchstonelaw5_far.l0]
   rw [if_pos (lti hlt), if_pos (Int.natCast_nonneg i), rd27 hlt, hw]
  cases b with
  | true => exact ⟨true, Ev.step step (Ev.bind hb (Ev.now _)), fun h => by cases h⟩
  | false =>
   obtain ⟨c, hc, hc2⟩ := ihd (i + 1) (by omega) (by omega)
   refine ⟨c, Ev.step step (Ev.bind hb (by simpa using hc)), fun h a hm => ?_⟩
   rw [drop_get hlt] at hm
   rcases List.mem_cons.1 hm with rfl | hm
   ·exact hb2 rfl
   ·exact hc2 h a hm
theorem far_is {B : Int} {t : S27} (h : WhB B t) : ∃ b, Ev (fun k => touchstonelaw5_far.f k t.f0 t.f1 t.f2 t.f3 t.f4) b ∧ (b = false → WhB 1000000 t) := by
 induction h with
 | mk h0 h1 h2 h3 hl h4 hs ih =>
  rename_i t
  by_cases hn : t.f1 > 1000000
  ·refine ⟨true, Ev.step (f := fun k => some true) (fun k => ?_) (Ev.now _), fun h => by cases h⟩
   simp only [touchstonelaw5_far.f]; rw [if_pos hn]
  obtain ⟨b, hb, hb2⟩ := far_loop (.mk h0 h1 h2 h3 hl h4 hs) ih t.f4.length 0 (by omega) (by omega)
  refine ⟨b, Ev.step (f := fun k => touchstonelaw5_far.l0 k 0 t.f0 t.f1 t.f2 t.f3 t.f4) (fun k => ?_) (by simpa using hb), fun e => .mk h0 h1 (by omega) h3 hl h4 (by simpa using hb2 e)⟩
  simp only [touchstonelaw5_far.f]; rw [if_neg hn]
theorem WhB.more {B B' : Int} {t : S27} (h : WhB B t) (hB : B ≤ B') : WhB B' t := by
 induction h with
 | mk h0 h1 h2 h3 hl h4 hs ih => exact .mk h0 h1 (by omega) h3 hl h4 ih
theorem liL_mem {b fr kd inn : Int} {x : S27} : ∀ (ar : List S27) (i : Nat), x ∈ liL b fr kd i ar inn → ∃ a ∈ ar, ∃ j, x = liT b fr a (inn + bn kd j)
 | [], i, h => by rw [liL_nil] at h; cases h
 | a :: ar, i, h => by
  rw [liL_cons] at h
  rcases List.mem_cons.1 h with rfl | h
  ·exact ⟨a, List.mem_cons_self, i, rfl⟩
  ·obtain ⟨c, hc, j, e⟩ := liL_mem ar (i + 1) h
   exact ⟨c, List.mem_cons_of_mem _ hc, j, e⟩
theorem lift_wh {b fr B : Int} (hb : 0 ≤ b) {t : S27} (h : WhB B t) : ∀ inn, WhB (B + b) (liT b fr t inn) := by
 induction h with
 | mk h0 h1 h2 h3 hl h4 hs ih =>
  rename_i t
  intro inn
  rw [liT_mk]
  refine .mk (fun e => ?_) ?_ ?_ h3 hl ?_ ?_
  ·show liL b fr t.f0 0 t.f4 inn = []
   rw [h0 e, liL_nil]
  ·show 0 ≤ (if t.f0 = 0 then (if t.f1 - inn ≥ fr then t.f1 + b else t.f1) else t.f1)
   (repeat' split) <;> omega
  ·show (if t.f0 = 0 then (if t.f1 - inn ≥ fr then t.f1 + b else t.f1) else t.f1) ≤ B + b
   (repeat' split) <;> omega
  ·show (liL b fr t.f0 0 t.f4 inn).length ≤ 3
   rw [liL_len]; exact h4
  ·intro a ha
   obtain ⟨c, hc, j, rfl⟩ := liL_mem _ _ ha
   exact ih c hc _
theorem szL_lift {b fr : Int} : ∀ (ar : List S27), (∀ a ∈ ar, ∀ j, szT (liT b fr a j) = szT a) → ∀ kd i inn, szL (liL b fr kd i ar inn) = szL ar
 | [], _, kd, i, inn => by rw [liL_nil]
 | a :: ar, h, kd, i, inn => by rw [liL_cons, szL, szL, h a List.mem_cons_self, szL_lift ar (fun c hc => h c (List.mem_cons_of_mem _ hc))]
theorem lift_sz {b fr B : Int} {t : S27} (h : WhB B t) : ∀ inn, szT (liT b fr t inn) = szT t := by
 induction h with
 | mk h0 h1 h2 h3 hl h4 hs ih =>
  rename_i t
  intro inn
  rw [sz_mk, sz_mk, liT_mk]
  show 1 + szL (liL b fr t.f0 0 t.f4 inn) = _
  rw [szL_lift t.f4 ih]
theorem lift_liftL {n m f : Int} : ∀ (ar : List S27), (∀ a ∈ ar, ∀ j, liT m f (liT n f a j) j = liT (n + m) f a j) → ∀ kd i inn, liL m f kd i (liL n f kd i ar inn) inn = liL (n + m) f kd i ar inn
 | [], _, kd, i, inn => by rw [liL_nil, liL_nil, liL_nil]
 | a :: ar, h, kd, i, inn => by rw [liL_cons, liL_cons, liL_cons, h a List.mem_cons_self, lift_liftL ar (fun c hc => h c (List.mem_cons_of_mem _ hc))]
theorem lift_lift {n m f : Int} (hn : 0 ≤ n) {B : Int} {t : S27} (h : WhB B t) : ∀ inn, liT m f (liT n f t inn) inn = liT (n + m) f t inn := by
 induction h with
 | mk h0 h1 h2 h3 hl h4 hs ih =>
  rename_i t
  intro inn
  rw [liT_mk n f t inn, liT_mk, liT_mk (n + m)]
  simp only [lift_liftL t.f4 ih]
  by_cases hk : t.f0 = 0
  rotate_left
  ·simp only [if_neg hk]
  simp only [if_pos hk]
  by_cases hc : t.f1 - inn ≥ f
  rotate_left
  ·simp only [if_neg hc]
  simp only [if_pos hc]
  rw [if_pos (by omega), show t.f1 + n + m = t.f1 + (n + m) by omega]
end Go.Proofs.Ytpejhapgffcngaa.QK

