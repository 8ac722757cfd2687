/- TermTurns: what the law makes answers true. -/
import Derived.Test.YtpejhapgffcngaaXShort
import Derived.Test.YtpejhapgffcngaaQKWipeR
import Derived.Test.YtpejhapgffcngaaQKWalk12
import Derived.Test.YtpejhapgffcngaaQKGuards
set_option linter.unusedVariables false
set_option linter.unusedSimpArgs false
namespace Go.Proofs.Ytpejhapgffcngaa.QK
open Go.RowKit Go.Proofs.YtpejhapgffcngaaW.PrintWords Go.Proofs.YtpejhapgffcngaaW.PrintLast Go.Proofs.YtpejhapgffcngaaW.PrintMore
mutual
def swT : S27 → Int → S27
 | ⟨kd, n, nm, ls, ar⟩, at_ => ⟨kd, if kd = 0 then (if n = at_ then at_ + 1 else if n = at_ + 1 then at_ else n) else n, nm, ls, swL kd 0 ar at_⟩
def swL (kd : Int) : Nat → List S27 → Int → List S27
 | _, [], _ => []
 | i, a :: ar, at_ => swT a (at_ + bn kd i) :: swL kd (i + 1) ar at_
end
theorem swT_mk (t : S27) (q : Int) : swT t q = ⟨t.f0, if t.f0 = 0 then (if t.f1 = q then q + 1 else if t.f1 = q + 1 then q else t.f1) else t.f1, t.f2, t.f3, swL t.f0 0 t.f4 q⟩ := by cases t; rw [swT]
theorem swL_cons (kd : Int) (i : Nat) (a : S27) (ar : List S27) (q : Int) : swL kd i (a :: ar) q = swT a (q + bn kd i) :: swL kd (i + 1) ar q := by rw [swL]
theorem swL_nil (kd : Int) (i : Nat) (q : Int) : swL kd i [] q = [] := by rw [swL]
theorem puL_len (v : S27) (kd inn : Int) : ∀ (ar : List S27) (i : Nat), (puL v kd i ar inn).length = ar.length
 | [], i => by rw [puL_nil]
 | a :: ar, i => by rw [puL_cons, List.length_cons, List.length_cons, puL_len v kd inn ar]
theorem puL_mem {v : S27} {kd inn : Int} {x : S27} : ∀ (ar : List S27) (i : Nat), x ∈ puL v kd i ar inn → ∃ a ∈ ar, ∃ j, x = puT v a (inn + bn kd j)
 | [], i, h => by rw [puL_nil] at h; cases h
 | a :: ar, i, h => by
  rw [puL_cons] at h
  rcases List.mem_cons.1 h with rfl | h
  ·exact ⟨a, List.mem_cons_self, i, rfl⟩
  ·obtain ⟨c, hc, j, e⟩ := puL_mem ar (i + 1) h
   exact ⟨c, List.mem_cons_of_mem _ hc, j, e⟩
theorem put_wh {B M : Int} {v t : S27} (hv : WhB B v) (h : WhB B t) : ∀ inn, 0 ≤ inn → inn + szT t ≤ M → WhB (B + M) (puT v t inn) := by
 induction h with
 | mk h0 h1 h2 h3 hl h4 hs ih =>
  rename_i t
  intro inn hi hM
  have hp := sz_pos t
  rw [puT_mk]
  by_cases hk : t.f0 = 0
  rotate_left
  ·rw [if_neg hk]
   refine .mk (fun e => absurd e hk) h1 (by show t.f1 ≤ B + M; omega) h3 hl (by show (puL v t.f0 0 t.f4 inn).length ≤ 3; rw [puL_len]; exact h4) (fun a ha => ?_)
   obtain ⟨c, hc, j, rfl⟩ := puL_mem _ _ ha
   have h6 := sz_mem hc
   have h7 := sz_mk t
   have h8 := bn_ge t.f0 j
   have h9 := bn_le t.f0 j
   exact ih c hc _ (by omega) (by omega)
  rw [if_pos hk]
  by_cases hn : t.f1 = inn
  ·rw [if_pos hn]
   exact (lift_wh (b := inn) (fr := 0) hi hv 0).more (by omega)
  rw [if_neg hn]
  refine .mk (fun _ => rfl) ?_ ?_ h3 hl (by simp) (fun a ha => by cases ha)
  ·show 0 ≤ (if t.f1 > inn then t.f1 - 1 else t.f1)
   split <;> omega
  ·show (if t.f1 > inn then t.f1 - 1 else t.f1) ≤ B + M
   split <;> omega
theorem lift_upL {i j : Int} : ∀ (ar : List S27), (∀ a ∈ ar, ∀ q, liT j 0 (liT i 0 a q) (i + q) = liT (i + j) 0 a q) → ∀ kd n q, liL j 0 kd n (liL i 0 kd n ar q) (i + q) = liL (i + j) 0 kd n ar q
 | [], _, kd, n, q => by rw [liL_nil, liL_nil, liL_nil]
 | a :: ar, h, kd, n, q => by rw [liL_cons, liL_cons, liL_cons, show i + q + bn kd n = i + (q + bn kd n) by omega, h a List.mem_cons_self, lift_upL ar (fun c hc => h c (List.mem_cons_of_mem _ hc))]
theorem lift_up {i j B : Int} (hi : 0 ≤ i) {t : S27} (h : WhB B t) : ∀ q, liT j 0 (liT i 0 t q) (i + q) = liT (i + j) 0 t q := by
 induction h with
 | mk h0 h1 h2 h3 hl h4 hs ih =>
  rename_i t
  intro q
  rw [liT_mk i 0 t q, liT_mk, liT_mk (i + j)]
  simp only [lift_upL t.f4 ih]
  by_cases hk : t.f0 = 0
  rotate_left
  ·simp only [if_neg hk]
  simp only [if_pos hk]
  by_cases hc : t.f1 - q ≥ 0
  rotate_left
  ·simp only [if_neg hc]
   rw [if_neg (by omega)]
  simp only [if_pos hc]
  rw [if_pos (by omega), show t.f1 + i + j = t.f1 + (i + j) by omega]
theorem put_overL {x : S27} {m j : Int} : ∀ (ar : List S27), (∀ a ∈ ar, ∀ q, puT x (liT m 0 a q) (q + j) = liT (m - 1) 0 a q) → ∀ kd n q, puL x kd n (liL m 0 kd n ar q) (q + j) = liL (m - 1) 0 kd n ar q
 | [], _, kd, n, q => by rw [liL_nil, puL_nil, liL_nil]
 | a :: ar, h, kd, n, q => by rw [liL_cons, puL_cons, liL_cons, show q + j + bn kd n = q + bn kd n + j by omega, h a List.mem_cons_self, put_overL ar (fun c hc => h c (List.mem_cons_of_mem _ hc))]
theorem put_over (x : S27) {m j B : Int} (hj : 0 ≤ j) (hm : j < m) {t : S27} (h : WhB B t) : ∀ q, puT x (liT m 0 t q) (q + j) = liT (m - 1) 0 t q := by
 induction h with
 | mk h0 h1 h2 h3 hl h4 hs ih =>
  rename_i t
  intro q
  rw [liT_mk m, liT_mk, puT_mk]
  by_cases hk : t.f0 = 0
  rotate_left
  ·simp only [if_neg hk]
   rw [put_overL t.f4 ih]
  simp only [if_pos hk, h0 hk, liL_nil]
  by_cases hc : t.f1 - q ≥ 0
  rotate_left
  ·simp only [if_neg hc]
   rw [if_neg (by omega), if_neg (by omega)]
  simp only [if_pos hc]
  rw [if_neg (by omega), if_pos (by omega), show t.f1 + m - 1 = t.f1 + (m - 1) by omega]
theorem put_lift_atL {u : S27} {j : Int} : ∀ (ar : List S27), (∀ a ∈ ar, ∀ i, 0 ≤ i → puT u (liT j 0 a i) (j + i) = liT j 0 (puT u a i) i) → ∀ kd n i, 0 ≤ i → puL u kd n (liL j 0 kd n ar i) (j + i) = liL j 0 kd n (puL u kd n ar i) i
 | [], _, kd, n, i, _ => by rw [liL_nil, puL_nil, puL_nil, liL_nil]
 | a :: ar, h, kd, n, i, hi => by rw [liL_cons, puL_cons, puL_cons, liL_cons, show j + i + bn kd n = j + (i + bn kd n) by omega, h a List.mem_cons_self _ (by have := bn_ge kd n; omega), put_lift_atL ar (fun c hc => h c (List.mem_cons_of_mem _ hc)) _ _ _ hi]
theorem put_lift_at {u : S27} {j B B' : Int} (hj : 0 ≤ j) (hu : WhB B' u) {v : S27} (h : WhB B v) : ∀ i, 0 ≤ i → puT u (liT j 0 v i) (j + i) = liT j 0 (puT u v i) i := by
 induction h with
 | mk h0 h1 h2 h3 hl h4 hs ih =>
  rename_i v
  intro i hi
  rw [liT_mk j 0 v i, puT_mk, puT_mk u v]
  by_cases hk : v.f0 = 0
  rotate_left
  ·simp only [if_neg hk]
   rw [put_lift_atL v.f4 ih _ _ _ hi, liT_mk]
   simp only [if_neg hk]
  simp only [if_pos hk, h0 hk, liL_nil]
  by_cases hc : v.f1 - i ≥ 0
  rotate_left
  ·simp only [if_neg hc]
   rw [if_neg (by omega), if_neg (by omega), if_neg (by omega), if_neg (by omega), liT_mk]
   simp only [if_pos hk, liL_nil]
   rw [if_neg (by omega)]
  simp only [if_pos hc]
  by_cases he : v.f1 = i
  ·rw [if_pos (by omega), if_pos he]
   have := lift_up (i := i) (j := j) hi hu 0
   rw [show i + 0 = i by omega] at this
   rw [this, show j + i = i + j by omega]
  rw [if_neg (by omega), if_neg he, if_pos (by omega), if_pos (by omega), liT_mk]
  simp only [if_pos hk, liL_nil]
  rw [if_pos (by omega), show v.f1 + j - 1 = v.f1 - 1 + j by omega]
theorem throughL {v u x : S27} {lu : S27} : ∀ (ar : List S27), (∀ a ∈ ar, ∀ j, 0 ≤ j → puT u (puT v a j) j = puT x (puT lu (swT a j) j) j) → ∀ kd n j, 0 ≤ j → puL u kd n (puL v kd n ar j) j = puL x kd n (puL lu kd n (swL kd n ar j) j) j
 | [], _, kd, n, j, _ => by rw [puL_nil, puL_nil, swL_nil, puL_nil, puL_nil]
 | a :: ar, h, kd, n, j, hj => by rw [puL_cons, puL_cons, swL_cons, puL_cons, puL_cons, h a List.mem_cons_self _ (by have := bn_ge kd n; omega), throughL ar (fun c hc => h c (List.mem_cons_of_mem _ hc)) _ _ _ hj]
theorem through {B1 B2 B3 : Int} {v u : S27} (hv : WhB B1 v) (hu : WhB B2 u) {t : S27} (h : WhB B3 t) : ∀ j, 0 ≤ j → puT u (puT v t j) j = puT (puT u v 0) (puT (liT 1 0 u 0) (swT t j) j) j := by
 induction h with
 | mk h0 h1 h2 h3 hl h4 hs ih =>
  rename_i t
  intro j hj
  rw [puT_mk v t, swT_mk, puT_mk (liT 1 0 u 0)]
  by_cases hk : t.f0 = 0
  rotate_left
  ·simp only [if_neg hk]
   rw [puT_mk u, puT_mk (puT u v 0)]
   simp only [if_neg hk]
   rw [throughL t.f4 ih _ _ _ hj]
  simp only [if_pos hk]
  by_cases e0 : t.f1 = j
  ·simp only [if_pos e0]
   rw [if_neg (by omega), if_pos (by omega), puT_mk (puT u v 0)]
   simp only [if_pos hk]
   rw [if_pos (by omega)]
   have := put_lift_at (u := u) (j := j) hj hu hv 0 (by omega)
   rw [show j + 0 = j by omega] at this
   exact this
  simp only [if_neg e0]
  by_cases e1 : t.f1 = j + 1
  rotate_left
  ·simp only [if_neg e1]
   simp only [if_neg e0]
   generalize puT u v 0 = x
   by_cases e2 : t.f1 > j
   rotate_left
   ·simp only [if_neg e2, puT_mk u, puT_mk x, if_pos hk, if_neg e0]
   have e3 : ¬ t.f1 - 1 = j := by omega
   simp only [if_pos e2, puT_mk u, puT_mk x, if_pos hk, if_neg e3]
  simp only [if_pos e1]
  rw [if_pos (by omega), if_true, puT_mk u]
  simp only [if_pos hk]
  rw [if_pos (by omega)]
  have h5 := lift_lift (n := 1) (m := j) (f := 0) (by omega) hu 0
  have h6 := put_over (puT u v 0) (m := 1 + j) (j := j) hj (by omega) hu 0
  rw [h5, show (0 : Int) + j = j by omega] at *
  rw [h6, show 1 + j - 1 = j by omega]
end Go.Proofs.Ytpejhapgffcngaa.QK

set_option linter.unusedVariables false
set_option linter.unusedSimpArgs false
namespace Go.Proofs.Ytpejhapgffcngaa.QK
open Go.RowKit Go.Proofs.YtpejhapgffcngaaW.PrintWords Go.Proofs.YtpejhapgffcngaaW.PrintLast Go.Proofs.YtpejhapgffcngaaW.PrintMore
def Tur12 (k : Nat) (t v : S27) (by_ fr : Int) (ls : List S76) : Prop := ∃ b, Go12 k t v ls b ∧ (b = false → ∃ a b c : S27, Res12 k t v by_ fr ls a b c)
theorem tur12.calls (k : Nat) (t : S27) (A3 : Option Addr) (c3 : Nat) (A4 : Option Addr) (c4 : Nat) (v : S27) (B3 : Option Addr) (d3 : Nat) (B4 : Option Addr) (d4 : Nat) (by_ fr : Int) (ls : List S76) (L : Option Addr) (lc : Nat) (w : World)
  (h1 : Kd.C k76 w A3 t.f3.length t.f3) (h2 : t.f3.length ≤ c3) (h3 : Kd.C k27 w A4 t.f4.length t.f4) (h4 : t.f4.length ≤ c4) (i1 : Kd.C k76 w B3 v.f3.length v.f3) (i2 : v.f3.length ≤ d3) (i3 : Kd.C k27 w B4 v.f4.length v.f4) (i4 : v.f4.length ≤ d4) (j1 : Kd.C k76 w L ls.length ls) (j2 : ls.length ≤ lc) (h : Tur12 k t v by_ fr ls) :
  Calls Try.prog 12 #[.agg #[.int .i64 t.f0, .int .i64 t.f1, .string t.f2, .slice A3 t.f3.length c3, .slice A4 t.f4.length c4], .agg #[.int .i64 v.f0, .int .i64 v.f1, .string v.f2, .slice B3 v.f3.length d3, .slice B4 v.f4.length d4], .int .i64 by_, .int .i64 fr, .slice L ls.length lc] w fun e w' => e = .returned (.bool true) ∧ Below w.heap.size w w' := by
 obtain ⟨b, hG, hR⟩ := h
 exact turns.walk k ⟨A3, c3, A4, c4, B3, d3, B4, d4, L, lc⟩ t v by_ fr ls b w ⟨h1, h2, h3, h4⟩ ⟨i1, i2, i3, i4⟩ ⟨j1, j2⟩ rfl hG hR
theorem TermTurns (t v : S27) (by_ fr : Int) (ls : List S76) (ht : Ok27 t) (hv : Ok27 v) (wby : (Lit.int .i64 by_).wf = true) (wfr : (Lit.int .i64 fr).wf = true) (hl : ls.length * 40 ≤ 140737488351232 ∧ ∀ l ∈ ls, Ok76 l) : ∃ k, Tur12 k t v by_ fr ls := by
 clear wby wfr
 obtain ⟨hx, hl⟩ := hl
 obtain ⟨b0, ⟨n0, l0⟩, m0⟩ := light_is ht 1000 (by omega) (by omega)
 cases b0
 ·exact ⟨n0, true, .c0 ⟨l0 _ (Nat.le_refl _)⟩, fun h => by cases h⟩
 obtain ⟨wt, st⟩ := m0 rfl
 have vt := light_wv ht ⟨n0, l0⟩
 obtain ⟨b1, ⟨n1, l1⟩, m1⟩ := light_is hv 300 (by omega) (by omega)
 cases b1
 ·exact ⟨n0 + n1, true, .c1 ⟨l0 _ (by omega)⟩ ⟨l1 _ (by omega)⟩, fun h => by cases h⟩
 obtain ⟨wv, sv⟩ := m1 rfl
 cases h6 : decide ((ls.length : Int) > 6)
 rotate_left
 ·exact ⟨n0 + n1, true, .c2 ⟨l0 _ (by omega)⟩ ⟨l1 _ (by omega)⟩ h6, fun h => by cases h⟩
 obtain ⟨b3, n3, l3⟩ := lightL_is hx hl
 cases b3
 ·exact ⟨n0 + n1 + n3, true, .c3 ⟨l0 _ (by omega)⟩ ⟨l1 _ (by omega)⟩ h6 ⟨l3 _ (by omega)⟩, fun h => by cases h⟩
 obtain ⟨b4, n4, l4⟩ := termL_is wt
 cases b4
 ·exact ⟨n0 + n1 + n3 + n4, true, .c4 ⟨l0 _ (by omega)⟩ ⟨l1 _ (by omega)⟩ h6 ⟨l3 _ (by omega)⟩ ⟨l4 _ (by omega)⟩, fun h => by cases h⟩
 obtain ⟨b5, n5, l5⟩ := termL_is wv
 cases b5
 ·exact ⟨n0 + n1 + n3 + n4 + n5, true, .c5 false ⟨l0 _ (by omega)⟩ ⟨l1 _ (by omega)⟩ h6 ⟨l3 _ (by omega)⟩ ⟨l4 _ (by omega)⟩ ⟨l5 _ (by omega)⟩, fun h => by cases h⟩
 clear m0 m1 ht hv
 have s1 : szT t ≤ 1000 := by omega
 have s2 : szT v ≤ 300 := by omega
 have St : Small 1073741824 0 t := ⟨wt, by omega, by omega, by omega⟩
 have Sv : Small 1073741824 0 v := ⟨wv, by omega, by omega, by omega⟩
 have wa : WhB (1073741824 + cl by_) (liT (cl by_) (cl fr) t 0) := lift_wh (cl_ge by_) wt 0
 have wb : WhB (1073741824 + 1000) (puT v t 0) := put_wh wv wt 0 (by omega) (by omega)
 have wc : WhB 1073741824 (lvT ls t) := lvT_wh hl wt
 obtain ⟨a1, p1⟩ := copy_is St
 obtain ⟨a2, p2⟩ := copy_is Sv
 obtain ⟨a3, p3⟩ := liftC_is by_ fr St
 obtain ⟨a4, p4⟩ := put_is St Sv
 obtain ⟨a5, p5⟩ := tlevels_is hl wt
 obtain ⟨a6, p6⟩ := gLift_is by_ fr St
 obtain ⟨a7, p7⟩ := gPut_is Sv St vt
 obtain ⟨a8, p8⟩ := rlevels_is hl wt
 obtain ⟨e1, q1⟩ := teq_is wa
 obtain ⟨e2, q2⟩ := teq_is wb
 obtain ⟨e3, q3⟩ := teq_is wc
 obtain ⟨e4, q4⟩ := teq_is wt
 obtain ⟨e5, q5⟩ := teq_is wv
 refine ⟨n0 + n1 + n3 + n4 + n5 + (a1 + a2 + a3 + a4 + a5 + a6 + a7 + a8) + (e1 + e2 + e3 + e4 + e5), false, .c5 true ⟨l0 _ (by omega)⟩ ⟨l1 _ (by omega)⟩ h6 ⟨l3 _ (by omega)⟩ ⟨l4 _ (by omega)⟩ ⟨l5 _ (by omega)⟩, fun _ => ⟨liT (cl by_) (cl fr) t 0, puT v t 0, lvT ls t, ?_⟩⟩
 exact ⟨p1 _ (by omega), p2 _ (by omega), p3 _ (by omega), p4 _ (by omega), p5 _ (by omega), p6 _ (by omega), p7 _ (by omega), p8 _ (by omega), q1 _ (by omega), ⟨_, wa⟩, q2 _ (by omega), ⟨_, wb⟩, q3 _ (by omega), ⟨_, wc⟩, q4 _ (by omega), ⟨_, wt⟩, q5 _ (by omega), ⟨_, wv⟩⟩
end Go.Proofs.Ytpejhapgffcngaa.QK

