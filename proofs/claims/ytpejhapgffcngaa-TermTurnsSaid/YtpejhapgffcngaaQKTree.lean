/- Terms as trees: what the code makes of them, told without rounds. -/
import Derived.Test.YtpejhapgffcngaaXShort
import Derived.Test.YtpejhapgffcngaaQKx1
import Derived.Test.YtpejhapgffcngaaQKx2
import Derived.Test.YtpejhapgffcngaaQKx8
import Derived.Test.YtpejhapgffcngaaQKx9
import Derived.Test.YtpejhapgffcngaaQKx12
import Derived.Test.YtpejhapgffcngaaQKPart
import Derived.Test.YtpejhapgffcngaaQKPut
set_option linter.unusedVariables false
set_option linter.unusedSimpArgs false
namespace Go.Proofs.Ytpejhapgffcngaa.QK
open Go.RowKit Go.Proofs.YtpejhapgffcngaaW.PrintWords Go.Proofs.YtpejhapgffcngaaW.PrintLast Go.Proofs.YtpejhapgffcngaaW.PrintMore
theorem wr {x : Int} (h1 : -4611686018427387904 ≤ x) (h2 : x ≤ 4611686018427387904) : wrap64 x = x := by unfold wrap64; omega
theorem wri {i n : Nat} (h : i < n) (hn : n ≤ 4611686018427387903) : wrap64 ((i : Int) + 1) = ((i + 1 : Nat) : Int) := by rw [wr (by omega) (by omega)]; omega
theorem lti {i n : Nat} (h : i < n) : (i : Int) < (n : Int) := Int.ofNat_lt.2 h
theorem nlti {i n : Nat} (h : n ≤ i) : ¬ (i : Int) < (n : Int) := by omega
theorem Ev.some {α : Type} {g : Nat → Option α} {r : α} (h : ∀ k, g k = some r) : Ev g r := ⟨0, fun k _ => h k⟩
theorem drop_get {α : Type} {xs : List α} {i : Nat} (h : i < xs.length) : xs.drop i = xs[i] :: xs.drop (i + 1) := List.drop_eq_getElem_cons h
theorem rd27 {xs : List S27} {i : Nat} (h : i < xs.length) : rd_T27 xs (i : Int) = xs[i] := by
 unfold rd_T27
 rw [Int.toNat_natCast, List.getD_eq_getElem?_getD, List.getElem?_eq_getElem h, Option.getD_some]
theorem rd76 {xs : List S76} {i : Nat} (h : i < xs.length) : rd_T76 xs (i : Int) = xs[i] := by
 unfold rd_T76
 rw [Int.toNat_natCast, List.getD_eq_getElem?_getD, List.getElem?_eq_getElem h, Option.getD_some]
inductive Ok76 : S76 → Prop
 | mk {x : S76} (w0 : (Lit.int .i64 x.f0).wf = true) (w1 : (Lit.int .i64 x.f1).wf = true) (h2 : x.f2.length * 40 ≤ 140737488351232) (hs : ∀ y ∈ x.f2, Ok76 y) : Ok76 x
inductive Ok27 : S27 → Prop
 | mk {t : S27} (w0 : (Lit.int .i64 t.f0).wf = true) (w1 : (Lit.int .i64 t.f1).wf = true) (h2 : t.f2.size ≤ 140737488351232) (h3 : t.f3.length * 40 ≤ 140737488351232) (hl : ∀ l ∈ t.f3, Ok76 l) (h4 : t.f4.length * 80 ≤ 140737488351232) (hs : ∀ a ∈ t.f4, Ok27 a) : Ok27 t
inductive WhB (B : Int) : S27 → Prop
 | mk {t : S27} (h0 : t.f0 = 0 → t.f4 = []) (h1 : 0 ≤ t.f1) (h2 : t.f1 ≤ B) (h3 : t.f3.length * 40 ≤ 140737488351232) (hl : ∀ l ∈ t.f3, Ok76 l) (h4 : t.f4.length ≤ 3) (hs : ∀ a ∈ t.f4, WhB B a) : WhB B t
mutual
def szT : S27 → Nat
 | ⟨_, _, _, _, ar⟩ => 1 + szL ar
def szL : List S27 → Nat
 | [] => 0
 | a :: ar => szT a + szL ar
end
theorem sz_mk (t : S27) : szT t = 1 + szL t.f4 := by cases t; rw [szT]
theorem sz_mem {a : S27} : ∀ {ar : List S27}, a ∈ ar → szT a ≤ szL ar
 | [], h => by cases h
 | b :: ar, h => by
  rw [szL]
  rcases List.mem_cons.1 h with rfl | h
  ·omega
  ·have := sz_mem h; omega
theorem sz_pos (t : S27) : 1 ≤ szT t := by rw [sz_mk]; omega
def tup6 (x : S76) : Int × Int × List S76 := (x.f0, x.f1, x.f2)
theorem mk6 (x : S76) : (⟨(tup6 x).1, (tup6 x).2.1, (tup6 x).2.2⟩ : S76) = x := by cases x; rfl
def tup (t : S27) : Int × Int × ByteArray × List S76 × List S27 := (t.f0, t.f1, t.f2, t.f3, t.f4)
theorem mk27 (x : S27) : (⟨(tup x).1, (tup x).2.1, (tup x).2.2.1, (tup x).2.2.2.1, (tup x).2.2.2.2⟩ : S27) = x := by cases x; rfl
def bn (kd : Int) (i : Nat) : Int := if (kd = 4 ∨ kd = 5) ∧ i = 1 ∨ kd = 6 ∧ i = 2 then 1 else 0
theorem bn_ge (kd : Int) (i : Nat) : 0 ≤ bn kd i := by unfold bn; split <;> omega
theorem bn_le (kd : Int) (i : Nat) : bn kd i ≤ 1 := by unfold bn; split <;> omega
theorem binds_is (kd : Int) (i : Nat) : term_binds.f kd (i : Int) = some (bn kd i) := by
 have e1 : ((i : Int) = 1) ↔ i = 1 := by omega
 have e2 : ((i : Int) = 2) ↔ i = 2 := by omega
 unfold term_binds.f bn
 by_cases h4 : kd = 4
 ·subst h4
  by_cases h : i = 1
  ·simp [h]
  simp [h, e1]
 by_cases h5 : kd = 5
 ·subst h5
  by_cases h : i = 1
  ·simp [h]
  simp [h, e1]
 by_cases h6 : kd = 6
 ·subst h6
  by_cases h : i = 2
  ·simp [h]
  simp [h, e2]
 simp [h4, h5, h6]
theorem lput_loop (x : S76) (hx : x.f2.length * 40 ≤ 140737488351232) (ih : ∀ y ∈ x.f2, Ev (fun k => level_Put.f k y.f0 y.f1 y.f2 []) (tup6 y)) :
  ∀ d (i : Nat), x.f2.length - i = d → i ≤ x.f2.length → Ev (fun k => level_Put.l0 k [] (x.f2.take i) x.f2 (x.f2.length : Int) (i : Int) x.f0 x.f1 x.f2) (tup6 x) := by
 intro d
 induction d with
 | zero =>
  intro i hd hi
  refine Ev.step (f := fun _ => some (tup6 x)) (fun k => ?_) (Ev.now _)
  have e : i = x.f2.length := by omega
  simp only [level_Put.l0]
  rw [if_neg (by omega), e, List.take_length]
  rfl
 | succ d ihd =>
  intro i hd hi
  have hlt : i < x.f2.length := by omega
  refine Ev.step (f := fun k => (level_Put.f k (x.f2[i]).f0 (x.f2[i]).f1 (x.f2[i]).f2 []).bind fun q => level_Put.l0 k [] (x.f2.take i ++ [(⟨q.1, q.2.1, q.2.2⟩ : S76)]) x.f2 (x.f2.length : Int) ((i + 1 : Nat) : Int) x.f0 x.f1 x.f2) (fun k => ?_) ?_
  ·have hw : wrap64 ((i : Int) + 1) = ((i + 1 : Nat) : Int) := wri hlt (by omega)
   have hl : (x.f2.take i).length < 3518437208883 := by rw [List.length_take]; omega
   simp only [level_Put.l0]
   rw [if_pos (lti hlt), if_pos (Int.natCast_nonneg i), if_pos (lti hlt), rd76 hlt, hw]
   simp only [if_pos hl]
  ·refine Ev.bind (ih _ (List.getElem_mem hlt)) ?_
   have e : x.f2.take i ++ [(⟨(tup6 x.f2[i]).1, (tup6 x.f2[i]).2.1, (tup6 x.f2[i]).2.2⟩ : S76)] = x.f2.take (i + 1) := by
    rw [List.take_succ_eq_append_getElem hlt, mk6]
   simp only [e]
   exact ihd (i + 1) (by omega) (by omega)
theorem lput_is {x : S76} (h : Ok76 x) : Ev (fun k => level_Put.f k x.f0 x.f1 x.f2 []) (tup6 x) := by
 induction h with
 | mk w0 w1 h2 hs ih =>
  rename_i x
  refine Ev.step (f := fun k => level_Put.j0 k [] false x.f0 x.f1 x.f2) (fun k => ?_) ?_
  ·simp only [level_Put.f]
   by_cases h4 : x.f0 = 4
   rotate_left
   ·rw [if_neg h4]
   rw [if_pos h4]
   by_cases h0 : x.f1 ≥ 0
   rotate_left
   ·rw [if_neg h0]
   rw [if_pos h0, decide_eq_false (by simp; omega)]
  ·refine Ev.step (f := fun k => level_Put.l0 k [] [] x.f2 (x.f2.length : Int) 0 x.f0 x.f1 x.f2) (fun k => ?_) ?_
   ·simp only [level_Put.j0]
    rw [if_neg (by decide)]
   ·have := lput_loop x h2 ih x.f2.length 0 (by omega) (by omega)
    simpa using this
theorem levels_loop (ls : List S76) (hx : ls.length * 40 ≤ 140737488351232) (hl : ∀ l ∈ ls, Ok76 l) :
  ∀ d (i : Nat), ls.length - i = d → i ≤ ls.length → Ev (fun k => term_levels.l0 k [] (ls.take i) ls (ls.length : Int) (i : Int)) ls := by
 intro d
 induction d with
 | zero =>
  intro i hd hi
  refine Ev.step (f := fun _ => some ls) (fun k => ?_) (Ev.now _)
  have e : i = ls.length := by omega
  simp only [term_levels.l0]
  rw [if_neg (by omega), e, List.take_length]
 | succ d ihd =>
  intro i hd hi
  have hlt : i < ls.length := by omega
  refine Ev.step (f := fun k => (level_Put.f k (ls[i]).f0 (ls[i]).f1 (ls[i]).f2 []).bind fun q => term_levels.l0 k [] (ls.take i ++ [(⟨q.1, q.2.1, q.2.2⟩ : S76)]) ls (ls.length : Int) ((i + 1 : Nat) : Int)) (fun k => ?_) ?_
  ·have hw : wrap64 ((i : Int) + 1) = ((i + 1 : Nat) : Int) := wri hlt (by omega)
   have hl : (ls.take i).length < 3518437208883 := by rw [List.length_take]; omega
   simp only [term_levels.l0]
   rw [if_pos (lti hlt), if_pos (Int.natCast_nonneg i), if_pos (lti hlt), rd76 hlt, hw]
   simp only [if_pos hl]
  ·refine Ev.bind (lput_is (hl _ (List.getElem_mem hlt))) ?_
   have e : ls.take i ++ [(⟨(tup6 ls[i]).1, (tup6 ls[i]).2.1, (tup6 ls[i]).2.2⟩ : S76)] = ls.take (i + 1) := by
    rw [List.take_succ_eq_append_getElem hlt, mk6]
   simp only [e]
   exact ihd (i + 1) (by omega) (by omega)
theorem levels_is {ls : List S76} (hx : ls.length * 40 ≤ 140737488351232) (hl : ∀ l ∈ ls, Ok76 l) : Ev (fun k => term_levels.f k ls []) ls := by
 have := levels_loop ls hx hl ls.length 0 (by omega) (by omega)
 simpa [term_levels.f] using this
theorem bare_is (kd n : Int) (nm : ByteArray) {ls : List S76} (ar : List S27) (hx : ls.length * 40 ≤ 140737488351232) (hl : ∀ l ∈ ls, Ok76 l) : Ev (fun k => term_bare.f k kd n nm ls ar) (kd, n, nm, ls, []) :=
 Ev.bind (levels_is hx hl) (Ev.now _)
mutual
def liT (b fr : Int) : S27 → Int → S27
 | ⟨kd, n, nm, ls, ar⟩, inn => ⟨kd, if kd = 0 then (if n - inn ≥ fr then n + b else n) else n, nm, ls, liL b fr kd 0 ar inn⟩
def liL (b fr kd : Int) : Nat → List S27 → Int → List S27
 | _, [], _ => []
 | i, a :: ar, inn => liT b fr a (inn + bn kd i) :: liL b fr kd (i + 1) ar inn
end
theorem liT_mk (b fr : Int) (t : S27) (inn : Int) : liT b fr t inn = ⟨t.f0, if t.f0 = 0 then (if t.f1 - inn ≥ fr then t.f1 + b else t.f1) else t.f1, t.f2, t.f3, liL b fr t.f0 0 t.f4 inn⟩ := by cases t; rw [liT]
theorem liL_cons (b fr kd : Int) (i : Nat) (a : S27) (ar : List S27) (inn : Int) : liL b fr kd i (a :: ar) inn = liT b fr a (inn + bn kd i) :: liL b fr kd (i + 1) ar inn := by rw [liL]
theorem liL_nil (b fr kd : Int) (i : Nat) (inn : Int) : liL b fr kd i [] inn = [] := by rw [liL]
theorem liL_len (b fr kd inn : Int) : ∀ (ar : List S27) (i : Nat), (liL b fr kd i ar inn).length = ar.length
 | [], i => by rw [liL_nil]
 | a :: ar, i => by rw [liL_cons, List.length_cons, List.length_cons, liL_len b fr kd inn ar]
structure Small (B inn : Int) (t : S27) : Prop where
 wh : WhB B t
 b : B ≤ 1099511627776
 i0 : 0 ≤ inn
 i1 : inn + szT t ≤ 1073741824
theorem WhB.parts {B : Int} {t : S27} (h : WhB B t) : (t.f0 = 0 → t.f4 = []) ∧ 0 ≤ t.f1 ∧ t.f1 ≤ B ∧ t.f3.length * 40 ≤ 140737488351232 ∧ (∀ l ∈ t.f3, Ok76 l) ∧ t.f4.length ≤ 3 ∧ (∀ a ∈ t.f4, WhB B a) := by
 cases h with
 | mk h0 h1 h2 h3 hl h4 hs => exact ⟨h0, h1, h2, h3, hl, h4, hs⟩
theorem Small.arg {B inn : Int} {t a : S27} (h : Small B inn t) (ha : a ∈ t.f4) (kd : Int) (i : Nat) : Small B (inn + bn kd i) a := by
 have h1 := bn_ge kd i
 have h2 := bn_le kd i
 have h3 := sz_mem ha
 have h4 := sz_mk t
 have h5 := h.i1
 have h6 := h.i0
 exact ⟨h.wh.parts.2.2.2.2.2.2 a ha, h.b, by omega, by omega⟩
theorem Small.wr {B inn : Int} {t : S27} (h : Small B inn t) : wrap64 inn = inn := by
 have h1 := h.i0
 have h2 := h.i1
 exact Go.Proofs.Ytpejhapgffcngaa.QK.wr (by omega) (by omega)
theorem eachL_loop (c : LC) {B inn : Int} {t : S27} (hb : 0 ≤ c.by_) (hf : 0 ≤ c.from) (S : Small B inn t) (ih : ∀ a ∈ t.f4, ∀ j, Small B j a → Ev (fun k => eachL.f k a.f0 a.f1 a.f2 a.f3 a.f4 j c) (tup (liT c.by_ c.from a j))) :
  ∀ d (i : Nat) (acc : List S27), t.f4.length - i = d → i ≤ t.f4.length → acc.length ≤ 100 + i → Ev (fun k => eachL.l0 k inn c acc t.f4 (t.f4.length : Int) (i : Int) t.f0 t.f1 t.f2 t.f3 t.f4) (t.f0, t.f1, t.f2, t.f3, acc ++ liL c.by_ c.from t.f0 i (t.f4.drop i) inn) := by
 obtain ⟨h0, h1, h2, h3, hl, h4, hs⟩ := S.wh.parts
 intro d
 induction d with
 | zero =>
  intro i acc hd hi ha
  have e : t.f4.drop i = [] := List.drop_eq_nil_of_le (by omega)
  rw [e, liL_nil, List.append_nil]
  refine Ev.step (f := fun k => (term_levels.f k t.f3 []).bind fun q => some (t.f0, t.f1, t.f2, q, acc)) (fun k => ?_) (Ev.bind (levels_is h3 hl) (Ev.now _))
  simp only [eachL.l0]
  rw [if_neg (by omega)]
 | succ d ihd =>
  intro i acc hd hi ha
  have hlt : i < t.f4.length := by omega
  have S' := S.arg (List.getElem_mem hlt) t.f0 i
  rw [drop_get hlt, liL_cons]
  refine Ev.step (f := fun k => (eachL.f k (t.f4[i]).f0 (t.f4[i]).f1 (t.f4[i]).f2 (t.f4[i]).f3 (t.f4[i]).f4 (inn + bn t.f0 i) c).bind fun q => eachL.l0 k inn c (acc ++ [(⟨q.1, q.2.1, q.2.2.1, q.2.2.2.1, q.2.2.2.2⟩ : S27)]) t.f4 (t.f4.length : Int) ((i + 1 : Nat) : Int) t.f0 t.f1 t.f2 t.f3 t.f4) (fun k => ?_) ?_
  ·have hw : wrap64 ((i : Int) + 1) = ((i + 1 : Nat) : Int) := wri hlt (by omega)
   have hl : acc.length < 1759218604441 := by clear S S' ih ihd hs hl h3 hb hf; omega
   simp only [eachL.l0]
   rw [if_pos (lti hlt), if_pos (Int.natCast_nonneg i), if_pos (lti hlt), rd27 hlt, hw, binds_is]
   simp only [Option.bind_some, if_pos hl]
   rw [S'.wr]
  ·refine Ev.bind (ih _ (List.getElem_mem hlt) _ S') ?_
   have e : acc ++ liT c.by_ c.from t.f4[i] (inn + bn t.f0 i) :: liL c.by_ c.from t.f0 (i + 1) (t.f4.drop (i + 1)) inn = acc ++ [liT c.by_ c.from t.f4[i] (inn + bn t.f0 i)] ++ liL c.by_ c.from t.f0 (i + 1) (t.f4.drop (i + 1)) inn := by simp
   rw [e]
   simp only [mk27]
   exact ihd (i + 1) _ (by omega) (by omega) (by rw [List.length_append, List.length_singleton]; omega)
theorem eachL_is (c : LC) (hb : 0 ≤ c.by_) (hb2 : c.by_ ≤ 1099511627776) (hf : 0 ≤ c.from) (hf2 : c.from ≤ 1099511627776) {B : Int} {t : S27} (h : WhB B t) : ∀ inn, Small B inn t → Ev (fun k => eachL.f k t.f0 t.f1 t.f2 t.f3 t.f4 inn c) (tup (liT c.by_ c.from t inn)) := by
 induction h with
 | mk h0 h1 h2 h3 hl h4 hs ih =>
  rename_i t
  intro inn S
  have hB := S.b
  have hi0 := S.i0
  have hi1 := S.i1
  rw [liT_mk]
  by_cases hk : t.f0 = 0
  rotate_left
  ·refine Ev.step (f := fun k => eachL.l0 k inn c [] t.f4 (t.f4.length : Int) 0 t.f0 t.f1 t.f2 t.f3 t.f4) (fun k => ?_) ?_
   ·simp only [eachL.f]; rw [if_neg hk]
   ·have := eachL_loop c hb hf S (fun a ha j Sj => ih a ha j Sj) t.f4.length 0 [] (by omega) (by omega) (by simp)
    simp only [tup, if_neg hk]
    simpa using this
  have e := h0 hk
  refine Ev.step (f := fun k => (liftLeaf.f k t.f0 t.f1 t.f2 t.f3 t.f4 inn c).bind fun q => some (q.1, q.2.1, q.2.2.1, q.2.2.2.1, q.2.2.2.2)) (fun k => ?_) ?_
  ·simp only [eachL.f]; rw [if_pos hk]
  ·refine Ev.bind (a := (t.f0, (if t.f1 - inn ≥ c.from then t.f1 + c.by_ else t.f1), t.f2, t.f3, ([] : List S27))) ?_ ?_
   ·unfold liftLeaf.f
    have w1 : wrap64 (t.f1 - inn) = t.f1 - inn := wr (by omega) (by omega)
    have w2 : wrap64 (t.f1 + c.by_) = t.f1 + c.by_ := wr (by omega) (by omega)
    rw [w1, w2]
    by_cases hc : t.f1 - inn ≥ c.from
    rotate_left
    ·simp only [if_neg hc]; exact Ev.bind (bare_is _ _ _ _ h3 hl) (Ev.now _)
    simp only [if_pos hc]; exact Ev.bind (bare_is _ _ _ _ h3 hl) (Ev.now _)
   ·simp only [tup, hk, if_true, e, liL_nil]
    exact Ev.now _
theorem lift_is {b fr : Int} (hb : 0 ≤ b) (hb2 : b ≤ 1073741824) (hf : 0 ≤ fr) (hf2 : fr ≤ 1073741824) {B : Int} {t : S27} (S : Small B 0 t) : Ev (fun k => term_Lift.f k t.f0 t.f1 t.f2 t.f3 t.f4 b fr) (tup (liT b fr t 0)) := by
 have e : ∀ x : Int, 0 ≤ x → x ≤ 1073741824 → mn (mx x 0) 1073741824 = x := fun x h1 h2 => by unfold mn mx; (repeat' split) <;> omega
 have h := eachL_is (c := ⟨fr, b, 0, 0⟩) hb (by show b ≤ _; omega) hf (by show fr ≤ _; omega) S.wh 0 S
 simp only [term_Lift.f, e b hb hb2, e fr hf hf2]
 exact h
mutual
def puT (v : S27) : S27 → Int → S27
 | ⟨kd, n, nm, ls, ar⟩, inn => if kd = 0 then (if n = inn then liT inn 0 v 0 else ⟨kd, if n > inn then n - 1 else n, nm, ls, []⟩) else ⟨kd, n, nm, ls, puL v kd 0 ar inn⟩
def puL (v : S27) (kd : Int) : Nat → List S27 → Int → List S27
 | _, [], _ => []
 | i, a :: ar, inn => puT v a (inn + bn kd i) :: puL v kd (i + 1) ar inn
end
theorem puT_mk (v t : S27) (inn : Int) : puT v t inn = if t.f0 = 0 then (if t.f1 = inn then liT inn 0 v 0 else ⟨t.f0, if t.f1 > inn then t.f1 - 1 else t.f1, t.f2, t.f3, []⟩) else ⟨t.f0, t.f1, t.f2, t.f3, puL v t.f0 0 t.f4 inn⟩ := by cases t; rw [puT]
theorem puL_cons (v : S27) (kd : Int) (i : Nat) (a : S27) (ar : List S27) (inn : Int) : puL v kd i (a :: ar) inn = puT v a (inn + bn kd i) :: puL v kd (i + 1) ar inn := by rw [puL]
theorem puL_nil (v : S27) (kd : Int) (i : Nat) (inn : Int) : puL v kd i [] inn = [] := by rw [puL]
theorem eachP_loop (c : PC) (v : S27) {B inn : Int} {t : S27} (S : Small B inn t) (ih : ∀ a ∈ t.f4, ∀ j, Small B j a → Ev (fun k => eachP.f k a.f0 a.f1 a.f2 a.f3 a.f4 j c) (tup (puT v a j))) :
  ∀ d (i : Nat) (acc : List S27), t.f4.length - i = d → i ≤ t.f4.length → acc.length ≤ 100 + i → Ev (fun k => eachP.l0 k inn c acc t.f4 (t.f4.length : Int) (i : Int) t.f0 t.f1 t.f2 t.f3 t.f4) (t.f0, t.f1, t.f2, t.f3, acc ++ puL v t.f0 i (t.f4.drop i) inn) := by
 obtain ⟨h0, h1, h2, h3, hl, h4, hs⟩ := S.wh.parts
 intro d
 induction d with
 | zero =>
  intro i acc hd hi ha
  have e : t.f4.drop i = [] := List.drop_eq_nil_of_le (by omega)
  rw [e, puL_nil, List.append_nil]
  refine Ev.step (f := fun k => (term_levels.f k t.f3 []).bind fun q => some (t.f0, t.f1, t.f2, q, acc)) (fun k => ?_) (Ev.bind (levels_is h3 hl) (Ev.now _))
  simp only [eachP.l0]
  rw [if_neg (nlti (by omega))]
 | succ d ihd =>
  intro i acc hd hi ha
  have hlt : i < t.f4.length := by omega
  have S' := S.arg (List.getElem_mem hlt) t.f0 i
  rw [drop_get hlt, puL_cons]
  refine Ev.step (f := fun k => (eachP.f k (t.f4[i]).f0 (t.f4[i]).f1 (t.f4[i]).f2 (t.f4[i]).f3 (t.f4[i]).f4 (inn + bn t.f0 i) c).bind fun q => eachP.l0 k inn c (acc ++ [(⟨q.1, q.2.1, q.2.2.1, q.2.2.2.1, q.2.2.2.2⟩ : S27)]) t.f4 (t.f4.length : Int) ((i + 1 : Nat) : Int) t.f0 t.f1 t.f2 t.f3 t.f4) (fun k => ?_) ?_
  ·have hw : wrap64 ((i : Int) + 1) = ((i + 1 : Nat) : Int) := wri hlt (by omega)
   have hl : acc.length < 1759218604441 := by clear S S' ih ihd hs hl h3; omega
   simp only [eachP.l0]
   rw [if_pos (lti hlt), if_pos (Int.natCast_nonneg i), if_pos (lti hlt), rd27 hlt, hw, binds_is]
   simp only [Option.bind_some, if_pos hl]
   rw [S'.wr]
  ·refine Ev.bind (ih _ (List.getElem_mem hlt) _ S') ?_
   have e : acc ++ puT v t.f4[i] (inn + bn t.f0 i) :: puL v t.f0 (i + 1) (t.f4.drop (i + 1)) inn = acc ++ [puT v t.f4[i] (inn + bn t.f0 i)] ++ puL v t.f0 (i + 1) (t.f4.drop (i + 1)) inn := by simp
   rw [e]
   simp only [mk27]
   exact ihd (i + 1) _ (by omega) (by omega) (by rw [List.length_append, List.length_singleton]; omega)
theorem eachP_is (c : PC) {Bv : Int} (Sv : Small Bv 0 ⟨c.x0, c.x1, c.x2, c.l3, c.l4⟩) {B : Int} {t : S27} (h : WhB B t) : ∀ inn, Small B inn t → Ev (fun k => eachP.f k t.f0 t.f1 t.f2 t.f3 t.f4 inn c) (tup (puT ⟨c.x0, c.x1, c.x2, c.l3, c.l4⟩ t inn)) := by
 induction h with
 | mk h0 h1 h2 h3 hl h4 hs ih =>
  rename_i t
  intro inn S
  have hB := S.b
  have hi0 := S.i0
  have hi1 := S.i1
  have hp := sz_pos t
  rw [puT_mk]
  by_cases hk : t.f0 = 0
  rotate_left
  ·refine Ev.step (f := fun k => eachP.l0 k inn c [] t.f4 (t.f4.length : Int) 0 t.f0 t.f1 t.f2 t.f3 t.f4) (fun k => ?_) ?_
   ·simp only [eachP.f]; rw [if_neg hk]
   ·have := eachP_loop c ⟨c.x0, c.x1, c.x2, c.l3, c.l4⟩ S (fun a ha j Sj => ih a ha j Sj) t.f4.length 0 [] (by omega) (by omega) (by simp)
    simp only [tup, if_neg hk]
    simpa using this
  have e := h0 hk
  refine Ev.step (f := fun k => (putLeaf.f k t.f0 t.f1 t.f2 t.f3 t.f4 inn c).bind fun q => some (q.1, q.2.1, q.2.2.1, q.2.2.2.1, q.2.2.2.2)) (fun k => ?_) ?_
  ·simp only [eachP.f]; rw [if_pos hk]
  ·rw [if_pos hk]
   unfold putLeaf.f
   by_cases h5 : t.f1 = inn
   ·simp only [if_pos h5]
    exact Ev.bind (Ev.bind (lift_is (b := inn) (fr := 0) hi0 (by omega) (by omega) (by omega) Sv) (Ev.now _)) (Ev.now _)
   simp only [if_neg h5]
   have w2 : wrap64 (t.f1 - 1) = t.f1 - 1 := wr (by omega) (by omega)
   rw [w2]
   by_cases h6 : t.f1 > inn
   rotate_left
   ·simp only [if_neg h6]; exact Ev.bind (Ev.bind (bare_is _ _ _ _ h3 hl) (Ev.now _)) (Ev.now _)
   simp only [if_pos h6]; exact Ev.bind (Ev.bind (bare_is _ _ _ _ h3 hl) (Ev.now _)) (Ev.now _)
theorem put_is {B Bv : Int} {t v : S27} (S : Small B 0 t) (Sv : Small Bv 0 v) : Ev (fun k => term_Put.f k t.f0 t.f1 t.f2 t.f3 t.f4 v.f0 v.f1 v.f2 v.f3 v.f4) (tup (puT v t 0)) := by
 have e : (⟨v.f0, v.f1, v.f2, v.f3, v.f4⟩ : S27) = v := by cases v; rfl
 have h := eachP_is (⟨v.f0, v.f1, v.f2, none, 0, v.f3, none, 0, v.f4, 0⟩ : PC) (Bv := Bv) (by show Small Bv 0 ⟨v.f0, v.f1, v.f2, v.f3, v.f4⟩; rw [e]; exact Sv) S.wh 0 S
 have h' : Ev (fun k => term_Put.f k t.f0 t.f1 t.f2 t.f3 t.f4 v.f0 v.f1 v.f2 v.f3 v.f4) (tup (puT ⟨v.f0, v.f1, v.f2, v.f3, v.f4⟩ t 0)) := h
 rwa [e] at h'
theorem leq_loop (x : S76) (hx : x.f2.length * 40 ≤ 140737488351232) (ih : ∀ y ∈ x.f2, Ev (fun k => touchstoneref4_Equal.f k y.f0 y.f1 y.f2 y.f0 y.f1 y.f2) true) :
  ∀ d (i : Nat), x.f2.length - i = d → i ≤ x.f2.length → Ev (fun k => touchstoneref4_Equal.l0 k (i : Int) x.f0 x.f1 x.f2 x.f0 x.f1 x.f2) true := by
 intro d
 induction d with
 | zero =>
  intro i hd hi
  refine Ev.step (f := fun _ => some true) (fun k => ?_) (Ev.now _)
  simp only [touchstoneref4_Equal.l0]
  rw [if_neg (nlti (by omega))]
 | succ d ihd =>
  intro i hd hi
  have hlt : i < x.f2.length := by omega
  refine Ev.step (f := fun k => (touchstoneref4_Equal.f k (x.f2[i]).f0 (x.f2[i]).f1 (x.f2[i]).f2 (x.f2[i]).f0 (x.f2[i]).f1 (x.f2[i]).f2).bind fun q => if q = true then touchstoneref4_Equal.l0 k ((i + 1 : Nat) : Int) x.f0 x.f1 x.f2 x.f0 x.f1 x.f2 else some false) (fun k => ?_) ?_
  ·have hw : wrap64 ((i : Int) + 1) = ((i + 1 : Nat) : Int) := wri hlt (by omega)
   simp only [touchstoneref4_Equal.l0]
   rw [if_pos (lti hlt), if_pos (Int.natCast_nonneg i), if_pos (lti hlt), rd76 hlt, hw]
  ·refine Ev.bind (ih _ (List.getElem_mem hlt)) ?_
   simp only [if_true]
   exact ihd (i + 1) (by omega) (by omega)
theorem leq_is {x : S76} (h : Ok76 x) : Ev (fun k => touchstoneref4_Equal.f k x.f0 x.f1 x.f2 x.f0 x.f1 x.f2) true := by
 induction h with
 | mk w0 w1 h2 hs ih =>
  rename_i x
  refine Ev.step (f := fun k => touchstoneref4_Equal.j0 k false x.f0 x.f1 x.f2 x.f0 x.f1 x.f2) (fun k => ?_) ?_
  ·simp only [touchstoneref4_Equal.f, if_true, bne_self_eq_false]
  ·refine Ev.step (f := fun k => touchstoneref4_Equal.l0 k 0 x.f0 x.f1 x.f2 x.f0 x.f1 x.f2) (fun k => ?_) ?_
   ·simp only [touchstoneref4_Equal.j0]
    rw [if_neg (by decide)]
   ·exact leq_loop x h2 ih x.f2.length 0 (by omega) (by omega)
theorem teq_loop1 {B : Int} {t : S27} (h : WhB B t) (ih : ∀ a ∈ t.f4, Ev (fun k => touchstoneref5_Equal.f k a.f0 a.f1 a.f2 a.f3 a.f4 a.f0 a.f1 a.f2 a.f3 a.f4) true) :
  ∀ d (i : Nat), t.f4.length - i = d → i ≤ t.f4.length → Ev (fun k => touchstoneref5_Equal.l1 k (i : Int) t.f0 t.f1 t.f2 t.f3 t.f4 t.f0 t.f1 t.f2 t.f3 t.f4) true := by
 obtain ⟨h0, h1, h2, h3, hl, h4, hs⟩ := h.parts
 intro d
 induction d with
 | zero =>
  intro i hd hi
  refine Ev.step (f := fun _ => some true) (fun k => ?_) (Ev.now _)
  simp only [touchstoneref5_Equal.l1]
  rw [if_neg (nlti (by omega))]
 | succ d ihd =>
  intro i hd hi
  have hlt : i < t.f4.length := by omega
  refine Ev.step (f := fun k => (touchstoneref5_Equal.f k (t.f4[i]).f0 (t.f4[i]).f1 (t.f4[i]).f2 (t.f4[i]).f3 (t.f4[i]).f4 (t.f4[i]).f0 (t.f4[i]).f1 (t.f4[i]).f2 (t.f4[i]).f3 (t.f4[i]).f4).bind fun q => if q = true then touchstoneref5_Equal.l1 k ((i + 1 : Nat) : Int) t.f0 t.f1 t.f2 t.f3 t.f4 t.f0 t.f1 t.f2 t.f3 t.f4 else some false) (fun k => ?_) ?_
  ·have hw : wrap64 ((i : Int) + 1) = ((i + 1 : Nat) : Int) := wri hlt (by omega)
   simp only [touchstoneref5_Equal.l1]
   rw [if_pos (lti hlt), if_pos (Int.natCast_nonneg i), if_pos (lti hlt), rd27 hlt, hw]
  ·refine Ev.bind (ih _ (List.getElem_mem hlt)) ?_
   simp only [if_true]
   exact ihd (i + 1) (by omega) (by omega)
theorem teq_loop0 {B : Int} {t : S27} (h : WhB B t) (ih : ∀ a ∈ t.f4, Ev (fun k => touchstoneref5_Equal.f k a.f0 a.f1 a.f2 a.f3 a.f4 a.f0 a.f1 a.f2 a.f3 a.f4) true) :
  ∀ d (i : Nat), t.f3.length - i = d → i ≤ t.f3.length → Ev (fun k => touchstoneref5_Equal.l0 k (i : Int) t.f0 t.f1 t.f2 t.f3 t.f4 t.f0 t.f1 t.f2 t.f3 t.f4) true := by
 obtain ⟨h0, h1, h2, h3, hl, h4, hs⟩ := h.parts
 intro d
 induction d with
 | zero =>
  intro i hd hi
  refine Ev.step (f := fun k => touchstoneref5_Equal.l1 k 0 t.f0 t.f1 t.f2 t.f3 t.f4 t.f0 t.f1 t.f2 t.f3 t.f4) (fun k => ?_) (teq_loop1 h ih t.f4.length 0 (by omega) (by omega))
  simp only [touchstoneref5_Equal.l0]
  rw [if_neg (nlti (by omega))]
 | succ d ihd =>
  intro i hd hi
  have hlt : i < t.f3.length := by omega
  refine Ev.step (f := fun k => (touchstoneref4_Equal.f k (t.f3[i]).f0 (t.f3[i]).f1 (t.f3[i]).f2 (t.f3[i]).f0 (t.f3[i]).f1 (t.f3[i]).f2).bind fun q => if q = true then touchstoneref5_Equal.l0 k ((i + 1 : Nat) : Int) t.f0 t.f1 t.f2 t.f3 t.f4 t.f0 t.f1 t.f2 t.f3 t.f4 else some false) (fun k => ?_) ?_
  ·have hw : wrap64 ((i : Int) + 1) = ((i + 1 : Nat) : Int) := wri hlt (by omega)
   simp only [touchstoneref5_Equal.l0]
   rw [if_pos (lti hlt), if_pos (Int.natCast_nonneg i), if_pos (lti hlt), rd76 hlt, hw]
  ·refine Ev.bind (leq_is (hl _ (List.getElem_mem hlt))) ?_
   simp only [if_true]
   exact ihd (i + 1) (by omega) (by omega)
theorem teq_is {B : Int} {t : S27} (h : WhB B t) : Ev (fun k => touchstoneref5_Equal.f k t.f0 t.f1 t.f2 t.f3 t.f4 t.f0 t.f1 t.f2 t.f3 t.f4) true := by
 induction h with
 | mk h0 h1 h2 h3 hl h4 hs ih =>
  rename_i t
  refine Ev.step (f := fun k => touchstoneref5_Equal.j0 k false t.f0 t.f1 t.f2 t.f3 t.f4 t.f0 t.f1 t.f2 t.f3 t.f4) (fun k => ?_) ?_
  ·simp only [touchstoneref5_Equal.f, if_true, bne_self_eq_false]
  ·refine Ev.step (f := fun k => touchstoneref5_Equal.l0 k 0 t.f0 t.f1 t.f2 t.f3 t.f4 t.f0 t.f1 t.f2 t.f3 t.f4) (fun k => ?_) ?_
   ·simp only [touchstoneref5_Equal.j0]
    rw [if_neg (by decide)]
   ·exact teq_loop0 (.mk h0 h1 h2 h3 hl h4 hs) ih t.f3.length 0 (by omega) (by omega)
end Go.Proofs.Ytpejhapgffcngaa.QK

