/- Levels put into a term, the document's Put and Lift, as trees: the program's and the document's are one. -/
import Derived.Test.YtpejhapgffcngaaXShort
import Derived.Test.YtpejhapgffcngaaQKTurnsPure
import Derived.Test.YtpejhapgffcngaaQKx3
import Derived.Test.YtpejhapgffcngaaQKx7
import Derived.Test.YtpejhapgffcngaaQKx8
import Derived.Test.YtpejhapgffcngaaQKx6
import Derived.Test.YtpejhapgffcngaaQKx14
import Derived.Test.YtpejhapgffcngaaQKx15
import Derived.Test.YtpejhapgffcngaaQKx13
set_option linter.unusedVariables false
set_option linter.unusedSimpArgs false
namespace Go.Proofs.Ytpejhapgffcngaa.QK
open Go.RowKit Go.Proofs.YtpejhapgffcngaaW.PrintWords Go.Proofs.YtpejhapgffcngaaW.PrintLast Go.Proofs.YtpejhapgffcngaaW.PrintMore
mutual
def lvP (by_ : List S76) : S76 → S76
 | ⟨kd, n, ar⟩ => if kd = 4 ∧ 0 ≤ n ∧ n < (by_.length : Int) then rd_T76 by_ n else ⟨kd, n, lvPL by_ ar⟩
def lvPL (by_ : List S76) : List S76 → List S76
 | [] => []
 | a :: ar => lvP by_ a :: lvPL by_ ar
end
theorem lvP_mk (by_ : List S76) (x : S76) : lvP by_ x = if x.f0 = 4 ∧ 0 ≤ x.f1 ∧ x.f1 < (by_.length : Int) then rd_T76 by_ x.f1 else ⟨x.f0, x.f1, lvPL by_ x.f2⟩ := by cases x; rw [lvP]
theorem lvPL_cons (by_ : List S76) (a : S76) (ar : List S76) : lvPL by_ (a :: ar) = lvP by_ a :: lvPL by_ ar := by rw [lvPL]
theorem lvPL_nil (by_ : List S76) : lvPL by_ [] = [] := by rw [lvPL]
theorem lvPL_len (by_ : List S76) : ∀ ar : List S76, (lvPL by_ ar).length = ar.length
 | [] => by rw [lvPL_nil]
 | a :: ar => by rw [lvPL_cons, List.length_cons, List.length_cons, lvPL_len by_ ar]
theorem lvPL_mem {by_ : List S76} {x : S76} : ∀ ar : List S76, x ∈ lvPL by_ ar → ∃ a ∈ ar, x = lvP by_ a
 | [], h => by rw [lvPL_nil] at h; cases h
 | a :: ar, h => by
  rw [lvPL_cons] at h
  rcases List.mem_cons.1 h with rfl | h
  ·exact ⟨a, List.mem_cons_self .., rfl⟩
  ·obtain ⟨b, hb, e⟩ := lvPL_mem ar h
   exact ⟨b, List.mem_cons_of_mem _ hb, e⟩
mutual
def lvT (by_ : List S76) : S27 → S27
 | ⟨kd, n, nm, ls, ar⟩ => ⟨kd, n, nm, lvPL by_ ls, lvTL by_ ar⟩
def lvTL (by_ : List S76) : List S27 → List S27
 | [] => []
 | a :: ar => lvT by_ a :: lvTL by_ ar
end
theorem lvT_mk (by_ : List S76) (t : S27) : lvT by_ t = ⟨t.f0, t.f1, t.f2, lvPL by_ t.f3, lvTL by_ t.f4⟩ := by cases t; rw [lvT]
theorem lvTL_cons (by_ : List S76) (a : S27) (ar : List S27) : lvTL by_ (a :: ar) = lvT by_ a :: lvTL by_ ar := by rw [lvTL]
theorem lvTL_nil (by_ : List S76) : lvTL by_ [] = [] := by rw [lvTL]
theorem lvTL_len (by_ : List S76) : ∀ ar : List S27, (lvTL by_ ar).length = ar.length
 | [] => by rw [lvTL_nil]
 | a :: ar => by rw [lvTL_cons, List.length_cons, List.length_cons, lvTL_len by_ ar]
theorem lvTL_mem {by_ : List S76} {x : S27} : ∀ ar : List S27, x ∈ lvTL by_ ar → ∃ a ∈ ar, x = lvT by_ a
 | [], h => by rw [lvTL_nil] at h; cases h
 | a :: ar, h => by
  rw [lvTL_cons] at h
  rcases List.mem_cons.1 h with rfl | h
  ·exact ⟨a, List.mem_cons_self .., rfl⟩
  ·obtain ⟨b, hb, e⟩ := lvTL_mem ar h
   exact ⟨b, List.mem_cons_of_mem _ hb, e⟩
theorem rd76_mem {xs : List S76} {n : Int} (h0 : 0 ≤ n) (h1 : n < (xs.length : Int)) : rd_T76 xs n ∈ xs := by
 obtain ⟨m, rfl⟩ : ∃ m : Nat, n = (m : Int) := ⟨n.toNat, by omega⟩
 rw [rd76 (by omega)]
 exact List.getElem_mem _
theorem Ok76.parts {x : S76} (h : Ok76 x) : (Lit.int .i64 x.f0).wf = true ∧ (Lit.int .i64 x.f1).wf = true ∧ x.f2.length * 40 ≤ 140737488351232 ∧ ∀ y ∈ x.f2, Ok76 y := by
 cases h with
 | mk w0 w1 h2 hs => exact ⟨w0, w1, h2, hs⟩
theorem lvP_ok {by_ : List S76} (hby : ∀ l ∈ by_, Ok76 l) {x : S76} (h : Ok76 x) : Ok76 (lvP by_ x) := by
 induction h with
 | mk w0 w1 h2 hs ih =>
  rename_i x
  rw [lvP_mk]
  split
  ·rename_i hc
   exact hby _ (rd76_mem hc.2.1 hc.2.2)
  ·refine .mk w0 w1 (by show (lvPL by_ x.f2).length * 40 ≤ _; rw [lvPL_len]; exact h2) (fun y hy => ?_)
   obtain ⟨a, ha, rfl⟩ := lvPL_mem x.f2 hy
   exact ih a ha
theorem lvT_wh {by_ : List S76} (hby : ∀ l ∈ by_, Ok76 l) {B : Int} {t : S27} (h : WhB B t) : WhB B (lvT by_ t) := by
 induction h with
 | mk h0 h1 h2 h3 hl h4 hs ih =>
  rename_i t
  rw [lvT_mk]
  refine .mk (fun e => ?_) h1 h2 (by show (lvPL by_ t.f3).length * 40 ≤ _; rw [lvPL_len]; exact h3) (fun l hm => ?_) (by show (lvTL by_ t.f4).length ≤ _; rw [lvTL_len]; exact h4) (fun a ha => ?_)
  ·show lvTL by_ t.f4 = []
   rw [h0 e, lvTL_nil]
  ·obtain ⟨a, ha, rfl⟩ := lvPL_mem t.f3 hm
   exact lvP_ok hby (hl a ha)
  ·obtain ⟨b, hb, rfl⟩ := lvTL_mem t.f4 ha
   exact ih b hb
theorem bput_loop {by_ : List S76} (x : S76) (hx : x.f2.length * 40 ≤ 140737488351232) (ih : ∀ y ∈ x.f2, Ev (fun k => level_Put.f k y.f0 y.f1 y.f2 by_) (tup6 (lvP by_ y))) :
  ∀ d (i : Nat) (acc : List S76), x.f2.length - i = d → i ≤ x.f2.length → acc.length = i → Ev (fun k => level_Put.l0 k by_ acc x.f2 (x.f2.length : Int) (i : Int) x.f0 x.f1 x.f2) (x.f0, x.f1, acc ++ lvPL by_ (x.f2.drop i)) := by
 intro d
 induction d with
 | zero =>
  intro i acc hd hi ha
  have e : x.f2.drop i = [] := List.drop_eq_nil_of_le (by omega)
  rw [e, lvPL_nil, List.append_nil]
  refine Ev.step (f := fun _ => some (x.f0, x.f1, acc)) (fun k => ?_) (Ev.now _)
  simp only [level_Put.l0]
  rw [if_neg (nlti (by omega))]
 | succ d ihd =>
  intro i acc hd hi ha
  have hlt : i < x.f2.length := by omega
  rw [drop_get hlt, lvPL_cons]
  refine Ev.step (f := fun k => (level_Put.f k (x.f2[i]).f0 (x.f2[i]).f1 (x.f2[i]).f2 by_).bind fun q => level_Put.l0 k by_ (acc ++ [(⟨q.1, q.2.1, q.2.2⟩ : S76)]) x.f2 (x.f2.length : Int) ((i + 1 : Nat) : Int) x.f0 x.f1 x.f2) (fun k => ?_) ?_
  ·have hw : wrap64 ((i : Int) + 1) = ((i + 1 : Nat) : Int) := wri hlt (by omega)
   have hl : acc.length < 3518437208883 := by clear ih ihd; omega
   simp only [level_Put.l0]
   rw [if_pos (lti hlt), if_pos (Int.natCast_nonneg i), if_pos (lti hlt), rd76 hlt, hw]
   simp only [if_pos hl]
  ·refine Ev.bind (ih _ (List.getElem_mem hlt)) ?_
   have e : acc ++ lvP by_ x.f2[i] :: lvPL by_ (x.f2.drop (i + 1)) = acc ++ [lvP by_ x.f2[i]] ++ lvPL by_ (x.f2.drop (i + 1)) := by simp
   rw [e]
   simp only [mk6]
   exact ihd (i + 1) _ (by omega) (by omega) (by rw [List.length_append, List.length_singleton, ha])
theorem bput_is {by_ : List S76} (hby : ∀ l ∈ by_, Ok76 l) {x : S76} (h : Ok76 x) : Ev (fun k => level_Put.f k x.f0 x.f1 x.f2 by_) (tup6 (lvP by_ x)) := by
 induction h with
 | mk w0 w1 h2 hs ih =>
  rename_i x
  rw [lvP_mk]
  have hN : ∀ b, b = false → Ev (fun k => level_Put.j0 k by_ b x.f0 x.f1 x.f2) (tup6 (⟨x.f0, x.f1, lvPL by_ x.f2⟩ : S76)) := fun b e => by
   subst e
   refine Ev.step (f := fun k => level_Put.l0 k by_ [] x.f2 (x.f2.length : Int) 0 x.f0 x.f1 x.f2) (fun k => ?_) ?_
   ·simp only [level_Put.j0]
    rw [if_neg (by decide)]
   ·have := bput_loop x h2 ih x.f2.length 0 [] (by omega) (by omega) rfl
    simpa [tup6] using this
  by_cases h4 : x.f0 = 4
  rotate_left
  ·rw [if_neg (fun c => h4 c.1)]
   refine Ev.step (f := fun k => level_Put.j0 k by_ false x.f0 x.f1 x.f2) (fun k => ?_) (hN _ rfl)
   simp only [level_Put.f]; rw [if_neg h4]
  by_cases h0 : x.f1 ≥ 0
  rotate_left
  ·rw [if_neg (fun c => h0 c.2.1)]
   refine Ev.step (f := fun k => level_Put.j0 k by_ false x.f0 x.f1 x.f2) (fun k => ?_) (hN _ rfl)
   simp only [level_Put.f]; rw [if_pos h4, if_neg h0]
  by_cases h1 : x.f1 < (by_.length : Int)
  rotate_left
  ·rw [if_neg (fun c => h1 c.2.2)]
   refine Ev.step (f := fun k => level_Put.j0 k by_ false x.f0 x.f1 x.f2) (fun k => ?_) (hN _ rfl)
   simp only [level_Put.f]; rw [if_pos h4, if_pos h0, decide_eq_false h1]
  rw [if_pos ⟨h4, h0, h1⟩]
  refine Ev.step (f := fun k => level_Put.j0 k by_ true x.f0 x.f1 x.f2) (fun k => ?_) ?_
  ·simp only [level_Put.f]; rw [if_pos h4, if_pos h0, decide_eq_true h1]
  ·refine Ev.step (f := fun k => (level_Put.f k (rd_T76 by_ x.f1).f0 (rd_T76 by_ x.f1).f1 (rd_T76 by_ x.f1).f2 []).bind fun q => some (q.1, q.2.1, q.2.2)) (fun k => ?_) (Ev.bind (lput_is (hby _ (rd76_mem h0 h1))) (Ev.now _))
   simp only [level_Put.j0]
   rw [if_pos trivial, if_pos (show 0 ≤ x.f1 from h0), if_pos h1]
theorem blevels_loop {by_ : List S76} (hby : ∀ l ∈ by_, Ok76 l) (ls : List S76) (hx : ls.length * 40 ≤ 140737488351232) (hl : ∀ l ∈ ls, Ok76 l) :
  ∀ d (i : Nat) (acc : List S76), ls.length - i = d → i ≤ ls.length → acc.length = i → Ev (fun k => term_levels.l0 k by_ acc ls (ls.length : Int) (i : Int)) (acc ++ lvPL by_ (ls.drop i)) := by
 intro d
 induction d with
 | zero =>
  intro i acc hd hi ha
  have e : ls.drop i = [] := List.drop_eq_nil_of_le (by omega)
  rw [e, lvPL_nil, List.append_nil]
  refine Ev.step (f := fun _ => some acc) (fun k => ?_) (Ev.now _)
  simp only [term_levels.l0]
  rw [if_neg (nlti (by omega))]
 | succ d ihd =>
  intro i acc hd hi ha
  have hlt : i < ls.length := by omega
  rw [drop_get hlt, lvPL_cons]
  refine Ev.step (f := fun k => (level_Put.f k (ls[i]).f0 (ls[i]).f1 (ls[i]).f2 by_).bind fun q => term_levels.l0 k by_ (acc ++ [(⟨q.1, q.2.1, q.2.2⟩ : S76)]) ls (ls.length : Int) ((i + 1 : Nat) : Int)) (fun k => ?_) ?_
  ·have hw : wrap64 ((i : Int) + 1) = ((i + 1 : Nat) : Int) := wri hlt (by omega)
   have hl : acc.length < 3518437208883 := by clear ihd; omega
   simp only [term_levels.l0]
   rw [if_pos (lti hlt), if_pos (Int.natCast_nonneg i), if_pos (lti hlt), rd76 hlt, hw]
   simp only [if_pos hl]
  ·refine Ev.bind (bput_is hby (hl _ (List.getElem_mem hlt))) ?_
   have e : acc ++ lvP by_ ls[i] :: lvPL by_ (ls.drop (i + 1)) = acc ++ [lvP by_ ls[i]] ++ lvPL by_ (ls.drop (i + 1)) := by simp
   rw [e]
   simp only [mk6]
   exact ihd (i + 1) _ (by omega) (by omega) (by rw [List.length_append, List.length_singleton, ha])
theorem blevels_is {by_ : List S76} (hby : ∀ l ∈ by_, Ok76 l) {ls : List S76} (hx : ls.length * 40 ≤ 140737488351232) (hl : ∀ l ∈ ls, Ok76 l) : Ev (fun k => term_levels.f k ls by_) (lvPL by_ ls) := by
 have := blevels_loop hby ls hx hl ls.length 0 [] (by omega) (by omega) rfl
 simpa [term_levels.f] using this
theorem tlevels_loop {by_ : List S76} (hby : ∀ l ∈ by_, Ok76 l) {B : Int} {t : S27} (h : WhB B t) (ih : ∀ a ∈ t.f4, Ev (fun k => term_Levels.f k a.f0 a.f1 a.f2 a.f3 a.f4 by_) (tup (lvT by_ a))) :
  ∀ d (i : Nat) (acc : List S27), t.f4.length - i = d → i ≤ t.f4.length → acc.length = i → Ev (fun k => term_Levels.l0 k by_ acc t.f4 (t.f4.length : Int) (i : Int) t.f0 t.f1 t.f2 t.f3 t.f4) (t.f0, t.f1, t.f2, lvPL by_ t.f3, acc ++ lvTL by_ (t.f4.drop i)) := by
 obtain ⟨h0, h1, h2, h3, hl, h4, hs⟩ := h.parts
 intro d
 induction d with
 | zero =>
  intro i acc hd hi ha
  have e : t.f4.drop i = [] := List.drop_eq_nil_of_le (by omega)
  rw [e, lvTL_nil, List.append_nil]
  refine Ev.step (f := fun k => (term_levels.f k t.f3 by_).bind fun q => some (t.f0, t.f1, t.f2, q, acc)) (fun k => ?_) (Ev.bind (blevels_is hby h3 hl) (Ev.now _))
  simp only [term_Levels.l0]
  rw [if_neg (nlti (by omega))]
 | succ d ihd =>
  intro i acc hd hi ha
  have hlt : i < t.f4.length := by omega
  rw [drop_get hlt, lvTL_cons]
  refine Ev.step (f := fun k => (term_Levels.f k (t.f4[i]).f0 (t.f4[i]).f1 (t.f4[i]).f2 (t.f4[i]).f3 (t.f4[i]).f4 by_).bind fun q => term_Levels.l0 k by_ (acc ++ [(⟨q.1, q.2.1, q.2.2.1, q.2.2.2.1, q.2.2.2.2⟩ : S27)]) t.f4 (t.f4.length : Int) ((i + 1 : Nat) : Int) t.f0 t.f1 t.f2 t.f3 t.f4) (fun k => ?_) ?_
  ·have hw : wrap64 ((i : Int) + 1) = ((i + 1 : Nat) : Int) := wri hlt (by omega)
   have hl : acc.length < 1759218604441 := by clear ih ihd hs hl h3; omega
   simp only [term_Levels.l0]
   rw [if_pos (lti hlt), if_pos (Int.natCast_nonneg i), if_pos (lti hlt), rd27 hlt, hw]
   simp only [if_pos hl]
  ·refine Ev.bind (ih _ (List.getElem_mem hlt)) ?_
   have e : acc ++ lvT by_ t.f4[i] :: lvTL by_ (t.f4.drop (i + 1)) = acc ++ [lvT by_ t.f4[i]] ++ lvTL by_ (t.f4.drop (i + 1)) := by simp
   rw [e]
   simp only [mk27]
   exact ihd (i + 1) _ (by omega) (by omega) (by rw [List.length_append, List.length_singleton, ha])
theorem tlevels_is {by_ : List S76} (hby : ∀ l ∈ by_, Ok76 l) {B : Int} {t : S27} (h : WhB B t) : Ev (fun k => term_Levels.f k t.f0 t.f1 t.f2 t.f3 t.f4 by_) (tup (lvT by_ t)) := by
 induction h with
 | mk h0 h1 h2 h3 hl h4 hs ih =>
  rename_i t
  rw [lvT_mk]
  refine Ev.step (f := fun k => term_Levels.l0 k by_ [] t.f4 (t.f4.length : Int) 0 t.f0 t.f1 t.f2 t.f3 t.f4) (fun k => by simp only [term_Levels.f]) ?_
  have := tlevels_loop hby (.mk h0 h1 h2 h3 hl h4 hs) ih t.f4.length 0 [] (by omega) (by omega) rfl
  simpa [tup] using this
theorem qput_loop {by_ : List S76} (x : S76) (hx : x.f2.length * 40 ≤ 140737488351232) (ih : ∀ y ∈ x.f2, Ev (fun k => touchstoneref4_Put.f k y.f0 y.f1 y.f2 by_) (tup6 (lvP by_ y))) :
  ∀ d (i : Nat) (acc : List S76), x.f2.length - i = d → i ≤ x.f2.length → acc.length = i → Ev (fun k => touchstoneref4_Put.l0 k by_ (i : Int) x.f0 x.f1 x.f2 x.f0 x.f1 acc) (x.f0, x.f1, acc ++ lvPL by_ (x.f2.drop i)) := by
 intro d
 induction d with
 | zero =>
  intro i acc hd hi ha
  have e : x.f2.drop i = [] := List.drop_eq_nil_of_le (by omega)
  rw [e, lvPL_nil, List.append_nil]
  refine Ev.step (f := fun _ => some (x.f0, x.f1, acc)) (fun k => ?_) (Ev.now _)
  simp only [touchstoneref4_Put.l0]
  rw [if_neg (nlti (by omega))]
 | succ d ihd =>
  intro i acc hd hi ha
  have hlt : i < x.f2.length := by omega
  rw [drop_get hlt, lvPL_cons]
  refine Ev.step (f := fun k => (touchstoneref4_Put.f k (x.f2[i]).f0 (x.f2[i]).f1 (x.f2[i]).f2 by_).bind fun q => touchstoneref4_Put.l0 k by_ ((i + 1 : Nat) : Int) x.f0 x.f1 x.f2 x.f0 x.f1 (acc ++ [(⟨q.1, q.2.1, q.2.2⟩ : S76)])) (fun k => ?_) ?_
  ·have hw : wrap64 ((i : Int) + 1) = ((i + 1 : Nat) : Int) := wri hlt (by omega)
   have hl : acc.length < 3518437208883 := by clear ih ihd; omega
   simp only [touchstoneref4_Put.l0]
   rw [if_pos (lti hlt), if_pos (Int.natCast_nonneg i), rd76 hlt, hw]
   simp only [if_pos hl]
  ·refine Ev.bind (ih _ (List.getElem_mem hlt)) ?_
   have e : acc ++ lvP by_ x.f2[i] :: lvPL by_ (x.f2.drop (i + 1)) = acc ++ [lvP by_ x.f2[i]] ++ lvPL by_ (x.f2.drop (i + 1)) := by simp
   rw [e]
   simp only [mk6]
   exact ihd (i + 1) _ (by omega) (by omega) (by rw [List.length_append, List.length_singleton, ha])
theorem qput_is {by_ : List S76} (hby : ∀ l ∈ by_, Ok76 l) {x : S76} (h : Ok76 x) : Ev (fun k => touchstoneref4_Put.f k x.f0 x.f1 x.f2 by_) (tup6 (lvP by_ x)) := by
 induction h with
 | mk w0 w1 h2 hs ih =>
  rename_i x
  rw [lvP_mk]
  have hN : ∀ b, b = false → Ev (fun k => touchstoneref4_Put.j0 k by_ b x.f0 x.f1 x.f2) (tup6 (⟨x.f0, x.f1, lvPL by_ x.f2⟩ : S76)) := fun b e => by
   subst e
   refine Ev.step (f := fun k => touchstoneref4_Put.l0 k by_ 0 x.f0 x.f1 x.f2 x.f0 x.f1 []) (fun k => ?_) ?_
   ·simp only [touchstoneref4_Put.j0]
    rw [if_neg (by decide)]
   ·have := qput_loop x h2 ih x.f2.length 0 [] (by omega) (by omega) rfl
    simpa [tup6] using this
  by_cases h4 : x.f0 = 4
  rotate_left
  ·rw [if_neg (fun c => h4 c.1)]
   refine Ev.step (f := fun k => touchstoneref4_Put.j0 k by_ false x.f0 x.f1 x.f2) (fun k => ?_) (hN _ rfl)
   simp only [touchstoneref4_Put.f]; rw [if_neg h4]
  by_cases h0 : x.f1 ≥ 0
  rotate_left
  ·rw [if_neg (fun c => h0 c.2.1)]
   refine Ev.step (f := fun k => touchstoneref4_Put.j0 k by_ false x.f0 x.f1 x.f2) (fun k => ?_) (hN _ rfl)
   simp only [touchstoneref4_Put.f]; rw [if_pos h4, if_neg h0]
  by_cases h1 : x.f1 < (by_.length : Int)
  rotate_left
  ·rw [if_neg (fun c => h1 c.2.2)]
   refine Ev.step (f := fun k => touchstoneref4_Put.j0 k by_ false x.f0 x.f1 x.f2) (fun k => ?_) (hN _ rfl)
   simp only [touchstoneref4_Put.f]; rw [if_pos h4, if_pos h0, decide_eq_false h1]
  rw [if_pos ⟨h4, h0, h1⟩]
  refine Ev.step (f := fun k => touchstoneref4_Put.j0 k by_ true x.f0 x.f1 x.f2) (fun k => ?_) ?_
  ·simp only [touchstoneref4_Put.f]; rw [if_pos h4, if_pos h0, decide_eq_true h1]
  ·refine Ev.step (f := fun k => (touchstoneref4_Copy.f k (rd_T76 by_ x.f1).f0 (rd_T76 by_ x.f1).f1 (rd_T76 by_ x.f1).f2).bind fun q => some (q.1, q.2.1, q.2.2)) (fun k => ?_) (Ev.bind (rcopy_is (hby _ (rd76_mem h0 h1))) (Ev.now _))
   simp only [touchstoneref4_Put.j0]
   rw [if_pos trivial, if_pos (show 0 ≤ x.f1 from h0), if_pos h1]
theorem rlev_loop1 {by_ : List S76} (n' : Int) (ls : List S76) {B : Int} {t : S27} (h : WhB B t) (ih : ∀ a ∈ t.f4, Ev (fun k => touchstoneref5_Levels.f k a.f0 a.f1 a.f2 a.f3 a.f4 by_) (tup (lvT by_ a))) :
  ∀ d (i : Nat) (acc : List S27), t.f4.length - i = d → i ≤ t.f4.length → acc.length = i → Ev (fun k => touchstoneref5_Levels.l1 k by_ (i : Int) t.f0 t.f1 t.f2 t.f3 t.f4 t.f0 n' t.f2 ls acc) (t.f0, n', t.f2, ls, acc ++ lvTL by_ (t.f4.drop i)) := by
 obtain ⟨h0, h1, h2, h3, hl, h4, hs⟩ := h.parts
 intro d
 induction d with
 | zero =>
  intro i acc hd hi ha
  have e : t.f4.drop i = [] := List.drop_eq_nil_of_le (by omega)
  rw [e, lvTL_nil, List.append_nil]
  refine Ev.step (f := fun k => some (t.f0, n', t.f2, ls, acc)) (fun k => ?_) (Ev.now _)
  simp only [touchstoneref5_Levels.l1]
  rw [if_neg (nlti (by omega))]
 | succ d ihd =>
  intro i acc hd hi ha
  have hlt : i < t.f4.length := by omega
  rw [drop_get hlt, lvTL_cons]
  refine Ev.step (f := fun k => (touchstoneref5_Levels.f k (t.f4[i]).f0 (t.f4[i]).f1 (t.f4[i]).f2 (t.f4[i]).f3 (t.f4[i]).f4 by_).bind fun q => touchstoneref5_Levels.l1 k by_ ((i + 1 : Nat) : Int) t.f0 t.f1 t.f2 t.f3 t.f4 t.f0 n' t.f2 ls (acc ++ [(⟨q.1, q.2.1, q.2.2.1, q.2.2.2.1, q.2.2.2.2⟩ : S27)])) (fun k => ?_) ?_
  ·have hw : wrap64 ((i : Int) + 1) = ((i + 1 : Nat) : Int) := wri hlt (by omega)
   have hl : acc.length < 1759218604441 := by clear ih ihd hs hl h3; omega
   simp only [touchstoneref5_Levels.l1]
   rw [if_pos (lti hlt), if_pos (Int.natCast_nonneg i), rd27 hlt, hw]
   simp only [if_pos hl]
  ·refine Ev.bind (ih _ (List.getElem_mem hlt)) ?_
   have e : acc ++ lvT by_ t.f4[i] :: lvTL by_ (t.f4.drop (i + 1)) = acc ++ [lvT by_ t.f4[i]] ++ lvTL by_ (t.f4.drop (i + 1)) := by simp
   rw [e]
   simp only [mk27]
   exact ihd (i + 1) _ (by omega) (by omega) (by rw [List.length_append, List.length_singleton, ha])
theorem rlev_loop0 {by_ : List S76} (hby : ∀ l ∈ by_, Ok76 l) {t : S27} {r : Int × Int × ByteArray × List S76 × List S27} (n' : Int) (ls0 : List S76) (hx : ls0.length * 40 ≤ 140737488351232) (hR : Ev (fun k => touchstoneref5_Levels.l1 k by_ 0 t.f0 t.f1 t.f2 t.f3 t.f4 t.f0 n' t.f2 (lvPL by_ ls0) []) r) :
  ∀ (rest acc : List S76), (∀ l ∈ rest, Ok76 l) → acc ++ lvPL by_ rest = lvPL by_ ls0 → acc.length + rest.length = ls0.length → Ev (fun k => touchstoneref5_Levels.l0 k by_ (acc.length : Int) t.f0 t.f1 t.f2 t.f3 t.f4 t.f0 n' t.f2 (acc ++ rest) []) r := by
 intro rest
 induction rest with
 | nil =>
  intro acc hl he hn
  refine Ev.step (f := fun k => touchstoneref5_Levels.l1 k by_ 0 t.f0 t.f1 t.f2 t.f3 t.f4 t.f0 n' t.f2 (lvPL by_ ls0) []) (fun k => ?_) hR
  rw [lvPL_nil, List.append_nil] at he
  simp only [touchstoneref5_Levels.l0, List.append_nil]
  rw [if_neg (nlti (Nat.le_refl _)), he]
 | cons a rest ih =>
  intro acc hl he hn
  have hlt : acc.length < (acc ++ a :: rest).length := by rw [List.length_append, List.length_cons]; omega
  have hg : (acc ++ a :: rest)[acc.length] = a := by simp
  have hlen : acc.length + 1 ≤ 3518437208883 := by rw [List.length_cons] at hn; clear ih hR he hl; omega
  refine Ev.step (f := fun k => (touchstoneref4_Put.f k a.f0 a.f1 a.f2 by_).bind fun q => touchstoneref5_Levels.l0 k by_ ((acc.length + 1 : Nat) : Int) t.f0 t.f1 t.f2 t.f3 t.f4 t.f0 n' t.f2 (acc ++ (⟨q.1, q.2.1, q.2.2⟩ : S76) :: rest) []) (fun k => ?_) ?_
  ·have hw : wrap64 ((acc.length : Int) + 1) = ((acc.length + 1 : Nat) : Int) := wri (n := acc.length + 1) (by omega) (by omega)
   simp only [touchstoneref5_Levels.l0]
   rw [if_pos (lti hlt), if_pos (Int.natCast_nonneg _), rd76 hlt, hw, hg]
   simp only [Int.toNat_natCast, List.set_append_right _ _ (Nat.le_refl _), Nat.sub_self, List.set_cons_zero]
  ·refine Ev.bind (qput_is hby (hl a (List.mem_cons_self ..))) ?_
   simp only [mk6]
   have h1 := ih (acc ++ [lvP by_ a]) (fun l hm => hl l (List.mem_cons_of_mem _ hm)) (by rw [lvPL_cons] at he; rw [← he]; simp) (by rw [List.length_append, List.length_singleton]; rw [List.length_cons] at hn; omega)
   rw [List.length_append, List.length_singleton] at h1
   simpa using h1
theorem rlevels_is {by_ : List S76} (hby : ∀ l ∈ by_, Ok76 l) {B : Int} {t : S27} (h : WhB B t) : Ev (fun k => touchstoneref5_Levels.f k t.f0 t.f1 t.f2 t.f3 t.f4 by_) (tup (lvT by_ t)) := by
 induction h with
 | mk h0 h1 h2 h3 hl h4 hs ih =>
  rename_i t
  rw [lvT_mk]
  refine Ev.step (f := fun k => (touchstoneref5_leaf.f k t.f0 t.f1 t.f2 t.f3 t.f4).bind fun r => touchstoneref5_Levels.l0 k by_ 0 t.f0 t.f1 t.f2 t.f3 t.f4 r.1 r.2.1 r.2.2.1 r.2.2.2.1 r.2.2.2.2) (fun k => by simp only [touchstoneref5_Levels.f]) ?_
  refine Ev.bind (leaf_is _ _ _ _ h3 hl) ?_
  have hR := rlev_loop1 (by_ := by_) t.f1 (lvPL by_ t.f3) (.mk h0 h1 h2 h3 hl h4 hs) ih t.f4.length 0 [] (by omega) (by omega) rfl
  have := rlev_loop0 hby (t := t) t.f1 t.f3 h3 hR t.f3 [] hl rfl (by simp)
  simpa [tup] using this
def cl (x : Int) : Int := mn (mx x 0) 1073741824
theorem cl_ge (x : Int) : 0 ≤ cl x := by unfold cl mn mx; (repeat' split) <;> omega
theorem cl_le (x : Int) : cl x ≤ 1073741824 := by unfold cl mn mx; (repeat' split) <;> omega
theorem cl_id {x : Int} (h0 : 0 ≤ x) (h1 : x ≤ 1073741824) : cl x = x := by unfold cl mn mx; (repeat' split) <;> omega
theorem liftC_is (b fr : Int) {B : Int} {t : S27} (S : Small B 0 t) : Ev (fun k => term_Lift.f k t.f0 t.f1 t.f2 t.f3 t.f4 b fr) (tup (liT (cl b) (cl fr) t 0)) := by
 have h := eachL_is (c := ⟨cl fr, cl b, 0, 0⟩) (cl_ge b) (by have := cl_le b; show cl b ≤ _; omega) (cl_ge fr) (by have := cl_le fr; show cl fr ≤ _; omega) S.wh 0 S
 exact h
theorem gLift_is (b fr : Int) {B : Int} {t : S27} (S : Small B 0 t) : Ev (fun k => touchstoneref5_Lift.f k t.f0 t.f1 t.f2 t.f3 t.f4 b fr) (tup (liT (cl b) (cl fr) t 0)) := by
 have h := glift_is (b := cl b) (fr := cl fr) (cl_ge b) (by have := cl_le b; omega) (cl_ge fr) (by have := cl_le fr; omega) S.wh 0 S
 rw [Int.add_zero] at h
 exact Ev.bind h (Ev.now _)
inductive WV : S27 → Prop
 | mk {t : S27} (h : t.f0 = 0 → t.f2 = (⟨#[]⟩ : ByteArray) ∧ t.f3 = []) (hs : ∀ a ∈ t.f4, WV a) : WV t
theorem WV.parts {t : S27} (h : WV t) : (t.f0 = 0 → t.f2 = (⟨#[]⟩ : ByteArray) ∧ t.f3 = []) ∧ ∀ a ∈ t.f4, WV a := by
 cases h with
 | mk h hs => exact ⟨h, hs⟩
theorem gput_loop {v : S27} {B q : Int} {t : S27} (S : Small B q t) (hv : WV t) (ih : ∀ a ∈ t.f4, WV a → ∀ j, Small B j a → Ev (fun k => touchstoneref5_put.f k a.f0 a.f1 a.f2 a.f3 a.f4 v.f0 v.f1 v.f2 v.f3 v.f4 j) (tup (puT v a j))) :
  ∀ d (i : Nat) (acc : List S27), t.f4.length - i = d → i ≤ t.f4.length → acc.length = i → Ev (fun k => touchstoneref5_put.l0 k q (i : Int) t.f0 t.f1 t.f2 t.f3 t.f4 v.f0 v.f1 v.f2 v.f3 v.f4 t.f0 t.f1 t.f2 t.f3 acc) (t.f0, t.f1, t.f2, t.f3, acc ++ puL v t.f0 i (t.f4.drop i) q) := by
 obtain ⟨h0, h1, h2, h3, hl, h4, hs⟩ := S.wh.parts
 intro d
 induction d with
 | zero =>
  intro i acc hd hi ha
  have e : t.f4.drop i = [] := List.drop_eq_nil_of_le (by omega)
  rw [e, puL_nil, List.append_nil]
  refine Ev.step (f := fun k => some (t.f0, t.f1, t.f2, t.f3, acc)) (fun k => ?_) (Ev.now _)
  simp only [touchstoneref5_put.l0]
  rw [if_neg (nlti (by omega))]
 | succ d ihd =>
  intro i acc hd hi ha
  have hlt : i < t.f4.length := by omega
  have S' := S.arg (List.getElem_mem hlt) t.f0 i
  rw [drop_get hlt, puL_cons]
  refine Ev.step (f := fun k => (touchstoneref5_put.f k (t.f4[i]).f0 (t.f4[i]).f1 (t.f4[i]).f2 (t.f4[i]).f3 (t.f4[i]).f4 v.f0 v.f1 v.f2 v.f3 v.f4 (q + bn t.f0 i)).bind fun r => touchstoneref5_put.l0 k q ((i + 1 : Nat) : Int) t.f0 t.f1 t.f2 t.f3 t.f4 v.f0 v.f1 v.f2 v.f3 v.f4 t.f0 t.f1 t.f2 t.f3 (acc ++ [(⟨r.1, r.2.1, r.2.2.1, r.2.2.2.1, r.2.2.2.2⟩ : S27)])) (fun k => ?_) ?_
  ·have hw : wrap64 ((i : Int) + 1) = ((i + 1 : Nat) : Int) := wri hlt (by omega)
   have hl : acc.length < 1759218604441 := by clear S S' ih ihd hs hl h3 hv; omega
   have hb := binds_is2 t.f0 (i : Int) (Int.natCast_nonneg i)
   rw [Int.toNat_natCast] at hb
   simp only [touchstoneref5_put.l0]
   rw [if_pos (lti hlt), if_pos (Int.natCast_nonneg i), rd27 hlt, hw, hb]
   simp only [Option.bind_some, if_pos hl, S'.wr]
  ·refine Ev.bind (ih _ (List.getElem_mem hlt) (hv.parts.2 _ (List.getElem_mem hlt)) _ S') ?_
   have e : acc ++ puT v t.f4[i] (q + bn t.f0 i) :: puL v t.f0 (i + 1) (t.f4.drop (i + 1)) q = acc ++ [puT v t.f4[i] (q + bn t.f0 i)] ++ puL v t.f0 (i + 1) (t.f4.drop (i + 1)) q := by simp
   rw [e]
   simp only [mk27]
   exact ihd (i + 1) _ (by omega) (by omega) (by rw [List.length_append, List.length_singleton, ha])
theorem gput_is {v : S27} {Bv : Int} (Sv : Small Bv 0 v) {B : Int} {t : S27} (h : WhB B t) : WV t → ∀ q, Small B q t → Ev (fun k => touchstoneref5_put.f k t.f0 t.f1 t.f2 t.f3 t.f4 v.f0 v.f1 v.f2 v.f3 v.f4 q) (tup (puT v t q)) := by
 induction h with
 | mk h0 h1 h2 h3 hl h4 hs ih =>
  rename_i t
  intro hv q S
  have hB := S.b
  have hi0 := S.i0
  have hi1 := S.i1
  have hp := sz_pos t
  have hJ : Ev (fun k => touchstoneref5_put.j0 k q t.f0 t.f1 t.f2 t.f3 t.f4 v.f0 v.f1 v.f2 v.f3 v.f4) (t.f0, t.f1, t.f2, t.f3, puL v t.f0 0 t.f4 q) := by
   refine Ev.step (f := fun k => (touchstoneref5_leaf.f k t.f0 t.f1 t.f2 t.f3 t.f4).bind fun r => touchstoneref5_put.l0 k q 0 t.f0 t.f1 t.f2 t.f3 t.f4 v.f0 v.f1 v.f2 v.f3 v.f4 r.1 r.2.1 r.2.2.1 r.2.2.2.1 r.2.2.2.2) (fun k => by simp only [touchstoneref5_put.j0]) ?_
   refine Ev.bind (leaf_is _ _ _ _ h3 hl) ?_
   have := gput_loop S hv (fun a ha va j Sj => ih a ha va j Sj) t.f4.length 0 [] (by omega) (by omega) rfl
   simpa using this
  rw [puT_mk]
  by_cases hk : t.f0 = 0
  rotate_left
  ·rw [if_neg hk]
   refine Ev.step (f := fun k => touchstoneref5_put.j0 k q t.f0 t.f1 t.f2 t.f3 t.f4 v.f0 v.f1 v.f2 v.f3 v.f4) (fun k => ?_) hJ
   simp only [touchstoneref5_put.f]; rw [if_neg hk]
  have e := h0 hk
  obtain ⟨n2, n3⟩ := hv.parts.1 hk
  rw [if_pos hk]
  by_cases h5 : t.f1 = q
  ·rw [if_pos h5]
   refine Ev.step (f := fun k => (touchstoneref5_Lift.f k v.f0 v.f1 v.f2 v.f3 v.f4 q 0).bind fun r => some (r.1, r.2.1, r.2.2.1, r.2.2.2.1, r.2.2.2.2)) (fun k => ?_) ?_
   ·simp only [touchstoneref5_put.f]; rw [if_pos hk, if_pos h5]
   ·have g := gLift_is q 0 Sv
    rw [cl_id hi0 (by omega), cl_id (by omega) (by omega)] at g
    exact Ev.bind g (Ev.now _)
  rw [if_neg h5]
  have w2 : wrap64 (t.f1 - 1) = t.f1 - 1 := wr (by omega) (by omega)
  by_cases h6 : t.f1 > q
  ·refine Ev.step (f := fun k => some (0, t.f1 - 1, (⟨#[]⟩ : ByteArray), [], [])) (fun k => ?_) ?_
   ·simp only [touchstoneref5_put.f]; rw [if_pos hk, if_neg h5, if_pos h6, w2]
   ·simp only [tup, if_pos h6, hk, n2, n3]
    exact Ev.now _
  refine Ev.step (f := fun k => touchstoneref5_put.j0 k q t.f0 t.f1 t.f2 t.f3 t.f4 v.f0 v.f1 v.f2 v.f3 v.f4) (fun k => ?_) ?_
  ·simp only [touchstoneref5_put.f]; rw [if_pos hk, if_neg h5, if_neg h6]
  ·rw [e, puL_nil] at hJ
   simp only [tup, if_neg h6]
   rw [e]
   exact hJ
theorem gPut_is {v : S27} {Bv : Int} (Sv : Small Bv 0 v) {B : Int} {t : S27} (S : Small B 0 t) (hv : WV t) : Ev (fun k => touchstoneref5_Put.f k t.f0 t.f1 t.f2 t.f3 t.f4 v.f0 v.f1 v.f2 v.f3 v.f4) (tup (puT v t 0)) :=
 Ev.bind (gput_is Sv S.wh hv 0 S) (Ev.now _)
end Go.Proofs.Ytpejhapgffcngaa.QK

