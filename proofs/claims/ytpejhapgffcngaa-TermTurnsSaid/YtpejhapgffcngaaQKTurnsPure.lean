/- The document's lift is the program's, as trees. -/
import Derived.Test.YtpejhapgffcngaaQKTree
import Derived.Test.YtpejhapgffcngaaQKx4
import Derived.Test.YtpejhapgffcngaaQKWipeR
import Derived.Test.YtpejhapgffcngaaQKx5
import Derived.Test.YtpejhapgffcngaaQKx11
import Derived.Test.YtpejhapgffcngaaXShort
set_option linter.unusedVariables false
set_option linter.unusedSimpArgs false
namespace Go.Proofs.Ytpejhapgffcngaa.QK
open Go.RowKit Go.Proofs.YtpejhapgffcngaaW.PrintWords Go.Proofs.YtpejhapgffcngaaW.PrintLast Go.Proofs.YtpejhapgffcngaaW.PrintMore
theorem binds_is2 (kd : Int) (j : Int) (hj : 0 ≤ j) : touchstoneref5_Binds.f kd j = some (bn kd j.toNat) := by
 have h1 : (j.toNat = 1) = (j = 1) := by simp only [eq_iff_iff]; omega
 have h2 : (j.toNat = 2) = (j = 2) := by simp only [eq_iff_iff]; omega
 unfold touchstoneref5_Binds.f bn
 simp only [h1, h2]
 by_cases a : kd = 4
 ·subst a; by_cases b : j = 1 <;> simp [b]
 by_cases a5 : kd = 5
 ·subst a5; by_cases b : j = 1 <;> simp [b]
 by_cases a6 : kd = 6
 rotate_left
 ·simp [a, a5, a6]
 subst a6; by_cases b : j = 2 <;> simp [b]
end Go.Proofs.Ytpejhapgffcngaa.QK

set_option linter.unusedVariables false
set_option linter.unusedSimpArgs false
namespace Go.Proofs.Ytpejhapgffcngaa.QK
open Go.RowKit Go.Proofs.YtpejhapgffcngaaW.PrintWords Go.Proofs.YtpejhapgffcngaaW.PrintLast Go.Proofs.YtpejhapgffcngaaW.PrintMore
theorem rput_loop (x : S76) (hx : x.f2.length * 40 ≤ 140737488351232) (ih : ∀ y ∈ x.f2, Ev (fun k => ref4PutA.f k y.f0 y.f1 y.f2 []) (tup6 y)) :
  ∀ d (i : Nat), x.f2.length - i = d → i ≤ x.f2.length → Ev (fun k => ref4PutA.l0 k [] (i : Int) x.f0 x.f1 x.f2 x.f0 x.f1 (x.f2.take i)) (tup6 x) := by
 intro d
 induction d with
 | zero =>
  intro i hd hi
  refine Ev.step (f := fun _ => some (tup6 x)) (fun k => ?_) (Ev.now _)
  have e : i = x.f2.length := by omega
  simp only [ref4PutA.l0]
  rw [if_neg (by omega), e, List.take_length]
  rfl
 | succ d ihd =>
  intro i hd hi
  have hlt : i < x.f2.length := by omega
  refine Ev.step (f := fun k => (ref4PutA.f k (x.f2[i]).f0 (x.f2[i]).f1 (x.f2[i]).f2 []).bind fun q => ref4PutA.l0 k [] ((i + 1 : Nat) : Int) x.f0 x.f1 x.f2 x.f0 x.f1 (x.f2.take i ++ [(⟨q.1, q.2.1, q.2.2⟩ : S76)])) (fun k => ?_) ?_
  ·have hw : wrap64 ((i : Int) + 1) = ((i + 1 : Nat) : Int) := wri hlt (by omega)
   have hl : (x.f2.take i).length < 3518437208883 := by rw [List.length_take]; omega
   simp only [ref4PutA.l0]
   rw [if_pos (lti hlt), if_pos (Int.natCast_nonneg i), rd76 hlt, hw]
   simp only [if_pos hl]
  ·refine Ev.bind (ih _ (List.getElem_mem hlt)) ?_
   have e : x.f2.take i ++ [(⟨(tup6 x.f2[i]).1, (tup6 x.f2[i]).2.1, (tup6 x.f2[i]).2.2⟩ : S76)] = x.f2.take (i + 1) := by
    rw [List.take_succ_eq_append_getElem hlt, mk6]
   simp only [e]
   exact ihd (i + 1) (by omega) (by omega)
theorem rput_is {x : S76} (h : Ok76 x) : Ev (fun k => ref4PutA.f k x.f0 x.f1 x.f2 []) (tup6 x) := by
 induction h with
 | mk w0 w1 h2 hs ih =>
  rename_i x
  refine Ev.step (f := fun k => ref4PutA.j0 k [] false x.f0 x.f1 x.f2) (fun k => ?_) ?_
  ·simp only [ref4PutA.f]
   by_cases h4 : x.f0 = 4
   rotate_left
   ·rw [if_neg h4]
   rw [if_pos h4]
   by_cases h0 : x.f1 ≥ 0
   rotate_left
   ·rw [if_neg h0]
   rw [if_pos h0, decide_eq_false (by simp; omega)]
  ·refine Ev.step (f := fun k => ref4PutA.l0 k [] 0 x.f0 x.f1 x.f2 x.f0 x.f1 []) (fun k => ?_) ?_
   ·simp only [ref4PutA.j0]
    rw [if_neg (by decide)]
   ·have := rput_loop x h2 ih x.f2.length 0 (by omega) (by omega)
    simpa using this
theorem rcopy_is {x : S76} (h : Ok76 x) : Ev (fun k => touchstoneref4_Copy.f k x.f0 x.f1 x.f2) (tup6 x) := Ev.bind (rput_is h) (Ev.now _)
theorem leaf_loop (kd n : Int) (nm : ByteArray) (ar : List S27) (ls : List S76) (hx : ls.length * 40 ≤ 140737488351232) (hl : ∀ l ∈ ls, Ok76 l) :
  ∀ d (i : Nat), ls.length - i = d → i ≤ ls.length → Ev (fun k => touchstoneref5_leaf.l0 k (i : Int) kd n nm ls ar kd n nm (ls.take i)) (kd, n, nm, ls, []) := by
 intro d
 induction d with
 | zero =>
  intro i hd hi
  refine Ev.step (f := fun _ => some (kd, n, nm, ls, [])) (fun k => ?_) (Ev.now _)
  have e : i = ls.length := by omega
  simp only [touchstoneref5_leaf.l0]
  rw [if_neg (by omega), e, List.take_length]
 | succ d ihd =>
  intro i hd hi
  have hlt : i < ls.length := by omega
  refine Ev.step (f := fun k => (touchstoneref4_Copy.f k (ls[i]).f0 (ls[i]).f1 (ls[i]).f2).bind fun q => touchstoneref5_leaf.l0 k ((i + 1 : Nat) : Int) kd n nm ls ar kd n nm (ls.take i ++ [(⟨q.1, q.2.1, q.2.2⟩ : S76)])) (fun k => ?_) ?_
  ·have hw : wrap64 ((i : Int) + 1) = ((i + 1 : Nat) : Int) := wri hlt (by omega)
   have hl : (ls.take i).length < 3518437208883 := by rw [List.length_take]; omega
   simp only [touchstoneref5_leaf.l0]
   rw [if_pos (lti hlt), if_pos (Int.natCast_nonneg i), rd76 hlt, hw]
   simp only [if_pos hl]
  ·refine Ev.bind (rcopy_is (hl _ (List.getElem_mem hlt))) ?_
   have e : ls.take i ++ [(⟨(tup6 ls[i]).1, (tup6 ls[i]).2.1, (tup6 ls[i]).2.2⟩ : S76)] = ls.take (i + 1) := by
    rw [List.take_succ_eq_append_getElem hlt, mk6]
   simp only [e]
   exact ihd (i + 1) (by omega) (by omega)
theorem leaf_is (kd n : Int) (nm : ByteArray) {ls : List S76} (ar : List S27) (hx : ls.length * 40 ≤ 140737488351232) (hl : ∀ l ∈ ls, Ok76 l) : Ev (fun k => touchstoneref5_leaf.f k kd n nm ls ar) (kd, n, nm, ls, []) := by
 have := leaf_loop kd n nm ar ls hx hl ls.length 0 (by omega) (by omega)
 simpa [touchstoneref5_leaf.f] using this
theorem rlift_loop {B q : Int} {t : S27} (S : Small B q t) (ih : ∀ a ∈ t.f4, ∀ j, Small B j a → Ev (fun k => touchstoneref5_lift.f k a.f0 a.f1 a.f2 a.f3 a.f4 0 j) (tup a)) :
  ∀ d (i : Nat), t.f4.length - i = d → i ≤ t.f4.length → Ev (fun k => touchstoneref5_lift.l0 k 0 q (i : Int) t.f0 t.f1 t.f2 t.f3 t.f4 t.f0 t.f1 t.f2 t.f3 (t.f4.take i)) (tup t) := by
 obtain ⟨h0, h1, h2, h3, hl, h4, hs⟩ := S.wh.parts
 intro d
 induction d with
 | zero =>
  intro i hd hi
  refine Ev.step (f := fun _ => some (tup t)) (fun k => ?_) (Ev.now _)
  have e : i = t.f4.length := by omega
  simp only [touchstoneref5_lift.l0]
  rw [if_neg (by omega), e, List.take_length]
  rfl
 | succ d ihd =>
  intro i hd hi
  have hlt : i < t.f4.length := by omega
  have S' := S.arg (List.getElem_mem hlt) t.f0 i
  refine Ev.step (f := fun k => (touchstoneref5_lift.f k (t.f4[i]).f0 (t.f4[i]).f1 (t.f4[i]).f2 (t.f4[i]).f3 (t.f4[i]).f4 0 (q + bn t.f0 i)).bind fun r => touchstoneref5_lift.l0 k 0 q ((i + 1 : Nat) : Int) t.f0 t.f1 t.f2 t.f3 t.f4 t.f0 t.f1 t.f2 t.f3 (t.f4.take i ++ [(⟨r.1, r.2.1, r.2.2.1, r.2.2.2.1, r.2.2.2.2⟩ : S27)])) (fun k => ?_) ?_
  ·have hw : wrap64 ((i : Int) + 1) = ((i + 1 : Nat) : Int) := wri hlt (by omega)
   have hl : (t.f4.take i).length < 1759218604441 := by rw [List.length_take]; clear S S' ih ihd hs hl h3; omega
   have hb := binds_is2 t.f0 (i : Int) (Int.natCast_nonneg i)
   rw [Int.toNat_natCast] at hb
   simp only [touchstoneref5_lift.l0]
   rw [if_pos (lti hlt), if_pos (Int.natCast_nonneg i), rd27 hlt, hw, hb]
   simp only [Option.bind_some, if_pos hl]
   rw [S'.wr]
  ·refine Ev.bind (ih _ (List.getElem_mem hlt) _ S') ?_
   have e : t.f4.take i ++ [t.f4[i]] = t.f4.take (i + 1) := by rw [List.take_succ_eq_append_getElem hlt]
   simp only [mk27, e]
   exact ihd (i + 1) (by omega) (by omega)
theorem rlift_is {B : Int} {t : S27} (h : WhB B t) : ∀ q, Small B q t → Ev (fun k => touchstoneref5_lift.f k t.f0 t.f1 t.f2 t.f3 t.f4 0 q) (tup t) := by
 induction h with
 | mk h0 h1 h2 h3 hl h4 hs ih =>
  rename_i t
  intro q S
  have hB := S.b
  have w1 : wrap64 (t.f1 + 0) = t.f1 := by rw [Int.add_zero]; exact wr (by omega) (by omega)
  have hL : Ev (fun k => touchstoneref5_lift.l0 k 0 q 0 t.f0 t.f1 t.f2 t.f3 t.f4 t.f0 t.f1 t.f2 t.f3 []) (tup t) := by
   have := rlift_loop S (fun a ha j Sj => ih a ha j Sj) t.f4.length 0 (by omega) (by omega)
   simpa using this
  have hJ : Ev (fun k => touchstoneref5_lift.j1 k 0 q t.f0 t.f1 t.f2 t.f3 t.f4 t.f0 t.f1 t.f2 t.f3 []) (tup t) := Ev.step (fun k => by simp only [touchstoneref5_lift.j1]) hL
  have hJ0 : ∀ b, Ev (fun k => touchstoneref5_lift.j0 k 0 q b t.f0 t.f1 t.f2 t.f3 t.f4 t.f0 t.f1 t.f2 t.f3 []) (tup t) := fun b => Ev.step (f := fun k => touchstoneref5_lift.j1 k 0 q t.f0 t.f1 t.f2 t.f3 t.f4 t.f0 t.f1 t.f2 t.f3 []) (fun k => by
   simp only [touchstoneref5_lift.j0]
   rw [w1]
   split <;> rfl) hJ
  refine Ev.step (f := fun k => (touchstoneref5_leaf.f k t.f0 t.f1 t.f2 t.f3 t.f4).bind fun r => if t.f0 = 0 then touchstoneref5_lift.j0 k 0 q (decide (t.f1 ≥ q)) t.f0 t.f1 t.f2 t.f3 t.f4 r.1 r.2.1 r.2.2.1 r.2.2.2.1 r.2.2.2.2 else touchstoneref5_lift.j0 k 0 q false t.f0 t.f1 t.f2 t.f3 t.f4 r.1 r.2.1 r.2.2.1 r.2.2.2.1 r.2.2.2.2) (fun k => by simp only [touchstoneref5_lift.f]) ?_
  refine Ev.bind (leaf_is _ _ _ _ h3 hl) ?_
  by_cases hk : t.f0 = 0
  rotate_left
  ·simp only [if_neg hk]; exact hJ0 _
  simp only [if_pos hk]; exact hJ0 _
theorem copy_is {B : Int} {t : S27} (S : Small B 0 t) : Ev (fun k => touchstoneref5_Copy.f k t.f0 t.f1 t.f2 t.f3 t.f4) (tup t) := Ev.bind (rlift_is S.wh 0 S) (Ev.now _)
end Go.Proofs.Ytpejhapgffcngaa.QK

set_option linter.unusedVariables false
set_option linter.unusedSimpArgs false
namespace Go.Proofs.Ytpejhapgffcngaa.QK
open Go.RowKit Go.Proofs.YtpejhapgffcngaaW.PrintWords Go.Proofs.YtpejhapgffcngaaW.PrintLast Go.Proofs.YtpejhapgffcngaaW.PrintMore
theorem ev_cast {α : Type} {g : Nat → Option α} {r r' : α} (h : Ev g r) (e : r = r') : Ev g r' := e ▸ h
theorem wr3 {fr q c : Int} {s : Nat} (h1 : 0 ≤ fr) (h2 : fr ≤ 1099511627776) (h3 : 0 ≤ q + c) (h4 : q + c + s ≤ 1073741824) : wrap64 (fr + q + c) = fr + (q + c) := by rw [Int.add_assoc]; exact wr (by omega) (by omega)
theorem glift_loop (n' : Int) {b fr B q : Int} (hf : 0 ≤ fr) (hf2 : fr ≤ 1099511627776) {t : S27} (S : Small B q t) (ih : ∀ a ∈ t.f4, ∀ j, Small B j a → Ev (fun k => touchstoneref5_lift.f k a.f0 a.f1 a.f2 a.f3 a.f4 b (fr + j)) (tup (liT b fr a j))) :
  ∀ d (i : Nat) (acc : List S27), t.f4.length - i = d → i ≤ t.f4.length → acc.length ≤ 100 + i → Ev (fun k => touchstoneref5_lift.l0 k b (fr + q) (i : Int) t.f0 t.f1 t.f2 t.f3 t.f4 t.f0 n' t.f2 t.f3 acc) (t.f0, n', t.f2, t.f3, acc ++ liL b fr t.f0 i (t.f4.drop i) q) := by
 obtain ⟨h0, h1, h2, h3, hl, h4, hs⟩ := S.wh.parts
 intro d
 induction d with
 | zero =>
  intro i acc hd hi ha
  have e : t.f4.drop i = [] := List.drop_eq_nil_of_le (by omega)
  rw [e, liL_nil, List.append_nil]
  refine Ev.step (f := fun _ => some (t.f0, n', t.f2, t.f3, acc)) (fun k => ?_) (Ev.now _)
  simp only [touchstoneref5_lift.l0]
  rw [if_neg (by omega)]
 | succ d ihd =>
  intro i acc hd hi ha
  have hlt : i < t.f4.length := by omega
  have S' := S.arg (List.getElem_mem hlt) t.f0 i
  rw [drop_get hlt, liL_cons]
  refine Ev.step (f := fun k => (touchstoneref5_lift.f k (t.f4[i]).f0 (t.f4[i]).f1 (t.f4[i]).f2 (t.f4[i]).f3 (t.f4[i]).f4 b (fr + (q + bn t.f0 i))).bind fun r => touchstoneref5_lift.l0 k b (fr + q) ((i + 1 : Nat) : Int) t.f0 t.f1 t.f2 t.f3 t.f4 t.f0 n' t.f2 t.f3 (acc ++ [(⟨r.1, r.2.1, r.2.2.1, r.2.2.2.1, r.2.2.2.2⟩ : S27)])) (fun k => ?_) ?_
  ·have hw : wrap64 ((i : Int) + 1) = ((i + 1 : Nat) : Int) := wri hlt (by omega)
   have hl : acc.length < 1759218604441 := by clear S S' ih ihd hs hl h3; omega
   have hb := binds_is2 t.f0 (i : Int) (Int.natCast_nonneg i)
   rw [Int.toNat_natCast] at hb
   have hx : wrap64 (fr + q + bn t.f0 i) = fr + (q + bn t.f0 i) := wr3 hf hf2 S'.i0 S'.i1
   simp only [touchstoneref5_lift.l0]
   rw [if_pos (lti hlt), if_pos (Int.natCast_nonneg i), rd27 hlt, hw, hb]
   simp only [Option.bind_some, if_pos hl, hx]
  ·refine Ev.bind (ih _ (List.getElem_mem hlt) _ S') ?_
   have e : acc ++ liT b fr t.f4[i] (q + bn t.f0 i) :: liL b fr t.f0 (i + 1) (t.f4.drop (i + 1)) q = acc ++ [liT b fr t.f4[i] (q + bn t.f0 i)] ++ liL b fr t.f0 (i + 1) (t.f4.drop (i + 1)) q := by simp
   rw [e]
   simp only [mk27]
   exact ihd (i + 1) _ (by omega) (by omega) (by rw [List.length_append, List.length_singleton]; omega)
theorem glift_is {b fr : Int} (hb : 0 ≤ b) (hb2 : b ≤ 1099511627776) (hf : 0 ≤ fr) (hf2 : fr ≤ 1099511627776) {B : Int} {t : S27} (h : WhB B t) : ∀ q, Small B q t → Ev (fun k => touchstoneref5_lift.f k t.f0 t.f1 t.f2 t.f3 t.f4 b (fr + q)) (tup (liT b fr t q)) := by
 induction h with
 | mk h0 h1 h2 h3 hl h4 hs ih =>
  rename_i t
  intro q S
  have hB := S.b
  have w1 : wrap64 (t.f1 + b) = t.f1 + b := wr (by omega) (by omega)
  have hL : ∀ n', Ev (fun k => touchstoneref5_lift.l0 k b (fr + q) 0 t.f0 t.f1 t.f2 t.f3 t.f4 t.f0 n' t.f2 t.f3 []) (t.f0, n', t.f2, t.f3, liL b fr t.f0 0 t.f4 q) := fun n' => by
   have := glift_loop n' hf hf2 S (fun a ha j Sj => ih a ha j Sj) t.f4.length 0 [] (by omega) (by omega) (by simp)
   simpa using this
  have hJ : ∀ n', Ev (fun k => touchstoneref5_lift.j1 k b (fr + q) t.f0 t.f1 t.f2 t.f3 t.f4 t.f0 n' t.f2 t.f3 []) (t.f0, n', t.f2, t.f3, liL b fr t.f0 0 t.f4 q) := fun n' => Ev.step (fun k => by simp only [touchstoneref5_lift.j1]) (hL n')
  have hJt : Ev (fun k => touchstoneref5_lift.j0 k b (fr + q) true t.f0 t.f1 t.f2 t.f3 t.f4 t.f0 t.f1 t.f2 t.f3 []) (t.f0, t.f1 + b, t.f2, t.f3, liL b fr t.f0 0 t.f4 q) := Ev.step (f := fun k => touchstoneref5_lift.j1 k b (fr + q) t.f0 t.f1 t.f2 t.f3 t.f4 t.f0 (t.f1 + b) t.f2 t.f3 []) (fun k => by simp only [touchstoneref5_lift.j0, if_true, w1]) (hJ _)
  have hJf : Ev (fun k => touchstoneref5_lift.j0 k b (fr + q) false t.f0 t.f1 t.f2 t.f3 t.f4 t.f0 t.f1 t.f2 t.f3 []) (t.f0, t.f1, t.f2, t.f3, liL b fr t.f0 0 t.f4 q) := Ev.step (f := fun k => touchstoneref5_lift.j1 k b (fr + q) t.f0 t.f1 t.f2 t.f3 t.f4 t.f0 t.f1 t.f2 t.f3 []) (fun k => by simp only [touchstoneref5_lift.j0, Bool.false_eq_true, if_false]) (hJ _)
  rw [liT_mk]
  refine Ev.step (f := fun k => (touchstoneref5_leaf.f k t.f0 t.f1 t.f2 t.f3 t.f4).bind fun r => if t.f0 = 0 then touchstoneref5_lift.j0 k b (fr + q) (decide (t.f1 ≥ fr + q)) t.f0 t.f1 t.f2 t.f3 t.f4 r.1 r.2.1 r.2.2.1 r.2.2.2.1 r.2.2.2.2 else touchstoneref5_lift.j0 k b (fr + q) false t.f0 t.f1 t.f2 t.f3 t.f4 r.1 r.2.1 r.2.2.1 r.2.2.2.1 r.2.2.2.2) (fun k => by simp only [touchstoneref5_lift.f]) ?_
  refine Ev.bind (leaf_is _ _ _ _ h3 hl) ?_
  by_cases hk : t.f0 = 0
  rotate_left
  ·simp only [if_neg hk]
   refine ev_cast hJf ?_
   simp only [tup]
  simp only [if_pos hk]
  by_cases hc : t.f1 ≥ fr + q
  ·rw [decide_eq_true hc]
   refine ev_cast hJt ?_
   simp only [tup]
   rw [if_pos (by omega)]
  rw [decide_eq_false hc]
  refine ev_cast hJf ?_
  simp only [tup]
  rw [if_neg (by omega)]
end Go.Proofs.Ytpejhapgffcngaa.QK

