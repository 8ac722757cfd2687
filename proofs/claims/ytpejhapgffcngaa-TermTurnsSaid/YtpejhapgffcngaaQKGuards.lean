/- What the guards of TermTurns tell: whole variables have no names and no levels; the tests of levels come to an end. -/
import Derived.Test.YtpejhapgffcngaaXShort
import Derived.Test.YtpejhapgffcngaaQKLevPure
import Derived.Test.YtpejhapgffcngaaQKx14
import Derived.Test.YtpejhapgffcngaaQKx12
set_option linter.unusedVariables false
set_option linter.unusedSimpArgs false
namespace Go.Proofs.Ytpejhapgffcngaa.QK
open Go.RowKit Go.Proofs.YtpejhapgffcngaaW.PrintWords Go.Proofs.YtpejhapgffcngaaW.PrintLast Go.Proofs.YtpejhapgffcngaaW.PrintMore
theorem partB_var {n : Int} {nm : ByteArray} {ll la : Nat} (h : partB 0 n nm ll la = true) : nm = (⟨#[]⟩ : ByteArray) ∧ ll = 0 := by
 unfold partB at h
 by_cases h1 : argsI 0 = (la : Int)
 rotate_left
 ·rw [if_pos h1] at h; cases h
 rw [if_neg (by simpa using h1), if_pos rfl] at h
 by_cases hn : n < 0
 ·rw [if_pos hn] at h; cases h
 rw [if_neg hn] at h
 by_cases hn2 : 1073741824 < n
 ·rw [if_pos hn2] at h; cases h
 rw [if_neg hn2] at h
 by_cases hm : nm.toList.isEmpty = false
 ·rw [if_pos hm] at h; cases h
 rw [if_neg hm] at h
 have hl : nm.data.toList = [] := by rw [ByteArray.toList_eq] at hm; simpa using hm
 refine ⟨?_, by simpa using h⟩
 cases nm with
 | mk d => simp at hl; rw [hl]
theorem whole_wv : ∀ k : Nat, (∀ (t : S27) (left : Int) (r : Int × Bool), Ok27 t → touchstoneref5_Whole.f k t.f0 t.f1 t.f2 t.f3 t.f4 left = some r → r.2 = true → WV t) ∧
  (∀ (t : S27) (left : Int) (i : Nat) (r : Int × Bool), Ok27 t → touchstoneref5_Whole.l0 k left (i : Int) t.f0 t.f1 t.f2 t.f3 t.f4 = some r → r.2 = true → ∀ a ∈ t.f4.drop i, WV a) := by
 intro k
 induction k using Nat.strongRecOn with
 | _ k ih =>
 constructor
 ·intro t left r ht h hr
  cases k with
  | zero => simp [touchstoneref5_Whole.f] at h
  | succ k =>
   simp only [touchstoneref5_Whole.f] at h
   split at h
   ·cases k with
    | zero => simp [touchstoneref5_Whole.j0] at h
    | succ k => simp only [touchstoneref5_Whole.j0, if_true] at h; obtain rfl := Option.some.inj h; cases hr
   ·simp only [touchstoneref5_part.f, Option.bind_some] at h
    cases k with
    | zero => simp [touchstoneref5_Whole.j0] at h
    | succ k =>
     simp only [touchstoneref5_Whole.j0] at h
     cases hp : partB t.f0 t.f1 t.f2 t.f3.length t.f4.length
     ·rw [hp] at h; simp at h; subst h; cases hr
     ·rw [hp] at h
      simp only [Bool.not_true, Bool.false_eq_true, if_false] at h
      have hA := (ih k (by omega)).2 t _ 0 r ht (by simpa using h) hr
      refine .mk (fun e => ?_) (fun a ha => hA a (by simpa using ha))
      rw [e] at hp
      obtain ⟨h2, h3⟩ := partB_var hp
      exact ⟨h2, List.eq_nil_of_length_eq_zero h3⟩
 ·intro t left i r ht h hr a ha
  cases k with
  | zero => simp [touchstoneref5_Whole.l0] at h
  | succ k =>
   obtain ⟨_, _, h4, hs⟩ := ht.parts
   simp only [touchstoneref5_Whole.l0] at h
   by_cases hi : i < t.f4.length
   rotate_left
   ·rw [List.drop_eq_nil_of_le (by omega)] at ha
    cases ha
   rw [if_pos (lti hi), if_pos (Int.natCast_nonneg i), rd27 hi, wri hi (by omega)] at h
   obtain ⟨q, hq, h⟩ := Option.bind_eq_some_iff.1 h
   cases hb : q.2
   ·rw [hb] at h; simp at h; subst h; cases hr
   ·rw [hb] at h
    simp only [if_true] at h
    rw [drop_get hi] at ha
    rcases List.mem_cons.1 ha with rfl | ha
    ·exact (ih k (by omega)).1 _ _ q (hs _ (List.getElem_mem hi)) hq hb
    ·exact (ih k (by omega)).2 t _ (i + 1) r ht h hr a ha
theorem light_wv {t : S27} (h : Ok27 t) {most : Int} (he : Ev (fun k => touchstonelaw5_Light.f k t.f0 t.f1 t.f2 t.f3 t.f4 most) true) : WV t := by
 obtain ⟨n, hn⟩ := he
 have h1 := hn n (Nat.le_refl n)
 simp only [touchstonelaw5_Light.f] at h1
 obtain ⟨q, hq, h1⟩ := Option.bind_eq_some_iff.1 h1
 exact (whole_wv n).1 t most q h hq (Option.some.inj h1)
theorem parts_loop {x : S76} (hx : x.f2.length * 40 ≤ 140737488351232) (ih : ∀ y ∈ x.f2, ∀ m : Int, 0 ≤ m → m ≤ 1073741824 → ∃ r, Ev (fun k => touchstoneref4_Parts.f k y.f0 y.f1 y.f2 m) r ∧ 1 ≤ r ∧ r ≤ m + 1) {most : Int} (hm : 0 ≤ most) (hm2 : most ≤ 1073741824) :
  ∀ d (i : Nat) (n : Int), x.f2.length - i = d → i ≤ x.f2.length → 1 ≤ n → n ≤ most + 1 → ∃ r, Ev (fun k => touchstoneref4_Parts.l0 k most n (i : Int) x.f0 x.f1 x.f2) r ∧ 1 ≤ r ∧ r ≤ most + 1 := by
 have w1 : wrap64 (most + 1) = most + 1 := wr (by omega) (by omega)
 intro d
 induction d with
 | zero =>
  intro i n hd hi h0 h1
  have e : mn n (most + 1) = n := by unfold mn; split <;> omega
  refine ⟨n, Ev.step (f := fun k => some n) (fun k => ?_) (Ev.now _), h0, h1⟩
  simp only [touchstoneref4_Parts.l0]
  rw [if_neg (nlti (by omega)), w1, e]
 | succ d ihd =>
  intro i n hd hi h0 h1
  have hlt : i < x.f2.length := by omega
  by_cases hn : n ≤ most
  rotate_left
  ·have e : mn n (most + 1) = n := by unfold mn; split <;> omega
   refine ⟨n, Ev.step (f := fun k => some n) (fun k => ?_) (Ev.now _), h0, h1⟩
   simp only [touchstoneref4_Parts.l0]
   rw [if_pos (lti hlt), if_neg hn, w1, e]
  have w2 : wrap64 (most - n) = most - n := wr (by omega) (by omega)
  obtain ⟨r, hr, r0, r1⟩ := ih _ (List.getElem_mem hlt) (most - n) (by omega) (by omega)
  have w3 : wrap64 (n + r) = n + r := wr (by omega) (by omega)
  obtain ⟨s, hs, s0, s1⟩ := ihd (i + 1) (n + r) (by omega) (by omega) (by omega) (by omega)
  refine ⟨s, Ev.step (f := fun k => (touchstoneref4_Parts.f k (x.f2[i]).f0 (x.f2[i]).f1 (x.f2[i]).f2 (most - n)).bind fun q => touchstoneref4_Parts.l0 k most (wrap64 (n + q)) ((i + 1 : Nat) : Int) x.f0 x.f1 x.f2) (fun k => ?_) (Ev.bind hr (by rw [w3]; exact hs)), s0, s1⟩
  have hw : wrap64 ((i : Int) + 1) = ((i + 1 : Nat) : Int) := wri hlt (by omega)
  simp only [touchstoneref4_Parts.l0]
  rw [if_pos (lti hlt), if_pos hn, if_pos (Int.natCast_nonneg i), rd76 hlt, hw, w2]
theorem parts_is {x : S76} (h : Ok76 x) : ∀ m : Int, 0 ≤ m → m ≤ 1073741824 → ∃ r, Ev (fun k => touchstoneref4_Parts.f k x.f0 x.f1 x.f2 m) r ∧ 1 ≤ r ∧ r ≤ m + 1 := by
 induction h with
 | mk w0 w1 h2 hs ih =>
  rename_i x
  intro m h0 h1
  obtain ⟨r, hr, r0, r1⟩ := parts_loop h2 ih h0 h1 x.f2.length 0 1 (by omega) (by omega) (by omega) (by omega)
  exact ⟨r, Ev.step (f := fun k => touchstoneref4_Parts.l0 k m 1 0 x.f0 x.f1 x.f2) (fun k => by simp only [touchstoneref4_Parts.f]) (by simpa using hr), r0, r1⟩
theorem args4_is (a : Int) : ∃ v, ∀ k, touchstoneref4_args.f (k + 1) a = some v := by
 unfold touchstoneref4_args.f
 simp only [touchstoneref4_args.j0]
 (repeat' split) <;> exact ⟨_, fun _ => rfl⟩
theorem whole4_is {x : S76} (h : Ok76 x) (p : Int) : ∀ dp : Int, 0 ≤ dp → dp ≤ 1073741824 → ∃ b, Ev (fun k => touchstoneref4_whole.f k x.f0 x.f1 x.f2 p dp) b := by
 induction h with
 | mk w0 w1 h2 hs ih =>
  rename_i x
  intro dp h0 h1
  have hF : ∀ b, b = true → Ev (fun k => touchstoneref4_whole.j0 k p dp b x.f0 x.f1 x.f2) false := fun b e => by
   subst e
   refine Ev.step (f := fun k => some false) (fun k => ?_) (Ev.now _)
   simp only [touchstoneref4_whole.j0, if_true]
  by_cases hd : dp > 32
  ·refine ⟨false, Ev.step (f := fun k => touchstoneref4_whole.j0 k p dp true x.f0 x.f1 x.f2) (fun k => ?_) (hF _ rfl)⟩
   simp only [touchstoneref4_whole.f]; rw [if_pos hd]
  have wd : wrap64 (dp + 1) = dp + 1 := wr (by omega) (by omega)
  have hL : ∀ d (i : Nat), x.f2.length - i = d → i ≤ x.f2.length → ∃ b, Ev (fun k => touchstoneref4_whole.l0 k p dp (i : Int) x.f0 x.f1 x.f2) b := by
   intro d
   induction d with
   | zero =>
    intro i hdi hi
    refine ⟨true, Ev.step (f := fun k => some true) (fun k => ?_) (Ev.now _)⟩
    simp only [touchstoneref4_whole.l0]
    rw [if_neg (nlti (by omega))]
   | succ d ihd =>
    intro i hdi hi
    have hlt : i < x.f2.length := by omega
    obtain ⟨b, hb⟩ := ih _ (List.getElem_mem hlt) (dp + 1) (by omega) (by omega)
    obtain ⟨c, hc⟩ := ihd (i + 1) (by omega) (by omega)
    have st : ∀ k, touchstoneref4_whole.l0 (k + 1) p dp (i : Int) x.f0 x.f1 x.f2 = (touchstoneref4_whole.f k (x.f2[i]).f0 (x.f2[i]).f1 (x.f2[i]).f2 p (dp + 1)).bind fun q => if q = true then touchstoneref4_whole.l0 k p dp ((i + 1 : Nat) : Int) x.f0 x.f1 x.f2 else some false := fun k => by
     have hw : wrap64 ((i : Int) + 1) = ((i + 1 : Nat) : Int) := wri hlt (by omega)
     simp only [touchstoneref4_whole.l0]
     rw [if_pos (lti hlt), if_pos (Int.natCast_nonneg i), rd76 hlt, hw, wd]
    cases b
    ·exact ⟨false, Ev.step st (Ev.bind hb (Ev.now _))⟩
    ·exact ⟨c, Ev.step st (Ev.bind hb (by simpa using hc))⟩
  obtain ⟨c, hc⟩ := hL x.f2.length 0 (by omega) (by omega)
  have hJ1 : ∀ b, ∃ r, Ev (fun k => touchstoneref4_whole.j1 k p dp b x.f0 x.f1 x.f2) r := fun b => by
   cases b
   ·refine ⟨c, Ev.step (f := fun k => touchstoneref4_whole.l0 k p dp 0 x.f0 x.f1 x.f2) (fun k => ?_) (by simpa using hc)⟩
    simp only [touchstoneref4_whole.j1]; rw [if_neg (by decide)]
   ·refine ⟨false, Ev.step (f := fun k => some false) (fun k => ?_) (Ev.now _)⟩
    simp only [touchstoneref4_whole.j1, if_true]
  have hJ0 : ∀ b, ∃ r, Ev (fun k => touchstoneref4_whole.j0 k p dp b x.f0 x.f1 x.f2) r := fun b => by
   cases b
   ·have st : ∀ k, touchstoneref4_whole.j0 (k + 1) p dp false x.f0 x.f1 x.f2 = touchstoneref4_whole.j1 k p dp (if x.f0 = 4 then (if x.f1 < 0 then true else if x.f1 ≥ p then true else false) else x.f1 != 0) x.f0 x.f1 x.f2 := fun k => by
     simp only [touchstoneref4_whole.j0, Bool.false_eq_true, if_false]
     (repeat' split) <;> rfl
    obtain ⟨r, hr⟩ := hJ1 (if x.f0 = 4 then (if x.f1 < 0 then true else if x.f1 ≥ p then true else false) else x.f1 != 0)
    exact ⟨r, Ev.step st hr⟩
   ·exact ⟨false, hF _ rfl⟩
  obtain ⟨v, hv⟩ := args4_is x.f0
  obtain ⟨r, hr⟩ := hJ0 (v != (x.f2.length : Int))
  refine ⟨r, Ev.step (f := fun k => (touchstoneref4_args.f k x.f0).bind fun q => touchstoneref4_whole.j0 k p dp (q != (x.f2.length : Int)) x.f0 x.f1 x.f2) (fun k => ?_) (Ev.bind (a := v) ⟨1, fun k hk => ?_⟩ hr)⟩
  ·simp only [touchstoneref4_whole.f]; rw [if_neg hd]
  ·obtain ⟨q, rfl⟩ : ∃ q, k = q + 1 := ⟨k - 1, by omega⟩
   exact hv q
theorem may4_is {x : S76} (h : Ok76 x) (p : Int) : ∃ b, Ev (fun k => touchstoneref4_May.f k x.f0 x.f1 x.f2 p) b := by
 obtain ⟨r, hr, _, _⟩ := parts_is h 64 (by omega) (by omega)
 obtain ⟨b, hb⟩ := whole4_is h (mn (mx p 0) 4) 1 (by omega) (by omega)
 by_cases h64 : r ≤ 64
 rotate_left
 ·exact ⟨false, Ev.bind hr (by simp only [if_neg h64]; exact Ev.now _)⟩
 exact ⟨b, Ev.bind hr (by simp only [if_pos h64]; exact Ev.bind hb (Ev.now _))⟩
theorem lightL_is {ls : List S76} (hx : ls.length * 40 ≤ 140737488351232) (hl : ∀ l ∈ ls, Ok76 l) : ∃ b, Ev (fun k => touchstonelaw5_lightLevels.f k ls) b := by
 have hL : ∀ d (i : Nat), ls.length - i = d → i ≤ ls.length → ∃ b, Ev (fun k => touchstonelaw5_lightLevels.l0 k ls (i : Int)) b := by
  intro d
  induction d with
  | zero =>
   intro i hdi hi
   refine ⟨true, Ev.step (f := fun k => some true) (fun k => ?_) (Ev.now _)⟩
   simp only [touchstonelaw5_lightLevels.l0]
   rw [if_neg (nlti (by omega))]
  | succ d ihd =>
   intro i hdi hi
   have hlt : i < ls.length := by omega
   obtain ⟨b, hb⟩ := may4_is (hl _ (List.getElem_mem hlt)) 4
   obtain ⟨c, hc⟩ := ihd (i + 1) (by omega) (by omega)
   have st : ∀ k, touchstonelaw5_lightLevels.l0 (k + 1) ls (i : Int) = (touchstoneref4_May.f k (ls[i]).f0 (ls[i]).f1 (ls[i]).f2 4).bind fun q => if q = true then touchstonelaw5_lightLevels.l0 k ls ((i + 1 : Nat) : Int) else some false := fun k => by
    have hw : wrap64 ((i : Int) + 1) = ((i + 1 : Nat) : Int) := wri hlt (by omega)
    simp only [touchstonelaw5_lightLevels.l0]
    rw [if_pos (lti hlt), if_pos (Int.natCast_nonneg i), rd76 hlt, hw]
   cases b
   ·exact ⟨false, Ev.step st (Ev.bind hb (Ev.now _))⟩
   ·exact ⟨c, Ev.step st (Ev.bind hb (by simpa using hc))⟩
 obtain ⟨b, hb⟩ := hL ls.length 0 (by omega) (by omega)
 exact ⟨b, by simpa [touchstonelaw5_lightLevels.f] using hb⟩
theorem termL_is {B : Int} {t : S27} (h : WhB B t) : ∃ b, Ev (fun k => touchstonelaw5_termLevels.f k t.f0 t.f1 t.f2 t.f3 t.f4) b := by
 induction h with
 | mk h0 h1 h2 h3 hl h4 hs ih =>
  rename_i t
  have hL : ∀ d (i : Nat), t.f4.length - i = d → i ≤ t.f4.length → ∃ b, Ev (fun k => touchstonelaw5_termLevels.l0 k (i : Int) t.f0 t.f1 t.f2 t.f3 t.f4) b := by
   intro d
   induction d with
   | zero =>
    intro i hdi hi
    refine ⟨true, Ev.step (f := fun k => some true) (fun k => ?_) (Ev.now _)⟩
    simp only [touchstonelaw5_termLevels.l0]
    rw [if_neg (nlti (by omega))]
   | succ d ihd =>
    intro i hdi hi
    have hlt : i < t.f4.length := by omega
    obtain ⟨b, hb⟩ := ih _ (List.getElem_mem hlt)
    obtain ⟨c, hc⟩ := ihd (i + 1) (by omega) (by omega)
    have st : ∀ k, touchstonelaw5_termLevels.l0 (k + 1) (i : Int) t.f0 t.f1 t.f2 t.f3 t.f4 = (touchstonelaw5_termLevels.f k (t.f4[i]).f0 (t.f4[i]).f1 (t.f4[i]).f2 (t.f4[i]).f3 (t.f4[i]).f4).bind fun q => if q = true then touchstonelaw5_termLevels.l0 k ((i + 1 : Nat) : Int) t.f0 t.f1 t.f2 t.f3 t.f4 else some false := fun k => by
     have hw : wrap64 ((i : Int) + 1) = ((i + 1 : Nat) : Int) := wri hlt (by omega)
     simp only [touchstonelaw5_termLevels.l0]
     rw [if_pos (lti hlt), if_pos (Int.natCast_nonneg i), rd27 hlt, hw]
    cases b
    ·exact ⟨false, Ev.step st (Ev.bind hb (Ev.now _))⟩
    ·exact ⟨c, Ev.step st (Ev.bind hb (by simpa using hc))⟩
  obtain ⟨c, hc⟩ := hL t.f4.length 0 (by omega) (by omega)
  obtain ⟨b, hb⟩ := lightL_is h3 hl
  have st : ∀ k, touchstonelaw5_termLevels.f (k + 1) t.f0 t.f1 t.f2 t.f3 t.f4 = (touchstonelaw5_lightLevels.f k t.f3).bind fun q => if q = true then touchstonelaw5_termLevels.l0 k 0 t.f0 t.f1 t.f2 t.f3 t.f4 else some false := fun k => by
   simp only [touchstonelaw5_termLevels.f]
  cases b
  ·exact ⟨false, Ev.step st (Ev.bind hb (Ev.now _))⟩
  ·exact ⟨c, Ev.step st (Ev.bind hb (by simpa using hc))⟩
end Go.Proofs.Ytpejhapgffcngaa.QK

