/- The document's part: is one part of a term whole? -/
import Derived.Test.YtpejhapgffcngaaXShort
import Derived.Test.YtpejhapgffcngaaQKApart
import Derived.Test.YtpejhapgffcngaaWWords
import Derived.Test.YtpejhapgffcngaaWShare
import Derived.Test.YtpejhapgffcngaaXOpen
import Derived.Laws.BitsAllLaws
import Derived.Deep.QuietTactic
import Derived.BigQuiet
import Derived.Outline
set_option linter.unusedVariables false
set_option linter.unusedSimpArgs false
namespace Go.Proofs.Ytpejhapgffcngaa.QK
open Go.RowKit Go.Proofs.YtpejhapgffcngaaW.PrintWords Go.Proofs.YtpejhapgffcngaaW.PrintLast Go.Proofs.YtpejhapgffcngaaW.PrintMore
attribute [local go_sem] max2_int min2_int max_two min_two max_three min_three max_four min_four
mutual
def ref5ArgsA.j0 : Nat → Int → Bool → Option (Int)
 | 0, _, _ => none
 | k + 1, x3, x4 => if x4 = true then (some 0) else (if x3 = 3 then (ref5ArgsA.j1 k x3 (x3 == 3)) else (if x3 = 4 then (ref5ArgsA.j1 k x3 (x3 == 4)) else (ref5ArgsA.j1 k x3 (x3 == 5))))
def ref5ArgsA.j1 : Nat → Int → Bool → Option (Int)
 | 0, _, _ => none
 | k + 1, x3, x8 => if x8 = true then (some 2) else (if x3 = 6 then (some 3) else (some (-1)))
end
def ref5ArgsA.f (k : Nat) (a0 : Int) : Option (Int) := if a0 = 0 then (ref5ArgsA.j0 k a0 (a0 == 0)) else (if a0 = 1 then (ref5ArgsA.j0 k a0 (a0 == 1)) else (ref5ArgsA.j0 k a0 (a0 == 2)))
set_option maxHeartbeats 8000000 in
set_option maxRecDepth 100000 in
theorem ref5ArgsA.calls (k : Nat) (a0 : Int) (r : Int) (w : World) (h : ref5ArgsA.f k a0 = some r) :
  Calls Try.prog 135 #[.int .i64 a0] w fun e w' => e = .returned (.int .i64 r) ∧ Drawn0 w w' := by
 have H : (if a0 = 0 then (ref5ArgsA.j0 k a0 (a0 == 0)) else (if a0 = 1 then (ref5ArgsA.j0 k a0 (a0 == 1)) else (ref5ArgsA.j0 k a0 (a0 == 2)))) = some r := h
 clear h
 have HC2 := aS H
 clear H
 go_enter Try.func135, Try.ntmps135
 go_upto_if 4 with (fail)
 go_cut [4] (fun v4 wc => ∃ (kq : Nat) (x4_1 : Bool), v4 = .bool x4_1 ∧ Aside0 (ref5ArgsA.j0 kq a0 x4_1 = some r) ∧ Aside0 (kq ≤ k) ∧ Drawn0 w wc)
 case first =>
  have H := HC2.out
  clear HC2
  by_cases c3 : a0 = 0
  ·rw [if_pos c3] at H
   have c3b0 : (a0 == 0) = true := beq_iff_eq.mpr c3
   have c3b1 : (a0 != 0) = false := bne_eq_false_iff_eq.mpr c3
   clear c3
   (first | rw [c3b0] | (simp only [i64_w, i32_w]; rw [c3b0]) | skip)
   have H' := aS H
   clear H
   go_wp2
   go_meet
   case rel => exact ⟨_, ((a0 == 0)), br, H', ⟨by first | omega | exact Nat.le_refl _⟩, by repeat (first | exact Drawn0.refl _ | apply Drawn0.step)⟩
  rw [if_neg c3] at H
  have c3b0 : (a0 == 0) = false := beq_eq_false_iff_ne.mpr c3
  have c3b1 : (a0 != 0) = true := bne_iff_ne.mpr c3
  (first | rw [c3b0] | (simp only [i64_w, i32_w]; rw [c3b0]) | skip)
  by_cases c4 : a0 = 1
  rotate_left
  ·rw [if_neg c4] at H
   have c4b0 : (a0 == 1) = false := beq_eq_false_iff_ne.mpr c4
   have c4b1 : (a0 != 1) = true := bne_iff_ne.mpr c4
   have H' := aS H
   clear H
   go_wp2
   go_meet
   case rel => exact ⟨_, ((a0 == 2)), br, H', ⟨by first | omega | exact Nat.le_refl _⟩, by repeat (first | exact Drawn0.refl _ | apply Drawn0.step)⟩
  rw [if_pos c4] at H
  have c4b0 : (a0 == 1) = true := beq_iff_eq.mpr c4
  have c4b1 : (a0 != 1) = false := bne_eq_false_iff_eq.mpr c4
  clear c4
  have H' := aS H
  clear H
  go_wp2
  go_meet
  case rel => exact ⟨_, ((a0 == 1)), br, H', ⟨by first | omega | exact Nat.le_refl _⟩, by repeat (first | exact Drawn0.refl _ | apply Drawn0.step)⟩
 case rest =>
  clear HC2
  try clear c1
  try clear p2
  try clear c3
  try clear c3b0
  try clear c3b1
  try clear c4
  try clear c4b0
  try clear c4b1
  obtain ⟨kq, x4_1, rfl, HA, HJ1, ⟨mc1, rfl⟩⟩ := hcut
  cases kq with
  | zero => exact absurd HA.out (by simp [ref5ArgsA.j0])
  | succ kj1 =>
   have H := HA.out
   clear HA
   simp only [ref5ArgsA.j0] at H
   by_cases c5 : x4_1 = true
   ·subst c5
    have H1 : (some 0) = some r := by rw [if_pos rfl] at H; exact H
    clear H
    have H := H1
    clear H1
    obtain rfl := Option.some.inj H
    go_wp2
    go_ret
    exact ⟨by first | rfl | (simp; done) | (simp [*]; done), by repeat (first | exact Drawn0.refl _ | apply Drawn0.step)⟩
   replace c5 := Bool.eq_false_iff.mpr c5
   subst c5
   have H1 : (if a0 = 3 then (ref5ArgsA.j1 kj1 a0 (a0 == 3)) else (if a0 = 4 then (ref5ArgsA.j1 kj1 a0 (a0 == 4)) else (ref5ArgsA.j1 kj1 a0 (a0 == 5)))) = some r := by rw [if_neg (show ¬ (false = true) by decide)] at H; exact H
   clear H
   have H := H1
   clear H1
   have HC6 := aS H
   clear H
   go_upto_if 8 with (fail)
   go_cut [8] (fun v8 wc => ∃ (kq : Nat) (x8_5 : Bool), v8 = .bool x8_5 ∧ Aside0 (ref5ArgsA.j1 kq a0 x8_5 = some r) ∧ Aside0 (kq ≤ kj1) ∧ Drawn0 w wc)
   case first =>
    have H := HC6.out
    clear HC6
    by_cases c7 : a0 = 3
    ·rw [if_pos c7] at H
     have c7b0 : (a0 == 3) = true := beq_iff_eq.mpr c7
     have c7b1 : (a0 != 3) = false := bne_eq_false_iff_eq.mpr c7
     clear c7
     (first | rw [c7b0] | (simp only [i64_w, i32_w]; rw [c7b0]) | skip)
     have H' := aS H
     clear H
     go_wp2
     go_meet
     case rel => exact ⟨_, ((a0 == 3)), br, H', ⟨by have := HJ1.out; first | omega | exact Nat.le_refl _⟩, by repeat (first | exact Drawn0.refl _ | apply Drawn0.step)⟩
    rw [if_neg c7] at H
    have c7b0 : (a0 == 3) = false := beq_eq_false_iff_ne.mpr c7
    have c7b1 : (a0 != 3) = true := bne_iff_ne.mpr c7
    (first | rw [c7b0] | (simp only [i64_w, i32_w]; rw [c7b0]) | skip)
    by_cases c8 : a0 = 4
    rotate_left
    ·rw [if_neg c8] at H
     have c8b0 : (a0 == 4) = false := beq_eq_false_iff_ne.mpr c8
     have c8b1 : (a0 != 4) = true := bne_iff_ne.mpr c8
     have H' := aS H
     clear H
     go_wp2
     go_meet
     case rel => exact ⟨_, ((a0 == 5)), br, H', ⟨by have := HJ1.out; first | omega | exact Nat.le_refl _⟩, by repeat (first | exact Drawn0.refl _ | apply Drawn0.step)⟩
    rw [if_pos c8] at H
    have c8b0 : (a0 == 4) = true := beq_iff_eq.mpr c8
    have c8b1 : (a0 != 4) = false := bne_eq_false_iff_eq.mpr c8
    clear c8
    have H' := aS H
    clear H
    go_wp2
    go_meet
    case rel => exact ⟨_, ((a0 == 4)), br, H', ⟨by have := HJ1.out; first | omega | exact Nat.le_refl _⟩, by repeat (first | exact Drawn0.refl _ | apply Drawn0.step)⟩
   case rest =>
    clear HC6
    try clear c1
    try clear p2
    try clear c3
    try clear c3b0
    try clear c3b1
    try clear c4
    try clear c4b0
    try clear c4b1
    try clear c5
    try clear c7
    try clear c7b0
    try clear c7b1
    try clear c8
    try clear c8b0
    try clear c8b1
    try clear p2
    obtain ⟨kq, x8_5, rfl, HA, HJ5, ⟨mc5, rfl⟩⟩ := hcut
    cases kq with
    | zero => exact absurd HA.out (by simp [ref5ArgsA.j1])
    | succ kj5 =>
     have H := HA.out
     clear HA
     simp only [ref5ArgsA.j1] at H
     by_cases c9 : x8_5 = true
     ·subst c9
      have H1 : (some 2) = some r := by rw [if_pos rfl] at H; exact H
      clear H
      have H := H1
      clear H1
      obtain rfl := Option.some.inj H
      go_wp2
      go_ret
      exact ⟨by first | rfl | (simp; done) | (simp [*]; done), by repeat (first | exact Drawn0.refl _ | apply Drawn0.step)⟩
     replace c9 := Bool.eq_false_iff.mpr c9
     subst c9
     have H1 : (if a0 = 6 then (some 3) else (some (-1))) = some r := by rw [if_neg (show ¬ (false = true) by decide)] at H; exact H
     clear H
     have H := H1
     clear H1
     by_cases c10 : a0 = 6
     rotate_left
     ·rw [if_neg c10] at H
      have c10b0 : (a0 == 6) = false := beq_eq_false_iff_ne.mpr c10
      have c10b1 : (a0 != 6) = true := bne_iff_ne.mpr c10
      obtain rfl := Option.some.inj H
      go_wp2
      go_ret
      exact ⟨by first | rfl | (simp; done) | (simp [*]; done), by repeat (first | exact Drawn0.refl _ | apply Drawn0.step)⟩
     rw [if_pos c10] at H
     have c10b0 : (a0 == 6) = true := beq_iff_eq.mpr c10
     have c10b1 : (a0 != 6) = false := bne_eq_false_iff_eq.mpr c10
     clear c10
     obtain rfl := Option.some.inj H
     go_wp2
     go_ret
     exact ⟨by first | rfl | (simp; done) | (simp [*]; done), by repeat (first | exact Drawn0.refl _ | apply Drawn0.step)⟩
def argsI (k : Int) : Int := if k = 0 ∨ k = 1 ∨ k = 2 then 0 else if k = 3 ∨ k = 4 ∨ k = 5 then 2 else if k = 6 then 3 else -1
theorem args_is {q : Nat} (hq : 4 ≤ q) (k : Int) : ref5ArgsA.f q k = some (argsI k) := by
 obtain ⟨q, rfl⟩ : ∃ m, q = m + 4 := ⟨q - 4, by omega⟩
 unfold argsI ref5ArgsA.f
 by_cases h0 : k = 0
 ·subst h0; rfl
 by_cases h1 : k = 1
 ·subst h1; rfl
 by_cases h2 : k = 2
 ·subst h2; rfl
 rw [if_neg h0, if_neg h1]
 simp only [ref5ArgsA.j0, ref5ArgsA.j1, h0, h1, h2, beq_iff_eq, or_self, if_false]
 by_cases h3 : k = 3
 ·subst h3; simp
 by_cases h4 : k = 4
 ·subst h4; simp
 by_cases h5 : k = 5
 ·subst h5; simp
 by_cases h6 : k = 6
 ·subst h6; simp
 simp [h3, h4, h5, h6]
theorem args_quiet (w : World) (a : Nat) (k : Int) : Calls Try.prog 135 #[.int .i64 k] (w.drewN a) fun e w'' => e = .returned (.int .i64 (argsI k)) ∧ ∃ m, w'' = w.drewN m :=
 Calls.quiet_of (w := w) (n := a) ((ref5ArgsA.calls 4 k _ (w.drewN a) (args_is (Nat.le_refl _) k)).mono fun e w' ⟨he, m, hm⟩ => ⟨he, m, hm⟩)
set_option maxRecDepth 100000 in
set_option maxHeartbeats 8000000 in
theorem part_a (k n : Int) (nm : ByteArray) (A3 : Option Addr) (c3 : Nat) (l3 : List S76) (A4 : Option Addr) (c4 : Nat) (l4 : List S27) (w : World) (h1 : argsI k ≠ (l4.length : Int)) :
  Calls Try.prog 117 #[.agg #[.int .i64 k, .int .i64 n, .string nm, .slice A3 l3.length c3, .slice A4 l4.length c4]] w fun e w' => e = .returned (.bool false) ∧ Below w.heap.size w w' := by
 have f1 : (argsI k != (l4.length : Int)) = true := bne_iff_ne.2 h1
 clear h1
 go_enter Try.func117, Try.ntmps117
 go_wp2_with (first | ((with_reducible refine gate_dst (N := 1) rfl ?_); refine bx (N := 1) (t := 27) #[.int .i64 k, .int .i64 n, .string nm, .slice A3 l3.length c3, .slice A4 l4.length c4] ?_; intro gb hg wb hbox hb; have HB := aS hb; have e0 : wb.cell? ⟨gb, 0, none⟩ = some (.int .i64 k) := (blk_cell hbox 0).trans rfl; have e1 : wb.cell? ⟨gb, 1, none⟩ = some (.int .i64 n) := (blk_cell hbox 1).trans rfl; have e2 : wb.cell? ⟨gb, 2, none⟩ = some (.string nm) := (blk_cell hbox 2).trans rfl; have e3 : wb.cell? ⟨gb, 3, none⟩ = some (.slice A3 l3.length c3) := (blk_cell hbox 3).trans rfl; have e4 : wb.cell? ⟨gb, 4, none⟩ = some (.slice A4 l4.length c4) := (blk_cell hbox 4).trans rfl; clear hbox hg hb))
 go_quiet (exact args_quiet _ _ k)
 go_wp2
 go_ret
 exact ⟨by first | rfl | (simp [*]; done), pw_below_drewN HB.out _⟩
set_option maxRecDepth 100000 in
set_option maxHeartbeats 8000000 in
theorem part_b (k n : Int) (nm : ByteArray) (A3 : Option Addr) (c3 : Nat) (l3 : List S76) (A4 : Option Addr) (c4 : Nat) (l4 : List S27) (w : World) (h1 : argsI k = (l4.length : Int)) (hk : k ≠ 0) (hn : n ≠ 0) :
  Calls Try.prog 117 #[.agg #[.int .i64 k, .int .i64 n, .string nm, .slice A3 l3.length c3, .slice A4 l4.length c4]] w fun e w' => e = .returned (.bool false) ∧ Below w.heap.size w w' := by
 have f1 : (argsI k != (l4.length : Int)) = false := bne_eq_false_iff_eq.2 h1
 have q0 : (k != 0) = true := bne_iff_ne.2 hk
 have q1 : (n != 0) = true := bne_iff_ne.2 hn
 clear hn
 clear hk
 clear h1
 go_enter Try.func117, Try.ntmps117
 go_wp2_with (first | ((with_reducible refine gate_dst (N := 1) rfl ?_); refine bx (N := 1) (t := 27) #[.int .i64 k, .int .i64 n, .string nm, .slice A3 l3.length c3, .slice A4 l4.length c4] ?_; intro gb hg wb hbox hb; have HB := aS hb; have e0 : wb.cell? ⟨gb, 0, none⟩ = some (.int .i64 k) := (blk_cell hbox 0).trans rfl; have e1 : wb.cell? ⟨gb, 1, none⟩ = some (.int .i64 n) := (blk_cell hbox 1).trans rfl; have e2 : wb.cell? ⟨gb, 2, none⟩ = some (.string nm) := (blk_cell hbox 2).trans rfl; have e3 : wb.cell? ⟨gb, 3, none⟩ = some (.slice A3 l3.length c3) := (blk_cell hbox 3).trans rfl; have e4 : wb.cell? ⟨gb, 4, none⟩ = some (.slice A4 l4.length c4) := (blk_cell hbox 4).trans rfl; clear hbox hg hb))
 go_quiet (exact args_quiet _ _ k)
 go_wp2
 go_ret
 exact ⟨by first | rfl | (simp [*]; done), pw_below_drewN HB.out _⟩
set_option maxRecDepth 100000 in
set_option maxHeartbeats 8000000 in
theorem part_c (k n : Int) (nm : ByteArray) (A3 : Option Addr) (c3 : Nat) (l3 : List S76) (A4 : Option Addr) (c4 : Nat) (l4 : List S27) (w : World) (h1 : argsI k = (l4.length : Int)) (hk : k = 0) (hn : n < 0) :
  Calls Try.prog 117 #[.agg #[.int .i64 k, .int .i64 n, .string nm, .slice A3 l3.length c3, .slice A4 l4.length c4]] w fun e w' => e = .returned (.bool false) ∧ Below w.heap.size w w' := by
 have f1 : (argsI k != (l4.length : Int)) = false := bne_eq_false_iff_eq.2 h1
 have q0 : (k != 0) = false := bne_eq_false_iff_eq.2 hk
 have q2 : decide (n < 0) = true := decide_eq_true hn
 clear hn
 clear hk
 clear h1
 go_enter Try.func117, Try.ntmps117
 go_wp2_with (first | ((with_reducible refine gate_dst (N := 1) rfl ?_); refine bx (N := 1) (t := 27) #[.int .i64 k, .int .i64 n, .string nm, .slice A3 l3.length c3, .slice A4 l4.length c4] ?_; intro gb hg wb hbox hb; have HB := aS hb; have e0 : wb.cell? ⟨gb, 0, none⟩ = some (.int .i64 k) := (blk_cell hbox 0).trans rfl; have e1 : wb.cell? ⟨gb, 1, none⟩ = some (.int .i64 n) := (blk_cell hbox 1).trans rfl; have e2 : wb.cell? ⟨gb, 2, none⟩ = some (.string nm) := (blk_cell hbox 2).trans rfl; have e3 : wb.cell? ⟨gb, 3, none⟩ = some (.slice A3 l3.length c3) := (blk_cell hbox 3).trans rfl; have e4 : wb.cell? ⟨gb, 4, none⟩ = some (.slice A4 l4.length c4) := (blk_cell hbox 4).trans rfl; clear hbox hg hb))
 go_quiet (exact args_quiet _ _ k)
 go_wp2
 go_ret
 exact ⟨by first | rfl | (simp [*]; done), pw_below_drewN HB.out _⟩
set_option maxRecDepth 100000 in
set_option maxHeartbeats 8000000 in
theorem part_d (k n : Int) (nm : ByteArray) (A3 : Option Addr) (c3 : Nat) (l3 : List S76) (A4 : Option Addr) (c4 : Nat) (l4 : List S27) (w : World) (h1 : argsI k = (l4.length : Int)) (hk : k = 0) (hn : 1073741824 < n) :
  Calls Try.prog 117 #[.agg #[.int .i64 k, .int .i64 n, .string nm, .slice A3 l3.length c3, .slice A4 l4.length c4]] w fun e w' => e = .returned (.bool false) ∧ Below w.heap.size w w' := by
 have f1 : (argsI k != (l4.length : Int)) = false := bne_eq_false_iff_eq.2 h1
 have q0 : (k != 0) = false := bne_eq_false_iff_eq.2 hk
 have q2 : decide (n < 0) = false := decide_eq_false (by omega)
 have q3 : decide (1073741824 < n) = true := decide_eq_true hn
 clear hn
 clear hk
 clear h1
 go_enter Try.func117, Try.ntmps117
 go_wp2_with (first | ((with_reducible refine gate_dst (N := 1) rfl ?_); refine bx (N := 1) (t := 27) #[.int .i64 k, .int .i64 n, .string nm, .slice A3 l3.length c3, .slice A4 l4.length c4] ?_; intro gb hg wb hbox hb; have HB := aS hb; have e0 : wb.cell? ⟨gb, 0, none⟩ = some (.int .i64 k) := (blk_cell hbox 0).trans rfl; have e1 : wb.cell? ⟨gb, 1, none⟩ = some (.int .i64 n) := (blk_cell hbox 1).trans rfl; have e2 : wb.cell? ⟨gb, 2, none⟩ = some (.string nm) := (blk_cell hbox 2).trans rfl; have e3 : wb.cell? ⟨gb, 3, none⟩ = some (.slice A3 l3.length c3) := (blk_cell hbox 3).trans rfl; have e4 : wb.cell? ⟨gb, 4, none⟩ = some (.slice A4 l4.length c4) := (blk_cell hbox 4).trans rfl; clear hbox hg hb))
 go_quiet (exact args_quiet _ _ k)
 go_wp2
 go_ret
 exact ⟨by first | rfl | (simp [*]; done), pw_below_drewN HB.out _⟩
set_option maxRecDepth 100000 in
set_option maxHeartbeats 8000000 in
theorem part_e0 (k n : Int) (nm : ByteArray) (A3 : Option Addr) (c3 : Nat) (l3 : List S76) (A4 : Option Addr) (c4 : Nat) (l4 : List S27) (w : World) (h1 : argsI k = (l4.length : Int)) (hk : k = 0) (hn : 0 ≤ n) (hn2 : n ≤ 1073741824) (hm : nm.toList.isEmpty = false) :
  Calls Try.prog 117 #[.agg #[.int .i64 k, .int .i64 n, .string nm, .slice A3 l3.length c3, .slice A4 l4.length c4]] w fun e w' => e = .returned (.bool false) ∧ Below w.heap.size w w' := by
 have f1 : (argsI k != (l4.length : Int)) = false := bne_eq_false_iff_eq.2 h1
 have q0 : (k != 0) = false := bne_eq_false_iff_eq.2 hk
 have q2 : decide (n < 0) = false := decide_eq_false (by omega)
 have q3 : decide (1073741824 < n) = false := decide_eq_false (by omega)
 have q4 : (k != 2) = true := bne_iff_ne.2 (by omega)
 have q5 : nm.toList.isEmpty = false := hm
 clear hm
 clear hn2
 clear hn
 clear hk
 clear h1
 go_enter Try.func117, Try.ntmps117
 go_wp2_with (first | ((with_reducible refine gate_dst (N := 1) rfl ?_); refine bx (N := 1) (t := 27) #[.int .i64 k, .int .i64 n, .string nm, .slice A3 l3.length c3, .slice A4 l4.length c4] ?_; intro gb hg wb hbox hb; have HB := aS hb; have e0 : wb.cell? ⟨gb, 0, none⟩ = some (.int .i64 k) := (blk_cell hbox 0).trans rfl; have e1 : wb.cell? ⟨gb, 1, none⟩ = some (.int .i64 n) := (blk_cell hbox 1).trans rfl; have e2 : wb.cell? ⟨gb, 2, none⟩ = some (.string nm) := (blk_cell hbox 2).trans rfl; have e3 : wb.cell? ⟨gb, 3, none⟩ = some (.slice A3 l3.length c3) := (blk_cell hbox 3).trans rfl; have e4 : wb.cell? ⟨gb, 4, none⟩ = some (.slice A4 l4.length c4) := (blk_cell hbox 4).trans rfl; clear hbox hg hb))
 go_quiet (exact args_quiet _ _ k)
 go_wp2
 go_ret
 exact ⟨by first | rfl | (simp [*]; done), pw_below_drewN HB.out _⟩
set_option maxRecDepth 100000 in
set_option maxHeartbeats 8000000 in
theorem part_e1 (k n : Int) (nm : ByteArray) (A3 : Option Addr) (c3 : Nat) (l3 : List S76) (A4 : Option Addr) (c4 : Nat) (l4 : List S27) (w : World) (h1 : argsI k = (l4.length : Int)) (hk : k ≠ 0) (hn : n = 0) (h2 : k ≠ 2) (hm : nm.toList.isEmpty = false) :
  Calls Try.prog 117 #[.agg #[.int .i64 k, .int .i64 n, .string nm, .slice A3 l3.length c3, .slice A4 l4.length c4]] w fun e w' => e = .returned (.bool false) ∧ Below w.heap.size w w' := by
 have f1 : (argsI k != (l4.length : Int)) = false := bne_eq_false_iff_eq.2 h1
 have q0 : (k != 0) = true := bne_iff_ne.2 hk
 have q1 : (n != 0) = false := bne_eq_false_iff_eq.2 hn
 have q2 : decide (n < 0) = false := decide_eq_false (by omega)
 have q3 : decide (1073741824 < n) = false := decide_eq_false (by omega)
 have q4 : (k != 2) = true := bne_iff_ne.2 h2
 have q6 : (k == 2) = false := beq_eq_false_iff_ne.2 h2
 have q5 : nm.toList.isEmpty = false := hm
 clear hm
 clear h2
 clear hn
 clear hk
 clear h1
 go_enter Try.func117, Try.ntmps117
 go_wp2_with (first | ((with_reducible refine gate_dst (N := 1) rfl ?_); refine bx (N := 1) (t := 27) #[.int .i64 k, .int .i64 n, .string nm, .slice A3 l3.length c3, .slice A4 l4.length c4] ?_; intro gb hg wb hbox hb; have HB := aS hb; have e0 : wb.cell? ⟨gb, 0, none⟩ = some (.int .i64 k) := (blk_cell hbox 0).trans rfl; have e1 : wb.cell? ⟨gb, 1, none⟩ = some (.int .i64 n) := (blk_cell hbox 1).trans rfl; have e2 : wb.cell? ⟨gb, 2, none⟩ = some (.string nm) := (blk_cell hbox 2).trans rfl; have e3 : wb.cell? ⟨gb, 3, none⟩ = some (.slice A3 l3.length c3) := (blk_cell hbox 3).trans rfl; have e4 : wb.cell? ⟨gb, 4, none⟩ = some (.slice A4 l4.length c4) := (blk_cell hbox 4).trans rfl; clear hbox hg hb))
 go_quiet (exact args_quiet _ _ k)
 go_wp2
 go_ret
 exact ⟨by first | rfl | (simp [*]; done), pw_below_drewN HB.out _⟩
set_option maxRecDepth 100000 in
set_option maxHeartbeats 8000000 in
theorem part_f (k n : Int) (nm : ByteArray) (A3 : Option Addr) (c3 : Nat) (l3 : List S76) (A4 : Option Addr) (c4 : Nat) (l4 : List S27) (w : World) (h1 : argsI k = (l4.length : Int)) (hk : k ≠ 0) (hn : n = 0) (h2 : k = 2) :
  Calls Try.prog 117 #[.agg #[.int .i64 k, .int .i64 n, .string nm, .slice A3 l3.length c3, .slice A4 l4.length c4]] w fun e w' => e = .returned (.bool true) ∧ Below w.heap.size w w' := by
 have f1 : (argsI k != (l4.length : Int)) = false := bne_eq_false_iff_eq.2 h1
 have q0 : (k != 0) = true := bne_iff_ne.2 hk
 have q1 : (n != 0) = false := bne_eq_false_iff_eq.2 hn
 have q2 : decide (n < 0) = false := decide_eq_false (by omega)
 have q3 : decide (1073741824 < n) = false := decide_eq_false (by omega)
 have q4 : (k != 2) = false := bne_eq_false_iff_eq.2 h2
 have q6 : (k == 2) = true := beq_iff_eq.2 h2
 clear h2
 clear hn
 clear hk
 clear h1
 go_enter Try.func117, Try.ntmps117
 go_wp2_with (first | ((with_reducible refine gate_dst (N := 1) rfl ?_); refine bx (N := 1) (t := 27) #[.int .i64 k, .int .i64 n, .string nm, .slice A3 l3.length c3, .slice A4 l4.length c4] ?_; intro gb hg wb hbox hb; have HB := aS hb; have e0 : wb.cell? ⟨gb, 0, none⟩ = some (.int .i64 k) := (blk_cell hbox 0).trans rfl; have e1 : wb.cell? ⟨gb, 1, none⟩ = some (.int .i64 n) := (blk_cell hbox 1).trans rfl; have e2 : wb.cell? ⟨gb, 2, none⟩ = some (.string nm) := (blk_cell hbox 2).trans rfl; have e3 : wb.cell? ⟨gb, 3, none⟩ = some (.slice A3 l3.length c3) := (blk_cell hbox 3).trans rfl; have e4 : wb.cell? ⟨gb, 4, none⟩ = some (.slice A4 l4.length c4) := (blk_cell hbox 4).trans rfl; clear hbox hg hb))
 go_quiet (exact args_quiet _ _ k)
 go_wp2
 go_ret
 exact ⟨by first | rfl | (simp [*]; done), pw_below_drewN HB.out _⟩
set_option maxRecDepth 100000 in
set_option maxHeartbeats 8000000 in
theorem part_g1 (n : Int) (nm : ByteArray) (A3 : Option Addr) (c3 : Nat) (l3 : List S76) (A4 : Option Addr) (c4 : Nat) (l4 : List S27) (w : World) (h1 : argsI 1 = (l4.length : Int)) (hn : n = 0) (hm : nm.toList.isEmpty = true) (hl : (l3.length : Int) = 1) :
  Calls Try.prog 117 #[.agg #[.int .i64 1, .int .i64 n, .string nm, .slice A3 l3.length c3, .slice A4 l4.length c4]] w fun e w' => e = .returned (.bool true) ∧ Below w.heap.size w w' := by
 have f1 : (argsI 1 != (l4.length : Int)) = false := bne_eq_false_iff_eq.2 h1
 have q1 : (n != 0) = false := bne_eq_false_iff_eq.2 hn
 have q2 : decide (n < 0) = false := decide_eq_false (by omega)
 have q3 : decide (1073741824 < n) = false := decide_eq_false (by omega)
 have q5 : nm.toList.isEmpty = true := hm
 have q12 : ((l3.length : Int) == 1) = true := beq_iff_eq.2 hl
 have q13 : ((l3.length : Int) = 1) = True := eq_true hl
 have q14 : (l3.length = 1) = True := eq_true (by omega)
 clear hl
 clear hm
 clear hn
 clear h1
 go_enter Try.func117, Try.ntmps117
 go_wp2_with (first | ((with_reducible refine gate_dst (N := 1) rfl ?_); refine bx (N := 1) (t := 27) #[.int .i64 1, .int .i64 n, .string nm, .slice A3 l3.length c3, .slice A4 l4.length c4] ?_; intro gb hg wb hbox hb; have HB := aS hb; have e0 : wb.cell? ⟨gb, 0, none⟩ = some (.int .i64 1) := (blk_cell hbox 0).trans rfl; have e1 : wb.cell? ⟨gb, 1, none⟩ = some (.int .i64 n) := (blk_cell hbox 1).trans rfl; have e2 : wb.cell? ⟨gb, 2, none⟩ = some (.string nm) := (blk_cell hbox 2).trans rfl; have e3 : wb.cell? ⟨gb, 3, none⟩ = some (.slice A3 l3.length c3) := (blk_cell hbox 3).trans rfl; have e4 : wb.cell? ⟨gb, 4, none⟩ = some (.slice A4 l4.length c4) := (blk_cell hbox 4).trans rfl; clear hbox hg hb))
 go_quiet (exact args_quiet _ _ 1)
 go_wp2
 go_ret
 exact ⟨by first | rfl | (simp [*]; done), pw_below_drewN HB.out _⟩
set_option maxRecDepth 100000 in
set_option maxHeartbeats 8000000 in
theorem part_g2 (n : Int) (nm : ByteArray) (A3 : Option Addr) (c3 : Nat) (l3 : List S76) (A4 : Option Addr) (c4 : Nat) (l4 : List S27) (w : World) (h1 : argsI 1 = (l4.length : Int)) (hn : n = 0) (hm : nm.toList.isEmpty = true) (hl : ¬ (l3.length : Int) = 1) :
  Calls Try.prog 117 #[.agg #[.int .i64 1, .int .i64 n, .string nm, .slice A3 l3.length c3, .slice A4 l4.length c4]] w fun e w' => e = .returned (.bool false) ∧ Below w.heap.size w w' := by
 have f1 : (argsI 1 != (l4.length : Int)) = false := bne_eq_false_iff_eq.2 h1
 have q1 : (n != 0) = false := bne_eq_false_iff_eq.2 hn
 have q2 : decide (n < 0) = false := decide_eq_false (by omega)
 have q3 : decide (1073741824 < n) = false := decide_eq_false (by omega)
 have q5 : nm.toList.isEmpty = true := hm
 have q12 : ((l3.length : Int) == 1) = false := beq_eq_false_iff_ne.2 hl
 have q13 : ((l3.length : Int) = 1) = False := eq_false hl
 have q14 : (l3.length = 1) = False := eq_false (by omega)
 clear hl
 clear hm
 clear hn
 clear h1
 go_enter Try.func117, Try.ntmps117
 go_wp2_with (first | ((with_reducible refine gate_dst (N := 1) rfl ?_); refine bx (N := 1) (t := 27) #[.int .i64 1, .int .i64 n, .string nm, .slice A3 l3.length c3, .slice A4 l4.length c4] ?_; intro gb hg wb hbox hb; have HB := aS hb; have e0 : wb.cell? ⟨gb, 0, none⟩ = some (.int .i64 1) := (blk_cell hbox 0).trans rfl; have e1 : wb.cell? ⟨gb, 1, none⟩ = some (.int .i64 n) := (blk_cell hbox 1).trans rfl; have e2 : wb.cell? ⟨gb, 2, none⟩ = some (.string nm) := (blk_cell hbox 2).trans rfl; have e3 : wb.cell? ⟨gb, 3, none⟩ = some (.slice A3 l3.length c3) := (blk_cell hbox 3).trans rfl; have e4 : wb.cell? ⟨gb, 4, none⟩ = some (.slice A4 l4.length c4) := (blk_cell hbox 4).trans rfl; clear hbox hg hb))
 go_quiet (exact args_quiet _ _ 1)
 go_wp2
 go_ret
 exact ⟨by first | rfl | (simp [*]; done), pw_below_drewN HB.out _⟩
set_option maxRecDepth 100000 in
set_option maxHeartbeats 8000000 in
theorem part_h0 (n : Int) (nm : ByteArray) (A3 : Option Addr) (c3 : Nat) (l3 : List S76) (A4 : Option Addr) (c4 : Nat) (l4 : List S27) (w : World) (h1 : argsI 0 = (l4.length : Int)) (hn : 0 ≤ n) (hn2 : n ≤ 1073741824) (hm : nm.toList.isEmpty = true) :
  Calls Try.prog 117 #[.agg #[.int .i64 0, .int .i64 n, .string nm, .slice A3 l3.length c3, .slice A4 l4.length c4]] w fun e w' => e = .returned (.bool ((l3.length : Int) == 0)) ∧ Below w.heap.size w w' := by
 have f1 : (argsI 0 != (l4.length : Int)) = false := bne_eq_false_iff_eq.2 h1
 have q2 : decide (n < 0) = false := decide_eq_false (by omega)
 have q3 : decide (1073741824 < n) = false := decide_eq_false (by omega)
 have q5 : nm.toList.isEmpty = true := hm
 clear hm
 clear hn2
 clear hn
 clear h1
 go_enter Try.func117, Try.ntmps117
 go_wp2_with (first | ((with_reducible refine gate_dst (N := 1) rfl ?_); refine bx (N := 1) (t := 27) #[.int .i64 0, .int .i64 n, .string nm, .slice A3 l3.length c3, .slice A4 l4.length c4] ?_; intro gb hg wb hbox hb; have HB := aS hb; have e0 : wb.cell? ⟨gb, 0, none⟩ = some (.int .i64 0) := (blk_cell hbox 0).trans rfl; have e1 : wb.cell? ⟨gb, 1, none⟩ = some (.int .i64 n) := (blk_cell hbox 1).trans rfl; have e2 : wb.cell? ⟨gb, 2, none⟩ = some (.string nm) := (blk_cell hbox 2).trans rfl; have e3 : wb.cell? ⟨gb, 3, none⟩ = some (.slice A3 l3.length c3) := (blk_cell hbox 3).trans rfl; have e4 : wb.cell? ⟨gb, 4, none⟩ = some (.slice A4 l4.length c4) := (blk_cell hbox 4).trans rfl; clear hbox hg hb))
 go_quiet (exact args_quiet _ _ 0)
 go_wp2
 go_ret
 exact ⟨by first | rfl | (simp [*]; done), pw_below_drewN HB.out _⟩
set_option maxRecDepth 100000 in
set_option maxHeartbeats 8000000 in
theorem part_h1 (k n : Int) (nm : ByteArray) (A3 : Option Addr) (c3 : Nat) (l3 : List S76) (A4 : Option Addr) (c4 : Nat) (l4 : List S27) (w : World) (h1 : argsI k = (l4.length : Int)) (hk : k ≠ 0) (hn : n = 0) (h2 : k ≠ 2) (hm : nm.toList.isEmpty = true) (hk1 : k ≠ 1) :
  Calls Try.prog 117 #[.agg #[.int .i64 k, .int .i64 n, .string nm, .slice A3 l3.length c3, .slice A4 l4.length c4]] w fun e w' => e = .returned (.bool ((l3.length : Int) == 0)) ∧ Below w.heap.size w w' := by
 have f1 : (argsI k != (l4.length : Int)) = false := bne_eq_false_iff_eq.2 h1
 have q0 : (k != 0) = true := bne_iff_ne.2 hk
 have q1 : (n != 0) = false := bne_eq_false_iff_eq.2 hn
 have q2 : decide (n < 0) = false := decide_eq_false (by omega)
 have q3 : decide (1073741824 < n) = false := decide_eq_false (by omega)
 have q4 : (k != 2) = true := bne_iff_ne.2 h2
 have q6 : (k == 2) = false := beq_eq_false_iff_ne.2 h2
 have q5 : nm.toList.isEmpty = true := hm
 have q7 : (k == 1) = false := beq_eq_false_iff_ne.2 hk1
 have q8 : (k != 1) = true := bne_iff_ne.2 hk1
 have q9 : (k = 1) = False := eq_false hk1
 have q10 : (k = 2) = False := eq_false h2
 have q11 : (k = 0) = False := eq_false hk
 clear hk1
 clear hm
 clear h2
 clear hn
 clear hk
 clear h1
 go_enter Try.func117, Try.ntmps117
 go_wp2_with (first | ((with_reducible refine gate_dst (N := 1) rfl ?_); refine bx (N := 1) (t := 27) #[.int .i64 k, .int .i64 n, .string nm, .slice A3 l3.length c3, .slice A4 l4.length c4] ?_; intro gb hg wb hbox hb; have HB := aS hb; have e0 : wb.cell? ⟨gb, 0, none⟩ = some (.int .i64 k) := (blk_cell hbox 0).trans rfl; have e1 : wb.cell? ⟨gb, 1, none⟩ = some (.int .i64 n) := (blk_cell hbox 1).trans rfl; have e2 : wb.cell? ⟨gb, 2, none⟩ = some (.string nm) := (blk_cell hbox 2).trans rfl; have e3 : wb.cell? ⟨gb, 3, none⟩ = some (.slice A3 l3.length c3) := (blk_cell hbox 3).trans rfl; have e4 : wb.cell? ⟨gb, 4, none⟩ = some (.slice A4 l4.length c4) := (blk_cell hbox 4).trans rfl; clear hbox hg hb))
 go_quiet (exact args_quiet _ _ k)
 go_wp2
 go_ret
 exact ⟨by first | rfl | (simp [*]; done), pw_below_drewN HB.out _⟩
def partB (k n : Int) (nm : ByteArray) (ll la : Nat) : Bool :=
 if argsI k ≠ (la : Int) then false
 else if k = 0 then (if n < 0 then false else if 1073741824 < n then false else if nm.toList.isEmpty = false then false else (ll : Int) == 0)
 else if n ≠ 0 then false
 else if k = 2 then true
 else if nm.toList.isEmpty = false then false
 else if k = 1 then (ll : Int) == 1 else (ll : Int) == 0
def touchstoneref5_part.f (a0_0 a0_1 : Int) (a0_2 : ByteArray) (l0_3 : List (S76)) (l0_4 : List (S27)) : Option Bool := some (partB a0_0 a0_1 a0_2 l0_3.length l0_4.length)
theorem touchstoneref5_part.calls (k n : Int) (nm : ByteArray) (A3 : Option Addr) (c3 : Nat) (l3 : List (S76)) (A4 : Option Addr) (c4 : Nat) (l4 : List (S27)) (r : Bool) (w : World) (_ : Kd.C k76 w A3 l3.length l3) (_ : l3.length ≤ c3) (_ : Kd.C k27 w A4 l4.length l4) (_ : l4.length ≤ c4) (h : touchstoneref5_part.f k n nm l3 l4 = some r) :
  Calls Try.prog 117 #[.agg #[.int .i64 k, .int .i64 n, .string nm, .slice A3 l3.length c3, .slice A4 l4.length c4]] w fun e w' => e = .returned (.bool r) ∧ Below w.heap.size w w' := by
 obtain rfl := Option.some.inj h
 unfold partB
 by_cases h1 : argsI k = (l4.length : Int)
 rotate_left
 ·rw [if_pos h1]; exact part_a k n nm A3 c3 l3 A4 c4 l4 w h1
 rw [if_neg (by simpa using h1)]
 by_cases hk : k = 0
 ·rw [if_pos hk]
  by_cases hn : n < 0
  ·rw [if_pos hn]; exact part_c k n nm A3 c3 l3 A4 c4 l4 w h1 hk hn
  rw [if_neg hn]
  by_cases hn2 : 1073741824 < n
  ·rw [if_pos hn2]; exact part_d k n nm A3 c3 l3 A4 c4 l4 w h1 hk hn2
  rw [if_neg hn2]
  cases hm : nm.toList.isEmpty
  ·rw [if_pos rfl]; exact part_e0 k n nm A3 c3 l3 A4 c4 l4 w h1 hk (by omega) (by omega) hm
  ·rw [if_neg (by decide)]
   subst hk
   exact part_h0 n nm A3 c3 l3 A4 c4 l4 w h1 (by omega) (by omega) hm
 rw [if_neg hk]
 by_cases hn : n = 0
 rotate_left
 ·rw [if_pos hn]; exact part_b k n nm A3 c3 l3 A4 c4 l4 w h1 hk hn
 rw [if_neg (by simpa using hn)]
 by_cases h2 : k = 2
 ·rw [if_pos h2]; exact part_f k n nm A3 c3 l3 A4 c4 l4 w h1 hk hn h2
 rw [if_neg h2]
 cases hm : nm.toList.isEmpty
 ·rw [if_pos rfl]; exact part_e1 k n nm A3 c3 l3 A4 c4 l4 w h1 hk hn h2 hm
 rw [if_neg (by decide)]
 by_cases hk1 : k = 1
 ·rw [if_pos hk1]
  subst hk1
  by_cases hl : (l3.length : Int) = 1
  ·rw [beq_iff_eq.2 hl]; exact part_g1 n nm A3 c3 l3 A4 c4 l4 w h1 hn hm hl
  rw [beq_eq_false_iff_ne.2 hl]; exact part_g2 n nm A3 c3 l3 A4 c4 l4 w h1 hn hm hl
 rw [if_neg hk1]
 exact part_h1 k n nm A3 c3 l3 A4 c4 l4 w h1 hk hn h2 hm hk1
end Go.Proofs.Ytpejhapgffcngaa.QK

