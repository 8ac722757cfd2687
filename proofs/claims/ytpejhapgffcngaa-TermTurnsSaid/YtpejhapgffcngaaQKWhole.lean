/- term.whole: is one part of a term whole? -/
import Derived.Test.YtpejhapgffcngaaXShort
import Derived.Test.YtpejhapgffcngaaQKPart
import Derived.Test.YtpejhapgffcngaaQKx9
import Derived.Deep.QuietTactic
import Derived.BigQuiet
import Derived.Outline
set_option linter.unusedVariables false
set_option linter.unusedSimpArgs false
namespace Go.Proofs.Ytpejhapgffcngaa.QK
open Go.RowKit Go.Proofs.YtpejhapgffcngaaW.PrintWords Go.Proofs.YtpejhapgffcngaaW.PrintLast Go.Proofs.YtpejhapgffcngaaW.PrintMore
attribute [local go_sem] max2_int min2_int max_two min_two max_three min_three max_four min_four
theorem targs_is {q : Nat} (hq : 4 ≤ q) (k : Int) : term_args.f q k = some (argsI k) := by
 obtain ⟨q, rfl⟩ : ∃ m, q = m + 4 := ⟨q - 4, by omega⟩
 unfold argsI term_args.f
 by_cases h0 : k = 0
 ·subst h0; rfl
 by_cases h1 : k = 1
 ·subst h1; rfl
 by_cases h2 : k = 2
 ·subst h2; rfl
 rw [if_neg h0, if_neg h1]
 simp only [term_args.j0, term_args.j1, h0, h1, h2, beq_iff_eq, or_self, if_false]
 by_cases h3 : k = 3
 ·subst h3; simp
 by_cases h4 : k = 4
 ·subst h4; simp
 by_cases h5 : k = 5
 ·subst h5; simp
 by_cases h6 : k = 6
 ·subst h6; simp
 simp [h3, h4, h5, h6]
theorem targs_quiet (w : World) (a : Nat) (k : Int) : Calls Try.prog 163 #[.int .i64 k] (w.drewN a) fun e w'' => e = .returned (.int .i64 (argsI k)) ∧ ∃ m, w'' = w.drewN m :=
 Calls.quiet_of (w := w) (n := a) ((term_args.calls 4 k _ (w.drewN a) (targs_is (Nat.le_refl _) k)).mono fun e w' ⟨he, m, hm⟩ => ⟨he, m, hm⟩)
theorem targs_quiet2 (w : World) (m a : Nat) (k : Int) : Calls Try.prog 163 #[.int .i64 k] (w.drewN (m + a)) fun e w'' => e = .returned (.int .i64 (argsI k)) ∧ ∃ n, w'' = w.drewN (m + n) := by
 have h := targs_quiet (w.drewN m) a k
 simp only [World.drewN_drewN] at h
 exact h
set_option maxRecDepth 100000 in
set_option maxHeartbeats 8000000 in
theorem whole_a (k n : Int) (nm : ByteArray) (A3 : Option Addr) (c3 : Nat) (l3 : List S76) (A4 : Option Addr) (c4 : Nat) (l4 : List S27) (w : World) (h1 : argsI k ≠ (l4.length : Int)) :
  Calls Try.prog 141 #[.agg #[.int .i64 k, .int .i64 n, .string nm, .slice A3 l3.length c3, .slice A4 l4.length c4]] w fun e w' => e = .returned (.bool false) ∧ Below w.heap.size w w' := by
 have f1 : (argsI k != (l4.length : Int)) = true := bne_iff_ne.2 h1
 clear h1
 go_enter Try.func141, Try.ntmps141
 go_wp2_with (first | ((with_reducible refine gate_dst (N := 1) rfl ?_); refine bx (N := 1) (t := 27) #[.int .i64 k, .int .i64 n, .string nm, .slice A3 l3.length c3, .slice A4 l4.length c4] ?_; intro gb hg wb hbox hb; have HB := aS hb; have e0 : wb.cell? ⟨gb, 0, none⟩ = some (.int .i64 k) := (blk_cell hbox 0).trans rfl; have e1 : wb.cell? ⟨gb, 1, none⟩ = some (.int .i64 n) := (blk_cell hbox 1).trans rfl; have e2 : wb.cell? ⟨gb, 2, none⟩ = some (.string nm) := (blk_cell hbox 2).trans rfl; have e3 : wb.cell? ⟨gb, 3, none⟩ = some (.slice A3 l3.length c3) := (blk_cell hbox 3).trans rfl; have e4 : wb.cell? ⟨gb, 4, none⟩ = some (.slice A4 l4.length c4) := (blk_cell hbox 4).trans rfl; clear hbox hg hb))
 go_quiet (first | exact targs_quiet _ _ k | exact targs_quiet2 _ _ _ k)
 go_wp2
 go_quiet (first | exact targs_quiet _ _ k | exact targs_quiet2 _ _ _ k)
 go_wp2
 go_ret
 exact ⟨by first | rfl | (simp [*]; done), by repeat (first | (with_reducible first | exact HB.out | apply pw_below_drewN) | exact HB.out)⟩
set_option maxRecDepth 100000 in
set_option maxHeartbeats 8000000 in
theorem whole_b (k n : Int) (nm : ByteArray) (A3 : Option Addr) (c3 : Nat) (l3 : List S76) (A4 : Option Addr) (c4 : Nat) (l4 : List S27) (w : World) (h1 : argsI k = (l4.length : Int)) (hk : k ≠ 0) (hn : n ≠ 0) :
  Calls Try.prog 141 #[.agg #[.int .i64 k, .int .i64 n, .string nm, .slice A3 l3.length c3, .slice A4 l4.length c4]] w fun e w' => e = .returned (.bool false) ∧ Below w.heap.size w w' := by
 have f1 : (argsI k != (l4.length : Int)) = false := bne_eq_false_iff_eq.2 h1
 have i0 : (k == 0) = false := beq_eq_false_iff_ne.2 hk
 have q1 : (n != 0) = true := bne_iff_ne.2 hn
 clear hn
 clear hk
 clear h1
 go_enter Try.func141, Try.ntmps141
 go_wp2_with (first | ((with_reducible refine gate_dst (N := 1) rfl ?_); refine bx (N := 1) (t := 27) #[.int .i64 k, .int .i64 n, .string nm, .slice A3 l3.length c3, .slice A4 l4.length c4] ?_; intro gb hg wb hbox hb; have HB := aS hb; have e0 : wb.cell? ⟨gb, 0, none⟩ = some (.int .i64 k) := (blk_cell hbox 0).trans rfl; have e1 : wb.cell? ⟨gb, 1, none⟩ = some (.int .i64 n) := (blk_cell hbox 1).trans rfl; have e2 : wb.cell? ⟨gb, 2, none⟩ = some (.string nm) := (blk_cell hbox 2).trans rfl; have e3 : wb.cell? ⟨gb, 3, none⟩ = some (.slice A3 l3.length c3) := (blk_cell hbox 3).trans rfl; have e4 : wb.cell? ⟨gb, 4, none⟩ = some (.slice A4 l4.length c4) := (blk_cell hbox 4).trans rfl; clear hbox hg hb))
 go_quiet (first | exact targs_quiet _ _ k | exact targs_quiet2 _ _ _ k)
 go_wp2
 go_quiet (first | exact targs_quiet _ _ k | exact targs_quiet2 _ _ _ k)
 go_wp2
 go_ret
 exact ⟨by first | rfl | (simp [*]; done), by repeat (first | (with_reducible first | exact HB.out | apply pw_below_drewN) | exact HB.out)⟩
set_option maxRecDepth 100000 in
set_option maxHeartbeats 8000000 in
theorem whole_c (n : Int) (nm : ByteArray) (A3 : Option Addr) (c3 : Nat) (l3 : List S76) (A4 : Option Addr) (c4 : Nat) (l4 : List S27) (w : World) (h1 : argsI 0 = (l4.length : Int)) (hn : n < 0) :
  Calls Try.prog 141 #[.agg #[.int .i64 0, .int .i64 n, .string nm, .slice A3 l3.length c3, .slice A4 l4.length c4]] w fun e w' => e = .returned (.bool false) ∧ Below w.heap.size w w' := by
 have f1 : (argsI 0 != (l4.length : Int)) = false := bne_eq_false_iff_eq.2 h1
 have q2 : decide (n < 0) = true := decide_eq_true hn
 clear hn
 clear h1
 go_enter Try.func141, Try.ntmps141
 go_wp2_with (first | ((with_reducible refine gate_dst (N := 1) rfl ?_); refine bx (N := 1) (t := 27) #[.int .i64 0, .int .i64 n, .string nm, .slice A3 l3.length c3, .slice A4 l4.length c4] ?_; intro gb hg wb hbox hb; have HB := aS hb; have e0 : wb.cell? ⟨gb, 0, none⟩ = some (.int .i64 0) := (blk_cell hbox 0).trans rfl; have e1 : wb.cell? ⟨gb, 1, none⟩ = some (.int .i64 n) := (blk_cell hbox 1).trans rfl; have e2 : wb.cell? ⟨gb, 2, none⟩ = some (.string nm) := (blk_cell hbox 2).trans rfl; have e3 : wb.cell? ⟨gb, 3, none⟩ = some (.slice A3 l3.length c3) := (blk_cell hbox 3).trans rfl; have e4 : wb.cell? ⟨gb, 4, none⟩ = some (.slice A4 l4.length c4) := (blk_cell hbox 4).trans rfl; clear hbox hg hb))
 go_quiet (first | exact targs_quiet _ _ 0 | exact targs_quiet2 _ _ _ 0)
 go_wp2
 go_quiet (first | exact targs_quiet _ _ 0 | exact targs_quiet2 _ _ _ 0)
 go_wp2
 go_ret
 exact ⟨by first | rfl | (simp [*]; done), by repeat (first | (with_reducible first | exact HB.out | apply pw_below_drewN) | exact HB.out)⟩
set_option maxRecDepth 100000 in
set_option maxHeartbeats 8000000 in
theorem whole_d (n : Int) (nm : ByteArray) (A3 : Option Addr) (c3 : Nat) (l3 : List S76) (A4 : Option Addr) (c4 : Nat) (l4 : List S27) (w : World) (h1 : argsI 0 = (l4.length : Int)) (hn : 1073741824 < n) :
  Calls Try.prog 141 #[.agg #[.int .i64 0, .int .i64 n, .string nm, .slice A3 l3.length c3, .slice A4 l4.length c4]] w fun e w' => e = .returned (.bool false) ∧ Below w.heap.size w w' := by
 have f1 : (argsI 0 != (l4.length : Int)) = false := bne_eq_false_iff_eq.2 h1
 have q2 : decide (n < 0) = false := decide_eq_false (by omega)
 have q3 : decide (1073741824 < n) = true := decide_eq_true hn
 clear hn
 clear h1
 go_enter Try.func141, Try.ntmps141
 go_wp2_with (first | ((with_reducible refine gate_dst (N := 1) rfl ?_); refine bx (N := 1) (t := 27) #[.int .i64 0, .int .i64 n, .string nm, .slice A3 l3.length c3, .slice A4 l4.length c4] ?_; intro gb hg wb hbox hb; have HB := aS hb; have e0 : wb.cell? ⟨gb, 0, none⟩ = some (.int .i64 0) := (blk_cell hbox 0).trans rfl; have e1 : wb.cell? ⟨gb, 1, none⟩ = some (.int .i64 n) := (blk_cell hbox 1).trans rfl; have e2 : wb.cell? ⟨gb, 2, none⟩ = some (.string nm) := (blk_cell hbox 2).trans rfl; have e3 : wb.cell? ⟨gb, 3, none⟩ = some (.slice A3 l3.length c3) := (blk_cell hbox 3).trans rfl; have e4 : wb.cell? ⟨gb, 4, none⟩ = some (.slice A4 l4.length c4) := (blk_cell hbox 4).trans rfl; clear hbox hg hb))
 go_quiet (first | exact targs_quiet _ _ 0 | exact targs_quiet2 _ _ _ 0)
 go_wp2
 go_quiet (first | exact targs_quiet _ _ 0 | exact targs_quiet2 _ _ _ 0)
 go_wp2
 go_ret
 exact ⟨by first | rfl | (simp [*]; done), by repeat (first | (with_reducible first | exact HB.out | apply pw_below_drewN) | exact HB.out)⟩
set_option maxRecDepth 100000 in
set_option maxHeartbeats 8000000 in
theorem whole_e0 (n : Int) (nm : ByteArray) (A3 : Option Addr) (c3 : Nat) (l3 : List S76) (A4 : Option Addr) (c4 : Nat) (l4 : List S27) (w : World) (h1 : argsI 0 = (l4.length : Int)) (hn : 0 ≤ n) (hn2 : n ≤ 1073741824) (hm : nm.toList.isEmpty = false) :
  Calls Try.prog 141 #[.agg #[.int .i64 0, .int .i64 n, .string nm, .slice A3 l3.length c3, .slice A4 l4.length c4]] w fun e w' => e = .returned (.bool false) ∧ Below w.heap.size w w' := by
 have f1 : (argsI 0 != (l4.length : Int)) = false := bne_eq_false_iff_eq.2 h1
 have q2 : decide (n < 0) = false := decide_eq_false (by omega)
 have q3 : decide (1073741824 < n) = false := decide_eq_false (by omega)
 have q5 : nm.toList.isEmpty = false := hm
 clear hm
 clear hn2
 clear hn
 clear h1
 go_enter Try.func141, Try.ntmps141
 go_wp2_with (first | ((with_reducible refine gate_dst (N := 1) rfl ?_); refine bx (N := 1) (t := 27) #[.int .i64 0, .int .i64 n, .string nm, .slice A3 l3.length c3, .slice A4 l4.length c4] ?_; intro gb hg wb hbox hb; have HB := aS hb; have e0 : wb.cell? ⟨gb, 0, none⟩ = some (.int .i64 0) := (blk_cell hbox 0).trans rfl; have e1 : wb.cell? ⟨gb, 1, none⟩ = some (.int .i64 n) := (blk_cell hbox 1).trans rfl; have e2 : wb.cell? ⟨gb, 2, none⟩ = some (.string nm) := (blk_cell hbox 2).trans rfl; have e3 : wb.cell? ⟨gb, 3, none⟩ = some (.slice A3 l3.length c3) := (blk_cell hbox 3).trans rfl; have e4 : wb.cell? ⟨gb, 4, none⟩ = some (.slice A4 l4.length c4) := (blk_cell hbox 4).trans rfl; clear hbox hg hb))
 go_quiet (first | exact targs_quiet _ _ 0 | exact targs_quiet2 _ _ _ 0)
 go_wp2
 go_quiet (first | exact targs_quiet _ _ 0 | exact targs_quiet2 _ _ _ 0)
 go_wp2
 go_ret
 exact ⟨by first | rfl | (simp [*]; done), by repeat (first | (with_reducible first | exact HB.out | apply pw_below_drewN) | exact HB.out)⟩
set_option maxRecDepth 100000 in
set_option maxHeartbeats 8000000 in
theorem whole_e1 (k n : Int) (nm : ByteArray) (A3 : Option Addr) (c3 : Nat) (l3 : List S76) (A4 : Option Addr) (c4 : Nat) (l4 : List S27) (w : World) (h1 : argsI k = (l4.length : Int)) (hk : k ≠ 0) (hn : n = 0) (h2 : k ≠ 2) (hm : nm.toList.isEmpty = false) :
  Calls Try.prog 141 #[.agg #[.int .i64 k, .int .i64 n, .string nm, .slice A3 l3.length c3, .slice A4 l4.length c4]] w fun e w' => e = .returned (.bool false) ∧ Below w.heap.size w w' := by
 have f1 : (argsI k != (l4.length : Int)) = false := bne_eq_false_iff_eq.2 h1
 have i0 : (k == 0) = false := beq_eq_false_iff_ne.2 hk
 have q1 : (n != 0) = false := bne_eq_false_iff_eq.2 hn
 have i2 : (k == 2) = false := beq_eq_false_iff_ne.2 h2
 have q5 : nm.toList.isEmpty = false := hm
 clear hm
 clear h2
 clear hn
 clear hk
 clear h1
 go_enter Try.func141, Try.ntmps141
 go_wp2_with (first | ((with_reducible refine gate_dst (N := 1) rfl ?_); refine bx (N := 1) (t := 27) #[.int .i64 k, .int .i64 n, .string nm, .slice A3 l3.length c3, .slice A4 l4.length c4] ?_; intro gb hg wb hbox hb; have HB := aS hb; have e0 : wb.cell? ⟨gb, 0, none⟩ = some (.int .i64 k) := (blk_cell hbox 0).trans rfl; have e1 : wb.cell? ⟨gb, 1, none⟩ = some (.int .i64 n) := (blk_cell hbox 1).trans rfl; have e2 : wb.cell? ⟨gb, 2, none⟩ = some (.string nm) := (blk_cell hbox 2).trans rfl; have e3 : wb.cell? ⟨gb, 3, none⟩ = some (.slice A3 l3.length c3) := (blk_cell hbox 3).trans rfl; have e4 : wb.cell? ⟨gb, 4, none⟩ = some (.slice A4 l4.length c4) := (blk_cell hbox 4).trans rfl; clear hbox hg hb))
 go_quiet (first | exact targs_quiet _ _ k | exact targs_quiet2 _ _ _ k)
 go_wp2
 go_quiet (first | exact targs_quiet _ _ k | exact targs_quiet2 _ _ _ k)
 go_wp2
 go_ret
 exact ⟨by first | rfl | (simp [*]; done), by repeat (first | (with_reducible first | exact HB.out | apply pw_below_drewN) | exact HB.out)⟩
set_option maxRecDepth 100000 in
set_option maxHeartbeats 8000000 in
theorem whole_f (n : Int) (nm : ByteArray) (A3 : Option Addr) (c3 : Nat) (l3 : List S76) (A4 : Option Addr) (c4 : Nat) (l4 : List S27) (w : World) (h1 : argsI 2 = (l4.length : Int)) (hn : n = 0) :
  Calls Try.prog 141 #[.agg #[.int .i64 2, .int .i64 n, .string nm, .slice A3 l3.length c3, .slice A4 l4.length c4]] w fun e w' => e = .returned (.bool true) ∧ Below w.heap.size w w' := by
 have f1 : (argsI 2 != (l4.length : Int)) = false := bne_eq_false_iff_eq.2 h1
 have q1 : (n != 0) = false := bne_eq_false_iff_eq.2 hn
 clear hn
 clear h1
 go_enter Try.func141, Try.ntmps141
 go_wp2_with (first | ((with_reducible refine gate_dst (N := 1) rfl ?_); refine bx (N := 1) (t := 27) #[.int .i64 2, .int .i64 n, .string nm, .slice A3 l3.length c3, .slice A4 l4.length c4] ?_; intro gb hg wb hbox hb; have HB := aS hb; have e0 : wb.cell? ⟨gb, 0, none⟩ = some (.int .i64 2) := (blk_cell hbox 0).trans rfl; have e1 : wb.cell? ⟨gb, 1, none⟩ = some (.int .i64 n) := (blk_cell hbox 1).trans rfl; have e2 : wb.cell? ⟨gb, 2, none⟩ = some (.string nm) := (blk_cell hbox 2).trans rfl; have e3 : wb.cell? ⟨gb, 3, none⟩ = some (.slice A3 l3.length c3) := (blk_cell hbox 3).trans rfl; have e4 : wb.cell? ⟨gb, 4, none⟩ = some (.slice A4 l4.length c4) := (blk_cell hbox 4).trans rfl; clear hbox hg hb))
 go_quiet (first | exact targs_quiet _ _ 2 | exact targs_quiet2 _ _ _ 2)
 go_wp2
 go_quiet (first | exact targs_quiet _ _ 2 | exact targs_quiet2 _ _ _ 2)
 go_wp2
 go_ret
 exact ⟨by first | rfl | (simp [*]; done), by repeat (first | (with_reducible first | exact HB.out | apply pw_below_drewN) | exact HB.out)⟩
set_option maxRecDepth 100000 in
set_option maxHeartbeats 8000000 in
theorem whole_g1 (n : Int) (nm : ByteArray) (A3 : Option Addr) (c3 : Nat) (l3 : List S76) (A4 : Option Addr) (c4 : Nat) (l4 : List S27) (w : World) (h1 : argsI 1 = (l4.length : Int)) (hn : n = 0) (hm : nm.toList.isEmpty = true) (hl : (l3.length : Int) = 1) :
  Calls Try.prog 141 #[.agg #[.int .i64 1, .int .i64 n, .string nm, .slice A3 l3.length c3, .slice A4 l4.length c4]] w fun e w' => e = .returned (.bool true) ∧ Below w.heap.size w w' := by
 have f1 : (argsI 1 != (l4.length : Int)) = false := bne_eq_false_iff_eq.2 h1
 have q1 : (n != 0) = false := bne_eq_false_iff_eq.2 hn
 have q5 : nm.toList.isEmpty = true := hm
 have q12 : ((l3.length : Int) == 1) = true := beq_iff_eq.2 hl
 have q13 : ((l3.length : Int) = 1) = True := eq_true hl
 have q14 : (l3.length = 1) = True := eq_true (by omega)
 clear hl
 clear hm
 clear hn
 clear h1
 go_enter Try.func141, Try.ntmps141
 go_wp2_with (first | ((with_reducible refine gate_dst (N := 1) rfl ?_); refine bx (N := 1) (t := 27) #[.int .i64 1, .int .i64 n, .string nm, .slice A3 l3.length c3, .slice A4 l4.length c4] ?_; intro gb hg wb hbox hb; have HB := aS hb; have e0 : wb.cell? ⟨gb, 0, none⟩ = some (.int .i64 1) := (blk_cell hbox 0).trans rfl; have e1 : wb.cell? ⟨gb, 1, none⟩ = some (.int .i64 n) := (blk_cell hbox 1).trans rfl; have e2 : wb.cell? ⟨gb, 2, none⟩ = some (.string nm) := (blk_cell hbox 2).trans rfl; have e3 : wb.cell? ⟨gb, 3, none⟩ = some (.slice A3 l3.length c3) := (blk_cell hbox 3).trans rfl; have e4 : wb.cell? ⟨gb, 4, none⟩ = some (.slice A4 l4.length c4) := (blk_cell hbox 4).trans rfl; clear hbox hg hb))
 go_quiet (first | exact targs_quiet _ _ 1 | exact targs_quiet2 _ _ _ 1)
 go_wp2
 go_quiet (first | exact targs_quiet _ _ 1 | exact targs_quiet2 _ _ _ 1)
 go_wp2
 go_ret
 exact ⟨by first | rfl | (simp [*]; done), by repeat (first | (with_reducible first | exact HB.out | apply pw_below_drewN) | exact HB.out)⟩
set_option maxRecDepth 100000 in
set_option maxHeartbeats 8000000 in
theorem whole_g2 (n : Int) (nm : ByteArray) (A3 : Option Addr) (c3 : Nat) (l3 : List S76) (A4 : Option Addr) (c4 : Nat) (l4 : List S27) (w : World) (h1 : argsI 1 = (l4.length : Int)) (hn : n = 0) (hm : nm.toList.isEmpty = true) (hl : ¬ (l3.length : Int) = 1) :
  Calls Try.prog 141 #[.agg #[.int .i64 1, .int .i64 n, .string nm, .slice A3 l3.length c3, .slice A4 l4.length c4]] w fun e w' => e = .returned (.bool false) ∧ Below w.heap.size w w' := by
 have f1 : (argsI 1 != (l4.length : Int)) = false := bne_eq_false_iff_eq.2 h1
 have q1 : (n != 0) = false := bne_eq_false_iff_eq.2 hn
 have q5 : nm.toList.isEmpty = true := hm
 have q12 : ((l3.length : Int) == 1) = false := beq_eq_false_iff_ne.2 hl
 have q13 : ((l3.length : Int) = 1) = False := eq_false hl
 have q14 : (l3.length = 1) = False := eq_false (by omega)
 clear hl
 clear hm
 clear hn
 clear h1
 go_enter Try.func141, Try.ntmps141
 go_wp2_with (first | ((with_reducible refine gate_dst (N := 1) rfl ?_); refine bx (N := 1) (t := 27) #[.int .i64 1, .int .i64 n, .string nm, .slice A3 l3.length c3, .slice A4 l4.length c4] ?_; intro gb hg wb hbox hb; have HB := aS hb; have e0 : wb.cell? ⟨gb, 0, none⟩ = some (.int .i64 1) := (blk_cell hbox 0).trans rfl; have e1 : wb.cell? ⟨gb, 1, none⟩ = some (.int .i64 n) := (blk_cell hbox 1).trans rfl; have e2 : wb.cell? ⟨gb, 2, none⟩ = some (.string nm) := (blk_cell hbox 2).trans rfl; have e3 : wb.cell? ⟨gb, 3, none⟩ = some (.slice A3 l3.length c3) := (blk_cell hbox 3).trans rfl; have e4 : wb.cell? ⟨gb, 4, none⟩ = some (.slice A4 l4.length c4) := (blk_cell hbox 4).trans rfl; clear hbox hg hb))
 go_quiet (first | exact targs_quiet _ _ 1 | exact targs_quiet2 _ _ _ 1)
 go_wp2
 go_quiet (first | exact targs_quiet _ _ 1 | exact targs_quiet2 _ _ _ 1)
 go_wp2
 go_ret
 exact ⟨by first | rfl | (simp [*]; done), by repeat (first | (with_reducible first | exact HB.out | apply pw_below_drewN) | exact HB.out)⟩
set_option maxRecDepth 100000 in
set_option maxHeartbeats 8000000 in
theorem whole_h0 (n : Int) (nm : ByteArray) (A3 : Option Addr) (c3 : Nat) (l3 : List S76) (A4 : Option Addr) (c4 : Nat) (l4 : List S27) (w : World) (h1 : argsI 0 = (l4.length : Int)) (hn : 0 ≤ n) (hn2 : n ≤ 1073741824) (hm : nm.toList.isEmpty = true) :
  Calls Try.prog 141 #[.agg #[.int .i64 0, .int .i64 n, .string nm, .slice A3 l3.length c3, .slice A4 l4.length c4]] w fun e w' => e = .returned (.bool ((l3.length : Int) == 0)) ∧ Below w.heap.size w w' := by
 have f1 : (argsI 0 != (l4.length : Int)) = false := bne_eq_false_iff_eq.2 h1
 have q2 : decide (n < 0) = false := decide_eq_false (by omega)
 have q3 : decide (1073741824 < n) = false := decide_eq_false (by omega)
 have q5 : nm.toList.isEmpty = true := hm
 clear hm
 clear hn2
 clear hn
 clear h1
 go_enter Try.func141, Try.ntmps141
 go_wp2_with (first | ((with_reducible refine gate_dst (N := 1) rfl ?_); refine bx (N := 1) (t := 27) #[.int .i64 0, .int .i64 n, .string nm, .slice A3 l3.length c3, .slice A4 l4.length c4] ?_; intro gb hg wb hbox hb; have HB := aS hb; have e0 : wb.cell? ⟨gb, 0, none⟩ = some (.int .i64 0) := (blk_cell hbox 0).trans rfl; have e1 : wb.cell? ⟨gb, 1, none⟩ = some (.int .i64 n) := (blk_cell hbox 1).trans rfl; have e2 : wb.cell? ⟨gb, 2, none⟩ = some (.string nm) := (blk_cell hbox 2).trans rfl; have e3 : wb.cell? ⟨gb, 3, none⟩ = some (.slice A3 l3.length c3) := (blk_cell hbox 3).trans rfl; have e4 : wb.cell? ⟨gb, 4, none⟩ = some (.slice A4 l4.length c4) := (blk_cell hbox 4).trans rfl; clear hbox hg hb))
 go_quiet (first | exact targs_quiet _ _ 0 | exact targs_quiet2 _ _ _ 0)
 go_wp2
 go_quiet (first | exact targs_quiet _ _ 0 | exact targs_quiet2 _ _ _ 0)
 go_wp2
 go_ret
 exact ⟨by first | rfl | (simp [*]; done), by repeat (first | (with_reducible first | exact HB.out | apply pw_below_drewN) | exact HB.out)⟩
set_option maxRecDepth 100000 in
set_option maxHeartbeats 8000000 in
theorem whole_h1 (k n : Int) (nm : ByteArray) (A3 : Option Addr) (c3 : Nat) (l3 : List S76) (A4 : Option Addr) (c4 : Nat) (l4 : List S27) (w : World) (h1 : argsI k = (l4.length : Int)) (hk : k ≠ 0) (hn : n = 0) (h2 : k ≠ 2) (hm : nm.toList.isEmpty = true) (hk1 : k ≠ 1) :
  Calls Try.prog 141 #[.agg #[.int .i64 k, .int .i64 n, .string nm, .slice A3 l3.length c3, .slice A4 l4.length c4]] w fun e w' => e = .returned (.bool ((l3.length : Int) == 0)) ∧ Below w.heap.size w w' := by
 have f1 : (argsI k != (l4.length : Int)) = false := bne_eq_false_iff_eq.2 h1
 have i0 : (k == 0) = false := beq_eq_false_iff_ne.2 hk
 have q1 : (n != 0) = false := bne_eq_false_iff_eq.2 hn
 have i2 : (k == 2) = false := beq_eq_false_iff_ne.2 h2
 have q5 : nm.toList.isEmpty = true := hm
 have i1 : (k == 1) = false := beq_eq_false_iff_ne.2 hk1
 clear hk1
 clear hm
 clear h2
 clear hn
 clear hk
 clear h1
 go_enter Try.func141, Try.ntmps141
 go_wp2_with (first | ((with_reducible refine gate_dst (N := 1) rfl ?_); refine bx (N := 1) (t := 27) #[.int .i64 k, .int .i64 n, .string nm, .slice A3 l3.length c3, .slice A4 l4.length c4] ?_; intro gb hg wb hbox hb; have HB := aS hb; have e0 : wb.cell? ⟨gb, 0, none⟩ = some (.int .i64 k) := (blk_cell hbox 0).trans rfl; have e1 : wb.cell? ⟨gb, 1, none⟩ = some (.int .i64 n) := (blk_cell hbox 1).trans rfl; have e2 : wb.cell? ⟨gb, 2, none⟩ = some (.string nm) := (blk_cell hbox 2).trans rfl; have e3 : wb.cell? ⟨gb, 3, none⟩ = some (.slice A3 l3.length c3) := (blk_cell hbox 3).trans rfl; have e4 : wb.cell? ⟨gb, 4, none⟩ = some (.slice A4 l4.length c4) := (blk_cell hbox 4).trans rfl; clear hbox hg hb))
 go_quiet (first | exact targs_quiet _ _ k | exact targs_quiet2 _ _ _ k)
 go_wp2
 go_quiet (first | exact targs_quiet _ _ k | exact targs_quiet2 _ _ _ k)
 go_wp2
 go_ret
 exact ⟨by first | rfl | (simp [*]; done), by repeat (first | (with_reducible first | exact HB.out | apply pw_below_drewN) | exact HB.out)⟩
theorem whole_calls (k n : Int) (nm : ByteArray) (A3 : Option Addr) (c3 : Nat) (l3 : List (S76)) (A4 : Option Addr) (c4 : Nat) (l4 : List (S27)) (w : World) :
  Calls Try.prog 141 #[.agg #[.int .i64 k, .int .i64 n, .string nm, .slice A3 l3.length c3, .slice A4 l4.length c4]] w fun e w' => e = .returned (.bool (partB k n nm l3.length l4.length)) ∧ Below w.heap.size w w' := by
 unfold partB
 by_cases h1 : argsI k = (l4.length : Int)
 rotate_left
 ·rw [if_pos h1]; exact whole_a k n nm A3 c3 l3 A4 c4 l4 w h1
 rw [if_neg (by simpa using h1)]
 by_cases hk : k = 0
 ·rw [if_pos hk]
  by_cases hn : n < 0
  ·rw [if_pos hn]; subst hk; exact whole_c n nm A3 c3 l3 A4 c4 l4 w h1 hn
  rw [if_neg hn]
  by_cases hn2 : 1073741824 < n
  ·rw [if_pos hn2]; subst hk; exact whole_d n nm A3 c3 l3 A4 c4 l4 w h1 hn2
  rw [if_neg hn2]
  cases hm : nm.toList.isEmpty
  ·rw [if_pos rfl]; subst hk; exact whole_e0 n nm A3 c3 l3 A4 c4 l4 w h1 (by omega) (by omega) hm
  ·rw [if_neg (by decide)]
   subst hk
   exact whole_h0 n nm A3 c3 l3 A4 c4 l4 w h1 (by omega) (by omega) hm
 rw [if_neg hk]
 by_cases hn : n = 0
 rotate_left
 ·rw [if_pos hn]; exact whole_b k n nm A3 c3 l3 A4 c4 l4 w h1 hk hn
 rw [if_neg (by simpa using hn)]
 by_cases h2 : k = 2
 ·rw [if_pos h2]; subst h2; exact whole_f n nm A3 c3 l3 A4 c4 l4 w h1 hn
 rw [if_neg h2]
 cases hm : nm.toList.isEmpty
 ·rw [if_pos rfl]; exact whole_e1 k n nm A3 c3 l3 A4 c4 l4 w h1 hk hn h2 hm
 rw [if_neg (by decide)]
 by_cases hk1 : k = 1
 ·rw [if_pos hk1]
  subst hk1
  by_cases hl : (l3.length : Int) = 1
  ·rw [beq_iff_eq.2 hl]; exact whole_g1 n nm A3 c3 l3 A4 c4 l4 w h1 hn hm hl
  rw [beq_eq_false_iff_ne.2 hl]; exact whole_g2 n nm A3 c3 l3 A4 c4 l4 w h1 hn hm hl
 rw [if_neg hk1]
 exact whole_h1 k n nm A3 c3 l3 A4 c4 l4 w h1 hk hn h2 hm hk1
end Go.Proofs.Ytpejhapgffcngaa.QK

