/- touchstonelaw5.swapAt (function 93): it stores into its own term's lists; swap (44). -/
import Derived.Test.YtpejhapgffcngaaXShort
import Derived.Test.YtpejhapgffcngaaQKSwap0
import Derived.Test.YtpejhapgffcngaaQKCopyS
import Derived.Test.YtpejhapgffcngaaQKx7
import Derived.Deep.DeepMust
set_option linter.unusedVariables false
set_option linter.unusedSimpArgs false
namespace Go.Proofs.Ytpejhapgffcngaa.QK
open Go.RowKit Go.Proofs.YtpejhapgffcngaaW.PrintWords Go.Proofs.YtpejhapgffcngaaW.PrintLast Go.Proofs.YtpejhapgffcngaaW.PrintMore
theorem swL_nil' {kd q : Int} {i : Nat} {ar : List S27} (h : ar = []) : swL kd i ar q = [] := by rw [h, swL_nil]
theorem wr1_ (q : Int) (h : 0 ≤ q) (h2 : q ≤ 2147483648) : wrap64 (q + 1) = q + 1 := wr (by omega) (by omega)
theorem wr1b_ (q : Int) (h : 0 ≤ q) (h2 : q ≤ 2147483648) : wrap64 q = q := wr (by omega) (by omega)
theorem wr1c_ (q : Int) (h : 0 ≤ q) (h2 : q ≤ 2147483648) : IntKind.i64.wrap q = q := by rw [IntKind.wrap_i64]; omega
theorem binds_is2 (kd : Int) (j : Int) (hj : 0 ≤ j) : touchstoneref5_Binds.f kd j = some (bn kd j.toNat) := by
 have h1 : (j.toNat = 1) = (j = 1) := by simp only [eq_iff_iff]; omega
 have h2 : (j.toNat = 2) = (j = 2) := by simp only [eq_iff_iff]; omega
 unfold touchstoneref5_Binds.f bn
 simp only [h1, h2]
 by_cases a : kd = 4
 ·subst a; by_cases b : j = 1 <;> simp [b]
 by_cases a5 : kd = 5
 ·subst a5; by_cases b : j = 1 <;> simp [b]
 by_cases a6 : kd = 6
 rotate_left
 ·simp [a, a5, a6]
 subst a6; by_cases b : j = 2 <;> simp [b]
@[reducible] def SwC (n : Nat) : Prop := ∀ (x : S27) (A3 : Option Addr) (c3 m3 : Nat) (A4 : Option Addr) (c4 : Nat) (q B : Int) (b : Nat) (ok : Nat → Prop) (w : World), WhB B x → 0 ≤ q → q + szT x ≤ 1073741824 → b ≤ w.heap.size → Kd.S (dS n) 27 w b ok (.slice A4 x.f4.length c4) x.f4 →
  Calls Try.prog 93 #[.agg #[.int .i64 x.f0, .int .i64 x.f1, .string x.f2, .slice A3 m3 c3, .slice A4 x.f4.length c4], .int .i64 q] w fun e w' => e = .returned (.agg #[.int .i64 (swT x q).f0, .int .i64 (swT x q).f1, .string (swT x q).f2, .slice A3 m3 c3, .slice A4 x.f4.length c4]) ∧ Kd.S (dS n) 27 w' b ok (.slice A4 x.f4.length c4) (swT x q).f4 ∧ Chg b ok w w'
set_option maxHeartbeats 8000000 in
set_option maxRecDepth 100000 in
theorem swapAt.calls (n : Nat) : SwC n := by
 induction n using Nat.strongRecOn with
 | _ n ih =>
 intro x A3 c3 m3 A4 c4 q B b ok w hw hq hs hb hKS
 have hu27 := Try.underlying27
 have KS := aS hKS
 clear hKS
 have hsp := sz_pos x
 have HB := aS (Below.refl w.heap.size w)
 have ew : wrap64 (q + 1) = q + 1 := wr1_ q hq (by omega)
 have e0 : (swT x q).f0 = x.f0 := by rw [swT_mk]
 have e2 : (swT x q).f2 = x.f2 := by rw [swT_mk]
 have e4 : (swT x q).f4 = swL x.f0 0 x.f4 q := by rw [swT_mk]
 by_cases k0 : x.f0 = 0
 ·have hn4 : Aside0 (x.f4 = []) := ⟨by cases hw with | mk h0 => exact h0 k0⟩
  have KE : Aside0 (Kd.S (dS n) 27 w b ok (.slice A4 x.f4.length c4) []) := ⟨by have h := KS.out; rw [hn4.out] at h ⊢; exact h⟩
  clear KS
  have k0b : (x.f0 == 0) = true := beq_iff_eq.mpr k0
  by_cases k1 : x.f1 = q
  ·have e1 : (swT x q).f1 = q + 1 := by rw [swT_mk]; simp only [if_pos k0, if_pos k1]
   have k1b : (x.f1 == q) = true := beq_iff_eq.mpr k1
   clear k0 k1 hw hsp hs
   go_enter Try.func93, Try.ntmps93
   go_wp2_with (first | ((with_reducible refine gate_dst (N := 2) rfl ?_); refine box_event ?hg (N := 2) ?hd (cs := #[.int .i64 x.f0, .int .i64 x.f1, .string x.f2, .slice A3 m3 c3, .slice A4 x.f4.length c4]) (t := 27) ?hr ?_; (case hd => rfl); (case hg => rfl); (case hr => first | (go_simp; done) | (go_simp; rfl)); intro gt hgt w1 hbox hb1; have GEt : Aside0 (w.heap.size ≤ gt) := ⟨by rw [hgt]; exact below_size (hbk HB)⟩; have HB' := Hs HB hb1; clear HB; have HB := HB'; clear HB'; have BKt := aS hbox; clear hbox hb1 hgt) | ((with_reducible refine gate_dst (N := 4) rfl ?_); refine box_event ?hg (N := 4) ?hd (cs := #[.int .i64 0, .int .i64 0, .string (⟨#[]⟩ : ByteArray), .slice none 0 0, .slice none 0 0]) (t := 27) ?hr ?_; (case hd => rfl); (case hg => rfl); (case hr => first | (go_simp; done) | (go_simp; rfl)); intro gr hgr w2 hbox hb1; have GEr : Aside0 (w.heap.size ≤ gr) := ⟨by rw [hgr]; exact below_size (hbk HB)⟩; have hne : gt ≠ gr := (by rw [hgr]; exact Nat.ne_of_lt (blk_lt (o := .cells #[.int .i64 x.f0, .int .i64 x.f1, .string x.f2, .slice A3 m3 c3, .slice A4 x.f4.length c4] 27 (0, 0)) (bk BKt.out))); have hne2 : gr ≠ gt := hne.symm; have BKt' := Bk BKt hb1; have HB' := Hs HB hb1; clear HB BKt; have HB := HB'; have BKt := BKt'; clear HB' BKt'; have BKr := aS hbox; clear hbox hb1 hgr; have hct_0 := (blk_cell BKt.out 0).trans (rfl : _ = some (Value.int .i64 x.f0)); have hft_0 := blk_frozen BKt.out 0; have hct_1 := (blk_cell BKt.out 1).trans (rfl : _ = some (Value.int .i64 x.f1)); have hft_1 := blk_frozen BKt.out 1; have hct_2 := (blk_cell BKt.out 2).trans (rfl : _ = some (Value.string x.f2)); have hft_2 := blk_frozen BKt.out 2; have hct_3 := (blk_cell BKt.out 3).trans (rfl : _ = some (Value.slice A3 m3 c3)); have hft_3 := blk_frozen BKt.out 3; have hct_4 := (blk_cell BKt.out 4).trans (rfl : _ = some (Value.slice A4 x.f4.length c4)); have hft_4 := blk_frozen BKt.out 4; have hcr_0 := (blk_cell BKr.out 0).trans (rfl : _ = some (Value.int .i64 0)); have hfr_0 := blk_frozen BKr.out 0; have hcr_1 := (blk_cell BKr.out 1).trans (rfl : _ = some (Value.int .i64 0)); have hfr_1 := blk_frozen BKr.out 1; have hcr_2 := (blk_cell BKr.out 2).trans (rfl : _ = some (Value.string (⟨#[]⟩ : ByteArray))); have hfr_2 := blk_frozen BKr.out 2; have hcr_3 := (blk_cell BKr.out 3).trans (rfl : _ = some (Value.slice none 0 0)); have hfr_3 := blk_frozen BKr.out 3; have hcr_4 := (blk_cell BKr.out 4).trans (rfl : _ = some (Value.slice none 0 0)); have hfr_4 := blk_frozen BKr.out 4))
   refine bodyPost_ret (results_cell_row rfl _ _ gr 27 #[.int .i64 x.f0, .int .i64 (q + 1), .string x.f2, .slice A3 m3 c3, .slice A4 x.f4.length c4] (0, 0) _ rfl (by (with_reducible repeat (first | refine blk_drewN ?_ _ | refine blk_drew ?_ | refine blk_alloc ?_ _)); refine blk_put (cs := #[.int .i64 x.f0, .int .i64 (q + 1), .string x.f2, .slice A3 m3 c3, .slice none 0 0]) ?_ 4 _ rfl; (with_reducible repeat (first | refine blk_drewN ?_ _ | refine blk_drew ?_ | refine blk_alloc ?_ _)); refine blk_put (cs := #[.int .i64 x.f0, .int .i64 (q + 1), .string x.f2, .slice none 0 0, .slice none 0 0]) ?_ 3 _ rfl; (with_reducible repeat (first | refine blk_drewN ?_ _ | refine blk_drew ?_ | refine blk_alloc ?_ _)); refine blk_put (cs := #[.int .i64 x.f0, .int .i64 (q + 1), .string (⟨#[]⟩ : ByteArray), .slice none 0 0, .slice none 0 0]) ?_ 2 _ rfl; (with_reducible repeat (first | refine blk_drewN ?_ _ | refine blk_drew ?_ | refine blk_alloc ?_ _)); refine blk_put (cs := #[.int .i64 x.f0, .int .i64 0, .string (⟨#[]⟩ : ByteArray), .slice none 0 0, .slice none 0 0]) ?_ 1 _ rfl; (with_reducible repeat (first | refine blk_drewN ?_ _ | refine blk_drew ?_ | refine blk_alloc ?_ _)); refine blk_put (cs := #[.int .i64 0, .int .i64 0, .string (⟨#[]⟩ : ByteArray), .slice none 0 0, .slice none 0 0]) ?_ 0 _ rfl; (with_reducible repeat (first | refine blk_drewN ?_ _ | refine blk_drew ?_ | refine blk_alloc ?_ _)); refine blk_far ?_ hne2 _; (with_reducible repeat (first | refine blk_drewN ?_ _ | refine blk_drew ?_ | refine blk_alloc ?_ _)); exact BKr.out) Try.underlying27 rfl (by kernel_rfl)) rfl ?_
   exact ⟨by rw [e0, e1, e2], by rw [e4, swL_nil' hn4.out]; exact Kd.S_below KE.out (hbk HB), Chg.of_below (hbk HB) hb⟩
  have k1b : (x.f1 == q) = false := beq_eq_false_iff_ne.mpr k1
  by_cases k2 : x.f1 = q + 1
  rotate_left
  ·have e1 : (swT x q).f1 = x.f1 := by rw [swT_mk]; simp only [if_pos k0, if_neg k1, if_neg k2]
   have k2b : (x.f1 == q + 1) = false := beq_eq_false_iff_ne.mpr k2
   clear k0 k1 k2 hw hsp hs
   go_enter Try.func93, Try.ntmps93
   go_wp2_with (first | ((with_reducible refine gate_dst (N := 2) rfl ?_); refine box_event ?hg (N := 2) ?hd (cs := #[.int .i64 x.f0, .int .i64 x.f1, .string x.f2, .slice A3 m3 c3, .slice A4 x.f4.length c4]) (t := 27) ?hr ?_; (case hd => rfl); (case hg => rfl); (case hr => first | (go_simp; done) | (go_simp; rfl)); intro gt hgt w1 hbox hb1; have GEt : Aside0 (w.heap.size ≤ gt) := ⟨by rw [hgt]; exact below_size (hbk HB)⟩; have HB' := Hs HB hb1; clear HB; have HB := HB'; clear HB'; have BKt := aS hbox; clear hbox hb1 hgt) | ((with_reducible refine gate_dst (N := 4) rfl ?_); refine box_event ?hg (N := 4) ?hd (cs := #[.int .i64 0, .int .i64 0, .string (⟨#[]⟩ : ByteArray), .slice none 0 0, .slice none 0 0]) (t := 27) ?hr ?_; (case hd => rfl); (case hg => rfl); (case hr => first | (go_simp; done) | (go_simp; rfl)); intro gr hgr w2 hbox hb1; have GEr : Aside0 (w.heap.size ≤ gr) := ⟨by rw [hgr]; exact below_size (hbk HB)⟩; have hne : gt ≠ gr := (by rw [hgr]; exact Nat.ne_of_lt (blk_lt (o := .cells #[.int .i64 x.f0, .int .i64 x.f1, .string x.f2, .slice A3 m3 c3, .slice A4 x.f4.length c4] 27 (0, 0)) (bk BKt.out))); have hne2 : gr ≠ gt := hne.symm; have BKt' := Bk BKt hb1; have HB' := Hs HB hb1; clear HB BKt; have HB := HB'; have BKt := BKt'; clear HB' BKt'; have BKr := aS hbox; clear hbox hb1 hgr; have hct_0 := (blk_cell BKt.out 0).trans (rfl : _ = some (Value.int .i64 x.f0)); have hft_0 := blk_frozen BKt.out 0; have hct_1 := (blk_cell BKt.out 1).trans (rfl : _ = some (Value.int .i64 x.f1)); have hft_1 := blk_frozen BKt.out 1; have hct_2 := (blk_cell BKt.out 2).trans (rfl : _ = some (Value.string x.f2)); have hft_2 := blk_frozen BKt.out 2; have hct_3 := (blk_cell BKt.out 3).trans (rfl : _ = some (Value.slice A3 m3 c3)); have hft_3 := blk_frozen BKt.out 3; have hct_4 := (blk_cell BKt.out 4).trans (rfl : _ = some (Value.slice A4 x.f4.length c4)); have hft_4 := blk_frozen BKt.out 4; have hcr_0 := (blk_cell BKr.out 0).trans (rfl : _ = some (Value.int .i64 0)); have hfr_0 := blk_frozen BKr.out 0; have hcr_1 := (blk_cell BKr.out 1).trans (rfl : _ = some (Value.int .i64 0)); have hfr_1 := blk_frozen BKr.out 1; have hcr_2 := (blk_cell BKr.out 2).trans (rfl : _ = some (Value.string (⟨#[]⟩ : ByteArray))); have hfr_2 := blk_frozen BKr.out 2; have hcr_3 := (blk_cell BKr.out 3).trans (rfl : _ = some (Value.slice none 0 0)); have hfr_3 := blk_frozen BKr.out 3; have hcr_4 := (blk_cell BKr.out 4).trans (rfl : _ = some (Value.slice none 0 0)); have hfr_4 := blk_frozen BKr.out 4))
   refine bodyPost_ret (results_cell_row rfl _ _ gr 27 #[.int .i64 x.f0, .int .i64 x.f1, .string x.f2, .slice A3 m3 c3, .slice A4 x.f4.length c4] (0, 0) _ rfl (by (with_reducible repeat (first | refine blk_drewN ?_ _ | refine blk_drew ?_ | refine blk_alloc ?_ _)); refine blk_put (cs := #[.int .i64 x.f0, .int .i64 x.f1, .string x.f2, .slice A3 m3 c3, .slice none 0 0]) ?_ 4 _ rfl; (with_reducible repeat (first | refine blk_drewN ?_ _ | refine blk_drew ?_ | refine blk_alloc ?_ _)); refine blk_put (cs := #[.int .i64 x.f0, .int .i64 x.f1, .string x.f2, .slice none 0 0, .slice none 0 0]) ?_ 3 _ rfl; (with_reducible repeat (first | refine blk_drewN ?_ _ | refine blk_drew ?_ | refine blk_alloc ?_ _)); refine blk_put (cs := #[.int .i64 x.f0, .int .i64 x.f1, .string (⟨#[]⟩ : ByteArray), .slice none 0 0, .slice none 0 0]) ?_ 2 _ rfl; (with_reducible repeat (first | refine blk_drewN ?_ _ | refine blk_drew ?_ | refine blk_alloc ?_ _)); refine blk_put (cs := #[.int .i64 x.f0, .int .i64 0, .string (⟨#[]⟩ : ByteArray), .slice none 0 0, .slice none 0 0]) ?_ 1 _ rfl; (with_reducible repeat (first | refine blk_drewN ?_ _ | refine blk_drew ?_ | refine blk_alloc ?_ _)); refine blk_put (cs := #[.int .i64 0, .int .i64 0, .string (⟨#[]⟩ : ByteArray), .slice none 0 0, .slice none 0 0]) ?_ 0 _ rfl; (with_reducible repeat (first | refine blk_drewN ?_ _ | refine blk_drew ?_ | refine blk_alloc ?_ _)); exact BKr.out) Try.underlying27 rfl (by kernel_rfl)) rfl ?_
   exact ⟨by rw [e0, e1, e2], by rw [e4, swL_nil' hn4.out]; exact Kd.S_below KE.out (hbk HB), Chg.of_below (hbk HB) hb⟩
  have e1 : (swT x q).f1 = q := by rw [swT_mk]; simp only [if_pos k0, if_neg k1, if_pos k2]
  have k2b : (x.f1 == q + 1) = true := beq_iff_eq.mpr k2
  clear k0 k1 k2 hw hsp hs
  go_enter Try.func93, Try.ntmps93
  go_wp2_with (first | ((with_reducible refine gate_dst (N := 2) rfl ?_); refine box_event ?hg (N := 2) ?hd (cs := #[.int .i64 x.f0, .int .i64 x.f1, .string x.f2, .slice A3 m3 c3, .slice A4 x.f4.length c4]) (t := 27) ?hr ?_; (case hd => rfl); (case hg => rfl); (case hr => first | (go_simp; done) | (go_simp; rfl)); intro gt hgt w1 hbox hb1; have GEt : Aside0 (w.heap.size ≤ gt) := ⟨by rw [hgt]; exact below_size (hbk HB)⟩; have HB' := Hs HB hb1; clear HB; have HB := HB'; clear HB'; have BKt := aS hbox; clear hbox hb1 hgt) | ((with_reducible refine gate_dst (N := 4) rfl ?_); refine box_event ?hg (N := 4) ?hd (cs := #[.int .i64 0, .int .i64 0, .string (⟨#[]⟩ : ByteArray), .slice none 0 0, .slice none 0 0]) (t := 27) ?hr ?_; (case hd => rfl); (case hg => rfl); (case hr => first | (go_simp; done) | (go_simp; rfl)); intro gr hgr w2 hbox hb1; have GEr : Aside0 (w.heap.size ≤ gr) := ⟨by rw [hgr]; exact below_size (hbk HB)⟩; have hne : gt ≠ gr := (by rw [hgr]; exact Nat.ne_of_lt (blk_lt (o := .cells #[.int .i64 x.f0, .int .i64 x.f1, .string x.f2, .slice A3 m3 c3, .slice A4 x.f4.length c4] 27 (0, 0)) (bk BKt.out))); have hne2 : gr ≠ gt := hne.symm; have BKt' := Bk BKt hb1; have HB' := Hs HB hb1; clear HB BKt; have HB := HB'; have BKt := BKt'; clear HB' BKt'; have BKr := aS hbox; clear hbox hb1 hgr; have hct_0 := (blk_cell BKt.out 0).trans (rfl : _ = some (Value.int .i64 x.f0)); have hft_0 := blk_frozen BKt.out 0; have hct_1 := (blk_cell BKt.out 1).trans (rfl : _ = some (Value.int .i64 x.f1)); have hft_1 := blk_frozen BKt.out 1; have hct_2 := (blk_cell BKt.out 2).trans (rfl : _ = some (Value.string x.f2)); have hft_2 := blk_frozen BKt.out 2; have hct_3 := (blk_cell BKt.out 3).trans (rfl : _ = some (Value.slice A3 m3 c3)); have hft_3 := blk_frozen BKt.out 3; have hct_4 := (blk_cell BKt.out 4).trans (rfl : _ = some (Value.slice A4 x.f4.length c4)); have hft_4 := blk_frozen BKt.out 4; have hcr_0 := (blk_cell BKr.out 0).trans (rfl : _ = some (Value.int .i64 0)); have hfr_0 := blk_frozen BKr.out 0; have hcr_1 := (blk_cell BKr.out 1).trans (rfl : _ = some (Value.int .i64 0)); have hfr_1 := blk_frozen BKr.out 1; have hcr_2 := (blk_cell BKr.out 2).trans (rfl : _ = some (Value.string (⟨#[]⟩ : ByteArray))); have hfr_2 := blk_frozen BKr.out 2; have hcr_3 := (blk_cell BKr.out 3).trans (rfl : _ = some (Value.slice none 0 0)); have hfr_3 := blk_frozen BKr.out 3; have hcr_4 := (blk_cell BKr.out 4).trans (rfl : _ = some (Value.slice none 0 0)); have hfr_4 := blk_frozen BKr.out 4))
  refine bodyPost_ret (results_cell_row rfl _ _ gr 27 #[.int .i64 x.f0, .int .i64 q, .string x.f2, .slice A3 m3 c3, .slice A4 x.f4.length c4] (0, 0) _ rfl (by (with_reducible repeat (first | refine blk_drewN ?_ _ | refine blk_drew ?_ | refine blk_alloc ?_ _)); refine blk_put (cs := #[.int .i64 x.f0, .int .i64 q, .string x.f2, .slice A3 m3 c3, .slice none 0 0]) ?_ 4 _ rfl; (with_reducible repeat (first | refine blk_drewN ?_ _ | refine blk_drew ?_ | refine blk_alloc ?_ _)); refine blk_put (cs := #[.int .i64 x.f0, .int .i64 q, .string x.f2, .slice none 0 0, .slice none 0 0]) ?_ 3 _ rfl; (with_reducible repeat (first | refine blk_drewN ?_ _ | refine blk_drew ?_ | refine blk_alloc ?_ _)); refine blk_put (cs := #[.int .i64 x.f0, .int .i64 q, .string (⟨#[]⟩ : ByteArray), .slice none 0 0, .slice none 0 0]) ?_ 2 _ rfl; (with_reducible repeat (first | refine blk_drewN ?_ _ | refine blk_drew ?_ | refine blk_alloc ?_ _)); refine blk_put (cs := #[.int .i64 x.f0, .int .i64 0, .string (⟨#[]⟩ : ByteArray), .slice none 0 0, .slice none 0 0]) ?_ 1 _ rfl; (with_reducible repeat (first | refine blk_drewN ?_ _ | refine blk_drew ?_ | refine blk_alloc ?_ _)); refine blk_put (cs := #[.int .i64 0, .int .i64 0, .string (⟨#[]⟩ : ByteArray), .slice none 0 0, .slice none 0 0]) ?_ 0 _ rfl; (with_reducible repeat (first | refine blk_drewN ?_ _ | refine blk_drew ?_ | refine blk_alloc ?_ _)); refine blk_far ?_ hne2 _; (with_reducible repeat (first | refine blk_drewN ?_ _ | refine blk_drew ?_ | refine blk_alloc ?_ _)); exact BKr.out) Try.underlying27 rfl (by kernel_rfl)) rfl ?_
  exact ⟨by rw [e0, e1, e2], by rw [e4, swL_nil' hn4.out]; exact Kd.S_below KE.out (hbk HB), Chg.of_below (hbk HB) hb⟩
 have e1 : (swT x q).f1 = x.f1 := by rw [swT_mk]; simp only [if_neg k0]
 have k0b : (x.f0 == 0) = false := beq_eq_false_iff_ne.mpr k0
 have WX := aS hw
 have HSZ := aS hs
 have HQ0 := aS hq
 have KS1 : Aside0 (Kd.S (dS n) 27 w b (fun k => ok k ∧ k < w.heap.size) (.slice A4 x.f4.length c4) x.f4) := ⟨Kd.S_mono (Kd.S_bound KS.out) (fun k hk => ⟨hk.1, hk.2.2.1⟩)⟩
 have E_ := aS (And.intro e0 (And.intro e1 (And.intro e2 e4)))
 have HB0 := aS hb
 clear k0 hw hsp hs hq e0 e1 e2 e4 hb ew KS
 go_enter Try.func93, Try.ntmps93
 go_wp2_with (first | ((with_reducible refine gate_dst (N := 2) rfl ?_); refine box_event ?hg (N := 2) ?hd (cs := #[.int .i64 x.f0, .int .i64 x.f1, .string x.f2, .slice A3 m3 c3, .slice A4 x.f4.length c4]) (t := 27) ?hr ?_; (case hd => rfl); (case hg => rfl); (case hr => first | (go_simp; done) | (go_simp; rfl)); intro gt hgt w1 hbox hb1; have GEt : Aside0 (w.heap.size ≤ gt) := ⟨by rw [hgt]; exact below_size (hbk HB)⟩; have HB' := Hs HB hb1; clear HB; have HB := HB'; clear HB'; have BKt := aS hbox; clear hbox hb1 hgt) | ((with_reducible refine gate_dst (N := 4) rfl ?_); refine box_event ?hg (N := 4) ?hd (cs := #[.int .i64 0, .int .i64 0, .string (⟨#[]⟩ : ByteArray), .slice none 0 0, .slice none 0 0]) (t := 27) ?hr ?_; (case hd => rfl); (case hg => rfl); (case hr => first | (go_simp; done) | (go_simp; rfl)); intro gr hgr w2 hbox hb1; have GEr : Aside0 (w.heap.size ≤ gr) := ⟨by rw [hgr]; exact below_size (hbk HB)⟩; have hne : gt ≠ gr := (by rw [hgr]; exact Nat.ne_of_lt (blk_lt (o := .cells #[.int .i64 x.f0, .int .i64 x.f1, .string x.f2, .slice A3 m3 c3, .slice A4 x.f4.length c4] 27 (0, 0)) (bk BKt.out))); have hne2 : gr ≠ gt := hne.symm; have BKt' := Bk BKt hb1; have HB' := Hs HB hb1; clear HB BKt; have HB := HB'; have BKt := BKt'; clear HB' BKt'; have BKr := aS hbox; clear hbox hb1 hgr; have hct_0 := (blk_cell BKt.out 0).trans (rfl : _ = some (Value.int .i64 x.f0)); have hft_0 := blk_frozen BKt.out 0; have hct_1 := (blk_cell BKt.out 1).trans (rfl : _ = some (Value.int .i64 x.f1)); have hft_1 := blk_frozen BKt.out 1; have hct_2 := (blk_cell BKt.out 2).trans (rfl : _ = some (Value.string x.f2)); have hft_2 := blk_frozen BKt.out 2; have hct_3 := (blk_cell BKt.out 3).trans (rfl : _ = some (Value.slice A3 m3 c3)); have hft_3 := blk_frozen BKt.out 3; have hct_4 := (blk_cell BKt.out 4).trans (rfl : _ = some (Value.slice A4 x.f4.length c4)); have hft_4 := blk_frozen BKt.out 4; have hcr_0 := (blk_cell BKr.out 0).trans (rfl : _ = some (Value.int .i64 0)); have hfr_0 := blk_frozen BKr.out 0; have hcr_1 := (blk_cell BKr.out 1).trans (rfl : _ = some (Value.int .i64 0)); have hfr_1 := blk_frozen BKr.out 1; have hcr_2 := (blk_cell BKr.out 2).trans (rfl : _ = some (Value.string (⟨#[]⟩ : ByteArray))); have hfr_2 := blk_frozen BKr.out 2; have hcr_3 := (blk_cell BKr.out 3).trans (rfl : _ = some (Value.slice none 0 0)); have hfr_3 := blk_frozen BKr.out 3; have hcr_4 := (blk_cell BKr.out 4).trans (rfl : _ = some (Value.slice none 0 0)); have hfr_4 := blk_frozen BKr.out 4))
 go_loopg [5] x.f4.length (fun kq v5 w' => ∃ (j : Int), v5 = .int .i64 j ∧ Aside0 (0 ≤ j ∧ j ≤ x.f4.length ∧ (kq : Int) + j = x.f4.length) ∧ Aside0 (Kd.S (dS n) 27 w' b (fun k => ok k ∧ k < w.heap.size) (.slice A4 x.f4.length c4) (swY x q j.toNat)) ∧ Aside0 (w'.heap[gt]? = some (.cells #[.int .i64 x.f0, .int .i64 x.f1, .string x.f2, .slice A3 m3 c3, .slice A4 x.f4.length c4] 27 (0, 0))) ∧ Aside0 (w'.heap[gr]? = some (.cells #[.int .i64 0, .int .i64 0, .string (⟨#[]⟩ : ByteArray), .slice none 0 0, .slice none 0 0] 27 (0, 0))) ∧ Aside0 (Chg b (fun k => ok k ∧ k < w.heap.size) w w'))
 case atStart => exact ⟨0, br, ⟨by omega⟩, ⟨by have := Kd.S_below KS1.out HB.out; rwa [show (0 : Int).toNat = 0 from rfl, swY_zero]⟩, BKt, BKr, ⟨Chg.of_below HB.out HB0.out⟩⟩
 case round =>
  clear KS1 BKt BKr HB
  clear hct_0 hct_1 hct_2 hct_3 hct_4 hft_0 hft_1 hft_2 hft_3 hft_4
  clear hcr_0 hcr_1 hcr_2 hcr_3 hcr_4 hfr_0 hfr_1 hfr_2 hfr_3 hfr_4
  obtain ⟨j, rfl, HJ, KS, BKt, BKr, CH⟩ := hrel
  have hct_0 := (blk_cell BKt.out 0).trans (rfl : _ = some (Value.int .i64 x.f0))
  have hft_0 := blk_frozen BKt.out 0
  have hct_1 := (blk_cell BKt.out 1).trans (rfl : _ = some (Value.int .i64 x.f1))
  have hft_1 := blk_frozen BKt.out 1
  have hct_2 := (blk_cell BKt.out 2).trans (rfl : _ = some (Value.string x.f2))
  have hft_2 := blk_frozen BKt.out 2
  have hct_3 := (blk_cell BKt.out 3).trans (rfl : _ = some (Value.slice A3 m3 c3))
  have hft_3 := blk_frozen BKt.out 3
  have hct_4 := (blk_cell BKt.out 4).trans (rfl : _ = some (Value.slice A4 x.f4.length c4))
  have hft_4 := blk_frozen BKt.out 4
  have hcr_0 := (blk_cell BKr.out 0).trans (rfl : _ = some (Value.int .i64 0))
  have hfr_0 := blk_frozen BKr.out 0
  have hcr_1 := (blk_cell BKr.out 1).trans (rfl : _ = some (Value.int .i64 0))
  have hfr_1 := blk_frozen BKr.out 1
  have hcr_2 := (blk_cell BKr.out 2).trans (rfl : _ = some (Value.string (⟨#[]⟩ : ByteArray)))
  have hfr_2 := blk_frozen BKr.out 2
  have hcr_3 := (blk_cell BKr.out 3).trans (rfl : _ = some (Value.slice none 0 0))
  have hfr_3 := blk_frozen BKr.out 3
  have hcr_4 := (blk_cell BKr.out 4).trans (rfl : _ = some (Value.slice none 0 0))
  have hfr_4 := blk_frozen BKr.out 4
  have HBB : Aside0 (b ≤ wr.heap.size) := ⟨Nat.le_trans HB0.out CH.out.below.size⟩
  by_cases c8 : j < (x.f4.length : Int)
  rotate_left
  ·have hjl : Aside0 (j = x.f4.length) := ⟨by have := HJ.out; omega⟩
   have c8b := decide_eq_false c8
   go_wp2
   refine bodyPost_ret (results_cell_row rfl _ _ gr 27 #[.int .i64 x.f0, .int .i64 x.f1, .string x.f2, .slice A3 m3 c3, .slice A4 x.f4.length c4] (0, 0) _ rfl (by (with_reducible repeat (first | refine blk_drewN ?_ _ | refine blk_drew ?_ | refine blk_alloc ?_ _)); refine blk_put (cs := #[.int .i64 x.f0, .int .i64 x.f1, .string x.f2, .slice A3 m3 c3, .slice none 0 0]) ?_ 4 _ rfl; (with_reducible repeat (first | refine blk_drewN ?_ _ | refine blk_drew ?_ | refine blk_alloc ?_ _)); refine blk_put (cs := #[.int .i64 x.f0, .int .i64 x.f1, .string x.f2, .slice none 0 0, .slice none 0 0]) ?_ 3 _ rfl; (with_reducible repeat (first | refine blk_drewN ?_ _ | refine blk_drew ?_ | refine blk_alloc ?_ _)); refine blk_put (cs := #[.int .i64 x.f0, .int .i64 x.f1, .string (⟨#[]⟩ : ByteArray), .slice none 0 0, .slice none 0 0]) ?_ 2 _ rfl; (with_reducible repeat (first | refine blk_drewN ?_ _ | refine blk_drew ?_ | refine blk_alloc ?_ _)); refine blk_put (cs := #[.int .i64 x.f0, .int .i64 0, .string (⟨#[]⟩ : ByteArray), .slice none 0 0, .slice none 0 0]) ?_ 1 _ rfl; (with_reducible repeat (first | refine blk_drewN ?_ _ | refine blk_drew ?_ | refine blk_alloc ?_ _)); refine blk_put (cs := #[.int .i64 0, .int .i64 0, .string (⟨#[]⟩ : ByteArray), .slice none 0 0, .slice none 0 0]) ?_ 0 _ rfl; (with_reducible repeat (first | refine blk_drewN ?_ _ | refine blk_drew ?_ | refine blk_alloc ?_ _)); exact BKr.out) Try.underlying27 rfl (by kernel_rfl)) rfl ?_
   have KF : Aside0 (Kd.S (dS n) 27 wr b (fun k => ok k ∧ k < w.heap.size) (.slice A4 x.f4.length c4) (swL x.f0 0 x.f4 q)) := ⟨by have h := KS.out; rwa [swY_all x q (by rw [hjl.out]; omega)] at h⟩
   refine ⟨by rw [E_.out.1, E_.out.2.1, E_.out.2.2.1], ?_, ?_⟩
   ·rw [E_.out.2.2.2]
    refine Kd.S_mono (ok := fun k => ok k ∧ k < w.heap.size) ?_ (fun k hk => hk.1)
    repeat (first | (with_reducible exact KF.out) | with_reducible refine Kd.S_far ?_ (fun k hk => Nat.ne_of_lt (Nat.lt_of_lt_of_le hk.2 GEr.out)) _ | apply Kd.S_drew | apply Kd.S_drewN)
   ·refine Chg.mono (ok := fun k => ok k ∧ k < w.heap.size) ?_ (fun k hk => hk.1)
    repeat (first | (with_reducible exact CH.out) | with_reducible refine Chg.far ?_ GEr.out HB0.out _ | apply Chg.drew | apply Chg.drewN)
  have c9 : 0 ≤ j := HJ.out.1
  obtain ⟨k1, hk1⟩ : ∃ k1, gk = k1 + 1 := ⟨gk - 1, by have := HJ.out; omega⟩
  have HK1 := aS hk1
  clear hk1
  have hjn : j.toNat < x.f4.length := by omega
  have EJ : Aside0 ((rd_T27 (swY x q j.toNat) j) = x.f4.getD j.toNat z27) := ⟨swY_get x q hjn⟩
  have ET : Aside0 ((swY x q j.toNat).set j.toNat (swT (rd_T27 (swY x q j.toNat) j) (q + bn x.f0 j.toNat)) = swY x q (j.toNat + 1)) := ⟨by rw [EJ.out]; exact swY_set x q hjn⟩
  have hmem : x.f4.getD j.toNat z27 ∈ x.f4 := by rw [List.getD_eq_getElem?_getD, List.getElem?_eq_getElem hjn]; exact List.getElem_mem _
  have WE : Aside0 (WhB B (rd_T27 (swY x q j.toNat) j)) := ⟨by rw [EJ.out]; cases WX.out with | mk _ _ _ _ _ _ hs => exact hs _ hmem⟩
  have hsm := sz_mem hmem
  have hsx := sz_mk x
  have hg0 := bn_ge x.f0 j.toNat
  have hg1 := bn_le x.f0 j.toNat
  have HQ : Aside0 (0 ≤ q + bn x.f0 j.toNat) := ⟨by have := HQ0.out; omega⟩
  have HQ2 : Aside0 (q + bn x.f0 j.toNat + szT (rd_T27 (swY x q j.toNat) j) ≤ 1073741824) := ⟨by rw [EJ.out]; have := HSZ.out; omega⟩
  have ew : wrap64 (q + bn x.f0 j.toNat) = q + bn x.f0 j.toNat := wr1b_ _ HQ.out (by have := HSZ.out; omega)
  have ew2 : IntKind.i64.wrap (q + bn x.f0 j.toNat) = q + bn x.f0 j.toNat := wr1c_ _ HQ.out (by have := HSZ.out; omega)
  have hbn := binds_is2 x.f0 j c9
  have ej : wrap64 (j + 1) = j + 1 := wr1_ j c9 (by cases WX.out with | mk _ _ _ _ _ h4 => omega)
  have EX : Aside0 ((swT (rd_T27 (swY x q j.toNat) j) (q + bn x.f0 j.toNat)).f3 = (rd_T27 (swY x q j.toNat) j).f3 ∧ (swT (rd_T27 (swY x q j.toNat) j) (q + bn x.f0 j.toNat)).f4.length = (rd_T27 (swY x q j.toNat) j).f4.length) := ⟨by rw [swT_mk], by rw [swT_mk]; exact swL_len _ _ _ _⟩
  have hjt : Aside0 ((j + 1).toNat = j.toNat + 1) := ⟨by omega⟩
  clear hsm hsx hg0 hg1 hmem hjn
  obtain ⟨m, g, ad, A3e, c3e, A4e, c4e, oki, cur, hnm', hA4, had', ⟨hx0, hx1, hx2, hx3, hx4⟩, g3, g4, hok', hgok, hbg, hh', hfit', hH'⟩ := elem_lent KS.out j c9 c8
  have hnm := aS hnm'
  have had := aS had'
  have hadb : Aside0 ((ad.add (j.toNat * 5)).block = g) := ⟨by rw [had', add_at]⟩
  have G3 := aS g3
  have G4 := aS g4
  have HOK := aS hok'
  have HGO := aS hgok
  have HBG := aS hbg
  have HH := aS hh'
  have HFIT := aS hfit'
  have HL := aS hH'
  subst hA4
  clear hnm' had' g3 g4 hok' hgok hbg hh' hfit' hH'
  have C8 := aS c8
  have C9 := aS c9
  replace c8 := eq_true c8
  replace c9 := eq_true c9
  go_wp2
  refine wp_region_last_drew (S := (fun wz => wz.heap[gt]? = wr.heap[gt]? ∧ wz.heap[(ad.add (j.toNat * 5)).block]? = wr.heap[(ad.add (j.toNat * 5)).block]?)) (ds := [16]) (by kernel_rfl) (by (try dsimp only); exact ⟨rfl, rfl⟩) (fun hHeld => ?_)
  refine wpAnyLast_take (i := 0) (oi := ({ dst := some 31, op := Go.Op.fieldAddr 27 (Go.Operand.tmp 2) 4, type := 0, pos := "law.go:194", after := #[], guard := none } : Oper)) (v := ?_) rfl (by kernel_rfl) (by kernel_rfl) (by kernel_rfl) (by kernel_rfl) (by kernel_rfl) (fun _ _ _ h => h) (Or.inl ⟨by rfl, ?_⟩) (by assumption) ?_
  rotate_left
  ·((intro w_ hSw; (try dsimp only at hSw); go_simp) <;> with_reducible rfl)
  try simp only [Act.put, List.setIfInBounds_toArray, List.set_cons_zero, List.set_cons_succ]
  refine wpAnyLast_take (i := 1) (oi := ({ dst := some 32, op := Go.Op.load 23 (Go.Operand.tmp 31), type := 23, pos := "law.go:194", after := #[{ on := 0, ground := Go.Ground.data }], guard := none } : Oper)) (v := ?_) rfl (by kernel_rfl) (by kernel_rfl) (by kernel_rfl) (by kernel_rfl) (by kernel_rfl) (fun _ _ _ h => h) (Or.inl ⟨by rfl, ?_⟩) (by assumption) ?_
  rotate_left
  ·((intro w_ hSw; (try dsimp only at hSw); have s0_ := (World.cell?_of_block (w := wr) (w' := w_) (a := ⟨gt, 0, none⟩) hSw.1).trans hct_0; have s4_ := (World.cell?_of_block (w := wr) (w' := w_) (a := ⟨gt, 4, none⟩) hSw.1).trans hct_4; go_simp) <;> with_reducible rfl)
  try simp only [Act.put, List.setIfInBounds_toArray, List.set_cons_zero, List.set_cons_succ]
  refine wpAnyLast_take (i := 2) (oi := ({ dst := some 33, op := Go.Op.move (Go.Operand.tmp 5), type := 3, pos := "law.go:194", after := #[], guard := none } : Oper)) (v := ?_) rfl (by kernel_rfl) (by kernel_rfl) (by kernel_rfl) (by kernel_rfl) (by kernel_rfl) (fun _ _ _ h => h) (Or.inl ⟨by rfl, ?_⟩) (by assumption) ?_
  rotate_left
  ·((intro w_ hSw; (try dsimp only at hSw); go_simp) <;> with_reducible rfl)
  try simp only [Act.put, List.setIfInBounds_toArray, List.set_cons_zero, List.set_cons_succ]
  refine wpAnyLast_take (i := 3) (oi := ({ dst := some 34, op := Go.Op.fieldAddr 27 (Go.Operand.tmp 2) 4, type := 0, pos := "law.go:194", after := #[], guard := none } : Oper)) (v := ?_) rfl (by kernel_rfl) (by kernel_rfl) (by kernel_rfl) (by kernel_rfl) (by kernel_rfl) (fun _ _ _ h => h) (Or.inl ⟨by rfl, ?_⟩) (by assumption) ?_
  rotate_left
  ·((intro w_ hSw; (try dsimp only at hSw); go_simp) <;> with_reducible rfl)
  try simp only [Act.put, List.setIfInBounds_toArray, List.set_cons_zero, List.set_cons_succ]
  refine wpAnyLast_take (i := 4) (oi := ({ dst := some 35, op := Go.Op.load 23 (Go.Operand.tmp 34), type := 23, pos := "law.go:194", after := #[{ on := 3, ground := Go.Ground.data }], guard := none } : Oper)) (v := ?_) rfl (by kernel_rfl) (by kernel_rfl) (by kernel_rfl) (by kernel_rfl) (by kernel_rfl) (fun _ _ _ h => h) (Or.inl ⟨by rfl, ?_⟩) (by assumption) ?_
  rotate_left
  ·((intro w_ hSw; (try dsimp only at hSw); have s0_ := (World.cell?_of_block (w := wr) (w' := w_) (a := ⟨gt, 0, none⟩) hSw.1).trans hct_0; have s4_ := (World.cell?_of_block (w := wr) (w' := w_) (a := ⟨gt, 4, none⟩) hSw.1).trans hct_4; go_simp) <;> with_reducible rfl)
  try simp only [Act.put, List.setIfInBounds_toArray, List.set_cons_zero, List.set_cons_succ]
  refine wpAnyLast_take (i := 5) (oi := ({ dst := some 36, op := Go.Op.move (Go.Operand.tmp 5), type := 3, pos := "law.go:194", after := #[], guard := none } : Oper)) (v := ?_) rfl (by kernel_rfl) (by kernel_rfl) (by kernel_rfl) (by kernel_rfl) (by kernel_rfl) (fun _ _ _ h => h) (Or.inl ⟨by rfl, ?_⟩) (by assumption) ?_
  rotate_left
  ·((intro w_ hSw; (try dsimp only at hSw); go_simp) <;> with_reducible rfl)
  try simp only [Act.put, List.setIfInBounds_toArray, List.set_cons_zero, List.set_cons_succ]
  refine wpAnyLast_take (i := 6) (oi := ({ dst := some 37, op := Go.Op.indexAddr 23 (Go.Operand.tmp 35) (Go.Operand.tmp 36), type := 0, pos := "law.go:194", after := #[{ on := 4, ground := Go.Ground.data }, { on := 5, ground := Go.Ground.data }], guard := none } : Oper)) (v := ?_) rfl (by kernel_rfl) (by kernel_rfl) (by kernel_rfl) (by kernel_rfl) (by kernel_rfl) (fun _ _ _ h => h) (Or.inl ⟨by rfl, ?_⟩) (by assumption) ?_
  rotate_left
  ·((intro w_ hSw; (try dsimp only at hSw); go_simp) <;> with_reducible rfl)
  try simp only [Act.put, List.setIfInBounds_toArray, List.set_cons_zero, List.set_cons_succ]
  refine wpAnyLast_take (i := 7) (oi := ({ dst := some 38, op := Go.Op.load 27 (Go.Operand.tmp 37), type := 27, pos := "law.go:194", after := #[{ on := 6, ground := Go.Ground.data }], guard := none } : Oper)) (v := ?_) rfl (by kernel_rfl) (by kernel_rfl) (by kernel_rfl) (by kernel_rfl) (by kernel_rfl) (fun _ _ _ h => h) (Or.inl ⟨by rfl, ?_⟩) (by assumption) ?_
  rotate_left
  ·((intro w_ hSw; (try dsimp only at hSw); have y0_ := (World.cell?_of_block (w := wr) (w' := w_) (a := ad.add (j.toNat * 5)) hSw.2).trans hx0; have y1_ := (World.cell?_of_block (w := wr) (w' := w_) (a := ⟨(ad.add (j.toNat * 5)).block, (ad.add (j.toNat * 5)).off + 1, none⟩) hSw.2).trans hx1; have y2_ := (World.cell?_of_block (w := wr) (w' := w_) (a := ⟨(ad.add (j.toNat * 5)).block, (ad.add (j.toNat * 5)).off + 2, none⟩) hSw.2).trans hx2; have y3_ := (World.cell?_of_block (w := wr) (w' := w_) (a := ⟨(ad.add (j.toNat * 5)).block, (ad.add (j.toNat * 5)).off + 3, none⟩) hSw.2).trans hx3; have y4_ := (World.cell?_of_block (w := wr) (w' := w_) (a := ⟨(ad.add (j.toNat * 5)).block, (ad.add (j.toNat * 5)).off + 4, none⟩) hSw.2).trans hx4; go_simp) <;> with_reducible rfl)
  try simp only [Act.put, List.setIfInBounds_toArray, List.set_cons_zero, List.set_cons_succ]
  refine wpAnyLast_take (i := 8) (oi := ({ dst := some 39, op := Go.Op.move (Go.Operand.tmp 1), type := 3, pos := "law.go:194", after := #[], guard := none } : Oper)) (v := ?_) rfl (by kernel_rfl) (by kernel_rfl) (by kernel_rfl) (by kernel_rfl) (by kernel_rfl) (fun _ _ _ h => h) (Or.inl ⟨by rfl, ?_⟩) (by assumption) ?_
  rotate_left
  ·((intro w_ hSw; (try dsimp only at hSw); go_simp) <;> with_reducible rfl)
  try simp only [Act.put, List.setIfInBounds_toArray, List.set_cons_zero, List.set_cons_succ]
  refine wpAnyLast_take (i := 9) (oi := ({ dst := some 40, op := Go.Op.fieldAddr 27 (Go.Operand.tmp 2) 0, type := 0, pos := "law.go:194", after := #[], guard := none } : Oper)) (v := ?_) rfl (by kernel_rfl) (by kernel_rfl) (by kernel_rfl) (by kernel_rfl) (by kernel_rfl) (fun _ _ _ h => h) (Or.inl ⟨by rfl, ?_⟩) (by assumption) ?_
  rotate_left
  ·((intro w_ hSw; (try dsimp only at hSw); go_simp) <;> with_reducible rfl)
  try simp only [Act.put, List.setIfInBounds_toArray, List.set_cons_zero, List.set_cons_succ]
  refine wpAnyLast_take (i := 10) (oi := ({ dst := some 41, op := Go.Op.load 3 (Go.Operand.tmp 40), type := 3, pos := "law.go:194", after := #[{ on := 9, ground := Go.Ground.data }], guard := none } : Oper)) (v := ?_) rfl (by kernel_rfl) (by kernel_rfl) (by kernel_rfl) (by kernel_rfl) (by kernel_rfl) (fun _ _ _ h => h) (Or.inl ⟨by rfl, ?_⟩) (by assumption) ?_
  rotate_left
  ·((intro w_ hSw; (try dsimp only at hSw); have s0_ := (World.cell?_of_block (w := wr) (w' := w_) (a := ⟨gt, 0, none⟩) hSw.1).trans hct_0; have s4_ := (World.cell?_of_block (w := wr) (w' := w_) (a := ⟨gt, 4, none⟩) hSw.1).trans hct_4; go_simp) <;> with_reducible rfl)
  try simp only [Act.put, List.setIfInBounds_toArray, List.set_cons_zero, List.set_cons_succ]
  refine wpAnyLast_take (i := 11) (oi := ({ dst := some 42, op := Go.Op.move (Go.Operand.tmp 5), type := 3, pos := "law.go:194", after := #[], guard := none } : Oper)) (v := ?_) rfl (by kernel_rfl) (by kernel_rfl) (by kernel_rfl) (by kernel_rfl) (by kernel_rfl) (fun _ _ _ h => h) (Or.inl ⟨by rfl, ?_⟩) (by assumption) ?_
  rotate_left
  ·((intro w_ hSw; (try dsimp only at hSw); go_simp) <;> with_reducible rfl)
  try simp only [Act.put, List.setIfInBounds_toArray, List.set_cons_zero, List.set_cons_succ]
  refine wpAnyLast_ready (rs := [12]) (by kernel_rfl) (by simp) (AllReadyL.cons (o := ({ dst := some 43, op := Go.Op.call { callee := Go.Callee.value (Go.Operand.func 107), args := #[Go.Operand.tmp 41, Go.Operand.tmp 42], argTypes := #[3, 3] }, type := 3, pos := "law.go:194", after := #[{ on := 10, ground := Go.Ground.data }, { on := 11, ground := Go.Ground.data }], guard := none } : Oper)) rfl (by decide) (fun K hK => ?_) AllReadyL.nil)
  go_simp
  go_wp2_with (first | (go_at_call 107; go_must (with_reducible refine (touchstoneref5_Binds.calls x.f0 j (bn x.f0 j.toNat) _ hbn).mono ?_); go_must (rintro e w3 ⟨rfl, hd⟩); have HD3 := aS (show Below wr.heap.size wr w3 from below_step (by repeat (first | exact Below.refl _ _ | apply below_drew1 | apply pw_below_drewN)) hd.below); clear hd))
  refine hK.out _ _ (by (try dsimp only); exact ⟨HD3.out.block gt (blk_lt BKt.out), HD3.out.block (ad.add (j.toNat * 5)).block (by rw [hadb.out]; exact blk_lt HH.out)⟩) (fun hHeld2 => ?_)
  clear hK K hHeld
  have hHeld := hHeld2
  clear hHeld2
  try simp only [Act.put, List.setIfInBounds_toArray, List.set_cons_zero, List.set_cons_succ]
  refine wpAnyLast_take (i := 13) (oi := ({ dst := some 44, op := Go.Op.binOp Go.BinOp.add 3 (Go.Operand.tmp 39) (Go.Operand.tmp 43) 3, type := 3, pos := "law.go:194", after := #[{ on := 8, ground := Go.Ground.data }, { on := 12, ground := Go.Ground.data }], guard := none } : Oper)) (v := ?_) rfl (by kernel_rfl) (by kernel_rfl) (by kernel_rfl) (by kernel_rfl) (by kernel_rfl) (fun _ _ _ h => h) (Or.inl ⟨by rfl, ?_⟩) (by assumption) ?_
  rotate_left
  ·((intro w_ hSw; (try dsimp only at hSw); go_simp) <;> with_reducible rfl)
  try simp only [Act.put, List.setIfInBounds_toArray, List.set_cons_zero, List.set_cons_succ]
  refine wpAnyLast_ready (rs := [14]) (by kernel_rfl) (by simp) (AllReadyL.cons (o := ({ dst := some 45, op := Go.Op.call { callee := Go.Callee.value (Go.Operand.func 93), args := #[Go.Operand.tmp 38, Go.Operand.tmp 44], argTypes := #[27, 3] }, type := 27, pos := "law.go:194", after := #[{ on := 7, ground := Go.Ground.data }, { on := 13, ground := Go.Ground.data }, { on := 12, ground := Go.Ground.chain }], guard := none } : Oper)) rfl (by decide) (fun K hK => ?_) AllReadyL.nil)
  go_simp
  go_wp2_with (first | (go_at_call 93; go_must (with_reducible refine (ih m (by rw [hnm.out]; exact Nat.lt_succ_self m) (rd_T27 (swY x q j.toNat) j) A3e c3e (rd_T27 (swY x q j.toNat) j).f3.length A4e c4e (q + bn x.f0 j.toNat) B b oki _ WE.out HQ.out HQ2.out ?side1 ?side2).mono ?_); (case side1 => exact Nat.le_trans HBB.out (below_size (show Below wr.heap.size wr _ from by repeat (first | exact HD3.out | apply below_drew1 | apply pw_below_drewN)))); (case side2 => exact Kd.S_below G4.out (show Below wr.heap.size wr _ from by repeat (first | exact HD3.out | apply below_drew1 | apply pw_below_drewN))); rintro e w4 ⟨rfl, hs4, hc4⟩; have HS4 := aS hs4; have HC4 := aS ((Chg.of_below (ok := oki) (show Below wr.heap.size wr _ from by repeat (first | exact HD3.out | apply below_drew1 | apply pw_below_drewN)) HBB.out).trans hc4); clear hs4 hc4))
  refine hK.out _ _ (by (try dsimp only); exact ⟨(HC4.out.blk (fun h => absurd ((HOK.out _ h).1).2 (Nat.not_lt.2 GEt.out)) BKt.out).trans BKt.out.symm, by rw [hadb.out]; exact (HC4.out.blk (fun h => (HOK.out _ h).2 rfl) HH.out).trans HH.out.symm⟩) (fun hHeld2 => ?_)
  clear hK K hHeld
  have hHeld := hHeld2
  clear hHeld2
  try simp only [Act.put, List.setIfInBounds_toArray, List.set_cons_zero, List.set_cons_succ]
  refine wpAnyLast_take (i := 15) (oi := ({ dst := some 46, op := Go.Op.indexAddr 23 (Go.Operand.tmp 32) (Go.Operand.tmp 33), type := 0, pos := "law.go:194", after := #[{ on := 1, ground := Go.Ground.data }, { on := 2, ground := Go.Ground.data }, { on := 0, ground := Go.Ground.phase }, { on := 1, ground := Go.Ground.phase }, { on := 2, ground := Go.Ground.phase }, { on := 3, ground := Go.Ground.phase }, { on := 4, ground := Go.Ground.phase }, { on := 5, ground := Go.Ground.phase }, { on := 6, ground := Go.Ground.phase }, { on := 7, ground := Go.Ground.phase }, { on := 8, ground := Go.Ground.phase }, { on := 9, ground := Go.Ground.phase }, { on := 10, ground := Go.Ground.phase }, { on := 11, ground := Go.Ground.phase }, { on := 12, ground := Go.Ground.phase }, { on := 13, ground := Go.Ground.phase }, { on := 14, ground := Go.Ground.phase }], guard := none } : Oper)) (v := ?_) rfl (by kernel_rfl) (by kernel_rfl) (by kernel_rfl) (by kernel_rfl) (by kernel_rfl) (fun _ _ _ h => h) (Or.inl ⟨by rfl, ?_⟩) (by assumption) ?_
  rotate_left
  ·((intro w_ hSw; (try dsimp only at hSw); go_simp) <;> with_reducible rfl)
  try simp only [Act.put, List.setIfInBounds_toArray, List.set_cons_zero, List.set_cons_succ]
  refine wpAnyLast_ready (rs := [16]) (by kernel_rfl) (by simp) (AllReadyL.cons_last (o := ({ dst := none, op := Go.Op.store 27 (Go.Operand.tmp 46) (Go.Operand.tmp 45), type := 0, pos := "law.go:194", after := #[{ on := 15, ground := Go.Ground.data }, { on := 14, ground := Go.Ground.data }, { on := 14, ground := Go.Ground.chain }, { on := 0, ground := Go.Ground.phase }, { on := 1, ground := Go.Ground.phase }, { on := 2, ground := Go.Ground.phase }, { on := 3, ground := Go.Ground.phase }, { on := 4, ground := Go.Ground.phase }, { on := 5, ground := Go.Ground.phase }, { on := 6, ground := Go.Ground.phase }, { on := 7, ground := Go.Ground.phase }, { on := 8, ground := Go.Ground.phase }, { on := 9, ground := Go.Ground.phase }, { on := 10, ground := Go.Ground.phase }, { on := 11, ground := Go.Ground.phase }, { on := 12, ground := Go.Ground.phase }, { on := 13, ground := Go.Ground.phase }, { on := 14, ground := Go.Ground.phase }], guard := none } : Oper)) rfl (by decide) (fun K hK => ?_) AllReadyL.nil)
  have HLm := HL.out
  rw [hnm.out] at HLm
  obtain ⟨hS5, hG5⟩ := elem_back (x' := (swT (rd_T27 (swY x q j.toNat) j) (q + bn x.f0 j.toNat))) HLm HOK.out C9.out C8.out HC4.out (by rw [EX.out.1]; exact G3.out) HS4.out
  rw [← hnm.out, ET.out, ← had.out] at hS5
  have NGt : gt ≠ g := fun e => absurd (HGO.out.2) (Nat.not_lt.2 (e ▸ GEt.out))
  have NGr : gr ≠ g := fun e => absurd (HGO.out.2) (Nat.not_lt.2 (e ▸ GEr.out))
  have HBK4 := aS (HC4.out.blk (fun h => (HOK.out _ h).2 rfl) HH.out)
  have HS5 := aS hS5
  have BKt5 := aS (blk_grown (HC4.out.blk (fun h => absurd ((HOK.out _ h).1).2 (Nat.not_lt.2 GEt.out)) BKt.out) hG5 (fun e => NGt (Option.some.inj e)))
  have BKr5 := aS (blk_grown (HC4.out.blk (fun h => absurd ((HOK.out _ h).1).2 (Nat.not_lt.2 GEr.out)) BKr.out) hG5 (fun e => NGr (Option.some.inj e)))
  have CH5 := aS ((CH.out.trans (HC4.out.mono (fun k h => (HOK.out k h).1))).trans (Chg.grown hG5 HGO.out HBK4.out HBG.out (Nat.le_trans HBB.out HC4.out.below.size)))
  clear HLm hS5 hG5 NGt NGr
  refine store_step (by rfl) rfl 27 _ _ rfl (g := g) (off := j.toNat * 5) (cur := cur) (e := 27) (u := .agg #[.int .i64 (swT (rd_T27 (swY x q j.toNat) j) (q + bn x.f0 j.toNat)).f0, .int .i64 (swT (rd_T27 (swY x q j.toNat) j) (q + bn x.f0 j.toNat)).f1, .string (swT (rd_T27 (swY x q j.toNat) j) (q + bn x.f0 j.toNat)).f2, .slice A3e (rd_T27 (swY x q j.toNat) j).f3.length c3e, .slice A4e (rd_T27 (swY x q j.toNat) j).f4.length c4e]) [.int .i64 (swT (rd_T27 (swY x q j.toNat) j) (q + bn x.f0 j.toNat)).f0, .int .i64 (swT (rd_T27 (swY x q j.toNat) j) (q + bn x.f0 j.toNat)).f1, .string (swT (rd_T27 (swY x q j.toNat) j) (q + bn x.f0 j.toNat)).f2, .slice A3e (rd_T27 (swY x q j.toNat) j).f3.length c3e, .slice A4e (rd_T27 (swY x q j.toNat) j).f4.length c4e] (by go_simp; rw [had.out, add_at, Nat.zero_add]) (by rfl) HBK4.out rfl (by kernel_rfl) HFIT.out (by intro q_ hq_; simp at hq_; rcases hq_ with rfl | rfl | rfl | rfl | rfl <;> rfl) ?_
  obtain ⟨w5, hw5⟩ : ∃ w5, w5 = w4.setCells g (j.toNat * 5) [.int .i64 (swT (rd_T27 (swY x q j.toNat) j) (q + bn x.f0 j.toNat)).f0, .int .i64 (swT (rd_T27 (swY x q j.toNat) j) (q + bn x.f0 j.toNat)).f1, .string (swT (rd_T27 (swY x q j.toNat) j) (q + bn x.f0 j.toNat)).f2, .slice A3e (rd_T27 (swY x q j.toNat) j).f3.length c3e, .slice A4e (rd_T27 (swY x q j.toNat) j).f4.length c4e] := ⟨_, rfl⟩
  rw [← hw5] at HS5 BKt5 BKr5 CH5 ⊢
  clear hw5
  refine hK.out _ _ ?_
  clear hK K
  try simp only [Act.put, List.setIfInBounds_toArray, List.set_cons_zero, List.set_cons_succ]
  refine wpAnyLast_done (by kernel_rfl) ?_ _
  with_reducible apply_assumption
  go_wp2
  go_roundg k1
  case measure => have := HK1.out; omega
  case rel => exact ⟨j + 1, br, ⟨by have := HJ.out; have := C8.out; have := HK1.out; omega⟩, ⟨by rw [hjt.out]; exact HS5.out⟩, BKt5, BKr5, CH5⟩
set_option maxHeartbeats 8000000 in
set_option maxRecDepth 100000 in
theorem swap.calls (k : Nat) (x r : S27) (A3 : Option Addr) (c3 : Nat) (A4 : Option Addr) (c4 : Nat) (B : Int) (w : World) (hr3 : Kd.C k76 w A3 x.f3.length x.f3) (hc3 : x.f3.length ≤ c3) (hr4 : Kd.C k27 w A4 x.f4.length x.f4) (hc4 : x.f4.length ≤ c4) (hw : WhB B r) (hs : szT r ≤ 1073741824) (h : touchstoneref5_Copy.f k x.f0 x.f1 x.f2 x.f3 x.f4 = some (r.f0, r.f1, r.f2, r.f3, r.f4)) :
  Calls Try.prog 44 #[.agg #[.int .i64 x.f0, .int .i64 x.f1, .string x.f2, .slice A3 x.f3.length c3, .slice A4 x.f4.length c4]] w fun e w' => ∃ (A3' : Option Addr) (c3' : Nat) (A4' : Option Addr) (c4' : Nat), e = .returned (.agg #[.int .i64 (swT r 0).f0, .int .i64 (swT r 0).f1, .string (swT r 0).f2, .slice A3' (swT r 0).f3.length c3', .slice A4' (swT r 0).f4.length c4']) ∧ (Kd.C k76 w' A3' (swT r 0).f3.length (swT r 0).f3 ∧ (swT r 0).f3.length ≤ c3' ∧ Kd.C k27 w' A4' (swT r 0).f4.length (swT r 0).f4 ∧ (swT r 0).f4.length ≤ c4') ∧ Below w.heap.size w w' := by
 have hu27 := Try.underlying27
 have H3 := aS hr3
 have H3c := aS hc3
 have H4 := aS hr4
 have H4c := aS hc4
 have HW := aS hw
 have HS := aS (show (0 : Int) + szT r ≤ 1073741824 by omega)
 have HK := aS h
 have HB := aS (Below.refl w.heap.size w)
 clear hr3 hc3 hr4 hc4 hw hs h
 go_enter Try.func44, Try.ntmps44
 go_wp2_with (first | ((with_reducible refine gate_dst (N := 1) rfl ?_); refine box_event ?hg (N := 1) ?hd (cs := #[.int .i64 x.f0, .int .i64 x.f1, .string x.f2, .slice A3 x.f3.length c3, .slice A4 x.f4.length c4]) (t := 27) ?hr ?_; (case hd => rfl); (case hg => rfl); (case hr => first | (go_simp; done) | (go_simp; rfl)); intro gt hgt w1 hbox hb1; have GEt : Aside0 (w.heap.size ≤ gt) := ⟨by rw [hgt]; exact below_size (hbk HB)⟩; have HB' := Hs HB hb1; clear HB; have HB := HB'; clear HB'; have BKt := aS hbox; clear hbox hb1 hgt) | ((with_reducible refine gate_dst (N := 2) rfl ?_); refine box_event ?hg (N := 2) ?hd (cs := #[.int .i64 0, .int .i64 0, .string (⟨#[]⟩ : ByteArray), .slice none 0 0, .slice none 0 0]) (t := 27) ?hr ?_; (case hd => rfl); (case hg => rfl); (case hr => first | (go_simp; done) | (go_simp; rfl)); intro gr hgr w2 hbox hb1; have GEr : Aside0 (w.heap.size ≤ gr) := ⟨by rw [hgr]; exact below_size (hbk HB)⟩; have hne : gt ≠ gr := (by rw [hgr]; exact Nat.ne_of_lt (blk_lt (o := .cells #[.int .i64 x.f0, .int .i64 x.f1, .string x.f2, .slice A3 x.f3.length c3, .slice A4 x.f4.length c4] 27 (0, 0)) (bk BKt.out))); have hne2 : gr ≠ gt := hne.symm; have BKt' := Bk BKt hb1; have HB' := Hs HB hb1; clear HB BKt; have HB := HB'; have BKt := BKt'; clear HB' BKt'; have BKr := aS hbox; clear hbox hb1 hgr; have hct_0 := (blk_cell BKt.out 0).trans (rfl : _ = some (Value.int .i64 x.f0)); have hft_0 := blk_frozen BKt.out 0; have hct_1 := (blk_cell BKt.out 1).trans (rfl : _ = some (Value.int .i64 x.f1)); have hft_1 := blk_frozen BKt.out 1; have hct_2 := (blk_cell BKt.out 2).trans (rfl : _ = some (Value.string x.f2)); have hft_2 := blk_frozen BKt.out 2; have hct_3 := (blk_cell BKt.out 3).trans (rfl : _ = some (Value.slice A3 x.f3.length c3)); have hft_3 := blk_frozen BKt.out 3; have hct_4 := (blk_cell BKt.out 4).trans (rfl : _ = some (Value.slice A4 x.f4.length c4)); have hft_4 := blk_frozen BKt.out 4; have hcr_0 := (blk_cell BKr.out 0).trans (rfl : _ = some (Value.int .i64 0)); have hfr_0 := blk_frozen BKr.out 0; have hcr_1 := (blk_cell BKr.out 1).trans (rfl : _ = some (Value.int .i64 0)); have hfr_1 := blk_frozen BKr.out 1; have hcr_2 := (blk_cell BKr.out 2).trans (rfl : _ = some (Value.string (⟨#[]⟩ : ByteArray))); have hfr_2 := blk_frozen BKr.out 2; have hcr_3 := (blk_cell BKr.out 3).trans (rfl : _ = some (Value.slice none 0 0)); have hfr_3 := blk_frozen BKr.out 3; have hcr_4 := (blk_cell BKr.out 4).trans (rfl : _ = some (Value.slice none 0 0)); have hfr_4 := blk_frozen BKr.out 4) | (go_at_call 52; go_must (with_reducible refine (copyS.calls k x.f0 x.f1 x.f2 A3 c3 x.f3 A4 c4 x.f4 r.f0 r.f1 r.f2 r.f3 r.f4 _ ?side1 H3c.out ?side2 H4c.out HK.out).mono ?_); (case side1 => exact Kd.C_below H3.out HB.out); (case side2 => exact Kd.C_below H4.out HB.out); rintro e w3 ⟨v3, v4, rfl, ho3, ho4, hb3⟩; have HBw := aS (below_step HB.out hb3); have BKr' := aS (blk_below BKr.out hb3); have HSZ := aS (blk_lt BKr.out); have HSZ2 := aS (below_size HB.out); have HSZ3 := aS (below_size hb3); clear HB BKr BKt; have HB := HBw; have BKr := BKr'; clear HBw BKr'; obtain ⟨n, ho5⟩ := kS_depth ho4; obtain ⟨A3', c3', rfl⟩ := Kd.R_slice ho3; obtain ⟨A4', c4', rfl⟩ := Kd.R_slice (Kd.S_R ho5); have HO3 := aS ho3; have HO5 := aS ho5; clear ho3 ho4 ho5 hb3) | (go_at_call 93; go_must (with_reducible refine (swapAt.calls n r A3' c3' r.f3.length A4' c4' 0 B _ _ _ HW.out (Int.le_refl 0) HS.out HSZ3.out HO5.out).mono ?_); rintro e w4 ⟨rfl, hs4, hc4⟩; have BKr' := aS ((hc4.below.block gr HSZ.out).trans BKr.out); have HO3' := aS (Kd.R_mono (Kd.R_bound (hc4.R3 HO3.out)) (ok' := fun k_ => w2.heap.size ≤ k_) (fun k_ hk => hk.2.1)); have HO5' := aS (Kd.R_mono (Kd.R_bound (Kd.S_R hs4)) (ok' := fun k_ => some k_ ≠ (Value.slice A3' r.f3.length c3').ownBlock ∧ w2.heap.size ≤ k_) (fun k_ hk => ⟨hk.1, hk.2.1⟩)); have HB' : Aside0 (Below w.heap.size w w4) := ⟨HB.out.trans ⟨hc4.below.os, hc4.below.tape, hc4.below.output, hc4.below.size, fun k_ hk => hc4.below.block k_ (Nat.lt_of_lt_of_le hk HSZ2.out)⟩⟩; clear HB BKr HO3 HO5; have HB := HB'; have BKr := BKr'; have HO3 := HO3'; have HO5 := HO5'; clear HB' BKr' HO3' HO5' hs4 hc4; have hcr_0 := (blk_cell BKr.out 0).trans (rfl : _ = some (Value.int .i64 0)); have hfr_0 := blk_frozen BKr.out 0; have hcr_1 := (blk_cell BKr.out 1).trans (rfl : _ = some (Value.int .i64 0)); have hfr_1 := blk_frozen BKr.out 1; have hcr_2 := (blk_cell BKr.out 2).trans (rfl : _ = some (Value.string (⟨#[]⟩ : ByteArray))); have hfr_2 := blk_frozen BKr.out 2; have hcr_3 := (blk_cell BKr.out 3).trans (rfl : _ = some (Value.slice none 0 0)); have hfr_3 := blk_frozen BKr.out 3; have hcr_4 := (blk_cell BKr.out 4).trans (rfl : _ = some (Value.slice none 0 0)); have hfr_4 := blk_frozen BKr.out 4))
 have f3e : (swT r 0).f3 = r.f3 := by rw [swT_mk]
 refine bodyPost_ret (results_cell_row rfl _ _ gr 27 #[.int .i64 (swT r 0).f0, .int .i64 (swT r 0).f1, .string (swT r 0).f2, .slice A3' r.f3.length c3', .slice A4' r.f4.length c4'] (0, 0) _ rfl (by (with_reducible repeat (first | refine blk_drewN ?_ _ | refine blk_drew ?_ | refine blk_alloc ?_ _)); refine blk_put (cs := #[.int .i64 (swT r 0).f0, .int .i64 (swT r 0).f1, .string (swT r 0).f2, .slice A3' r.f3.length c3', .slice none 0 0]) ?_ 4 _ rfl; (with_reducible repeat (first | refine blk_drewN ?_ _ | refine blk_drew ?_ | refine blk_alloc ?_ _)); refine blk_put (cs := #[.int .i64 (swT r 0).f0, .int .i64 (swT r 0).f1, .string (swT r 0).f2, .slice none 0 0, .slice none 0 0]) ?_ 3 _ rfl; (with_reducible repeat (first | refine blk_drewN ?_ _ | refine blk_drew ?_ | refine blk_alloc ?_ _)); refine blk_put (cs := #[.int .i64 (swT r 0).f0, .int .i64 (swT r 0).f1, .string (⟨#[]⟩ : ByteArray), .slice none 0 0, .slice none 0 0]) ?_ 2 _ rfl; (with_reducible repeat (first | refine blk_drewN ?_ _ | refine blk_drew ?_ | refine blk_alloc ?_ _)); refine blk_put (cs := #[.int .i64 (swT r 0).f0, .int .i64 0, .string (⟨#[]⟩ : ByteArray), .slice none 0 0, .slice none 0 0]) ?_ 1 _ rfl; (with_reducible repeat (first | refine blk_drewN ?_ _ | refine blk_drew ?_ | refine blk_alloc ?_ _)); refine blk_put (cs := #[.int .i64 0, .int .i64 0, .string (⟨#[]⟩ : ByteArray), .slice none 0 0, .slice none 0 0]) ?_ 0 _ rfl; (with_reducible repeat (first | refine blk_drewN ?_ _ | refine blk_drew ?_ | refine blk_alloc ?_ _)); exact BKr.out) Try.underlying27 rfl (by kernel_rfl)) rfl ?_
 have hgr : ∀ k_, w2.heap.size ≤ k_ → k_ ≠ gr := fun k_ hk e => absurd HSZ.out (Nat.not_lt.2 (e ▸ hk))
 have f4l : (swT r 0).f4.length = r.f4.length := by rw [swT_mk]; exact swL_len _ _ _ _
 refine ⟨A3', c3', A4', c4', by rw [f3e, f4l], ?_, ?_⟩
 ·have h3 : Kd.R k76 76 _ w2.heap.size (fun k_ => w2.heap.size ≤ k_) (.slice A3' r.f3.length c3') r.f3 := Kd.R_far (p := ⟨gr, 4, none⟩) (Kd.R_far (p := ⟨gr, 3, none⟩) (Kd.R_far (p := ⟨gr, 2, none⟩) (Kd.R_far (p := ⟨gr, 1, none⟩) (Kd.R_far (p := ⟨gr, 0, none⟩) HO3.out (fun k_ hk => hgr k_ hk) (.int .i64 (swT r 0).f0)) (fun k_ hk => hgr k_ hk) (.int .i64 (swT r 0).f1)) (fun k_ hk => hgr k_ hk) (.string (swT r 0).f2)) (fun k_ hk => hgr k_ hk) (.slice A3' r.f3.length c3')) (fun k_ hk => hgr k_ hk) (.slice A4' r.f4.length c4')
  have h4 : Kd.R (dS n) 27 _ w2.heap.size (fun k_ => some k_ ≠ (Value.slice A3' r.f3.length c3').ownBlock ∧ w2.heap.size ≤ k_) (.slice A4' r.f4.length c4') (swT r 0).f4 := Kd.R_far (p := ⟨gr, 4, none⟩) (Kd.R_far (p := ⟨gr, 3, none⟩) (Kd.R_far (p := ⟨gr, 2, none⟩) (Kd.R_far (p := ⟨gr, 1, none⟩) (Kd.R_far (p := ⟨gr, 0, none⟩) HO5.out (fun k_ hk => hgr k_ hk.2) (.int .i64 (swT r 0).f0)) (fun k_ hk => hgr k_ hk.2) (.int .i64 (swT r 0).f1)) (fun k_ hk => hgr k_ hk.2) (.string (swT r 0).f2)) (fun k_ hk => hgr k_ hk.2) (.slice A3' r.f3.length c3')) (fun k_ hk => hgr k_ hk.2) (.slice A4' r.f4.length c4')
  have e3 := Kd.R_reads' h3
  have e4 := Kd.R_reads' h4
  rw [f3e]
  refine ⟨e3.2.2, e3.2.1, ?_, ?_⟩
  ·exact dS_C e4.2.2
  ·rw [f4l]; exact e4.2.1
 ·exact (hbk HB)
end Go.Proofs.Ytpejhapgffcngaa.QK

