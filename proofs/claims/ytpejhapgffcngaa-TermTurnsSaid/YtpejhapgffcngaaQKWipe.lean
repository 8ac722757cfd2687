/- touchstonelaw5.wipe (function 55). -/
import Derived.Test.YtpejhapgffcngaaXShort
import Derived.Test.YtpejhapgffcngaaQKWipe0
import Derived.Deep.DeepMust
set_option linter.unusedVariables false
set_option linter.unusedSimpArgs false
namespace Go.Proofs.Ytpejhapgffcngaa.QK
open Go.RowKit Go.Proofs.YtpejhapgffcngaaW.PrintWords Go.Proofs.YtpejhapgffcngaaW.PrintLast Go.Proofs.YtpejhapgffcngaaW.PrintMore
@[reducible] def WpC (m : Nat) : Prop := ∀ (x0 x1 : Int) (x2 : ByteArray) (A3 : Option Addr) (n3 c3 : Nat) (A4 : Option Addr) (n4 c4 b e : Nat) (w : World), b ≤ w.heap.size → e ≤ w.heap.size → LG w b e (.slice A3 n3 c3) → TG w b e m (.slice A4 n4 c4) →
  Calls Try.prog 55 #[.agg #[.int .i64 x0, .int .i64 x1, .string x2, .slice A3 n3 c3, .slice A4 n4 c4]] w fun z w' => z = .returned (.tuple #[]) ∧ Wp b e w w'
set_option maxHeartbeats 4000000 in
set_option maxRecDepth 100000 in
theorem wipe.calls (m : Nat) : WpC m := by
 induction m using Nat.strongRecOn with
 | _ m ih =>
 intro x0 x1 x2 A3 n3 c3 A4 n4 c4 b e w hbe he hl ht
 have hu27 := Try.underlying27
 have hu76 := Try.underlying76
 have HBE := aS hbe
 have HEW := aS he
 have HL0 := aS hl
 have HT0 := aS ht
 have K3 := aS hl.len
 have K4 := aS ht.len
 clear hbe he hl ht
 go_enter Try.func55, Try.ntmps55
 go_wp2_with (first | ((with_reducible refine gate_dst (N := 1) rfl ?_); refine bx (N := 1) (t := 27) #[.int .i64 x0, .int .i64 x1, .string x2, .slice A3 n3 c3, .slice A4 n4 c4] ?_; intro gt hgt w1 hbox hb; have BKt := aS hbox; have GEt : Aside0 (w.heap.size ≤ gt) := ⟨by rw [hgt]; exact Nat.le_refl _⟩; have HW := aS (Wp.of_below (e := e) hb HBE.out); clear hbox hb hgt))
 go_loopg [2] n4 (fun kq v2 w' => ∃ (j : Int), v2 = .int .i64 j ∧ Aside0 (0 ≤ j ∧ j ≤ n4 ∧ (kq : Int) + j = n4) ∧ Aside0 (w'.heap[gt]? = some (.cells #[.int .i64 x0, .int .i64 x1, .string x2, .slice A3 n3 c3, .slice A4 n4 c4] 27 (0, 0))) ∧ Aside0 (Wp b e w w'))
 case atStart => exact ⟨0, br, ⟨by omega⟩, BKt, HW⟩
 case round =>
  clear BKt HW
  obtain ⟨j, rfl, HJ, BKt, HW⟩ := hrel
  obtain ⟨hct_0, hct_1, hct_2, hct_3, hct_4⟩ := cl5 BKt
  by_cases c8 : j < (n4 : Int)
  ·have c9 : 0 ≤ j := HJ.out.1
   obtain ⟨k1, hk1⟩ : ∃ k1, gk = k1 + 1 := ⟨gk - 1, by have := HJ.out; omega⟩
   have HK1 := aS hk1
   clear hk1
   have ej : wrap64 (j + 1) = j + 1 := by have := K4.out; unfold wrap64; omega
   have HT := aS (HW.out.tg _ _ HT0.out)
   have HES : Aside0 (e ≤ wr.heap.size) := ⟨Nat.le_trans HEW.out HW.out.below.size⟩
   have HBS : Aside0 (b ≤ wr.heap.size) := ⟨Nat.le_trans HBE.out HW.out.below.size⟩
   obtain ⟨m', g, ad, cur, i0, i1, s, B3, k3, d3, B4, k4, d4, hm', hA4, had', hg', hh', hf', ⟨hx0, hx1, hx2, hx3, hx4⟩, hfr, hl3, hl4⟩ := TG.elem HT.out j c9 c8
   have hm := aS hm'
   have HL := aS hl3
   have HTm := aS hl4
   subst had'
   subst hA4
   simp only [add_at, Nat.zero_add] at hx0 hx1 hx2 hx3 hx4
   clear hm' hg' hh' hf' hfr hl3 hl4
   have C8 := aS c8
   have C9 := aS c9
   replace c8 := eq_true c8
   replace c9 := eq_true c9
   go_wp2_with (first | (go_at_call 55; go_must ((with_reducible refine (ih m' (by rw [hm.out]; exact Nat.lt_succ_self m') i0 i1 s B3 k3 d3 B4 k4 d4 b e _ HBS.out HES.out HL.out HTm.out).mono ?_); rintro z w5 ⟨rfl, hw5⟩; have HW5 := aS hw5; clear hw5; have BKt5 := aS ((HW5.out.out gt (blk_lt BKt.out) (Nat.le_trans HEW.out GEt.out)).trans BKt.out); obtain ⟨m2, g2, ad2, cur2, j0, j1, s2, E3, f3, h3, E4, f4, h4, hm2, hA2, had2, hg2, hh2, hf2, ⟨hy0, hy1, hy2, hy3, hy4⟩, hfr2, _, _⟩ := TG.elem (HW5.out.tg _ _ HT.out) j C9.out C8.out; subst had2; obtain rfl : g = g2 := (by injection hA2 with hA2; injection hA2); simp only [add_at, Nat.zero_add] at hy0 hy1 hy2 hy3 hy4 hfr2; have hz0 := hfr2 (j.toNat * 5); have hz1 := hfr2 (j.toNat * 5 + 1); have hz2 := hfr2 (j.toNat * 5 + 2); have hz3 := hfr2 (j.toNat * 5 + 3); have hz4 := hfr2 (j.toNat * 5 + 4); have HH2 := aS hh2; have HF2 := aS hf2; have HG2 := aS hg2; clear hh2 hg2 hf2 hm2 hA2 hfr2; obtain ⟨hcu_0, hcu_1, hcu_2, hcu_3, hcu_4⟩ := cl5 BKt5)))
   have HW6 := aS ((HW.out.trans HW5.out).trans (Wp.wipe5 (p := j.toNat * 5) HH2.out HG2.out.1 HG2.out.2 (by omega)))
   have BKt6 := aS (((Wp.wipe5 (p := j.toNat * 5) HH2.out HG2.out.1 HG2.out.2 (by omega)).out gt (blk_lt BKt5.out) (Nat.le_trans HEW.out GEt.out)).trans BKt5.out)
   go_roundg k1
   case measure => have := HK1.out; omega
   case rel => exact ⟨j + 1, br, ⟨by have := HJ.out; have := C8.out; have := HK1.out; omega⟩, BKt6, HW6⟩
  have c8b := decide_eq_false c8
  go_wp2
  clear HJ
  go_loopg [3] n3 (fun kq v3 w' => ∃ (j : Int), v3 = .int .i64 j ∧ Aside0 (0 ≤ j ∧ j ≤ n3 ∧ (kq : Int) + j = n3) ∧ Aside0 (w'.heap[gt]? = some (.cells #[.int .i64 x0, .int .i64 x1, .string x2, .slice A3 n3 c3, .slice A4 n4 c4] 27 (0, 0))) ∧ Aside0 (Wp b e w w'))
  case atStart => exact ⟨0, br, ⟨by omega⟩, BKt, HW⟩
  case round =>
   clear c8b c8
   clear BKt HW hct_0 hct_1 hct_2 hct_3 hct_4
   obtain ⟨j, rfl, HJ, BKt, HW⟩ := hrel
   obtain ⟨hct_0, hct_1, hct_2, hct_3, hct_4⟩ := cl5 BKt
   by_cases c8 : j < (n3 : Int)
   rotate_left
   ·have c8b := decide_eq_false c8
    go_wp2
    ((try simp only [Exit.inBlock, Exit.then]); refine bodyPost_end (results_none rfl _ _ _) rfl ?_)
    exact ⟨rfl, HW.out⟩
   have c9 : 0 ≤ j := HJ.out.1
   obtain ⟨k1, hk1⟩ : ∃ k1, gk = k1 + 1 := ⟨gk - 1, by have := HJ.out; omega⟩
   have HK1 := aS hk1
   clear hk1
   have ej : wrap64 (j + 1) = j + 1 := by have := K3.out; unfold wrap64; omega
   obtain ⟨g, ad, cur, hA, had, hg, hh, hf⟩ := LG.elem (HW.out.lg _ HL0.out) j c9 c8
   subst had
   subst hA
   obtain ⟨q0, hq0⟩ : ∃ q, wr.cell? ⟨g, j.toNat * 3, none⟩ = some q := ⟨_, (blk_cell hh _).trans (Array.getElem?_eq_getElem (by omega))⟩
   obtain ⟨q1, hq1⟩ : ∃ q, wr.cell? ⟨g, j.toNat * 3 + 1, none⟩ = some q := ⟨_, (blk_cell hh _).trans (Array.getElem?_eq_getElem (by omega))⟩
   obtain ⟨q2, hq2⟩ : ∃ q, wr.cell? ⟨g, j.toNat * 3 + 2, none⟩ = some q := ⟨_, (blk_cell hh _).trans (Array.getElem?_eq_getElem (by omega))⟩
   have hz0 := blk_frozen hh (j.toNat * 3)
   have hz1 := blk_frozen hh (j.toNat * 3 + 1)
   have hz2 := blk_frozen hh (j.toNat * 3 + 2)
   have HH := aS hh
   have HG := aS hg
   have C8 := aS c8
   clear hh hg hf
   replace c8 := eq_true c8
   replace c9 := eq_true c9
   go_wp2
   have HW6 := aS (HW.out.trans (Wp.wipe3 (p := j.toNat * 3) HH.out HG.out.1 HG.out.2 (.int .i64 77) (.int .i64 0) (.slice none 0 0)))
   have BKt6 := aS (((Wp.wipe3 (b := b) (e := e) (p := j.toNat * 3) HH.out HG.out.1 HG.out.2 (.int .i64 77) (.int .i64 0) (.slice none 0 0)).out gt (blk_lt BKt.out) (Nat.le_trans HEW.out GEt.out)).trans BKt.out)
   go_roundg k1
   case measure => have := HK1.out; omega
   case rel => exact ⟨j + 1, br, ⟨by have := HJ.out; have := C8.out; have := HK1.out; omega⟩, BKt6, HW6⟩
end Go.Proofs.Ytpejhapgffcngaa.QK

