/- term.through: a counter by pointer; term.Whole. -/
import Derived.Test.YtpejhapgffcngaaXShort
import Derived.Test.YtpejhapgffcngaaQKSize
import Derived.Test.YtpejhapgffcngaaQKWhole
set_option linter.unusedVariables false
set_option linter.unusedSimpArgs false
namespace Go.Proofs.Ytpejhapgffcngaa.QK
open Go.RowKit Go.Proofs.YtpejhapgffcngaaW.PrintWords Go.Proofs.YtpejhapgffcngaaW.PrintLast Go.Proofs.YtpejhapgffcngaaW.PrintMore
attribute [local go_sem] max2_int min2_int max_two min_two max_three min_three max_four min_four
mutual
def through.l0 : Nat → List (S27) → Int → Int → Int → Option (Int × Bool)
 | 0, _, _, _, _ => none
 | k + 1, xs, i, n, most => if i < (xs.length : Int) then (if 0 ≤ i then ((through.f k (rd_T27 xs i) n most).bind fun p => if p.2 = false then some (p.1, false) else if p.1 > most then some (p.1, true) else through.l0 k xs (wrap64 (i + 1)) p.1 most) else none) else some (n, true)
def through.f : Nat → S27 → Int → Int → Option (Int × Bool)
 | 0, _, _, _ => none
 | k + 1, x, n, most => if wrap64 (n + 1) > most then some (wrap64 (n + 1), true) else if partB x.f0 x.f1 x.f2 x.f3.length x.f4.length = false then some (wrap64 (n + 1), false) else through.l0 k x.f4 0 (wrap64 (n + 1)) most
end
set_option maxHeartbeats 8000000 in
set_option maxRecDepth 100000 in
theorem through.calls (k : Nat) : ∀ (x : S27) (A0_3 : Option Addr) (c0_3 : Nat) (A0_4 : Option Addr) (c0_4 : Nat) (g : Nat) (n most : Int) (r : Int × Bool) (w : World) (hg : w.heap[g]? = some (.cells #[.int .i64 n] 3 (0, 0))) (hr0_4 : ∀ W, KB1 w W g → Kd.C k27 W A0_4 x.f4.length x.f4) (h : through.f k x n most = some r),
  Calls Try.prog 121 #[.agg #[.int .i64 x.f0, .int .i64 x.f1, .string x.f2, .slice A0_3 x.f3.length c0_3, .slice A0_4 x.f4.length c0_4], .pointer (some ⟨g, 0, none⟩), .int .i64 most] w fun e w' => e = .returned (.bool r.2) ∧ w'.heap[g]? = some (.cells #[.int .i64 r.1] 3 (0, 0)) ∧ KB1 w w' g := by
 induction k using Nat.strongRecOn with
 | _ k ih =>
 intro x A0_3 c0_3 A0_4 c0_4 g n most r w hg hr0_4 h
 cases k with
 | zero => exact absurd h (by simp [through.f])
 | succ k =>
 simp only [through.f] at h
 have hu27 := Try.underlying27
 have HR := aS hr0_4
 have HG := aS hg
 clear hr0_4 hg
 by_cases c1 : wrap64 (n + 1) > most
 ·rw [if_pos c1] at h
  obtain rfl := Option.some.inj h
  have c1b : decide (most < wrap64 (n + 1)) = true := decide_eq_true c1
  clear c1 h
  go_enter Try.func121, Try.ntmps121
  go_wp2_with (first | ((with_reducible refine gate_dst (N := 3) rfl ?_); refine bx (N := 3) (t := 27) #[.int .i64 x.f0, .int .i64 x.f1, .string x.f2, .slice A0_3 x.f3.length c0_3, .slice A0_4 x.f4.length c0_4] ?_; intro gt hgt w1 hbox hb; have hne : gt ≠ g := (by rw [hgt]; exact Nat.ne_of_gt (blk_lt HG.out)); have n0_ := aS (KB1.of_below hb g); have n1_ := aS (blk_below HG.out hb); have hcg := cell_of_one n1_.out; have hfg := free_of_one n1_.out; have n2_ : Aside0 ((w1.setCell ⟨g, 0, none⟩ (.int .i64 (wrap64 (n + 1)))).heap[g]? = some (.cells #[.int .i64 (wrap64 (n + 1))] 3 (0, 0))) := ⟨one_setCell n1_.out⟩; have n3_ : Aside0 ((w1.setCell ⟨g, 0, none⟩ (.int .i64 (wrap64 (n + 1)))).heap[gt]? = some (.cells #[.int .i64 x.f0, .int .i64 x.f1, .string x.f2, .slice A0_3 x.f3.length c0_3, .slice A0_4 x.f4.length c0_4] 27 (0, 0))) := ⟨blk_far hbox hne _⟩; have n4_ : Aside0 (KB1 w (w1.setCell ⟨g, 0, none⟩ (.int .i64 (wrap64 (n + 1)))) g) := ⟨KB1.set_ n0_.out 0 _⟩; have hcg2 := cell_of_one n2_.out; obtain ⟨hct_0, hct_1, hct_2, hct_3, hct_4⟩ := cl5 n3_; clear hb hbox hgt))
  go_ret
  exact ⟨rfl, n2_.out, n4_.out⟩
 rw [if_neg c1] at h
 have c1b : decide (most < wrap64 (n + 1)) = false := decide_eq_false c1
 clear c1
 by_cases c2 : partB x.f0 x.f1 x.f2 x.f3.length x.f4.length = false
 ·rw [if_pos c2] at h
  obtain rfl := Option.some.inj h
  clear h
  go_enter Try.func121, Try.ntmps121
  go_wp2_with (first | ((with_reducible refine gate_dst (N := 3) rfl ?_); refine bx (N := 3) (t := 27) #[.int .i64 x.f0, .int .i64 x.f1, .string x.f2, .slice A0_3 x.f3.length c0_3, .slice A0_4 x.f4.length c0_4] ?_; intro gt hgt w1 hbox hb; have hne : gt ≠ g := (by rw [hgt]; exact Nat.ne_of_gt (blk_lt HG.out)); have n0_ := aS (KB1.of_below hb g); have n1_ := aS (blk_below HG.out hb); have hcg := cell_of_one n1_.out; have hfg := free_of_one n1_.out; have n2_ : Aside0 ((w1.setCell ⟨g, 0, none⟩ (.int .i64 (wrap64 (n + 1)))).heap[g]? = some (.cells #[.int .i64 (wrap64 (n + 1))] 3 (0, 0))) := ⟨one_setCell n1_.out⟩; have n3_ : Aside0 ((w1.setCell ⟨g, 0, none⟩ (.int .i64 (wrap64 (n + 1)))).heap[gt]? = some (.cells #[.int .i64 x.f0, .int .i64 x.f1, .string x.f2, .slice A0_3 x.f3.length c0_3, .slice A0_4 x.f4.length c0_4] 27 (0, 0))) := ⟨blk_far hbox hne _⟩; have n4_ : Aside0 (KB1 w (w1.setCell ⟨g, 0, none⟩ (.int .i64 (wrap64 (n + 1)))) g) := ⟨KB1.set_ n0_.out 0 _⟩; have hcg2 := cell_of_one n2_.out; obtain ⟨hct_0, hct_1, hct_2, hct_3, hct_4⟩ := cl5 n3_; clear hb hbox hgt) | (go_at_call 141; (with_reducible refine (whole_calls x.f0 x.f1 x.f2 A0_3 c0_3 x.f3 A0_4 c0_4 x.f4 _).mono ?_); rintro e w3 ⟨rfl, hb⟩; have n5_ := aS (blk_below n2_.out hb); have n6_ := aS (blk_below n3_.out hb); have n7_ := aS (n4_.out.trans (KB1.of_below hb g)); obtain ⟨hcu_0, hcu_1, hcu_2, hcu_3, hcu_4⟩ := cl5 n6_; clear hb))
  go_ret
  exact ⟨rfl, n5_.out, n7_.out⟩
 rw [if_neg c2] at h
 replace c2 : partB x.f0 x.f1 x.f2 x.f3.length x.f4.length = true := by simpa using c2
 have H' := aS h
 clear h
 go_enter Try.func121, Try.ntmps121
 go_wp2_with (first | ((with_reducible refine gate_dst (N := 3) rfl ?_); refine bx (N := 3) (t := 27) #[.int .i64 x.f0, .int .i64 x.f1, .string x.f2, .slice A0_3 x.f3.length c0_3, .slice A0_4 x.f4.length c0_4] ?_; intro gt hgt w1 hbox hb; have hne : gt ≠ g := (by rw [hgt]; exact Nat.ne_of_gt (blk_lt HG.out)); have n0_ := aS (KB1.of_below hb g); have n1_ := aS (blk_below HG.out hb); have hcg := cell_of_one n1_.out; have hfg := free_of_one n1_.out; have n2_ : Aside0 ((w1.setCell ⟨g, 0, none⟩ (.int .i64 (wrap64 (n + 1)))).heap[g]? = some (.cells #[.int .i64 (wrap64 (n + 1))] 3 (0, 0))) := ⟨one_setCell n1_.out⟩; have n3_ : Aside0 ((w1.setCell ⟨g, 0, none⟩ (.int .i64 (wrap64 (n + 1)))).heap[gt]? = some (.cells #[.int .i64 x.f0, .int .i64 x.f1, .string x.f2, .slice A0_3 x.f3.length c0_3, .slice A0_4 x.f4.length c0_4] 27 (0, 0))) := ⟨blk_far hbox hne _⟩; have n4_ : Aside0 (KB1 w (w1.setCell ⟨g, 0, none⟩ (.int .i64 (wrap64 (n + 1)))) g) := ⟨KB1.set_ n0_.out 0 _⟩; have hcg2 := cell_of_one n2_.out; obtain ⟨hct_0, hct_1, hct_2, hct_3, hct_4⟩ := cl5 n3_; clear hb hbox hgt) | (go_at_call 141; (with_reducible refine (whole_calls x.f0 x.f1 x.f2 A0_3 c0_3 x.f3 A0_4 c0_4 x.f4 _).mono ?_); rintro e w3 ⟨rfl, hb⟩; have n5_ := aS (blk_below n2_.out hb); have n6_ := aS (blk_below n3_.out hb); have n7_ := aS (n4_.out.trans (KB1.of_below hb g)); obtain ⟨hcu_0, hcu_1, hcu_2, hcu_3, hcu_4⟩ := cl5 n6_; clear hb))
 go_loopg [25] k (fun kq v21 w' => ∃ (j n1 : Int), v21 = .int .i64 j ∧ Aside0 (through.l0 kq x.f4 j n1 most = some r) ∧ Aside0 (kq ≤ k) ∧ Aside0 (w'.heap[gt]? = some (.cells #[.int .i64 x.f0, .int .i64 x.f1, .string x.f2, .slice A0_3 x.f3.length c0_3, .slice A0_4 x.f4.length c0_4] 27 (0, 0))) ∧ Aside0 (w'.heap[g]? = some (.cells #[.int .i64 n1] 3 (0, 0))) ∧ Aside0 (KB1 w w' g))
 case atStart => exact ⟨0, wrap64 (n + 1), br, H', ⟨Nat.le_refl _⟩, n6_, n5_, n7_⟩
 case round =>
  clear H'
  try clear hcg hfg hcg2 c1b c2
  try clear hct_0 hct_1 hct_2 hct_3 hct_4
  try clear hcu_0 hcu_1 hcu_2 hcu_3 hcu_4
  try clear n0_ n1_ n2_ n3_ n4_ n5_ n6_ n7_
  obtain ⟨j, n1, rfl, HA, HK1, BKt, BKg, KB⟩ := hrel
  cases gk with
  | zero => exact absurd HA.out (by simp [through.l0])
  | succ k1 =>
   have H := HA.out
   clear HA
   simp only [through.l0] at H
   by_cases c8 : j < (x.f4.length : Int)
   rotate_left
   ·rw [if_neg c8] at H
    have c8b := decide_eq_false c8
    clear c8
    obtain rfl := Option.some.inj H
    go_wp2
    go_ret
    exact ⟨rfl, BKg.out, KB.out⟩
   rw [if_pos c8] at H
   have c8b := decide_eq_true c8
   by_cases c9 : 0 ≤ j
   rotate_left
   ·rw [if_neg c9] at H
    cases H
   rw [if_pos c9] at H
   have c9b := decide_eq_true c9
   replace H := Option.bind_eq_some_iff.mp H
   obtain ⟨⟨m1, b1⟩, A1, H⟩ := H
   try dsimp only at H
   have A1_ := aS A1
   clear A1
   obtain ⟨ad, A3, c3, A4, c4, e1, hx0, hx1, hx2, hx3, hx4, l4, G3, G4⟩ := foot_T27 (fun W hW => HR.out W (KB.out.trans hW)) BKg.out j c9 c8
   cases e1
   have HG4 := aS G4
   clear G3 G4
   replace c8 := eq_true c8
   replace c9 := eq_true c9
   go_wp2_with (first | ((with_reducible refine gate_dst (N := 8) rfl ?_); refine bx (N := 8) (t := 27) #[.int .i64 0, .int .i64 0, .string (⟨#[]⟩ : ByteArray), .slice none 0 0, .slice none 0 0] ?_; intro gb hgb w5 hbox hb; have hgw : wr.heap.size ≤ gb := (by rw [hgb]; exact Nat.le_refl _); have hnb : gb ≠ g := (by rw [hgb]; exact Nat.ne_of_gt (blk_lt BKg.out)); have hnt : gb ≠ gt := (by rw [hgb]; exact Nat.ne_of_gt (blk_lt BKt.out)); have hge : w.heap.size ≤ gb := (by rw [hgb]; exact keep_size KB.out.keep); have n0_ := aS (blk_below BKt.out hb); have n1_ := aS (blk_below BKg.out hb); have n2_ := aS (KB.out.trans (KB1.of_below hb g)); have n3_ : Aside0 ((((((w5.setCell ⟨gb, 0, none⟩ (.int .i64 ((rd_T27 x.f4 j).f0))).setCell ⟨gb, 1, none⟩ (.int .i64 ((rd_T27 x.f4 j).f1))).setCell ⟨gb, 2, none⟩ (.string ((rd_T27 x.f4 j).f2))).setCell ⟨gb, 3, none⟩ (.slice A3 ((rd_T27 x.f4 j).f3).length c3)).setCell ⟨gb, 4, none⟩ (.slice A4 ((rd_T27 x.f4 j).f4).length c4)).heap[gb]? = some (.cells #[.int .i64 ((rd_T27 x.f4 j).f0), .int .i64 ((rd_T27 x.f4 j).f1), .string ((rd_T27 x.f4 j).f2), .slice A3 ((rd_T27 x.f4 j).f3).length c3, .slice A4 ((rd_T27 x.f4 j).f4).length c4] 27 (0, 0))) := ⟨by refine blk_put (cs := #[.int .i64 ((rd_T27 x.f4 j).f0), .int .i64 ((rd_T27 x.f4 j).f1), .string ((rd_T27 x.f4 j).f2), .slice A3 ((rd_T27 x.f4 j).f3).length c3, .slice none 0 0]) ?_ 4 _ rfl; refine blk_put (cs := #[.int .i64 ((rd_T27 x.f4 j).f0), .int .i64 ((rd_T27 x.f4 j).f1), .string ((rd_T27 x.f4 j).f2), .slice none 0 0, .slice none 0 0]) ?_ 3 _ rfl; refine blk_put (cs := #[.int .i64 ((rd_T27 x.f4 j).f0), .int .i64 ((rd_T27 x.f4 j).f1), .string (⟨#[]⟩ : ByteArray), .slice none 0 0, .slice none 0 0]) ?_ 2 _ rfl; refine blk_put (cs := #[.int .i64 ((rd_T27 x.f4 j).f0), .int .i64 0, .string (⟨#[]⟩ : ByteArray), .slice none 0 0, .slice none 0 0]) ?_ 1 _ rfl; refine blk_put (cs := #[.int .i64 0, .int .i64 0, .string (⟨#[]⟩ : ByteArray), .slice none 0 0, .slice none 0 0]) ?_ 0 _ rfl; exact hbox⟩; have n4_ : Aside0 ((((((w5.setCell ⟨gb, 0, none⟩ (.int .i64 ((rd_T27 x.f4 j).f0))).setCell ⟨gb, 1, none⟩ (.int .i64 ((rd_T27 x.f4 j).f1))).setCell ⟨gb, 2, none⟩ (.string ((rd_T27 x.f4 j).f2))).setCell ⟨gb, 3, none⟩ (.slice A3 ((rd_T27 x.f4 j).f3).length c3)).setCell ⟨gb, 4, none⟩ (.slice A4 ((rd_T27 x.f4 j).f4).length c4)).heap[gt]? = some (.cells #[.int .i64 x.f0, .int .i64 x.f1, .string x.f2, .slice A0_3 x.f3.length c0_3, .slice (some ad) x.f4.length c0_4] 27 (0, 0))) := ⟨by refine blk_far ?_ hnt.symm _; refine blk_far ?_ hnt.symm _; refine blk_far ?_ hnt.symm _; refine blk_far ?_ hnt.symm _; refine blk_far ?_ hnt.symm _; exact n0_.out⟩; have n5_ : Aside0 ((((((w5.setCell ⟨gb, 0, none⟩ (.int .i64 ((rd_T27 x.f4 j).f0))).setCell ⟨gb, 1, none⟩ (.int .i64 ((rd_T27 x.f4 j).f1))).setCell ⟨gb, 2, none⟩ (.string ((rd_T27 x.f4 j).f2))).setCell ⟨gb, 3, none⟩ (.slice A3 ((rd_T27 x.f4 j).f3).length c3)).setCell ⟨gb, 4, none⟩ (.slice A4 ((rd_T27 x.f4 j).f4).length c4)).heap[g]? = some (.cells #[.int .i64 n1] 3 (0, 0))) := ⟨by refine blk_far ?_ hnb.symm _; refine blk_far ?_ hnb.symm _; refine blk_far ?_ hnb.symm _; refine blk_far ?_ hnb.symm _; refine blk_far ?_ hnb.symm _; exact n1_.out⟩; have n6_ : Aside0 (KB1 w (((((w5.setCell ⟨gb, 0, none⟩ (.int .i64 ((rd_T27 x.f4 j).f0))).setCell ⟨gb, 1, none⟩ (.int .i64 ((rd_T27 x.f4 j).f1))).setCell ⟨gb, 2, none⟩ (.string ((rd_T27 x.f4 j).f2))).setCell ⟨gb, 3, none⟩ (.slice A3 ((rd_T27 x.f4 j).f3).length c3)).setCell ⟨gb, 4, none⟩ (.slice A4 ((rd_T27 x.f4 j).f4).length c4)) g) := ⟨by refine KB1.far ?_ hge _; refine KB1.far ?_ hge _; refine KB1.far ?_ hge _; refine KB1.far ?_ hge _; refine KB1.far ?_ hge _; exact n2_.out⟩; have hcy_0 := (blk_cell hbox 0).trans (rfl : _ = some (Value.int .i64 0)); have hcy_1 := (blk_cell hbox 1).trans (rfl : _ = some (Value.int .i64 0)); have hcy_2 := (blk_cell hbox 2).trans (rfl : _ = some (Value.string (⟨#[]⟩ : ByteArray))); have hcy_3 := (blk_cell hbox 3).trans (rfl : _ = some (Value.slice none 0 0)); have hcy_4 := (blk_cell hbox 4).trans (rfl : _ = some (Value.slice none 0 0)); have hfy_0 := blk_frozen hbox 0; have hfy_1 := blk_frozen hbox 1; have hfy_2 := blk_frozen hbox 2; have hfy_3 := blk_frozen hbox 3; have hfy_4 := blk_frozen hbox 4; have hcz_0 := (blk_cell n3_.out 0).trans (rfl : _ = some (Value.int .i64 ((rd_T27 x.f4 j).f0))); have hcz_1 := (blk_cell n3_.out 1).trans (rfl : _ = some (Value.int .i64 ((rd_T27 x.f4 j).f1))); have hcz_2 := (blk_cell n3_.out 2).trans (rfl : _ = some (Value.string ((rd_T27 x.f4 j).f2))); have hcz_3 := (blk_cell n3_.out 3).trans (rfl : _ = some (Value.slice A3 ((rd_T27 x.f4 j).f3).length c3)); have hcz_4 := (blk_cell n3_.out 4).trans (rfl : _ = some (Value.slice A4 ((rd_T27 x.f4 j).f4).length c4)); have KB6 : Aside0 (KB1 wr (((((w5.setCell ⟨gb, 0, none⟩ (.int .i64 ((rd_T27 x.f4 j).f0))).setCell ⟨gb, 1, none⟩ (.int .i64 ((rd_T27 x.f4 j).f1))).setCell ⟨gb, 2, none⟩ (.string ((rd_T27 x.f4 j).f2))).setCell ⟨gb, 3, none⟩ (.slice A3 ((rd_T27 x.f4 j).f3).length c3)).setCell ⟨gb, 4, none⟩ (.slice A4 ((rd_T27 x.f4 j).f4).length c4)) g) := ⟨by refine KB1.far ?_ hgw _; refine KB1.far ?_ hgw _; refine KB1.far ?_ hgw _; refine KB1.far ?_ hgw _; refine KB1.far ?_ hgw _; exact KB1.of_below hb g⟩; clear hb hbox hgb))
   ((with_reducible refine (ih k1 (by have := HK1.out; omega) (rd_T27 x.f4 j) A3 c3 A4 c4 g n1 most (m1, b1) _ n5_.out ?side1 A1_.out).mono ?_); (case side1 => exact fun W hW => HG4.out W (KB6.out.trans hW)); rintro e w7 ⟨rfl, hg7, hk7⟩)
   have n7_ := aS hg7
   have n8_ := aS (hk7.keep.blk n4_.out hne (by simp))
   have n9_ := aS (n6_.out.trans hk7)
   have hcg7 : w7.cell? ⟨g, 0, none⟩ = some (.int .i64 m1) := cell_of_one hg7
   cases b1 with
   | false =>
    rw [if_pos rfl] at H
    obtain rfl := Option.some.inj H
    go_wp2
    go_ret
    exact ⟨rfl, n7_.out, n9_.out⟩
   | true =>
   rw [if_neg (by decide)] at H
   by_cases c10 : m1 > most
   ·rw [if_pos c10] at H
    have c10b : decide (most < m1) = true := decide_eq_true c10
    clear c10
    obtain rfl := Option.some.inj H
    go_wp2
    go_ret
    exact ⟨rfl, n7_.out, n9_.out⟩
   rw [if_neg c10] at H
   have c10b : decide (most < m1) = false := decide_eq_false c10
   clear c10
   have H' := aS H
   clear H
   go_wp2
   go_roundg k1
   case measure => have := HK1.out; omega
   case rel => exact ⟨(wrap64 (j + 1)), m1, br, H', ⟨by have := HK1.out; omega⟩, n8_, n7_, n9_⟩
def term_Whole.f (k : Nat) (a0_0 : Int) (a0_1 : Int) (a0_2 : ByteArray) (l0_3 : List (S76)) (l0_4 : List (S27)) (a1 : Int) : Option (Int × Bool) := through.f k ⟨a0_0, a0_1, a0_2, l0_3, l0_4⟩ 0 a1
set_option maxHeartbeats 8000000 in
set_option maxRecDepth 100000 in
theorem term_Whole.calls (k : Nat) (a0_0 : Int) (a0_1 : Int) (a0_2 : ByteArray) (A0_3 : Option Addr) (c0_3 : Nat) (l0_3 : List (S76)) (A0_4 : Option Addr) (c0_4 : Nat) (l0_4 : List (S27)) (a1 : Int) (r1 : Int) (r2 : Bool) (w : World) (hr0_3 : Kd.C k76 w A0_3 l0_3.length l0_3) (hc0_3 : l0_3.length ≤ c0_3) (hr0_4 : Kd.C k27 w A0_4 l0_4.length l0_4) (hc0_4 : l0_4.length ≤ c0_4) (h : term_Whole.f k a0_0 a0_1 a0_2 l0_3 l0_4 a1 = some (r1, r2)) :
  Calls Try.prog 97 #[.agg #[.int .i64 a0_0, .int .i64 a0_1, .string a0_2, .slice A0_3 l0_3.length c0_3, .slice A0_4 l0_4.length c0_4], .int .i64 a1] w fun e w' => e = .returned (.tuple #[.int .i64 r1, .bool r2]) ∧ Below w.heap.size w w' := by
 have hu27 := Try.underlying27
 have HR := aS hr0_4
 clear hr0_3 hc0_3 hr0_4 hc0_4
 have H : Aside0 (through.f k ⟨a0_0, a0_1, a0_2, l0_3, l0_4⟩ 0 a1 = some (r1, r2)) := ⟨h⟩
 clear h
 go_enter Try.func97, Try.ntmps97
 go_wp2_with (first | ((with_reducible refine gate_dst (N := 2) rfl ?_); refine bx (N := 2) (t := 27) #[.int .i64 a0_0, .int .i64 a0_1, .string a0_2, .slice A0_3 l0_3.length c0_3, .slice A0_4 l0_4.length c0_4] ?_; intro gt hgt w1 hbox hb; have BKt := aS hbox; have HB1 := aS hb; clear hb hbox hgt) | ((with_reducible refine gate_dst (N := 6) rfl ?_); refine bx (N := 6) (t := 3) #[.int .i64 0] ?_; intro g hgt w2 hbox hb; have hne : gt ≠ g := (by rw [hgt]; exact Nat.ne_of_lt (blk_lt BKt.out)); have hge : w.heap.size ≤ g := (by rw [hgt]; exact below_size HB1.out); have hcg := cell_of_one hbox; have hfg := free_of_one hbox; have n1_ : Aside0 ((w2.setCell ⟨g, 0, none⟩ (.int .i64 0)).heap[g]? = some (.cells #[.int .i64 0] 3 (0, 0))) := ⟨one_setCell hbox⟩; have n2_ : Aside0 ((w2.setCell ⟨g, 0, none⟩ (.int .i64 0)).heap[gt]? = some (.cells #[.int .i64 a0_0, .int .i64 a0_1, .string a0_2, .slice A0_3 l0_3.length c0_3, .slice A0_4 l0_4.length c0_4] 27 (0, 0))) := ⟨blk_far (blk_below BKt.out hb) hne _⟩; have n3_ : Aside0 (Below w.heap.size w (w2.setCell ⟨g, 0, none⟩ (.int .i64 0))) := ⟨below_set (below_step HB1.out hb) hge⟩; obtain ⟨hct_0, hct_1, hct_2, hct_3, hct_4⟩ := cl5 n2_; clear hb hbox hgt))
 ((with_reducible refine (through.calls k ⟨a0_0, a0_1, a0_2, l0_3, l0_4⟩ A0_3 c0_3 A0_4 c0_4 g 0 a1 (r1, r2) _ n1_.out ?side1 H.out).mono ?_); (case side1 => exact fun W hW => Kd.C_below HR.out (below_of_but n3_.out hW n3_.out.size hge)); rintro e w7 ⟨rfl, hg7, hk7⟩)
 have hcg7 := cell_of_one hg7
 have HB7 := below_of_but n3_.out hk7 n3_.out.size hge
 go_wp2
 go_ret2
 exact ⟨rfl, HB7⟩
end Go.Proofs.Ytpejhapgffcngaa.QK

