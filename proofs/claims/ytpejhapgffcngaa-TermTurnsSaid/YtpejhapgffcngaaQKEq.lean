/- level.Equal and term.Equal, each with slices.EqualFunc at it. -/
import Derived.Test.YtpejhapgffcngaaXShort
import Derived.Test.YtpejhapgffcngaaQKApart
set_option linter.unusedVariables false
set_option linter.unusedSimpArgs false
namespace Go.Proofs.Ytpejhapgffcngaa.QK
open Go.RowKit Go.Proofs.YtpejhapgffcngaaW.PrintWords Go.Proofs.YtpejhapgffcngaaW.PrintLast Go.Proofs.YtpejhapgffcngaaW.PrintMore
attribute [local go_sem] max2_int min2_int max_two min_two max_three min_three max_four min_four
mutual
def leq.f : Nat → S76 → S76 → Option Bool
 | 0, _, _ => none
 | k + 1, x, y => if x.f0 = y.f0 then if x.f1 = y.f1 then leqF.f k x.f2 y.f2 else some false else some false
def leqF.f : Nat → List (S76) → List (S76) → Option Bool
 | 0, _, _ => none
 | k + 1, xs, ys => if xs.length = ys.length then leqF.l0 k xs ys 0 else some false
def leqF.l0 : Nat → List (S76) → List (S76) → Int → Option Bool
 | 0, _, _, _ => none
 | k + 1, xs, ys, i => if i < (xs.length : Int) then (if 0 ≤ i then (leq.f k (rd_T76 xs i) (rd_T76 ys i)).bind fun b => if b = true then leqF.l0 k xs ys (wrap64 (i + 1)) else some false else none) else some true
end
set_option maxHeartbeats 8000000 in
set_option maxRecDepth 100000 in
theorem leq.both (k : Nat) :
  (∀ (x y : S76) (A2 : Option Addr) (ac2 : Nat) (B2 : Option Addr) (bc2 : Nat) (r : Bool) (w : World) (ha2 : Kd.C k76 w A2 x.f2.length x.f2) (hb2 : Kd.C k76 w B2 y.f2.length y.f2) (h : leq.f k x y = some r), Calls Try.prog 115 #[.agg #[.int .i64 x.f0, .int .i64 x.f1, .slice A2 x.f2.length ac2], .agg #[.int .i64 y.f0, .int .i64 y.f1, .slice B2 y.f2.length bc2]] w fun e w' => e = .returned (.bool r) ∧ Below w.heap.size w w') ∧
  (∀ (A : Option Addr) (c : Nat) (xs : List (S76)) (B : Option Addr) (d : Nat) (ys : List (S76)) (r : Bool) (w : World) (hx : Kd.C k76 w A xs.length xs) (hy : Kd.C k76 w B ys.length ys) (h : leqF.f k xs ys = some r), Calls Try.prog 114 #[.slice A xs.length c, .slice B ys.length d, .func (.func 115) #[] #[]] w fun e w' => e = .returned (.bool r) ∧ Below w.heap.size w w') := by
 induction k using Nat.strongRecOn with
 | _ k ih =>
 have hu := Try.underlying76
 refine ⟨?_, ?_⟩
 ·intro x y A2 ac2 B2 bc2 r w ha2 hb2 h
  cases k with
  | zero => exact absurd h (by simp [leq.f])
  | succ k =>
  simp only [leq.f] at h
  by_cases d0 : x.f0 = y.f0
  rotate_left
  ·rw [if_neg d0] at h
   obtain rfl := Option.some.inj h
   have q0 : (x.f0 == y.f0) = false := beq_eq_false_iff_ne.2 d0
   clear d0 h
   go_enter Try.func115, Try.ntmps115
   go_wp2_with (first | ((with_reducible refine gate_dst (N := 2) rfl ?_); refine bx (N := 2) (t := 76) #[.int .i64 x.f0, .int .i64 x.f1, .slice A2 x.f2.length ac2] ?_; intro ga hga w1 hbox hb; have m1_ := aS hbox; have m2_ := aS hb; have hca_0 := (blk_cell hbox 0).trans (rfl : _ = some (Value.int .i64 x.f0)); have hca_1 := (blk_cell hbox 1).trans (rfl : _ = some (Value.int .i64 x.f1)); have hca_2 := (blk_cell hbox 2).trans (rfl : _ = some (Value.slice A2 x.f2.length ac2)); clear hb hbox hga) | ((with_reducible refine gate_dst (N := 3) rfl ?_); refine bx (N := 3) (t := 76) #[.int .i64 y.f0, .int .i64 y.f1, .slice B2 y.f2.length bc2] ?_; intro gq hgq w2 hbox hb; have m3_ := aS (blk_below m1_.out hb); have m4_ := aS (below_step m2_.out hb); have hcb_0 := (blk_cell hbox 0).trans (rfl : _ = some (Value.int .i64 y.f0)); have hcb_1 := (blk_cell hbox 1).trans (rfl : _ = some (Value.int .i64 y.f1)); have hcb_2 := (blk_cell hbox 2).trans (rfl : _ = some (Value.slice B2 y.f2.length bc2)); obtain ⟨hcd_0, hcd_1, hcd_2⟩ := cl3 m3_; clear hb hbox hgq))
   go_ret
   exact ⟨by first | rfl | (simp [*]; done), m4_.out⟩
  rw [if_pos d0] at h
  have q0 : (x.f0 == y.f0) = true := beq_iff_eq.2 d0
  clear d0
  by_cases d1 : x.f1 = y.f1
  rotate_left
  ·rw [if_neg d1] at h
   obtain rfl := Option.some.inj h
   have q1 : (x.f1 == y.f1) = false := beq_eq_false_iff_ne.2 d1
   clear d1 h
   go_enter Try.func115, Try.ntmps115
   go_wp2_with (first | ((with_reducible refine gate_dst (N := 2) rfl ?_); refine bx (N := 2) (t := 76) #[.int .i64 x.f0, .int .i64 x.f1, .slice A2 x.f2.length ac2] ?_; intro ga hga w1 hbox hb; have m1_ := aS hbox; have m2_ := aS hb; have hca_0 := (blk_cell hbox 0).trans (rfl : _ = some (Value.int .i64 x.f0)); have hca_1 := (blk_cell hbox 1).trans (rfl : _ = some (Value.int .i64 x.f1)); have hca_2 := (blk_cell hbox 2).trans (rfl : _ = some (Value.slice A2 x.f2.length ac2)); clear hb hbox hga) | ((with_reducible refine gate_dst (N := 3) rfl ?_); refine bx (N := 3) (t := 76) #[.int .i64 y.f0, .int .i64 y.f1, .slice B2 y.f2.length bc2] ?_; intro gq hgq w2 hbox hb; have m3_ := aS (blk_below m1_.out hb); have m4_ := aS (below_step m2_.out hb); have hcb_0 := (blk_cell hbox 0).trans (rfl : _ = some (Value.int .i64 y.f0)); have hcb_1 := (blk_cell hbox 1).trans (rfl : _ = some (Value.int .i64 y.f1)); have hcb_2 := (blk_cell hbox 2).trans (rfl : _ = some (Value.slice B2 y.f2.length bc2)); obtain ⟨hcd_0, hcd_1, hcd_2⟩ := cl3 m3_; clear hb hbox hgq))
   go_ret
   exact ⟨by first | rfl | (simp [*]; done), m4_.out⟩
  rw [if_pos d1] at h
  have q1 : (x.f1 == y.f1) = true := beq_iff_eq.2 d1
  clear d1
  have Kha2 := aS ha2
  have Khb2 := aS hb2
  clear ha2 hb2
  have H2 := aS h
  clear h
  go_enter Try.func115, Try.ntmps115
  go_wp2_with (first | ((with_reducible refine gate_dst (N := 2) rfl ?_); refine bx (N := 2) (t := 76) #[.int .i64 x.f0, .int .i64 x.f1, .slice A2 x.f2.length ac2] ?_; intro ga hga w1 hbox hb; have m1_ := aS hbox; have m2_ := aS hb; have hca_0 := (blk_cell hbox 0).trans (rfl : _ = some (Value.int .i64 x.f0)); have hca_1 := (blk_cell hbox 1).trans (rfl : _ = some (Value.int .i64 x.f1)); have hca_2 := (blk_cell hbox 2).trans (rfl : _ = some (Value.slice A2 x.f2.length ac2)); clear hb hbox hga) | ((with_reducible refine gate_dst (N := 3) rfl ?_); refine bx (N := 3) (t := 76) #[.int .i64 y.f0, .int .i64 y.f1, .slice B2 y.f2.length bc2] ?_; intro gq hgq w2 hbox hb; have m3_ := aS (blk_below m1_.out hb); have m4_ := aS (below_step m2_.out hb); have hcb_0 := (blk_cell hbox 0).trans (rfl : _ = some (Value.int .i64 y.f0)); have hcb_1 := (blk_cell hbox 1).trans (rfl : _ = some (Value.int .i64 y.f1)); have hcb_2 := (blk_cell hbox 2).trans (rfl : _ = some (Value.slice B2 y.f2.length bc2)); obtain ⟨hcd_0, hcd_1, hcd_2⟩ := cl3 m3_; clear hb hbox hgq) | (go_at_call 114; (with_reducible refine ((ih k (Nat.lt_succ_self k)).2 A2 ac2 x.f2 B2 bc2 y.f2 r _ (Kd.C_below Kha2.out m4_.out) (Kd.C_below Khb2.out m4_.out) H2.out).mono ?_); rintro e w4 ⟨rfl, hb⟩; have m6_ := aS (below_step m4_.out hb); clear hb))
  go_ret
  exact ⟨by first | rfl | (simp [*]; done), m6_.out⟩
 ·intro A c xs B d ys r w hx hy h
  cases k with
  | zero => exact absurd h (by simp [leqF.f])
  | succ k =>
  simp only [leqF.f] at h
  have HX := aS hx
  have HY := aS hy
  clear hx hy
  by_cases c1 : xs.length = ys.length
  rotate_left
  ·rw [if_neg c1] at h
   obtain rfl := Option.some.inj h
   have c1b : ((xs.length : Int) != (ys.length : Int)) = true := bne_iff_ne.2 (by omega)
   clear c1 h
   go_enter Try.func114, Try.ntmps114
   go_wp2
   go_ret
   exact ⟨rfl, Below.refl _ _⟩
  rw [if_pos c1] at h
  have c1b : ((xs.length : Int) != (ys.length : Int)) = false := bne_eq_false_iff_eq.2 (by omega)
  have c1e := aS c1
  clear c1
  have H' := aS h
  clear h
  go_enter Try.func114, Try.ntmps114
  go_wp2
  go_loopg [17] k (fun kq v21 w' => ∃ (j : Int), v21 = .int .i64 j ∧ Aside0 (leqF.l0 kq xs ys j = some r) ∧ Aside0 (kq ≤ k) ∧ Aside0 (Below w.heap.size w w'))
  case atStart => exact ⟨0, br, H', ⟨Nat.le_refl _⟩, ⟨Below.refl _ _⟩⟩
  case round =>
   clear H'
   try clear c1b
   obtain ⟨j, rfl, HA, HK1, HB⟩ := hrel
   cases gk with
   | zero => exact absurd HA.out (by simp [leqF.l0])
   | succ k1 =>
    have H := HA.out
    clear HA
    simp only [leqF.l0] at H
    by_cases c8 : j < (xs.length : Int)
    rotate_left
    ·rw [if_neg c8] at H
     have c8b := decide_eq_false c8
     clear c8
     obtain rfl := Option.some.inj H
     go_wp2
     go_ret
     exact ⟨rfl, HB.out⟩
    rw [if_pos c8] at H
    have c8b := decide_eq_true c8
    have c8y : j < (ys.length : Int) := by have := c1e.out; omega
    have c8z := decide_eq_true c8y
    by_cases c9 : 0 ≤ j
    rotate_left
    ·rw [if_neg c9] at H
     cases H
    rw [if_pos c9] at H
    have c9b := decide_eq_true c9
    replace H := Option.bind_eq_some_iff.mp H
    obtain ⟨b1, A1, H⟩ := H
    have A1_ := aS A1
    clear A1
    obtain ⟨ad, X2, xc2, e1, hx0, hx1, hx2, lx2, gx2⟩ := at_T76 (Kd.C_below HX.out HB.out) j c9 c8
    cases e1
    obtain ⟨be, Y2, yc2, e2, hy0, hy1, hy2, ly2, gy2⟩ := at_T76 (Kd.C_below HY.out HB.out) j c9 c8y
    cases e2
    have GX2 := aS gx2
    clear gx2 lx2
    have GY2 := aS gy2
    clear gy2 ly2
    replace c8 := eq_true c8
    replace c8y := eq_true c8y
    replace c9 := eq_true c9
    go_wp2_with (first | ((with_reducible refine gate_dst (N := 8) rfl ?_); refine bx (N := 8) (t := 76) #[.int .i64 0, .int .i64 0, .slice none 0 0] ?_; intro gb hgb w5 hbox hb; have hgw : wr.heap.size ≤ gb := (by rw [hgb]; exact Nat.le_refl _); have n3_ : Aside0 ((((w5.setCell ⟨gb, 0, none⟩ (.int .i64 (rd_T76 xs j).f0)).setCell ⟨gb, 1, none⟩ (.int .i64 (rd_T76 xs j).f1)).setCell ⟨gb, 2, none⟩ (.slice X2 (rd_T76 xs j).f2.length xc2)).heap[gb]? = some (.cells #[.int .i64 (rd_T76 xs j).f0, .int .i64 (rd_T76 xs j).f1, .slice X2 (rd_T76 xs j).f2.length xc2] 76 (0, 0))) := ⟨by refine blk_put (cs := #[.int .i64 (rd_T76 xs j).f0, .int .i64 (rd_T76 xs j).f1, .slice none 0 0]) ?_ 2 _ rfl; refine blk_put (cs := #[.int .i64 (rd_T76 xs j).f0, .int .i64 0, .slice none 0 0]) ?_ 1 _ rfl; refine blk_put (cs := #[.int .i64 0, .int .i64 0, .slice none 0 0]) ?_ 0 _ rfl; exact hbox⟩; have n1_ : Aside0 (Below wr.heap.size wr (((w5.setCell ⟨gb, 0, none⟩ (.int .i64 (rd_T76 xs j).f0)).setCell ⟨gb, 1, none⟩ (.int .i64 (rd_T76 xs j).f1)).setCell ⟨gb, 2, none⟩ (.slice X2 (rd_T76 xs j).f2.length xc2))) := ⟨by refine below_set ?_ hgw; refine below_set ?_ hgw; refine below_set ?_ hgw; exact hb⟩; have hcyx_0 := (blk_cell hbox 0).trans (rfl : _ = some (Value.int .i64 0)); have hfyx_0 := blk_frozen hbox 0; have hczx_0 := (blk_cell n3_.out 0).trans (rfl : _ = some (Value.int .i64 (rd_T76 xs j).f0)); have hcyx_1 := (blk_cell hbox 1).trans (rfl : _ = some (Value.int .i64 0)); have hfyx_1 := blk_frozen hbox 1; have hczx_1 := (blk_cell n3_.out 1).trans (rfl : _ = some (Value.int .i64 (rd_T76 xs j).f1)); have hcyx_2 := (blk_cell hbox 2).trans (rfl : _ = some (Value.slice none 0 0)); have hfyx_2 := blk_frozen hbox 2; have hczx_2 := (blk_cell n3_.out 2).trans (rfl : _ = some (Value.slice X2 (rd_T76 xs j).f2.length xc2)); have hz0 := (n1_.out.cell (World.block_lt_of_cell? wr _ hy0)).trans hy0; have hz1 := (n1_.out.cell (World.block_lt_of_cell? wr _ hy1)).trans hy1; have hz2 := (n1_.out.cell (World.block_lt_of_cell? wr _ hy2)).trans hy2; clear hb hbox hgb) | ((with_reducible refine gate_dst (N := 9) rfl ?_); refine bx (N := 9) (t := 76) #[.int .i64 0, .int .i64 0, .slice none 0 0] ?_; intro gc hgc w8 hbox hb; have hne : gb ≠ gc := (by rw [hgc]; exact Nat.ne_of_lt (blk_lt n3_.out)); have hge : wr.heap.size ≤ gc := (by rw [hgc]; exact below_size n1_.out); have n4_ : Aside0 ((((w8.setCell ⟨gc, 0, none⟩ (.int .i64 (rd_T76 ys j).f0)).setCell ⟨gc, 1, none⟩ (.int .i64 (rd_T76 ys j).f1)).setCell ⟨gc, 2, none⟩ (.slice Y2 (rd_T76 ys j).f2.length yc2)).heap[gc]? = some (.cells #[.int .i64 (rd_T76 ys j).f0, .int .i64 (rd_T76 ys j).f1, .slice Y2 (rd_T76 ys j).f2.length yc2] 76 (0, 0))) := ⟨by refine blk_put (cs := #[.int .i64 (rd_T76 ys j).f0, .int .i64 (rd_T76 ys j).f1, .slice none 0 0]) ?_ 2 _ rfl; refine blk_put (cs := #[.int .i64 (rd_T76 ys j).f0, .int .i64 0, .slice none 0 0]) ?_ 1 _ rfl; refine blk_put (cs := #[.int .i64 0, .int .i64 0, .slice none 0 0]) ?_ 0 _ rfl; exact hbox⟩; have n5_ : Aside0 ((((w8.setCell ⟨gc, 0, none⟩ (.int .i64 (rd_T76 ys j).f0)).setCell ⟨gc, 1, none⟩ (.int .i64 (rd_T76 ys j).f1)).setCell ⟨gc, 2, none⟩ (.slice Y2 (rd_T76 ys j).f2.length yc2)).heap[gb]? = some (.cells #[.int .i64 (rd_T76 xs j).f0, .int .i64 (rd_T76 xs j).f1, .slice X2 (rd_T76 xs j).f2.length xc2] 76 (0, 0))) := ⟨by refine blk_far ?_ hne _; refine blk_far ?_ hne _; refine blk_far ?_ hne _; exact blk_below n3_.out hb⟩; have n6_ : Aside0 (Below wr.heap.size wr (((w8.setCell ⟨gc, 0, none⟩ (.int .i64 (rd_T76 ys j).f0)).setCell ⟨gc, 1, none⟩ (.int .i64 (rd_T76 ys j).f1)).setCell ⟨gc, 2, none⟩ (.slice Y2 (rd_T76 ys j).f2.length yc2))) := ⟨by refine below_set ?_ hge; refine below_set ?_ hge; refine below_set ?_ hge; exact below_step n1_.out hb⟩; have hcyy_0 := (blk_cell hbox 0).trans (rfl : _ = some (Value.int .i64 0)); have hfyy_0 := blk_frozen hbox 0; have hczy_0 := (blk_cell n4_.out 0).trans (rfl : _ = some (Value.int .i64 (rd_T76 ys j).f0)); have hcyy_1 := (blk_cell hbox 1).trans (rfl : _ = some (Value.int .i64 0)); have hfyy_1 := blk_frozen hbox 1; have hczy_1 := (blk_cell n4_.out 1).trans (rfl : _ = some (Value.int .i64 (rd_T76 ys j).f1)); have hcyy_2 := (blk_cell hbox 2).trans (rfl : _ = some (Value.slice none 0 0)); have hfyy_2 := blk_frozen hbox 2; have hczy_2 := (blk_cell n4_.out 2).trans (rfl : _ = some (Value.slice Y2 (rd_T76 ys j).f2.length yc2)); obtain ⟨hcw_0, hcw_1, hcw_2⟩ := cl3 n5_; clear hb hbox hgc))
    ((with_reducible refine ((ih k1 (by have := HK1.out; omega)).1 (rd_T76 xs j) (rd_T76 ys j) X2 xc2 Y2 yc2 b1 _ ?sx2 ?sy2 A1_.out).mono ?_); (case sx2 => exact Kd.C_below GX2.out n6_.out); (case sy2 => exact Kd.C_below GY2.out n6_.out); rintro e w7 ⟨rfl, hb7⟩)
    have n7_ := aS (below_step (below_step HB.out n6_.out) hb7)
    cases b1 with
    | false =>
     rw [if_neg (by decide)] at H
     obtain rfl := Option.some.inj H
     go_wp2
     go_ret
     exact ⟨rfl, n7_.out⟩
    | true =>
     rw [if_pos rfl] at H
     have H' := aS H
     clear H
     go_wp2
     go_roundg k1
     case measure => have := HK1.out; omega
     case rel => exact ⟨(wrap64 (j + 1)), br, H', ⟨by have := HK1.out; omega⟩, n7_⟩
mutual
def teq.f : Nat → S27 → S27 → Option Bool
 | 0, _, _ => none
 | k + 1, x, y => if x.f0 = y.f0 then if x.f1 = y.f1 then if x.f2.toList = y.f2.toList then ((leqF.f k (x.f3) (y.f3)).bind fun b => if b = true then teqF.f k x.f4 y.f4 else some false) else some false else some false else some false
def teqF.f : Nat → List (S27) → List (S27) → Option Bool
 | 0, _, _ => none
 | k + 1, xs, ys => if xs.length = ys.length then teqF.l0 k xs ys 0 else some false
def teqF.l0 : Nat → List (S27) → List (S27) → Int → Option Bool
 | 0, _, _, _ => none
 | k + 1, xs, ys, i => if i < (xs.length : Int) then (if 0 ≤ i then (teq.f k (rd_T27 xs i) (rd_T27 ys i)).bind fun b => if b = true then teqF.l0 k xs ys (wrap64 (i + 1)) else some false else none) else some true
end
set_option maxHeartbeats 8000000 in
set_option maxRecDepth 100000 in
theorem teq.both (k : Nat) :
  (∀ (x y : S27) (A3 : Option Addr) (ac3 : Nat) (A4 : Option Addr) (ac4 : Nat) (B3 : Option Addr) (bc3 : Nat) (B4 : Option Addr) (bc4 : Nat) (r : Bool) (w : World) (ha3 : Kd.C k76 w A3 x.f3.length x.f3) (ha4 : Kd.C k27 w A4 x.f4.length x.f4) (hb3 : Kd.C k76 w B3 y.f3.length y.f3) (hb4 : Kd.C k27 w B4 y.f4.length y.f4) (h : teq.f k x y = some r), Calls Try.prog 85 #[.agg #[.int .i64 x.f0, .int .i64 x.f1, .string x.f2, .slice A3 x.f3.length ac3, .slice A4 x.f4.length ac4], .agg #[.int .i64 y.f0, .int .i64 y.f1, .string y.f2, .slice B3 y.f3.length bc3, .slice B4 y.f4.length bc4]] w fun e w' => e = .returned (.bool r) ∧ Below w.heap.size w w') ∧
  (∀ (A : Option Addr) (c : Nat) (xs : List (S27)) (B : Option Addr) (d : Nat) (ys : List (S27)) (r : Bool) (w : World) (hx : Kd.C k27 w A xs.length xs) (hy : Kd.C k27 w B ys.length ys) (h : teqF.f k xs ys = some r), Calls Try.prog 116 #[.slice A xs.length c, .slice B ys.length d, .func (.func 85) #[] #[]] w fun e w' => e = .returned (.bool r) ∧ Below w.heap.size w w') := by
 induction k using Nat.strongRecOn with
 | _ k ih =>
 have hu := Try.underlying27
 refine ⟨?_, ?_⟩
 ·intro x y A3 ac3 A4 ac4 B3 bc3 B4 bc4 r w ha3 ha4 hb3 hb4 h
  cases k with
  | zero => exact absurd h (by simp [teq.f])
  | succ k =>
  simp only [teq.f] at h
  by_cases d0 : x.f0 = y.f0
  rotate_left
  ·rw [if_neg d0] at h
   obtain rfl := Option.some.inj h
   have q0 : (x.f0 == y.f0) = false := beq_eq_false_iff_ne.2 d0
   clear d0 h
   go_enter Try.func85, Try.ntmps85
   go_wp2_with (first | ((with_reducible refine gate_dst (N := 2) rfl ?_); refine bx (N := 2) (t := 27) #[.int .i64 x.f0, .int .i64 x.f1, .string x.f2, .slice A3 x.f3.length ac3, .slice A4 x.f4.length ac4] ?_; intro ga hga w1 hbox hb; have m1_ := aS hbox; have m2_ := aS hb; have hca_0 := (blk_cell hbox 0).trans (rfl : _ = some (Value.int .i64 x.f0)); have hca_1 := (blk_cell hbox 1).trans (rfl : _ = some (Value.int .i64 x.f1)); have hca_2 := (blk_cell hbox 2).trans (rfl : _ = some (Value.string x.f2)); have hca_3 := (blk_cell hbox 3).trans (rfl : _ = some (Value.slice A3 x.f3.length ac3)); have hca_4 := (blk_cell hbox 4).trans (rfl : _ = some (Value.slice A4 x.f4.length ac4)); clear hb hbox hga) | ((with_reducible refine gate_dst (N := 3) rfl ?_); refine bx (N := 3) (t := 27) #[.int .i64 y.f0, .int .i64 y.f1, .string y.f2, .slice B3 y.f3.length bc3, .slice B4 y.f4.length bc4] ?_; intro gq hgq w2 hbox hb; have m3_ := aS (blk_below m1_.out hb); have m4_ := aS (below_step m2_.out hb); have hcb_0 := (blk_cell hbox 0).trans (rfl : _ = some (Value.int .i64 y.f0)); have hcb_1 := (blk_cell hbox 1).trans (rfl : _ = some (Value.int .i64 y.f1)); have hcb_2 := (blk_cell hbox 2).trans (rfl : _ = some (Value.string y.f2)); have hcb_3 := (blk_cell hbox 3).trans (rfl : _ = some (Value.slice B3 y.f3.length bc3)); have hcb_4 := (blk_cell hbox 4).trans (rfl : _ = some (Value.slice B4 y.f4.length bc4)); obtain ⟨hcd_0, hcd_1, hcd_2, hcd_3, hcd_4⟩ := cl5 m3_; clear hb hbox hgq))
   go_ret
   exact ⟨by first | rfl | (simp [*]; done), m4_.out⟩
  rw [if_pos d0] at h
  have q0 : (x.f0 == y.f0) = true := beq_iff_eq.2 d0
  clear d0
  by_cases d1 : x.f1 = y.f1
  rotate_left
  ·rw [if_neg d1] at h
   obtain rfl := Option.some.inj h
   have q1 : (x.f1 == y.f1) = false := beq_eq_false_iff_ne.2 d1
   clear d1 h
   go_enter Try.func85, Try.ntmps85
   go_wp2_with (first | ((with_reducible refine gate_dst (N := 2) rfl ?_); refine bx (N := 2) (t := 27) #[.int .i64 x.f0, .int .i64 x.f1, .string x.f2, .slice A3 x.f3.length ac3, .slice A4 x.f4.length ac4] ?_; intro ga hga w1 hbox hb; have m1_ := aS hbox; have m2_ := aS hb; have hca_0 := (blk_cell hbox 0).trans (rfl : _ = some (Value.int .i64 x.f0)); have hca_1 := (blk_cell hbox 1).trans (rfl : _ = some (Value.int .i64 x.f1)); have hca_2 := (blk_cell hbox 2).trans (rfl : _ = some (Value.string x.f2)); have hca_3 := (blk_cell hbox 3).trans (rfl : _ = some (Value.slice A3 x.f3.length ac3)); have hca_4 := (blk_cell hbox 4).trans (rfl : _ = some (Value.slice A4 x.f4.length ac4)); clear hb hbox hga) | ((with_reducible refine gate_dst (N := 3) rfl ?_); refine bx (N := 3) (t := 27) #[.int .i64 y.f0, .int .i64 y.f1, .string y.f2, .slice B3 y.f3.length bc3, .slice B4 y.f4.length bc4] ?_; intro gq hgq w2 hbox hb; have m3_ := aS (blk_below m1_.out hb); have m4_ := aS (below_step m2_.out hb); have hcb_0 := (blk_cell hbox 0).trans (rfl : _ = some (Value.int .i64 y.f0)); have hcb_1 := (blk_cell hbox 1).trans (rfl : _ = some (Value.int .i64 y.f1)); have hcb_2 := (blk_cell hbox 2).trans (rfl : _ = some (Value.string y.f2)); have hcb_3 := (blk_cell hbox 3).trans (rfl : _ = some (Value.slice B3 y.f3.length bc3)); have hcb_4 := (blk_cell hbox 4).trans (rfl : _ = some (Value.slice B4 y.f4.length bc4)); obtain ⟨hcd_0, hcd_1, hcd_2, hcd_3, hcd_4⟩ := cl5 m3_; clear hb hbox hgq))
   go_ret
   exact ⟨by first | rfl | (simp [*]; done), m4_.out⟩
  rw [if_pos d1] at h
  have q1 : (x.f1 == y.f1) = true := beq_iff_eq.2 d1
  clear d1
  by_cases d2 : x.f2.toList = y.f2.toList
  rotate_left
  ·rw [if_neg d2] at h
   obtain rfl := Option.some.inj h
   have q2 : (x.f2.toList == y.f2.toList) = false := beq_eq_false_iff_ne.2 d2
   clear d2 h
   go_enter Try.func85, Try.ntmps85
   go_wp2_with (first | ((with_reducible refine gate_dst (N := 2) rfl ?_); refine bx (N := 2) (t := 27) #[.int .i64 x.f0, .int .i64 x.f1, .string x.f2, .slice A3 x.f3.length ac3, .slice A4 x.f4.length ac4] ?_; intro ga hga w1 hbox hb; have m1_ := aS hbox; have m2_ := aS hb; have hca_0 := (blk_cell hbox 0).trans (rfl : _ = some (Value.int .i64 x.f0)); have hca_1 := (blk_cell hbox 1).trans (rfl : _ = some (Value.int .i64 x.f1)); have hca_2 := (blk_cell hbox 2).trans (rfl : _ = some (Value.string x.f2)); have hca_3 := (blk_cell hbox 3).trans (rfl : _ = some (Value.slice A3 x.f3.length ac3)); have hca_4 := (blk_cell hbox 4).trans (rfl : _ = some (Value.slice A4 x.f4.length ac4)); clear hb hbox hga) | ((with_reducible refine gate_dst (N := 3) rfl ?_); refine bx (N := 3) (t := 27) #[.int .i64 y.f0, .int .i64 y.f1, .string y.f2, .slice B3 y.f3.length bc3, .slice B4 y.f4.length bc4] ?_; intro gq hgq w2 hbox hb; have m3_ := aS (blk_below m1_.out hb); have m4_ := aS (below_step m2_.out hb); have hcb_0 := (blk_cell hbox 0).trans (rfl : _ = some (Value.int .i64 y.f0)); have hcb_1 := (blk_cell hbox 1).trans (rfl : _ = some (Value.int .i64 y.f1)); have hcb_2 := (blk_cell hbox 2).trans (rfl : _ = some (Value.string y.f2)); have hcb_3 := (blk_cell hbox 3).trans (rfl : _ = some (Value.slice B3 y.f3.length bc3)); have hcb_4 := (blk_cell hbox 4).trans (rfl : _ = some (Value.slice B4 y.f4.length bc4)); obtain ⟨hcd_0, hcd_1, hcd_2, hcd_3, hcd_4⟩ := cl5 m3_; clear hb hbox hgq))
   go_ret
   exact ⟨by first | rfl | (simp [*]; done), m4_.out⟩
  rw [if_pos d2] at h
  have q2 : (x.f2.toList == y.f2.toList) = true := beq_iff_eq.2 d2
  clear d2
  have Kha3 := aS ha3
  have Kha4 := aS ha4
  have Khb3 := aS hb3
  have Khb4 := aS hb4
  clear ha3 ha4 hb3 hb4
  obtain ⟨b3, A3_, h⟩ := Option.bind_eq_some_iff.mp h
  have H3 := aS A3_
  clear A3_
  cases b3 with
  | false =>
   rw [if_neg (by decide)] at h
   obtain rfl := Option.some.inj h
   clear h
   go_enter Try.func85, Try.ntmps85
   go_wp2_with (first | ((with_reducible refine gate_dst (N := 2) rfl ?_); refine bx (N := 2) (t := 27) #[.int .i64 x.f0, .int .i64 x.f1, .string x.f2, .slice A3 x.f3.length ac3, .slice A4 x.f4.length ac4] ?_; intro ga hga w1 hbox hb; have m1_ := aS hbox; have m2_ := aS hb; have hca_0 := (blk_cell hbox 0).trans (rfl : _ = some (Value.int .i64 x.f0)); have hca_1 := (blk_cell hbox 1).trans (rfl : _ = some (Value.int .i64 x.f1)); have hca_2 := (blk_cell hbox 2).trans (rfl : _ = some (Value.string x.f2)); have hca_3 := (blk_cell hbox 3).trans (rfl : _ = some (Value.slice A3 x.f3.length ac3)); have hca_4 := (blk_cell hbox 4).trans (rfl : _ = some (Value.slice A4 x.f4.length ac4)); clear hb hbox hga) | ((with_reducible refine gate_dst (N := 3) rfl ?_); refine bx (N := 3) (t := 27) #[.int .i64 y.f0, .int .i64 y.f1, .string y.f2, .slice B3 y.f3.length bc3, .slice B4 y.f4.length bc4] ?_; intro gq hgq w2 hbox hb; have m3_ := aS (blk_below m1_.out hb); have m4_ := aS (below_step m2_.out hb); have hcb_0 := (blk_cell hbox 0).trans (rfl : _ = some (Value.int .i64 y.f0)); have hcb_1 := (blk_cell hbox 1).trans (rfl : _ = some (Value.int .i64 y.f1)); have hcb_2 := (blk_cell hbox 2).trans (rfl : _ = some (Value.string y.f2)); have hcb_3 := (blk_cell hbox 3).trans (rfl : _ = some (Value.slice B3 y.f3.length bc3)); have hcb_4 := (blk_cell hbox 4).trans (rfl : _ = some (Value.slice B4 y.f4.length bc4)); obtain ⟨hcd_0, hcd_1, hcd_2, hcd_3, hcd_4⟩ := cl5 m3_; clear hb hbox hgq) | (go_at_call 114; (with_reducible refine ((leq.both k).2 A3 ac3 x.f3 B3 bc3 y.f3 false _ (Kd.C_below Kha3.out m4_.out) (Kd.C_below Khb3.out m4_.out) H3.out).mono ?_); rintro e w3 ⟨rfl, hb⟩; have m5_ := aS (below_step m4_.out hb); have hcb_0z3 := (hb.cell (World.block_lt_of_cell? _ _ hcb_0)).trans hcb_0; have hcb_1z3 := (hb.cell (World.block_lt_of_cell? _ _ hcb_1)).trans hcb_1; have hcb_2z3 := (hb.cell (World.block_lt_of_cell? _ _ hcb_2)).trans hcb_2; have hcb_3z3 := (hb.cell (World.block_lt_of_cell? _ _ hcb_3)).trans hcb_3; have hcb_4z3 := (hb.cell (World.block_lt_of_cell? _ _ hcb_4)).trans hcb_4; have hcd_0z3 := (hb.cell (World.block_lt_of_cell? _ _ hcd_0)).trans hcd_0; have hcd_1z3 := (hb.cell (World.block_lt_of_cell? _ _ hcd_1)).trans hcd_1; have hcd_2z3 := (hb.cell (World.block_lt_of_cell? _ _ hcd_2)).trans hcd_2; have hcd_3z3 := (hb.cell (World.block_lt_of_cell? _ _ hcd_3)).trans hcd_3; have hcd_4z3 := (hb.cell (World.block_lt_of_cell? _ _ hcd_4)).trans hcd_4; clear hb))
   go_ret
   exact ⟨by first | rfl | (simp [*]; done), m5_.out⟩
  | true =>
  rw [if_pos rfl] at h
  have H4 := aS h
  clear h
  go_enter Try.func85, Try.ntmps85
  go_wp2_with (first | ((with_reducible refine gate_dst (N := 2) rfl ?_); refine bx (N := 2) (t := 27) #[.int .i64 x.f0, .int .i64 x.f1, .string x.f2, .slice A3 x.f3.length ac3, .slice A4 x.f4.length ac4] ?_; intro ga hga w1 hbox hb; have m1_ := aS hbox; have m2_ := aS hb; have hca_0 := (blk_cell hbox 0).trans (rfl : _ = some (Value.int .i64 x.f0)); have hca_1 := (blk_cell hbox 1).trans (rfl : _ = some (Value.int .i64 x.f1)); have hca_2 := (blk_cell hbox 2).trans (rfl : _ = some (Value.string x.f2)); have hca_3 := (blk_cell hbox 3).trans (rfl : _ = some (Value.slice A3 x.f3.length ac3)); have hca_4 := (blk_cell hbox 4).trans (rfl : _ = some (Value.slice A4 x.f4.length ac4)); clear hb hbox hga) | ((with_reducible refine gate_dst (N := 3) rfl ?_); refine bx (N := 3) (t := 27) #[.int .i64 y.f0, .int .i64 y.f1, .string y.f2, .slice B3 y.f3.length bc3, .slice B4 y.f4.length bc4] ?_; intro gq hgq w2 hbox hb; have m3_ := aS (blk_below m1_.out hb); have m4_ := aS (below_step m2_.out hb); have hcb_0 := (blk_cell hbox 0).trans (rfl : _ = some (Value.int .i64 y.f0)); have hcb_1 := (blk_cell hbox 1).trans (rfl : _ = some (Value.int .i64 y.f1)); have hcb_2 := (blk_cell hbox 2).trans (rfl : _ = some (Value.string y.f2)); have hcb_3 := (blk_cell hbox 3).trans (rfl : _ = some (Value.slice B3 y.f3.length bc3)); have hcb_4 := (blk_cell hbox 4).trans (rfl : _ = some (Value.slice B4 y.f4.length bc4)); obtain ⟨hcd_0, hcd_1, hcd_2, hcd_3, hcd_4⟩ := cl5 m3_; clear hb hbox hgq) | (go_at_call 114; (with_reducible refine ((leq.both k).2 A3 ac3 x.f3 B3 bc3 y.f3 true _ (Kd.C_below Kha3.out m4_.out) (Kd.C_below Khb3.out m4_.out) H3.out).mono ?_); rintro e w3 ⟨rfl, hb⟩; have m5_ := aS (below_step m4_.out hb); have hcb_0z3 := (hb.cell (World.block_lt_of_cell? _ _ hcb_0)).trans hcb_0; have hcb_1z3 := (hb.cell (World.block_lt_of_cell? _ _ hcb_1)).trans hcb_1; have hcb_2z3 := (hb.cell (World.block_lt_of_cell? _ _ hcb_2)).trans hcb_2; have hcb_3z3 := (hb.cell (World.block_lt_of_cell? _ _ hcb_3)).trans hcb_3; have hcb_4z3 := (hb.cell (World.block_lt_of_cell? _ _ hcb_4)).trans hcb_4; have hcd_0z3 := (hb.cell (World.block_lt_of_cell? _ _ hcd_0)).trans hcd_0; have hcd_1z3 := (hb.cell (World.block_lt_of_cell? _ _ hcd_1)).trans hcd_1; have hcd_2z3 := (hb.cell (World.block_lt_of_cell? _ _ hcd_2)).trans hcd_2; have hcd_3z3 := (hb.cell (World.block_lt_of_cell? _ _ hcd_3)).trans hcd_3; have hcd_4z3 := (hb.cell (World.block_lt_of_cell? _ _ hcd_4)).trans hcd_4; clear hb) | (go_at_call 116; (with_reducible refine ((ih k (Nat.lt_succ_self k)).2 A4 ac4 x.f4 B4 bc4 y.f4 r _ (Kd.C_below Kha4.out m5_.out) (Kd.C_below Khb4.out m5_.out) H4.out).mono ?_); rintro e w4 ⟨rfl, hb⟩; have m6_ := aS (below_step m5_.out hb); clear hb))
  go_ret
  exact ⟨by first | rfl | (simp [*]; done), m6_.out⟩
 ·intro A c xs B d ys r w hx hy h
  cases k with
  | zero => exact absurd h (by simp [teqF.f])
  | succ k =>
  simp only [teqF.f] at h
  have HX := aS hx
  have HY := aS hy
  clear hx hy
  by_cases c1 : xs.length = ys.length
  rotate_left
  ·rw [if_neg c1] at h
   obtain rfl := Option.some.inj h
   have c1b : ((xs.length : Int) != (ys.length : Int)) = true := bne_iff_ne.2 (by omega)
   clear c1 h
   go_enter Try.func116, Try.ntmps116
   go_wp2
   go_ret
   exact ⟨rfl, Below.refl _ _⟩
  rw [if_pos c1] at h
  have c1b : ((xs.length : Int) != (ys.length : Int)) = false := bne_eq_false_iff_eq.2 (by omega)
  have c1e := aS c1
  clear c1
  have H' := aS h
  clear h
  go_enter Try.func116, Try.ntmps116
  go_wp2
  go_loopg [17] k (fun kq v21 w' => ∃ (j : Int), v21 = .int .i64 j ∧ Aside0 (teqF.l0 kq xs ys j = some r) ∧ Aside0 (kq ≤ k) ∧ Aside0 (Below w.heap.size w w'))
  case atStart => exact ⟨0, br, H', ⟨Nat.le_refl _⟩, ⟨Below.refl _ _⟩⟩
  case round =>
   clear H'
   try clear c1b
   obtain ⟨j, rfl, HA, HK1, HB⟩ := hrel
   cases gk with
   | zero => exact absurd HA.out (by simp [teqF.l0])
   | succ k1 =>
    have H := HA.out
    clear HA
    simp only [teqF.l0] at H
    by_cases c8 : j < (xs.length : Int)
    rotate_left
    ·rw [if_neg c8] at H
     have c8b := decide_eq_false c8
     clear c8
     obtain rfl := Option.some.inj H
     go_wp2
     go_ret
     exact ⟨rfl, HB.out⟩
    rw [if_pos c8] at H
    have c8b := decide_eq_true c8
    have c8y : j < (ys.length : Int) := by have := c1e.out; omega
    have c8z := decide_eq_true c8y
    by_cases c9 : 0 ≤ j
    rotate_left
    ·rw [if_neg c9] at H
     cases H
    rw [if_pos c9] at H
    have c9b := decide_eq_true c9
    replace H := Option.bind_eq_some_iff.mp H
    obtain ⟨b1, A1, H⟩ := H
    have A1_ := aS A1
    clear A1
    obtain ⟨ad, X3, xc3, X4, xc4, e1, hx0, hx1, hx2, hx3, hx4, lx3, gx3, lx4, gx4⟩ := at_T27 (Kd.C_below HX.out HB.out) j c9 c8
    cases e1
    obtain ⟨be, Y3, yc3, Y4, yc4, e2, hy0, hy1, hy2, hy3, hy4, ly3, gy3, ly4, gy4⟩ := at_T27 (Kd.C_below HY.out HB.out) j c9 c8y
    cases e2
    have GX3 := aS gx3
    clear gx3 lx3
    have GX4 := aS gx4
    clear gx4 lx4
    have GY3 := aS gy3
    clear gy3 ly3
    have GY4 := aS gy4
    clear gy4 ly4
    replace c8 := eq_true c8
    replace c8y := eq_true c8y
    replace c9 := eq_true c9
    go_wp2_with (first | ((with_reducible refine gate_dst (N := 8) rfl ?_); refine bx (N := 8) (t := 27) #[.int .i64 0, .int .i64 0, .string (⟨#[]⟩ : ByteArray), .slice none 0 0, .slice none 0 0] ?_; intro gb hgb w5 hbox hb; have hgw : wr.heap.size ≤ gb := (by rw [hgb]; exact Nat.le_refl _); have n3_ : Aside0 ((((((w5.setCell ⟨gb, 0, none⟩ (.int .i64 (rd_T27 xs j).f0)).setCell ⟨gb, 1, none⟩ (.int .i64 (rd_T27 xs j).f1)).setCell ⟨gb, 2, none⟩ (.string (rd_T27 xs j).f2)).setCell ⟨gb, 3, none⟩ (.slice X3 (rd_T27 xs j).f3.length xc3)).setCell ⟨gb, 4, none⟩ (.slice X4 (rd_T27 xs j).f4.length xc4)).heap[gb]? = some (.cells #[.int .i64 (rd_T27 xs j).f0, .int .i64 (rd_T27 xs j).f1, .string (rd_T27 xs j).f2, .slice X3 (rd_T27 xs j).f3.length xc3, .slice X4 (rd_T27 xs j).f4.length xc4] 27 (0, 0))) := ⟨by refine blk_put (cs := #[.int .i64 (rd_T27 xs j).f0, .int .i64 (rd_T27 xs j).f1, .string (rd_T27 xs j).f2, .slice X3 (rd_T27 xs j).f3.length xc3, .slice none 0 0]) ?_ 4 _ rfl; refine blk_put (cs := #[.int .i64 (rd_T27 xs j).f0, .int .i64 (rd_T27 xs j).f1, .string (rd_T27 xs j).f2, .slice none 0 0, .slice none 0 0]) ?_ 3 _ rfl; refine blk_put (cs := #[.int .i64 (rd_T27 xs j).f0, .int .i64 (rd_T27 xs j).f1, .string (⟨#[]⟩ : ByteArray), .slice none 0 0, .slice none 0 0]) ?_ 2 _ rfl; refine blk_put (cs := #[.int .i64 (rd_T27 xs j).f0, .int .i64 0, .string (⟨#[]⟩ : ByteArray), .slice none 0 0, .slice none 0 0]) ?_ 1 _ rfl; refine blk_put (cs := #[.int .i64 0, .int .i64 0, .string (⟨#[]⟩ : ByteArray), .slice none 0 0, .slice none 0 0]) ?_ 0 _ rfl; exact hbox⟩; have n1_ : Aside0 (Below wr.heap.size wr (((((w5.setCell ⟨gb, 0, none⟩ (.int .i64 (rd_T27 xs j).f0)).setCell ⟨gb, 1, none⟩ (.int .i64 (rd_T27 xs j).f1)).setCell ⟨gb, 2, none⟩ (.string (rd_T27 xs j).f2)).setCell ⟨gb, 3, none⟩ (.slice X3 (rd_T27 xs j).f3.length xc3)).setCell ⟨gb, 4, none⟩ (.slice X4 (rd_T27 xs j).f4.length xc4))) := ⟨by refine below_set ?_ hgw; refine below_set ?_ hgw; refine below_set ?_ hgw; refine below_set ?_ hgw; refine below_set ?_ hgw; exact hb⟩; have hcyx_0 := (blk_cell hbox 0).trans (rfl : _ = some (Value.int .i64 0)); have hfyx_0 := blk_frozen hbox 0; have hczx_0 := (blk_cell n3_.out 0).trans (rfl : _ = some (Value.int .i64 (rd_T27 xs j).f0)); have hcyx_1 := (blk_cell hbox 1).trans (rfl : _ = some (Value.int .i64 0)); have hfyx_1 := blk_frozen hbox 1; have hczx_1 := (blk_cell n3_.out 1).trans (rfl : _ = some (Value.int .i64 (rd_T27 xs j).f1)); have hcyx_2 := (blk_cell hbox 2).trans (rfl : _ = some (Value.string (⟨#[]⟩ : ByteArray))); have hfyx_2 := blk_frozen hbox 2; have hczx_2 := (blk_cell n3_.out 2).trans (rfl : _ = some (Value.string (rd_T27 xs j).f2)); have hcyx_3 := (blk_cell hbox 3).trans (rfl : _ = some (Value.slice none 0 0)); have hfyx_3 := blk_frozen hbox 3; have hczx_3 := (blk_cell n3_.out 3).trans (rfl : _ = some (Value.slice X3 (rd_T27 xs j).f3.length xc3)); have hcyx_4 := (blk_cell hbox 4).trans (rfl : _ = some (Value.slice none 0 0)); have hfyx_4 := blk_frozen hbox 4; have hczx_4 := (blk_cell n3_.out 4).trans (rfl : _ = some (Value.slice X4 (rd_T27 xs j).f4.length xc4)); have hz0 := (n1_.out.cell (World.block_lt_of_cell? wr _ hy0)).trans hy0; have hz1 := (n1_.out.cell (World.block_lt_of_cell? wr _ hy1)).trans hy1; have hz2 := (n1_.out.cell (World.block_lt_of_cell? wr _ hy2)).trans hy2; have hz3 := (n1_.out.cell (World.block_lt_of_cell? wr _ hy3)).trans hy3; have hz4 := (n1_.out.cell (World.block_lt_of_cell? wr _ hy4)).trans hy4; clear hb hbox hgb) | ((with_reducible refine gate_dst (N := 9) rfl ?_); refine bx (N := 9) (t := 27) #[.int .i64 0, .int .i64 0, .string (⟨#[]⟩ : ByteArray), .slice none 0 0, .slice none 0 0] ?_; intro gc hgc w8 hbox hb; have hne : gb ≠ gc := (by rw [hgc]; exact Nat.ne_of_lt (blk_lt n3_.out)); have hge : wr.heap.size ≤ gc := (by rw [hgc]; exact below_size n1_.out); have n4_ : Aside0 ((((((w8.setCell ⟨gc, 0, none⟩ (.int .i64 (rd_T27 ys j).f0)).setCell ⟨gc, 1, none⟩ (.int .i64 (rd_T27 ys j).f1)).setCell ⟨gc, 2, none⟩ (.string (rd_T27 ys j).f2)).setCell ⟨gc, 3, none⟩ (.slice Y3 (rd_T27 ys j).f3.length yc3)).setCell ⟨gc, 4, none⟩ (.slice Y4 (rd_T27 ys j).f4.length yc4)).heap[gc]? = some (.cells #[.int .i64 (rd_T27 ys j).f0, .int .i64 (rd_T27 ys j).f1, .string (rd_T27 ys j).f2, .slice Y3 (rd_T27 ys j).f3.length yc3, .slice Y4 (rd_T27 ys j).f4.length yc4] 27 (0, 0))) := ⟨by refine blk_put (cs := #[.int .i64 (rd_T27 ys j).f0, .int .i64 (rd_T27 ys j).f1, .string (rd_T27 ys j).f2, .slice Y3 (rd_T27 ys j).f3.length yc3, .slice none 0 0]) ?_ 4 _ rfl; refine blk_put (cs := #[.int .i64 (rd_T27 ys j).f0, .int .i64 (rd_T27 ys j).f1, .string (rd_T27 ys j).f2, .slice none 0 0, .slice none 0 0]) ?_ 3 _ rfl; refine blk_put (cs := #[.int .i64 (rd_T27 ys j).f0, .int .i64 (rd_T27 ys j).f1, .string (⟨#[]⟩ : ByteArray), .slice none 0 0, .slice none 0 0]) ?_ 2 _ rfl; refine blk_put (cs := #[.int .i64 (rd_T27 ys j).f0, .int .i64 0, .string (⟨#[]⟩ : ByteArray), .slice none 0 0, .slice none 0 0]) ?_ 1 _ rfl; refine blk_put (cs := #[.int .i64 0, .int .i64 0, .string (⟨#[]⟩ : ByteArray), .slice none 0 0, .slice none 0 0]) ?_ 0 _ rfl; exact hbox⟩; have n5_ : Aside0 ((((((w8.setCell ⟨gc, 0, none⟩ (.int .i64 (rd_T27 ys j).f0)).setCell ⟨gc, 1, none⟩ (.int .i64 (rd_T27 ys j).f1)).setCell ⟨gc, 2, none⟩ (.string (rd_T27 ys j).f2)).setCell ⟨gc, 3, none⟩ (.slice Y3 (rd_T27 ys j).f3.length yc3)).setCell ⟨gc, 4, none⟩ (.slice Y4 (rd_T27 ys j).f4.length yc4)).heap[gb]? = some (.cells #[.int .i64 (rd_T27 xs j).f0, .int .i64 (rd_T27 xs j).f1, .string (rd_T27 xs j).f2, .slice X3 (rd_T27 xs j).f3.length xc3, .slice X4 (rd_T27 xs j).f4.length xc4] 27 (0, 0))) := ⟨by refine blk_far ?_ hne _; refine blk_far ?_ hne _; refine blk_far ?_ hne _; refine blk_far ?_ hne _; refine blk_far ?_ hne _; exact blk_below n3_.out hb⟩; have n6_ : Aside0 (Below wr.heap.size wr (((((w8.setCell ⟨gc, 0, none⟩ (.int .i64 (rd_T27 ys j).f0)).setCell ⟨gc, 1, none⟩ (.int .i64 (rd_T27 ys j).f1)).setCell ⟨gc, 2, none⟩ (.string (rd_T27 ys j).f2)).setCell ⟨gc, 3, none⟩ (.slice Y3 (rd_T27 ys j).f3.length yc3)).setCell ⟨gc, 4, none⟩ (.slice Y4 (rd_T27 ys j).f4.length yc4))) := ⟨by refine below_set ?_ hge; refine below_set ?_ hge; refine below_set ?_ hge; refine below_set ?_ hge; refine below_set ?_ hge; exact below_step n1_.out hb⟩; have hcyy_0 := (blk_cell hbox 0).trans (rfl : _ = some (Value.int .i64 0)); have hfyy_0 := blk_frozen hbox 0; have hczy_0 := (blk_cell n4_.out 0).trans (rfl : _ = some (Value.int .i64 (rd_T27 ys j).f0)); have hcyy_1 := (blk_cell hbox 1).trans (rfl : _ = some (Value.int .i64 0)); have hfyy_1 := blk_frozen hbox 1; have hczy_1 := (blk_cell n4_.out 1).trans (rfl : _ = some (Value.int .i64 (rd_T27 ys j).f1)); have hcyy_2 := (blk_cell hbox 2).trans (rfl : _ = some (Value.string (⟨#[]⟩ : ByteArray))); have hfyy_2 := blk_frozen hbox 2; have hczy_2 := (blk_cell n4_.out 2).trans (rfl : _ = some (Value.string (rd_T27 ys j).f2)); have hcyy_3 := (blk_cell hbox 3).trans (rfl : _ = some (Value.slice none 0 0)); have hfyy_3 := blk_frozen hbox 3; have hczy_3 := (blk_cell n4_.out 3).trans (rfl : _ = some (Value.slice Y3 (rd_T27 ys j).f3.length yc3)); have hcyy_4 := (blk_cell hbox 4).trans (rfl : _ = some (Value.slice none 0 0)); have hfyy_4 := blk_frozen hbox 4; have hczy_4 := (blk_cell n4_.out 4).trans (rfl : _ = some (Value.slice Y4 (rd_T27 ys j).f4.length yc4)); obtain ⟨hcw_0, hcw_1, hcw_2, hcw_3, hcw_4⟩ := cl5 n5_; clear hb hbox hgc))
    ((with_reducible refine ((ih k1 (by have := HK1.out; omega)).1 (rd_T27 xs j) (rd_T27 ys j) X3 xc3 X4 xc4 Y3 yc3 Y4 yc4 b1 _ ?sx3 ?sx4 ?sy3 ?sy4 A1_.out).mono ?_); (case sx3 => exact Kd.C_below GX3.out n6_.out); (case sx4 => exact Kd.C_below GX4.out n6_.out); (case sy3 => exact Kd.C_below GY3.out n6_.out); (case sy4 => exact Kd.C_below GY4.out n6_.out); rintro e w7 ⟨rfl, hb7⟩)
    have n7_ := aS (below_step (below_step HB.out n6_.out) hb7)
    cases b1 with
    | false =>
     rw [if_neg (by decide)] at H
     obtain rfl := Option.some.inj H
     go_wp2
     go_ret
     exact ⟨rfl, n7_.out⟩
    | true =>
     rw [if_pos rfl] at H
     have H' := aS H
     clear H
     go_wp2
     go_roundg k1
     case measure => have := HK1.out; omega
     case rel => exact ⟨(wrap64 (j + 1)), br, H', ⟨by have := HK1.out; omega⟩, n7_⟩
def term_Equal.f (k : Nat) (a0_0 a0_1 : Int) (a0_2 : ByteArray) (l0_3 : List (S76)) (l0_4 : List (S27)) (a1_0 a1_1 : Int) (a1_2 : ByteArray) (l1_3 : List (S76)) (l1_4 : List (S27)) : Option Bool := teq.f k ⟨a0_0, a0_1, a0_2, l0_3, l0_4⟩ ⟨a1_0, a1_1, a1_2, l1_3, l1_4⟩
theorem term_Equal.calls (k : Nat) (a0_0 : Int) (a0_1 : Int) (a0_2 : ByteArray) (A0_3 : Option Addr) (c0_3 : Nat) (l0_3 : List (S76)) (A0_4 : Option Addr) (c0_4 : Nat) (l0_4 : List (S27)) (a1_0 : Int) (a1_1 : Int) (a1_2 : ByteArray) (A1_3 : Option Addr) (c1_3 : Nat) (l1_3 : List (S76)) (A1_4 : Option Addr) (c1_4 : Nat) (l1_4 : List (S27)) (r : Bool) (w : World) (hr0_3 : Kd.C k76 w A0_3 l0_3.length l0_3) (hc0_3 : l0_3.length ≤ c0_3) (hr0_4 : Kd.C k27 w A0_4 l0_4.length l0_4) (hc0_4 : l0_4.length ≤ c0_4) (hr1_3 : Kd.C k76 w A1_3 l1_3.length l1_3) (hc1_3 : l1_3.length ≤ c1_3) (hr1_4 : Kd.C k27 w A1_4 l1_4.length l1_4) (hc1_4 : l1_4.length ≤ c1_4) (h : term_Equal.f k a0_0 a0_1 a0_2 l0_3 l0_4 a1_0 a1_1 a1_2 l1_3 l1_4 = some r) :
  Calls Try.prog 85 #[.agg #[.int .i64 a0_0, .int .i64 a0_1, .string a0_2, .slice A0_3 l0_3.length c0_3, .slice A0_4 l0_4.length c0_4], .agg #[.int .i64 a1_0, .int .i64 a1_1, .string a1_2, .slice A1_3 l1_3.length c1_3, .slice A1_4 l1_4.length c1_4]] w fun e w' => e = .returned (.bool r) ∧ Below w.heap.size w w' :=
 (teq.both k).1 ⟨a0_0, a0_1, a0_2, l0_3, l0_4⟩ ⟨a1_0, a1_1, a1_2, l1_3, l1_4⟩ A0_3 c0_3 A0_4 c0_4 A1_3 c1_3 A1_4 c1_4 r w hr0_3 hr0_4 hr1_3 hr1_4 h
end Go.Proofs.Ytpejhapgffcngaa.QK

