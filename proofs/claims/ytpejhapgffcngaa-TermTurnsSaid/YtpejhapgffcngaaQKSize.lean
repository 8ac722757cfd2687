/- term.size: a counter by pointer. -/
import Derived.Test.YtpejhapgffcngaaXShort
import Derived.Test.YtpejhapgffcngaaQKApart
set_option linter.unusedVariables false
set_option linter.unusedSimpArgs false
namespace Go.Proofs.Ytpejhapgffcngaa.QK
open Go.RowKit Go.Proofs.YtpejhapgffcngaaW.PrintWords Go.Proofs.YtpejhapgffcngaaW.PrintLast Go.Proofs.YtpejhapgffcngaaW.PrintMore
attribute [local go_sem] max2_int min2_int max_two min_two max_three min_three max_four min_four
structure KB1 (w w1 : World) (g : Nat) : Prop where
 os : w1.os = w.os
 tape : w1.tape = w.tape
 output : w1.output = w.output
 keep : KeepBut w w1 g none
theorem KB1.trans {w w1 w2 : World} {g : Nat} (h : KB1 w w1 g) (k : KB1 w1 w2 g) : KB1 w w2 g := ⟨k.os.trans h.os, k.tape.trans h.tape, k.output.trans h.output, h.keep.trans k.keep (.inl rfl)⟩
theorem KB1.of_below {w w1 : World} (h : Below w.heap.size w w1) (g : Nat) : KB1 w w1 g := ⟨h.os, h.tape, h.output, KeepBut.of_below h g none⟩
theorem KB1.refl (w : World) (g : Nat) : KB1 w w g := ⟨rfl, rfl, rfl, KeepBut.refl w g none⟩
theorem KB1.set_ {w w1 : World} {g : Nat} (h : KB1 w w1 g) (j : Nat) (u : Value) : KB1 w (w1.setCell ⟨g, j, none⟩ u) g := ⟨((Below.refl 0 w1).setCell (p := ⟨g, j, none⟩) (Nat.zero_le _) u).os.trans h.os, ((Below.refl 0 w1).setCell (p := ⟨g, j, none⟩) (Nat.zero_le _) u).tape.trans h.tape, ((Below.refl 0 w1).setCell (p := ⟨g, j, none⟩) (Nat.zero_le _) u).output.trans h.output, h.keep.set_ j u⟩
theorem KB1.far {w w1 : World} {g : Nat} (h : KB1 w w1 g) {p : Addr} (hp : w.heap.size ≤ p.block) (u : Value) : KB1 w (w1.setCell p u) g := ⟨((Below.refl 0 w1).setCell (p := p) (Nat.zero_le _) u).os.trans h.os, ((Below.refl 0 w1).setCell (p := p) (Nat.zero_le _) u).tape.trans h.tape, ((Below.refl 0 w1).setCell (p := p) (Nat.zero_le _) u).output.trans h.output, keep_far h.keep hp u⟩
theorem below_of_but {b : Nat} {w w1 w2 : World} {g : Nat} (h : Below b w w1) (k : KB1 w1 w2 g) (hb : b ≤ w1.heap.size) (hg : b ≤ g) : Below b w w2 := ⟨k.os.trans h.os, k.tape.trans h.tape, k.output.trans h.output, Nat.le_trans h.size k.keep.1, fun i hi => (k.keep.2 i (Nat.lt_of_lt_of_le hi hb) (by omega) (by simp)).trans (h.block i hi)⟩
theorem foot_T27 {w : World} {A : Option Addr} {n g : Nat} {v : Value} {xs : List S27} (h : ∀ W, KB1 w W g → Kd.C k27 W A n xs) (hg : w.heap[g]? = some (.cells #[v] 3 (0, 0))) (i : Int) (h0 : 0 ≤ i) (h1 : i < n) :
  ∃ ad A3 c3 A4 c4, A = some ad ∧ w.cell? (ad.add (i.toNat * 5)) = some (.int .i64 (rd_T27 xs i).f0) ∧ w.cell? ⟨(ad.add (i.toNat * 5)).block, (ad.add (i.toNat * 5)).off + 1, none⟩ = some (.int .i64 (rd_T27 xs i).f1) ∧ w.cell? ⟨(ad.add (i.toNat * 5)).block, (ad.add (i.toNat * 5)).off + 2, none⟩ = some (.string (rd_T27 xs i).f2) ∧ w.cell? ⟨(ad.add (i.toNat * 5)).block, (ad.add (i.toNat * 5)).off + 3, none⟩ = some (.slice A3 (rd_T27 xs i).f3.length c3) ∧ w.cell? ⟨(ad.add (i.toNat * 5)).block, (ad.add (i.toNat * 5)).off + 4, none⟩ = some (.slice A4 (rd_T27 xs i).f4.length c4) ∧ (rd_T27 xs i).f4.length ≤ c4 ∧ (∀ W, KB1 w W g → Kd.C k76 W A3 (rd_T27 xs i).f3.length (rd_T27 xs i).f3) ∧ (∀ W, KB1 w W g → Kd.C k27 W A4 (rd_T27 xs i).f4.length (rd_T27 xs i).f4) := by
 obtain ⟨ad, A3, c3, A4, c4, e, x0, x1, x2, x3, x4, l3, g3, l4, g4⟩ := at_T27 (h w (KB1.refl w g)) i h0 h1
 have hne : (ad.add (i.toNat * 5)).block ≠ g := by
  intro hb
  rw [hb] at x2
  have := (blk_cell hg ((ad.add (i.toNat * 5)).off + 2)).symm.trans x2
  simp at this
 refine ⟨ad, A3, c3, A4, c4, e, x0, x1, x2, x3, x4, l4, fun W hk => ?_, fun W hk => ?_⟩ <;>
 ·obtain ⟨ad', A3', c3', A4', c4', e', y0, y1, y2, y3, y4, m3, k3, m4, k4⟩ := at_T27 (h W hk) i h0 h1
  obtain rfl : ad = ad' := Option.some.inj (e.symm.trans e')
  have q3 := (keep_cell hk.keep x3 hne).symm.trans y3
  have q4 := (keep_cell hk.keep x4 hne).symm.trans y4
  simp only [Option.some.injEq, Value.slice.injEq] at q3 q4
  first | (rw [q3.1]; exact k3) | (rw [q4.1]; exact k4)
mutual
def size.l0 : Nat → List (S27) → Int → Int → Int → Option Int
 | 0, _, _, _, _ => none
 | k + 1, xs, i, n, most => if i < (xs.length : Int) then (if 0 ≤ i then ((size.f k ((rd_T27 xs i).f4) n most).bind fun n1 => if n1 > most then some n1 else size.l0 k xs (wrap64 (i + 1)) n1 most) else none) else some n
def size.f : Nat → List (S27) → Int → Int → Option Int
 | 0, _, _, _ => none
 | k + 1, xs, n, most => if wrap64 (n + 1) > most then some (wrap64 (n + 1)) else size.l0 k xs 0 (wrap64 (n + 1)) most
end
set_option maxHeartbeats 8000000 in
set_option maxRecDepth 100000 in
theorem size.calls (k : Nat) : ∀ (a0_0 : Int) (a0_1 : Int) (a0_2 : ByteArray) (A0_3 : Option Addr) (n3 c0_3 : Nat) (A0_4 : Option Addr) (c0_4 : Nat) (l0_4 : List (S27)) (g : Nat) (n most r : Int) (w : World) (hg : w.heap[g]? = some (.cells #[.int .i64 n] 3 (0, 0))) (hr0_4 : ∀ W, KB1 w W g → Kd.C k27 W A0_4 l0_4.length l0_4) (h : size.f k l0_4 n most = some r),
  Calls Try.prog 96 #[.agg #[.int .i64 a0_0, .int .i64 a0_1, .string a0_2, .slice A0_3 n3 c0_3, .slice A0_4 l0_4.length c0_4], .pointer (some ⟨g, 0, none⟩), .int .i64 most] w fun e w' => e = .returned (.tuple #[]) ∧ w'.heap[g]? = some (.cells #[.int .i64 r] 3 (0, 0)) ∧ KB1 w w' g := by
 induction k using Nat.strongRecOn with
 | _ k ih =>
 intro a0_0 a0_1 a0_2 A0_3 n3 c0_3 A0_4 c0_4 l0_4 g n most r w hg hr0_4 h
 cases k with
 | zero => exact absurd h (by simp [size.f])
 | succ k =>
 simp only [size.f] at h
 have hu27 := Try.underlying27
 have HR := aS hr0_4
 have HG := aS hg
 clear hr0_4 hg
 by_cases c1 : wrap64 (n + 1) > most
 ·rw [if_pos c1] at h
  obtain rfl := Option.some.inj h
  have c1b : decide (most < wrap64 (n + 1)) = true := decide_eq_true c1
  clear c1 h
  go_enter Try.func96, Try.ntmps96
  go_wp2_with (first | ((with_reducible refine gate_dst (N := 3) rfl ?_); refine bx (N := 3) (t := 27) #[.int .i64 a0_0, .int .i64 a0_1, .string a0_2, .slice A0_3 n3 c0_3, .slice A0_4 l0_4.length c0_4] ?_; intro gt hgt w1 hbox hb; have hne : gt ≠ g := (by rw [hgt]; exact Nat.ne_of_gt (blk_lt HG.out)); have n0_ := aS (KB1.of_below hb g); have n1_ := aS (blk_below HG.out hb); have hcg := cell_of_one n1_.out; have hfg := free_of_one n1_.out; have n2_ : Aside0 ((w1.setCell ⟨g, 0, none⟩ (.int .i64 (wrap64 (n + 1)))).heap[g]? = some (.cells #[.int .i64 (wrap64 (n + 1))] 3 (0, 0))) := ⟨one_setCell n1_.out⟩; have n3_ : Aside0 ((w1.setCell ⟨g, 0, none⟩ (.int .i64 (wrap64 (n + 1)))).heap[gt]? = some (.cells #[.int .i64 a0_0, .int .i64 a0_1, .string a0_2, .slice A0_3 n3 c0_3, .slice A0_4 l0_4.length c0_4] 27 (0, 0))) := ⟨blk_far hbox hne _⟩; have n4_ : Aside0 (KB1 w (w1.setCell ⟨g, 0, none⟩ (.int .i64 (wrap64 (n + 1)))) g) := ⟨KB1.set_ n0_.out 0 _⟩; have hcg2 := cell_of_one n2_.out; obtain ⟨hct_0, hct_1, hct_2, hct_3, hct_4⟩ := cl5 n3_; clear hb hbox hgt))
  ((try simp only [Exit.inBlock, Exit.then]); refine bodyPost_ret (results_none rfl _ _ _) rfl ?_)
  exact ⟨rfl, n2_.out, n4_.out⟩
 rw [if_neg c1] at h
 have c1b : decide (most < wrap64 (n + 1)) = false := decide_eq_false c1
 clear c1
 have H' := aS h
 clear h
 go_enter Try.func96, Try.ntmps96
 go_wp2_with (first | ((with_reducible refine gate_dst (N := 3) rfl ?_); refine bx (N := 3) (t := 27) #[.int .i64 a0_0, .int .i64 a0_1, .string a0_2, .slice A0_3 n3 c0_3, .slice A0_4 l0_4.length c0_4] ?_; intro gt hgt w1 hbox hb; have hne : gt ≠ g := (by rw [hgt]; exact Nat.ne_of_gt (blk_lt HG.out)); have n0_ := aS (KB1.of_below hb g); have n1_ := aS (blk_below HG.out hb); have hcg := cell_of_one n1_.out; have hfg := free_of_one n1_.out; have n2_ : Aside0 ((w1.setCell ⟨g, 0, none⟩ (.int .i64 (wrap64 (n + 1)))).heap[g]? = some (.cells #[.int .i64 (wrap64 (n + 1))] 3 (0, 0))) := ⟨one_setCell n1_.out⟩; have n3_ : Aside0 ((w1.setCell ⟨g, 0, none⟩ (.int .i64 (wrap64 (n + 1)))).heap[gt]? = some (.cells #[.int .i64 a0_0, .int .i64 a0_1, .string a0_2, .slice A0_3 n3 c0_3, .slice A0_4 l0_4.length c0_4] 27 (0, 0))) := ⟨blk_far hbox hne _⟩; have n4_ : Aside0 (KB1 w (w1.setCell ⟨g, 0, none⟩ (.int .i64 (wrap64 (n + 1)))) g) := ⟨KB1.set_ n0_.out 0 _⟩; have hcg2 := cell_of_one n2_.out; obtain ⟨hct_0, hct_1, hct_2, hct_3, hct_4⟩ := cl5 n3_; clear hb hbox hgt))
 go_loopg [21] k (fun kq v21 w' => ∃ (x n1 : Int), v21 = .int .i64 x ∧ Aside0 (size.l0 kq l0_4 x n1 most = some r) ∧ Aside0 (kq ≤ k) ∧ Aside0 (w'.heap[gt]? = some (.cells #[.int .i64 a0_0, .int .i64 a0_1, .string a0_2, .slice A0_3 n3 c0_3, .slice A0_4 l0_4.length c0_4] 27 (0, 0))) ∧ Aside0 (w'.heap[g]? = some (.cells #[.int .i64 n1] 3 (0, 0))) ∧ Aside0 (KB1 w w' g))
 case atStart => exact ⟨0, wrap64 (n + 1), br, H', ⟨Nat.le_refl _⟩, n3_, n2_, n4_⟩
 case round =>
  clear H'
  try clear hcg hfg hcg2 c1b
  try clear hct_0 hct_1 hct_2 hct_3 hct_4
  try clear n0_ n1_ n2_ n3_ n4_
  obtain ⟨x, n1, rfl, HA, HK1, BKt, BKg, KB⟩ := hrel
  cases gk with
  | zero => exact absurd HA.out (by simp [size.l0])
  | succ k1 =>
   have H := HA.out
   clear HA
   simp only [size.l0] at H
   by_cases c8 : x < (l0_4.length : Int)
   rotate_left
   ·rw [if_neg c8] at H
    have c8b := decide_eq_false c8
    clear c8
    obtain rfl := Option.some.inj H
    go_wp2
    ((try simp only [Exit.inBlock, Exit.then]); refine bodyPost_end (results_none rfl _ _ _) rfl ?_)
    exact ⟨rfl, BKg.out, KB.out⟩
   rw [if_pos c8] at H
   have c8b := decide_eq_true c8
   by_cases c9 : 0 ≤ x
   rotate_left
   ·rw [if_neg c9] at H
    cases H
   rw [if_pos c9] at H
   have c9b := decide_eq_true c9
   replace H := Option.bind_eq_some_iff.mp H
   obtain ⟨m1, A1, H⟩ := H
   try dsimp only at H
   have A1_ := aS A1
   clear A1
   obtain ⟨ad, A3, c3, A4, c4, e1, hx0, hx1, hx2, hx3, hx4, l4, G3, G4⟩ := foot_T27 (fun W hW => HR.out W (KB.out.trans hW)) BKg.out x c9 c8
   cases e1
   have HG4 := aS G4
   clear G3 G4
   replace c8 := eq_true c8
   replace c9 := eq_true c9
   go_wp2_with (first | ((with_reducible refine gate_dst (N := 7) rfl ?_); refine bx (N := 7) (t := 27) #[.int .i64 0, .int .i64 0, .string (⟨#[]⟩ : ByteArray), .slice none 0 0, .slice none 0 0] ?_; intro gb hgb w5 hbox hb; have hgw : wr.heap.size ≤ gb := (by rw [hgb]; exact Nat.le_refl _); have hnb : gb ≠ g := (by rw [hgb]; exact Nat.ne_of_gt (blk_lt BKg.out)); have hnt : gb ≠ gt := (by rw [hgb]; exact Nat.ne_of_gt (blk_lt BKt.out)); have hge : w.heap.size ≤ gb := (by rw [hgb]; exact keep_size KB.out.keep); have n0_ := aS (blk_below BKt.out hb); have n1_ := aS (blk_below BKg.out hb); have n2_ := aS (KB.out.trans (KB1.of_below hb g)); have n3_ : Aside0 ((((((w5.setCell ⟨gb, 0, none⟩ (.int .i64 ((rd_T27 l0_4 x).f0))).setCell ⟨gb, 1, none⟩ (.int .i64 ((rd_T27 l0_4 x).f1))).setCell ⟨gb, 2, none⟩ (.string ((rd_T27 l0_4 x).f2))).setCell ⟨gb, 3, none⟩ (.slice A3 ((rd_T27 l0_4 x).f3).length c3)).setCell ⟨gb, 4, none⟩ (.slice A4 ((rd_T27 l0_4 x).f4).length c4)).heap[gb]? = some (.cells #[.int .i64 ((rd_T27 l0_4 x).f0), .int .i64 ((rd_T27 l0_4 x).f1), .string ((rd_T27 l0_4 x).f2), .slice A3 ((rd_T27 l0_4 x).f3).length c3, .slice A4 ((rd_T27 l0_4 x).f4).length c4] 27 (0, 0))) := ⟨by refine blk_put (cs := #[.int .i64 ((rd_T27 l0_4 x).f0), .int .i64 ((rd_T27 l0_4 x).f1), .string ((rd_T27 l0_4 x).f2), .slice A3 ((rd_T27 l0_4 x).f3).length c3, .slice none 0 0]) ?_ 4 _ rfl; refine blk_put (cs := #[.int .i64 ((rd_T27 l0_4 x).f0), .int .i64 ((rd_T27 l0_4 x).f1), .string ((rd_T27 l0_4 x).f2), .slice none 0 0, .slice none 0 0]) ?_ 3 _ rfl; refine blk_put (cs := #[.int .i64 ((rd_T27 l0_4 x).f0), .int .i64 ((rd_T27 l0_4 x).f1), .string (⟨#[]⟩ : ByteArray), .slice none 0 0, .slice none 0 0]) ?_ 2 _ rfl; refine blk_put (cs := #[.int .i64 ((rd_T27 l0_4 x).f0), .int .i64 0, .string (⟨#[]⟩ : ByteArray), .slice none 0 0, .slice none 0 0]) ?_ 1 _ rfl; refine blk_put (cs := #[.int .i64 0, .int .i64 0, .string (⟨#[]⟩ : ByteArray), .slice none 0 0, .slice none 0 0]) ?_ 0 _ rfl; exact hbox⟩; have n4_ : Aside0 ((((((w5.setCell ⟨gb, 0, none⟩ (.int .i64 ((rd_T27 l0_4 x).f0))).setCell ⟨gb, 1, none⟩ (.int .i64 ((rd_T27 l0_4 x).f1))).setCell ⟨gb, 2, none⟩ (.string ((rd_T27 l0_4 x).f2))).setCell ⟨gb, 3, none⟩ (.slice A3 ((rd_T27 l0_4 x).f3).length c3)).setCell ⟨gb, 4, none⟩ (.slice A4 ((rd_T27 l0_4 x).f4).length c4)).heap[gt]? = some (.cells #[.int .i64 a0_0, .int .i64 a0_1, .string a0_2, .slice A0_3 n3 c0_3, .slice (some ad) l0_4.length c0_4] 27 (0, 0))) := ⟨by refine blk_far ?_ hnt.symm _; refine blk_far ?_ hnt.symm _; refine blk_far ?_ hnt.symm _; refine blk_far ?_ hnt.symm _; refine blk_far ?_ hnt.symm _; exact n0_.out⟩; have n5_ : Aside0 ((((((w5.setCell ⟨gb, 0, none⟩ (.int .i64 ((rd_T27 l0_4 x).f0))).setCell ⟨gb, 1, none⟩ (.int .i64 ((rd_T27 l0_4 x).f1))).setCell ⟨gb, 2, none⟩ (.string ((rd_T27 l0_4 x).f2))).setCell ⟨gb, 3, none⟩ (.slice A3 ((rd_T27 l0_4 x).f3).length c3)).setCell ⟨gb, 4, none⟩ (.slice A4 ((rd_T27 l0_4 x).f4).length c4)).heap[g]? = some (.cells #[.int .i64 n1] 3 (0, 0))) := ⟨by refine blk_far ?_ hnb.symm _; refine blk_far ?_ hnb.symm _; refine blk_far ?_ hnb.symm _; refine blk_far ?_ hnb.symm _; refine blk_far ?_ hnb.symm _; exact n1_.out⟩; have n6_ : Aside0 (KB1 w (((((w5.setCell ⟨gb, 0, none⟩ (.int .i64 ((rd_T27 l0_4 x).f0))).setCell ⟨gb, 1, none⟩ (.int .i64 ((rd_T27 l0_4 x).f1))).setCell ⟨gb, 2, none⟩ (.string ((rd_T27 l0_4 x).f2))).setCell ⟨gb, 3, none⟩ (.slice A3 ((rd_T27 l0_4 x).f3).length c3)).setCell ⟨gb, 4, none⟩ (.slice A4 ((rd_T27 l0_4 x).f4).length c4)) g) := ⟨by refine KB1.far ?_ hge _; refine KB1.far ?_ hge _; refine KB1.far ?_ hge _; refine KB1.far ?_ hge _; refine KB1.far ?_ hge _; exact n2_.out⟩; have hcy_0 := (blk_cell hbox 0).trans (rfl : _ = some (Value.int .i64 0)); have hcy_1 := (blk_cell hbox 1).trans (rfl : _ = some (Value.int .i64 0)); have hcy_2 := (blk_cell hbox 2).trans (rfl : _ = some (Value.string (⟨#[]⟩ : ByteArray))); have hcy_3 := (blk_cell hbox 3).trans (rfl : _ = some (Value.slice none 0 0)); have hcy_4 := (blk_cell hbox 4).trans (rfl : _ = some (Value.slice none 0 0)); have hfy_0 := blk_frozen hbox 0; have hfy_1 := blk_frozen hbox 1; have hfy_2 := blk_frozen hbox 2; have hfy_3 := blk_frozen hbox 3; have hfy_4 := blk_frozen hbox 4; have hcz_0 := (blk_cell n3_.out 0).trans (rfl : _ = some (Value.int .i64 ((rd_T27 l0_4 x).f0))); have hcz_1 := (blk_cell n3_.out 1).trans (rfl : _ = some (Value.int .i64 ((rd_T27 l0_4 x).f1))); have hcz_2 := (blk_cell n3_.out 2).trans (rfl : _ = some (Value.string ((rd_T27 l0_4 x).f2))); have hcz_3 := (blk_cell n3_.out 3).trans (rfl : _ = some (Value.slice A3 ((rd_T27 l0_4 x).f3).length c3)); have hcz_4 := (blk_cell n3_.out 4).trans (rfl : _ = some (Value.slice A4 ((rd_T27 l0_4 x).f4).length c4)); have KB6 : Aside0 (KB1 wr (((((w5.setCell ⟨gb, 0, none⟩ (.int .i64 ((rd_T27 l0_4 x).f0))).setCell ⟨gb, 1, none⟩ (.int .i64 ((rd_T27 l0_4 x).f1))).setCell ⟨gb, 2, none⟩ (.string ((rd_T27 l0_4 x).f2))).setCell ⟨gb, 3, none⟩ (.slice A3 ((rd_T27 l0_4 x).f3).length c3)).setCell ⟨gb, 4, none⟩ (.slice A4 ((rd_T27 l0_4 x).f4).length c4)) g) := ⟨by refine KB1.far ?_ hgw _; refine KB1.far ?_ hgw _; refine KB1.far ?_ hgw _; refine KB1.far ?_ hgw _; refine KB1.far ?_ hgw _; exact KB1.of_below hb g⟩; clear hb hbox hgb))
   ((with_reducible refine (ih k1 (by have := HK1.out; omega) ((rd_T27 l0_4 x).f0) ((rd_T27 l0_4 x).f1) ((rd_T27 l0_4 x).f2) A3 _ c3 A4 c4 ((rd_T27 l0_4 x).f4) g n1 most m1 _ n5_.out ?side1 A1_.out).mono ?_); (case side1 => exact fun W hW => HG4.out W (KB6.out.trans hW)); rintro e w7 ⟨rfl, hg7, hk7⟩)
   have n7_ := aS hg7
   have n8_ := aS (hk7.keep.blk n4_.out hne (by simp))
   have n9_ := aS (n6_.out.trans hk7)
   have hcg7 := cell_of_one hg7
   by_cases c10 : m1 > most
   ·rw [if_pos c10] at H
    have c10b : decide (most < m1) = true := decide_eq_true c10
    clear c10
    obtain rfl := Option.some.inj H
    go_wp2
    ((try simp only [Exit.inBlock, Exit.then]); refine bodyPost_ret (results_none rfl _ _ _) rfl ?_)
    exact ⟨rfl, n7_.out, n9_.out⟩
   rw [if_neg c10] at H
   have c10b : decide (most < m1) = false := decide_eq_false c10
   clear c10
   have H' := aS H
   clear H
   go_wp2
   go_roundg k1
   case measure => have := HK1.out; omega
   case rel => exact ⟨(wrap64 (x + 1)), m1, br, H', ⟨by have := HK1.out; omega⟩, n8_, n7_, n9_⟩
end Go.Proofs.Ytpejhapgffcngaa.QK

