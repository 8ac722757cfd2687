/- level.may: a counter by pointer; level.May. -/
import Derived.Test.YtpejhapgffcngaaXShort
import Derived.Test.YtpejhapgffcngaaQKSize
import Derived.Test.YtpejhapgffcngaaQKx9
import Derived.Deep.QuietTactic
import Derived.BigQuiet
import Derived.Outline
set_option linter.unusedVariables false
set_option linter.unusedSimpArgs false
namespace Go.Proofs.Ytpejhapgffcngaa.QK
open Go.RowKit Go.Proofs.YtpejhapgffcngaaW.PrintWords Go.Proofs.YtpejhapgffcngaaW.PrintLast Go.Proofs.YtpejhapgffcngaaW.PrintMore
theorem max2_mx' (k k' : IntKind) (x y : Int) : Builtin.max2 (.int k x) (.int k' y) = pure (.int k (mx x y)) := max2_int k k' x y
theorem min2_mn' (k k' : IntKind) (x y : Int) : Builtin.min2 (.int k x) (.int k' y) = pure (.int k (mn x y)) := min2_int k k' x y
attribute [local go_sem] max2_mx' min2_mn' max_two min_two max_three min_three max_four min_four
theorem KB1.drewN {w w1 : World} {g : Nat} (h : KB1 w w1 g) (n : Nat) : KB1 w (w1.drewN n) g := ⟨h.os, h.tape, h.output, h.keep⟩
theorem foot_T76 {w : World} {A : Option Addr} {n g : Nat} {v : Value} {xs : List S76} (h : ∀ W, KB1 w W g → Kd.C k76 W A n xs) (hg : w.heap[g]? = some (.cells #[v] 3 (0, 0))) (i : Int) (h0 : 0 ≤ i) (h1 : i < n) :
  ∃ ad A2 c2, A = some ad ∧ w.cell? (ad.add (i.toNat * 3)) = some (.int .i64 (rd_T76 xs i).f0) ∧ w.cell? ⟨(ad.add (i.toNat * 3)).block, (ad.add (i.toNat * 3)).off + 1, none⟩ = some (.int .i64 (rd_T76 xs i).f1) ∧ w.cell? ⟨(ad.add (i.toNat * 3)).block, (ad.add (i.toNat * 3)).off + 2, none⟩ = some (.slice A2 (rd_T76 xs i).f2.length c2) ∧ (∀ W, KB1 w W g → Kd.C k76 W A2 (rd_T76 xs i).f2.length (rd_T76 xs i).f2) := by
 obtain ⟨ad, A2, c2, e, x0, x1, x2, l2, g2⟩ := at_T76 (h w (KB1.refl w g)) i h0 h1
 have hne : (ad.add (i.toNat * 3)).block ≠ g := by
  intro hb
  rw [hb] at x2
  have := (blk_cell hg ((ad.add (i.toNat * 3)).off + 2)).symm.trans x2
  simp at this
 refine ⟨ad, A2, c2, e, x0, x1, x2, fun W hk => ?_⟩
 obtain ⟨ad', A2', c2', e', y0, y1, y2, m2, k2⟩ := at_T76 (h W hk) i h0 h1
 obtain rfl : ad = ad' := Option.some.inj (e.symm.trans e')
 have q2 := (keep_cell hk.keep x2 hne).symm.trans y2
 simp only [Option.some.injEq, Value.slice.injEq] at q2
 rw [q2.1]; exact k2
def argsL (k : Int) : Int := if k = 0 ∨ k = 4 then 0 else if k = 1 then 1 else if k = 2 ∨ k = 3 then 2 else -1
theorem largs_is {q : Nat} (hq : 2 ≤ q) (k : Int) : level_args.f q k = some (argsL k) := by
 obtain ⟨q, rfl⟩ : ∃ m, q = m + 2 := ⟨q - 2, by omega⟩
 unfold argsL level_args.f
 by_cases h0 : k = 0
 ·subst h0; rfl
 rw [if_neg h0]
 by_cases h4 : k = 4
 ·subst h4; rfl
 simp only [level_args.j0, h0, h4, beq_iff_eq, or_self, if_false]
 by_cases h1 : k = 1
 ·subst h1; rfl
 by_cases h2 : k = 2
 ·subst h2; rfl
 by_cases h3 : k = 3
 ·subst h3; rfl
 simp [h1, h2, h3]
theorem largs_quiet (w : World) (a : Nat) (k : Int) : Calls Try.prog 164 #[.int .i64 k] (w.drewN a) fun e w'' => e = .returned (.int .i64 (argsL k)) ∧ ∃ m, w'' = w.drewN m :=
 Calls.quiet_of (w := w) (n := a) ((level_args.calls 2 k _ (w.drewN a) (largs_is (Nat.le_refl _) k)).mono fun e w' ⟨he, m, hm⟩ => ⟨he, m, hm⟩)
theorem largs_quiet2 (w : World) (m a : Nat) (k : Int) : Calls Try.prog 164 #[.int .i64 k] (w.drewN (m + a)) fun e w'' => e = .returned (.int .i64 (argsL k)) ∧ ∃ n, w'' = w.drewN (m + n) := by
 have h := largs_quiet (w.drewN m) a k
 simp only [World.drewN_drewN] at h
 exact h
def badL (k n params : Int) : Bool := if k = 4 then decide (n < 0 ∨ n ≥ params) else decide (n ≠ 0)
mutual
def lmay.l0 : Nat → List (S76) → Int → Int → Int → Int → Option (Int × Bool)
 | 0, _, _, _, _, _ => none
 | k + 1, xs, i, params, deep, p => if i < (xs.length : Int) then (if 0 ≤ i then ((lmay.f k (rd_T76 xs i) params (wrap64 (deep + 1)) p).bind fun q => if q.2 = false then some (q.1, false) else lmay.l0 k xs (wrap64 (i + 1)) params deep q.1) else none) else some (p, true)
def lmay.f : Nat → S76 → Int → Int → Int → Option (Int × Bool)
 | 0, _, _, _, _ => none
 | k + 1, x, params, deep, p => if deep > 32 then some (wrap64 (p + 1), false) else if wrap64 (p + 1) > 64 then some (wrap64 (p + 1), false) else if argsL x.f0 ≠ (x.f2.length : Int) then some (wrap64 (p + 1), false) else if badL x.f0 x.f1 params = true then some (wrap64 (p + 1), false) else lmay.l0 k x.f2 0 params deep (wrap64 (p + 1))
end
set_option maxHeartbeats 8000000 in
set_option maxRecDepth 100000 in
theorem lmay.calls (k : Nat) : ∀ (x : S76) (A0_2 : Option Addr) (c0_2 : Nat) (params deep : Int) (g : Nat) (p : Int) (r : Int × Bool) (w : World) (hg : w.heap[g]? = some (.cells #[.int .i64 p] 3 (0, 0))) (hr0_2 : ∀ W, KB1 w W g → Kd.C k76 W A0_2 x.f2.length x.f2) (h : lmay.f k x params deep p = some r),
  Calls Try.prog 142 #[.agg #[.int .i64 x.f0, .int .i64 x.f1, .slice A0_2 x.f2.length c0_2], .int .i64 params, .int .i64 deep, .pointer (some ⟨g, 0, none⟩)] w fun e w' => e = .returned (.bool r.2) ∧ w'.heap[g]? = some (.cells #[.int .i64 r.1] 3 (0, 0)) ∧ KB1 w w' g := by
 induction k using Nat.strongRecOn with
 | _ k ih =>
 intro x A0_2 c0_2 params deep g p r w hg hr0_2 h
 cases k with
 | zero => exact absurd h (by simp [lmay.f])
 | succ k =>
 simp only [lmay.f] at h
 have hu76 := Try.underlying76
 have HR := aS hr0_2
 have HG := aS hg
 clear hr0_2 hg
 by_cases c1 : deep > 32
 ·rw [if_pos c1] at h
  obtain rfl := Option.some.inj h
  have c1b : decide (32 < deep) = true := decide_eq_true c1
  clear c1 h
  go_enter Try.func142, Try.ntmps142
  go_wp2_with (first | ((with_reducible refine gate_dst (N := 4) rfl ?_); refine bx (N := 4) (t := 76) #[.int .i64 x.f0, .int .i64 x.f1, .slice A0_2 x.f2.length c0_2] ?_; intro gt hgt w1 hbox hb; have hne : gt ≠ g := (by rw [hgt]; exact Nat.ne_of_gt (blk_lt HG.out)); have n0_ := aS (KB1.of_below hb g); have n1_ := aS (blk_below HG.out hb); have hcg := cell_of_one n1_.out; have hfg := free_of_one n1_.out; have n2_ : Aside0 ((w1.setCell ⟨g, 0, none⟩ (.int .i64 (wrap64 (p + 1)))).heap[g]? = some (.cells #[.int .i64 (wrap64 (p + 1))] 3 (0, 0))) := ⟨one_setCell n1_.out⟩; have n3_ : Aside0 ((w1.setCell ⟨g, 0, none⟩ (.int .i64 (wrap64 (p + 1)))).heap[gt]? = some (.cells #[.int .i64 x.f0, .int .i64 x.f1, .slice A0_2 x.f2.length c0_2] 76 (0, 0))) := ⟨blk_far hbox hne _⟩; have n4_ : Aside0 (KB1 w (w1.setCell ⟨g, 0, none⟩ (.int .i64 (wrap64 (p + 1)))) g) := ⟨KB1.set_ n0_.out 0 _⟩; have hcg2 := cell_of_one n2_.out; obtain ⟨hct_0, hct_1, hct_2⟩ := cl3 n3_; clear hb hbox hgt))
  go_quiet (first | exact largs_quiet _ _ x.f0 | exact largs_quiet2 _ _ _ x.f0)
  go_wp2
  go_ret
  exact ⟨by first | rfl | (simp [*]; done), n2_.out, n4_.out.drewN _⟩
 rw [if_neg c1] at h
 have c1b : decide (32 < deep) = false := decide_eq_false c1
 clear c1
 by_cases c2 : wrap64 (p + 1) > 64
 ·rw [if_pos c2] at h
  obtain rfl := Option.some.inj h
  have c2b : decide (64 < wrap64 (p + 1)) = true := decide_eq_true c2
  clear c2 h
  go_enter Try.func142, Try.ntmps142
  go_wp2_with (first | ((with_reducible refine gate_dst (N := 4) rfl ?_); refine bx (N := 4) (t := 76) #[.int .i64 x.f0, .int .i64 x.f1, .slice A0_2 x.f2.length c0_2] ?_; intro gt hgt w1 hbox hb; have hne : gt ≠ g := (by rw [hgt]; exact Nat.ne_of_gt (blk_lt HG.out)); have n0_ := aS (KB1.of_below hb g); have n1_ := aS (blk_below HG.out hb); have hcg := cell_of_one n1_.out; have hfg := free_of_one n1_.out; have n2_ : Aside0 ((w1.setCell ⟨g, 0, none⟩ (.int .i64 (wrap64 (p + 1)))).heap[g]? = some (.cells #[.int .i64 (wrap64 (p + 1))] 3 (0, 0))) := ⟨one_setCell n1_.out⟩; have n3_ : Aside0 ((w1.setCell ⟨g, 0, none⟩ (.int .i64 (wrap64 (p + 1)))).heap[gt]? = some (.cells #[.int .i64 x.f0, .int .i64 x.f1, .slice A0_2 x.f2.length c0_2] 76 (0, 0))) := ⟨blk_far hbox hne _⟩; have n4_ : Aside0 (KB1 w (w1.setCell ⟨g, 0, none⟩ (.int .i64 (wrap64 (p + 1)))) g) := ⟨KB1.set_ n0_.out 0 _⟩; have hcg2 := cell_of_one n2_.out; obtain ⟨hct_0, hct_1, hct_2⟩ := cl3 n3_; clear hb hbox hgt))
  go_quiet (first | exact largs_quiet _ _ x.f0 | exact largs_quiet2 _ _ _ x.f0)
  go_wp2
  go_ret
  exact ⟨by first | rfl | (simp [*]; done), n2_.out, n4_.out.drewN _⟩
 rw [if_neg c2] at h
 have c2b : decide (64 < wrap64 (p + 1)) = false := decide_eq_false c2
 clear c2
 by_cases c3 : argsL x.f0 ≠ (x.f2.length : Int)
 ·rw [if_pos c3] at h
  obtain rfl := Option.some.inj h
  have c3b : (argsL x.f0 != (x.f2.length : Int)) = true := bne_iff_ne.2 c3
  clear c3 h
  go_enter Try.func142, Try.ntmps142
  go_wp2_with (first | ((with_reducible refine gate_dst (N := 4) rfl ?_); refine bx (N := 4) (t := 76) #[.int .i64 x.f0, .int .i64 x.f1, .slice A0_2 x.f2.length c0_2] ?_; intro gt hgt w1 hbox hb; have hne : gt ≠ g := (by rw [hgt]; exact Nat.ne_of_gt (blk_lt HG.out)); have n0_ := aS (KB1.of_below hb g); have n1_ := aS (blk_below HG.out hb); have hcg := cell_of_one n1_.out; have hfg := free_of_one n1_.out; have n2_ : Aside0 ((w1.setCell ⟨g, 0, none⟩ (.int .i64 (wrap64 (p + 1)))).heap[g]? = some (.cells #[.int .i64 (wrap64 (p + 1))] 3 (0, 0))) := ⟨one_setCell n1_.out⟩; have n3_ : Aside0 ((w1.setCell ⟨g, 0, none⟩ (.int .i64 (wrap64 (p + 1)))).heap[gt]? = some (.cells #[.int .i64 x.f0, .int .i64 x.f1, .slice A0_2 x.f2.length c0_2] 76 (0, 0))) := ⟨blk_far hbox hne _⟩; have n4_ : Aside0 (KB1 w (w1.setCell ⟨g, 0, none⟩ (.int .i64 (wrap64 (p + 1)))) g) := ⟨KB1.set_ n0_.out 0 _⟩; have hcg2 := cell_of_one n2_.out; obtain ⟨hct_0, hct_1, hct_2⟩ := cl3 n3_; clear hb hbox hgt))
  go_quiet (first | exact largs_quiet _ _ x.f0 | exact largs_quiet2 _ _ _ x.f0)
  go_wp2
  go_ret
  exact ⟨by first | rfl | (simp [*]; done), n2_.out, n4_.out.drewN _⟩
 rw [if_neg c3] at h
 have c3b : (argsL x.f0 != (x.f2.length : Int)) = false := bne_eq_false_iff_eq.2 (by simpa using c3)
 clear c3
 unfold badL at h
 by_cases c4 : x.f0 = 4
 rotate_left
 ·rw [if_neg c4] at h
  have c4b : (x.f0 == 4) = false := beq_eq_false_iff_ne.2 c4
  have c4n : (x.f0 != 4) = true := bne_iff_ne.2 c4
  clear c4
  by_cases c5 : x.f1 = 0
  rotate_left
  ·rw [if_pos (by simpa using c5)] at h
   obtain rfl := Option.some.inj h
   have c5b : (x.f1 != 0) = true := bne_iff_ne.2 c5
   clear c5 h
   go_enter Try.func142, Try.ntmps142
   go_wp2_with (first | ((with_reducible refine gate_dst (N := 4) rfl ?_); refine bx (N := 4) (t := 76) #[.int .i64 x.f0, .int .i64 x.f1, .slice A0_2 x.f2.length c0_2] ?_; intro gt hgt w1 hbox hb; have hne : gt ≠ g := (by rw [hgt]; exact Nat.ne_of_gt (blk_lt HG.out)); have n0_ := aS (KB1.of_below hb g); have n1_ := aS (blk_below HG.out hb); have hcg := cell_of_one n1_.out; have hfg := free_of_one n1_.out; have n2_ : Aside0 ((w1.setCell ⟨g, 0, none⟩ (.int .i64 (wrap64 (p + 1)))).heap[g]? = some (.cells #[.int .i64 (wrap64 (p + 1))] 3 (0, 0))) := ⟨one_setCell n1_.out⟩; have n3_ : Aside0 ((w1.setCell ⟨g, 0, none⟩ (.int .i64 (wrap64 (p + 1)))).heap[gt]? = some (.cells #[.int .i64 x.f0, .int .i64 x.f1, .slice A0_2 x.f2.length c0_2] 76 (0, 0))) := ⟨blk_far hbox hne _⟩; have n4_ : Aside0 (KB1 w (w1.setCell ⟨g, 0, none⟩ (.int .i64 (wrap64 (p + 1)))) g) := ⟨KB1.set_ n0_.out 0 _⟩; have hcg2 := cell_of_one n2_.out; obtain ⟨hct_0, hct_1, hct_2⟩ := cl3 n3_; clear hb hbox hgt))
   go_quiet (first | exact largs_quiet _ _ x.f0 | exact largs_quiet2 _ _ _ x.f0)
   go_wp2
   go_ret
   exact ⟨by first | rfl | (simp [*]; done), n2_.out, n4_.out.drewN _⟩
  rw [if_neg (by simpa using c5)] at h
  have c5b : (x.f1 != 0) = false := bne_eq_false_iff_eq.2 c5
  clear c5
  have H' := aS h
  clear h
  go_enter Try.func142, Try.ntmps142
  go_wp2_with (first | ((with_reducible refine gate_dst (N := 4) rfl ?_); refine bx (N := 4) (t := 76) #[.int .i64 x.f0, .int .i64 x.f1, .slice A0_2 x.f2.length c0_2] ?_; intro gt hgt w1 hbox hb; have hne : gt ≠ g := (by rw [hgt]; exact Nat.ne_of_gt (blk_lt HG.out)); have n0_ := aS (KB1.of_below hb g); have n1_ := aS (blk_below HG.out hb); have hcg := cell_of_one n1_.out; have hfg := free_of_one n1_.out; have n2_ : Aside0 ((w1.setCell ⟨g, 0, none⟩ (.int .i64 (wrap64 (p + 1)))).heap[g]? = some (.cells #[.int .i64 (wrap64 (p + 1))] 3 (0, 0))) := ⟨one_setCell n1_.out⟩; have n3_ : Aside0 ((w1.setCell ⟨g, 0, none⟩ (.int .i64 (wrap64 (p + 1)))).heap[gt]? = some (.cells #[.int .i64 x.f0, .int .i64 x.f1, .slice A0_2 x.f2.length c0_2] 76 (0, 0))) := ⟨blk_far hbox hne _⟩; have n4_ : Aside0 (KB1 w (w1.setCell ⟨g, 0, none⟩ (.int .i64 (wrap64 (p + 1)))) g) := ⟨KB1.set_ n0_.out 0 _⟩; have hcg2 := cell_of_one n2_.out; obtain ⟨hct_0, hct_1, hct_2⟩ := cl3 n3_; clear hb hbox hgt))
  go_quiet (first | exact largs_quiet _ _ x.f0 | exact largs_quiet2 _ _ _ x.f0)
  go_wp2
  go_loopg [60] k (fun kq v21 w' => ∃ (j p1 : Int), v21 = .int .i64 j ∧ Aside0 (lmay.l0 kq x.f2 j params deep p1 = some r) ∧ Aside0 (kq ≤ k) ∧ Aside0 (w'.heap[gt]? = some (.cells #[.int .i64 x.f0, .int .i64 x.f1, .slice A0_2 x.f2.length c0_2] 76 (0, 0))) ∧ Aside0 (w'.heap[g]? = some (.cells #[.int .i64 p1] 3 (0, 0))) ∧ Aside0 (KB1 w w' g))
  case atStart => exact ⟨0, wrap64 (p + 1), br, H', ⟨Nat.le_refl _⟩, ⟨n3_.out⟩, ⟨n2_.out⟩, ⟨n4_.out.drewN _⟩⟩
  case round =>
   clear H'
   try clear hcg hfg hcg2
   try clear c1b c2b c3b
   try clear c4b c4n c5b
   try clear c6b
   try clear hct_0 hct_1 hct_2
   try clear n0_ n1_ n2_ n3_ n4_
   obtain ⟨j, p1, rfl, HA, HK1, BKt, BKg, KB⟩ := hrel
   cases gk with
   | zero => exact absurd HA.out (by simp [lmay.l0])
   | succ k1 =>
    have H := HA.out
    clear HA
    simp only [lmay.l0] at H
    by_cases c8 : j < (x.f2.length : Int)
    rotate_left
    ·rw [if_neg c8] at H
     have c8b := decide_eq_false c8
     clear c8
     obtain rfl := Option.some.inj H
     go_wp2
     go_ret
     exact ⟨rfl, BKg.out, KB.out⟩
    rw [if_pos c8] at H
    have c8b := decide_eq_true c8
    by_cases c9 : 0 ≤ j
    rotate_left
    ·rw [if_neg c9] at H
     cases H
    rw [if_pos c9] at H
    have c9b := decide_eq_true c9
    replace H := Option.bind_eq_some_iff.mp H
    obtain ⟨⟨m1, b1⟩, A1, H⟩ := H
    try dsimp only at H
    have A1_ := aS A1
    clear A1
    obtain ⟨ad, A2, c2, e1, hx0, hx1, hx2, G2⟩ := foot_T76 (fun W hW => HR.out W (KB.out.trans hW)) BKg.out j c9 c8
    cases e1
    have HG2 := aS G2
    clear G2
    replace c8 := eq_true c8
    replace c9 := eq_true c9
    go_wp2_with (first | ((with_reducible refine gate_dst (N := 10) rfl ?_); refine bx (N := 10) (t := 76) #[.int .i64 0, .int .i64 0, .slice none 0 0] ?_; intro gb hgb w5 hbox hb; have hgw : wr.heap.size ≤ gb := (by rw [hgb]; exact Nat.le_refl _); have hnb : gb ≠ g := (by rw [hgb]; exact Nat.ne_of_gt (blk_lt BKg.out)); have hnt : gb ≠ gt := (by rw [hgb]; exact Nat.ne_of_gt (blk_lt BKt.out)); have hge : w.heap.size ≤ gb := (by rw [hgb]; exact keep_size KB.out.keep); have n0_ := aS (blk_below BKt.out hb); have n1_ := aS (blk_below BKg.out hb); have n2_ := aS (KB.out.trans (KB1.of_below hb g)); have n3_ : Aside0 ((((w5.setCell ⟨gb, 0, none⟩ (.int .i64 ((rd_T76 x.f2 j).f0))).setCell ⟨gb, 1, none⟩ (.int .i64 ((rd_T76 x.f2 j).f1))).setCell ⟨gb, 2, none⟩ (.slice A2 ((rd_T76 x.f2 j).f2).length c2)).heap[gb]? = some (.cells #[.int .i64 ((rd_T76 x.f2 j).f0), .int .i64 ((rd_T76 x.f2 j).f1), .slice A2 ((rd_T76 x.f2 j).f2).length c2] 76 (0, 0))) := ⟨by refine blk_put (cs := #[.int .i64 ((rd_T76 x.f2 j).f0), .int .i64 ((rd_T76 x.f2 j).f1), .slice none 0 0]) ?_ 2 _ rfl; refine blk_put (cs := #[.int .i64 ((rd_T76 x.f2 j).f0), .int .i64 0, .slice none 0 0]) ?_ 1 _ rfl; refine blk_put (cs := #[.int .i64 0, .int .i64 0, .slice none 0 0]) ?_ 0 _ rfl; exact hbox⟩; have n4_ : Aside0 ((((w5.setCell ⟨gb, 0, none⟩ (.int .i64 ((rd_T76 x.f2 j).f0))).setCell ⟨gb, 1, none⟩ (.int .i64 ((rd_T76 x.f2 j).f1))).setCell ⟨gb, 2, none⟩ (.slice A2 ((rd_T76 x.f2 j).f2).length c2)).heap[gt]? = some (.cells #[.int .i64 x.f0, .int .i64 x.f1, .slice (some ad) x.f2.length c0_2] 76 (0, 0))) := ⟨by refine blk_far ?_ hnt.symm _; refine blk_far ?_ hnt.symm _; refine blk_far ?_ hnt.symm _; exact n0_.out⟩; have n5_ : Aside0 ((((w5.setCell ⟨gb, 0, none⟩ (.int .i64 ((rd_T76 x.f2 j).f0))).setCell ⟨gb, 1, none⟩ (.int .i64 ((rd_T76 x.f2 j).f1))).setCell ⟨gb, 2, none⟩ (.slice A2 ((rd_T76 x.f2 j).f2).length c2)).heap[g]? = some (.cells #[.int .i64 p1] 3 (0, 0))) := ⟨by refine blk_far ?_ hnb.symm _; refine blk_far ?_ hnb.symm _; refine blk_far ?_ hnb.symm _; exact n1_.out⟩; have n6_ : Aside0 (KB1 w (((w5.setCell ⟨gb, 0, none⟩ (.int .i64 ((rd_T76 x.f2 j).f0))).setCell ⟨gb, 1, none⟩ (.int .i64 ((rd_T76 x.f2 j).f1))).setCell ⟨gb, 2, none⟩ (.slice A2 ((rd_T76 x.f2 j).f2).length c2)) g) := ⟨by refine KB1.far ?_ hge _; refine KB1.far ?_ hge _; refine KB1.far ?_ hge _; exact n2_.out⟩; have hcy_0 := (blk_cell hbox 0).trans (rfl : _ = some (Value.int .i64 0)); have hcy_1 := (blk_cell hbox 1).trans (rfl : _ = some (Value.int .i64 0)); have hcy_2 := (blk_cell hbox 2).trans (rfl : _ = some (Value.slice none 0 0)); have hfy_0 := blk_frozen hbox 0; have hfy_1 := blk_frozen hbox 1; have hfy_2 := blk_frozen hbox 2; have hcz_0 := (blk_cell n3_.out 0).trans (rfl : _ = some (Value.int .i64 ((rd_T76 x.f2 j).f0))); have hcz_1 := (blk_cell n3_.out 1).trans (rfl : _ = some (Value.int .i64 ((rd_T76 x.f2 j).f1))); have hcz_2 := (blk_cell n3_.out 2).trans (rfl : _ = some (Value.slice A2 ((rd_T76 x.f2 j).f2).length c2)); have KB6 : Aside0 (KB1 wr (((w5.setCell ⟨gb, 0, none⟩ (.int .i64 ((rd_T76 x.f2 j).f0))).setCell ⟨gb, 1, none⟩ (.int .i64 ((rd_T76 x.f2 j).f1))).setCell ⟨gb, 2, none⟩ (.slice A2 ((rd_T76 x.f2 j).f2).length c2)) g) := ⟨by refine KB1.far ?_ hgw _; refine KB1.far ?_ hgw _; refine KB1.far ?_ hgw _; exact KB1.of_below hb g⟩; clear hb hbox hgb))
    ((with_reducible refine (ih k1 (by have := HK1.out; omega) (rd_T76 x.f2 j) A2 c2 params (wrap64 (deep + 1)) g p1 (m1, b1) _ n5_.out ?side1 A1_.out).mono ?_); (case side1 => exact fun W hW => HG2.out W (KB6.out.trans hW)); rintro e w7 ⟨rfl, hg7, hk7⟩)
    have n7_ := aS hg7
    have n8_ := aS (hk7.keep.blk n4_.out hne (by simp))
    have n9_ := aS (n6_.out.trans hk7)
    have hcg7 : w7.cell? ⟨g, 0, none⟩ = some (.int .i64 m1) := cell_of_one hg7
    cases b1 with
    | false =>
     rw [if_pos rfl] at H
     obtain rfl := Option.some.inj H
     go_wp2
     go_ret
     exact ⟨rfl, n7_.out, n9_.out⟩
    | true =>
     rw [if_neg (by decide)] at H
     have H' := aS H
     clear H
     go_wp2
     go_roundg k1
     case measure => have := HK1.out; omega
     case rel => exact ⟨(wrap64 (j + 1)), m1, br, H', ⟨by have := HK1.out; omega⟩, n8_, n7_, n9_⟩
 rw [if_pos c4] at h
 have c4b : (x.f0 == 4) = true := beq_iff_eq.2 c4
 have c4n : (x.f0 != 4) = false := bne_eq_false_iff_eq.2 c4
 clear c4
 by_cases c5 : x.f1 < 0
 ·rw [if_pos (by simp; omega)] at h
  obtain rfl := Option.some.inj h
  have c5b : decide (x.f1 < 0) = true := decide_eq_true c5
  clear c5 h
  go_enter Try.func142, Try.ntmps142
  go_wp2_with (first | ((with_reducible refine gate_dst (N := 4) rfl ?_); refine bx (N := 4) (t := 76) #[.int .i64 x.f0, .int .i64 x.f1, .slice A0_2 x.f2.length c0_2] ?_; intro gt hgt w1 hbox hb; have hne : gt ≠ g := (by rw [hgt]; exact Nat.ne_of_gt (blk_lt HG.out)); have n0_ := aS (KB1.of_below hb g); have n1_ := aS (blk_below HG.out hb); have hcg := cell_of_one n1_.out; have hfg := free_of_one n1_.out; have n2_ : Aside0 ((w1.setCell ⟨g, 0, none⟩ (.int .i64 (wrap64 (p + 1)))).heap[g]? = some (.cells #[.int .i64 (wrap64 (p + 1))] 3 (0, 0))) := ⟨one_setCell n1_.out⟩; have n3_ : Aside0 ((w1.setCell ⟨g, 0, none⟩ (.int .i64 (wrap64 (p + 1)))).heap[gt]? = some (.cells #[.int .i64 x.f0, .int .i64 x.f1, .slice A0_2 x.f2.length c0_2] 76 (0, 0))) := ⟨blk_far hbox hne _⟩; have n4_ : Aside0 (KB1 w (w1.setCell ⟨g, 0, none⟩ (.int .i64 (wrap64 (p + 1)))) g) := ⟨KB1.set_ n0_.out 0 _⟩; have hcg2 := cell_of_one n2_.out; obtain ⟨hct_0, hct_1, hct_2⟩ := cl3 n3_; clear hb hbox hgt))
  go_quiet (first | exact largs_quiet _ _ x.f0 | exact largs_quiet2 _ _ _ x.f0)
  go_wp2
  go_ret
  exact ⟨by first | rfl | (simp [*]; done), n2_.out, n4_.out.drewN _⟩
 have c5b : decide (x.f1 < 0) = false := decide_eq_false c5
 by_cases c6 : params ≤ x.f1
 ·rw [if_pos (by simp; omega)] at h
  obtain rfl := Option.some.inj h
  have c6b : decide (params ≤ x.f1) = true := decide_eq_true c6
  clear c5 c6 h
  go_enter Try.func142, Try.ntmps142
  go_wp2_with (first | ((with_reducible refine gate_dst (N := 4) rfl ?_); refine bx (N := 4) (t := 76) #[.int .i64 x.f0, .int .i64 x.f1, .slice A0_2 x.f2.length c0_2] ?_; intro gt hgt w1 hbox hb; have hne : gt ≠ g := (by rw [hgt]; exact Nat.ne_of_gt (blk_lt HG.out)); have n0_ := aS (KB1.of_below hb g); have n1_ := aS (blk_below HG.out hb); have hcg := cell_of_one n1_.out; have hfg := free_of_one n1_.out; have n2_ : Aside0 ((w1.setCell ⟨g, 0, none⟩ (.int .i64 (wrap64 (p + 1)))).heap[g]? = some (.cells #[.int .i64 (wrap64 (p + 1))] 3 (0, 0))) := ⟨one_setCell n1_.out⟩; have n3_ : Aside0 ((w1.setCell ⟨g, 0, none⟩ (.int .i64 (wrap64 (p + 1)))).heap[gt]? = some (.cells #[.int .i64 x.f0, .int .i64 x.f1, .slice A0_2 x.f2.length c0_2] 76 (0, 0))) := ⟨blk_far hbox hne _⟩; have n4_ : Aside0 (KB1 w (w1.setCell ⟨g, 0, none⟩ (.int .i64 (wrap64 (p + 1)))) g) := ⟨KB1.set_ n0_.out 0 _⟩; have hcg2 := cell_of_one n2_.out; obtain ⟨hct_0, hct_1, hct_2⟩ := cl3 n3_; clear hb hbox hgt))
  go_quiet (first | exact largs_quiet _ _ x.f0 | exact largs_quiet2 _ _ _ x.f0)
  go_wp2
  go_ret
  exact ⟨by first | rfl | (simp [*]; done), n2_.out, n4_.out.drewN _⟩
 rw [if_neg (by simp; omega)] at h
 have c6b : decide (params ≤ x.f1) = false := decide_eq_false c6
 clear c5 c6
 have H' := aS h
 clear h
 go_enter Try.func142, Try.ntmps142
 go_wp2_with (first | ((with_reducible refine gate_dst (N := 4) rfl ?_); refine bx (N := 4) (t := 76) #[.int .i64 x.f0, .int .i64 x.f1, .slice A0_2 x.f2.length c0_2] ?_; intro gt hgt w1 hbox hb; have hne : gt ≠ g := (by rw [hgt]; exact Nat.ne_of_gt (blk_lt HG.out)); have n0_ := aS (KB1.of_below hb g); have n1_ := aS (blk_below HG.out hb); have hcg := cell_of_one n1_.out; have hfg := free_of_one n1_.out; have n2_ : Aside0 ((w1.setCell ⟨g, 0, none⟩ (.int .i64 (wrap64 (p + 1)))).heap[g]? = some (.cells #[.int .i64 (wrap64 (p + 1))] 3 (0, 0))) := ⟨one_setCell n1_.out⟩; have n3_ : Aside0 ((w1.setCell ⟨g, 0, none⟩ (.int .i64 (wrap64 (p + 1)))).heap[gt]? = some (.cells #[.int .i64 x.f0, .int .i64 x.f1, .slice A0_2 x.f2.length c0_2] 76 (0, 0))) := ⟨blk_far hbox hne _⟩; have n4_ : Aside0 (KB1 w (w1.setCell ⟨g, 0, none⟩ (.int .i64 (wrap64 (p + 1)))) g) := ⟨KB1.set_ n0_.out 0 _⟩; have hcg2 := cell_of_one n2_.out; obtain ⟨hct_0, hct_1, hct_2⟩ := cl3 n3_; clear hb hbox hgt))
 go_quiet (first | exact largs_quiet _ _ x.f0 | exact largs_quiet2 _ _ _ x.f0)
 go_wp2
 go_loopg [60] k (fun kq v21 w' => ∃ (j p1 : Int), v21 = .int .i64 j ∧ Aside0 (lmay.l0 kq x.f2 j params deep p1 = some r) ∧ Aside0 (kq ≤ k) ∧ Aside0 (w'.heap[gt]? = some (.cells #[.int .i64 x.f0, .int .i64 x.f1, .slice A0_2 x.f2.length c0_2] 76 (0, 0))) ∧ Aside0 (w'.heap[g]? = some (.cells #[.int .i64 p1] 3 (0, 0))) ∧ Aside0 (KB1 w w' g))
 case atStart => exact ⟨0, wrap64 (p + 1), br, H', ⟨Nat.le_refl _⟩, ⟨n3_.out⟩, ⟨n2_.out⟩, ⟨n4_.out.drewN _⟩⟩
 case round =>
  clear H'
  try clear hcg hfg hcg2
  try clear c1b c2b c3b
  try clear c4b c4n c5b
  try clear c6b
  try clear hct_0 hct_1 hct_2
  try clear n0_ n1_ n2_ n3_ n4_
  obtain ⟨j, p1, rfl, HA, HK1, BKt, BKg, KB⟩ := hrel
  cases gk with
  | zero => exact absurd HA.out (by simp [lmay.l0])
  | succ k1 =>
   have H := HA.out
   clear HA
   simp only [lmay.l0] at H
   by_cases c8 : j < (x.f2.length : Int)
   rotate_left
   ·rw [if_neg c8] at H
    have c8b := decide_eq_false c8
    clear c8
    obtain rfl := Option.some.inj H
    go_wp2
    go_ret
    exact ⟨rfl, BKg.out, KB.out⟩
   rw [if_pos c8] at H
   have c8b := decide_eq_true c8
   by_cases c9 : 0 ≤ j
   rotate_left
   ·rw [if_neg c9] at H
    cases H
   rw [if_pos c9] at H
   have c9b := decide_eq_true c9
   replace H := Option.bind_eq_some_iff.mp H
   obtain ⟨⟨m1, b1⟩, A1, H⟩ := H
   try dsimp only at H
   have A1_ := aS A1
   clear A1
   obtain ⟨ad, A2, c2, e1, hx0, hx1, hx2, G2⟩ := foot_T76 (fun W hW => HR.out W (KB.out.trans hW)) BKg.out j c9 c8
   cases e1
   have HG2 := aS G2
   clear G2
   replace c8 := eq_true c8
   replace c9 := eq_true c9
   go_wp2_with (first | ((with_reducible refine gate_dst (N := 10) rfl ?_); refine bx (N := 10) (t := 76) #[.int .i64 0, .int .i64 0, .slice none 0 0] ?_; intro gb hgb w5 hbox hb; have hgw : wr.heap.size ≤ gb := (by rw [hgb]; exact Nat.le_refl _); have hnb : gb ≠ g := (by rw [hgb]; exact Nat.ne_of_gt (blk_lt BKg.out)); have hnt : gb ≠ gt := (by rw [hgb]; exact Nat.ne_of_gt (blk_lt BKt.out)); have hge : w.heap.size ≤ gb := (by rw [hgb]; exact keep_size KB.out.keep); have n0_ := aS (blk_below BKt.out hb); have n1_ := aS (blk_below BKg.out hb); have n2_ := aS (KB.out.trans (KB1.of_below hb g)); have n3_ : Aside0 ((((w5.setCell ⟨gb, 0, none⟩ (.int .i64 ((rd_T76 x.f2 j).f0))).setCell ⟨gb, 1, none⟩ (.int .i64 ((rd_T76 x.f2 j).f1))).setCell ⟨gb, 2, none⟩ (.slice A2 ((rd_T76 x.f2 j).f2).length c2)).heap[gb]? = some (.cells #[.int .i64 ((rd_T76 x.f2 j).f0), .int .i64 ((rd_T76 x.f2 j).f1), .slice A2 ((rd_T76 x.f2 j).f2).length c2] 76 (0, 0))) := ⟨by refine blk_put (cs := #[.int .i64 ((rd_T76 x.f2 j).f0), .int .i64 ((rd_T76 x.f2 j).f1), .slice none 0 0]) ?_ 2 _ rfl; refine blk_put (cs := #[.int .i64 ((rd_T76 x.f2 j).f0), .int .i64 0, .slice none 0 0]) ?_ 1 _ rfl; refine blk_put (cs := #[.int .i64 0, .int .i64 0, .slice none 0 0]) ?_ 0 _ rfl; exact hbox⟩; have n4_ : Aside0 ((((w5.setCell ⟨gb, 0, none⟩ (.int .i64 ((rd_T76 x.f2 j).f0))).setCell ⟨gb, 1, none⟩ (.int .i64 ((rd_T76 x.f2 j).f1))).setCell ⟨gb, 2, none⟩ (.slice A2 ((rd_T76 x.f2 j).f2).length c2)).heap[gt]? = some (.cells #[.int .i64 x.f0, .int .i64 x.f1, .slice (some ad) x.f2.length c0_2] 76 (0, 0))) := ⟨by refine blk_far ?_ hnt.symm _; refine blk_far ?_ hnt.symm _; refine blk_far ?_ hnt.symm _; exact n0_.out⟩; have n5_ : Aside0 ((((w5.setCell ⟨gb, 0, none⟩ (.int .i64 ((rd_T76 x.f2 j).f0))).setCell ⟨gb, 1, none⟩ (.int .i64 ((rd_T76 x.f2 j).f1))).setCell ⟨gb, 2, none⟩ (.slice A2 ((rd_T76 x.f2 j).f2).length c2)).heap[g]? = some (.cells #[.int .i64 p1] 3 (0, 0))) := ⟨by refine blk_far ?_ hnb.symm _; refine blk_far ?_ hnb.symm _; refine blk_far ?_ hnb.symm _; exact n1_.out⟩; have n6_ : Aside0 (KB1 w (((w5.setCell ⟨gb, 0, none⟩ (.int .i64 ((rd_T76 x.f2 j).f0))).setCell ⟨gb, 1, none⟩ (.int .i64 ((rd_T76 x.f2 j).f1))).setCell ⟨gb, 2, none⟩ (.slice A2 ((rd_T76 x.f2 j).f2).length c2)) g) := ⟨by refine KB1.far ?_ hge _; refine KB1.far ?_ hge _; refine KB1.far ?_ hge _; exact n2_.out⟩; have hcy_0 := (blk_cell hbox 0).trans (rfl : _ = some (Value.int .i64 0)); have hcy_1 := (blk_cell hbox 1).trans (rfl : _ = some (Value.int .i64 0)); have hcy_2 := (blk_cell hbox 2).trans (rfl : _ = some (Value.slice none 0 0)); have hfy_0 := blk_frozen hbox 0; have hfy_1 := blk_frozen hbox 1; have hfy_2 := blk_frozen hbox 2; have hcz_0 := (blk_cell n3_.out 0).trans (rfl : _ = some (Value.int .i64 ((rd_T76 x.f2 j).f0))); have hcz_1 := (blk_cell n3_.out 1).trans (rfl : _ = some (Value.int .i64 ((rd_T76 x.f2 j).f1))); have hcz_2 := (blk_cell n3_.out 2).trans (rfl : _ = some (Value.slice A2 ((rd_T76 x.f2 j).f2).length c2)); have KB6 : Aside0 (KB1 wr (((w5.setCell ⟨gb, 0, none⟩ (.int .i64 ((rd_T76 x.f2 j).f0))).setCell ⟨gb, 1, none⟩ (.int .i64 ((rd_T76 x.f2 j).f1))).setCell ⟨gb, 2, none⟩ (.slice A2 ((rd_T76 x.f2 j).f2).length c2)) g) := ⟨by refine KB1.far ?_ hgw _; refine KB1.far ?_ hgw _; refine KB1.far ?_ hgw _; exact KB1.of_below hb g⟩; clear hb hbox hgb))
   ((with_reducible refine (ih k1 (by have := HK1.out; omega) (rd_T76 x.f2 j) A2 c2 params (wrap64 (deep + 1)) g p1 (m1, b1) _ n5_.out ?side1 A1_.out).mono ?_); (case side1 => exact fun W hW => HG2.out W (KB6.out.trans hW)); rintro e w7 ⟨rfl, hg7, hk7⟩)
   have n7_ := aS hg7
   have n8_ := aS (hk7.keep.blk n4_.out hne (by simp))
   have n9_ := aS (n6_.out.trans hk7)
   have hcg7 : w7.cell? ⟨g, 0, none⟩ = some (.int .i64 m1) := cell_of_one hg7
   cases b1 with
   | false =>
    rw [if_pos rfl] at H
    obtain rfl := Option.some.inj H
    go_wp2
    go_ret
    exact ⟨rfl, n7_.out, n9_.out⟩
   | true =>
    rw [if_neg (by decide)] at H
    have H' := aS H
    clear H
    go_wp2
    go_roundg k1
    case measure => have := HK1.out; omega
    case rel => exact ⟨(wrap64 (j + 1)), m1, br, H', ⟨by have := HK1.out; omega⟩, n8_, n7_, n9_⟩
def level_May.f (k : Nat) (a0_0 : Int) (a0_1 : Int) (l0_2 : List (S76)) (a1 : Int) : Option Bool := (lmay.f k ⟨a0_0, a0_1, l0_2⟩ (mn (mx a1 0) 4) 1 0).bind fun p => some p.2
set_option maxHeartbeats 8000000 in
set_option maxRecDepth 100000 in
theorem level_May.calls (k : Nat) (a0_0 : Int) (a0_1 : Int) (A0_2 : Option Addr) (c0_2 : Nat) (l0_2 : List (S76)) (a1 : Int) (r : Bool) (w : World) (hr0_2 : Kd.C k76 w A0_2 l0_2.length l0_2) (hc0_2 : l0_2.length ≤ c0_2) (h : level_May.f k a0_0 a0_1 l0_2 a1 = some r) :
  Calls Try.prog 122 #[.agg #[.int .i64 a0_0, .int .i64 a0_1, .slice A0_2 l0_2.length c0_2], .int .i64 a1] w fun e w' => e = .returned (.bool r) ∧ Below w.heap.size w w' := by
 have hu76 := Try.underlying76
 have HR := aS hr0_2
 clear hr0_2 hc0_2
 unfold level_May.f at h
 obtain ⟨⟨p, b⟩, h1, h2⟩ := Option.bind_eq_some_iff.mp h
 obtain rfl : b = r := Option.some.inj h2
 have H : Aside0 (lmay.f k ⟨a0_0, a0_1, l0_2⟩ (mn (mx a1 0) 4) 1 0 = some (p, b)) := ⟨h1⟩
 clear h h1 h2
 go_enter Try.func122, Try.ntmps122
 go_wp2_with (first | ((with_reducible refine gate_dst (N := 2) rfl ?_); refine bx (N := 2) (t := 76) #[.int .i64 a0_0, .int .i64 a0_1, .slice A0_2 l0_2.length c0_2] ?_; intro gt hgt w1 hbox hb; have BKt := aS hbox; have HB1 := aS hb; clear hb hbox hgt) | ((with_reducible refine gate_dst (N := 5) rfl ?_); refine bx (N := 5) (t := 3) #[.int .i64 0] ?_; intro g hgt w2 hbox hb; have hne : gt ≠ g := (by rw [hgt]; exact Nat.ne_of_lt (blk_lt BKt.out)); have hge : w.heap.size ≤ g := (by rw [hgt]; exact below_size HB1.out); have hcg := cell_of_one hbox; have hfg := free_of_one hbox; have n1_ : Aside0 ((w2.setCell ⟨g, 0, none⟩ (.int .i64 0)).heap[g]? = some (.cells #[.int .i64 0] 3 (0, 0))) := ⟨one_setCell hbox⟩; have n2_ : Aside0 ((w2.setCell ⟨g, 0, none⟩ (.int .i64 0)).heap[gt]? = some (.cells #[.int .i64 a0_0, .int .i64 a0_1, .slice A0_2 l0_2.length c0_2] 76 (0, 0))) := ⟨blk_far (blk_below BKt.out hb) hne _⟩; have n3_ : Aside0 (Below w.heap.size w (w2.setCell ⟨g, 0, none⟩ (.int .i64 0))) := ⟨below_set (below_step HB1.out hb) hge⟩; obtain ⟨hct_0, hct_1, hct_2⟩ := cl3 n2_; clear hb hbox hgt))
 ((with_reducible refine (lmay.calls k ⟨a0_0, a0_1, l0_2⟩ A0_2 c0_2 (mn (mx a1 0) 4) 1 g 0 (p, b) _ n1_.out ?side1 H.out).mono ?_); (case side1 => exact fun W hW => Kd.C_below HR.out (below_of_but n3_.out hW n3_.out.size hge)); rintro e w7 ⟨rfl, hg7, hk7⟩)
 have hcg7 := cell_of_one hg7
 have HB7 := below_of_but n3_.out hk7 n3_.out.size hge
 go_wp2
 go_ret
 exact ⟨rfl, HB7⟩
end Go.Proofs.Ytpejhapgffcngaa.QK

