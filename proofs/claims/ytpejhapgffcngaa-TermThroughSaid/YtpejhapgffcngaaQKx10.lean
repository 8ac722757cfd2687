/- Words and walks of this claim. -/
import Derived.Test.YtpejhapgffcngaaXShort
import Derived.Test.YtpejhapgffcngaaQKx0
namespace Go.Proofs.Ytpejhapgffcngaa.QK
open Go.RowKit Go.Proofs.YtpejhapgffcngaaW.PrintWords Go.Proofs.YtpejhapgffcngaaW.PrintLast Go.Proofs.YtpejhapgffcngaaW.PrintMore
attribute [local go_sem] max2_int min2_int max_two min_two max_three min_three max_four min_four
set_option linter.unusedVariables false
set_option linter.unusedSimpArgs false
mutual
def touchstonelaw5_far.l0 : Nat → Int → Int → Int → ByteArray → List (S76) → List (S27) → Option (Bool)
 | 0, _, _, _, _, _, _ => none
 | k + 1, x3, x268000, x268001, x268002, x268003, x268004 => if x3 < (x268004.length : Int) then (if 0 ≤ x3 then ((touchstonelaw5_far.f k ((rd_T27 x268004 x3).f0) ((rd_T27 x268004 x3).f1) ((rd_T27 x268004 x3).f2) ((rd_T27 x268004 x3).f3) ((rd_T27 x268004 x3).f4)).bind fun t269 => (if t269 = true then (some true) else (touchstonelaw5_far.l0 k (wrap64 (x3 + 1)) x268000 x268001 x268002 x268003 x268004))) else (none)) else (some false)
def touchstonelaw5_far.f : Nat → Int → Int → ByteArray → List (S76) → List (S27) → Option (Bool)
 | 0, _, _, _, _, _ => none
 | k + 1, a0_0, a0_1, a0_2, l0_3, l0_4 => if a0_1 > 1000000 then (some true) else (touchstonelaw5_far.l0 k 0 a0_0 a0_1 a0_2 l0_3 l0_4)
end
set_option maxHeartbeats 8000000 in
set_option maxRecDepth 100000 in
theorem touchstonelaw5_far.calls (k : Nat) : ∀ (a0_0 : Int) (a0_1 : Int) (a0_2 : ByteArray) (A0_3 : Option Addr) (c0_3 : Nat) (l0_3 : List (S76)) (A0_4 : Option Addr) (c0_4 : Nat) (l0_4 : List (S27)) (r : Bool) (w : World) (hr0_3 : Kd.C k76 w A0_3 l0_3.length l0_3) (hc0_3 : l0_3.length ≤ c0_3) (hr0_4 : Kd.C k27 w A0_4 l0_4.length l0_4) (hc0_4 : l0_4.length ≤ c0_4) (h : touchstonelaw5_far.f k a0_0 a0_1 a0_2 l0_3 l0_4 = some r),
  Calls Try.prog 40 #[.agg #[.int .i64 a0_0, .int .i64 a0_1, .string a0_2, .slice A0_3 l0_3.length c0_3, .slice A0_4 l0_4.length c0_4]] w fun e w' => e = .returned (.bool r) ∧ Below w.heap.size w w' := by
 induction k using Nat.strongRecOn with
 | _ k ih =>
 intro a0_0 a0_1 a0_2 A0_3 c0_3 l0_3 A0_4 c0_4 l0_4 r w hr0_3 hc0_3 hr0_4 hc0_4 h
 cases k with
 | zero => exact absurd h (by simp [touchstonelaw5_far.f])
 | succ k =>
 simp only [touchstonelaw5_far.f] at h
 have hu27 := Try.underlying27
 have HR0_3 := aS hr0_3
 have HC0_3 := aS hc0_3
 clear hr0_3 hc0_3
 have HR0_4 := aS hr0_4
 have HC0_4 := aS hc0_4
 clear hr0_4 hc0_4
 have HB := aS (Below.refl w.heap.size w)
 have H : (if a0_1 > 1000000 then (some true) else (touchstonelaw5_far.l0 k 0 a0_0 a0_1 a0_2 l0_3 l0_4)) = some r := h
 clear h
 by_cases c2 : a0_1 > 1000000
 ·rw [if_pos c2] at H
  have c2b0 : decide (1000000 < a0_1) = true := decide_eq_true c2
  clear c2
  obtain rfl := Option.some.inj H
  go_enter Try.func40, Try.ntmps40
  go_wp2_with (first | ((with_reducible refine gate_dst (N := 1) rfl ?_); refine box_event ?hg (N := 1) ?hd (cs := #[.int .i64 a0_0, .int .i64 a0_1, .string a0_2, .slice A0_3 l0_3.length c0_3, .slice A0_4 l0_4.length c0_4]) (t := 27) ?hr ?_; (case hd => rfl); (case hg => rfl); (case hr => first | (go_simp; done) | (go_simp; rfl)); intro gb267 hg w3 hbox hb; have BK267 := aS (hbox); have GW267 := aS ((by rw [hg]; exact (below_size (hbk HB)) : w.heap.size ≤ gb267)); have GE267 := aS ((by rw [hg]; exact (below_size (hbk HB)) : w.heap.size ≤ gb267)); replace HB := Hs HB hb; clear hb hbox hg; obtain ⟨hcz4_0, hcz4_1, hcz4_2, hcz4_3, hcz4_4⟩ := cl5 BK267; obtain ⟨hfz4_0, hfz4_1, hfz4_2, hfz4_3, hfz4_4⟩ := fz5 BK267))
  go_ret
  exact ⟨by first | rfl | (simp [errW_none, errW_some] <;> rfl) | (simp [*, errW_none, errW_some] <;> rfl), hbk HB⟩
 rw [if_neg c2] at H
 have c2b0 : decide (1000000 < a0_1) = false := decide_eq_false c2
 clear c2
 have H' := aS H
 clear H
 go_enter Try.func40, Try.ntmps40
 go_wp2_with (first | ((with_reducible refine gate_dst (N := 1) rfl ?_); refine box_event ?hg (N := 1) ?hd (cs := #[.int .i64 a0_0, .int .i64 a0_1, .string a0_2, .slice A0_3 l0_3.length c0_3, .slice A0_4 l0_4.length c0_4]) (t := 27) ?hr ?_; (case hd => rfl); (case hg => rfl); (case hr => first | (go_simp; done) | (go_simp; rfl)); intro gb267 hg w5 hbox hb; have BK267 := aS (hbox); have GW267 := aS ((by rw [hg]; exact (below_size (hbk HB)) : w.heap.size ≤ gb267)); have GE267 := aS ((by rw [hg]; exact (below_size (hbk HB)) : w.heap.size ≤ gb267)); replace HB := Hs HB hb; clear hb hbox hg; obtain ⟨hcz6_0, hcz6_1, hcz6_2, hcz6_3, hcz6_4⟩ := cl5 BK267; obtain ⟨hfz6_0, hfz6_1, hfz6_2, hfz6_3, hfz6_4⟩ := fz5 BK267))
 go_loopg [3] k (fun kq v3 w' => ∃ (x3_1 : Int), v3 = .int .i64 x3_1 ∧ Aside0 (touchstonelaw5_far.l0 kq x3_1 a0_0 a0_1 a0_2 l0_3 l0_4 = some r) ∧ Aside0 (kq ≤ k) ∧ Aside0 (w'.heap[gb267]? = some (.cells #[.int .i64 a0_0, .int .i64 a0_1, .string a0_2, (.slice A0_3 l0_3.length c0_3), (.slice A0_4 l0_4.length c0_4)] 27 (0, 0))) ∧ Aside0 (Below w.heap.size w w'))
 case atStart => exact ⟨(0), br, H', ⟨Nat.le_refl _⟩, ⟨bk BK267.out⟩, ⟨hbk HB⟩⟩
 case round =>
  clear H'
  try clear c2
  try clear c2b0
  try clear p2
  try clear c4
  try clear hcz4_0 hcz4_1 hcz4_2 hcz4_3 hcz4_4
  try clear hcz6_0 hcz6_1 hcz6_2 hcz6_3 hcz6_4
  try clear hfz4_0 hfz4_1 hfz4_2 hfz4_3 hfz4_4
  try clear hfz6_0 hfz6_1 hfz6_2 hfz6_3 hfz6_4
  obtain ⟨x3_1, rfl, HA, HK1, BK267, HB⟩ := hrel
  cases gk with
  | zero => exact absurd HA.out (by simp [touchstonelaw5_far.l0])
  | succ k1 =>
   have H := HA.out
   clear HA
   simp only [touchstonelaw5_far.l0] at H
   by_cases c7 : x3_1 < (l0_4.length : Int)
   rotate_left
   ·rw [if_neg c7] at H
    have c7b0 : decide (x3_1 < (l0_4.length : Int)) = false := decide_eq_false c7
    clear c7
    obtain rfl := Option.some.inj H
    obtain ⟨hcz15_0, hcz15_1, hcz15_2, hcz15_3, hcz15_4⟩ := cl5 BK267
    obtain ⟨hfz15_0, hfz15_1, hfz15_2, hfz15_3, hfz15_4⟩ := fz5 BK267
    go_wp2
    go_ret
    exact ⟨by first | rfl | (simp [errW_none, errW_some] <;> rfl) | (simp [*, errW_none, errW_some] <;> rfl), hbk HB⟩
   rw [if_pos c7] at H
   have c7b0 : decide (x3_1 < (l0_4.length : Int)) = true := decide_eq_true c7
   clear c7
   by_cases c8 : 0 ≤ x3_1
   rotate_left
   ·rw [if_neg c8] at H
    exact absurd H (by simp)
   rw [if_pos c8] at H
   have c8b0 : decide (0 ≤ x3_1) = true := decide_eq_true c8
   clear c8
   replace H := Option.bind_eq_some_iff.mp H
   obtain ⟨t269, A90, H⟩ := H
   try dsimp only at H
   have A9 := aS A90
   clear A90
   by_cases c10 : t269 = true
   ·subst c10
    have H1 : (some true) = some r := by rw [if_pos rfl] at H; exact H
    clear H
    have H := H1
    clear H1
    obtain rfl := Option.some.inj H
    obtain ⟨hcz11_0, hcz11_1, hcz11_2, hcz11_3, hcz11_4⟩ := cl5 BK267
    obtain ⟨hfz11_0, hfz11_1, hfz11_2, hfz11_3, hfz11_4⟩ := fz5 BK267
    have p268 : 0 ≤ (x3_1 : Int) := of_decide_eq_true ba
    have q268 : x3_1 < (l0_4.length : Int) := of_decide_eq_true ba
    obtain ⟨ad268, A268_3, c268_3, A268_4, c268_4, e268, hx268_0, hx268_1, hx268_2, hx268_3, hx268_4, hl268_3, hi268_3, hl268_4, hi268_4⟩ := at_T27 HR0_4.out x3_1 p268 q268
    cases e268
    replace hx268_0 := (HB.out.cell (World.block_lt_of_cell? w _ hx268_0)).trans hx268_0
    replace hx268_1 := (HB.out.cell (World.block_lt_of_cell? w _ hx268_1)).trans hx268_1
    replace hx268_2 := (HB.out.cell (World.block_lt_of_cell? w _ hx268_2)).trans hx268_2
    replace hx268_3 := (HB.out.cell (World.block_lt_of_cell? w _ hx268_3)).trans hx268_3
    replace hx268_4 := (HB.out.cell (World.block_lt_of_cell? w _ hx268_4)).trans hx268_4
    have HR268_3 := aS hi268_3
    have HC268_3 := aS hl268_3
    clear hi268_3 hl268_3
    have HR268_4 := aS hi268_4
    have HC268_4 := aS hl268_4
    clear hi268_4 hl268_4
    replace p268 := eq_true p268
    replace q268 := eq_true q268
    go_wp2_with (first | ((with_reducible refine gate_callee (f := 40) rfl ?_); refine goesL_ (some 19) rfl rfl Try.func40 (by kernel_rfl) rfl #[.agg #[.int .i64 ((rd_T27 l0_4 x3_1).f0), .int .i64 ((rd_T27 l0_4 x3_1).f1), .string ((rd_T27 l0_4 x3_1).f2), .slice A268_3 ((rd_T27 l0_4 x3_1).f3).length c268_3, .slice A268_4 ((rd_T27 l0_4 x3_1).f4).length c268_4]] rfl bl ?_; (with_reducible refine (ih k1 (by have := HK1.out; omega) ((rd_T27 l0_4 x3_1).f0) ((rd_T27 l0_4 x3_1).f1) ((rd_T27 l0_4 x3_1).f2) _ _ ((rd_T27 l0_4 x3_1).f3) _ _ ((rd_T27 l0_4 x3_1).f4) true _ ?side1 ?side2 ?side3 ?side4 A9.out).mono ?_); (case side1 => exact cr (Kd.C_below HR268_3.out HB.out)); (case side2 => exact HC268_3.out); (case side3 => exact cr (Kd.C_below HR268_4.out HB.out)); (case side4 => exact HC268_4.out); rintro e w12 ⟨rfl, hb⟩; refine ⟨_, rfl, ?_⟩; replace BK267 := Bk BK267 hb; replace HB := Hs HB hb; (try clear hb); (try clear hb2); (try clear hk); (try clear hi)))
    go_ret
    exact ⟨by first | rfl | (simp [errW_none, errW_some] <;> rfl) | (simp [*, errW_none, errW_some] <;> rfl), hbk HB⟩
   replace c10 := Bool.eq_false_iff.mpr c10
   subst c10
   have H1 : (touchstonelaw5_far.l0 k1 (wrap64 (x3_1 + 1)) a0_0 a0_1 a0_2 l0_3 l0_4) = some r := by rw [if_neg (show ¬ (false = true) by decide)] at H; exact H
   clear H
   have H := H1
   clear H1
   have H' := aS H
   clear H
   obtain ⟨hcz13_0, hcz13_1, hcz13_2, hcz13_3, hcz13_4⟩ := cl5 BK267
   obtain ⟨hfz13_0, hfz13_1, hfz13_2, hfz13_3, hfz13_4⟩ := fz5 BK267
   have p268 : 0 ≤ (x3_1 : Int) := of_decide_eq_true ba
   have q268 : x3_1 < (l0_4.length : Int) := of_decide_eq_true ba
   obtain ⟨ad268, A268_3, c268_3, A268_4, c268_4, e268, hx268_0, hx268_1, hx268_2, hx268_3, hx268_4, hl268_3, hi268_3, hl268_4, hi268_4⟩ := at_T27 HR0_4.out x3_1 p268 q268
   cases e268
   replace hx268_0 := (HB.out.cell (World.block_lt_of_cell? w _ hx268_0)).trans hx268_0
   replace hx268_1 := (HB.out.cell (World.block_lt_of_cell? w _ hx268_1)).trans hx268_1
   replace hx268_2 := (HB.out.cell (World.block_lt_of_cell? w _ hx268_2)).trans hx268_2
   replace hx268_3 := (HB.out.cell (World.block_lt_of_cell? w _ hx268_3)).trans hx268_3
   replace hx268_4 := (HB.out.cell (World.block_lt_of_cell? w _ hx268_4)).trans hx268_4
   have HR268_3 := aS hi268_3
   have HC268_3 := aS hl268_3
   clear hi268_3 hl268_3
   have HR268_4 := aS hi268_4
   have HC268_4 := aS hl268_4
   clear hi268_4 hl268_4
   replace p268 := eq_true p268
   replace q268 := eq_true q268
   go_wp2_with (first | ((with_reducible refine gate_callee (f := 40) rfl ?_); refine goesL_ (some 19) rfl rfl Try.func40 (by kernel_rfl) rfl #[.agg #[.int .i64 ((rd_T27 l0_4 x3_1).f0), .int .i64 ((rd_T27 l0_4 x3_1).f1), .string ((rd_T27 l0_4 x3_1).f2), .slice A268_3 ((rd_T27 l0_4 x3_1).f3).length c268_3, .slice A268_4 ((rd_T27 l0_4 x3_1).f4).length c268_4]] rfl bl ?_; (with_reducible refine (ih k1 (by have := HK1.out; omega) ((rd_T27 l0_4 x3_1).f0) ((rd_T27 l0_4 x3_1).f1) ((rd_T27 l0_4 x3_1).f2) _ _ ((rd_T27 l0_4 x3_1).f3) _ _ ((rd_T27 l0_4 x3_1).f4) false _ ?side1 ?side2 ?side3 ?side4 A9.out).mono ?_); (case side1 => exact cr (Kd.C_below HR268_3.out HB.out)); (case side2 => exact HC268_3.out); (case side3 => exact cr (Kd.C_below HR268_4.out HB.out)); (case side4 => exact HC268_4.out); rintro e w14 ⟨rfl, hb⟩; refine ⟨_, rfl, ?_⟩; replace BK267 := Bk BK267 hb; replace HB := Hs HB hb; (try clear hb); (try clear hb2); (try clear hk); (try clear hi)))
   go_roundg k1
   case measure => have := HK1.out; omega
   case rel => exact ⟨(wrap64 (x3_1 + 1)), br, H', ⟨by have := HK1.out; omega⟩, ⟨bk BK267.out⟩, ⟨hbk HB⟩⟩
end Go.Proofs.Ytpejhapgffcngaa.QK

