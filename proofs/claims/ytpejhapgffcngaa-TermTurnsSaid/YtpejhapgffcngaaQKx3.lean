/- Words and walks of this claim. -/
import Derived.Test.YtpejhapgffcngaaXShort
import Derived.Test.YtpejhapgffcngaaQKCopy
import Derived.Test.YtpejhapgffcngaaQKApart
namespace Go.Proofs.Ytpejhapgffcngaa.QK
open Go.RowKit Go.Proofs.YtpejhapgffcngaaW.PrintWords Go.Proofs.YtpejhapgffcngaaW.PrintLast Go.Proofs.YtpejhapgffcngaaW.PrintMore
attribute [local go_sem] max2_int min2_int max_two min_two max_three min_three max_four min_four
set_option linter.unusedVariables false
set_option linter.unusedSimpArgs false
mutual
def touchstoneref4_Put.j0 : Nat → List (S76) → Bool → Int → Int → List (S76) → Option (Int × Int × (List (S76)))
 | 0, _, _, _, _, _ => none
 | k + 1, x1, x21, x115000, x115001, x115002 => if x21 = true then (if 0 ≤ x115001 then (if x115001 < (x1.length : Int) then ((touchstoneref4_Copy.f k ((rd_T76 x1 x115001).f0) ((rd_T76 x1 x115001).f1) ((rd_T76 x1 x115001).f2)).bind fun bt117 => (some (bt117.1, bt117.2.1, bt117.2.2))) else (none)) else (none)) else (touchstoneref4_Put.l0 k x1 0 x115000 x115001 x115002 x115000 x115001 ([] : List (S76)))
def touchstoneref4_Put.l0 : Nat → List (S76) → Int → Int → Int → List (S76) → Int → Int → List (S76) → Option (Int × Int × (List (S76)))
 | 0, _, _, _, _, _, _, _, _ => none
 | k + 1, x1, x6, x115000, x115001, x115002, x123000, x123001, x123002 => if x6 < (x115002.length : Int) then (if 0 ≤ x6 then ((touchstoneref4_Put.f k ((rd_T76 x115002 x6).f0) ((rd_T76 x115002 x6).f1) ((rd_T76 x115002 x6).f2) x1).bind fun bt124 => (if x123002.length < 3518437208883 then (touchstoneref4_Put.l0 k x1 (wrap64 (x6 + 1)) x115000 x115001 x115002 x123000 x123001 (x123002 ++ [(⟨bt124.1, bt124.2.1, bt124.2.2⟩ : S76)])) else (none))) else (none)) else (some (x123000, x123001, x123002))
def touchstoneref4_Put.f : Nat → Int → Int → List (S76) → List (S76) → Option (Int × Int × (List (S76)))
 | 0, _, _, _, _ => none
 | k + 1, a0_0, a0_1, l0_2, l1 => if a0_0 = 4 then (if a0_1 ≥ 0 then (touchstoneref4_Put.j0 k l1 (decide (a0_1 < (l1.length : Int))) a0_0 a0_1 l0_2) else (touchstoneref4_Put.j0 k l1 false a0_0 a0_1 l0_2)) else (touchstoneref4_Put.j0 k l1 false a0_0 a0_1 l0_2)
end
def touchstoneref4_Put.T7 : Bool × List (List Nat × List Nat) := (true, [([], []), ([0], [0]), ([], []), ([2], [2]), ([], []), ([3, 4], [3, 4]), ([5], [5]), ([], []), ([6, 7], [6, 7]), ([8], [8]), ([1, 9, 8], [1, 9]), ([0, 1, 2, 3, 4, 5, 6, 7, 8, 9, 10], []), ([11, 10, 10, 0, 1, 2, 3, 4, 5, 6, 7, 8, 9, 10], [10, 11])])
def touchstoneref4_Put.B7 : List Nat := [0, 1, 0, 4, 0, 28, 60, 0, 252, 508, 1023, 2047, 4095]
theorem touchstoneref4_Put.tab7 : rtab .any (opsOf Try.f102 7) = touchstoneref4_Put.T7 := by kernel_rfl
theorem touchstoneref4_Put.bits7 : waitsOk touchstoneref4_Put.T7.2 touchstoneref4_Put.B7 = true := by kernel_rfl
set_option maxHeartbeats 8000000 in
set_option maxRecDepth 100000 in
theorem touchstoneref4_Put.calls (k : Nat) : ∀ (a0_0 : Int) (a0_1 : Int) (A0_2 : Option Addr) (c0_2 : Nat) (l0_2 : List (S76)) (A1 : Option Addr) (c1 : Nat) (l1 : List (S76)) (r1 : Int) (r2 : Int) (r3 : List (S76)) (w : World) (hr0_2 : Kd.C k76 w A0_2 l0_2.length l0_2) (hc0_2 : l0_2.length ≤ c0_2) (hr1 : Kd.C k76 w A1 l1.length l1) (hc1 : l1.length ≤ c1) (h : touchstoneref4_Put.f k a0_0 a0_1 l0_2 l1 = some (r1, r2, r3)),
  Calls Try.prog 102 #[.agg #[.int .i64 a0_0, .int .i64 a0_1, .slice A0_2 l0_2.length c0_2], .slice A1 l1.length c1] w fun e w' => ∃ v2_ : Value, e = .returned (.agg #[.int .i64 r1, .int .i64 r2, v2_]) ∧ Kd.R k76 76 w' w.heap.size (fun _ => True) v2_ r3 ∧ Below w.heap.size w w' := by
 induction k using Nat.strongRecOn with
 | _ k ih =>
 intro a0_0 a0_1 A0_2 c0_2 l0_2 A1 c1 l1 r1 r2 r3 w hr0_2 hc0_2 hr1 hc1 h
 cases k with
 | zero => exact absurd h (by simp [touchstoneref4_Put.f])
 | succ k =>
 simp only [touchstoneref4_Put.f] at h
 have hu76 := Try.underlying76
 have HR0_2 := aS hr0_2
 have HC0_2 := aS hc0_2
 clear hr0_2 hc0_2
 have HR1 := aS hr1
 have HC1 := aS hc1
 clear hr1 hc1
 have HB := aS (Below.refl w.heap.size w)
 have H : (if a0_0 = 4 then (if a0_1 ≥ 0 then (touchstoneref4_Put.j0 k l1 (decide (a0_1 < (l1.length : Int))) a0_0 a0_1 l0_2) else (touchstoneref4_Put.j0 k l1 false a0_0 a0_1 l0_2)) else (touchstoneref4_Put.j0 k l1 false a0_0 a0_1 l0_2)) = some (r1, r2, r3) := h
 clear h
 have HC3 := aS H
 clear H
 go_enter Try.func102, Try.ntmps102
 go_upto_region 1 with (first | ((with_reducible refine gate_dst (N := 2) rfl ?_); (try (refine gate_guard (by rfl) ?_; dsimp only)); refine bx (N := 2) (t := 76) #[.int .i64 a0_0, .int .i64 a0_1, .slice A0_2 l0_2.length c0_2] ?_; intro gb114 hg w4 hbox hb; have BK114 := aS (hbox); have GW114 := Gz hg HB; have GE114 := Gz hg HB; replace HB := Hs HB hb; clear hb hbox hg) | ((with_reducible refine gate_dst (N := 4) rfl ?_); (try (refine gate_guard (by rfl) ?_; dsimp only)); refine bx (N := 4) (t := 76) #[.int .i64 0, .int .i64 0, .slice none 0 0] ?_; intro gb115 hg w5 hbox hb; have BK115 := aS (hbox); have GW115 := Gz hg HB; have GE115 := Gz hg HB; replace HB := Hs HB hb; have NB114_115 := aS ((by rw [hg]; exact Nat.ne_of_lt (blk_lt (bkw BK114)) : gb114 ≠ gb115)); have NB115_114 := aS ((by rw [hg]; exact Nat.ne_of_gt (blk_lt (bkw BK114)) : gb115 ≠ gb114)); replace BK114 := Bk BK114 hb; clear hb hbox hg))
 (try simp only [Act.put, List.setIfInBounds_toArray, List.set_cons_zero, List.set_cons_succ])
 go_cut [21] (fun v21 wc => ∃ (kq : Nat) (x21_2 : Bool), v21 = .bool x21_2 ∧ Aside0 (touchstoneref4_Put.j0 kq l1 x21_2 a0_0 a0_1 l0_2 = some (r1, r2, r3)) ∧ Aside0 (kq ≤ k) ∧ Aside0 (wc.heap[gb114]? = some (.cells #[.int .i64 a0_0, .int .i64 a0_1, (.slice A0_2 l0_2.length c0_2)] 76 (0, 0))) ∧ Aside0 (wc.heap[gb115]? = some (.cells #[.int .i64 0, .int .i64 0, (.slice none 0 0)] 76 (0, 0))) ∧ Aside0 (Below w.heap.size w wc))
 case first =>
  have H := HC3.out
  clear HC3
  by_cases c6 : a0_0 = 4
  rotate_left
  ·rw [if_neg c6] at H
   have c6b0 : (a0_0 == 4) = false := beq_eq_false_iff_ne.mpr c6
   have c6b1 : (a0_0 != 4) = true := bne_iff_ne.mpr c6
   (first | rw [c6b0] | (simp only [i64_w, i32_w]; rw [c6b0]) | skip)
   have H' := aS H
   clear H
   have hnb12 := NB114_115.out
   have hnc12 := NB115_114.out
   obtain ⟨hcz13_0, hcz13_1, hcz13_2⟩ := cl3 BK114
   obtain ⟨hfz13_0, hfz13_1, hfz13_2⟩ := fz3 BK114
   go_wp2
   go_meet
   case rel => exact ⟨_, (false), br, H', ⟨by first | omega | exact Nat.le_refl _⟩, ⟨bk BK114.out⟩, ⟨bk BK115.out⟩, ⟨hbk HB⟩⟩
  rw [if_pos c6] at H
  have c6b0 : (a0_0 == 4) = true := beq_iff_eq.mpr c6
  have c6b1 : (a0_0 != 4) = false := bne_eq_false_iff_eq.mpr c6
  clear c6
  (first | rw [c6b0] | (simp only [i64_w, i32_w]; rw [c6b0]) | skip)
  by_cases c7 : a0_1 ≥ 0
  rotate_left
  ·rw [if_neg c7] at H
   have c7b0 : decide (0 ≤ a0_1) = false := decide_eq_false c7
   clear c7
   have H' := aS H
   clear H
   have hnb10 := NB114_115.out
   have hnc10 := NB115_114.out
   obtain ⟨hcz11_0, hcz11_1, hcz11_2⟩ := cl3 BK114
   obtain ⟨hfz11_0, hfz11_1, hfz11_2⟩ := fz3 BK114
   go_wp2
   go_meet
   case rel => exact ⟨_, (false), br, H', ⟨by first | omega | exact Nat.le_refl _⟩, ⟨bk BK114.out⟩, ⟨bk BK115.out⟩, ⟨hbk HB⟩⟩
  rw [if_pos c7] at H
  have c7b0 : decide (0 ≤ a0_1) = true := decide_eq_true c7
  clear c7
  have H' := aS H
  clear H
  have hnb8 := NB114_115.out
  have hnc8 := NB115_114.out
  obtain ⟨hcz9_0, hcz9_1, hcz9_2⟩ := cl3 BK114
  obtain ⟨hfz9_0, hfz9_1, hfz9_2⟩ := fz3 BK114
  go_wp2
  go_meet
  case rel => exact ⟨_, (decide (a0_1 < (l1.length : Int))), br, H', ⟨by first | omega | exact Nat.le_refl _⟩, ⟨bk BK114.out⟩, ⟨bk BK115.out⟩, ⟨hbk HB⟩⟩
 case rest =>
  clear HC3
  try clear c1
  try clear p2
  try clear c6
  try clear c6b0
  try clear c6b1
  try clear c7
  try clear c7b0
  try clear c8
  try clear c10
  try clear c12
  try clear hcz11_0 hcz11_1 hcz11_2
  try clear hcz13_0 hcz13_1 hcz13_2
  try clear hcz9_0 hcz9_1 hcz9_2
  try clear hfz11_0 hfz11_1 hfz11_2
  try clear hfz13_0 hfz13_1 hfz13_2
  try clear hfz9_0 hfz9_1 hfz9_2
  obtain ⟨kq, x21_2, rfl, HA, HJ2, BK114, BK115, HB⟩ := hcut
  cases kq with
  | zero => exact absurd HA.out (by simp [touchstoneref4_Put.j0])
  | succ kj2 =>
   have H := HA.out
   clear HA
   simp only [touchstoneref4_Put.j0] at H
   by_cases c14 : x21_2 = true
   ·subst c14
    have H1 : (if 0 ≤ a0_1 then (if a0_1 < (l1.length : Int) then ((touchstoneref4_Copy.f kj2 ((rd_T76 l1 a0_1).f0) ((rd_T76 l1 a0_1).f1) ((rd_T76 l1 a0_1).f2)).bind fun bt117 => (some (bt117.1, bt117.2.1, bt117.2.2))) else (none)) else (none)) = some (r1, r2, r3) := by rw [if_pos rfl] at H; exact H
    clear H
    have H := H1
    clear H1
    by_cases c15 : 0 ≤ a0_1
    rotate_left
    ·rw [if_neg c15] at H
     exact absurd H (by simp)
    rw [if_pos c15] at H
    have c15b0 : decide (0 ≤ a0_1) = true := decide_eq_true c15
    clear c15
    by_cases c16 : a0_1 < (l1.length : Int)
    rotate_left
    ·rw [if_neg c16] at H
     exact absurd H (by simp)
    rw [if_pos c16] at H
    have c16b0 : decide (a0_1 < (l1.length : Int)) = true := decide_eq_true c16
    clear c16
    replace H := Option.bind_eq_some_iff.mp H
    obtain ⟨⟨t117, t118, t119⟩, A170, H⟩ := H
    try dsimp only at H
    have A17 := aS A170
    clear A170
    simp only [Option.some.injEq, Prod.mk.injEq] at H
    obtain ⟨rfl, rfl, rfl⟩ := H
    have hnb18 := NB114_115.out
    have hnc18 := NB115_114.out
    obtain ⟨hcz19_0, hcz19_1, hcz19_2⟩ := cl3 BK114
    obtain ⟨hfz19_0, hfz19_1, hfz19_2⟩ := fz3 BK114
    have p116 : 0 ≤ (a0_1 : Int) := of_decide_eq_true ba
    have q116 : a0_1 < (l1.length : Int) := of_decide_eq_true ba
    obtain ⟨ad116, A116_2, c116_2, e116, hx116_0, hx116_1, hx116_2, hl116_2, hi116_2⟩ := at_T76 HR1.out a0_1 p116 q116
    cases e116
    replace hx116_0 := (hc HB hx116_0 :)
    replace hx116_1 := (hc HB hx116_1 :)
    replace hx116_2 := (hc HB hx116_2 :)
    have HR116_2 := aS hi116_2
    have HC116_2 := aS hl116_2
    clear hi116_2 hl116_2
    replace p116 := eq_true p116
    replace q116 := eq_true q116
    go_wp2_with (first | ((with_reducible refine gate_callee (f := 126) rfl ?_); refine goesL_ (some 27) rfl rfl Try.func126 (by kernel_rfl) rfl #[.agg #[.int .i64 ((rd_T76 l1 a0_1).f0), .int .i64 ((rd_T76 l1 a0_1).f1), .slice A116_2 ((rd_T76 l1 a0_1).f2).length c116_2]] rfl bl ?_; (with_reducible refine (touchstoneref4_Copy.calls kj2 ((rd_T76 l1 a0_1).f0) ((rd_T76 l1 a0_1).f1) _ _ ((rd_T76 l1 a0_1).f2) t117 t118 t119 _ ?side1 ?side2 A17.out).mono ?_); (case side1 => exact cr (Kd.C_below HR116_2.out HB.out)); (case side2 => exact HC116_2.out); rintro e w20 ⟨v120, rfl, ho0, hb⟩; refine ⟨_, rfl, ?_⟩; have HO121 := aS (Kd.R_lower (Kd.R_newB (Kd.R_newB ho0 (bkw BK114)) (bkw BK115)) (below_size (hbk HB))); replace BK114 := Bk BK114 hb; replace BK115 := Bk BK115 hb; replace HB := Hs HB hb; (try clear hb); (try clear hb2); (try clear hk); (try clear hi); (try clear ho0); obtain ⟨hcz21_0, hcz21_1, hcz21_2⟩ := cl3 BK115; obtain ⟨hfz21_0, hfz21_1, hfz21_2⟩ := fz3 BK115; obtain ⟨Ao22, co22, eo22⟩ := Kd.R_slice HO121.out; subst eo22))
    refine bodyPost_ret (results_cell_row rfl _ _ gb115 76 #[.int .i64 t117, .int .i64 t118, .slice Ao22 t119.length co22] (0, 0) _ rfl (bp3 BK115.out) Try.underlying76 rfl (by kernel_rfl)) rfl ?_
    exact ⟨_, by first | rfl | (simp [errW_none, errW_some] <;> rfl) | (simp [*, errW_none, errW_some] <;> rfl), by (with_reducible repeat (first | apply Kd.R_alloc | apply Kd.R_drewN | apply Kd.R_drew)); exact Kd.R_mono (R3 (g := gb115) (Kd.R_mono HO121.out (fun k_ hk => (⟨hk, hk.2⟩ : _ ∧ k_ ≠ gb115))) (fun _ hk => hk.2)) (fun _ hk => trivial), hbk HB⟩
   replace c14 := Bool.eq_false_iff.mpr c14
   subst c14
   have H1 : (touchstoneref4_Put.l0 kj2 l1 0 a0_0 a0_1 l0_2 a0_0 a0_1 ([] : List (S76))) = some (r1, r2, r3) := by rw [if_neg (show ¬ (false = true) by decide)] at H; exact H
   clear H
   have H := H1
   clear H1
   have H' := aS H
   clear H
   have hnb23 := NB114_115.out
   have hnc23 := NB115_114.out
   obtain ⟨hcz24_0, hcz24_1, hcz24_2⟩ := cl3 BK114
   obtain ⟨hfz24_0, hfz24_1, hfz24_2⟩ := fz3 BK114
   go_wp2_with (first | ((with_reducible refine gate_dst (N := 5) rfl ?_); (try (refine gate_guard (by rfl) ?_; dsimp only)); refine bx (N := 5) (t := 76) #[.int .i64 0, .int .i64 0, .slice none 0 0] ?_; intro gb122 hg w25 hbox hb; have BK122 := aS (hbox); have GW122 := Gz hg HB; have GE122 := Gz hg HB; replace HB := Hs HB hb; have NB114_122 := aS ((by rw [hg]; exact Nat.ne_of_lt (blk_lt (bkw BK114)) : gb114 ≠ gb122)); have NB122_114 := aS ((by rw [hg]; exact Nat.ne_of_gt (blk_lt (bkw BK114)) : gb122 ≠ gb114)); replace BK114 := Bk BK114 hb; have NB115_122 := aS ((by rw [hg]; exact Nat.ne_of_lt (blk_lt (bkw BK115)) : gb115 ≠ gb122)); have NB122_115 := aS ((by rw [hg]; exact Nat.ne_of_gt (blk_lt (bkw BK115)) : gb122 ≠ gb115)); replace BK115 := Bk BK115 hb; clear hb hbox hg; have hnb26 := NB122_114.out; have hnc26 := NB114_122.out; have hnb27 := NB122_115.out; have hnc27 := NB115_122.out; obtain ⟨hcz28_0, hcz28_1, hcz28_2⟩ := cl3 BK122; obtain ⟨hfz28_0, hfz28_1, hfz28_2⟩ := fz3 BK122))
   go_loopg [6] kj2 (fun kq v6 w' => ∃ (x6_2 : Int) (x123002_2 : List (S76)) (u123002 : Value), v6 = .int .i64 x6_2 ∧ Aside0 (touchstoneref4_Put.l0 kq l1 x6_2 a0_0 a0_1 l0_2 a0_0 a0_1 x123002_2 = some (r1, r2, r3)) ∧ Aside0 (kq ≤ kj2) ∧ Aside0 (Kd.R k76 76 w' w.heap.size (fun k_ => k_ ≠ gb114 ∧ k_ ≠ gb115 ∧ k_ ≠ gb122) u123002 x123002_2) ∧ Aside0 (w'.heap[gb114]? = some (.cells #[.int .i64 a0_0, .int .i64 a0_1, (.slice A0_2 l0_2.length c0_2)] 76 (0, 0))) ∧ Aside0 (w'.heap[gb115]? = some (.cells #[.int .i64 0, .int .i64 0, (.slice none 0 0)] 76 (0, 0))) ∧ Aside0 (w'.heap[gb122]? = some (.cells #[.int .i64 a0_0, .int .i64 a0_1, u123002] 76 (0, 0))) ∧ Aside0 (Below w.heap.size w w'))
   case atStart => exact ⟨(0), (([] : List (S76))), (.slice none 0 0), br, H', ⟨Nat.le_refl _⟩, ⟨by first | exact Kd.R_nil _ _ _ _ _ | exact Kd.N_nil _ _ _ _ _ | exact Kd.V_nil _ _ _ _ _ | exact Kd.Q_nil _ _ _ _ _ | exact Kd.S_nil _ _ _ _ _⟩, ⟨bf3 BK114.out NB114_122.out⟩, ⟨bf3 BK115.out NB115_122.out⟩, ⟨bp3 BK122.out⟩, ⟨hbk HB⟩⟩
   case round =>
    clear H'
    try clear c1
    try clear p1
    try clear q1
    try clear hx1
    try clear c2
    try clear p2
    try clear c6
    try clear c6b0
    try clear c6b1
    try clear c7
    try clear c7b0
    try clear c8
    try clear c10
    try clear c11
    try clear p11
    try clear q11
    try clear hx11
    try clear c12
    try clear c14
    try clear c15
    try clear c15b0
    try clear c16
    try clear c16b0
    try clear c18
    try clear c23
    try clear c26
    try clear c27
    try clear hcz11_0 hcz11_1 hcz11_2
    try clear hcz13_0 hcz13_1 hcz13_2
    try clear hcz19_0 hcz19_1 hcz19_2
    try clear hcz21_0 hcz21_1 hcz21_2
    try clear hcz24_0 hcz24_1 hcz24_2
    try clear hcz28_0 hcz28_1 hcz28_2
    try clear hcz9_0 hcz9_1 hcz9_2
    try clear hfz11_0 hfz11_1 hfz11_2
    try clear hfz13_0 hfz13_1 hfz13_2
    try clear hfz19_0 hfz19_1 hfz19_2
    try clear hfz21_0 hfz21_1 hfz21_2
    try clear hfz24_0 hfz24_1 hfz24_2
    try clear hfz28_0 hfz28_1 hfz28_2
    try clear hfz9_0 hfz9_1 hfz9_2
    try clear hx116_0 hx116_1 hx116_2
    try clear p116
    try clear p2
    try clear q116
    obtain ⟨x6_2, x123002_2, u123002, rfl, HA, HK2, HO_123002, BK114, BK115, BK122, HB⟩ := hrel
    cases gk with
    | zero => exact absurd HA.out (by simp [touchstoneref4_Put.l0])
    | succ k2 =>
     have H := HA.out
     clear HA
     simp only [touchstoneref4_Put.l0] at H
     by_cases c29 : x6_2 < (l0_2.length : Int)
     rotate_left
     ·rw [if_neg c29] at H
      have c29b0 : decide (x6_2 < (l0_2.length : Int)) = false := decide_eq_false c29
      clear c29
      simp only [Option.some.injEq, Prod.mk.injEq] at H
      obtain ⟨rfl, rfl, rfl⟩ := H
      have hnb42 := NB114_115.out
      have hnc42 := NB115_114.out
      have hnb43 := NB114_122.out
      have hnc43 := NB122_114.out
      obtain ⟨hcz44_0, hcz44_1, hcz44_2⟩ := cl3 BK114
      obtain ⟨hfz44_0, hfz44_1, hfz44_2⟩ := fz3 BK114
      have hnb45 := NB122_115.out
      have hnc45 := NB115_122.out
      obtain ⟨hcz46_0, hcz46_1, hcz46_2⟩ := cl3 BK122
      obtain ⟨hfz46_0, hfz46_1, hfz46_2⟩ := fz3 BK122
      obtain ⟨hcz47_0, hcz47_1, hcz47_2⟩ := cl3 BK115
      obtain ⟨hfz47_0, hfz47_1, hfz47_2⟩ := fz3 BK115
      obtain ⟨Ao48, co48, eo48⟩ := Kd.R_slice HO_123002.out
      subst eo48
      go_wp2
      refine bodyPost_ret (results_cell_row rfl _ _ gb115 76 #[.int .i64 a0_0, .int .i64 a0_1, .slice Ao48 x123002_2.length co48] (0, 0) _ rfl (bp3 BK115.out) Try.underlying76 rfl (by kernel_rfl)) rfl ?_
      exact ⟨_, by first | rfl | (simp [errW_none, errW_some] <;> rfl) | (simp [*, errW_none, errW_some] <;> rfl), by (with_reducible repeat (first | apply Kd.R_alloc | apply Kd.R_drewN | apply Kd.R_drew)); exact Kd.R_mono (R3 (g := gb115) (Kd.R_mono HO_123002.out (fun k_ hk => (⟨hk, hk.2.1⟩ : _ ∧ k_ ≠ gb115))) (fun _ hk => hk.2)) (fun _ hk => trivial), hbk HB⟩
     rw [if_pos c29] at H
     have c29b0 : decide (x6_2 < (l0_2.length : Int)) = true := decide_eq_true c29
     clear c29
     by_cases c30 : 0 ≤ x6_2
     rotate_left
     ·rw [if_neg c30] at H
      exact absurd H (by simp)
     rw [if_pos c30] at H
     have c30b0 : decide (0 ≤ x6_2) = true := decide_eq_true c30
     clear c30
     replace H := Option.bind_eq_some_iff.mp H
     obtain ⟨⟨t124, t125, t126⟩, A310, H⟩ := H
     try dsimp only at H
     have A31 := aS A310
     clear A310
     by_cases c32 : x123002_2.length < 3518437208883
     rotate_left
     ·rw [if_neg c32] at H
      exact absurd H (by simp)
     rw [if_pos c32] at H
     have LMc32 := aS c32
     clear c32
     obtain ⟨y129, hy129⟩ : ∃ y_ : List (S76), y_ = (x123002_2 ++ [(⟨t124, t125, t126⟩ : S76)]) := ⟨_, rfl⟩
     replace H : (touchstoneref4_Put.l0 k2 l1 (wrap64 (x6_2 + 1)) a0_0 a0_1 l0_2 a0_0 a0_1 y129) = some (r1, r2, r3) := by first | (rw [hy129]; with_reducible exact H) | (have H2_ := (Option.bind_some _ _).symm.trans H; rw [hy129]; with_reducible exact H2_) | (have H2_ := (Option.bind_some _ _).symm.trans H; with_reducible exact H2_) | with_reducible exact H | (rw [hy129]; exact H) | exact H
     have Ny129 := aS hy129
     clear hy129
     have H' := aS H
     clear H
     have hnb33 := NB114_115.out
     have hnc33 := NB115_114.out
     have hnb34 := NB114_122.out
     have hnc34 := NB122_114.out
     obtain ⟨hcz35_0, hcz35_1, hcz35_2⟩ := cl3 BK114
     obtain ⟨hfz35_0, hfz35_1, hfz35_2⟩ := fz3 BK114
     try go_wp2
     replace HO_123002 := aS (Kd.R_drew HO_123002.out)
     replace BK114 := aS (blk_drew BK114.out)
     replace BK115 := aS (blk_drew BK115.out)
     replace BK122 := aS (blk_drew BK122.out)
     replace HB := aS (below_drew1 HB.out)
     have p123 : 0 ≤ (x6_2 : Int) := of_decide_eq_true ba
     have q123 : x6_2 < (l0_2.length : Int) := of_decide_eq_true ba
     obtain ⟨ad123, A123_2, c123_2, e123, hx123_0, hx123_1, hx123_2, hl123_2, hi123_2⟩ := at_T76 HR0_2.out x6_2 p123 q123
     have hw123_2 := hx123_2
     have hw123_1 := hx123_1
     have hw123_0 := hx123_0
     cases e123
     replace hx123_0 := (hc HB hx123_0 :)
     replace hx123_1 := (hc HB hx123_1 :)
     replace hx123_2 := (hc HB hx123_2 :)
     have HR123_2 := aS hi123_2
     have HC123_2 := aS hl123_2
     clear hi123_2 hl123_2
     replace p123 := eq_true p123
     replace q123 := eq_true q123
     refine start_ (n := 13) (S := fun w' => w'.cell? ⟨gb122, 0, none⟩ = some (.int .i64 a0_0) ∧ w'.cell? ⟨gb122, 1, none⟩ = some (.int .i64 a0_1) ∧ w'.cell? ⟨gb122, 2, none⟩ = some (u123002) ∧ w'.cell? ⟨gb114, 0, none⟩ = some (.int .i64 a0_0) ∧ w'.cell? ⟨gb114, 1, none⟩ = some (.int .i64 a0_1) ∧ w'.cell? ⟨gb114, 2, none⟩ = some (.slice (some ad123) l0_2.length c0_2) ∧ w'.cell? (ad123.add ((x6_2).toNat * 3)) = some (.int .i64 ((rd_T76 l0_2 x6_2).f0)) ∧ w'.cell? ⟨(ad123.add ((x6_2).toNat * 3)).block, (ad123.add ((x6_2).toNat * 3)).off + 1, none⟩ = some (.int .i64 ((rd_T76 l0_2 x6_2).f1)) ∧ w'.cell? ⟨(ad123.add ((x6_2).toNat * 3)).block, (ad123.add ((x6_2).toNat * 3)).off + 2, none⟩ = some (.slice A123_2 ((rd_T76 l0_2 x6_2).f2).length c123_2)) (ds := [12]) #[false, false, false, false, false, false, false, false, false, false, false, false, false] (by kernel_rfl) rfl rfl ⟨cz BK122 0, cz BK122 1, cz BK122 2, cz BK114 0, cz BK114 1, cz BK114 2, (hc HB hw123_0 :), (hc HB hw123_1 :), (hc HB hw123_2 :)⟩ (fun hHeld => ?_); refine with_tabW touchstoneref4_Put.tab7 touchstoneref4_Put.bits7 (fun HT_ HW_ => ?_)
     generalize wr.drew = w36 at HO_123002 BK114 BK115 BK122 HB HR123_2 hx123_0 hx123_1 hx123_2 hHeld ⊢
     refine pu 0 40 (bA 13 1) HT_ rfl rfl ?_
     refine pu 2 42 (bA 13 5) HT_ rfl rfl ?_
     refine pu 4 44 (bA 13 21) HT_ rfl rfl ?_
     refine pu 7 47 (bA 13 149) HT_ rfl rfl ?_
     refine ta 1 41 (bA 13 151) HT_ HW_ rfl rfl hHeld ?_
     refine ta 3 43 (bA 13 159) HT_ HW_ rfl rfl hHeld ?_
     refine pu 5 45 (bA 13 191) HT_ rfl rfl ?_
     refine ta 6 46 (bA 13 255) HT_ HW_ rfl rfl hHeld ?_
     refine one_ (i := 8) (N := some 48) (bA 13 511) rfl rfl (one_of HT_.out (by kernel_rfl)) (by decide) (fun K hK => ?_)
     refine goes_ Try.func102 (by kernel_rfl) rfl #[.agg #[.int .i64 ((rd_T76 l0_2 x6_2).f0), .int .i64 ((rd_T76 l0_2 x6_2).f1), .slice A123_2 ((rd_T76 l0_2 x6_2).f2).length c123_2], .slice A1 l1.length c1] (by rfl) rfl rfl bl ?_
     with_reducible refine (ih k2 (by have := HJ2.out; have := HK2.out; omega) ((rd_T76 l0_2 x6_2).f0) ((rd_T76 l0_2 x6_2).f1) _ _ ((rd_T76 l0_2 x6_2).f2) _ _ l1 t124 t125 t126 _ ?side1 ?side2 ?side3 ?side4 A31.out).mono ?_
     (case side1 => exact cr (Kd.C_below HR123_2.out HB.out))
     (case side2 => exact HC123_2.out)
     (case side3 => exact cr (Kd.C_below HR1.out HB.out))
     (case side4 => exact HC1.out)
     rintro e w37 ⟨v127, rfl, ho0, hb⟩
     refine ⟨_, rfl, ?_⟩
     have HO128 := aS (Kd.R_lower (Kd.R_newB (Kd.R_newB (Kd.R_newB (Kd.R_new' ho0 (Kd.R_lt (kr_ HO_123002.out))) (bkw BK114)) (bkw BK115)) (bkw BK122)) (below_size (hbk HB)))
     replace HO_123002 := aS (Kd.R_elder' (kr_ HO_123002.out) (Kd.R_base ho0) hb)
     replace BK114 := Bk BK114 hb
     replace BK115 := Bk BK115 hb
     replace BK122 := Bk BK122 hb
     replace HB := Hs HB hb
     (try clear hb)
     (try clear hb2)
     (try clear hk)
     (try clear hi)
     (try clear ho0)
     obtain ⟨Ao39, co39, eo39⟩ := Kd.R_slice HO128.out
     (first | subst eo39 | (injection eo39 with f1_ f2_ f3_; have f4_ := f1_.symm; have f5_ := f3_.symm; clear f1_ f2_ f3_; subst f4_; subst f5_))
     refine hK.out _ _ ⟨cz BK122 0, cz BK122 1, cz BK122 2, cz BK114 0, cz BK114 1, cz BK114 2, (hc HB hw123_0 :), (hc HB hw123_1 :), (hc HB hw123_2 :)⟩ (fun hHeld => ?_)
     clear hK K
     refine norm_ ap ?_
     refine one_ (i := 9) (N := some 49) (bA 13 1023) rfl rfl (one_of HT_.out (by kernel_rfl)) (by decide) (fun K hK => ?_)
     refine value_ (w1 := ?_) (v := ?_) (by rfl) rfl ?_ ?_
     rotate_left 2
     ·go_simp
      constructor
      ·rfl
      ·rfl
     refine hK.out _ _ ⟨(blk_cell (blk_alloc BK122.out _) 0).trans rfl, (blk_cell (blk_alloc BK122.out _) 1).trans rfl, (blk_cell (blk_alloc BK122.out _) 2).trans rfl, (blk_cell (blk_alloc BK114.out _) 0).trans rfl, (blk_cell (blk_alloc BK114.out _) 1).trans rfl, (blk_cell (blk_alloc BK114.out _) 2).trans rfl, (World.cell?_alloc_lt _ _ _ (World.block_lt_of_cell? _ _ ((hc HB hw123_0 :)))).trans ((hc HB hw123_0 :)), (World.cell?_alloc_lt _ _ _ (World.block_lt_of_cell? _ _ ((hc HB hw123_1 :)))).trans ((hc HB hw123_1 :)), (World.cell?_alloc_lt _ _ _ (World.block_lt_of_cell? _ _ ((hc HB hw123_2 :)))).trans ((hc HB hw123_2 :))⟩ (fun hHeld => ?_)
     clear hK K
     refine norm_ ap ?_
     refine one_ (i := 10) (N := some 50) (bA 13 2047) rfl rfl (one_of HT_.out (by kernel_rfl)) (by decide) (fun K hK => ?_)
     refine Kd.R_append_step k76 (w0 := w) w.heap.size (by rfl) (.tmp 41) (.tmp 49) 25 76 (.agg #[(.int .i64 0), (.int .i64 0), (.slice none 0 0)]) 40 rfl Try.underlying25 info76 rfl (by decide) (by omega) u123002 x123002_2 (⟨t124, t125, t126⟩ : S76) [.int .i64 t124, .int .i64 t125, .slice Ao39 t126.length co39] (fun k_ => k_ ≠ gb114 ∧ k_ ≠ gb115 ∧ k_ ≠ gb122) (fun k_ => ((fun k_ => k_ ≠ gb114 ∧ k_ ≠ gb115 ∧ k_ ≠ gb122)) k_ ∧ some k_ ≠ (u123002 : Value).ownBlock) rfl rfl ?aP (fun _ hk => hk) ?aF ?aO ?aB ?aS ?aL ?_
     (case aP => exact k76_mkM _ _ _ (⟨t124, t125, t126⟩ : S76) (Kd.R_mono (HO128.out) (fun k_ hk => ⟨⟨hk.1.1.2, ⟨hk.1.2, hk.2⟩⟩, hk.1.1.1.2⟩)))
     (case aB => exact (hbk HB))
     (case aF => exact (fun k_ hk => ⟨Kd.freshB (bkw BK114) k_ hk, Kd.freshB (bkw BK115) k_ hk, Kd.freshB (bkw BK122) k_ hk⟩))
     (case aO => exact (by (with_reducible repeat (first | apply Kd.R_alloc | apply Kd.R_drewN | apply Kd.R_drew)); exact Kd.R_mono HO_123002.out (fun _ hk => ⟨hk.1.1, ⟨hk.1.2.1, hk.1.2.2⟩⟩)))
     (case aS => exact (below_size (hbk HB)))
     (case aL => have := LMc32.out; omega)
     intro v130 w38 ho hb hg hat
     rw [← Ny129.out] at ho
     replace BK114 := aS (blk_grown (bkw BK114) hg (Kd.R_away HO_123002.out (fun _ hk => hk.1.1)))
     replace BK115 := aS (blk_grown (bkw BK115) hg (Kd.R_away HO_123002.out (fun _ hk => hk.1.2.1)))
     replace BK122 := aS (blk_grown (bkw BK122) hg (Kd.R_away HO_123002.out (fun _ hk => hk.1.2.2)))
     replace HB := aS (hb)
     have HO131 := aS (ho)
     clear HO_123002 HO128
     clear ho hb hg hat
     obtain ⟨Ao40, co40, eo40⟩ := Kd.R_slice HO131.out
     (first | subst eo40 | (injection eo40 with f1_ f2_ f3_; have f4_ := f1_.symm; have f5_ := f3_.symm; clear f1_ f2_ f3_; subst f4_; subst f5_))
     refine hK.out _ _ ⟨cz BK122 0, cz BK122 1, cz BK122 2, cz BK114 0, cz BK114 1, cz BK114 2, (hc HB hw123_0 :), (hc HB hw123_1 :), (hc HB hw123_2 :)⟩ (fun hHeld => ?_)
     clear hK K
     refine norm_ ap ?_
     refine pu 11 51 (bA 13 4095) HT_ rfl rfl ?_
     refine last_ (i := 12) (N := none) (bA 13 8191) rfl rfl (one_of HT_.out (by kernel_rfl)) (by decide) (fun K hK => ?_)
     have hs41 : w38.cell? ⟨gb122, 2, none⟩ = some (u123002) := cz BK122 2
     have hfs41 := blk_frozen BK122.out 2
     have hns41_0 := NB114_122.out
     have hns41_1 := NB115_122.out
     have hms41_0 := NB122_114.out
     have hms41_1 := NB122_115.out
     refine skip_ (w1 := ?_) (by rfl) rfl ?_ ?_
     rotate_left
     ·go_simp
      rfl
     refine hK.out _ _ ?_
     clear hK K
     refine done_ (done_of HT_.out (by kernel_rfl)) ?_
     try go_wp2
     go_roundg k2
     case measure => have := HJ2.out; have := HK2.out; omega
     case rel => exact ⟨(wrap64 (x6_2 + 1)), (y129), (.slice Ao40 y129.length co40), br, H', ⟨by have := HJ2.out; have := HK2.out; omega⟩, ⟨by (with_reducible repeat (first | apply Kd.R_alloc | apply Kd.R_drewN | apply Kd.R_drew)); exact Kd.R_mono (Kd.R_far (p := ⟨gb122, 2, none⟩) (Kd.R_mono HO131.out (fun k_ hk => (⟨hk, hk.2.2⟩ : _ ∧ k_ ≠ gb122))) (fun _ hk => hk.2) (.slice Ao40 y129.length co40)) (fun _ hk => ⟨hk.1.1, ⟨hk.1.2.1, hk.1.2.2⟩⟩)⟩, ⟨by (with_reducible repeat (first | refine blk_drewN ?_ _ | refine blk_drew ?_ | refine blk_alloc ?_ _)); refine blk_far ?_ NB114_122.out _; (with_reducible repeat (first | refine blk_drewN ?_ _ | refine blk_drew ?_ | refine blk_alloc ?_ _)); exact BK114.out⟩, ⟨by (with_reducible repeat (first | refine blk_drewN ?_ _ | refine blk_drew ?_ | refine blk_alloc ?_ _)); refine blk_far ?_ NB115_122.out _; (with_reducible repeat (first | refine blk_drewN ?_ _ | refine blk_drew ?_ | refine blk_alloc ?_ _)); exact BK115.out⟩, ⟨by (with_reducible repeat (first | refine blk_drewN ?_ _ | refine blk_drew ?_ | refine blk_alloc ?_ _)); refine blk_put (cs := #[.int .i64 a0_0, .int .i64 a0_1, u123002]) ?_ 2 _ rfl; (with_reducible repeat (first | refine blk_drewN ?_ _ | refine blk_drew ?_ | refine blk_alloc ?_ _)); exact BK122.out⟩, ⟨hbk HB⟩⟩
end Go.Proofs.Ytpejhapgffcngaa.QK

