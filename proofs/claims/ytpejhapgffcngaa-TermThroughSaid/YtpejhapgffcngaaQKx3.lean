/- Words and walks of this claim. -/
import Derived.Test.YtpejhapgffcngaaXShort
import Derived.Test.YtpejhapgffcngaaQKx0
namespace Go.Proofs.Ytpejhapgffcngaa.QK
open Go.RowKit Go.Proofs.YtpejhapgffcngaaW.PrintWords Go.Proofs.YtpejhapgffcngaaW.PrintLast Go.Proofs.YtpejhapgffcngaaW.PrintMore
attribute [local go_sem] max2_int min2_int max_two min_two max_three min_three max_four min_four
set_option linter.unusedVariables false
set_option linter.unusedSimpArgs false
mutual
def level_Put.j0 : Nat → List (S76) → Bool → Int → Int → List (S76) → Option (Int × Int × (List (S76)))
 | 0, _, _, _, _, _ => none
 | k + 1, x1, x22, x115000, x115001, x115002 => if x22 = true then (if 0 ≤ x115001 then (if x115001 < (x1.length : Int) then ((level_Put.f k ((rd_T76 x1 x115001).f0) ((rd_T76 x1 x115001).f1) ((rd_T76 x1 x115001).f2) ([] : List (S76))).bind fun bt117 => (some (bt117.1, bt117.2.1, bt117.2.2))) else (none)) else (none)) else (level_Put.l0 k x1 ([] : List (S76)) x115002 (x115002.length : Int) 0 x115000 x115001 x115002)
def level_Put.l0 : Nat → List (S76) → List (S76) → List (S76) → Int → Int → Int → Int → List (S76) → Option (Int × Int × (List (S76)))
 | 0, _, _, _, _, _, _, _, _ => none
 | k + 1, x1, x5, x30, x31, x32, x115000, x115001, x115002 => if x32 < x31 then (if 0 ≤ x32 then (if x32 < (x30.length : Int) then ((level_Put.f k ((rd_T76 x30 x32).f0) ((rd_T76 x30 x32).f1) ((rd_T76 x30 x32).f2) x1).bind fun bt124 => (if x5.length < 3518437208883 then (level_Put.l0 k x1 (x5 ++ [(⟨bt124.1, bt124.2.1, bt124.2.2⟩ : S76)]) x30 x31 (wrap64 (x32 + 1)) x115000 x115001 x115002) else (none))) else (none)) else (none)) else (some (x115000, x115001, x5))
def level_Put.f : Nat → Int → Int → List (S76) → List (S76) → Option (Int × Int × (List (S76)))
 | 0, _, _, _, _ => none
 | k + 1, a0_0, a0_1, l0_2, l1 => if a0_0 = 4 then (if a0_1 ≥ 0 then (level_Put.j0 k l1 (decide (a0_1 < (l1.length : Int))) a0_0 a0_1 l0_2) else (level_Put.j0 k l1 false a0_0 a0_1 l0_2)) else (level_Put.j0 k l1 false a0_0 a0_1 l0_2)
end
set_option maxHeartbeats 8000000 in
set_option maxRecDepth 100000 in
theorem level_Put.calls (k : Nat) : ∀ (a0_0 : Int) (a0_1 : Int) (A0_2 : Option Addr) (c0_2 : Nat) (l0_2 : List (S76)) (A1 : Option Addr) (c1 : Nat) (l1 : List (S76)) (r1 : Int) (r2 : Int) (r3 : List (S76)) (w : World) (hr0_2 : Kd.C k76 w A0_2 l0_2.length l0_2) (hc0_2 : l0_2.length ≤ c0_2) (hr1 : Kd.C k76 w A1 l1.length l1) (hc1 : l1.length ≤ c1) (h : level_Put.f k a0_0 a0_1 l0_2 l1 = some (r1, r2, r3)),
  Calls Try.prog 125 #[.agg #[.int .i64 a0_0, .int .i64 a0_1, .slice A0_2 l0_2.length c0_2], .slice A1 l1.length c1] w fun e w' => ∃ v2_ : Value, e = .returned (.agg #[.int .i64 r1, .int .i64 r2, v2_]) ∧ Kd.R k76 76 w' w.heap.size (fun _ => True) v2_ r3 ∧ Below w.heap.size w w' := by
 induction k using Nat.strongRecOn with
 | _ k ih =>
 intro a0_0 a0_1 A0_2 c0_2 l0_2 A1 c1 l1 r1 r2 r3 w hr0_2 hc0_2 hr1 hc1 h
 cases k with
 | zero => exact absurd h (by simp [level_Put.f])
 | succ k =>
 simp only [level_Put.f] at h
 have hu76 := Try.underlying76
 have HR0_2 := aS hr0_2
 have HC0_2 := aS hc0_2
 clear hr0_2 hc0_2
 have HR1 := aS hr1
 have HC1 := aS hc1
 clear hr1 hc1
 have HB := aS (Below.refl w.heap.size w)
 have H : (if a0_0 = 4 then (if a0_1 ≥ 0 then (level_Put.j0 k l1 (decide (a0_1 < (l1.length : Int))) a0_0 a0_1 l0_2) else (level_Put.j0 k l1 false a0_0 a0_1 l0_2)) else (level_Put.j0 k l1 false a0_0 a0_1 l0_2)) = some (r1, r2, r3) := h
 clear h
 have HC3 := aS H
 clear H
 go_enter Try.func125, Try.ntmps125
 go_upto_region 1 with (first | ((with_reducible refine gate_dst (N := 2) rfl ?_); (try (refine gate_guard (by rfl) ?_; dsimp only)); refine box_event ?hg (N := 2) ?hd (cs := #[.int .i64 a0_0, .int .i64 a0_1, .slice A0_2 l0_2.length c0_2]) (t := 76) ?hr ?_; (case hd => rfl); (case hg => rfl); (case hr => first | (go_simp; done) | (go_simp; rfl)); intro gb114 hg w4 hbox hb; have BK114 := aS (hbox); have GW114 := aS ((by rw [hg]; exact (below_size (hbk HB)) : w.heap.size ≤ gb114)); have GE114 := aS ((by rw [hg]; exact (below_size (hbk HB)) : w.heap.size ≤ gb114)); replace HB := Hs HB hb; clear hb hbox hg) | ((with_reducible refine gate_dst (N := 4) rfl ?_); (try (refine gate_guard (by rfl) ?_; dsimp only)); refine box_event ?hg (N := 4) ?hd (cs := #[.int .i64 0, .int .i64 0, .slice none 0 0]) (t := 76) ?hr ?_; (case hd => rfl); (case hg => rfl); (case hr => first | (go_simp; done) | (go_simp; rfl)); intro gb115 hg w5 hbox hb; have BK115 := aS (hbox); have GW115 := aS ((by rw [hg]; exact (below_size (hbk HB)) : w.heap.size ≤ gb115)); have GE115 := aS ((by rw [hg]; exact (below_size (hbk HB)) : w.heap.size ≤ gb115)); replace HB := Hs HB hb; have NB114_115 := aS ((by rw [hg]; exact Nat.ne_of_lt (blk_lt (bkw BK114)) : gb114 ≠ gb115)); have NB115_114 := aS ((by rw [hg]; exact Nat.ne_of_gt (blk_lt (bkw BK114)) : gb115 ≠ gb114)); replace BK114 := Bk BK114 hb; clear hb hbox hg))
 (try simp only [Act.put, List.setIfInBounds_toArray, List.set_cons_zero, List.set_cons_succ])
 go_cut [22] (fun v22 wc => ∃ (kq : Nat) (x22_2 : Bool), v22 = .bool x22_2 ∧ Aside0 (level_Put.j0 kq l1 x22_2 a0_0 a0_1 l0_2 = some (r1, r2, r3)) ∧ Aside0 (kq ≤ k) ∧ Aside0 (wc.heap[gb114]? = some (.cells #[.int .i64 a0_0, .int .i64 a0_1, (.slice A0_2 l0_2.length c0_2)] 76 (0, 0))) ∧ Aside0 (wc.heap[gb115]? = some (.cells #[.int .i64 0, .int .i64 0, (.slice none 0 0)] 76 (0, 0))) ∧ Aside0 (Below w.heap.size w wc))
 case first =>
  have H := HC3.out
  clear HC3
  by_cases c6 : a0_0 = 4
  rotate_left
  ·rw [if_neg c6] at H
   have c6b0 : (a0_0 == 4) = false := beq_eq_false_iff_ne.mpr c6
   have c6b1 : (a0_0 != 4) = true := bne_iff_ne.mpr c6
   (first | rw [c6b0] | (simp only [i64_w, i32_w]; rw [c6b0]) | skip)
   have H' := aS H
   clear H
   have hnb12 := NB114_115.out
   have hnc12 := NB115_114.out
   obtain ⟨hcz13_0, hcz13_1, hcz13_2⟩ := cl3 BK114
   obtain ⟨hfz13_0, hfz13_1, hfz13_2⟩ := fz3 BK114
   go_wp2
   go_meet
   case rel => exact ⟨_, (false), br, H', ⟨by first | omega | exact Nat.le_refl _⟩, ⟨bk BK114.out⟩, ⟨bk BK115.out⟩, ⟨hbk HB⟩⟩
  rw [if_pos c6] at H
  have c6b0 : (a0_0 == 4) = true := beq_iff_eq.mpr c6
  have c6b1 : (a0_0 != 4) = false := bne_eq_false_iff_eq.mpr c6
  clear c6
  (first | rw [c6b0] | (simp only [i64_w, i32_w]; rw [c6b0]) | skip)
  by_cases c7 : a0_1 ≥ 0
  rotate_left
  ·rw [if_neg c7] at H
   have c7b0 : decide (0 ≤ a0_1) = false := decide_eq_false c7
   clear c7
   have H' := aS H
   clear H
   have hnb10 := NB114_115.out
   have hnc10 := NB115_114.out
   obtain ⟨hcz11_0, hcz11_1, hcz11_2⟩ := cl3 BK114
   obtain ⟨hfz11_0, hfz11_1, hfz11_2⟩ := fz3 BK114
   go_wp2
   go_meet
   case rel => exact ⟨_, (false), br, H', ⟨by first | omega | exact Nat.le_refl _⟩, ⟨bk BK114.out⟩, ⟨bk BK115.out⟩, ⟨hbk HB⟩⟩
  rw [if_pos c7] at H
  have c7b0 : decide (0 ≤ a0_1) = true := decide_eq_true c7
  clear c7
  have H' := aS H
  clear H
  have hnb8 := NB114_115.out
  have hnc8 := NB115_114.out
  obtain ⟨hcz9_0, hcz9_1, hcz9_2⟩ := cl3 BK114
  obtain ⟨hfz9_0, hfz9_1, hfz9_2⟩ := fz3 BK114
  go_wp2
  go_meet
  case rel => exact ⟨_, (decide (a0_1 < (l1.length : Int))), br, H', ⟨by first | omega | exact Nat.le_refl _⟩, ⟨bk BK114.out⟩, ⟨bk BK115.out⟩, ⟨hbk HB⟩⟩
 case rest =>
  clear HC3
  try clear c1
  try clear p2
  try clear c6
  try clear c6b0
  try clear c6b1
  try clear c7
  try clear c7b0
  try clear c8
  try clear c10
  try clear c12
  try clear hcz11_0 hcz11_1 hcz11_2
  try clear hcz13_0 hcz13_1 hcz13_2
  try clear hcz9_0 hcz9_1 hcz9_2
  try clear hfz11_0 hfz11_1 hfz11_2
  try clear hfz13_0 hfz13_1 hfz13_2
  try clear hfz9_0 hfz9_1 hfz9_2
  obtain ⟨kq, x22_2, rfl, HA, HJ2, BK114, BK115, HB⟩ := hcut
  cases kq with
  | zero => exact absurd HA.out (by simp [level_Put.j0])
  | succ kj2 =>
   have H := HA.out
   clear HA
   simp only [level_Put.j0] at H
   by_cases c14 : x22_2 = true
   ·subst c14
    have H1 : (if 0 ≤ a0_1 then (if a0_1 < (l1.length : Int) then ((level_Put.f kj2 ((rd_T76 l1 a0_1).f0) ((rd_T76 l1 a0_1).f1) ((rd_T76 l1 a0_1).f2) ([] : List (S76))).bind fun bt117 => (some (bt117.1, bt117.2.1, bt117.2.2))) else (none)) else (none)) = some (r1, r2, r3) := by rw [if_pos rfl] at H; exact H
    clear H
    have H := H1
    clear H1
    by_cases c15 : 0 ≤ a0_1
    rotate_left
    ·rw [if_neg c15] at H
     exact absurd H (by simp)
    rw [if_pos c15] at H
    have c15b0 : decide (0 ≤ a0_1) = true := decide_eq_true c15
    clear c15
    by_cases c16 : a0_1 < (l1.length : Int)
    rotate_left
    ·rw [if_neg c16] at H
     exact absurd H (by simp)
    rw [if_pos c16] at H
    have c16b0 : decide (a0_1 < (l1.length : Int)) = true := decide_eq_true c16
    clear c16
    replace H := Option.bind_eq_some_iff.mp H
    obtain ⟨⟨t117, t118, t119⟩, A170, H⟩ := H
    try dsimp only at H
    have A17 := aS A170
    clear A170
    simp only [Option.some.injEq, Prod.mk.injEq] at H
    obtain ⟨rfl, rfl, rfl⟩ := H
    have hnb18 := NB114_115.out
    have hnc18 := NB115_114.out
    obtain ⟨hcz19_0, hcz19_1, hcz19_2⟩ := cl3 BK114
    obtain ⟨hfz19_0, hfz19_1, hfz19_2⟩ := fz3 BK114
    have p116 : 0 ≤ (a0_1 : Int) := of_decide_eq_true ba
    have q116 : a0_1 < (l1.length : Int) := of_decide_eq_true ba
    obtain ⟨ad116, A116_2, c116_2, e116, hx116_0, hx116_1, hx116_2, hl116_2, hi116_2⟩ := at_T76 HR1.out a0_1 p116 q116
    cases e116
    replace hx116_0 := (HB.out.cell (World.block_lt_of_cell? w _ hx116_0)).trans hx116_0
    replace hx116_1 := (HB.out.cell (World.block_lt_of_cell? w _ hx116_1)).trans hx116_1
    replace hx116_2 := (HB.out.cell (World.block_lt_of_cell? w _ hx116_2)).trans hx116_2
    have HR116_2 := aS hi116_2
    have HC116_2 := aS hl116_2
    clear hi116_2 hl116_2
    replace p116 := eq_true p116
    replace q116 := eq_true q116
    go_wp2_with (first | ((with_reducible refine gate_callee (f := 125) rfl ?_); refine goesL_ (some 28) rfl rfl Try.func125 (by kernel_rfl) rfl #[.agg #[.int .i64 ((rd_T76 l1 a0_1).f0), .int .i64 ((rd_T76 l1 a0_1).f1), .slice A116_2 ((rd_T76 l1 a0_1).f2).length c116_2], .slice none 0 0] rfl bl ?_; (refine (ih kj2 (by have := HJ2.out; omega) ((rd_T76 l1 a0_1).f0) ((rd_T76 l1 a0_1).f1) _ _ ((rd_T76 l1 a0_1).f2) _ _ ([] : List (S76)) t117 t118 t119 _ ?side1 ?side2 ?side3 ?side4 A17.out).mono ?_); (case side1 => exact cr (Kd.C_below HR116_2.out HB.out)); (case side2 => exact HC116_2.out); (case side3 => exact Kd.C_nil _ _); (case side4 => exact Nat.le_refl _); rintro e w20 ⟨v120, rfl, ho0, hb⟩; refine ⟨_, rfl, ?_⟩; have HO121 := aS (Kd.R_lower (Kd.R_newB (Kd.R_newB ho0 (bkw BK114)) (bkw BK115)) (below_size (hbk HB))); replace BK114 := Bk BK114 hb; replace BK115 := Bk BK115 hb; replace HB := Hs HB hb; (try clear hb); (try clear hb2); (try clear hk); (try clear hi); (try clear ho0); obtain ⟨hcz21_0, hcz21_1, hcz21_2⟩ := cl3 BK115; obtain ⟨hfz21_0, hfz21_1, hfz21_2⟩ := fz3 BK115; obtain ⟨Ao22, co22, eo22⟩ := Kd.R_slice HO121.out; subst eo22))
    refine bodyPost_ret (results_cell_row rfl _ _ gb115 76 #[.int .i64 t117, .int .i64 t118, .slice Ao22 t119.length co22] (0, 0) _ rfl (by (with_reducible repeat (first | refine blk_drewN ?_ _ | refine blk_drew ?_ | refine blk_alloc ?_ _)); refine blk_put (cs := #[.int .i64 t117, .int .i64 t118, .slice none 0 0]) ?_ 2 _ rfl; (with_reducible repeat (first | refine blk_drewN ?_ _ | refine blk_drew ?_ | refine blk_alloc ?_ _)); refine blk_put (cs := #[.int .i64 t117, .int .i64 0, .slice none 0 0]) ?_ 1 _ rfl; (with_reducible repeat (first | refine blk_drewN ?_ _ | refine blk_drew ?_ | refine blk_alloc ?_ _)); refine blk_put (cs := #[.int .i64 0, .int .i64 0, .slice none 0 0]) ?_ 0 _ rfl; (with_reducible repeat (first | refine blk_drewN ?_ _ | refine blk_drew ?_ | refine blk_alloc ?_ _)); exact BK115.out) Try.underlying76 rfl (by kernel_rfl)) rfl ?_
    exact ⟨_, by first | rfl | (simp [errW_none, errW_some] <;> rfl) | (simp [*, errW_none, errW_some] <;> rfl), by (with_reducible repeat (first | apply Kd.R_alloc | apply Kd.R_drewN | apply Kd.R_drew)); exact Kd.R_mono (Kd.R_far (p := ⟨gb115, 2, none⟩) (Kd.R_far (p := ⟨gb115, 1, none⟩) (Kd.R_far (p := ⟨gb115, 0, none⟩) (Kd.R_mono HO121.out (fun k_ hk => (⟨hk, hk.2⟩ : _ ∧ k_ ≠ gb115))) (fun _ hk => hk.2) (.int .i64 t117)) (fun _ hk => hk.2) (.int .i64 t118)) (fun _ hk => hk.2) (.slice Ao22 t119.length co22)) (fun _ hk => trivial), hbk HB⟩
   replace c14 := Bool.eq_false_iff.mpr c14
   subst c14
   have H1 : (level_Put.l0 kj2 l1 ([] : List (S76)) l0_2 (l0_2.length : Int) 0 a0_0 a0_1 l0_2) = some (r1, r2, r3) := by rw [if_neg (show ¬ (false = true) by decide)] at H; exact H
   clear H
   have H := H1
   clear H1
   have H' := aS H
   clear H
   have hnb23 := NB114_115.out
   have hnc23 := NB115_114.out
   obtain ⟨hcz24_0, hcz24_1, hcz24_2⟩ := cl3 BK114
   obtain ⟨hfz24_0, hfz24_1, hfz24_2⟩ := fz3 BK114
   go_wp2
   go_loopg [5, 32] kj2 (fun kq v5 v32 w' => ∃ (x5_2 : List (S76)) (x32_2 : Int), v32 = .int .i64 x32_2 ∧ Aside0 (level_Put.l0 kq l1 x5_2 l0_2 (l0_2.length : Int) x32_2 a0_0 a0_1 l0_2 = some (r1, r2, r3)) ∧ Aside0 (kq ≤ kj2) ∧ Aside0 (Kd.R k76 76 w' w.heap.size (fun k_ => k_ ≠ gb114 ∧ k_ ≠ gb115) v5 x5_2) ∧ Aside0 (w'.heap[gb114]? = some (.cells #[.int .i64 a0_0, .int .i64 a0_1, (.slice A0_2 l0_2.length c0_2)] 76 (0, 0))) ∧ Aside0 (w'.heap[gb115]? = some (.cells #[.int .i64 0, .int .i64 0, (.slice none 0 0)] 76 (0, 0))) ∧ Aside0 (Below w.heap.size w w'))
   case atStart => exact ⟨(([] : List (S76))), (0), br, H', ⟨Nat.le_refl _⟩, ⟨by first | exact Kd.R_nil _ _ _ _ _ | exact Kd.N_nil _ _ _ _ _ | exact Kd.V_nil _ _ _ _ _ | exact Kd.Q_nil _ _ _ _ _ | exact Kd.S_nil _ _ _ _ _⟩, ⟨bk BK114.out⟩, ⟨bk BK115.out⟩, ⟨hbk HB⟩⟩
   case round =>
    clear H'
    try clear c1
    try clear p1
    try clear q1
    try clear hx1
    try clear c2
    try clear p2
    try clear c6
    try clear c6b0
    try clear c6b1
    try clear c7
    try clear c7b0
    try clear c8
    try clear c10
    try clear c11
    try clear p11
    try clear q11
    try clear hx11
    try clear c12
    try clear c14
    try clear c15
    try clear c15b0
    try clear c16
    try clear c16b0
    try clear c18
    try clear c23
    try clear hcz11_0 hcz11_1 hcz11_2
    try clear hcz13_0 hcz13_1 hcz13_2
    try clear hcz19_0 hcz19_1 hcz19_2
    try clear hcz21_0 hcz21_1 hcz21_2
    try clear hcz24_0 hcz24_1 hcz24_2
    try clear hcz9_0 hcz9_1 hcz9_2
    try clear hfz11_0 hfz11_1 hfz11_2
    try clear hfz13_0 hfz13_1 hfz13_2
    try clear hfz19_0 hfz19_1 hfz19_2
    try clear hfz21_0 hfz21_1 hfz21_2
    try clear hfz24_0 hfz24_1 hfz24_2
    try clear hfz9_0 hfz9_1 hfz9_2
    try clear hx116_0 hx116_1 hx116_2
    try clear p116
    try clear p2
    try clear q116
    obtain ⟨x5_2, x32_2, rfl, HA, HK2, HO_5, BK114, BK115, HB⟩ := hrel
    cases gk with
    | zero => exact absurd HA.out (by simp [level_Put.l0])
    | succ k2 =>
     have H := HA.out
     clear HA
     simp only [level_Put.l0] at H
     by_cases c25 : x32_2 < (l0_2.length : Int)
     rotate_left
     ·rw [if_neg c25] at H
      have c25b0 : decide (x32_2 < (l0_2.length : Int)) = false := decide_eq_false c25
      clear c25
      simp only [Option.some.injEq, Prod.mk.injEq] at H
      obtain ⟨rfl, rfl, rfl⟩ := H
      obtain ⟨Ao37, co37, eo37⟩ := Kd.R_slice HO_5.out
      subst eo37
      have hnb38 := NB114_115.out
      have hnc38 := NB115_114.out
      obtain ⟨hcz39_0, hcz39_1, hcz39_2⟩ := cl3 BK114
      obtain ⟨hfz39_0, hfz39_1, hfz39_2⟩ := fz3 BK114
      obtain ⟨hcz40_0, hcz40_1, hcz40_2⟩ := cl3 BK115
      obtain ⟨hfz40_0, hfz40_1, hfz40_2⟩ := fz3 BK115
      go_wp2
      refine bodyPost_ret (results_cell_row rfl _ _ gb115 76 #[.int .i64 a0_0, .int .i64 a0_1, .slice Ao37 x5_2.length co37] (0, 0) _ rfl (by (with_reducible repeat (first | refine blk_drewN ?_ _ | refine blk_drew ?_ | refine blk_alloc ?_ _)); refine blk_put (cs := #[.int .i64 a0_0, .int .i64 a0_1, .slice none 0 0]) ?_ 2 _ rfl; (with_reducible repeat (first | refine blk_drewN ?_ _ | refine blk_drew ?_ | refine blk_alloc ?_ _)); refine blk_put (cs := #[.int .i64 a0_0, .int .i64 0, .slice none 0 0]) ?_ 1 _ rfl; (with_reducible repeat (first | refine blk_drewN ?_ _ | refine blk_drew ?_ | refine blk_alloc ?_ _)); refine blk_put (cs := #[.int .i64 0, .int .i64 0, .slice none 0 0]) ?_ 0 _ rfl; (with_reducible repeat (first | refine blk_drewN ?_ _ | refine blk_drew ?_ | refine blk_alloc ?_ _)); refine blk_far ?_ NB115_114.out _; (with_reducible repeat (first | refine blk_drewN ?_ _ | refine blk_drew ?_ | refine blk_alloc ?_ _)); exact BK115.out) Try.underlying76 rfl (by kernel_rfl)) rfl ?_
      exact ⟨_, by first | rfl | (simp [errW_none, errW_some] <;> rfl) | (simp [*, errW_none, errW_some] <;> rfl), by (with_reducible repeat (first | apply Kd.R_alloc | apply Kd.R_drewN | apply Kd.R_drew)); exact Kd.R_mono (Kd.R_far (p := ⟨gb115, 2, none⟩) (Kd.R_far (p := ⟨gb115, 1, none⟩) (Kd.R_far (p := ⟨gb115, 0, none⟩) (Kd.R_far (p := ⟨gb114, 2, none⟩) (Kd.R_mono (Kd.R_mono HO_5.out (fun k_ hk => (⟨hk, hk.1⟩ : _ ∧ k_ ≠ gb114))) (fun k_ hk => (⟨hk, hk.1.2⟩ : _ ∧ k_ ≠ gb115))) (fun _ hk => hk.1.2) (.slice Ao37 x5_2.length co37)) (fun _ hk => hk.2) (.int .i64 a0_0)) (fun _ hk => hk.2) (.int .i64 a0_1)) (fun _ hk => hk.2) (.slice Ao37 x5_2.length co37)) (fun _ hk => trivial), hbk HB⟩
     rw [if_pos c25] at H
     have c25b0 : decide (x32_2 < (l0_2.length : Int)) = true := decide_eq_true c25
     clear c25
     by_cases c26 : 0 ≤ x32_2
     rotate_left
     ·rw [if_neg c26] at H
      exact absurd H (by simp)
     rw [if_pos c26] at H
     have c26b0 : decide (0 ≤ x32_2) = true := decide_eq_true c26
     clear c26
     by_cases c27 : x32_2 < (l0_2.length : Int)
     rotate_left
     ·rw [if_neg c27] at H
      exact absurd H (by simp)
     rw [if_pos c27] at H
     have c27b0 : decide (x32_2 < (l0_2.length : Int)) = true := decide_eq_true c27
     clear c27
     replace H := Option.bind_eq_some_iff.mp H
     obtain ⟨⟨t124, t125, t126⟩, A280, H⟩ := H
     try dsimp only at H
     have A28 := aS A280
     clear A280
     by_cases c29 : x5_2.length < 3518437208883
     rotate_left
     ·rw [if_neg c29] at H
      exact absurd H (by simp)
     rw [if_pos c29] at H
     have LMc29 := aS c29
     clear c29
     obtain ⟨y129, hy129⟩ : ∃ y_ : List (S76), y_ = (x5_2 ++ [(⟨t124, t125, t126⟩ : S76)]) := ⟨_, rfl⟩
     replace H : (level_Put.l0 k2 l1 y129 l0_2 (l0_2.length : Int) (wrap64 (x32_2 + 1)) a0_0 a0_1 l0_2) = some (r1, r2, r3) := by first | (rw [hy129]; with_reducible exact H) | (have H2_ := (Option.bind_some _ _).symm.trans H; rw [hy129]; with_reducible exact H2_) | (have H2_ := (Option.bind_some _ _).symm.trans H; with_reducible exact H2_) | with_reducible exact H | (rw [hy129]; exact H) | exact H
     have Ny129 := aS hy129
     clear hy129
     have H' := aS H
     clear H
     have p122 : 0 ≤ (x32_2 : Int) := of_decide_eq_true ba
     have q122 : x32_2 < (l0_2.length : Int) := of_decide_eq_true ba
     obtain ⟨ad122, A122_2, c122_2, e122, hx122_0, hx122_1, hx122_2, hl122_2, hi122_2⟩ := at_T76 HR0_2.out x32_2 p122 q122
     cases e122
     replace hx122_0 := (HB.out.cell (World.block_lt_of_cell? w _ hx122_0)).trans hx122_0
     replace hx122_1 := (HB.out.cell (World.block_lt_of_cell? w _ hx122_1)).trans hx122_1
     replace hx122_2 := (HB.out.cell (World.block_lt_of_cell? w _ hx122_2)).trans hx122_2
     have HR122_2 := aS hi122_2
     have HC122_2 := aS hl122_2
     clear hi122_2 hl122_2
     replace p122 := eq_true p122
     replace q122 := eq_true q122
     go_wp2_with (first | ((with_reducible refine gate_dst (N := 7) rfl ?_); (try (refine gate_guard (by rfl) ?_; dsimp only)); refine box_event ?hg (N := 7) ?hd (cs := #[.int .i64 0, .int .i64 0, .slice none 0 0]) (t := 76) ?hr ?_; (case hd => rfl); (case hg => rfl); (case hr => first | (go_simp; done) | (go_simp; rfl)); intro gb123 hg w30 hbox hb; replace HO_5 := aS (Kd.R_below (Kd.R_elderB (kr_ HO_5.out) gb123 (Nat.le_of_eq hg.symm)) hb); have BK123 := aS (hbox); have GW123 := aS ((by rw [hg]; exact (below_size (hbk HB)) : w.heap.size ≤ gb123)); have GE123 := aS ((by rw [hg]; exact (below_size (hbk HB)) : w.heap.size ≤ gb123)); replace HB := Hs HB hb; have NB114_123 := aS ((by rw [hg]; exact Nat.ne_of_lt (blk_lt (bkw BK114)) : gb114 ≠ gb123)); have NB123_114 := aS ((by rw [hg]; exact Nat.ne_of_gt (blk_lt (bkw BK114)) : gb123 ≠ gb114)); replace BK114 := Bk BK114 hb; have NB115_123 := aS ((by rw [hg]; exact Nat.ne_of_lt (blk_lt (bkw BK115)) : gb115 ≠ gb123)); have NB123_115 := aS ((by rw [hg]; exact Nat.ne_of_gt (blk_lt (bkw BK115)) : gb123 ≠ gb115)); replace BK115 := Bk BK115 hb; clear hb hbox hg; have hnb31 := NB123_114.out; have hnc31 := NB114_123.out; have hnb32 := NB123_115.out; have hnc32 := NB115_123.out; obtain ⟨hcz33_0, hcz33_1, hcz33_2⟩ := cl3 BK123; obtain ⟨hfz33_0, hfz33_1, hfz33_2⟩ := fz3 BK123) | ((with_reducible refine gate_callee (f := 125) rfl ?_); refine goesL_ (some 39) rfl rfl Try.func125 (by kernel_rfl) rfl #[.agg #[.int .i64 ((rd_T76 l0_2 x32_2).f0), .int .i64 ((rd_T76 l0_2 x32_2).f1), .slice A122_2 ((rd_T76 l0_2 x32_2).f2).length c122_2], .slice A1 l1.length c1] rfl bl ?_; (with_reducible refine (ih k2 (by have := HJ2.out; have := HK2.out; omega) ((rd_T76 l0_2 x32_2).f0) ((rd_T76 l0_2 x32_2).f1) _ _ ((rd_T76 l0_2 x32_2).f2) _ _ l1 t124 t125 t126 _ ?side1 ?side2 ?side3 ?side4 A28.out).mono ?_); (case side1 => exact Kd.C_below HR122_2.out (hbk HB)); (case side2 => exact HC122_2.out); (case side3 => exact Kd.C_below HR1.out (hbk HB)); (case side4 => exact HC1.out); rintro e w34 ⟨v127, rfl, ho0, hb⟩; refine ⟨_, rfl, ?_⟩; have HO128 := aS (Kd.R_lower (Kd.R_newB (Kd.R_newB (Kd.R_newB (Kd.R_new' ho0 (Kd.R_lt (by (with_reducible repeat (first | apply Kd.R_alloc | apply Kd.R_drewN | apply Kd.R_drew)); exact (Kd.R_mono (Kd.R_far (p := ⟨gb123, 2, none⟩) (Kd.R_far (p := ⟨gb123, 1, none⟩) (Kd.R_far (p := ⟨gb123, 0, none⟩) (Kd.R_mono HO_5.out (fun k_ hk => (⟨hk, hk.2⟩ : _ ∧ k_ ≠ gb123))) (fun _ hk => hk.2) (.int .i64 ((rd_T76 l0_2 x32_2).f0))) (fun _ hk => hk.2) (.int .i64 ((rd_T76 l0_2 x32_2).f1))) (fun _ hk => hk.2) (.slice A122_2 ((rd_T76 l0_2 x32_2).f2).length c122_2)) (fun _ h_ => h_.1))))) (g := gb114) (o := .cells #[.int .i64 a0_0, .int .i64 a0_1, .slice (some ad122) l0_2.length c0_2] 76 (0, 0)) (by (with_reducible repeat (first | refine blk_drewN ?_ _ | refine blk_drew ?_ | refine blk_alloc ?_ _)); refine blk_far ?_ NB114_123.out _; (with_reducible repeat (first | refine blk_drewN ?_ _ | refine blk_drew ?_ | refine blk_alloc ?_ _)); refine blk_far ?_ NB114_123.out _; (with_reducible repeat (first | refine blk_drewN ?_ _ | refine blk_drew ?_ | refine blk_alloc ?_ _)); refine blk_far ?_ NB114_123.out _; (with_reducible repeat (first | refine blk_drewN ?_ _ | refine blk_drew ?_ | refine blk_alloc ?_ _)); exact BK114.out)) (g := gb115) (o := .cells #[.int .i64 0, .int .i64 0, .slice none 0 0] 76 (0, 0)) (by (with_reducible repeat (first | refine blk_drewN ?_ _ | refine blk_drew ?_ | refine blk_alloc ?_ _)); refine blk_far ?_ NB115_123.out _; (with_reducible repeat (first | refine blk_drewN ?_ _ | refine blk_drew ?_ | refine blk_alloc ?_ _)); refine blk_far ?_ NB115_123.out _; (with_reducible repeat (first | refine blk_drewN ?_ _ | refine blk_drew ?_ | refine blk_alloc ?_ _)); refine blk_far ?_ NB115_123.out _; (with_reducible repeat (first | refine blk_drewN ?_ _ | refine blk_drew ?_ | refine blk_alloc ?_ _)); exact BK115.out)) (g := gb123) (o := .cells #[.int .i64 ((rd_T76 l0_2 x32_2).f0), .int .i64 ((rd_T76 l0_2 x32_2).f1), .slice A122_2 ((rd_T76 l0_2 x32_2).f2).length c122_2] 76 (0, 0)) (by (with_reducible repeat (first | refine blk_drewN ?_ _ | refine blk_drew ?_ | refine blk_alloc ?_ _)); refine blk_put (cs := #[.int .i64 ((rd_T76 l0_2 x32_2).f0), .int .i64 ((rd_T76 l0_2 x32_2).f1), .slice none 0 0]) ?_ 2 _ rfl; (with_reducible repeat (first | refine blk_drewN ?_ _ | refine blk_drew ?_ | refine blk_alloc ?_ _)); refine blk_put (cs := #[.int .i64 ((rd_T76 l0_2 x32_2).f0), .int .i64 0, .slice none 0 0]) ?_ 1 _ rfl; (with_reducible repeat (first | refine blk_drewN ?_ _ | refine blk_drew ?_ | refine blk_alloc ?_ _)); refine blk_put (cs := #[.int .i64 0, .int .i64 0, .slice none 0 0]) ?_ 0 _ rfl; (with_reducible repeat (first | refine blk_drewN ?_ _ | refine blk_drew ?_ | refine blk_alloc ?_ _)); exact BK123.out)) (below_size (hbk HB))); replace HO_5 := aS (Kd.R_elder' (by (with_reducible repeat (first | apply Kd.R_alloc | apply Kd.R_drewN | apply Kd.R_drew)); exact (Kd.R_mono (Kd.R_far (p := ⟨gb123, 2, none⟩) (Kd.R_far (p := ⟨gb123, 1, none⟩) (Kd.R_far (p := ⟨gb123, 0, none⟩) (Kd.R_mono HO_5.out (fun k_ hk => (⟨hk, hk.2⟩ : _ ∧ k_ ≠ gb123))) (fun _ hk => hk.2) (.int .i64 ((rd_T76 l0_2 x32_2).f0))) (fun _ hk => hk.2) (.int .i64 ((rd_T76 l0_2 x32_2).f1))) (fun _ hk => hk.2) (.slice A122_2 ((rd_T76 l0_2 x32_2).f2).length c122_2)) (fun _ h_ => h_.1))) (Kd.R_base ho0) hb); replace BK114 := aS (blk_below (g := gb114) (o := .cells #[.int .i64 a0_0, .int .i64 a0_1, .slice (some ad122) l0_2.length c0_2] 76 (0, 0)) (by (with_reducible repeat (first | refine blk_drewN ?_ _ | refine blk_drew ?_ | refine blk_alloc ?_ _)); refine blk_far ?_ NB114_123.out _; (with_reducible repeat (first | refine blk_drewN ?_ _ | refine blk_drew ?_ | refine blk_alloc ?_ _)); refine blk_far ?_ NB114_123.out _; (with_reducible repeat (first | refine blk_drewN ?_ _ | refine blk_drew ?_ | refine blk_alloc ?_ _)); refine blk_far ?_ NB114_123.out _; (with_reducible repeat (first | refine blk_drewN ?_ _ | refine blk_drew ?_ | refine blk_alloc ?_ _)); exact BK114.out) hb); replace BK115 := aS (blk_below (g := gb115) (o := .cells #[.int .i64 0, .int .i64 0, .slice none 0 0] 76 (0, 0)) (by (with_reducible repeat (first | refine blk_drewN ?_ _ | refine blk_drew ?_ | refine blk_alloc ?_ _)); refine blk_far ?_ NB115_123.out _; (with_reducible repeat (first | refine blk_drewN ?_ _ | refine blk_drew ?_ | refine blk_alloc ?_ _)); refine blk_far ?_ NB115_123.out _; (with_reducible repeat (first | refine blk_drewN ?_ _ | refine blk_drew ?_ | refine blk_alloc ?_ _)); refine blk_far ?_ NB115_123.out _; (with_reducible repeat (first | refine blk_drewN ?_ _ | refine blk_drew ?_ | refine blk_alloc ?_ _)); exact BK115.out) hb); replace BK123 := aS (blk_below (g := gb123) (o := .cells #[.int .i64 ((rd_T76 l0_2 x32_2).f0), .int .i64 ((rd_T76 l0_2 x32_2).f1), .slice A122_2 ((rd_T76 l0_2 x32_2).f2).length c122_2] 76 (0, 0)) (by (with_reducible repeat (first | refine blk_drewN ?_ _ | refine blk_drew ?_ | refine blk_alloc ?_ _)); refine blk_put (cs := #[.int .i64 ((rd_T76 l0_2 x32_2).f0), .int .i64 ((rd_T76 l0_2 x32_2).f1), .slice none 0 0]) ?_ 2 _ rfl; (with_reducible repeat (first | refine blk_drewN ?_ _ | refine blk_drew ?_ | refine blk_alloc ?_ _)); refine blk_put (cs := #[.int .i64 ((rd_T76 l0_2 x32_2).f0), .int .i64 0, .slice none 0 0]) ?_ 1 _ rfl; (with_reducible repeat (first | refine blk_drewN ?_ _ | refine blk_drew ?_ | refine blk_alloc ?_ _)); refine blk_put (cs := #[.int .i64 0, .int .i64 0, .slice none 0 0]) ?_ 0 _ rfl; (with_reducible repeat (first | refine blk_drewN ?_ _ | refine blk_drew ?_ | refine blk_alloc ?_ _)); exact BK123.out) hb); replace HB := Hs HB hb; (try clear hb); (try clear hb2); (try clear hk); (try clear hi); (try clear ho0); obtain ⟨Ao36, co36, eo36⟩ := Kd.R_slice HO128.out; subst eo36) | ((with_reducible refine gate_builtin (b := .append) (xs := #[.tmp 36, .tmp 40]) rfl ?_); (try (refine gate_guard (by rfl) ?_; dsimp only)); at_builtin; refine Kd.R_append k76 (w0 := w) w.heap.size rfl (.tmp 36) (.tmp 40) 25 76 (.agg #[(.int .i64 0), (.int .i64 0), (.slice none 0 0)]) 40 rfl Try.underlying25 info76 rfl (by decide) (by omega) u5 x5_2 (⟨t124, t125, t126⟩ : S76) [.int .i64 t124, .int .i64 t125, .slice Ao36 t126.length co36] (fun k_ => k_ ≠ gb114 ∧ k_ ≠ gb115 ∧ k_ ≠ gb123) (fun k_ => ((fun k_ => k_ ≠ gb114 ∧ k_ ≠ gb115 ∧ k_ ≠ gb123)) k_ ∧ some k_ ≠ (u5 : Value).ownBlock) rfl rfl ?aP (fun _ hk => hk) ?aF ?aO ?aB ?aS ?aL ?_; (case aP => exact k76_mkM _ _ _ (⟨t124, t125, t126⟩ : S76) (Kd.R_mono (HO128.out) (fun k_ hk => ⟨⟨hk.1.1.2, ⟨hk.1.2, hk.2⟩⟩, hk.1.1.1.2⟩))); (case aB => exact (hbk HB)); (case aF => exact (fun k_ hk => ⟨Kd.freshB (bkw BK114) k_ hk, Kd.freshB (bkw BK115) k_ hk, Kd.freshB (bkw BK123) k_ hk⟩)); (case aO => exact (by (with_reducible repeat (first | apply Kd.R_alloc | apply Kd.R_drewN | apply Kd.R_drew)); exact Kd.R_mono HO_5.out (fun _ hk => ⟨hk.1.1.1, ⟨hk.1.1.2, hk.1.2⟩⟩))); (case aS => exact (below_size (hbk HB))); (case aL => have := LMc29.out; omega); intro v130 w35 ho hb hg hat; rw [← Ny129.out] at ho; replace BK114 := aS (blk_grown (bkw BK114) hg (Kd.R_away HO_5.out (fun _ hk => hk.1.1.1))); replace BK115 := aS (blk_grown (bkw BK115) hg (Kd.R_away HO_5.out (fun _ hk => hk.1.1.2))); replace BK123 := aS (blk_grown (bkw BK123) hg (Kd.R_away HO_5.out (fun _ hk => hk.1.2))); replace HB := aS (hb); have HO131 := aS (ho); clear HO_5 HO128; clear ho hb hg hat))
     go_roundg k2
     case measure => have := HJ2.out; have := HK2.out; omega
     case rel => exact ⟨(y129), (wrap64 (x32_2 + 1)), br, H', ⟨by have := HJ2.out; have := HK2.out; omega⟩, ⟨by (with_reducible repeat (first | apply Kd.R_alloc | apply Kd.R_drewN | apply Kd.R_drew)); exact Kd.R_mono HO131.out (fun _ hk => ⟨hk.1, hk.2.1⟩)⟩, ⟨bk BK114.out⟩, ⟨bk BK115.out⟩, ⟨hbk HB⟩⟩
def term_levels.l0 : Nat → List (S76) → List (S76) → List (S76) → Int → Int → Option ((List (S76)))
 | 0, _, _, _, _, _ => none
 | k + 1, x1, x5, x8, x9, x10 => if x10 < x9 then (if 0 ≤ x10 then (if x10 < (x8.length : Int) then ((level_Put.f k ((rd_T76 x8 x10).f0) ((rd_T76 x8 x10).f1) ((rd_T76 x8 x10).f2) x1).bind fun bt134 => (if x5.length < 3518437208883 then (term_levels.l0 k x1 (x5 ++ [(⟨bt134.1, bt134.2.1, bt134.2.2⟩ : S76)]) x8 x9 (wrap64 (x10 + 1))) else (none))) else (none)) else (none)) else (some x5)
def term_levels.f (k : Nat) (l0 : List (S76)) (l1 : List (S76)) : Option ((List (S76))) := term_levels.l0 k l1 ([] : List (S76)) l0 (l0.length : Int) 0
set_option maxHeartbeats 8000000 in
set_option maxRecDepth 100000 in
theorem term_levels.calls (k : Nat) (A0 : Option Addr) (c0 : Nat) (l0 : List (S76)) (A1 : Option Addr) (c1 : Nat) (l1 : List (S76)) (r : List (S76)) (w : World) (hr0 : Kd.C k76 w A0 l0.length l0) (hc0 : l0.length ≤ c0) (hr1 : Kd.C k76 w A1 l1.length l1) (hc1 : l1.length ≤ c1) (h : term_levels.f k l0 l1 = some r) :
  Calls Try.prog 100 #[.slice A0 l0.length c0, .slice A1 l1.length c1] w fun e w' => ∃ v0_ : Value, e = .returned (v0_) ∧ Kd.R k76 76 w' w.heap.size (fun _ => True) v0_ r ∧ Below w.heap.size w w' := by
 have hu76 := Try.underlying76
 have HR0 := aS hr0
 have HC0 := aS hc0
 clear hr0 hc0
 have HR1 := aS hr1
 have HC1 := aS hc1
 clear hr1 hc1
 have HB := aS (Below.refl w.heap.size w)
 have H : (term_levels.l0 k l1 ([] : List (S76)) l0 (l0.length : Int) 0) = some r := h
 clear h
 have H' := aS H
 clear H
 go_enter Try.func100, Try.ntmps100
 go_wp2
 go_loopg [5, 10] k (fun kq v5 v10 w' => ∃ (x5_1 : List (S76)) (x10_1 : Int), v10 = .int .i64 x10_1 ∧ Aside0 (term_levels.l0 kq l1 x5_1 l0 (l0.length : Int) x10_1 = some r) ∧ Aside0 (kq ≤ k) ∧ Aside0 (Kd.R k76 76 w' w.heap.size (fun _ => True) v5 x5_1) ∧ Aside0 (Below w.heap.size w w'))
 case atStart => exact ⟨(([] : List (S76))), (0), br, H', ⟨Nat.le_refl _⟩, ⟨by first | exact Kd.R_nil _ _ _ _ _ | exact Kd.N_nil _ _ _ _ _ | exact Kd.V_nil _ _ _ _ _ | exact Kd.Q_nil _ _ _ _ _ | exact Kd.S_nil _ _ _ _ _⟩, ⟨hbk HB⟩⟩
 case round =>
  clear H'
  try clear c1
  try clear p2
  obtain ⟨x5_1, x10_1, rfl, HA, HK1, HO_5, HB⟩ := hrel
  cases gk with
  | zero => exact absurd HA.out (by simp [term_levels.l0])
  | succ k1 =>
   have H := HA.out
   clear HA
   simp only [term_levels.l0] at H
   by_cases c3 : x10_1 < (l0.length : Int)
   rotate_left
   ·rw [if_neg c3] at H
    have c3b0 : decide (x10_1 < (l0.length : Int)) = false := decide_eq_false c3
    clear c3
    obtain rfl := Option.some.inj H
    go_wp2
    go_ret
    exact ⟨_, by first | rfl | (simp [errW_none, errW_some] <;> rfl) | (simp [*, errW_none, errW_some] <;> rfl), by (with_reducible repeat (first | apply Kd.R_alloc | apply Kd.R_drewN | apply Kd.R_drew)); exact HO_5.out, hbk HB⟩
   rw [if_pos c3] at H
   have c3b0 : decide (x10_1 < (l0.length : Int)) = true := decide_eq_true c3
   clear c3
   by_cases c4 : 0 ≤ x10_1
   rotate_left
   ·rw [if_neg c4] at H
    exact absurd H (by simp)
   rw [if_pos c4] at H
   have c4b0 : decide (0 ≤ x10_1) = true := decide_eq_true c4
   clear c4
   by_cases c5 : x10_1 < (l0.length : Int)
   rotate_left
   ·rw [if_neg c5] at H
    exact absurd H (by simp)
   rw [if_pos c5] at H
   have c5b0 : decide (x10_1 < (l0.length : Int)) = true := decide_eq_true c5
   clear c5
   replace H := Option.bind_eq_some_iff.mp H
   obtain ⟨⟨t134, t135, t136⟩, A60, H⟩ := H
   try dsimp only at H
   have A6 := aS A60
   clear A60
   by_cases c7 : x5_1.length < 3518437208883
   rotate_left
   ·rw [if_neg c7] at H
    exact absurd H (by simp)
   rw [if_pos c7] at H
   have LMc7 := aS c7
   clear c7
   obtain ⟨y139, hy139⟩ : ∃ y_ : List (S76), y_ = (x5_1 ++ [(⟨t134, t135, t136⟩ : S76)]) := ⟨_, rfl⟩
   replace H : (term_levels.l0 k1 l1 y139 l0 (l0.length : Int) (wrap64 (x10_1 + 1))) = some r := by first | (rw [hy139]; with_reducible exact H) | (have H2_ := (Option.bind_some _ _).symm.trans H; rw [hy139]; with_reducible exact H2_) | (have H2_ := (Option.bind_some _ _).symm.trans H; with_reducible exact H2_) | with_reducible exact H | (rw [hy139]; exact H) | exact H
   have Ny139 := aS hy139
   clear hy139
   have H' := aS H
   clear H
   have p132 : 0 ≤ (x10_1 : Int) := of_decide_eq_true ba
   have q132 : x10_1 < (l0.length : Int) := of_decide_eq_true ba
   obtain ⟨ad132, A132_2, c132_2, e132, hx132_0, hx132_1, hx132_2, hl132_2, hi132_2⟩ := at_T76 HR0.out x10_1 p132 q132
   cases e132
   replace hx132_0 := (HB.out.cell (World.block_lt_of_cell? w _ hx132_0)).trans hx132_0
   replace hx132_1 := (HB.out.cell (World.block_lt_of_cell? w _ hx132_1)).trans hx132_1
   replace hx132_2 := (HB.out.cell (World.block_lt_of_cell? w _ hx132_2)).trans hx132_2
   have HR132_2 := aS hi132_2
   have HC132_2 := aS hl132_2
   clear hi132_2 hl132_2
   replace p132 := eq_true p132
   replace q132 := eq_true q132
   go_wp2_with (first | ((with_reducible refine gate_dst (N := 7) rfl ?_); refine box_event ?hg (N := 7) ?hd (cs := #[.int .i64 0, .int .i64 0, .slice none 0 0]) (t := 76) ?hr ?_; (case hd => rfl); (case hg => rfl); (case hr => first | (go_simp; done) | (go_simp; rfl)); intro gb133 hg w8 hbox hb; replace HO_5 := aS (Kd.R_below (Kd.R_elderB (kr_ HO_5.out) gb133 (Nat.le_of_eq hg.symm)) hb); have BK133 := aS (hbox); have GW133 := aS ((by rw [hg]; exact (below_size (hbk HB)) : w.heap.size ≤ gb133)); have GE133 := aS ((by rw [hg]; exact (below_size (hbk HB)) : w.heap.size ≤ gb133)); replace HB := Hs HB hb; clear hb hbox hg; obtain ⟨hcz9_0, hcz9_1, hcz9_2⟩ := cl3 BK133; obtain ⟨hfz9_0, hfz9_1, hfz9_2⟩ := fz3 BK133) | ((with_reducible refine gate_callee (f := 125) rfl ?_); refine goesL_ (some 17) rfl rfl Try.func125 (by kernel_rfl) rfl #[.agg #[.int .i64 ((rd_T76 l0 x10_1).f0), .int .i64 ((rd_T76 l0 x10_1).f1), .slice A132_2 ((rd_T76 l0 x10_1).f2).length c132_2], .slice A1 l1.length c1] rfl bl ?_; (with_reducible refine (level_Put.calls k1 ((rd_T76 l0 x10_1).f0) ((rd_T76 l0 x10_1).f1) _ _ ((rd_T76 l0 x10_1).f2) _ _ l1 t134 t135 t136 _ ?side1 ?side2 ?side3 ?side4 A6.out).mono ?_); (case side1 => exact Kd.C_below HR132_2.out (hbk HB)); (case side2 => exact HC132_2.out); (case side3 => exact Kd.C_below HR1.out (hbk HB)); (case side4 => exact HC1.out); rintro e w10 ⟨v137, rfl, ho0, hb⟩; refine ⟨_, rfl, ?_⟩; have HO138 := aS (Kd.R_lower (Kd.R_newB (Kd.R_new' ho0 (Kd.R_lt (by (with_reducible repeat (first | apply Kd.R_alloc | apply Kd.R_drewN | apply Kd.R_drew)); exact (Kd.R_mono (Kd.R_far (p := ⟨gb133, 2, none⟩) (Kd.R_far (p := ⟨gb133, 1, none⟩) (Kd.R_far (p := ⟨gb133, 0, none⟩) (Kd.R_mono HO_5.out (fun k_ hk => (⟨hk, hk.2⟩ : _ ∧ k_ ≠ gb133))) (fun _ hk => hk.2) (.int .i64 ((rd_T76 l0 x10_1).f0))) (fun _ hk => hk.2) (.int .i64 ((rd_T76 l0 x10_1).f1))) (fun _ hk => hk.2) (.slice A132_2 ((rd_T76 l0 x10_1).f2).length c132_2)) (fun _ h_ => h_.1))))) (g := gb133) (o := .cells #[.int .i64 ((rd_T76 l0 x10_1).f0), .int .i64 ((rd_T76 l0 x10_1).f1), .slice A132_2 ((rd_T76 l0 x10_1).f2).length c132_2] 76 (0, 0)) (by (with_reducible repeat (first | refine blk_drewN ?_ _ | refine blk_drew ?_ | refine blk_alloc ?_ _)); refine blk_put (cs := #[.int .i64 ((rd_T76 l0 x10_1).f0), .int .i64 ((rd_T76 l0 x10_1).f1), .slice none 0 0]) ?_ 2 _ rfl; (with_reducible repeat (first | refine blk_drewN ?_ _ | refine blk_drew ?_ | refine blk_alloc ?_ _)); refine blk_put (cs := #[.int .i64 ((rd_T76 l0 x10_1).f0), .int .i64 0, .slice none 0 0]) ?_ 1 _ rfl; (with_reducible repeat (first | refine blk_drewN ?_ _ | refine blk_drew ?_ | refine blk_alloc ?_ _)); refine blk_put (cs := #[.int .i64 0, .int .i64 0, .slice none 0 0]) ?_ 0 _ rfl; (with_reducible repeat (first | refine blk_drewN ?_ _ | refine blk_drew ?_ | refine blk_alloc ?_ _)); exact BK133.out)) (below_size (hbk HB))); replace HO_5 := aS (Kd.R_elder' (by (with_reducible repeat (first | apply Kd.R_alloc | apply Kd.R_drewN | apply Kd.R_drew)); exact (Kd.R_mono (Kd.R_far (p := ⟨gb133, 2, none⟩) (Kd.R_far (p := ⟨gb133, 1, none⟩) (Kd.R_far (p := ⟨gb133, 0, none⟩) (Kd.R_mono HO_5.out (fun k_ hk => (⟨hk, hk.2⟩ : _ ∧ k_ ≠ gb133))) (fun _ hk => hk.2) (.int .i64 ((rd_T76 l0 x10_1).f0))) (fun _ hk => hk.2) (.int .i64 ((rd_T76 l0 x10_1).f1))) (fun _ hk => hk.2) (.slice A132_2 ((rd_T76 l0 x10_1).f2).length c132_2)) (fun _ h_ => h_.1))) (Kd.R_base ho0) hb); replace BK133 := aS (blk_below (g := gb133) (o := .cells #[.int .i64 ((rd_T76 l0 x10_1).f0), .int .i64 ((rd_T76 l0 x10_1).f1), .slice A132_2 ((rd_T76 l0 x10_1).f2).length c132_2] 76 (0, 0)) (by (with_reducible repeat (first | refine blk_drewN ?_ _ | refine blk_drew ?_ | refine blk_alloc ?_ _)); refine blk_put (cs := #[.int .i64 ((rd_T76 l0 x10_1).f0), .int .i64 ((rd_T76 l0 x10_1).f1), .slice none 0 0]) ?_ 2 _ rfl; (with_reducible repeat (first | refine blk_drewN ?_ _ | refine blk_drew ?_ | refine blk_alloc ?_ _)); refine blk_put (cs := #[.int .i64 ((rd_T76 l0 x10_1).f0), .int .i64 0, .slice none 0 0]) ?_ 1 _ rfl; (with_reducible repeat (first | refine blk_drewN ?_ _ | refine blk_drew ?_ | refine blk_alloc ?_ _)); refine blk_put (cs := #[.int .i64 0, .int .i64 0, .slice none 0 0]) ?_ 0 _ rfl; (with_reducible repeat (first | refine blk_drewN ?_ _ | refine blk_drew ?_ | refine blk_alloc ?_ _)); exact BK133.out) hb); replace HB := Hs HB hb; (try clear hb); (try clear hb2); (try clear hk); (try clear hi); (try clear ho0); obtain ⟨Ao12, co12, eo12⟩ := Kd.R_slice HO138.out; subst eo12) | ((with_reducible refine gate_builtin (b := .append) (xs := #[.tmp 14, .tmp 18]) rfl ?_); at_builtin; refine Kd.R_append k76 (w0 := w) w.heap.size rfl (.tmp 14) (.tmp 18) 25 76 (.agg #[(.int .i64 0), (.int .i64 0), (.slice none 0 0)]) 40 rfl Try.underlying25 info76 rfl (by decide) (by omega) u5 x5_1 (⟨t134, t135, t136⟩ : S76) [.int .i64 t134, .int .i64 t135, .slice Ao12 t136.length co12] (fun k_ => k_ ≠ gb133) (fun k_ => ((fun k_ => k_ ≠ gb133)) k_ ∧ some k_ ≠ (u5 : Value).ownBlock) rfl rfl ?aP (fun _ hk => hk) ?aF ?aO ?aB ?aS ?aL ?_; (case aP => exact k76_mkM _ _ _ (⟨t134, t135, t136⟩ : S76) (Kd.R_mono (HO138.out) (fun k_ hk => ⟨hk.2, hk.1.2⟩))); (case aB => exact (hbk HB)); (case aF => exact (fun k_ hk => Kd.freshB (bkw BK133) k_ hk)); (case aO => exact (by (with_reducible repeat (first | apply Kd.R_alloc | apply Kd.R_drewN | apply Kd.R_drew)); exact Kd.R_mono HO_5.out (fun _ hk => hk.1.2))); (case aS => exact (below_size (hbk HB))); (case aL => have := LMc7.out; omega); intro v140 w11 ho hb hg hat; rw [← Ny139.out] at ho; replace BK133 := aS (blk_grown (bkw BK133) hg (Kd.R_away HO_5.out (fun _ hk => hk.1.2))); replace HB := aS (hb); have HO141 := aS (ho); clear HO_5 HO138; clear ho hb hg hat))
   go_roundg k1
   case measure => have := HK1.out; omega
   case rel => exact ⟨(y139), (wrap64 (x10_1 + 1)), br, H', ⟨by have := HK1.out; omega⟩, ⟨by (with_reducible repeat (first | apply Kd.R_alloc | apply Kd.R_drewN | apply Kd.R_drew)); exact Kd.R_mono HO141.out (fun _ hk => trivial)⟩, ⟨hbk HB⟩⟩
def term_binds.f (a0 : Int) (a1 : Int) : Option (Int) := if a0 = 4 then (if a1 = 1 then (some 1) else (if a0 = 6 then (if a1 = 2 then (some 1) else (some 0)) else (some 0))) else (if a0 = 5 then (if a1 = 1 then (some 1) else (if a0 = 6 then (if a1 = 2 then (some 1) else (some 0)) else (some 0))) else (if a0 = 6 then (if a1 = 2 then (some 1) else (some 0)) else (some 0)))
set_option maxHeartbeats 8000000 in
set_option maxRecDepth 100000 in
theorem term_binds.calls (a0 : Int) (a1 : Int) (r : Int) (w : World) (h : term_binds.f a0 a1 = some r) :
  Calls Try.prog 118 #[.int .i64 a0, .int .i64 a1] w fun e w' => e = .returned (.int .i64 r) ∧ Drawn0 w w' := by
 have H : (if a0 = 4 then (if a1 = 1 then (some 1) else (if a0 = 6 then (if a1 = 2 then (some 1) else (some 0)) else (some 0))) else (if a0 = 5 then (if a1 = 1 then (some 1) else (if a0 = 6 then (if a1 = 2 then (some 1) else (some 0)) else (some 0))) else (if a0 = 6 then (if a1 = 2 then (some 1) else (some 0)) else (some 0)))) = some r := h
 clear h
 by_cases c3 : a0 = 4
 ·rw [if_pos c3] at H
  have c3b0 : (a0 == 4) = true := beq_iff_eq.mpr c3
  have c3b1 : (a0 != 4) = false := bne_eq_false_iff_eq.mpr c3
  clear c3
  by_cases c4 : a1 = 1
  ·rw [if_pos c4] at H
   have c4b0 : (a1 == 1) = true := beq_iff_eq.mpr c4
   have c4b1 : (a1 != 1) = false := bne_eq_false_iff_eq.mpr c4
   clear c4
   obtain rfl := Option.some.inj H
   go_enter Try.func118, Try.ntmps118
   go_wp2
   go_ret
   exact ⟨by first | rfl | (simp; done) | (simp [*]; done), by repeat (first | exact Drawn0.refl _ | apply Drawn0.step)⟩
  rw [if_neg c4] at H
  have c4b0 : (a1 == 1) = false := beq_eq_false_iff_ne.mpr c4
  have c4b1 : (a1 != 1) = true := bne_iff_ne.mpr c4
  by_cases c5 : a0 = 6
  rotate_left
  ·rw [if_neg c5] at H
   have c5b0 : (a0 == 6) = false := beq_eq_false_iff_ne.mpr c5
   have c5b1 : (a0 != 6) = true := bne_iff_ne.mpr c5
   obtain rfl := Option.some.inj H
   go_enter Try.func118, Try.ntmps118
   go_wp2
   go_ret
   exact ⟨by first | rfl | (simp; done) | (simp [*]; done), by repeat (first | exact Drawn0.refl _ | apply Drawn0.step)⟩
  rw [if_pos c5] at H
  have c5b0 : (a0 == 6) = true := beq_iff_eq.mpr c5
  have c5b1 : (a0 != 6) = false := bne_eq_false_iff_eq.mpr c5
  clear c5
  by_cases c6 : a1 = 2
  rotate_left
  ·rw [if_neg c6] at H
   have c6b0 : (a1 == 2) = false := beq_eq_false_iff_ne.mpr c6
   have c6b1 : (a1 != 2) = true := bne_iff_ne.mpr c6
   obtain rfl := Option.some.inj H
   go_enter Try.func118, Try.ntmps118
   go_wp2
   go_ret
   exact ⟨by first | rfl | (simp; done) | (simp [*]; done), by repeat (first | exact Drawn0.refl _ | apply Drawn0.step)⟩
  rw [if_pos c6] at H
  have c6b0 : (a1 == 2) = true := beq_iff_eq.mpr c6
  have c6b1 : (a1 != 2) = false := bne_eq_false_iff_eq.mpr c6
  clear c6
  obtain rfl := Option.some.inj H
  go_enter Try.func118, Try.ntmps118
  go_wp2
  go_ret
  exact ⟨by first | rfl | (simp; done) | (simp [*]; done), by repeat (first | exact Drawn0.refl _ | apply Drawn0.step)⟩
 rw [if_neg c3] at H
 have c3b0 : (a0 == 4) = false := beq_eq_false_iff_ne.mpr c3
 have c3b1 : (a0 != 4) = true := bne_iff_ne.mpr c3
 by_cases c7 : a0 = 5
 rotate_left
 ·rw [if_neg c7] at H
  have c7b0 : (a0 == 5) = false := beq_eq_false_iff_ne.mpr c7
  have c7b1 : (a0 != 5) = true := bne_iff_ne.mpr c7
  by_cases c11 : a0 = 6
  rotate_left
  ·rw [if_neg c11] at H
   have c11b0 : (a0 == 6) = false := beq_eq_false_iff_ne.mpr c11
   have c11b1 : (a0 != 6) = true := bne_iff_ne.mpr c11
   obtain rfl := Option.some.inj H
   go_enter Try.func118, Try.ntmps118
   go_wp2
   go_ret
   exact ⟨by first | rfl | (simp; done) | (simp [*]; done), by repeat (first | exact Drawn0.refl _ | apply Drawn0.step)⟩
  rw [if_pos c11] at H
  have c11b0 : (a0 == 6) = true := beq_iff_eq.mpr c11
  have c11b1 : (a0 != 6) = false := bne_eq_false_iff_eq.mpr c11
  clear c11
  by_cases c12 : a1 = 2
  rotate_left
  ·rw [if_neg c12] at H
   have c12b0 : (a1 == 2) = false := beq_eq_false_iff_ne.mpr c12
   have c12b1 : (a1 != 2) = true := bne_iff_ne.mpr c12
   obtain rfl := Option.some.inj H
   go_enter Try.func118, Try.ntmps118
   go_wp2
   go_ret
   exact ⟨by first | rfl | (simp; done) | (simp [*]; done), by repeat (first | exact Drawn0.refl _ | apply Drawn0.step)⟩
  rw [if_pos c12] at H
  have c12b0 : (a1 == 2) = true := beq_iff_eq.mpr c12
  have c12b1 : (a1 != 2) = false := bne_eq_false_iff_eq.mpr c12
  clear c12
  obtain rfl := Option.some.inj H
  go_enter Try.func118, Try.ntmps118
  go_wp2
  go_ret
  exact ⟨by first | rfl | (simp; done) | (simp [*]; done), by repeat (first | exact Drawn0.refl _ | apply Drawn0.step)⟩
 rw [if_pos c7] at H
 have c7b0 : (a0 == 5) = true := beq_iff_eq.mpr c7
 have c7b1 : (a0 != 5) = false := bne_eq_false_iff_eq.mpr c7
 clear c7
 by_cases c8 : a1 = 1
 ·rw [if_pos c8] at H
  have c8b0 : (a1 == 1) = true := beq_iff_eq.mpr c8
  have c8b1 : (a1 != 1) = false := bne_eq_false_iff_eq.mpr c8
  clear c8
  obtain rfl := Option.some.inj H
  go_enter Try.func118, Try.ntmps118
  go_wp2
  go_ret
  exact ⟨by first | rfl | (simp; done) | (simp [*]; done), by repeat (first | exact Drawn0.refl _ | apply Drawn0.step)⟩
 rw [if_neg c8] at H
 have c8b0 : (a1 == 1) = false := beq_eq_false_iff_ne.mpr c8
 have c8b1 : (a1 != 1) = true := bne_iff_ne.mpr c8
 by_cases c9 : a0 = 6
 rotate_left
 ·rw [if_neg c9] at H
  have c9b0 : (a0 == 6) = false := beq_eq_false_iff_ne.mpr c9
  have c9b1 : (a0 != 6) = true := bne_iff_ne.mpr c9
  obtain rfl := Option.some.inj H
  go_enter Try.func118, Try.ntmps118
  go_wp2
  go_ret
  exact ⟨by first | rfl | (simp; done) | (simp [*]; done), by repeat (first | exact Drawn0.refl _ | apply Drawn0.step)⟩
 rw [if_pos c9] at H
 have c9b0 : (a0 == 6) = true := beq_iff_eq.mpr c9
 have c9b1 : (a0 != 6) = false := bne_eq_false_iff_eq.mpr c9
 clear c9
 by_cases c10 : a1 = 2
 rotate_left
 ·rw [if_neg c10] at H
  have c10b0 : (a1 == 2) = false := beq_eq_false_iff_ne.mpr c10
  have c10b1 : (a1 != 2) = true := bne_iff_ne.mpr c10
  obtain rfl := Option.some.inj H
  go_enter Try.func118, Try.ntmps118
  go_wp2
  go_ret
  exact ⟨by first | rfl | (simp; done) | (simp [*]; done), by repeat (first | exact Drawn0.refl _ | apply Drawn0.step)⟩
 rw [if_pos c10] at H
 have c10b0 : (a1 == 2) = true := beq_iff_eq.mpr c10
 have c10b1 : (a1 != 2) = false := bne_eq_false_iff_eq.mpr c10
 clear c10
 obtain rfl := Option.some.inj H
 go_enter Try.func118, Try.ntmps118
 go_wp2
 go_ret
 exact ⟨by first | rfl | (simp; done) | (simp [*]; done), by repeat (first | exact Drawn0.refl _ | apply Drawn0.step)⟩
end Go.Proofs.Ytpejhapgffcngaa.QK

