/- Words and walks of this claim. -/
import Derived.Test.YtpejhapgffcngaaXShort
import Derived.Test.YtpejhapgffcngaaQKApart
import Derived.Test.YtpejhapgffcngaaQKx3
import Derived.Test.YtpejhapgffcngaaQKx4
namespace Go.Proofs.Ytpejhapgffcngaa.QK
open Go.RowKit Go.Proofs.YtpejhapgffcngaaW.PrintWords Go.Proofs.YtpejhapgffcngaaW.PrintLast Go.Proofs.YtpejhapgffcngaaW.PrintMore
attribute [local go_sem] max2_int min2_int max_two min_two max_three min_three max_four min_four
set_option linter.unusedVariables false
set_option linter.unusedSimpArgs false
mutual
def touchstoneref5_Levels.l0 : Nat → List (S76) → Int → Int → Int → ByteArray → List (S76) → List (S27) → Int → Int → ByteArray → List (S76) → List (S27) → Option (Int × Int × ByteArray × (List (S76)) × (List (S27)))
 | 0, _, _, _, _, _, _, _, _, _, _, _, _ => none
 | k + 1, x1, x6, x362000, x362001, x362002, x362003, x362004, x373000, x373001, x373002, x373003, x373004 => if x6 < (x373003.length : Int) then (if 0 ≤ x6 then ((touchstoneref4_Put.f k ((rd_T76 x373003 x6).f0) ((rd_T76 x373003 x6).f1) ((rd_T76 x373003 x6).f2) x1).bind fun bt374 => (touchstoneref5_Levels.l0 k x1 (wrap64 (x6 + 1)) x362000 x362001 x362002 x362003 x362004 x373000 x373001 x373002 (x373003.set (x6 : Int).toNat (⟨bt374.1, bt374.2.1, bt374.2.2⟩ : S76)) x373004)) else (none)) else (touchstoneref5_Levels.l1 k x1 0 x362000 x362001 x362002 x362003 x362004 x373000 x373001 x373002 x373003 x373004)
def touchstoneref5_Levels.l1 : Nat → List (S76) → Int → Int → Int → ByteArray → List (S76) → List (S27) → Int → Int → ByteArray → List (S76) → List (S27) → Option (Int × Int × ByteArray × (List (S76)) × (List (S27)))
 | 0, _, _, _, _, _, _, _, _, _, _, _, _ => none
 | k + 1, x1, x7, x362000, x362001, x362002, x362003, x362004, x373000, x373001, x373002, x373003, x373004 => if x7 < (x362004.length : Int) then (if 0 ≤ x7 then ((touchstoneref5_Levels.f k ((rd_T27 x362004 x7).f0) ((rd_T27 x362004 x7).f1) ((rd_T27 x362004 x7).f2) ((rd_T27 x362004 x7).f3) ((rd_T27 x362004 x7).f4) x1).bind fun bt381 => (if x373004.length < 1759218604441 then (touchstoneref5_Levels.l1 k x1 (wrap64 (x7 + 1)) x362000 x362001 x362002 x362003 x362004 x373000 x373001 x373002 x373003 (x373004 ++ [(⟨bt381.1, bt381.2.1, bt381.2.2.1, bt381.2.2.2.1, bt381.2.2.2.2⟩ : S27)])) else (none))) else (none)) else (some (x373000, x373001, x373002, x373003, x373004))
def touchstoneref5_Levels.f : Nat → Int → Int → ByteArray → List (S76) → List (S27) → List (S76) → Option (Int × Int × ByteArray × (List (S76)) × (List (S27)))
 | 0, _, _, _, _, _, _ => none
 | k + 1, a0_0, a0_1, a0_2, l0_3, l0_4, l1 => (touchstoneref5_leaf.f k a0_0 a0_1 a0_2 l0_3 l0_4).bind fun bt363 => (touchstoneref5_Levels.l0 k l1 0 a0_0 a0_1 a0_2 l0_3 l0_4 bt363.1 bt363.2.1 bt363.2.2.1 bt363.2.2.2.1 bt363.2.2.2.2)
end
def touchstoneref5_Levels.T5 : Bool × List (List Nat × List Nat) := (true, [([], []), ([0], [0]), ([], []), ([], []), ([3], [3]), ([], []), ([4, 5], [4, 5]), ([6], [6]), ([], []), ([7, 8], [7, 8]), ([1, 2, 0, 1, 2, 3, 4, 5, 6, 7, 8, 9], [1, 2]), ([10, 9, 9, 0, 1, 2, 3, 4, 5, 6, 7, 8, 9], [9, 10])])
def touchstoneref5_Levels.B5 : List Nat := [0, 1, 0, 0, 8, 0, 56, 120, 0, 504, 1023, 2047]
theorem touchstoneref5_Levels.tab5 : rtab .any (opsOf Try.f54 5) = touchstoneref5_Levels.T5 := by kernel_rfl
theorem touchstoneref5_Levels.bits5 : waitsOk touchstoneref5_Levels.T5.2 touchstoneref5_Levels.B5 = true := by kernel_rfl
def touchstoneref5_Levels.T9 : Bool × List (List Nat × List Nat) := (true, [([], []), ([0], [0]), ([], []), ([2], [2]), ([], []), ([3, 4], [3, 4]), ([5], [5]), ([], []), ([6, 7], [6, 7]), ([8], [8]), ([1, 9, 8], [1, 9]), ([0, 1, 2, 3, 4, 5, 6, 7, 8, 9, 10], []), ([11, 10, 10, 0, 1, 2, 3, 4, 5, 6, 7, 8, 9, 10], [10, 11])])
def touchstoneref5_Levels.B9 : List Nat := [0, 1, 0, 4, 0, 28, 60, 0, 252, 508, 1023, 2047, 4095]
theorem touchstoneref5_Levels.tab9 : rtab .any (opsOf Try.f54 9) = touchstoneref5_Levels.T9 := by kernel_rfl
theorem touchstoneref5_Levels.bits9 : waitsOk touchstoneref5_Levels.T9.2 touchstoneref5_Levels.B9 = true := by kernel_rfl
set_option maxHeartbeats 8000000 in
set_option maxRecDepth 100000 in
theorem touchstoneref5_Levels.calls (k : Nat) : ∀ (a0_0 : Int) (a0_1 : Int) (a0_2 : ByteArray) (A0_3 : Option Addr) (c0_3 : Nat) (l0_3 : List (S76)) (A0_4 : Option Addr) (c0_4 : Nat) (l0_4 : List (S27)) (A1 : Option Addr) (c1 : Nat) (l1 : List (S76)) (r1 : Int) (r2 : Int) (r3 : ByteArray) (r4 : List (S76)) (r5 : List (S27)) (w : World) (hr0_3 : Kd.C k76 w A0_3 l0_3.length l0_3) (hc0_3 : l0_3.length ≤ c0_3) (hr0_4 : Kd.C k27 w A0_4 l0_4.length l0_4) (hc0_4 : l0_4.length ≤ c0_4) (hr1 : Kd.C k76 w A1 l1.length l1) (hc1 : l1.length ≤ c1) (h : touchstoneref5_Levels.f k a0_0 a0_1 a0_2 l0_3 l0_4 l1 = some (r1, r2, r3, r4, r5)),
  Calls Try.prog 54 #[.agg #[.int .i64 a0_0, .int .i64 a0_1, .string a0_2, .slice A0_3 l0_3.length c0_3, .slice A0_4 l0_4.length c0_4], .slice A1 l1.length c1] w fun e w' => ∃ v3_ v4_ : Value, e = .returned (.agg #[.int .i64 r1, .int .i64 r2, .string r3, v3_, v4_]) ∧ Kd.N k76 76 w' w.heap.size (fun k_ => (w.heap.size ≤ k_) ∧ some k_ ≠ (v4_ : Value).ownBlock) v3_ r4 ∧ Kd.N k27 27 w' w.heap.size (fun k_ => (w.heap.size ≤ k_) ∧ some k_ ≠ (v3_ : Value).ownBlock) v4_ r5 ∧ Below w.heap.size w w' := by
 induction k using Nat.strongRecOn with
 | _ k ih =>
 intro a0_0 a0_1 a0_2 A0_3 c0_3 l0_3 A0_4 c0_4 l0_4 A1 c1 l1 r1 r2 r3 r4 r5 w hr0_3 hc0_3 hr0_4 hc0_4 hr1 hc1 h
 cases k with
 | zero => exact absurd h (by simp [touchstoneref5_Levels.f])
 | succ k =>
 simp only [touchstoneref5_Levels.f] at h
 have hu27 := Try.underlying27
 have hu76 := Try.underlying76
 have HR0_3 := aS hr0_3
 have HC0_3 := aS hc0_3
 clear hr0_3 hc0_3
 have HR0_4 := aS hr0_4
 have HC0_4 := aS hc0_4
 clear hr0_4 hc0_4
 have HR1 := aS hr1
 have HC1 := aS hc1
 clear hr1 hc1
 have HB := aS (Below.refl w.heap.size w)
 have H : ((touchstoneref5_leaf.f k a0_0 a0_1 a0_2 l0_3 l0_4).bind fun bt363 => (touchstoneref5_Levels.l0 k l1 0 a0_0 a0_1 a0_2 l0_3 l0_4 bt363.1 bt363.2.1 bt363.2.2.1 bt363.2.2.2.1 bt363.2.2.2.2)) = some (r1, r2, r3, r4, r5) := h
 clear h
 replace H := Option.bind_eq_some_iff.mp H
 obtain ⟨⟨t363, t364, t365, t366, t369⟩, A30, H⟩ := H
 try dsimp only at H
 have A3 := aS A30
 clear A30
 have H' := aS H
 clear H
 go_enter Try.func54, Try.ntmps54
 go_wp2_with (first | ((with_reducible refine gate_dst (N := 2) rfl ?_); refine bx (N := 2) (t := 27) #[.int .i64 a0_0, .int .i64 a0_1, .string a0_2, .slice A0_3 l0_3.length c0_3, .slice A0_4 l0_4.length c0_4] ?_; intro gb361 hg w4 hbox hb; have BK361 := aS (hbox); have GW361 := Gz hg HB; have GE361 := Gz hg HB; replace HB := Hs HB hb; clear hb hbox hg) | ((with_reducible refine gate_dst (N := 4) rfl ?_); refine bx (N := 4) (t := 27) #[.int .i64 0, .int .i64 0, .string (⟨#[]⟩ : ByteArray), .slice none 0 0, .slice none 0 0] ?_; intro gb362 hg w5 hbox hb; have BK362 := aS (hbox); have GW362 := Gz hg HB; have GE362 := Gz hg HB; replace HB := Hs HB hb; have NB361_362 := aS ((by rw [hg]; exact Nat.ne_of_lt (blk_lt (bkw BK361)) : gb361 ≠ gb362)); have NB362_361 := aS ((by rw [hg]; exact Nat.ne_of_gt (blk_lt (bkw BK361)) : gb362 ≠ gb361)); replace BK361 := Bk BK361 hb; clear hb hbox hg; have hnb6 := NB361_362.out; have hnc6 := NB362_361.out; obtain ⟨hcz7_0, hcz7_1, hcz7_2, hcz7_3, hcz7_4⟩ := cl5 BK361; obtain ⟨hfz7_0, hfz7_1, hfz7_2, hfz7_3, hfz7_4⟩ := fz5 BK361) | ((with_reducible refine gate_callee (f := 101) rfl ?_); refine goesL_ (some 9) rfl rfl Try.func101 (by kernel_rfl) rfl #[.agg #[.int .i64 a0_0, .int .i64 a0_1, .string a0_2, .slice A0_3 l0_3.length c0_3, .slice A0_4 l0_4.length c0_4]] rfl bl ?_; (with_reducible refine (touchstoneref5_leaf.calls k a0_0 a0_1 a0_2 _ _ l0_3 _ _ l0_4 t363 t364 t365 t366 t369 _ ?side1 ?side2 ?side3 ?side4 A3.out).mono ?_); (case side1 => exact cr (Kd.C_below HR0_3.out HB.out)); (case side2 => exact HC0_3.out); (case side3 => exact cr (Kd.C_below HR0_4.out HB.out)); (case side4 => exact HC0_4.out); rintro e w8 ⟨v367, v370, rfl, ho0, ho1, hb⟩; refine ⟨_, rfl, ?_⟩; have HO368 := aS (Kd.N_lower (Kd.N_mono (ok' := fun k_ => (w.heap.size ≤ k_) ∧ some k_ ≠ (v370 : Value).ownBlock ∧ k_ ≠ gb361 ∧ k_ ≠ gb362) (Kd.R_N (Kd.R_bound (Kd.R_apart' ho0 (Kd.R_typed ho1) (by decide)))) (fun k_ hk_ => ⟨(Nat.le_trans (below_size (hbk HB)) hk_.2.1), hk_.1.2, (Kd.freshB (bkw BK361) k_ hk_.2.1), (Kd.freshB (bkw BK362) k_ hk_.2.1)⟩)) (below_size (hbk HB))); have HO371 := aS (Kd.N_lower (Kd.N_mono (ok' := fun k_ => (w.heap.size ≤ k_) ∧ some k_ ≠ (v367 : Value).ownBlock ∧ k_ ≠ gb361 ∧ k_ ≠ gb362) (Kd.R_N (Kd.R_bound ho1)) (fun k_ hk_ => ⟨(Nat.le_trans (below_size (hbk HB)) hk_.2.1), hk_.1, (Kd.freshB (bkw BK361) k_ hk_.2.1), (Kd.freshB (bkw BK362) k_ hk_.2.1)⟩)) (below_size (hbk HB))); replace BK361 := Bk BK361 hb; replace BK362 := Bk BK362 hb; replace HB := Hs HB hb; (try clear hb); (try clear hb2); (try clear hk); (try clear hi); (try clear ho0); (try clear ho1)) | ((with_reducible refine gate_dst (N := 5) rfl ?_); refine bx (N := 5) (t := 27) #[.int .i64 0, .int .i64 0, .string (⟨#[]⟩ : ByteArray), .slice none 0 0, .slice none 0 0] ?_; intro gb372 hg w9 hbox hb; replace HO368 := aS (Kd.N_below (Kd.N_elderB (kn HO368.out) gb372 (Nat.le_of_eq hg.symm)) hb); replace HO371 := aS (Kd.N_below (Kd.N_elderB (kn HO371.out) gb372 (Nat.le_of_eq hg.symm)) hb); have BK372 := aS (hbox); have GW372 := Gz hg HB; have GE372 := Gz hg HB; replace HB := Hs HB hb; have NB361_372 := aS ((by rw [hg]; exact Nat.ne_of_lt (blk_lt (bkw BK361)) : gb361 ≠ gb372)); have NB372_361 := aS ((by rw [hg]; exact Nat.ne_of_gt (blk_lt (bkw BK361)) : gb372 ≠ gb361)); replace BK361 := Bk BK361 hb; have NB362_372 := aS ((by rw [hg]; exact Nat.ne_of_lt (blk_lt (bkw BK362)) : gb362 ≠ gb372)); have NB372_362 := aS ((by rw [hg]; exact Nat.ne_of_gt (blk_lt (bkw BK362)) : gb372 ≠ gb362)); replace BK362 := Bk BK362 hb; clear hb hbox hg; have hnb10 := NB372_361.out; have hnc10 := NB361_372.out; have hnb11 := NB372_362.out; have hnc11 := NB362_372.out; obtain ⟨hcz12_0, hcz12_1, hcz12_2, hcz12_3, hcz12_4⟩ := cl5 BK372; obtain ⟨hfz12_0, hfz12_1, hfz12_2, hfz12_3, hfz12_4⟩ := fz5 BK372; obtain ⟨Ao13, co13, eo13⟩ := Kd.N_slice HO368.out; subst eo13; obtain ⟨Ao14, co14, eo14⟩ := Kd.N_slice HO371.out; subst eo14))
 go_loopg [6] k (fun kq v6 w' => ∃ (x6_1 : Int) (x373003_1 : List (S76)) (u373003 : Value), v6 = .int .i64 x6_1 ∧ Aside0 (touchstoneref5_Levels.l0 kq l1 x6_1 a0_0 a0_1 a0_2 l0_3 l0_4 t363 t364 t365 x373003_1 t369 = some (r1, r2, r3, r4, r5)) ∧ Aside0 (kq ≤ k) ∧ Aside0 (Kd.N k76 76 w' w.heap.size (fun k_ => (w.heap.size ≤ k_) ∧ some k_ ≠ ((.slice Ao14 t369.length co14) : Value).ownBlock ∧ k_ ≠ gb361 ∧ k_ ≠ gb362 ∧ k_ ≠ gb372) u373003 x373003_1) ∧ Aside0 (Kd.N k27 27 w' w.heap.size (fun k_ => (w.heap.size ≤ k_) ∧ some k_ ≠ (u373003 : Value).ownBlock ∧ k_ ≠ gb361 ∧ k_ ≠ gb362 ∧ k_ ≠ gb372) (.slice Ao14 t369.length co14) t369) ∧ Aside0 (w'.heap[gb361]? = some (.cells #[.int .i64 a0_0, .int .i64 a0_1, .string a0_2, (.slice A0_3 l0_3.length c0_3), (.slice A0_4 l0_4.length c0_4)] 27 (0, 0))) ∧ Aside0 (w'.heap[gb362]? = some (.cells #[.int .i64 0, .int .i64 0, .string (⟨#[]⟩ : ByteArray), (.slice none 0 0), (.slice none 0 0)] 27 (0, 0))) ∧ Aside0 (w'.heap[gb372]? = some (.cells #[.int .i64 t363, .int .i64 t364, .string t365, u373003, (.slice Ao14 t369.length co14)] 27 (0, 0))) ∧ Aside0 (Below w.heap.size w w'))
 case atStart => exact ⟨(0), (t366), (.slice Ao13 t366.length co13), br, H', ⟨Nat.le_refl _⟩, ⟨by (with_reducible repeat (first | apply Kd.N_alloc | apply Kd.N_drewN | apply Kd.N_drew)); exact Kd.N_mono (N5 (g := gb372) (Kd.N_mono HO368.out (fun k_ hk => (⟨hk, hk.2⟩ : _ ∧ k_ ≠ gb372))) (fun _ hk => hk.2)) (fun _ hk => ⟨hk.1.1.1, ⟨hk.1.1.2.1, ⟨hk.1.1.2.2.1, ⟨hk.1.1.2.2.2, hk.1.2⟩⟩⟩⟩)⟩, ⟨by (with_reducible repeat (first | apply Kd.N_alloc | apply Kd.N_drewN | apply Kd.N_drew)); exact Kd.N_mono (N5 (g := gb372) (Kd.N_mono HO371.out (fun k_ hk => (⟨hk, hk.2⟩ : _ ∧ k_ ≠ gb372))) (fun _ hk => hk.2)) (fun _ hk => ⟨hk.1.1.1, ⟨hk.1.1.2.1, ⟨hk.1.1.2.2.1, ⟨hk.1.1.2.2.2, hk.1.2⟩⟩⟩⟩)⟩, ⟨bf5 BK361.out NB361_372.out⟩, ⟨bf5 BK362.out NB362_372.out⟩, ⟨bp5 BK372.out⟩, ⟨hbk HB⟩⟩
 case round =>
  clear H'
  try clear c1
  try clear p2
  try clear c5
  try clear c6
  try clear c10
  try clear c11
  try clear hcz12_0 hcz12_1 hcz12_2 hcz12_3 hcz12_4
  try clear hcz7_0 hcz7_1 hcz7_2 hcz7_3 hcz7_4
  try clear hfz12_0 hfz12_1 hfz12_2 hfz12_3 hfz12_4
  try clear hfz7_0 hfz7_1 hfz7_2 hfz7_3 hfz7_4
  obtain ⟨x6_1, x373003_1, u373003, rfl, HA, HK1, HO_373003, HO_373004, BK361, BK362, BK372, HB⟩ := hrel
  cases gk with
  | zero => exact absurd HA.out (by simp [touchstoneref5_Levels.l0])
  | succ k1 =>
   have H := HA.out
   clear HA
   simp only [touchstoneref5_Levels.l0] at H
   by_cases c15 : x6_1 < (x373003_1.length : Int)
   ·rw [if_pos c15] at H
    have c15b0 : decide (x6_1 < (x373003_1.length : Int)) = true := decide_eq_true c15
    clear c15
    by_cases c16 : 0 ≤ x6_1
    rotate_left
    ·rw [if_neg c16] at H
     exact absurd H (by simp)
    rw [if_pos c16] at H
    have c16b0 : decide (0 ≤ x6_1) = true := decide_eq_true c16
    clear c16
    replace H := Option.bind_eq_some_iff.mp H
    obtain ⟨⟨t374, t375, t376⟩, A170, H⟩ := H
    try dsimp only at H
    have A17 := aS A170
    clear A170
    obtain ⟨y379, hy379⟩ : ∃ y_ : List (S76), y_ = (x373003_1.set (x6_1 : Int).toNat (⟨t374, t375, t376⟩ : S76)) := ⟨_, rfl⟩
    replace H : (touchstoneref5_Levels.l0 k1 l1 (wrap64 (x6_1 + 1)) a0_0 a0_1 a0_2 l0_3 l0_4 t363 t364 t365 y379 t369) = some (r1, r2, r3, r4, r5) := by first | (rw [hy379]; with_reducible exact H) | (have H2_ := (Option.bind_some _ _).symm.trans H; rw [hy379]; with_reducible exact H2_) | (have H2_ := (Option.bind_some _ _).symm.trans H; with_reducible exact H2_) | with_reducible exact H | (rw [hy379]; exact H) | exact H
    have Ny379 := aS hy379
    clear hy379
    have H' := aS H
    clear H
    have hnb19 := NB372_361.out
    have hnc19 := NB361_372.out
    have hnb20 := NB372_362.out
    have hnc20 := NB362_372.out
    obtain ⟨hcz21_0, hcz21_1, hcz21_2, hcz21_3, hcz21_4⟩ := cl5 BK372
    obtain ⟨hfz21_0, hfz21_1, hfz21_2, hfz21_3, hfz21_4⟩ := fz5 BK372
    obtain ⟨Ao22, co22, eo22⟩ := Kd.N_slice HO_373003.out
    subst eo22
    try go_wp2
    replace HO_373003 := aS (Kd.N_drew HO_373003.out)
    replace HO_373004 := aS (Kd.N_drew HO_373004.out)
    replace BK361 := aS (blk_drew BK361.out)
    replace BK362 := aS (blk_drew BK362.out)
    replace BK372 := aS (blk_drew BK372.out)
    replace HB := aS (below_drew1 HB.out)
    have p373 : 0 ≤ (x6_1 : Int) := of_decide_eq_true ba
    have q373 : x6_1 < (x373003_1.length : Int) := of_decide_eq_true ba
    obtain ⟨ad373, A373_2, c373_2, e373, hx373_0, hx373_1, hx373_2, hl373_2, hi373_2⟩ := at_T76 (Kd.N_reads' HO_373003.out).2.2 x6_1 p373 q373
    cases e373
    obtain ⟨ce373, hce373, hMe373, hcc373⟩ := Kd.N_get HO_373003.out z76 x6_1 p373 (by first | exact q373 | exact of_decide_eq_true ba | (have e_ := (Kd.N_reads' HO_373003.out).1; omega))
    obtain ⟨ua373_2, uc373_2, rfl, ul373_2, ge373_2⟩ := k76_openF hMe373
    have hv373_2 := hcc373 2 _ rfl
    rw [add_field _ _ 2 (by omega)] at hv373_2
    replace hv373_2 := Option.some.inj (hv373_2.symm.trans hx373_2)
    injection hv373_2 with hva_ hvn_ hvc_
    rw [hva_] at ge373_2
    rw [hvc_] at ul373_2
    have HL373_2 := aS (show Kd.V k76 76 _ w.heap.size _ _ ((rd_T76 x373003_1 x6_1).f2) from Kd.V_mk ul373_2 ge373_2)
    clear hva_ hvn_ hvc_ ge373_2 ul373_2
    clear hcc373 hce373
    have HR373_2 := aS hi373_2
    have HC373_2 := aS hl373_2
    clear hi373_2 hl373_2
    replace p373 := eq_true p373
    replace q373 := eq_true q373
    refine start_ (n := 12) (S := fun w' => w'.cell? ⟨gb372, 0, none⟩ = some (.int .i64 t363) ∧ w'.cell? ⟨gb372, 1, none⟩ = some (.int .i64 t364) ∧ w'.cell? ⟨gb372, 2, none⟩ = some (.string t365) ∧ w'.cell? ⟨gb372, 3, none⟩ = some (.slice (some ad373) x373003_1.length co22) ∧ w'.cell? ⟨gb372, 4, none⟩ = some (.slice Ao14 t369.length co14) ∧ w'.cell? (ad373.add ((x6_1).toNat * 3)) = some (.int .i64 ((rd_T76 x373003_1 x6_1).f0)) ∧ w'.cell? ⟨(ad373.add ((x6_1).toNat * 3)).block, (ad373.add ((x6_1).toNat * 3)).off + 1, none⟩ = some (.int .i64 ((rd_T76 x373003_1 x6_1).f1)) ∧ w'.cell? ⟨(ad373.add ((x6_1).toNat * 3)).block, (ad373.add ((x6_1).toNat * 3)).off + 2, none⟩ = some (.slice A373_2 ((rd_T76 x373003_1 x6_1).f2).length c373_2)) (ds := [11]) #[false, false, false, false, false, false, false, false, false, false, false, false] (by kernel_rfl) rfl rfl ⟨cz BK372 0, cz BK372 1, cz BK372 2, cz BK372 3, cz BK372 4, hx373_0, hx373_1, hx373_2⟩ (fun hHeld => ?_); refine with_tabW touchstoneref5_Levels.tab5 touchstoneref5_Levels.bits5 (fun HT_ HW_ => ?_)
    generalize wr.drew = w23 at HO_373003 HO_373004 BK361 BK362 BK372 HB HL373_2 HR373_2 hx373_0 hx373_1 hx373_2 hHeld ⊢
    refine pu 0 17 (bA 12 1) HT_ rfl rfl ?_
    refine pu 2 19 (bA 12 5) HT_ rfl rfl ?_
    refine pu 3 20 (bA 12 13) HT_ rfl rfl ?_
    refine pu 5 22 (bA 12 45) HT_ rfl rfl ?_
    refine pu 8 25 (bA 12 301) HT_ rfl rfl ?_
    refine ta 1 18 (bA 12 303) HT_ HW_ rfl rfl hHeld ?_
    refine ta 4 21 (bA 12 319) HT_ HW_ rfl rfl hHeld ?_
    refine pu 6 23 (bA 12 383) HT_ rfl rfl ?_
    refine ta 7 24 (bA 12 511) HT_ HW_ rfl rfl hHeld ?_
    refine one_ (i := 9) (N := some 26) (bA 12 1023) rfl rfl (one_of HT_.out (by kernel_rfl)) (by decide) (fun K hK => ?_)
    refine goes_ Try.func102 (by kernel_rfl) rfl #[.agg #[.int .i64 ((rd_T76 x373003_1 x6_1).f0), .int .i64 ((rd_T76 x373003_1 x6_1).f1), .slice A373_2 ((rd_T76 x373003_1 x6_1).f2).length c373_2], .slice A1 l1.length c1] (by rfl) rfl rfl bl ?_
    with_reducible refine (touchstoneref4_Put.calls k1 ((rd_T76 x373003_1 x6_1).f0) ((rd_T76 x373003_1 x6_1).f1) _ _ ((rd_T76 x373003_1 x6_1).f2) _ _ l1 t374 t375 t376 _ ?side1 ?side2 ?side3 ?side4 A17.out).mono ?_
    (case side1 => exact cr (by repeat (first | (with_reducible exact HR373_2.out) | (with_reducible refine Kd.C_alloc ?_ _) | (with_reducible refine Kd.C_drewN ?_ _) | (with_reducible refine Kd.C_drew ?_) | exact HR373_2.out)))
    (case side2 => exact HC373_2.out)
    (case side3 => exact cr (Kd.C_below HR1.out HB.out))
    (case side4 => exact HC1.out)
    rintro e w24 ⟨v377, rfl, ho0, hb⟩
    obtain ⟨C378, d378, rfl⟩ := Kd.R_slice ho0
    have HS5_ := (hb.cell (World.block_lt_of_cell? _ _ (hHeld.2.2.2.2.2.1))).trans (hHeld.2.2.2.2.2.1)
    have HS6_ := (hb.cell (World.block_lt_of_cell? _ _ (hHeld.2.2.2.2.2.2.1))).trans (hHeld.2.2.2.2.2.2.1)
    have HS7_ := (hb.cell (World.block_lt_of_cell? _ _ (hHeld.2.2.2.2.2.2.2))).trans (hHeld.2.2.2.2.2.2.2)
    refine ⟨_, rfl, ?_⟩
    replace HL373_2 := aS (Kd.V_elder' (by (with_reducible repeat (first | apply Kd.V_alloc | apply Kd.V_drewN | apply Kd.V_drew)); exact HL373_2.out) (nb ho0) hb)
    have HO378 := aS (Kd.N_lower (Kd.N_mono (ok' := fun k_ => (w.heap.size ≤ k_) ∧ some k_ ≠ (.slice (some ad373) x373003_1.length co22 : Value).ownBlock ∧ some k_ ≠ (.slice Ao14 t369.length co14 : Value).ownBlock ∧ k_ ≠ gb361 ∧ k_ ≠ gb362 ∧ k_ ≠ gb372) (Kd.R_N (Kd.R_bound ho0)) (fun k_ hk_ => ⟨(Nat.le_trans (below_size (hbk HB)) hk_.2.1), (Kd.fresh' (Kd.N_lt (kn HO_373003.out)) k_ hk_.2.1), (Kd.fresh' (Kd.N_lt (kn HO_373004.out)) k_ hk_.2.1), (Kd.freshB (bkw BK361) k_ hk_.2.1), (Kd.freshB (bkw BK362) k_ hk_.2.1), (Kd.freshB (bkw BK372) k_ hk_.2.1)⟩)) (below_size (hbk HB)))
    replace HO_373003 := aS (Kd.N_elder' (kn HO_373003.out) (nb ho0) hb)
    replace HO_373004 := aS (Kd.N_elder' (kn HO_373004.out) (nb ho0) hb)
    replace BK361 := Bk BK361 hb
    replace BK362 := Bk BK362 hb
    replace BK372 := Bk BK372 hb
    replace HR373_2 := aS (Kd.C_below (by repeat (first | (with_reducible exact HR373_2.out) | (with_reducible refine Kd.C_alloc ?_ _) | (with_reducible refine Kd.C_drewN ?_ _) | (with_reducible refine Kd.C_drew ?_) | exact HR373_2.out)) hb)
    replace HB := Hs HB hb
    (try clear hb)
    (try clear hb2)
    (try clear hk)
    (try clear hi)
    (try clear ho0)
    have p18 : 0 ≤ (x6_1 : Int) := of_decide_eq_true ba
    have q18 : (x6_1 : Int) < ((x373003_1.length : Int) : Int) := of_decide_eq_true ba
    obtain ⟨go18, co18, eo18, gb18, gl18, cl18, HG18⟩ := Kd.N_form HO_373003.out (by omega)
    (first | cases eo18 | (injection eo18 with ea_ en_ ec_; (first | subst ea_ | (injection ea_ with ea_; subst ea_)); subst ec_; clear en_))
    have GB18 := aS gb18
    have GG18 := aS HG18
    clear gb18 gl18 HG18
    (first | simp only [add_plain] at hx373_0 | skip)
    (first | simp only [add_plain] at hx373_1 | skip)
    (first | simp only [add_plain] at hx373_2 | skip)
    obtain ⟨ce18, hcl18, hM18, hcc18, hfr18⟩ := Kd.N_elem HO_373003.out z76 (x6_1 : Int) p18 q18
    obtain ⟨ua18_2, uc18_2, rfl, ul18_2, ge18_2⟩ := k76_openF hM18
    have hx18_0 : World.cell? _ ⟨go18, (x6_1 : Int).toNat * 3, none⟩ = some (.int .i64 ((rd_T76 x373003_1 x6_1).f0)) := hcc18 0 _ rfl
    have hx18_1 : World.cell? _ ⟨go18, (x6_1 : Int).toNat * 3 + 1, none⟩ = some (.int .i64 ((rd_T76 x373003_1 x6_1).f1)) := hcc18 1 _ rfl
    have hx18_2 : World.cell? _ ⟨go18, (x6_1 : Int).toNat * 3 + 2, none⟩ = some (.slice ua18_2 ((rd_T76 x373003_1 x6_1).f2).length uc18_2) := hcc18 2 _ rfl
    have hf18_0 : World.frozen? _ ⟨go18, (x6_1 : Int).toNat * 3, none⟩ = false := hfr18 0
    have hf18_1 : World.frozen? _ ⟨go18, (x6_1 : Int).toNat * 3 + 1, none⟩ = false := hfr18 1
    have hf18_2 : World.frozen? _ ⟨go18, (x6_1 : Int).toNat * 3 + 2, none⟩ = false := hfr18 2
    clear hcl18 hcc18 hfr18 hM18
    replace p18 := eq_true p18
    replace q18 := eq_true q18
    have HX25 := aS (show Kd.N k76 76 _ w.heap.size (fun k_ => (w.heap.size ≤ k_) ∧ some k_ ≠ (.slice Ao14 t369.length co14 : Value).ownBlock ∧ some k_ ≠ ((.slice C378 t376.length d378 : Value) : Value).ownBlock ∧ k_ ≠ gb361 ∧ k_ ≠ gb362 ∧ k_ ≠ gb372) (.slice (some ⟨go18, 0, none⟩) x373003_1.length co22) x373003_1 from (Kd.N_mono (HO_373003.out) (fun k_ hk => ⟨hk.1.1, ⟨hk.1.2.1, ⟨hk.2, ⟨hk.1.2.2.1, ⟨hk.1.2.2.2.1, hk.1.2.2.2.2⟩⟩⟩⟩⟩)))
    replace HX25 := aS (show Kd.N k76 76 _ w.heap.size (fun k_ => (w.heap.size ≤ k_) ∧ some k_ ≠ (.slice Ao14 t369.length co14 : Value).ownBlock ∧ k_ ≠ gb361 ∧ k_ ≠ gb362 ∧ k_ ≠ gb372) (.slice (some ⟨go18, 0, none⟩) x373003_1.length co22) x373003_1 from Kd.N_mono HX25.out (fun k_ hk => ⟨hk.1, ⟨hk.2.1, ⟨hk.2.2.2.1, ⟨hk.2.2.2.2.1, hk.2.2.2.2.2⟩⟩⟩⟩))
    obtain ⟨ce25, hcl25, hM25, hcc25, hfr25⟩ := Kd.N_elem HX25.out z76 (x6_1 : Int) (of_decide_eq_true ba) (by have h_ : (x6_1 : Int) < ((x373003_1.length : Int) : Int) := of_decide_eq_true ba; first | exact h_ | (have e_ := (Kd.N_reads' HO_373003.out).1; omega) | simpa using h_)
    obtain ⟨ua25_2, uc25_2, rfl, ul25_2, ge25_2⟩ := k76_openF hM25
    have HP25 := (Kd.N_seg HX25.out (x6_1 : Int) (of_decide_eq_true ba) (by have h_ : (x6_1 : Int) < ((x373003_1.length : Int) : Int) := of_decide_eq_true ba; first | exact h_ | (have e_ := (Kd.N_reads' HO_373003.out).1; omega) | simpa using h_) (seg := [.int .i64 t374, .int .i64 t375, (.slice C378 t376.length d378 : Value)]) (j := 0) hcl25 hcc25 (show 3 ≤ 3 from by decide) (x' := (⟨t374, t375, t376⟩ : S76)) (k76_mkF _ _ (⟨t374, t375, t376⟩ : S76) (Kd.N_reads' (Kd.N_mono (ok' := (fun k_ => ((fun k_ => (w.heap.size ≤ k_) ∧ some k_ ≠ (.slice Ao14 t369.length co14 : Value).ownBlock ∧ k_ ≠ gb361 ∧ k_ ≠ gb362 ∧ k_ ≠ gb372)) k_ ∧ k_ ≠ go18)) (HO378.out) (fun k_ hk => ⟨⟨hk.1, ⟨hk.2.2.1, ⟨hk.2.2.2.1, ⟨hk.2.2.2.2.1, hk.2.2.2.2.2⟩⟩⟩⟩, fun e_ => (hk.2.1) (by rw [e_]; rfl)⟩))).2.1 (Kd.N_F (Kd.N_mono (ok' := (fun k_ => ((fun k_ => (w.heap.size ≤ k_) ∧ some k_ ≠ (.slice Ao14 t369.length co14 : Value).ownBlock ∧ k_ ≠ gb361 ∧ k_ ≠ gb362 ∧ k_ ≠ gb372)) k_ ∧ k_ ≠ go18)) (HO378.out) (fun k_ hk => ⟨⟨hk.1, ⟨hk.2.2.1, ⟨hk.2.2.2.1, ⟨hk.2.2.2.2.1, hk.2.2.2.2.2⟩⟩⟩⟩, fun e_ => (hk.2.1) (by rw [e_]; rfl)⟩)))) (fun _ hk => hk)).1
    rw [← Ny379.out] at HP25
    have HQ25 := aS HP25
    clear hcl25 hcc25 hfr25 hM25 HP25
    refine hK.out _ _ ⟨cz BK372 0, cz BK372 1, cz BK372 2, cz BK372 3, cz BK372 4, HS5_, HS6_, HS7_⟩ (fun hHeld => ?_)
    clear hK K
    refine norm_ ap ?_
    refine pu 10 27 (bA 12 2047) HT_ rfl rfl ?_
    refine last_ (i := 11) (N := none) (bA 12 4095) rfl rfl (one_of HT_.out (by kernel_rfl)) (by decide) (fun K hK => ?_)
    refine skip_ (w1 := ?_) (by rfl) rfl ?_ ?_
    rotate_left
    ·go_simp
     rfl
    refine hK.out _ _ ?_
    clear hK K
    refine done_ (done_of HT_.out (by kernel_rfl)) ?_
    try go_wp2
    go_roundg k1
    case measure => have := HK1.out; omega
    case rel => exact ⟨(wrap64 (x6_1 + 1)), (y379), (.slice (some ⟨go18, 0, none⟩) x373003_1.length co22), br, H', ⟨by have := HK1.out; omega⟩, ⟨kn HQ25.out⟩, ⟨by (with_reducible repeat (first | apply Kd.N_alloc | apply Kd.N_drewN | apply Kd.N_drew)); exact Kd.N_mono (Kd.N_far (p := ⟨go18, (x6_1 : Int).toNat * 3 + 2, none⟩) (Kd.N_far (p := ⟨go18, (x6_1 : Int).toNat * 3 + 1, none⟩) (Kd.N_far (p := ⟨go18, (x6_1 : Int).toNat * 3, none⟩) (Kd.N_mono HO_373004.out (fun k_ hk => (⟨hk, fun e_ => hk.1.2.1 (by rw [e_]; rfl)⟩ : _ ∧ k_ ≠ go18))) (fun _ hk => hk.2) (.int .i64 t374)) (fun _ hk => hk.2) (.int .i64 t375)) (fun _ hk => hk.2) ((.slice C378 t376.length d378 : Value))) (fun _ hk => ⟨hk.1.1.1, ⟨hk.1.1.2.1, ⟨hk.1.1.2.2.1, ⟨hk.1.1.2.2.2.1, hk.1.1.2.2.2.2⟩⟩⟩⟩)⟩, ⟨by (with_reducible repeat (first | refine blk_drewN ?_ _ | refine blk_drew ?_ | refine blk_alloc ?_ _)); refine blk_far ?_ (by have h_ := Kd.N_away HO_373003.out (fun _ hk => hk.1.2.2.1); intro e_; exact h_ (by rw [e_]; rfl)) _; (with_reducible repeat (first | refine blk_drewN ?_ _ | refine blk_drew ?_ | refine blk_alloc ?_ _)); refine blk_far ?_ (by have h_ := Kd.N_away HO_373003.out (fun _ hk => hk.1.2.2.1); intro e_; exact h_ (by rw [e_]; rfl)) _; (with_reducible repeat (first | refine blk_drewN ?_ _ | refine blk_drew ?_ | refine blk_alloc ?_ _)); refine blk_far ?_ (by have h_ := Kd.N_away HO_373003.out (fun _ hk => hk.1.2.2.1); intro e_; exact h_ (by rw [e_]; rfl)) _; (with_reducible repeat (first | refine blk_drewN ?_ _ | refine blk_drew ?_ | refine blk_alloc ?_ _)); exact BK361.out⟩, ⟨by (with_reducible repeat (first | refine blk_drewN ?_ _ | refine blk_drew ?_ | refine blk_alloc ?_ _)); refine blk_far ?_ (by have h_ := Kd.N_away HO_373003.out (fun _ hk => hk.1.2.2.2.1); intro e_; exact h_ (by rw [e_]; rfl)) _; (with_reducible repeat (first | refine blk_drewN ?_ _ | refine blk_drew ?_ | refine blk_alloc ?_ _)); refine blk_far ?_ (by have h_ := Kd.N_away HO_373003.out (fun _ hk => hk.1.2.2.2.1); intro e_; exact h_ (by rw [e_]; rfl)) _; (with_reducible repeat (first | refine blk_drewN ?_ _ | refine blk_drew ?_ | refine blk_alloc ?_ _)); refine blk_far ?_ (by have h_ := Kd.N_away HO_373003.out (fun _ hk => hk.1.2.2.2.1); intro e_; exact h_ (by rw [e_]; rfl)) _; (with_reducible repeat (first | refine blk_drewN ?_ _ | refine blk_drew ?_ | refine blk_alloc ?_ _)); exact BK362.out⟩, ⟨by (with_reducible repeat (first | refine blk_drewN ?_ _ | refine blk_drew ?_ | refine blk_alloc ?_ _)); refine blk_far ?_ (by have h_ := Kd.N_away HO_373003.out (fun _ hk => hk.1.2.2.2.2); intro e_; exact h_ (by rw [e_]; rfl)) _; (with_reducible repeat (first | refine blk_drewN ?_ _ | refine blk_drew ?_ | refine blk_alloc ?_ _)); refine blk_far ?_ (by have h_ := Kd.N_away HO_373003.out (fun _ hk => hk.1.2.2.2.2); intro e_; exact h_ (by rw [e_]; rfl)) _; (with_reducible repeat (first | refine blk_drewN ?_ _ | refine blk_drew ?_ | refine blk_alloc ?_ _)); refine blk_far ?_ (by have h_ := Kd.N_away HO_373003.out (fun _ hk => hk.1.2.2.2.2); intro e_; exact h_ (by rw [e_]; rfl)) _; (with_reducible repeat (first | refine blk_drewN ?_ _ | refine blk_drew ?_ | refine blk_alloc ?_ _)); exact BK372.out⟩, ⟨hbk HB⟩⟩
   rw [if_neg c15] at H
   have c15b0 : decide (x6_1 < (x373003_1.length : Int)) = false := decide_eq_false c15
   clear c15
   have H' := aS H
   clear H
   have hnb26 := NB372_361.out
   have hnc26 := NB361_372.out
   have hnb27 := NB372_362.out
   have hnc27 := NB362_372.out
   obtain ⟨hcz28_0, hcz28_1, hcz28_2, hcz28_3, hcz28_4⟩ := cl5 BK372
   obtain ⟨hfz28_0, hfz28_1, hfz28_2, hfz28_3, hfz28_4⟩ := fz5 BK372
   obtain ⟨Ao29, co29, eo29⟩ := Kd.N_slice HO_373003.out
   subst eo29
   go_wp2
   go_loopg [7] k1 (fun kq v7 w' => ∃ (x7_2 : Int) (x373004_2 : List (S27)) (u373004 : Value), v7 = .int .i64 x7_2 ∧ Aside0 (touchstoneref5_Levels.l1 kq l1 x7_2 a0_0 a0_1 a0_2 l0_3 l0_4 t363 t364 t365 x373003_1 x373004_2 = some (r1, r2, r3, r4, r5)) ∧ Aside0 (kq ≤ k1) ∧ Aside0 (Kd.N k76 76 w' w.heap.size (fun k_ => (w.heap.size ≤ k_) ∧ some k_ ≠ (u373004 : Value).ownBlock ∧ k_ ≠ gb361 ∧ k_ ≠ gb362 ∧ k_ ≠ gb372) (.slice Ao29 x373003_1.length co29) x373003_1) ∧ Aside0 (Kd.N k27 27 w' w.heap.size (fun k_ => (w.heap.size ≤ k_) ∧ some k_ ≠ ((.slice Ao29 x373003_1.length co29) : Value).ownBlock ∧ k_ ≠ gb361 ∧ k_ ≠ gb362 ∧ k_ ≠ gb372) u373004 x373004_2) ∧ Aside0 (w'.heap[gb361]? = some (.cells #[.int .i64 a0_0, .int .i64 a0_1, .string a0_2, (.slice A0_3 l0_3.length c0_3), (.slice A0_4 l0_4.length c0_4)] 27 (0, 0))) ∧ Aside0 (w'.heap[gb362]? = some (.cells #[.int .i64 0, .int .i64 0, .string (⟨#[]⟩ : ByteArray), (.slice none 0 0), (.slice none 0 0)] 27 (0, 0))) ∧ Aside0 (w'.heap[gb372]? = some (.cells #[.int .i64 t363, .int .i64 t364, .string t365, (.slice Ao29 x373003_1.length co29), u373004] 27 (0, 0))) ∧ Aside0 (Below w.heap.size w w'))
   case atStart => exact ⟨(0), (t369), (.slice Ao14 t369.length co14), br, H', ⟨Nat.le_refl _⟩, ⟨kn HO_373003.out⟩, ⟨kn HO_373004.out⟩, ⟨bk BK361.out⟩, ⟨bk BK362.out⟩, ⟨bk BK372.out⟩, ⟨hbk HB⟩⟩
   case round =>
    clear H'
    try clear c1
    try clear p1
    try clear q1
    try clear hx1
    try clear c2
    try clear p2
    try clear c3
    try clear p3
    try clear q3
    try clear hx3
    try clear c5
    try clear c6
    try clear p6
    try clear c10
    try clear c11
    try clear c15
    try clear c15b0
    try clear c16
    try clear c16b0
    try clear c18
    try clear p18
    try clear q18
    try clear hx18
    try clear hf18
    try clear c19
    try clear c20
    try clear c25
    try clear c26
    try clear c27
    try clear hcz12_0 hcz12_1 hcz12_2 hcz12_3 hcz12_4
    try clear hcz21_0 hcz21_1 hcz21_2 hcz21_3 hcz21_4
    try clear hcz28_0 hcz28_1 hcz28_2 hcz28_3 hcz28_4
    try clear hcz7_0 hcz7_1 hcz7_2 hcz7_3 hcz7_4
    try clear hfz12_0 hfz12_1 hfz12_2 hfz12_3 hfz12_4
    try clear hfz21_0 hfz21_1 hfz21_2 hfz21_3 hfz21_4
    try clear hfz28_0 hfz28_1 hfz28_2 hfz28_3 hfz28_4
    try clear hfz7_0 hfz7_1 hfz7_2 hfz7_3 hfz7_4
    try clear hx18_0 hx18_1 hx18_2
    try clear hx373_0 hx373_1 hx373_2
    try clear p18
    try clear p2
    try clear p373
    try clear q18
    try clear q373
    obtain ⟨x7_2, x373004_2, u373004, rfl, HA, HK2, HO_373003, HO_373004, BK361, BK362, BK372, HB⟩ := hrel
    cases gk with
    | zero => exact absurd HA.out (by simp [touchstoneref5_Levels.l1])
    | succ k2 =>
     have H := HA.out
     clear HA
     simp only [touchstoneref5_Levels.l1] at H
     by_cases c30 : x7_2 < (l0_4.length : Int)
     rotate_left
     ·rw [if_neg c30] at H
      have c30b0 : decide (x7_2 < (l0_4.length : Int)) = false := decide_eq_false c30
      clear c30
      simp only [Option.some.injEq, Prod.mk.injEq] at H
      obtain ⟨rfl, rfl, rfl, rfl, rfl⟩ := H
      have hnb44 := NB361_362.out
      have hnc44 := NB362_361.out
      have hnb45 := NB361_372.out
      have hnc45 := NB372_361.out
      obtain ⟨hcz46_0, hcz46_1, hcz46_2, hcz46_3, hcz46_4⟩ := cl5 BK361
      obtain ⟨hfz46_0, hfz46_1, hfz46_2, hfz46_3, hfz46_4⟩ := fz5 BK361
      have hnb47 := NB372_362.out
      have hnc47 := NB362_372.out
      obtain ⟨hcz48_0, hcz48_1, hcz48_2, hcz48_3, hcz48_4⟩ := cl5 BK372
      obtain ⟨hfz48_0, hfz48_1, hfz48_2, hfz48_3, hfz48_4⟩ := fz5 BK372
      obtain ⟨hcz49_0, hcz49_1, hcz49_2, hcz49_3, hcz49_4⟩ := cl5 BK362
      obtain ⟨hfz49_0, hfz49_1, hfz49_2, hfz49_3, hfz49_4⟩ := fz5 BK362
      obtain ⟨Ao50, co50, eo50⟩ := Kd.N_slice HO_373004.out
      subst eo50
      go_wp2
      refine bodyPost_ret (results_cell_row rfl _ _ gb362 27 #[.int .i64 t363, .int .i64 t364, .string t365, .slice Ao29 x373003_1.length co29, .slice Ao50 x373004_2.length co50] (0, 0) _ rfl (bp5 BK362.out) Try.underlying27 rfl (by kernel_rfl)) rfl ?_
      exact ⟨_, _, by first | rfl | (simp [errW_none, errW_some] <;> rfl) | (simp [*, errW_none, errW_some] <;> rfl), by (with_reducible repeat (first | apply Kd.N_alloc | apply Kd.N_drewN | apply Kd.N_drew)); exact Kd.N_mono (N5 (g := gb362) (Kd.N_mono HO_373003.out (fun k_ hk => (⟨hk, hk.2.2.2.1⟩ : _ ∧ k_ ≠ gb362))) (fun _ hk => hk.2)) (fun _ hk => ⟨hk.1.1, hk.1.2.1⟩), by (with_reducible repeat (first | apply Kd.N_alloc | apply Kd.N_drewN | apply Kd.N_drew)); exact Kd.N_mono (N5 (g := gb362) (Kd.N_mono HO_373004.out (fun k_ hk => (⟨hk, hk.2.2.2.1⟩ : _ ∧ k_ ≠ gb362))) (fun _ hk => hk.2)) (fun _ hk => ⟨hk.1.1, hk.1.2.1⟩), hbk HB⟩
     rw [if_pos c30] at H
     have c30b0 : decide (x7_2 < (l0_4.length : Int)) = true := decide_eq_true c30
     clear c30
     by_cases c31 : 0 ≤ x7_2
     rotate_left
     ·rw [if_neg c31] at H
      exact absurd H (by simp)
     rw [if_pos c31] at H
     have c31b0 : decide (0 ≤ x7_2) = true := decide_eq_true c31
     clear c31
     replace H := Option.bind_eq_some_iff.mp H
     obtain ⟨⟨t381, t382, t383, t384, t387⟩, A320, H⟩ := H
     try dsimp only at H
     have A32 := aS A320
     clear A320
     by_cases c33 : x373004_2.length < 1759218604441
     rotate_left
     ·rw [if_neg c33] at H
      exact absurd H (by simp)
     rw [if_pos c33] at H
     have LMc33 := aS c33
     clear c33
     obtain ⟨y390, hy390⟩ : ∃ y_ : List (S27), y_ = (x373004_2 ++ [(⟨t381, t382, t383, t384, t387⟩ : S27)]) := ⟨_, rfl⟩
     replace H : (touchstoneref5_Levels.l1 k2 l1 (wrap64 (x7_2 + 1)) a0_0 a0_1 a0_2 l0_3 l0_4 t363 t364 t365 x373003_1 y390) = some (r1, r2, r3, r4, r5) := by first | (rw [hy390]; with_reducible exact H) | (have H2_ := (Option.bind_some _ _).symm.trans H; rw [hy390]; with_reducible exact H2_) | (have H2_ := (Option.bind_some _ _).symm.trans H; with_reducible exact H2_) | with_reducible exact H | (rw [hy390]; exact H) | exact H
     have Ny390 := aS hy390
     clear hy390
     have H' := aS H
     clear H
     have hnb34 := NB361_362.out
     have hnc34 := NB362_361.out
     have hnb35 := NB361_372.out
     have hnc35 := NB372_361.out
     obtain ⟨hcz36_0, hcz36_1, hcz36_2, hcz36_3, hcz36_4⟩ := cl5 BK361
     obtain ⟨hfz36_0, hfz36_1, hfz36_2, hfz36_3, hfz36_4⟩ := fz5 BK361
     try go_wp2
     replace HO_373003 := aS (Kd.N_drew HO_373003.out)
     replace HO_373004 := aS (Kd.N_drew HO_373004.out)
     replace BK361 := aS (blk_drew BK361.out)
     replace BK362 := aS (blk_drew BK362.out)
     replace BK372 := aS (blk_drew BK372.out)
     replace HB := aS (below_drew1 HB.out)
     have p380 : 0 ≤ (x7_2 : Int) := of_decide_eq_true ba
     have q380 : x7_2 < (l0_4.length : Int) := of_decide_eq_true ba
     obtain ⟨ad380, A380_3, c380_3, A380_4, c380_4, e380, hx380_0, hx380_1, hx380_2, hx380_3, hx380_4, hl380_3, hi380_3, hl380_4, hi380_4⟩ := at_T27 HR0_4.out x7_2 p380 q380
     have hw380_4 := hx380_4
     have hw380_3 := hx380_3
     have hw380_2 := hx380_2
     have hw380_1 := hx380_1
     have hw380_0 := hx380_0
     cases e380
     replace hx380_0 := (hc HB hx380_0 :)
     replace hx380_1 := (hc HB hx380_1 :)
     replace hx380_2 := (hc HB hx380_2 :)
     replace hx380_3 := (hc HB hx380_3 :)
     replace hx380_4 := (hc HB hx380_4 :)
     have HR380_3 := aS hi380_3
     have HC380_3 := aS hl380_3
     clear hi380_3 hl380_3
     have HR380_4 := aS hi380_4
     have HC380_4 := aS hl380_4
     clear hi380_4 hl380_4
     replace p380 := eq_true p380
     replace q380 := eq_true q380
     refine start_ (n := 13) (S := fun w' => w'.cell? ⟨gb372, 0, none⟩ = some (.int .i64 t363) ∧ w'.cell? ⟨gb372, 1, none⟩ = some (.int .i64 t364) ∧ w'.cell? ⟨gb372, 2, none⟩ = some (.string t365) ∧ w'.cell? ⟨gb372, 3, none⟩ = some (.slice Ao29 x373003_1.length co29) ∧ w'.cell? ⟨gb372, 4, none⟩ = some (u373004) ∧ w'.cell? ⟨gb361, 0, none⟩ = some (.int .i64 a0_0) ∧ w'.cell? ⟨gb361, 1, none⟩ = some (.int .i64 a0_1) ∧ w'.cell? ⟨gb361, 2, none⟩ = some (.string a0_2) ∧ w'.cell? ⟨gb361, 3, none⟩ = some (.slice A0_3 l0_3.length c0_3) ∧ w'.cell? ⟨gb361, 4, none⟩ = some (.slice (some ad380) l0_4.length c0_4) ∧ w'.cell? (ad380.add ((x7_2).toNat * 5)) = some (.int .i64 ((rd_T27 l0_4 x7_2).f0)) ∧ w'.cell? ⟨(ad380.add ((x7_2).toNat * 5)).block, (ad380.add ((x7_2).toNat * 5)).off + 1, none⟩ = some (.int .i64 ((rd_T27 l0_4 x7_2).f1)) ∧ w'.cell? ⟨(ad380.add ((x7_2).toNat * 5)).block, (ad380.add ((x7_2).toNat * 5)).off + 2, none⟩ = some (.string ((rd_T27 l0_4 x7_2).f2)) ∧ w'.cell? ⟨(ad380.add ((x7_2).toNat * 5)).block, (ad380.add ((x7_2).toNat * 5)).off + 3, none⟩ = some (.slice A380_3 ((rd_T27 l0_4 x7_2).f3).length c380_3) ∧ w'.cell? ⟨(ad380.add ((x7_2).toNat * 5)).block, (ad380.add ((x7_2).toNat * 5)).off + 4, none⟩ = some (.slice A380_4 ((rd_T27 l0_4 x7_2).f4).length c380_4)) (ds := [12]) #[false, false, false, false, false, false, false, false, false, false, false, false, false] (by kernel_rfl) rfl rfl ⟨cz BK372 0, cz BK372 1, cz BK372 2, cz BK372 3, cz BK372 4, cz BK361 0, cz BK361 1, cz BK361 2, cz BK361 3, cz BK361 4, (hc HB hw380_0 :), (hc HB hw380_1 :), (hc HB hw380_2 :), (hc HB hw380_3 :), (hc HB hw380_4 :)⟩ (fun hHeld => ?_); refine with_tabW touchstoneref5_Levels.tab9 touchstoneref5_Levels.bits9 (fun HT_ HW_ => ?_)
     generalize wr.drew = w37 at HO_373003 HO_373004 BK361 BK362 BK372 HB HR380_3 HR380_4 hx380_0 hx380_1 hx380_2 hx380_3 hx380_4 hHeld ⊢
     refine pu 0 35 (bA 13 1) HT_ rfl rfl ?_
     refine pu 2 37 (bA 13 5) HT_ rfl rfl ?_
     refine pu 4 39 (bA 13 21) HT_ rfl rfl ?_
     refine pu 7 42 (bA 13 149) HT_ rfl rfl ?_
     refine ta 1 36 (bA 13 151) HT_ HW_ rfl rfl hHeld ?_
     refine ta 3 38 (bA 13 159) HT_ HW_ rfl rfl hHeld ?_
     refine pu 5 40 (bA 13 191) HT_ rfl rfl ?_
     refine ta 6 41 (bA 13 255) HT_ HW_ rfl rfl hHeld ?_
     refine one_ (i := 8) (N := some 43) (bA 13 511) rfl rfl (one_of HT_.out (by kernel_rfl)) (by decide) (fun K hK => ?_)
     refine goes_ Try.func54 (by kernel_rfl) rfl #[.agg #[.int .i64 ((rd_T27 l0_4 x7_2).f0), .int .i64 ((rd_T27 l0_4 x7_2).f1), .string ((rd_T27 l0_4 x7_2).f2), .slice A380_3 ((rd_T27 l0_4 x7_2).f3).length c380_3, .slice A380_4 ((rd_T27 l0_4 x7_2).f4).length c380_4], .slice A1 l1.length c1] (by rfl) rfl rfl bl ?_
     with_reducible refine (ih k2 (by have := HK1.out; have := HK2.out; omega) ((rd_T27 l0_4 x7_2).f0) ((rd_T27 l0_4 x7_2).f1) ((rd_T27 l0_4 x7_2).f2) _ _ ((rd_T27 l0_4 x7_2).f3) _ _ ((rd_T27 l0_4 x7_2).f4) _ _ l1 t381 t382 t383 t384 t387 _ ?side1 ?side2 ?side3 ?side4 ?side5 ?side6 A32.out).mono ?_
     (case side1 => exact cr (Kd.C_below HR380_3.out HB.out))
     (case side2 => exact HC380_3.out)
     (case side3 => exact cr (Kd.C_below HR380_4.out HB.out))
     (case side4 => exact HC380_4.out)
     (case side5 => exact cr (Kd.C_below HR1.out HB.out))
     (case side6 => exact HC1.out)
     rintro e w38 ⟨v385, v388, rfl, ho0, ho1, hb⟩
     refine ⟨_, rfl, ?_⟩
     have HO386 := aS (Kd.N_lower (Kd.N_mono (ok' := fun k_ => (w.heap.size ≤ k_) ∧ some k_ ≠ (v388 : Value).ownBlock ∧ some k_ ≠ (.slice Ao29 x373003_1.length co29 : Value).ownBlock ∧ some k_ ≠ (u373004 : Value).ownBlock ∧ k_ ≠ gb361 ∧ k_ ≠ gb362 ∧ k_ ≠ gb372) ho0 (fun k_ hk_ => ⟨(Nat.le_trans (below_size (hbk HB)) hk_.1), hk_.2, (Kd.fresh' (Kd.N_lt (kn HO_373003.out)) k_ hk_.1), (Kd.fresh' (Kd.N_lt (kn HO_373004.out)) k_ hk_.1), (Kd.freshB (bkw BK361) k_ hk_.1), (Kd.freshB (bkw BK362) k_ hk_.1), (Kd.freshB (bkw BK372) k_ hk_.1)⟩)) (below_size (hbk HB)))
     have HO389 := aS (Kd.N_lower (Kd.N_mono (ok' := fun k_ => (w.heap.size ≤ k_) ∧ some k_ ≠ (v385 : Value).ownBlock ∧ some k_ ≠ (.slice Ao29 x373003_1.length co29 : Value).ownBlock ∧ some k_ ≠ (u373004 : Value).ownBlock ∧ k_ ≠ gb361 ∧ k_ ≠ gb362 ∧ k_ ≠ gb372) ho1 (fun k_ hk_ => ⟨(Nat.le_trans (below_size (hbk HB)) hk_.1), hk_.2, (Kd.fresh' (Kd.N_lt (kn HO_373003.out)) k_ hk_.1), (Kd.fresh' (Kd.N_lt (kn HO_373004.out)) k_ hk_.1), (Kd.freshB (bkw BK361) k_ hk_.1), (Kd.freshB (bkw BK362) k_ hk_.1), (Kd.freshB (bkw BK372) k_ hk_.1)⟩)) (below_size (hbk HB)))
     replace HO_373003 := aS (Kd.N_mono (Kd.N_told (Kd.N_told (Kd.N_old (kn HO_373003.out) hb) (nb ho0)) (nb ho1)) (fun _ h_ => h_.1))
     replace HO_373004 := aS (Kd.N_mono (Kd.N_told (Kd.N_told (Kd.N_old (kn HO_373004.out) hb) (nb ho0)) (nb ho1)) (fun _ h_ => h_.1))
     replace BK361 := Bk BK361 hb
     replace BK362 := Bk BK362 hb
     replace BK372 := Bk BK372 hb
     replace HB := Hs HB hb
     (try clear hb)
     (try clear hb2)
     (try clear hk)
     (try clear hi)
     (try clear ho0)
     (try clear ho1)
     obtain ⟨Ao40, co40, eo40⟩ := Kd.N_slice HO386.out
     (first | subst eo40 | (injection eo40 with f1_ f2_ f3_; have f4_ := f1_.symm; have f5_ := f3_.symm; clear f1_ f2_ f3_; subst f4_; subst f5_))
     obtain ⟨Ao41, co41, eo41⟩ := Kd.N_slice HO389.out
     (first | subst eo41 | (injection eo41 with f1_ f2_ f3_; have f4_ := f1_.symm; have f5_ := f3_.symm; clear f1_ f2_ f3_; subst f4_; subst f5_))
     refine hK.out _ _ ⟨cz BK372 0, cz BK372 1, cz BK372 2, cz BK372 3, cz BK372 4, cz BK361 0, cz BK361 1, cz BK361 2, cz BK361 3, cz BK361 4, (hc HB hw380_0 :), (hc HB hw380_1 :), (hc HB hw380_2 :), (hc HB hw380_3 :), (hc HB hw380_4 :)⟩ (fun hHeld => ?_)
     clear hK K
     refine norm_ ap ?_
     refine one_ (i := 9) (N := some 44) (bA 13 1023) rfl rfl (one_of HT_.out (by kernel_rfl)) (by decide) (fun K hK => ?_)
     refine value_ (w1 := ?_) (v := ?_) (by rfl) rfl ?_ ?_
     rotate_left 2
     ·go_simp
      constructor
      ·rfl
      ·rfl
     refine hK.out _ _ ⟨(blk_cell (blk_alloc BK372.out _) 0).trans rfl, (blk_cell (blk_alloc BK372.out _) 1).trans rfl, (blk_cell (blk_alloc BK372.out _) 2).trans rfl, (blk_cell (blk_alloc BK372.out _) 3).trans rfl, (blk_cell (blk_alloc BK372.out _) 4).trans rfl, (blk_cell (blk_alloc BK361.out _) 0).trans rfl, (blk_cell (blk_alloc BK361.out _) 1).trans rfl, (blk_cell (blk_alloc BK361.out _) 2).trans rfl, (blk_cell (blk_alloc BK361.out _) 3).trans rfl, (blk_cell (blk_alloc BK361.out _) 4).trans rfl, (World.cell?_alloc_lt _ _ _ (World.block_lt_of_cell? _ _ ((hc HB hw380_0 :)))).trans ((hc HB hw380_0 :)), (World.cell?_alloc_lt _ _ _ (World.block_lt_of_cell? _ _ ((hc HB hw380_1 :)))).trans ((hc HB hw380_1 :)), (World.cell?_alloc_lt _ _ _ (World.block_lt_of_cell? _ _ ((hc HB hw380_2 :)))).trans ((hc HB hw380_2 :)), (World.cell?_alloc_lt _ _ _ (World.block_lt_of_cell? _ _ ((hc HB hw380_3 :)))).trans ((hc HB hw380_3 :)), (World.cell?_alloc_lt _ _ _ (World.block_lt_of_cell? _ _ ((hc HB hw380_4 :)))).trans ((hc HB hw380_4 :))⟩ (fun hHeld => ?_)
     clear hK K
     refine norm_ ap ?_
     refine one_ (i := 10) (N := some 45) (bA 13 2047) rfl rfl (one_of HT_.out (by kernel_rfl)) (by decide) (fun K hK => ?_)
     refine Kd.N_append_step k27 (w0 := w) w.heap.size (by rfl) (.tmp 36) (.tmp 44) 23 27 (.agg #[(.int .i64 0), (.int .i64 0), (.string ⟨#[]⟩), (.slice none 0 0), (.slice none 0 0)]) 80 rfl Try.underlying23 info27 rfl (by decide) (by omega) u373004 x373004_2 (⟨t381, t382, t383, t384, t387⟩ : S27) [.int .i64 t381, .int .i64 t382, .string t383, .slice Ao40 t384.length co40, .slice Ao41 t387.length co41] (fun k_ => (w.heap.size ≤ k_) ∧ some k_ ≠ (.slice Ao29 x373003_1.length co29 : Value).ownBlock ∧ k_ ≠ gb361 ∧ k_ ≠ gb362 ∧ k_ ≠ gb372) (fun k_ => ((fun k_ => (w.heap.size ≤ k_) ∧ some k_ ≠ (.slice Ao29 x373003_1.length co29 : Value).ownBlock ∧ k_ ≠ gb361 ∧ k_ ≠ gb362 ∧ k_ ≠ gb372)) k_ ∧ some k_ ≠ (u373004 : Value).ownBlock) rfl rfl ?aP (fun _ hk => hk) ?aF ?aO ?aB ?aS ?aL ?_
     (case aP => exact (k27_mkF _ _ (⟨t381, t382, t383, t384, t387⟩ : S27) (Kd.N_reads' (Kd.N_mono (ok' := (fun k_ => ((fun k_ => (w.heap.size ≤ k_) ∧ some k_ ≠ (.slice Ao29 x373003_1.length co29 : Value).ownBlock ∧ k_ ≠ gb361 ∧ k_ ≠ gb362 ∧ k_ ≠ gb372)) k_ ∧ some k_ ≠ (u373004 : Value).ownBlock)) (HO386.out) (fun k_ hk => ⟨⟨hk.1, ⟨hk.2.2.1, ⟨hk.2.2.2.2.1, ⟨hk.2.2.2.2.2.1, hk.2.2.2.2.2.2⟩⟩⟩⟩, hk.2.2.2.1⟩))).2.1 (Kd.N_F (Kd.N_mono (ok' := (fun k_ => ((fun k_ => (w.heap.size ≤ k_) ∧ some k_ ≠ (.slice Ao29 x373003_1.length co29 : Value).ownBlock ∧ k_ ≠ gb361 ∧ k_ ≠ gb362 ∧ k_ ≠ gb372)) k_ ∧ some k_ ≠ (u373004 : Value).ownBlock)) (HO386.out) (fun k_ hk => ⟨⟨hk.1, ⟨hk.2.2.1, ⟨hk.2.2.2.2.1, ⟨hk.2.2.2.2.2.1, hk.2.2.2.2.2.2⟩⟩⟩⟩, hk.2.2.2.1⟩))) (Kd.N_reads' (Kd.N_mono (ok' := (fun k_ => ((fun k_ => (w.heap.size ≤ k_) ∧ some k_ ≠ (.slice Ao29 x373003_1.length co29 : Value).ownBlock ∧ k_ ≠ gb361 ∧ k_ ≠ gb362 ∧ k_ ≠ gb372)) k_ ∧ some k_ ≠ (u373004 : Value).ownBlock)) (HO389.out) (fun k_ hk => ⟨⟨hk.1, ⟨hk.2.2.1, ⟨hk.2.2.2.2.1, ⟨hk.2.2.2.2.2.1, hk.2.2.2.2.2.2⟩⟩⟩⟩, hk.2.2.2.1⟩))).2.1 (Kd.N_F (Kd.N_mono (ok' := (fun k_ => ((fun k_ => (w.heap.size ≤ k_) ∧ some k_ ≠ (.slice Ao29 x373003_1.length co29 : Value).ownBlock ∧ k_ ≠ gb361 ∧ k_ ≠ gb362 ∧ k_ ≠ gb372)) k_ ∧ some k_ ≠ (u373004 : Value).ownBlock)) (HO389.out) (fun k_ hk => ⟨⟨hk.1, ⟨hk.2.2.1, ⟨hk.2.2.2.2.1, ⟨hk.2.2.2.2.2.1, hk.2.2.2.2.2.2⟩⟩⟩⟩, hk.2.2.2.1⟩)))))
     (case aB => exact (hbk HB))
     (case aF => exact (fun k_ hk => ⟨(Nat.le_trans (below_size (hbk HB)) hk), Kd.fresh' (Kd.N_lt (kn HO_373003.out)) k_ hk, Kd.freshB (bkw BK361) k_ hk, Kd.freshB (bkw BK362) k_ hk, Kd.freshB (bkw BK372) k_ hk⟩))
     (case aO => exact (by (with_reducible repeat (first | apply Kd.N_alloc | apply Kd.N_drewN | apply Kd.N_drew)); exact Kd.N_mono HO_373004.out (fun _ hk => ⟨hk.1.1.1, ⟨hk.1.1.2.1, ⟨hk.1.1.2.2.1, ⟨hk.1.1.2.2.2.1, hk.1.1.2.2.2.2⟩⟩⟩⟩)))
     (case aS => exact (below_size (hbk HB)))
     (case aL => have := LMc33.out; omega)
     intro v391 w39 ho hb hg hat
     rw [← Ny390.out] at ho
     replace HO_373003 := aS (Kd.N_afterv (ok := (fun k_ => (w.heap.size ≤ k_) ∧ some k_ ≠ (.slice Ao40 t384.length co40 : Value).ownBlock ∧ some k_ ≠ (.slice Ao41 t387.length co41 : Value).ownBlock ∧ k_ ≠ gb361 ∧ k_ ≠ gb362 ∧ k_ ≠ gb372)) (by (with_reducible repeat (first | apply Kd.N_alloc | apply Kd.N_drewN | apply Kd.N_drew)); exact Kd.N_mono HO_373003.out (fun _ hk => ⟨⟨hk.1.1.1, ⟨hk.1.2, ⟨hk.2, ⟨hk.1.1.2.2.1, ⟨hk.1.1.2.2.2.1, hk.1.1.2.2.2.2⟩⟩⟩⟩⟩, hk.1.1.2.1⟩)) hg hat)
     replace BK361 := aS (blk_grown (bkw BK361) hg (Kd.N_away HO_373004.out (fun _ hk => hk.1.1.2.2.1)))
     replace BK362 := aS (blk_grown (bkw BK362) hg (Kd.N_away HO_373004.out (fun _ hk => hk.1.1.2.2.2.1)))
     replace BK372 := aS (blk_grown (bkw BK372) hg (Kd.N_away HO_373004.out (fun _ hk => hk.1.1.2.2.2.2)))
     replace HB := aS (hb)
     have HO392 := aS (ho)
     clear HO_373004 HO386 HO389
     clear ho hb hg hat
     obtain ⟨Ao42, co42, eo42⟩ := Kd.N_slice HO392.out
     (first | subst eo42 | (injection eo42 with f1_ f2_ f3_; have f4_ := f1_.symm; have f5_ := f3_.symm; clear f1_ f2_ f3_; subst f4_; subst f5_))
     refine hK.out _ _ ⟨cz BK372 0, cz BK372 1, cz BK372 2, cz BK372 3, cz BK372 4, cz BK361 0, cz BK361 1, cz BK361 2, cz BK361 3, cz BK361 4, (hc HB hw380_0 :), (hc HB hw380_1 :), (hc HB hw380_2 :), (hc HB hw380_3 :), (hc HB hw380_4 :)⟩ (fun hHeld => ?_)
     clear hK K
     refine norm_ ap ?_
     refine pu 11 46 (bA 13 4095) HT_ rfl rfl ?_
     refine last_ (i := 12) (N := none) (bA 13 8191) rfl rfl (one_of HT_.out (by kernel_rfl)) (by decide) (fun K hK => ?_)
     have hs43 : w39.cell? ⟨gb372, 4, none⟩ = some (u373004) := cz BK372 4
     have hfs43 := blk_frozen BK372.out 4
     have hns43_0 := NB361_372.out
     have hns43_1 := NB362_372.out
     have hms43_0 := NB372_361.out
     have hms43_1 := NB372_362.out
     refine skip_ (w1 := ?_) (by rfl) rfl ?_ ?_
     rotate_left
     ·go_simp
      rfl
     refine hK.out _ _ ?_
     clear hK K
     refine done_ (done_of HT_.out (by kernel_rfl)) ?_
     try go_wp2
     go_roundg k2
     case measure => have := HK1.out; have := HK2.out; omega
     case rel => exact ⟨(wrap64 (x7_2 + 1)), (y390), (.slice Ao42 y390.length co42), br, H', ⟨by have := HK1.out; have := HK2.out; omega⟩, ⟨by (with_reducible repeat (first | apply Kd.N_alloc | apply Kd.N_drewN | apply Kd.N_drew)); exact Kd.N_mono (Kd.N_far (p := ⟨gb372, 4, none⟩) (Kd.N_mono HO_373003.out (fun k_ hk => (⟨hk, hk.1.2.2.2.2.2⟩ : _ ∧ k_ ≠ gb372))) (fun _ hk => hk.2) (.slice Ao42 y390.length co42)) (fun _ hk => ⟨hk.1.1.1, ⟨hk.1.2, ⟨hk.1.1.2.2.2.1, ⟨hk.1.1.2.2.2.2.1, hk.1.1.2.2.2.2.2⟩⟩⟩⟩)⟩, ⟨by (with_reducible repeat (first | apply Kd.N_alloc | apply Kd.N_drewN | apply Kd.N_drew)); exact Kd.N_mono (Kd.N_far (p := ⟨gb372, 4, none⟩) (Kd.N_mono HO392.out (fun k_ hk => (⟨hk, hk.2.2.2.2⟩ : _ ∧ k_ ≠ gb372))) (fun _ hk => hk.2) (.slice Ao42 y390.length co42)) (fun _ hk => ⟨hk.1.1, ⟨hk.1.2.1, ⟨hk.1.2.2.1, ⟨hk.1.2.2.2.1, hk.1.2.2.2.2⟩⟩⟩⟩)⟩, ⟨by (with_reducible repeat (first | refine blk_drewN ?_ _ | refine blk_drew ?_ | refine blk_alloc ?_ _)); refine blk_far ?_ NB361_372.out _; (with_reducible repeat (first | refine blk_drewN ?_ _ | refine blk_drew ?_ | refine blk_alloc ?_ _)); exact BK361.out⟩, ⟨by (with_reducible repeat (first | refine blk_drewN ?_ _ | refine blk_drew ?_ | refine blk_alloc ?_ _)); refine blk_far ?_ NB362_372.out _; (with_reducible repeat (first | refine blk_drewN ?_ _ | refine blk_drew ?_ | refine blk_alloc ?_ _)); exact BK362.out⟩, ⟨by (with_reducible repeat (first | refine blk_drewN ?_ _ | refine blk_drew ?_ | refine blk_alloc ?_ _)); refine blk_put (cs := #[.int .i64 t363, .int .i64 t364, .string t365, .slice Ao29 x373003_1.length co29, u373004]) ?_ 4 _ rfl; (with_reducible repeat (first | refine blk_drewN ?_ _ | refine blk_drew ?_ | refine blk_alloc ?_ _)); exact BK372.out⟩, ⟨hbk HB⟩⟩
end Go.Proofs.Ytpejhapgffcngaa.QK

