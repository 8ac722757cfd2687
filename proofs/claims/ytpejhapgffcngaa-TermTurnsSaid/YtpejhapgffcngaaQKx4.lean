/- Words and walks of this claim. -/
import Derived.Test.YtpejhapgffcngaaXShort
import Derived.Test.YtpejhapgffcngaaQKCopy
import Derived.Test.YtpejhapgffcngaaQKApart
namespace Go.Proofs.Ytpejhapgffcngaa.QK
open Go.RowKit Go.Proofs.YtpejhapgffcngaaW.PrintWords Go.Proofs.YtpejhapgffcngaaW.PrintLast Go.Proofs.YtpejhapgffcngaaW.PrintMore
attribute [local go_sem] max2_int min2_int max_two min_two max_three min_three max_four min_four
set_option linter.unusedVariables false
set_option linter.unusedSimpArgs false
def touchstoneref5_leaf.l0 : Nat → Int → Int → Int → ByteArray → List (S76) → List (S27) → Int → Int → ByteArray → List (S76) → Option (Int × Int × ByteArray × (List (S76)) × (List (S27)))
 | 0, _, _, _, _, _, _, _, _, _, _ => none
 | k + 1, x4, x133000, x133001, x133002, x133003, x133004, x135000, x135001, x135002, x135003 => if x4 < (x133003.length : Int) then (if 0 ≤ x4 then ((touchstoneref4_Copy.f k ((rd_T76 x133003 x4).f0) ((rd_T76 x133003 x4).f1) ((rd_T76 x133003 x4).f2)).bind fun bt136 => (if x135003.length < 3518437208883 then (touchstoneref5_leaf.l0 k (wrap64 (x4 + 1)) x133000 x133001 x133002 x133003 x133004 x135000 x135001 x135002 (x135003 ++ [(⟨bt136.1, bt136.2.1, bt136.2.2⟩ : S76)])) else (none))) else (none)) else (some (x135000, x135001, x135002, x135003, ([] : List (S27))))
def touchstoneref5_leaf.f (k : Nat) (a0_0 : Int) (a0_1 : Int) (a0_2 : ByteArray) (l0_3 : List (S76)) (l0_4 : List (S27)) : Option (Int × Int × ByteArray × (List (S76)) × (List (S27))) := touchstoneref5_leaf.l0 k 0 a0_0 a0_1 a0_2 l0_3 l0_4 a0_0 a0_1 a0_2 ([] : List (S76))
def touchstoneref5_leaf.T5 : Bool × List (List Nat × List Nat) := (true, [([], []), ([0], [0]), ([], []), ([2], [2]), ([], []), ([3, 4], [3, 4]), ([5], [5]), ([6], [6]), ([7], [7]), ([1, 8, 7], [1, 8]), ([0, 1, 2, 3, 4, 5, 6, 7, 8, 9], []), ([10, 9, 9, 0, 1, 2, 3, 4, 5, 6, 7, 8, 9], [9, 10])])
def touchstoneref5_leaf.B5 : List Nat := [0, 1, 0, 4, 0, 28, 60, 124, 252, 511, 1023, 2047]
theorem touchstoneref5_leaf.tab5 : rtab .any (opsOf Try.f101 5) = touchstoneref5_leaf.T5 := by kernel_rfl
theorem touchstoneref5_leaf.bits5 : waitsOk touchstoneref5_leaf.T5.2 touchstoneref5_leaf.B5 = true := by kernel_rfl
set_option maxHeartbeats 8000000 in
set_option maxRecDepth 100000 in
theorem touchstoneref5_leaf.calls (k : Nat) (a0_0 : Int) (a0_1 : Int) (a0_2 : ByteArray) (A0_3 : Option Addr) (c0_3 : Nat) (l0_3 : List (S76)) (A0_4 : Option Addr) (c0_4 : Nat) (l0_4 : List (S27)) (r1 : Int) (r2 : Int) (r3 : ByteArray) (r4 : List (S76)) (r5 : List (S27)) (w : World) (hr0_3 : Kd.C k76 w A0_3 l0_3.length l0_3) (hc0_3 : l0_3.length ≤ c0_3) (hr0_4 : Kd.C k27 w A0_4 l0_4.length l0_4) (hc0_4 : l0_4.length ≤ c0_4) (h : touchstoneref5_leaf.f k a0_0 a0_1 a0_2 l0_3 l0_4 = some (r1, r2, r3, r4, r5)) :
  Calls Try.prog 101 #[.agg #[.int .i64 a0_0, .int .i64 a0_1, .string a0_2, .slice A0_3 l0_3.length c0_3, .slice A0_4 l0_4.length c0_4]] w fun e w' => ∃ v3_ v4_ : Value, e = .returned (.agg #[.int .i64 r1, .int .i64 r2, .string r3, v3_, v4_]) ∧ Kd.R k76 76 w' w.heap.size (fun _ => True) v3_ r4 ∧ Kd.R k27 27 w' w.heap.size (fun k_ => some k_ ≠ (v3_ : Value).ownBlock) v4_ r5 ∧ Below w.heap.size w w' := by
 have hu27 := Try.underlying27
 have hu76 := Try.underlying76
 have HR0_3 := aS hr0_3
 have HC0_3 := aS hc0_3
 clear hr0_3 hc0_3
 have HR0_4 := aS hr0_4
 have HC0_4 := aS hc0_4
 clear hr0_4 hc0_4
 have HB := aS (Below.refl w.heap.size w)
 have H : (touchstoneref5_leaf.l0 k 0 a0_0 a0_1 a0_2 l0_3 l0_4 a0_0 a0_1 a0_2 ([] : List (S76))) = some (r1, r2, r3, r4, r5) := h
 clear h
 have H' := aS H
 clear H
 go_enter Try.func101, Try.ntmps101
 go_wp2_with (first | ((with_reducible refine gate_dst (N := 1) rfl ?_); refine bx (N := 1) (t := 27) #[.int .i64 a0_0, .int .i64 a0_1, .string a0_2, .slice A0_3 l0_3.length c0_3, .slice A0_4 l0_4.length c0_4] ?_; intro gb132 hg w2 hbox hb; have BK132 := aS (hbox); have GW132 := Gz hg HB; have GE132 := Gz hg HB; replace HB := Hs HB hb; clear hb hbox hg) | ((with_reducible refine gate_dst (N := 2) rfl ?_); refine bx (N := 2) (t := 27) #[.int .i64 0, .int .i64 0, .string (⟨#[]⟩ : ByteArray), .slice none 0 0, .slice none 0 0] ?_; intro gb133 hg w3 hbox hb; have BK133 := aS (hbox); have GW133 := Gz hg HB; have GE133 := Gz hg HB; replace HB := Hs HB hb; have NB132_133 := aS ((by rw [hg]; exact Nat.ne_of_lt (blk_lt (bkw BK132)) : gb132 ≠ gb133)); have NB133_132 := aS ((by rw [hg]; exact Nat.ne_of_gt (blk_lt (bkw BK132)) : gb133 ≠ gb132)); replace BK132 := Bk BK132 hb; clear hb hbox hg; have hnb4 := NB132_133.out; have hnc4 := NB133_132.out; obtain ⟨hcz5_0, hcz5_1, hcz5_2, hcz5_3, hcz5_4⟩ := cl5 BK132; obtain ⟨hfz5_0, hfz5_1, hfz5_2, hfz5_3, hfz5_4⟩ := fz5 BK132) | ((with_reducible refine gate_dst (N := 3) rfl ?_); refine bx (N := 3) (t := 27) #[.int .i64 0, .int .i64 0, .string (⟨#[]⟩ : ByteArray), .slice none 0 0, .slice none 0 0] ?_; intro gb134 hg w6 hbox hb; have BK134 := aS (hbox); have GW134 := Gz hg HB; have GE134 := Gz hg HB; replace HB := Hs HB hb; have NB132_134 := aS ((by rw [hg]; exact Nat.ne_of_lt (blk_lt (bkw BK132)) : gb132 ≠ gb134)); have NB134_132 := aS ((by rw [hg]; exact Nat.ne_of_gt (blk_lt (bkw BK132)) : gb134 ≠ gb132)); replace BK132 := Bk BK132 hb; have NB133_134 := aS ((by rw [hg]; exact Nat.ne_of_lt (blk_lt (bkw BK133)) : gb133 ≠ gb134)); have NB134_133 := aS ((by rw [hg]; exact Nat.ne_of_gt (blk_lt (bkw BK133)) : gb134 ≠ gb133)); replace BK133 := Bk BK133 hb; clear hb hbox hg; have hnb7 := NB134_132.out; have hnc7 := NB132_134.out; have hnb8 := NB134_133.out; have hnc8 := NB133_134.out; obtain ⟨hcz9_0, hcz9_1, hcz9_2, hcz9_3, hcz9_4⟩ := cl5 BK134; obtain ⟨hfz9_0, hfz9_1, hfz9_2, hfz9_3, hfz9_4⟩ := fz5 BK134))
 go_loopg [4] k (fun kq v4 w' => ∃ (x4_1 : Int) (x135003_1 : List (S76)) (u135003 : Value), v4 = .int .i64 x4_1 ∧ Aside0 (touchstoneref5_leaf.l0 kq x4_1 a0_0 a0_1 a0_2 l0_3 l0_4 a0_0 a0_1 a0_2 x135003_1 = some (r1, r2, r3, r4, r5)) ∧ Aside0 (kq ≤ k) ∧ Aside0 (Kd.R k76 76 w' w.heap.size (fun _ => True) u135003 x135003_1) ∧ Aside0 (w'.heap[gb132]? = some (.cells #[.int .i64 a0_0, .int .i64 a0_1, .string a0_2, (.slice A0_3 l0_3.length c0_3), (.slice A0_4 l0_4.length c0_4)] 27 (0, 0))) ∧ Aside0 (w'.heap[gb133]? = some (.cells #[.int .i64 0, .int .i64 0, .string (⟨#[]⟩ : ByteArray), (.slice none 0 0), (.slice none 0 0)] 27 (0, 0))) ∧ Aside0 (w'.heap[gb134]? = some (.cells #[.int .i64 a0_0, .int .i64 a0_1, .string a0_2, u135003, (.slice none 0 0)] 27 (0, 0))) ∧ Aside0 (Below w.heap.size w w'))
 case atStart => exact ⟨(0), (([] : List (S76))), (.slice none 0 0), br, H', ⟨Nat.le_refl _⟩, ⟨by first | exact Kd.R_nil _ _ _ _ _ | exact Kd.N_nil _ _ _ _ _ | exact Kd.V_nil _ _ _ _ _ | exact Kd.Q_nil _ _ _ _ _ | exact Kd.S_nil _ _ _ _ _⟩, ⟨bf5 BK132.out NB132_134.out⟩, ⟨bf5 BK133.out NB133_134.out⟩, ⟨bp5 BK134.out⟩, ⟨hbk HB⟩⟩
 case round =>
  clear H'
  try clear c1
  try clear p2
  try clear c4
  try clear c7
  try clear c8
  try clear hcz5_0 hcz5_1 hcz5_2 hcz5_3 hcz5_4
  try clear hcz9_0 hcz9_1 hcz9_2 hcz9_3 hcz9_4
  try clear hfz5_0 hfz5_1 hfz5_2 hfz5_3 hfz5_4
  try clear hfz9_0 hfz9_1 hfz9_2 hfz9_3 hfz9_4
  obtain ⟨x4_1, x135003_1, u135003, rfl, HA, HK1, HO_135003, BK132, BK133, BK134, HB⟩ := hrel
  cases gk with
  | zero => exact absurd HA.out (by simp [touchstoneref5_leaf.l0])
  | succ k1 =>
   have H := HA.out
   clear HA
   simp only [touchstoneref5_leaf.l0] at H
   by_cases c10 : x4_1 < (l0_3.length : Int)
   rotate_left
   ·rw [if_neg c10] at H
    have c10b0 : decide (x4_1 < (l0_3.length : Int)) = false := decide_eq_false c10
    clear c10
    simp only [Option.some.injEq, Prod.mk.injEq] at H
    obtain ⟨rfl, rfl, rfl, rfl, rfl⟩ := H
    have hnb23 := NB132_133.out
    have hnc23 := NB133_132.out
    have hnb24 := NB132_134.out
    have hnc24 := NB134_132.out
    obtain ⟨hcz25_0, hcz25_1, hcz25_2, hcz25_3, hcz25_4⟩ := cl5 BK132
    obtain ⟨hfz25_0, hfz25_1, hfz25_2, hfz25_3, hfz25_4⟩ := fz5 BK132
    have hnb26 := NB134_133.out
    have hnc26 := NB133_134.out
    obtain ⟨hcz27_0, hcz27_1, hcz27_2, hcz27_3, hcz27_4⟩ := cl5 BK134
    obtain ⟨hfz27_0, hfz27_1, hfz27_2, hfz27_3, hfz27_4⟩ := fz5 BK134
    obtain ⟨hcz28_0, hcz28_1, hcz28_2, hcz28_3, hcz28_4⟩ := cl5 BK133
    obtain ⟨hfz28_0, hfz28_1, hfz28_2, hfz28_3, hfz28_4⟩ := fz5 BK133
    obtain ⟨Ao29, co29, eo29⟩ := Kd.R_slice HO_135003.out
    subst eo29
    go_wp2
    refine bodyPost_ret (results_cell_row rfl _ _ gb133 27 #[.int .i64 a0_0, .int .i64 a0_1, .string a0_2, .slice Ao29 x135003_1.length co29, .slice none 0 0] (0, 0) _ rfl (bp5 BK133.out) Try.underlying27 rfl (by kernel_rfl)) rfl ?_
    exact ⟨_, _, by first | rfl | (simp [errW_none, errW_some] <;> rfl) | (simp [*, errW_none, errW_some] <;> rfl), by (with_reducible repeat (first | apply Kd.R_alloc | apply Kd.R_drewN | apply Kd.R_drew)); exact Kd.R_mono (R5 (g := gb133) (Kd.R_types HO_135003.out BK133.out (by decide)) (fun _ hk => hk.2)) (fun _ hk => trivial), by first | exact Kd.R_nil _ _ _ _ _ | exact Kd.N_nil _ _ _ _ _ | exact Kd.V_nil _ _ _ _ _ | exact Kd.Q_nil _ _ _ _ _ | exact Kd.S_nil _ _ _ _ _, hbk HB⟩
   rw [if_pos c10] at H
   have c10b0 : decide (x4_1 < (l0_3.length : Int)) = true := decide_eq_true c10
   clear c10
   by_cases c11 : 0 ≤ x4_1
   rotate_left
   ·rw [if_neg c11] at H
    exact absurd H (by simp)
   rw [if_pos c11] at H
   have c11b0 : decide (0 ≤ x4_1) = true := decide_eq_true c11
   clear c11
   replace H := Option.bind_eq_some_iff.mp H
   obtain ⟨⟨t136, t137, t138⟩, A120, H⟩ := H
   try dsimp only at H
   have A12 := aS A120
   clear A120
   by_cases c13 : x135003_1.length < 3518437208883
   rotate_left
   ·rw [if_neg c13] at H
    exact absurd H (by simp)
   rw [if_pos c13] at H
   have LMc13 := aS c13
   clear c13
   obtain ⟨y141, hy141⟩ : ∃ y_ : List (S76), y_ = (x135003_1 ++ [(⟨t136, t137, t138⟩ : S76)]) := ⟨_, rfl⟩
   replace H : (touchstoneref5_leaf.l0 k1 (wrap64 (x4_1 + 1)) a0_0 a0_1 a0_2 l0_3 l0_4 a0_0 a0_1 a0_2 y141) = some (r1, r2, r3, r4, r5) := by first | (rw [hy141]; with_reducible exact H) | (have H2_ := (Option.bind_some _ _).symm.trans H; rw [hy141]; with_reducible exact H2_) | (have H2_ := (Option.bind_some _ _).symm.trans H; with_reducible exact H2_) | with_reducible exact H | (rw [hy141]; exact H) | exact H
   have Ny141 := aS hy141
   clear hy141
   have H' := aS H
   clear H
   have hnb14 := NB132_133.out
   have hnc14 := NB133_132.out
   have hnb15 := NB132_134.out
   have hnc15 := NB134_132.out
   obtain ⟨hcz16_0, hcz16_1, hcz16_2, hcz16_3, hcz16_4⟩ := cl5 BK132
   obtain ⟨hfz16_0, hfz16_1, hfz16_2, hfz16_3, hfz16_4⟩ := fz5 BK132
   try go_wp2
   replace HO_135003 := aS (Kd.R_drew HO_135003.out)
   replace BK132 := aS (blk_drew BK132.out)
   replace BK133 := aS (blk_drew BK133.out)
   replace BK134 := aS (blk_drew BK134.out)
   replace HB := aS (below_drew1 HB.out)
   have p135 : 0 ≤ (x4_1 : Int) := of_decide_eq_true ba
   have q135 : x4_1 < (l0_3.length : Int) := of_decide_eq_true ba
   obtain ⟨ad135, A135_2, c135_2, e135, hx135_0, hx135_1, hx135_2, hl135_2, hi135_2⟩ := at_T76 HR0_3.out x4_1 p135 q135
   have hw135_2 := hx135_2
   have hw135_1 := hx135_1
   have hw135_0 := hx135_0
   cases e135
   replace hx135_0 := (hc HB hx135_0 :)
   replace hx135_1 := (hc HB hx135_1 :)
   replace hx135_2 := (hc HB hx135_2 :)
   have HR135_2 := aS hi135_2
   have HC135_2 := aS hl135_2
   clear hi135_2 hl135_2
   replace p135 := eq_true p135
   replace q135 := eq_true q135
   refine start_ (n := 12) (S := fun w' => w'.cell? ⟨gb134, 0, none⟩ = some (.int .i64 a0_0) ∧ w'.cell? ⟨gb134, 1, none⟩ = some (.int .i64 a0_1) ∧ w'.cell? ⟨gb134, 2, none⟩ = some (.string a0_2) ∧ w'.cell? ⟨gb134, 3, none⟩ = some (u135003) ∧ w'.cell? ⟨gb134, 4, none⟩ = some (.slice none 0 0) ∧ w'.cell? ⟨gb132, 0, none⟩ = some (.int .i64 a0_0) ∧ w'.cell? ⟨gb132, 1, none⟩ = some (.int .i64 a0_1) ∧ w'.cell? ⟨gb132, 2, none⟩ = some (.string a0_2) ∧ w'.cell? ⟨gb132, 3, none⟩ = some (.slice (some ad135) l0_3.length c0_3) ∧ w'.cell? ⟨gb132, 4, none⟩ = some (.slice A0_4 l0_4.length c0_4) ∧ w'.cell? (ad135.add ((x4_1).toNat * 3)) = some (.int .i64 ((rd_T76 l0_3 x4_1).f0)) ∧ w'.cell? ⟨(ad135.add ((x4_1).toNat * 3)).block, (ad135.add ((x4_1).toNat * 3)).off + 1, none⟩ = some (.int .i64 ((rd_T76 l0_3 x4_1).f1)) ∧ w'.cell? ⟨(ad135.add ((x4_1).toNat * 3)).block, (ad135.add ((x4_1).toNat * 3)).off + 2, none⟩ = some (.slice A135_2 ((rd_T76 l0_3 x4_1).f2).length c135_2)) (ds := [11]) #[false, false, false, false, false, false, false, false, false, false, false, false] (by kernel_rfl) rfl rfl ⟨cz BK134 0, cz BK134 1, cz BK134 2, cz BK134 3, cz BK134 4, cz BK132 0, cz BK132 1, cz BK132 2, cz BK132 3, cz BK132 4, (hc HB hw135_0 :), (hc HB hw135_1 :), (hc HB hw135_2 :)⟩ (fun hHeld => ?_); refine with_tabW touchstoneref5_leaf.tab5 touchstoneref5_leaf.bits5 (fun HT_ HW_ => ?_)
   generalize wr.drew = w17 at HO_135003 BK132 BK133 BK134 HB HR135_2 hx135_0 hx135_1 hx135_2 hHeld ⊢
   refine pu 0 19 (bA 12 1) HT_ rfl rfl ?_
   refine pu 2 21 (bA 12 5) HT_ rfl rfl ?_
   refine pu 4 23 (bA 12 21) HT_ rfl rfl ?_
   refine ta 1 20 (bA 12 23) HT_ HW_ rfl rfl hHeld ?_
   refine ta 3 22 (bA 12 31) HT_ HW_ rfl rfl hHeld ?_
   refine pu 5 24 (bA 12 63) HT_ rfl rfl ?_
   refine ta 6 25 (bA 12 127) HT_ HW_ rfl rfl hHeld ?_
   refine one_ (i := 7) (N := some 26) (bA 12 255) rfl rfl (one_of HT_.out (by kernel_rfl)) (by decide) (fun K hK => ?_)
   refine goes_ Try.func126 (by kernel_rfl) rfl #[.agg #[.int .i64 ((rd_T76 l0_3 x4_1).f0), .int .i64 ((rd_T76 l0_3 x4_1).f1), .slice A135_2 ((rd_T76 l0_3 x4_1).f2).length c135_2]] (by rfl) rfl rfl bl ?_
   with_reducible refine (touchstoneref4_Copy.calls k1 ((rd_T76 l0_3 x4_1).f0) ((rd_T76 l0_3 x4_1).f1) _ _ ((rd_T76 l0_3 x4_1).f2) t136 t137 t138 _ ?side1 ?side2 A12.out).mono ?_
   (case side1 => exact cr (Kd.C_below HR135_2.out HB.out))
   (case side2 => exact HC135_2.out)
   rintro e w18 ⟨v139, rfl, ho0, hb⟩
   refine ⟨_, rfl, ?_⟩
   have HO140 := aS (Kd.R_lower (Kd.R_new' ho0 (Kd.R_lt (kr_ HO_135003.out))) (below_size (hbk HB)))
   replace HO_135003 := aS (Kd.R_elder' (kr_ HO_135003.out) (Kd.R_base ho0) hb)
   replace BK132 := Bk BK132 hb
   replace BK133 := Bk BK133 hb
   replace BK134 := Bk BK134 hb
   replace HB := Hs HB hb
   (try clear hb)
   (try clear hb2)
   (try clear hk)
   (try clear hi)
   (try clear ho0)
   obtain ⟨Ao20, co20, eo20⟩ := Kd.R_slice HO140.out
   (first | subst eo20 | (injection eo20 with f1_ f2_ f3_; have f4_ := f1_.symm; have f5_ := f3_.symm; clear f1_ f2_ f3_; subst f4_; subst f5_))
   refine hK.out _ _ ⟨cz BK134 0, cz BK134 1, cz BK134 2, cz BK134 3, cz BK134 4, cz BK132 0, cz BK132 1, cz BK132 2, cz BK132 3, cz BK132 4, (hc HB hw135_0 :), (hc HB hw135_1 :), (hc HB hw135_2 :)⟩ (fun hHeld => ?_)
   clear hK K
   refine norm_ ap ?_
   refine one_ (i := 8) (N := some 27) (bA 12 511) rfl rfl (one_of HT_.out (by kernel_rfl)) (by decide) (fun K hK => ?_)
   refine value_ (w1 := ?_) (v := ?_) (by rfl) rfl ?_ ?_
   rotate_left 2
   ·go_simp
    constructor
    ·rfl
    ·rfl
   refine hK.out _ _ ⟨(blk_cell (blk_alloc BK134.out _) 0).trans rfl, (blk_cell (blk_alloc BK134.out _) 1).trans rfl, (blk_cell (blk_alloc BK134.out _) 2).trans rfl, (blk_cell (blk_alloc BK134.out _) 3).trans rfl, (blk_cell (blk_alloc BK134.out _) 4).trans rfl, (blk_cell (blk_alloc BK132.out _) 0).trans rfl, (blk_cell (blk_alloc BK132.out _) 1).trans rfl, (blk_cell (blk_alloc BK132.out _) 2).trans rfl, (blk_cell (blk_alloc BK132.out _) 3).trans rfl, (blk_cell (blk_alloc BK132.out _) 4).trans rfl, (World.cell?_alloc_lt _ _ _ (World.block_lt_of_cell? _ _ ((hc HB hw135_0 :)))).trans ((hc HB hw135_0 :)), (World.cell?_alloc_lt _ _ _ (World.block_lt_of_cell? _ _ ((hc HB hw135_1 :)))).trans ((hc HB hw135_1 :)), (World.cell?_alloc_lt _ _ _ (World.block_lt_of_cell? _ _ ((hc HB hw135_2 :)))).trans ((hc HB hw135_2 :))⟩ (fun hHeld => ?_)
   clear hK K
   refine norm_ ap ?_
   refine one_ (i := 9) (N := some 28) (bA 12 1023) rfl rfl (one_of HT_.out (by kernel_rfl)) (by decide) (fun K hK => ?_)
   refine Kd.R_append_step k76 (w0 := w) w.heap.size (by rfl) (.tmp 20) (.tmp 27) 25 76 (.agg #[(.int .i64 0), (.int .i64 0), (.slice none 0 0)]) 40 rfl Try.underlying25 info76 rfl (by decide) (by omega) u135003 x135003_1 (⟨t136, t137, t138⟩ : S76) [.int .i64 t136, .int .i64 t137, .slice Ao20 t138.length co20] (fun _ => True) (fun k_ => ((fun _ => True)) k_ ∧ some k_ ≠ (u135003 : Value).ownBlock) rfl rfl ?aP (fun _ hk => hk) ?aF ?aO ?aB ?aS ?aL ?_
   (case aP => exact k76_mkM _ _ _ (⟨t136, t137, t138⟩ : S76) (Kd.R_mono (HO140.out) (fun k_ hk => ⟨trivial, hk.2⟩)))
   (case aB => exact (hbk HB))
   (case aF => exact (fun _ _ => trivial))
   (case aO => exact (by (with_reducible repeat (first | apply Kd.R_alloc | apply Kd.R_drewN | apply Kd.R_drew)); exact Kd.R_mono HO_135003.out (fun _ hk => trivial)))
   (case aS => exact (below_size (hbk HB)))
   (case aL => have := LMc13.out; omega)
   intro v142 w19 ho hb hg hat
   rw [← Ny141.out] at ho
   replace BK132 := aS (blk_grown (bkw BK132) hg (Kd.R_ne HO_135003.out BK132.out (by decide)))
   replace BK133 := aS (blk_grown (bkw BK133) hg (Kd.R_ne HO_135003.out BK133.out (by decide)))
   replace BK134 := aS (blk_grown (bkw BK134) hg (Kd.R_ne HO_135003.out BK134.out (by decide)))
   replace HB := aS (hb)
   have HO143 := aS (ho)
   clear HO_135003 HO140
   clear ho hb hg hat
   obtain ⟨Ao21, co21, eo21⟩ := Kd.R_slice HO143.out
   (first | subst eo21 | (injection eo21 with f1_ f2_ f3_; have f4_ := f1_.symm; have f5_ := f3_.symm; clear f1_ f2_ f3_; subst f4_; subst f5_))
   refine hK.out _ _ ⟨cz BK134 0, cz BK134 1, cz BK134 2, cz BK134 3, cz BK134 4, cz BK132 0, cz BK132 1, cz BK132 2, cz BK132 3, cz BK132 4, (hc HB hw135_0 :), (hc HB hw135_1 :), (hc HB hw135_2 :)⟩ (fun hHeld => ?_)
   clear hK K
   refine norm_ ap ?_
   refine pu 10 29 (bA 12 2047) HT_ rfl rfl ?_
   refine last_ (i := 11) (N := none) (bA 12 4095) rfl rfl (one_of HT_.out (by kernel_rfl)) (by decide) (fun K hK => ?_)
   have hs22 : w19.cell? ⟨gb134, 3, none⟩ = some (u135003) := cz BK134 3
   have hfs22 := blk_frozen BK134.out 3
   have hns22_0 := NB132_134.out
   have hns22_1 := NB133_134.out
   have hms22_0 := NB134_132.out
   have hms22_1 := NB134_133.out
   refine skip_ (w1 := ?_) (by rfl) rfl ?_ ?_
   rotate_left
   ·go_simp
    rfl
   refine hK.out _ _ ?_
   clear hK K
   refine done_ (done_of HT_.out (by kernel_rfl)) ?_
   try go_wp2
   go_roundg k1
   case measure => have := HK1.out; omega
   case rel => exact ⟨(wrap64 (x4_1 + 1)), (y141), (.slice Ao21 y141.length co21), br, H', ⟨by have := HK1.out; omega⟩, ⟨by (with_reducible repeat (first | apply Kd.R_alloc | apply Kd.R_drewN | apply Kd.R_drew)); exact Kd.R_mono (Kd.R_far (p := ⟨gb134, 3, none⟩) (Kd.R_types HO143.out BK134.out (by decide)) (fun _ hk => hk.2) (.slice Ao21 y141.length co21)) (fun _ hk => trivial)⟩, ⟨by (with_reducible repeat (first | refine blk_drewN ?_ _ | refine blk_drew ?_ | refine blk_alloc ?_ _)); refine blk_far ?_ NB132_134.out _; (with_reducible repeat (first | refine blk_drewN ?_ _ | refine blk_drew ?_ | refine blk_alloc ?_ _)); exact BK132.out⟩, ⟨by (with_reducible repeat (first | refine blk_drewN ?_ _ | refine blk_drew ?_ | refine blk_alloc ?_ _)); refine blk_far ?_ NB133_134.out _; (with_reducible repeat (first | refine blk_drewN ?_ _ | refine blk_drew ?_ | refine blk_alloc ?_ _)); exact BK133.out⟩, ⟨by (with_reducible repeat (first | refine blk_drewN ?_ _ | refine blk_drew ?_ | refine blk_alloc ?_ _)); refine blk_put (cs := #[.int .i64 a0_0, .int .i64 a0_1, .string a0_2, u135003, .slice none 0 0]) ?_ 3 _ rfl; (with_reducible repeat (first | refine blk_drewN ?_ _ | refine blk_drew ?_ | refine blk_alloc ?_ _)); exact BK134.out⟩, ⟨hbk HB⟩⟩
def touchstoneref5_Binds.f (a0 : Int) (a1 : Int) : Option (Int) := if a0 = 4 then (if a1 = 1 then (some 1) else (if a0 = 6 then (if a1 = 2 then (some 1) else (some 0)) else (some 0))) else (if a0 = 5 then (if a1 = 1 then (some 1) else (if a0 = 6 then (if a1 = 2 then (some 1) else (some 0)) else (some 0))) else (if a0 = 6 then (if a1 = 2 then (some 1) else (some 0)) else (some 0)))
set_option maxHeartbeats 8000000 in
set_option maxRecDepth 100000 in
theorem touchstoneref5_Binds.calls (a0 : Int) (a1 : Int) (r : Int) (w : World) (h : touchstoneref5_Binds.f a0 a1 = some r) :
  Calls Try.prog 107 #[.int .i64 a0, .int .i64 a1] w fun e w' => e = .returned (.int .i64 r) ∧ Drawn0 w w' := by
 have H : (if a0 = 4 then (if a1 = 1 then (some 1) else (if a0 = 6 then (if a1 = 2 then (some 1) else (some 0)) else (some 0))) else (if a0 = 5 then (if a1 = 1 then (some 1) else (if a0 = 6 then (if a1 = 2 then (some 1) else (some 0)) else (some 0))) else (if a0 = 6 then (if a1 = 2 then (some 1) else (some 0)) else (some 0)))) = some r := h
 clear h
 by_cases c3 : a0 = 4
 ·rw [if_pos c3] at H
  have c3b0 : (a0 == 4) = true := beq_iff_eq.mpr c3
  have c3b1 : (a0 != 4) = false := bne_eq_false_iff_eq.mpr c3
  clear c3
  by_cases c4 : a1 = 1
  ·rw [if_pos c4] at H
   have c4b0 : (a1 == 1) = true := beq_iff_eq.mpr c4
   have c4b1 : (a1 != 1) = false := bne_eq_false_iff_eq.mpr c4
   clear c4
   obtain rfl := Option.some.inj H
   go_enter Try.func107, Try.ntmps107
   go_wp2
   go_ret
   exact ⟨by first | rfl | (simp; done) | (simp [*]; done), by repeat (first | exact Drawn0.refl _ | apply Drawn0.step)⟩
  rw [if_neg c4] at H
  have c4b0 : (a1 == 1) = false := beq_eq_false_iff_ne.mpr c4
  have c4b1 : (a1 != 1) = true := bne_iff_ne.mpr c4
  by_cases c5 : a0 = 6
  rotate_left
  ·rw [if_neg c5] at H
   have c5b0 : (a0 == 6) = false := beq_eq_false_iff_ne.mpr c5
   have c5b1 : (a0 != 6) = true := bne_iff_ne.mpr c5
   obtain rfl := Option.some.inj H
   go_enter Try.func107, Try.ntmps107
   go_wp2
   go_ret
   exact ⟨by first | rfl | (simp; done) | (simp [*]; done), by repeat (first | exact Drawn0.refl _ | apply Drawn0.step)⟩
  rw [if_pos c5] at H
  have c5b0 : (a0 == 6) = true := beq_iff_eq.mpr c5
  have c5b1 : (a0 != 6) = false := bne_eq_false_iff_eq.mpr c5
  clear c5
  by_cases c6 : a1 = 2
  rotate_left
  ·rw [if_neg c6] at H
   have c6b0 : (a1 == 2) = false := beq_eq_false_iff_ne.mpr c6
   have c6b1 : (a1 != 2) = true := bne_iff_ne.mpr c6
   obtain rfl := Option.some.inj H
   go_enter Try.func107, Try.ntmps107
   go_wp2
   go_ret
   exact ⟨by first | rfl | (simp; done) | (simp [*]; done), by repeat (first | exact Drawn0.refl _ | apply Drawn0.step)⟩
  rw [if_pos c6] at H
  have c6b0 : (a1 == 2) = true := beq_iff_eq.mpr c6
  have c6b1 : (a1 != 2) = false := bne_eq_false_iff_eq.mpr c6
  clear c6
  obtain rfl := Option.some.inj H
  go_enter Try.func107, Try.ntmps107
  go_wp2
  go_ret
  exact ⟨by first | rfl | (simp; done) | (simp [*]; done), by repeat (first | exact Drawn0.refl _ | apply Drawn0.step)⟩
 rw [if_neg c3] at H
 have c3b0 : (a0 == 4) = false := beq_eq_false_iff_ne.mpr c3
 have c3b1 : (a0 != 4) = true := bne_iff_ne.mpr c3
 by_cases c7 : a0 = 5
 rotate_left
 ·rw [if_neg c7] at H
  have c7b0 : (a0 == 5) = false := beq_eq_false_iff_ne.mpr c7
  have c7b1 : (a0 != 5) = true := bne_iff_ne.mpr c7
  by_cases c11 : a0 = 6
  rotate_left
  ·rw [if_neg c11] at H
   have c11b0 : (a0 == 6) = false := beq_eq_false_iff_ne.mpr c11
   have c11b1 : (a0 != 6) = true := bne_iff_ne.mpr c11
   obtain rfl := Option.some.inj H
   go_enter Try.func107, Try.ntmps107
   go_wp2
   go_ret
   exact ⟨by first | rfl | (simp; done) | (simp [*]; done), by repeat (first | exact Drawn0.refl _ | apply Drawn0.step)⟩
  rw [if_pos c11] at H
  have c11b0 : (a0 == 6) = true := beq_iff_eq.mpr c11
  have c11b1 : (a0 != 6) = false := bne_eq_false_iff_eq.mpr c11
  clear c11
  by_cases c12 : a1 = 2
  rotate_left
  ·rw [if_neg c12] at H
   have c12b0 : (a1 == 2) = false := beq_eq_false_iff_ne.mpr c12
   have c12b1 : (a1 != 2) = true := bne_iff_ne.mpr c12
   obtain rfl := Option.some.inj H
   go_enter Try.func107, Try.ntmps107
   go_wp2
   go_ret
   exact ⟨by first | rfl | (simp; done) | (simp [*]; done), by repeat (first | exact Drawn0.refl _ | apply Drawn0.step)⟩
  rw [if_pos c12] at H
  have c12b0 : (a1 == 2) = true := beq_iff_eq.mpr c12
  have c12b1 : (a1 != 2) = false := bne_eq_false_iff_eq.mpr c12
  clear c12
  obtain rfl := Option.some.inj H
  go_enter Try.func107, Try.ntmps107
  go_wp2
  go_ret
  exact ⟨by first | rfl | (simp; done) | (simp [*]; done), by repeat (first | exact Drawn0.refl _ | apply Drawn0.step)⟩
 rw [if_pos c7] at H
 have c7b0 : (a0 == 5) = true := beq_iff_eq.mpr c7
 have c7b1 : (a0 != 5) = false := bne_eq_false_iff_eq.mpr c7
 clear c7
 by_cases c8 : a1 = 1
 ·rw [if_pos c8] at H
  have c8b0 : (a1 == 1) = true := beq_iff_eq.mpr c8
  have c8b1 : (a1 != 1) = false := bne_eq_false_iff_eq.mpr c8
  clear c8
  obtain rfl := Option.some.inj H
  go_enter Try.func107, Try.ntmps107
  go_wp2
  go_ret
  exact ⟨by first | rfl | (simp; done) | (simp [*]; done), by repeat (first | exact Drawn0.refl _ | apply Drawn0.step)⟩
 rw [if_neg c8] at H
 have c8b0 : (a1 == 1) = false := beq_eq_false_iff_ne.mpr c8
 have c8b1 : (a1 != 1) = true := bne_iff_ne.mpr c8
 by_cases c9 : a0 = 6
 rotate_left
 ·rw [if_neg c9] at H
  have c9b0 : (a0 == 6) = false := beq_eq_false_iff_ne.mpr c9
  have c9b1 : (a0 != 6) = true := bne_iff_ne.mpr c9
  obtain rfl := Option.some.inj H
  go_enter Try.func107, Try.ntmps107
  go_wp2
  go_ret
  exact ⟨by first | rfl | (simp; done) | (simp [*]; done), by repeat (first | exact Drawn0.refl _ | apply Drawn0.step)⟩
 rw [if_pos c9] at H
 have c9b0 : (a0 == 6) = true := beq_iff_eq.mpr c9
 have c9b1 : (a0 != 6) = false := bne_eq_false_iff_eq.mpr c9
 clear c9
 by_cases c10 : a1 = 2
 rotate_left
 ·rw [if_neg c10] at H
  have c10b0 : (a1 == 2) = false := beq_eq_false_iff_ne.mpr c10
  have c10b1 : (a1 != 2) = true := bne_iff_ne.mpr c10
  obtain rfl := Option.some.inj H
  go_enter Try.func107, Try.ntmps107
  go_wp2
  go_ret
  exact ⟨by first | rfl | (simp; done) | (simp [*]; done), by repeat (first | exact Drawn0.refl _ | apply Drawn0.step)⟩
 rw [if_pos c10] at H
 have c10b0 : (a1 == 2) = true := beq_iff_eq.mpr c10
 have c10b1 : (a1 != 2) = false := bne_eq_false_iff_eq.mpr c10
 clear c10
 obtain rfl := Option.some.inj H
 go_enter Try.func107, Try.ntmps107
 go_wp2
 go_ret
 exact ⟨by first | rfl | (simp; done) | (simp [*]; done), by repeat (first | exact Drawn0.refl _ | apply Drawn0.step)⟩
end Go.Proofs.Ytpejhapgffcngaa.QK

