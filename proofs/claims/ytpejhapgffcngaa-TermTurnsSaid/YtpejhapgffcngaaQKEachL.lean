/- term's each at Lift's closure. -/
import Derived.Test.YtpejhapgffcngaaXShort
import Derived.Test.YtpejhapgffcngaaQKLeaf
set_option linter.unusedVariables false
set_option linter.unusedSimpArgs false
namespace Go.Proofs.Ytpejhapgffcngaa.QK
open Go.RowKit Go.Proofs.YtpejhapgffcngaaW.PrintWords Go.Proofs.YtpejhapgffcngaaW.PrintLast Go.Proofs.YtpejhapgffcngaaW.PrintMore
attribute [local go_sem] max2_int min2_int max_two min_two max_three min_three max_four min_four
mutual
def eachL.l0 : Nat → Int → LC → List (S27) → List (S27) → Int → Int → Int → Int → ByteArray → List (S76) → List (S27) → Option (Int × Int × ByteArray × (List (S76)) × (List (S27)))
 | 0, _, _, _, _, _, _, _, _, _, _, _ => none
 | k + 1, x1, x2, x7, x18, x19, x20, x143000, x143001, x143002, x143003, x143004 => if x20 < x19 then (if 0 ≤ x20 then (if x20 < (x18.length : Int) then ((term_binds.f x143000 x20).bind fun t155 => ((eachL.f k ((rd_T27 x18 x20).f0) ((rd_T27 x18 x20).f1) ((rd_T27 x18 x20).f2) ((rd_T27 x18 x20).f3) ((rd_T27 x18 x20).f4) (wrap64 (x1 + t155)) x2).bind fun bt156 => (if x7.length < 1759218604441 then (eachL.l0 k x1 x2 (x7 ++ [(⟨bt156.1, bt156.2.1, bt156.2.2.1, bt156.2.2.2.1, bt156.2.2.2.2⟩ : S27)]) x18 x19 (wrap64 (x20 + 1)) x143000 x143001 x143002 x143003 x143004) else (none)))) else (none)) else (none)) else ((term_levels.f k x143003 ([] : List (S76))).bind fun t168 => (some (x143000, x143001, x143002, t168, x7)))
def eachL.f : Nat → Int → Int → ByteArray → List (S76) → List (S27) → Int → LC → Option (Int × Int × ByteArray × (List (S76)) × (List (S27)))
 | 0, _, _, _, _, _, _, _ => none
 | k + 1, a0_0, a0_1, a0_2, l0_3, l0_4, a1, a2 => if a0_0 = 0 then ((liftLeaf.f k a0_0 a0_1 a0_2 l0_3 l0_4 a1 a2).bind fun bt144 => (some (bt144.1, bt144.2.1, bt144.2.2.1, bt144.2.2.2.1, bt144.2.2.2.2))) else (eachL.l0 k a1 a2 ([] : List (S27)) l0_4 (l0_4.length : Int) 0 a0_0 a0_1 a0_2 l0_3 l0_4)
end
def eachL.T7 : Bool × List (List Nat × List Nat) := (true, [([], []), ([], []), ([], []), ([], []), ([3], [3]), ([], []), ([4, 5], [4, 5]), ([2, 6], [2, 6]), ([], []), ([1, 7, 8, 6], [1, 7, 8]), ([9], [9]), ([0, 10, 9], [0, 10]), ([11, 11, 0, 1, 2, 3, 4, 5, 6, 7, 8, 9, 10, 11], [0, 11])])
def eachL.B7 : List Nat := [0, 0, 0, 0, 8, 0, 56, 124, 0, 510, 1022, 2047, 4095]
theorem eachL.tab7 : rtab .any (opsOf Try.f88 7) = eachL.T7 := by kernel_rfl
theorem eachL.bits7 : waitsOk eachL.T7.2 eachL.B7 = true := by kernel_rfl
set_option maxHeartbeats 8000000 in
set_option maxRecDepth 100000 in
theorem eachL.calls (k : Nat) : ∀ (a0_0 : Int) (a0_1 : Int) (a0_2 : ByteArray) (A0_3 : Option Addr) (c0_3 : Nat) (l0_3 : List (S76)) (A0_4 : Option Addr) (c0_4 : Nat) (l0_4 : List (S27)) (a1 : Int) (a2 : LC) (r1 : Int) (r2 : Int) (r3 : ByteArray) (r4 : List (S76)) (r5 : List (S27)) (w : World) (hlaid : LC.ok a2 w) (hr0_3 : Kd.C k76 w A0_3 l0_3.length l0_3) (hc0_3 : l0_3.length ≤ c0_3) (hr0_4 : Kd.C k27 w A0_4 l0_4.length l0_4) (hc0_4 : l0_4.length ≤ c0_4) (h : eachL.f k a0_0 a0_1 a0_2 l0_3 l0_4 a1 a2 = some (r1, r2, r3, r4, r5)),
  Calls Try.prog 88 #[.agg #[.int .i64 a0_0, .int .i64 a0_1, .string a0_2, .slice A0_3 l0_3.length c0_3, .slice A0_4 l0_4.length c0_4], .int .i64 a1, .func (.func 89) #[] #[.pointer (some ⟨a2.bf, 0, none⟩), .pointer (some ⟨a2.bb, 0, none⟩)]] w fun e w' => ∃ v3_ v4_ : Value, e = .returned (.agg #[.int .i64 r1, .int .i64 r2, .string r3, v3_, v4_]) ∧ Kd.R k76 76 w' w.heap.size (fun _ => True) v3_ r4 ∧ Kd.R k27 27 w' w.heap.size (fun k_ => some k_ ≠ (v3_ : Value).ownBlock) v4_ r5 ∧ Below w.heap.size w w' := by
 induction k using Nat.strongRecOn with
 | _ k ih =>
 intro a0_0 a0_1 a0_2 A0_3 c0_3 l0_3 A0_4 c0_4 l0_4 a1 a2 r1 r2 r3 r4 r5 w hlaid hr0_3 hc0_3 hr0_4 hc0_4 h
 cases k with
 | zero => exact absurd h (by simp [eachL.f])
 | succ k =>
 simp only [eachL.f] at h
 have hu27 := Try.underlying27
 have HR0_3 := aS hr0_3
 have HC0_3 := aS hc0_3
 clear hr0_3 hc0_3
 have HR0_4 := aS hr0_4
 have HC0_4 := aS hc0_4
 clear hr0_4 hc0_4
 have HB := aS (Below.refl w.heap.size w)
 have HLD : Aside0 (∀ W : World, Below w.heap.size w W → LC.ok a2 W) := ⟨fun W hW => LC.ok.below hlaid hW⟩
 clear hlaid
 have H : (if a0_0 = 0 then ((liftLeaf.f k a0_0 a0_1 a0_2 l0_3 l0_4 a1 a2).bind fun bt144 => (some (bt144.1, bt144.2.1, bt144.2.2.1, bt144.2.2.2.1, bt144.2.2.2.2))) else (eachL.l0 k a1 a2 ([] : List (S27)) l0_4 (l0_4.length : Int) 0 a0_0 a0_1 a0_2 l0_3 l0_4)) = some (r1, r2, r3, r4, r5) := h
 clear h
 by_cases c4 : a0_0 = 0
 ·rw [if_pos c4] at H
  have c4b0 : (a0_0 == 0) = true := beq_iff_eq.mpr c4
  have c4b1 : (a0_0 != 0) = false := bne_eq_false_iff_eq.mpr c4
  clear c4
  replace H := Option.bind_eq_some_iff.mp H
  obtain ⟨⟨t144, t145, t146, t147, t150⟩, A50, H⟩ := H
  try dsimp only at H
  have A5 := aS A50
  clear A50
  simp only [Option.some.injEq, Prod.mk.injEq] at H
  obtain ⟨rfl, rfl, rfl, rfl, rfl⟩ := H
  go_enter Try.func88, Try.ntmps88
  go_wp2_with (first | ((with_reducible refine gate_dst (N := 3) rfl ?_); refine bx (N := 3) (t := 27) #[.int .i64 a0_0, .int .i64 a0_1, .string a0_2, .slice A0_3 l0_3.length c0_3, .slice A0_4 l0_4.length c0_4] ?_; intro gb142 hg w6 hbox hb; have BK142 := aS (hbox); have GW142 := Gz hg HB; have GE142 := Gz hg HB; replace HB := Hs HB hb; clear hb hbox hg) | ((with_reducible refine gate_dst (N := 6) rfl ?_); refine bx (N := 6) (t := 27) #[.int .i64 0, .int .i64 0, .string (⟨#[]⟩ : ByteArray), .slice none 0 0, .slice none 0 0] ?_; intro gb143 hg w7 hbox hb; have BK143 := aS (hbox); have GW143 := Gz hg HB; have GE143 := Gz hg HB; replace HB := Hs HB hb; have NB142_143 := aS ((by rw [hg]; exact Nat.ne_of_lt (blk_lt (bkw BK142)) : gb142 ≠ gb143)); have NB143_142 := aS ((by rw [hg]; exact Nat.ne_of_gt (blk_lt (bkw BK142)) : gb143 ≠ gb142)); replace BK142 := Bk BK142 hb; clear hb hbox hg; have hnb8 := NB142_143.out; have hnc8 := NB143_142.out; obtain ⟨hcz9_0, hcz9_1, hcz9_2, hcz9_3, hcz9_4⟩ := cl5 BK142; obtain ⟨hfz9_0, hfz9_1, hfz9_2, hfz9_3, hfz9_4⟩ := fz5 BK142) | (go_at_call 89; (with_reducible refine (liftLeaf.calls k a0_0 a0_1 a0_2 _ _ l0_3 _ _ l0_4 a1 a2 t144 t145 t146 t147 t150 _ (HLD.out _ (hbk HB)) ?side1 ?side2 ?side3 ?side4 A5.out).mono ?_); (case side1 => exact cr (Kd.C_below HR0_3.out HB.out)); (case side2 => exact HC0_3.out); (case side3 => exact cr (Kd.C_below HR0_4.out HB.out)); (case side4 => exact HC0_4.out); rintro e w10 ⟨v148, v151, rfl, ho0, ho1, hb⟩; have HO149 := aS (Kd.R_lower ho0 (below_size (hbk HB))); have HO152 := aS (Kd.R_lower (Kd.R_newB (Kd.R_newB ho1 (bkw BK142)) (bkw BK143)) (below_size (hbk HB))); replace BK142 := Bk BK142 hb; replace BK143 := Bk BK143 hb; replace HB := Hs HB hb; (try clear hb); (try clear hb2); (try clear hk); (try clear hi); (try clear ho0); (try clear ho1); obtain ⟨hcz11_0, hcz11_1, hcz11_2, hcz11_3, hcz11_4⟩ := cl5 BK143; obtain ⟨hfz11_0, hfz11_1, hfz11_2, hfz11_3, hfz11_4⟩ := fz5 BK143; obtain ⟨Ao12, co12, eo12⟩ := Kd.R_slice HO149.out; subst eo12; obtain ⟨Ao13, co13, eo13⟩ := Kd.R_slice HO152.out; subst eo13))
  refine bodyPost_ret (results_cell_row rfl _ _ gb143 27 #[.int .i64 t144, .int .i64 t145, .string t146, .slice Ao12 t147.length co12, .slice Ao13 t150.length co13] (0, 0) _ rfl (bp5 BK143.out) Try.underlying27 rfl (by kernel_rfl)) rfl ?_
  exact ⟨_, _, by first | rfl | (simp [errW_none, errW_some] <;> rfl) | (simp [*, errW_none, errW_some] <;> rfl), by (with_reducible repeat (first | apply Kd.R_alloc | apply Kd.R_drewN | apply Kd.R_drew)); exact Kd.R_mono (R5 (g := gb143) (Kd.R_types HO149.out BK143.out (by decide)) (fun _ hk => hk.2)) (fun _ hk => trivial), by (with_reducible repeat (first | apply Kd.R_alloc | apply Kd.R_drewN | apply Kd.R_drew)); exact Kd.R_mono (R5 (g := gb143) (Kd.R_mono HO152.out (fun k_ hk => (⟨hk, hk.2⟩ : _ ∧ k_ ≠ gb143))) (fun _ hk => hk.2)) (fun _ hk => hk.1.1.1), hbk HB⟩
 rw [if_neg c4] at H
 have c4b0 : (a0_0 == 0) = false := beq_eq_false_iff_ne.mpr c4
 have c4b1 : (a0_0 != 0) = true := bne_iff_ne.mpr c4
 have H' := aS H
 clear H
 go_enter Try.func88, Try.ntmps88
 go_wp2_with (first | ((with_reducible refine gate_dst (N := 3) rfl ?_); refine bx (N := 3) (t := 27) #[.int .i64 a0_0, .int .i64 a0_1, .string a0_2, .slice A0_3 l0_3.length c0_3, .slice A0_4 l0_4.length c0_4] ?_; intro gb142 hg w14 hbox hb; have BK142 := aS (hbox); have GW142 := Gz hg HB; have GE142 := Gz hg HB; replace HB := Hs HB hb; clear hb hbox hg) | ((with_reducible refine gate_dst (N := 6) rfl ?_); refine bx (N := 6) (t := 27) #[.int .i64 0, .int .i64 0, .string (⟨#[]⟩ : ByteArray), .slice none 0 0, .slice none 0 0] ?_; intro gb143 hg w15 hbox hb; have BK143 := aS (hbox); have GW143 := Gz hg HB; have GE143 := Gz hg HB; replace HB := Hs HB hb; have NB142_143 := aS ((by rw [hg]; exact Nat.ne_of_lt (blk_lt (bkw BK142)) : gb142 ≠ gb143)); have NB143_142 := aS ((by rw [hg]; exact Nat.ne_of_gt (blk_lt (bkw BK142)) : gb143 ≠ gb142)); replace BK142 := Bk BK142 hb; clear hb hbox hg; have hnb16 := NB142_143.out; have hnc16 := NB143_142.out; obtain ⟨hcz17_0, hcz17_1, hcz17_2, hcz17_3, hcz17_4⟩ := cl5 BK142; obtain ⟨hfz17_0, hfz17_1, hfz17_2, hfz17_3, hfz17_4⟩ := fz5 BK142))
 go_loopg [7, 20] k (fun kq v7 v20 w' => ∃ (x7_1 : List (S27)) (x20_1 : Int), v20 = .int .i64 x20_1 ∧ Aside0 (eachL.l0 kq a1 a2 x7_1 l0_4 (l0_4.length : Int) x20_1 a0_0 a0_1 a0_2 l0_3 l0_4 = some (r1, r2, r3, r4, r5)) ∧ Aside0 (kq ≤ k) ∧ Aside0 (Kd.R k27 27 w' w.heap.size (fun k_ => k_ ≠ gb142 ∧ k_ ≠ gb143) v7 x7_1) ∧ Aside0 (w'.heap[gb142]? = some (.cells #[.int .i64 a0_0, .int .i64 a0_1, .string a0_2, (.slice A0_3 l0_3.length c0_3), (.slice A0_4 l0_4.length c0_4)] 27 (0, 0))) ∧ Aside0 (w'.heap[gb143]? = some (.cells #[.int .i64 0, .int .i64 0, .string (⟨#[]⟩ : ByteArray), (.slice none 0 0), (.slice none 0 0)] 27 (0, 0))) ∧ Aside0 (Below w.heap.size w w'))
 case atStart => exact ⟨(([] : List (S27))), (0), br, H', ⟨Nat.le_refl _⟩, ⟨by first | exact Kd.R_nil _ _ _ _ _ | exact Kd.N_nil _ _ _ _ _ | exact Kd.V_nil _ _ _ _ _ | exact Kd.Q_nil _ _ _ _ _ | exact Kd.S_nil _ _ _ _ _⟩, ⟨bk BK142.out⟩, ⟨bk BK143.out⟩, ⟨hbk HB⟩⟩
 case round =>
  clear H'
  try clear c1
  try clear p2
  try clear c4
  try clear c4b0
  try clear c4b1
  try clear c8
  try clear c9
  try clear c16
  try clear hcz11_0 hcz11_1 hcz11_2 hcz11_3 hcz11_4
  try clear hcz17_0 hcz17_1 hcz17_2 hcz17_3 hcz17_4
  try clear hcz9_0 hcz9_1 hcz9_2 hcz9_3 hcz9_4
  try clear hfz11_0 hfz11_1 hfz11_2 hfz11_3 hfz11_4
  try clear hfz17_0 hfz17_1 hfz17_2 hfz17_3 hfz17_4
  try clear hfz9_0 hfz9_1 hfz9_2 hfz9_3 hfz9_4
  obtain ⟨x7_1, x20_1, rfl, HA, HK1, HO_7, BK142, BK143, HB⟩ := hrel
  cases gk with
  | zero => exact absurd HA.out (by simp [eachL.l0])
  | succ k1 =>
   have H := HA.out
   clear HA
   simp only [eachL.l0] at H
   by_cases c18 : x20_1 < (l0_4.length : Int)
   rotate_left
   ·rw [if_neg c18] at H
    have c18b0 : decide (x20_1 < (l0_4.length : Int)) = false := decide_eq_false c18
    clear c18
    replace H := Option.bind_eq_some_iff.mp H
    obtain ⟨t168, A340, H⟩ := H
    try dsimp only at H
    have A34 := aS A340
    clear A340
    simp only [Option.some.injEq, Prod.mk.injEq] at H
    obtain ⟨rfl, rfl, rfl, rfl, rfl⟩ := H
    have hnb35 := NB142_143.out
    have hnc35 := NB143_142.out
    obtain ⟨hcz36_0, hcz36_1, hcz36_2, hcz36_3, hcz36_4⟩ := cl5 BK142
    obtain ⟨hfz36_0, hfz36_1, hfz36_2, hfz36_3, hfz36_4⟩ := fz5 BK142
    go_wp2_with (first | ((with_reducible refine gate_callee (f := 100) rfl ?_); refine goesL_ (some 41) rfl rfl Try.func100 (by kernel_rfl) rfl #[.slice A0_3 l0_3.length c0_3, .slice none 0 0] rfl bl ?_; (refine (term_levels.calls k1 _ _ l0_3 _ _ ([] : List (S76)) t168 _ ?side1 ?side2 ?side3 ?side4 A34.out).mono ?_); (case side1 => exact cr (Kd.C_below HR0_3.out HB.out)); (case side2 => exact HC0_3.out); (case side3 => exact Kd.C_nil _ _); (case side4 => exact Nat.le_refl _); rintro e w37 ⟨v169, rfl, ho0, hb⟩; refine ⟨_, rfl, ?_⟩; replace HO_7 := aS (Kd.R_elder' (kr_ HO_7.out) (Kd.R_base ho0) hb); have HO170 := aS (Kd.R_lower ho0 (below_size (hbk HB))); replace BK142 := Bk BK142 hb; replace BK143 := Bk BK143 hb; replace HB := Hs HB hb; (try clear hb); (try clear hb2); (try clear hk); (try clear hi); (try clear ho0); obtain ⟨Ao38, co38, eo38⟩ := Kd.R_slice HO_7.out; subst eo38; obtain ⟨hcz39_0, hcz39_1, hcz39_2, hcz39_3, hcz39_4⟩ := cl5 BK142; obtain ⟨hfz39_0, hfz39_1, hfz39_2, hfz39_3, hfz39_4⟩ := fz5 BK142; obtain ⟨Ao40, co40, eo40⟩ := Kd.R_slice HO170.out; subst eo40; obtain ⟨hcz41_0, hcz41_1, hcz41_2, hcz41_3, hcz41_4⟩ := cl5 BK143; obtain ⟨hfz41_0, hfz41_1, hfz41_2, hfz41_3, hfz41_4⟩ := fz5 BK143))
    refine bodyPost_ret (results_cell_row rfl _ _ gb143 27 #[.int .i64 a0_0, .int .i64 a0_1, .string a0_2, .slice Ao40 t168.length co40, .slice Ao38 x7_1.length co38] (0, 0) _ rfl (by (with_reducible repeat (first | refine blk_drewN ?_ _ | refine blk_drew ?_ | refine blk_alloc ?_ _)); refine blk_put (cs := #[.int .i64 a0_0, .int .i64 a0_1, .string a0_2, .slice Ao40 t168.length co40, .slice none 0 0]) ?_ 4 _ rfl; (with_reducible repeat (first | refine blk_drewN ?_ _ | refine blk_drew ?_ | refine blk_alloc ?_ _)); refine blk_put (cs := #[.int .i64 a0_0, .int .i64 a0_1, .string a0_2, .slice none 0 0, .slice none 0 0]) ?_ 3 _ rfl; (with_reducible repeat (first | refine blk_drewN ?_ _ | refine blk_drew ?_ | refine blk_alloc ?_ _)); refine blk_put (cs := #[.int .i64 a0_0, .int .i64 a0_1, .string (⟨#[]⟩ : ByteArray), .slice none 0 0, .slice none 0 0]) ?_ 2 _ rfl; (with_reducible repeat (first | refine blk_drewN ?_ _ | refine blk_drew ?_ | refine blk_alloc ?_ _)); refine blk_put (cs := #[.int .i64 a0_0, .int .i64 0, .string (⟨#[]⟩ : ByteArray), .slice none 0 0, .slice none 0 0]) ?_ 1 _ rfl; (with_reducible repeat (first | refine blk_drewN ?_ _ | refine blk_drew ?_ | refine blk_alloc ?_ _)); refine blk_put (cs := #[.int .i64 0, .int .i64 0, .string (⟨#[]⟩ : ByteArray), .slice none 0 0, .slice none 0 0]) ?_ 0 _ rfl; (with_reducible repeat (first | refine blk_drewN ?_ _ | refine blk_drew ?_ | refine blk_alloc ?_ _)); refine blk_far ?_ NB143_142.out _; (with_reducible repeat (first | refine blk_drewN ?_ _ | refine blk_drew ?_ | refine blk_alloc ?_ _)); refine blk_far ?_ NB143_142.out _; (with_reducible repeat (first | refine blk_drewN ?_ _ | refine blk_drew ?_ | refine blk_alloc ?_ _)); exact BK143.out) Try.underlying27 rfl (by kernel_rfl)) rfl ?_
    exact ⟨_, _, by first | rfl | (simp [errW_none, errW_some] <;> rfl) | (simp [*, errW_none, errW_some] <;> rfl), by (with_reducible repeat (first | apply Kd.R_alloc | apply Kd.R_drewN | apply Kd.R_drew)); exact Kd.R_mono (R5 (g := gb143) (Kd.R_far (p := ⟨gb142, 3, none⟩) (Kd.R_far (p := ⟨gb142, 4, none⟩) (Kd.R_types (Kd.R_types HO170.out BK142.out (by decide)) BK143.out (by decide)) (fun _ hk => hk.1.2) (.slice Ao38 x7_1.length co38)) (fun _ hk => hk.1.2) (.slice Ao40 t168.length co40)) (fun _ hk => hk.2)) (fun _ hk => trivial), by (with_reducible repeat (first | apply Kd.R_alloc | apply Kd.R_drewN | apply Kd.R_drew)); exact Kd.R_mono (R5 (g := gb143) (Kd.R_far (p := ⟨gb142, 3, none⟩) (Kd.R_far (p := ⟨gb142, 4, none⟩) (Kd.R_mono (Kd.R_mono HO_7.out (fun k_ hk => (⟨hk, hk.1.1⟩ : _ ∧ k_ ≠ gb142))) (fun k_ hk => (⟨hk, hk.1.1.2⟩ : _ ∧ k_ ≠ gb143))) (fun _ hk => hk.1.2) (.slice Ao38 x7_1.length co38)) (fun _ hk => hk.1.2) (.slice Ao40 t168.length co40)) (fun _ hk => hk.2)) (fun _ hk => hk.1.1.2), hbk HB⟩
   rw [if_pos c18] at H
   have c18b0 : decide (x20_1 < (l0_4.length : Int)) = true := decide_eq_true c18
   clear c18
   by_cases c19 : 0 ≤ x20_1
   rotate_left
   ·rw [if_neg c19] at H
    exact absurd H (by simp)
   rw [if_pos c19] at H
   have c19b0 : decide (0 ≤ x20_1) = true := decide_eq_true c19
   clear c19
   by_cases c20 : x20_1 < (l0_4.length : Int)
   rotate_left
   ·rw [if_neg c20] at H
    exact absurd H (by simp)
   rw [if_pos c20] at H
   have c20b0 : decide (x20_1 < (l0_4.length : Int)) = true := decide_eq_true c20
   clear c20
   replace H := Option.bind_eq_some_iff.mp H
   obtain ⟨t155, A210, H⟩ := H
   try dsimp only at H
   have A21 := aS A210
   clear A210
   replace H := Option.bind_eq_some_iff.mp H
   obtain ⟨⟨t156, t157, t158, t159, t162⟩, A220, H⟩ := H
   try dsimp only at H
   have A22 := aS A220
   clear A220
   by_cases c23 : x7_1.length < 1759218604441
   rotate_left
   ·rw [if_neg c23] at H
    exact absurd H (by simp)
   rw [if_pos c23] at H
   have LMc23 := aS c23
   clear c23
   obtain ⟨y165, hy165⟩ : ∃ y_ : List (S27), y_ = (x7_1 ++ [(⟨t156, t157, t158, t159, t162⟩ : S27)]) := ⟨_, rfl⟩
   replace H : (eachL.l0 k1 a1 a2 y165 l0_4 (l0_4.length : Int) (wrap64 (x20_1 + 1)) a0_0 a0_1 a0_2 l0_3 l0_4) = some (r1, r2, r3, r4, r5) := by first | (rw [hy165]; with_reducible exact H) | (have H2_ := (Option.bind_some _ _).symm.trans H; rw [hy165]; with_reducible exact H2_) | (have H2_ := (Option.bind_some _ _).symm.trans H; with_reducible exact H2_) | with_reducible exact H | (rw [hy165]; exact H) | exact H
   have Ny165 := aS hy165
   clear hy165
   have H' := aS H
   clear H
   have p153 : 0 ≤ (x20_1 : Int) := of_decide_eq_true ba
   have q153 : x20_1 < (l0_4.length : Int) := of_decide_eq_true ba
   obtain ⟨ad153, A153_3, c153_3, A153_4, c153_4, e153, hx153_0, hx153_1, hx153_2, hx153_3, hx153_4, hl153_3, hi153_3, hl153_4, hi153_4⟩ := at_T27 HR0_4.out x20_1 p153 q153
   cases e153
   replace hx153_0 := (hc HB hx153_0 :)
   replace hx153_1 := (hc HB hx153_1 :)
   replace hx153_2 := (hc HB hx153_2 :)
   replace hx153_3 := (hc HB hx153_3 :)
   replace hx153_4 := (hc HB hx153_4 :)
   have HR153_3 := aS hi153_3
   have HC153_3 := aS hl153_3
   clear hi153_3 hl153_3
   have HR153_4 := aS hi153_4
   have HC153_4 := aS hl153_4
   clear hi153_4 hl153_4
   replace p153 := eq_true p153
   replace q153 := eq_true q153
   try go_wp2_with (first | ((with_reducible refine gate_dst (N := 9) rfl ?_); refine bx (N := 9) (t := 27) #[.int .i64 0, .int .i64 0, .string (⟨#[]⟩ : ByteArray), .slice none 0 0, .slice none 0 0] ?_; intro gb154 hg w24 hbox hb; replace HO_7 := aS (Kd.R_below (Kd.R_elderB (kr_ HO_7.out) gb154 (Nat.le_of_eq hg.symm)) hb); have BK154 := aS (hbox); have GW154 := Gz hg HB; have GE154 := Gz hg HB; replace HB := Hs HB hb; have NB142_154 := aS ((by rw [hg]; exact Nat.ne_of_lt (blk_lt (bkw BK142)) : gb142 ≠ gb154)); have NB154_142 := aS ((by rw [hg]; exact Nat.ne_of_gt (blk_lt (bkw BK142)) : gb154 ≠ gb142)); replace BK142 := Bk BK142 hb; have NB143_154 := aS ((by rw [hg]; exact Nat.ne_of_lt (blk_lt (bkw BK143)) : gb143 ≠ gb154)); have NB154_143 := aS ((by rw [hg]; exact Nat.ne_of_gt (blk_lt (bkw BK143)) : gb154 ≠ gb143)); replace BK143 := Bk BK143 hb; clear hb hbox hg; have hnb25 := NB154_142.out; have hnc25 := NB142_154.out; have hnb26 := NB154_143.out; have hnc26 := NB143_154.out; obtain ⟨hcz27_0, hcz27_1, hcz27_2, hcz27_3, hcz27_4⟩ := cl5 BK154; obtain ⟨hfz27_0, hfz27_1, hfz27_2, hfz27_3, hfz27_4⟩ := fz5 BK154))
   have n0_ : Aside0 (Kd.R k27 27 (((((w24.setCell ⟨gb154, 0, none⟩ (.int .i64 ((rd_T27 l0_4 x20_1).f0))).setCell ⟨gb154, 1, none⟩ (.int .i64 ((rd_T27 l0_4 x20_1).f1))).setCell ⟨gb154, 2, none⟩ (.string ((rd_T27 l0_4 x20_1).f2))).setCell ⟨gb154, 3, none⟩ (.slice A153_3 ((rd_T27 l0_4 x20_1).f3).length c153_3)).setCell ⟨gb154, 4, none⟩ (.slice A153_4 ((rd_T27 l0_4 x20_1).f4).length c153_4)) w.heap.size (fun k_ => k_ ≠ gb142 ∧ k_ ≠ gb143 ∧ k_ ≠ gb154) u7 x7_1) := ⟨by (with_reducible repeat (first | apply Kd.R_alloc | apply Kd.R_drewN | apply Kd.R_drew)); exact Kd.R_mono (R5 (g := gb154) (Kd.R_mono HO_7.out (fun k_ hk => (⟨hk, hk.2⟩ : _ ∧ k_ ≠ gb154))) (fun _ hk => hk.2)) (fun _ hk => ⟨hk.1.1.1, ⟨hk.1.1.2, hk.1.2⟩⟩)⟩
   have n1_ : Aside0 ((((((w24.setCell ⟨gb154, 0, none⟩ (.int .i64 ((rd_T27 l0_4 x20_1).f0))).setCell ⟨gb154, 1, none⟩ (.int .i64 ((rd_T27 l0_4 x20_1).f1))).setCell ⟨gb154, 2, none⟩ (.string ((rd_T27 l0_4 x20_1).f2))).setCell ⟨gb154, 3, none⟩ (.slice A153_3 ((rd_T27 l0_4 x20_1).f3).length c153_3)).setCell ⟨gb154, 4, none⟩ (.slice A153_4 ((rd_T27 l0_4 x20_1).f4).length c153_4)).heap[gb142]? = some (.cells #[.int .i64 a0_0, .int .i64 a0_1, .string a0_2, .slice A0_3 l0_3.length c0_3, .slice (some ad153) l0_4.length c0_4] 27 (0, 0))) := ⟨bf5 BK142.out NB142_154.out⟩
   have n2_ : Aside0 ((((((w24.setCell ⟨gb154, 0, none⟩ (.int .i64 ((rd_T27 l0_4 x20_1).f0))).setCell ⟨gb154, 1, none⟩ (.int .i64 ((rd_T27 l0_4 x20_1).f1))).setCell ⟨gb154, 2, none⟩ (.string ((rd_T27 l0_4 x20_1).f2))).setCell ⟨gb154, 3, none⟩ (.slice A153_3 ((rd_T27 l0_4 x20_1).f3).length c153_3)).setCell ⟨gb154, 4, none⟩ (.slice A153_4 ((rd_T27 l0_4 x20_1).f4).length c153_4)).heap[gb143]? = some (.cells #[.int .i64 0, .int .i64 0, .string (⟨#[]⟩ : ByteArray), .slice none 0 0, .slice none 0 0] 27 (0, 0))) := ⟨bf5 BK143.out NB143_154.out⟩
   have n3_ : Aside0 ((((((w24.setCell ⟨gb154, 0, none⟩ (.int .i64 ((rd_T27 l0_4 x20_1).f0))).setCell ⟨gb154, 1, none⟩ (.int .i64 ((rd_T27 l0_4 x20_1).f1))).setCell ⟨gb154, 2, none⟩ (.string ((rd_T27 l0_4 x20_1).f2))).setCell ⟨gb154, 3, none⟩ (.slice A153_3 ((rd_T27 l0_4 x20_1).f3).length c153_3)).setCell ⟨gb154, 4, none⟩ (.slice A153_4 ((rd_T27 l0_4 x20_1).f4).length c153_4)).heap[gb154]? = some (.cells #[.int .i64 ((rd_T27 l0_4 x20_1).f0), .int .i64 ((rd_T27 l0_4 x20_1).f1), .string ((rd_T27 l0_4 x20_1).f2), .slice A153_3 ((rd_T27 l0_4 x20_1).f3).length c153_3, .slice A153_4 ((rd_T27 l0_4 x20_1).f4).length c153_4] 27 (0, 0))) := ⟨bp5 BK154.out⟩
   have n4_ : Aside0 (Below w.heap.size w (((((w24.setCell ⟨gb154, 0, none⟩ (.int .i64 ((rd_T27 l0_4 x20_1).f0))).setCell ⟨gb154, 1, none⟩ (.int .i64 ((rd_T27 l0_4 x20_1).f1))).setCell ⟨gb154, 2, none⟩ (.string ((rd_T27 l0_4 x20_1).f2))).setCell ⟨gb154, 3, none⟩ (.slice A153_3 ((rd_T27 l0_4 x20_1).f3).length c153_3)).setCell ⟨gb154, 4, none⟩ (.slice A153_4 ((rd_T27 l0_4 x20_1).f4).length c153_4))) := ⟨hbk HB⟩
   (try clear HO_7)
   (try clear BK142)
   (try clear BK143)
   (try clear BK154)
   (try clear HB)
   generalize (((((w24.setCell ⟨gb154, 0, none⟩ (.int .i64 ((rd_T27 l0_4 x20_1).f0))).setCell ⟨gb154, 1, none⟩ (.int .i64 ((rd_T27 l0_4 x20_1).f1))).setCell ⟨gb154, 2, none⟩ (.string ((rd_T27 l0_4 x20_1).f2))).setCell ⟨gb154, 3, none⟩ (.slice A153_3 ((rd_T27 l0_4 x20_1).f3).length c153_3)).setCell ⟨gb154, 4, none⟩ (.slice A153_4 ((rd_T27 l0_4 x20_1).f4).length c153_4)) = w28 at n0_ n1_ n2_ n3_ n4_ ⊢
   have HO_7 := n0_
   have BK142 := n1_
   have BK143 := n2_
   have BK154 := n3_
   have HB := n4_
   clear n0_ n1_ n2_ n3_ n4_
   replace HO_7 := aS (Kd.R_drew HO_7.out)
   replace BK142 := aS (blk_drew BK142.out)
   replace BK143 := aS (blk_drew BK143.out)
   replace BK154 := aS (blk_drew BK154.out)
   replace HB := aS (below_drew1 HB.out)
   refine start_ (n := 13) (S := fun w' => w'.cell? ⟨gb154, 0, none⟩ = some (.int .i64 ((rd_T27 l0_4 x20_1).f0)) ∧ w'.cell? ⟨gb154, 1, none⟩ = some (.int .i64 ((rd_T27 l0_4 x20_1).f1)) ∧ w'.cell? ⟨gb154, 2, none⟩ = some (.string ((rd_T27 l0_4 x20_1).f2)) ∧ w'.cell? ⟨gb154, 3, none⟩ = some (.slice A153_3 ((rd_T27 l0_4 x20_1).f3).length c153_3) ∧ w'.cell? ⟨gb154, 4, none⟩ = some (.slice A153_4 ((rd_T27 l0_4 x20_1).f4).length c153_4) ∧ w'.cell? ⟨gb142, 0, none⟩ = some (.int .i64 a0_0) ∧ w'.cell? ⟨gb142, 1, none⟩ = some (.int .i64 a0_1) ∧ w'.cell? ⟨gb142, 2, none⟩ = some (.string a0_2) ∧ w'.cell? ⟨gb142, 3, none⟩ = some (.slice A0_3 l0_3.length c0_3) ∧ w'.cell? ⟨gb142, 4, none⟩ = some (.slice (some ad153) l0_4.length c0_4)) (ds := []) #[false, false, false, false, false, false, false, false, false, false, false, false, false] (by kernel_rfl) rfl rfl ⟨cz BK154 0, cz BK154 1, cz BK154 2, cz BK154 3, cz BK154 4, cz BK142 0, cz BK142 1, cz BK142 2, cz BK142 3, cz BK142 4⟩ (fun hHeld => ?_); refine with_tabW eachL.tab7 eachL.bits7 (fun HT_ HW_ => ?_)
   generalize w28.drew = w29 at HO_7 BK142 BK143 BK154 HB hHeld ⊢
   refine pu 0 25 (bA 13 1) HT_ rfl rfl ?_
   refine pu 2 27 (bA 13 5) HT_ rfl rfl ?_
   refine pu 3 28 (bA 13 13) HT_ rfl rfl ?_
   refine pu 5 30 (bA 13 45) HT_ rfl rfl ?_
   refine pu 8 33 (bA 13 301) HT_ rfl rfl ?_
   refine ta 1 26 (bA 13 303) HT_ HW_ rfl rfl hHeld ?_
   refine ta 4 29 (bA 13 319) HT_ HW_ rfl rfl hHeld ?_
   refine one_ (i := 6) (N := some 31) (bA 13 383) rfl rfl (one_of HT_.out (by kernel_rfl)) (by decide) (fun K hK => ?_)
   refine goes_ Try.func118 (by kernel_rfl) rfl #[.int .i64 a0_0, .int .i64 x20_1] (by rfl) rfl rfl bl ?_
   with_reducible refine (term_binds.calls a0_0 x20_1 t155 _ A21.out).mono ?_
   rintro e w' ⟨rfl, ⟨nd, rfl⟩⟩
   refine ⟨_, rfl, ?_⟩
   refine hK.out _ _ ⟨cz BK154 0, cz BK154 1, cz BK154 2, cz BK154 3, cz BK154 4, cz BK142 0, cz BK142 1, cz BK142 2, cz BK142 3, cz BK142 4⟩ (fun hHeld => ?_)
   clear hK K
   refine norm_ ap ?_
   refine pu 7 32 (bA 13 511) HT_ rfl rfl ?_
   refine one_ (i := 9) (N := some 34) (bA 13 1023) rfl rfl (one_of HT_.out (by kernel_rfl)) (by decide) (fun K hK => ?_)
   refine goes_ Try.func88 (by kernel_rfl) rfl #[.agg #[.int .i64 ((rd_T27 l0_4 x20_1).f0), .int .i64 ((rd_T27 l0_4 x20_1).f1), .string ((rd_T27 l0_4 x20_1).f2), .slice A153_3 ((rd_T27 l0_4 x20_1).f3).length c153_3, .slice A153_4 ((rd_T27 l0_4 x20_1).f4).length c153_4], .int .i64 (wrap64 (a1 + t155)), .func (.func 89) #[] #[.pointer (some ⟨a2.bf, 0, none⟩), .pointer (some ⟨a2.bb, 0, none⟩)]] (by rfl) rfl rfl bl ?_
   with_reducible refine (ih k1 (by have := HK1.out; omega) ((rd_T27 l0_4 x20_1).f0) ((rd_T27 l0_4 x20_1).f1) ((rd_T27 l0_4 x20_1).f2) _ _ ((rd_T27 l0_4 x20_1).f3) _ _ ((rd_T27 l0_4 x20_1).f4) (wrap64 (a1 + t155)) a2 t156 t157 t158 t159 t162 _ (HLD.out _ (hbk HB)) ?side1 ?side2 ?side3 ?side4 A22.out).mono ?_
   (case side1 => exact cr (Kd.C_below HR153_3.out (hbk HB)))
   (case side2 => exact HC153_3.out)
   (case side3 => exact cr (Kd.C_below HR153_4.out (hbk HB)))
   (case side4 => exact HC153_4.out)
   rintro e w30 ⟨v160, v163, rfl, ho0, ho1, hb⟩
   refine ⟨_, rfl, ?_⟩
   have HO161 := aS (Kd.R_lower ho0 (below_size (hbk HB)))
   have HO164 := aS (Kd.R_lower (Kd.R_newB (Kd.R_newB (Kd.R_newB (Kd.R_new' ho1 (Kd.R_lt (kr_ HO_7.out))) (bkw BK142)) (bkw BK143)) (bkw BK154)) (below_size (hbk HB)))
   replace HO_7 := aS (Kd.R_mono (Kd.R_told (Kd.R_told (Kd.R_old (kr_ HO_7.out) hb) (Kd.R_base ho0)) (Kd.R_base ho1)) (fun _ h_ => h_.1))
   replace BK142 := Bk BK142 hb
   replace BK143 := Bk BK143 hb
   replace BK154 := Bk BK154 hb
   replace HB := Hs HB hb
   (try clear hb)
   (try clear hb2)
   (try clear hk)
   (try clear hi)
   (try clear ho0)
   (try clear ho1)
   obtain ⟨Ao32, co32, eo32⟩ := Kd.R_slice HO161.out
   (first | subst eo32 | (injection eo32 with f1_ f2_ f3_; have f4_ := f1_.symm; have f5_ := f3_.symm; clear f1_ f2_ f3_; subst f4_; subst f5_))
   obtain ⟨Ao33, co33, eo33⟩ := Kd.R_slice HO164.out
   (first | subst eo33 | (injection eo33 with f1_ f2_ f3_; have f4_ := f1_.symm; have f5_ := f3_.symm; clear f1_ f2_ f3_; subst f4_; subst f5_))
   refine hK.out _ _ ⟨cz BK154 0, cz BK154 1, cz BK154 2, cz BK154 3, cz BK154 4, cz BK142 0, cz BK142 1, cz BK142 2, cz BK142 3, cz BK142 4⟩ (fun hHeld => ?_)
   clear hK K
   refine norm_ ap ?_
   refine one_ (i := 10) (N := some 35) (bA 13 2047) rfl rfl (one_of HT_.out (by kernel_rfl)) (by decide) (fun K hK => ?_)
   refine value_ (w1 := ?_) (v := ?_) (by rfl) rfl ?_ ?_
   rotate_left 2
   ·go_simp
    constructor
    ·rfl
    ·rfl
   refine hK.out _ _ ⟨(blk_cell (blk_alloc BK154.out _) 0).trans rfl, (blk_cell (blk_alloc BK154.out _) 1).trans rfl, (blk_cell (blk_alloc BK154.out _) 2).trans rfl, (blk_cell (blk_alloc BK154.out _) 3).trans rfl, (blk_cell (blk_alloc BK154.out _) 4).trans rfl, (blk_cell (blk_alloc BK142.out _) 0).trans rfl, (blk_cell (blk_alloc BK142.out _) 1).trans rfl, (blk_cell (blk_alloc BK142.out _) 2).trans rfl, (blk_cell (blk_alloc BK142.out _) 3).trans rfl, (blk_cell (blk_alloc BK142.out _) 4).trans rfl⟩ (fun hHeld => ?_)
   clear hK K
   refine norm_ ap ?_
   refine one_ (i := 11) (N := some 36) (bA 13 4095) rfl rfl (one_of HT_.out (by kernel_rfl)) (by decide) (fun K hK => ?_)
   refine Kd.R_append_step k27 (w0 := w) w.heap.size (by rfl) (.tmp 25) (.tmp 35) 23 27 (.agg #[(.int .i64 0), (.int .i64 0), (.string ⟨#[]⟩), (.slice none 0 0), (.slice none 0 0)]) 80 rfl Try.underlying23 info27 rfl (by decide) (by omega) u7 x7_1 (⟨t156, t157, t158, t159, t162⟩ : S27) [.int .i64 t156, .int .i64 t157, .string t158, .slice Ao32 t159.length co32, .slice Ao33 t162.length co33] (fun k_ => k_ ≠ gb142 ∧ k_ ≠ gb143 ∧ k_ ≠ gb154) (fun k_ => ((fun k_ => k_ ≠ gb142 ∧ k_ ≠ gb143 ∧ k_ ≠ gb154)) k_ ∧ some k_ ≠ (u7 : Value).ownBlock) rfl rfl ?aP (fun _ hk => hk) ?aF ?aO ?aB ?aS ?aL ?_
   (case aP => exact k27_mkM _ _ _ (⟨t156, t157, t158, t159, t162⟩ : S27) (Kd.R_mono (Kd.R_types (Kd.R_types (Kd.R_types (Kd.R_apart' (HO161.out) (Kd.R_typed HO_7.out) (by decide)) BK142.out (by decide)) BK143.out (by decide)) BK154.out (by decide)) (fun k_ hk => ⟨⟨hk.1.1.2, ⟨hk.1.2, hk.2⟩⟩, hk.1.1.1.2⟩)) (Kd.R_mono (HO164.out) (fun k_ hk => ⟨⟨hk.1.1.2, ⟨hk.1.2, hk.2⟩⟩, hk.1.1.1.2⟩)))
   (case aB => exact (hbk HB))
   (case aF => exact (fun k_ hk => ⟨Kd.freshB (bkw BK142) k_ hk, Kd.freshB (bkw BK143) k_ hk, Kd.freshB (bkw BK154) k_ hk⟩))
   (case aO => exact (by (with_reducible repeat (first | apply Kd.R_alloc | apply Kd.R_drewN | apply Kd.R_drew)); exact Kd.R_mono HO_7.out (fun _ hk => ⟨hk.1.1.1, ⟨hk.1.1.2.1, hk.1.1.2.2⟩⟩)))
   (case aS => exact (below_size (hbk HB)))
   (case aL => have := LMc23.out; omega)
   intro v166 w31 ho hb hg hat
   rw [← Ny165.out] at ho
   replace BK142 := aS (blk_grown (bkw BK142) hg (Kd.R_away HO_7.out (fun _ hk => hk.1.1.1)))
   replace BK143 := aS (blk_grown (bkw BK143) hg (Kd.R_away HO_7.out (fun _ hk => hk.1.1.2.1)))
   replace BK154 := aS (blk_grown (bkw BK154) hg (Kd.R_away HO_7.out (fun _ hk => hk.1.1.2.2)))
   replace HB := aS (hb)
   have HO167 := aS (ho)
   clear HO_7 HO161 HO164
   clear ho hb hg hat
   refine hK.out _ _ ⟨cz BK154 0, cz BK154 1, cz BK154 2, cz BK154 3, cz BK154 4, cz BK142 0, cz BK142 1, cz BK142 2, cz BK142 3, cz BK142 4⟩ (fun hHeld => ?_)
   clear hK K
   refine norm_ ap ?_
   refine pu 12 7 (bA 13 8191) HT_ rfl rfl ?_
   refine done_ (done_of HT_.out (by kernel_rfl)) ?_
   try go_wp2
   go_roundg k1
   case measure => have := HK1.out; omega
   case rel => exact ⟨(y165), (wrap64 (x20_1 + 1)), br, H', ⟨by have := HK1.out; omega⟩, ⟨by (with_reducible repeat (first | apply Kd.R_alloc | apply Kd.R_drewN | apply Kd.R_drew)); exact Kd.R_mono HO167.out (fun _ hk => ⟨hk.1, hk.2.1⟩)⟩, ⟨bk BK142.out⟩, ⟨bk BK143.out⟩, ⟨hbk HB⟩⟩
end Go.Proofs.Ytpejhapgffcngaa.QK

