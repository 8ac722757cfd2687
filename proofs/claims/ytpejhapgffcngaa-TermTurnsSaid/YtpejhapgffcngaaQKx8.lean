/- Words and walks of this claim. -/
import Derived.Test.YtpejhapgffcngaaXShort
import Derived.Test.YtpejhapgffcngaaQKApart
import Derived.Test.YtpejhapgffcngaaQKx7
namespace Go.Proofs.Ytpejhapgffcngaa.QK
open Go.RowKit Go.Proofs.YtpejhapgffcngaaW.PrintWords Go.Proofs.YtpejhapgffcngaaW.PrintLast Go.Proofs.YtpejhapgffcngaaW.PrintMore
attribute [local go_sem] max2_int min2_int max_two min_two max_three min_three max_four min_four
set_option linter.unusedVariables false
set_option linter.unusedSimpArgs false
def touchstoneref5_Put.f (k : Nat) (a0_0 : Int) (a0_1 : Int) (a0_2 : ByteArray) (l0_3 : List (S76)) (l0_4 : List (S27)) (a1_0 : Int) (a1_1 : Int) (a1_2 : ByteArray) (l1_3 : List (S76)) (l1_4 : List (S27)) : Option (Int × Int × ByteArray × (List (S76)) × (List (S27))) := (touchstoneref5_put.f k a0_0 a0_1 a0_2 l0_3 l0_4 a1_0 a1_1 a1_2 l1_3 l1_4 0).bind fun bt220 => (some (bt220.1, bt220.2.1, bt220.2.2.1, bt220.2.2.2.1, bt220.2.2.2.2))
set_option maxHeartbeats 8000000 in
set_option maxRecDepth 100000 in
theorem touchstoneref5_Put.calls (k : Nat) (a0_0 : Int) (a0_1 : Int) (a0_2 : ByteArray) (A0_3 : Option Addr) (c0_3 : Nat) (l0_3 : List (S76)) (A0_4 : Option Addr) (c0_4 : Nat) (l0_4 : List (S27)) (a1_0 : Int) (a1_1 : Int) (a1_2 : ByteArray) (A1_3 : Option Addr) (c1_3 : Nat) (l1_3 : List (S76)) (A1_4 : Option Addr) (c1_4 : Nat) (l1_4 : List (S27)) (r1 : Int) (r2 : Int) (r3 : ByteArray) (r4 : List (S76)) (r5 : List (S27)) (w : World) (hr0_3 : Kd.C k76 w A0_3 l0_3.length l0_3) (hc0_3 : l0_3.length ≤ c0_3) (hr0_4 : Kd.C k27 w A0_4 l0_4.length l0_4) (hc0_4 : l0_4.length ≤ c0_4) (hr1_3 : Kd.C k76 w A1_3 l1_3.length l1_3) (hc1_3 : l1_3.length ≤ c1_3) (hr1_4 : Kd.C k27 w A1_4 l1_4.length l1_4) (hc1_4 : l1_4.length ≤ c1_4) (h : touchstoneref5_Put.f k a0_0 a0_1 a0_2 l0_3 l0_4 a1_0 a1_1 a1_2 l1_3 l1_4 = some (r1, r2, r3, r4, r5)) :
  Calls Try.prog 28 #[.agg #[.int .i64 a0_0, .int .i64 a0_1, .string a0_2, .slice A0_3 l0_3.length c0_3, .slice A0_4 l0_4.length c0_4], .agg #[.int .i64 a1_0, .int .i64 a1_1, .string a1_2, .slice A1_3 l1_3.length c1_3, .slice A1_4 l1_4.length c1_4]] w fun e w' => ∃ v3_ v4_ : Value, e = .returned (.agg #[.int .i64 r1, .int .i64 r2, .string r3, v3_, v4_]) ∧ Kd.R k76 76 w' w.heap.size (fun _ => True) v3_ r4 ∧ Kd.R k27 27 w' w.heap.size (fun k_ => some k_ ≠ (v3_ : Value).ownBlock) v4_ r5 ∧ Below w.heap.size w w' := by
 have hu27 := Try.underlying27
 have HR0_3 := aS hr0_3
 have HC0_3 := aS hc0_3
 clear hr0_3 hc0_3
 have HR0_4 := aS hr0_4
 have HC0_4 := aS hc0_4
 clear hr0_4 hc0_4
 have HR1_3 := aS hr1_3
 have HC1_3 := aS hc1_3
 clear hr1_3 hc1_3
 have HR1_4 := aS hr1_4
 have HC1_4 := aS hc1_4
 clear hr1_4 hc1_4
 have HB := aS (Below.refl w.heap.size w)
 have H : ((touchstoneref5_put.f k a0_0 a0_1 a0_2 l0_3 l0_4 a1_0 a1_1 a1_2 l1_3 l1_4 0).bind fun bt220 => (some (bt220.1, bt220.2.1, bt220.2.2.1, bt220.2.2.2.1, bt220.2.2.2.2))) = some (r1, r2, r3, r4, r5) := h
 clear h
 replace H := Option.bind_eq_some_iff.mp H
 obtain ⟨⟨t220, t221, t222, t223, t226⟩, A30, H⟩ := H
 try dsimp only at H
 have A3 := aS A30
 clear A30
 simp only [Option.some.injEq, Prod.mk.injEq] at H
 obtain ⟨rfl, rfl, rfl, rfl, rfl⟩ := H
 go_enter Try.func28, Try.ntmps28
 go_wp2_with (first | ((with_reducible refine gate_dst (N := 2) rfl ?_); refine bx (N := 2) (t := 27) #[.int .i64 a0_0, .int .i64 a0_1, .string a0_2, .slice A0_3 l0_3.length c0_3, .slice A0_4 l0_4.length c0_4] ?_; intro gb217 hg w4 hbox hb; have BK217 := aS (hbox); have GW217 := Gz hg HB; have GE217 := Gz hg HB; replace HB := Hs HB hb; clear hb hbox hg) | ((with_reducible refine gate_dst (N := 3) rfl ?_); refine bx (N := 3) (t := 27) #[.int .i64 a1_0, .int .i64 a1_1, .string a1_2, .slice A1_3 l1_3.length c1_3, .slice A1_4 l1_4.length c1_4] ?_; intro gb218 hg w5 hbox hb; have BK218 := aS (hbox); have GW218 := Gz hg HB; have GE218 := Gz hg HB; replace HB := Hs HB hb; have NB217_218 := aS ((by rw [hg]; exact Nat.ne_of_lt (blk_lt (bkw BK217)) : gb217 ≠ gb218)); have NB218_217 := aS ((by rw [hg]; exact Nat.ne_of_gt (blk_lt (bkw BK217)) : gb218 ≠ gb217)); replace BK217 := Bk BK217 hb; clear hb hbox hg) | ((with_reducible refine gate_dst (N := 4) rfl ?_); refine bx (N := 4) (t := 27) #[.int .i64 0, .int .i64 0, .string (⟨#[]⟩ : ByteArray), .slice none 0 0, .slice none 0 0] ?_; intro gb219 hg w6 hbox hb; have BK219 := aS (hbox); have GW219 := Gz hg HB; have GE219 := Gz hg HB; replace HB := Hs HB hb; have NB217_219 := aS ((by rw [hg]; exact Nat.ne_of_lt (blk_lt (bkw BK217)) : gb217 ≠ gb219)); have NB219_217 := aS ((by rw [hg]; exact Nat.ne_of_gt (blk_lt (bkw BK217)) : gb219 ≠ gb217)); replace BK217 := Bk BK217 hb; have NB218_219 := aS ((by rw [hg]; exact Nat.ne_of_lt (blk_lt (bkw BK218)) : gb218 ≠ gb219)); have NB219_218 := aS ((by rw [hg]; exact Nat.ne_of_gt (blk_lt (bkw BK218)) : gb219 ≠ gb218)); replace BK218 := Bk BK218 hb; clear hb hbox hg; have hnb7 := NB217_218.out; have hnc7 := NB218_217.out; have hnb8 := NB217_219.out; have hnc8 := NB219_217.out; obtain ⟨hcz9_0, hcz9_1, hcz9_2, hcz9_3, hcz9_4⟩ := cl5 BK217; obtain ⟨hfz9_0, hfz9_1, hfz9_2, hfz9_3, hfz9_4⟩ := fz5 BK217; have hnb10 := NB218_219.out; have hnc10 := NB219_218.out; obtain ⟨hcz11_0, hcz11_1, hcz11_2, hcz11_3, hcz11_4⟩ := cl5 BK218; obtain ⟨hfz11_0, hfz11_1, hfz11_2, hfz11_3, hfz11_4⟩ := fz5 BK218) | ((with_reducible refine gate_callee (f := 78) rfl ?_); refine goesL_ (some 7) rfl rfl Try.func78 (by kernel_rfl) rfl #[.agg #[.int .i64 a0_0, .int .i64 a0_1, .string a0_2, .slice A0_3 l0_3.length c0_3, .slice A0_4 l0_4.length c0_4], .agg #[.int .i64 a1_0, .int .i64 a1_1, .string a1_2, .slice A1_3 l1_3.length c1_3, .slice A1_4 l1_4.length c1_4], .int .i64 0] rfl bl ?_; (with_reducible refine (touchstoneref5_put.calls k a0_0 a0_1 a0_2 _ _ l0_3 _ _ l0_4 a1_0 a1_1 a1_2 _ _ l1_3 _ _ l1_4 0 t220 t221 t222 t223 t226 _ ?side1 ?side2 ?side3 ?side4 ?side5 ?side6 ?side7 ?side8 A3.out).mono ?_); (case side1 => exact cr (Kd.C_below HR0_3.out HB.out)); (case side2 => exact HC0_3.out); (case side3 => exact cr (Kd.C_below HR0_4.out HB.out)); (case side4 => exact HC0_4.out); (case side5 => exact cr (Kd.C_below HR1_3.out HB.out)); (case side6 => exact HC1_3.out); (case side7 => exact cr (Kd.C_below HR1_4.out HB.out)); (case side8 => exact HC1_4.out); rintro e w12 ⟨v224, v227, rfl, ho0, ho1, hb⟩; refine ⟨_, rfl, ?_⟩; have HO225 := aS (Kd.R_lower ho0 (below_size (hbk HB))); have HO228 := aS (Kd.R_lower (Kd.R_newB (Kd.R_newB (Kd.R_newB ho1 (bkw BK217)) (bkw BK218)) (bkw BK219)) (below_size (hbk HB))); replace BK217 := Bk BK217 hb; replace BK218 := Bk BK218 hb; replace BK219 := Bk BK219 hb; replace HB := Hs HB hb; (try clear hb); (try clear hb2); (try clear hk); (try clear hi); (try clear ho0); (try clear ho1); obtain ⟨hcz13_0, hcz13_1, hcz13_2, hcz13_3, hcz13_4⟩ := cl5 BK219; obtain ⟨hfz13_0, hfz13_1, hfz13_2, hfz13_3, hfz13_4⟩ := fz5 BK219; obtain ⟨Ao14, co14, eo14⟩ := Kd.R_slice HO225.out; subst eo14; obtain ⟨Ao15, co15, eo15⟩ := Kd.R_slice HO228.out; subst eo15))
 refine bodyPost_ret (results_cell_row rfl _ _ gb219 27 #[.int .i64 t220, .int .i64 t221, .string t222, .slice Ao14 t223.length co14, .slice Ao15 t226.length co15] (0, 0) _ rfl (bp5 BK219.out) Try.underlying27 rfl (by kernel_rfl)) rfl ?_
 exact ⟨_, _, by first | rfl | (simp [errW_none, errW_some] <;> rfl) | (simp [*, errW_none, errW_some] <;> rfl), by (with_reducible repeat (first | apply Kd.R_alloc | apply Kd.R_drewN | apply Kd.R_drew)); exact Kd.R_mono (R5 (g := gb219) (Kd.R_types HO225.out BK219.out (by decide)) (fun _ hk => hk.2)) (fun _ hk => trivial), by (with_reducible repeat (first | apply Kd.R_alloc | apply Kd.R_drewN | apply Kd.R_drew)); exact Kd.R_mono (R5 (g := gb219) (Kd.R_mono HO228.out (fun k_ hk => (⟨hk, hk.2⟩ : _ ∧ k_ ≠ gb219))) (fun _ hk => hk.2)) (fun _ hk => hk.1.1.1.1), hbk HB⟩
mutual
def level_Put.j0 : Nat → List (S76) → Bool → Int → Int → List (S76) → Option (Int × Int × (List (S76)))
 | 0, _, _, _, _, _ => none
 | k + 1, x1, x22, x230000, x230001, x230002 => if x22 = true then (if 0 ≤ x230001 then (if x230001 < (x1.length : Int) then ((level_Put.f k ((rd_T76 x1 x230001).f0) ((rd_T76 x1 x230001).f1) ((rd_T76 x1 x230001).f2) ([] : List (S76))).bind fun bt232 => (some (bt232.1, bt232.2.1, bt232.2.2))) else (none)) else (none)) else (level_Put.l0 k x1 ([] : List (S76)) x230002 (x230002.length : Int) 0 x230000 x230001 x230002)
def level_Put.l0 : Nat → List (S76) → List (S76) → List (S76) → Int → Int → Int → Int → List (S76) → Option (Int × Int × (List (S76)))
 | 0, _, _, _, _, _, _, _, _ => none
 | k + 1, x1, x5, x30, x31, x32, x230000, x230001, x230002 => if x32 < x31 then (if 0 ≤ x32 then (if x32 < (x30.length : Int) then ((level_Put.f k ((rd_T76 x30 x32).f0) ((rd_T76 x30 x32).f1) ((rd_T76 x30 x32).f2) x1).bind fun bt239 => (if x5.length < 3518437208883 then (level_Put.l0 k x1 (x5 ++ [(⟨bt239.1, bt239.2.1, bt239.2.2⟩ : S76)]) x30 x31 (wrap64 (x32 + 1)) x230000 x230001 x230002) else (none))) else (none)) else (none)) else (some (x230000, x230001, x5))
def level_Put.f : Nat → Int → Int → List (S76) → List (S76) → Option (Int × Int × (List (S76)))
 | 0, _, _, _, _ => none
 | k + 1, a0_0, a0_1, l0_2, l1 => if a0_0 = 4 then (if a0_1 ≥ 0 then (level_Put.j0 k l1 (decide (a0_1 < (l1.length : Int))) a0_0 a0_1 l0_2) else (level_Put.j0 k l1 false a0_0 a0_1 l0_2)) else (level_Put.j0 k l1 false a0_0 a0_1 l0_2)
end
set_option maxHeartbeats 8000000 in
set_option maxRecDepth 100000 in
theorem level_Put.calls (k : Nat) : ∀ (a0_0 : Int) (a0_1 : Int) (A0_2 : Option Addr) (c0_2 : Nat) (l0_2 : List (S76)) (A1 : Option Addr) (c1 : Nat) (l1 : List (S76)) (r1 : Int) (r2 : Int) (r3 : List (S76)) (w : World) (hr0_2 : Kd.C k76 w A0_2 l0_2.length l0_2) (hc0_2 : l0_2.length ≤ c0_2) (hr1 : Kd.C k76 w A1 l1.length l1) (hc1 : l1.length ≤ c1) (h : level_Put.f k a0_0 a0_1 l0_2 l1 = some (r1, r2, r3)),
  Calls Try.prog 125 #[.agg #[.int .i64 a0_0, .int .i64 a0_1, .slice A0_2 l0_2.length c0_2], .slice A1 l1.length c1] w fun e w' => ∃ v2_ : Value, e = .returned (.agg #[.int .i64 r1, .int .i64 r2, v2_]) ∧ Kd.R k76 76 w' w.heap.size (fun _ => True) v2_ r3 ∧ Below w.heap.size w w' := by
 induction k using Nat.strongRecOn with
 | _ k ih =>
 intro a0_0 a0_1 A0_2 c0_2 l0_2 A1 c1 l1 r1 r2 r3 w hr0_2 hc0_2 hr1 hc1 h
 cases k with
 | zero => exact absurd h (by simp [level_Put.f])
 | succ k =>
 simp only [level_Put.f] at h
 have hu76 := Try.underlying76
 have HR0_2 := aS hr0_2
 have HC0_2 := aS hc0_2
 clear hr0_2 hc0_2
 have HR1 := aS hr1
 have HC1 := aS hc1
 clear hr1 hc1
 have HB := aS (Below.refl w.heap.size w)
 have H : (if a0_0 = 4 then (if a0_1 ≥ 0 then (level_Put.j0 k l1 (decide (a0_1 < (l1.length : Int))) a0_0 a0_1 l0_2) else (level_Put.j0 k l1 false a0_0 a0_1 l0_2)) else (level_Put.j0 k l1 false a0_0 a0_1 l0_2)) = some (r1, r2, r3) := h
 clear h
 have HC3 := aS H
 clear H
 go_enter Try.func125, Try.ntmps125
 go_upto_region 1 with (first | ((with_reducible refine gate_dst (N := 2) rfl ?_); (try (refine gate_guard (by rfl) ?_; dsimp only)); refine bx (N := 2) (t := 76) #[.int .i64 a0_0, .int .i64 a0_1, .slice A0_2 l0_2.length c0_2] ?_; intro gb229 hg w4 hbox hb; have BK229 := aS (hbox); have GW229 := Gz hg HB; have GE229 := Gz hg HB; replace HB := Hs HB hb; clear hb hbox hg) | ((with_reducible refine gate_dst (N := 4) rfl ?_); (try (refine gate_guard (by rfl) ?_; dsimp only)); refine bx (N := 4) (t := 76) #[.int .i64 0, .int .i64 0, .slice none 0 0] ?_; intro gb230 hg w5 hbox hb; have BK230 := aS (hbox); have GW230 := Gz hg HB; have GE230 := Gz hg HB; replace HB := Hs HB hb; have NB229_230 := aS ((by rw [hg]; exact Nat.ne_of_lt (blk_lt (bkw BK229)) : gb229 ≠ gb230)); have NB230_229 := aS ((by rw [hg]; exact Nat.ne_of_gt (blk_lt (bkw BK229)) : gb230 ≠ gb229)); replace BK229 := Bk BK229 hb; clear hb hbox hg))
 (try simp only [Act.put, List.setIfInBounds_toArray, List.set_cons_zero, List.set_cons_succ])
 go_cut [22] (fun v22 wc => ∃ (kq : Nat) (x22_2 : Bool), v22 = .bool x22_2 ∧ Aside0 (level_Put.j0 kq l1 x22_2 a0_0 a0_1 l0_2 = some (r1, r2, r3)) ∧ Aside0 (kq ≤ k) ∧ Aside0 (wc.heap[gb229]? = some (.cells #[.int .i64 a0_0, .int .i64 a0_1, (.slice A0_2 l0_2.length c0_2)] 76 (0, 0))) ∧ Aside0 (wc.heap[gb230]? = some (.cells #[.int .i64 0, .int .i64 0, (.slice none 0 0)] 76 (0, 0))) ∧ Aside0 (Below w.heap.size w wc))
 case first =>
  have H := HC3.out
  clear HC3
  by_cases c6 : a0_0 = 4
  rotate_left
  ·rw [if_neg c6] at H
   have c6b0 : (a0_0 == 4) = false := beq_eq_false_iff_ne.mpr c6
   have c6b1 : (a0_0 != 4) = true := bne_iff_ne.mpr c6
   (first | rw [c6b0] | (simp only [i64_w, i32_w]; rw [c6b0]) | skip)
   have H' := aS H
   clear H
   have hnb12 := NB229_230.out
   have hnc12 := NB230_229.out
   obtain ⟨hcz13_0, hcz13_1, hcz13_2⟩ := cl3 BK229
   obtain ⟨hfz13_0, hfz13_1, hfz13_2⟩ := fz3 BK229
   go_wp2
   go_meet
   case rel => exact ⟨_, (false), br, H', ⟨by first | omega | exact Nat.le_refl _⟩, ⟨bk BK229.out⟩, ⟨bk BK230.out⟩, ⟨hbk HB⟩⟩
  rw [if_pos c6] at H
  have c6b0 : (a0_0 == 4) = true := beq_iff_eq.mpr c6
  have c6b1 : (a0_0 != 4) = false := bne_eq_false_iff_eq.mpr c6
  clear c6
  (first | rw [c6b0] | (simp only [i64_w, i32_w]; rw [c6b0]) | skip)
  by_cases c7 : a0_1 ≥ 0
  rotate_left
  ·rw [if_neg c7] at H
   have c7b0 : decide (0 ≤ a0_1) = false := decide_eq_false c7
   clear c7
   have H' := aS H
   clear H
   have hnb10 := NB229_230.out
   have hnc10 := NB230_229.out
   obtain ⟨hcz11_0, hcz11_1, hcz11_2⟩ := cl3 BK229
   obtain ⟨hfz11_0, hfz11_1, hfz11_2⟩ := fz3 BK229
   go_wp2
   go_meet
   case rel => exact ⟨_, (false), br, H', ⟨by first | omega | exact Nat.le_refl _⟩, ⟨bk BK229.out⟩, ⟨bk BK230.out⟩, ⟨hbk HB⟩⟩
  rw [if_pos c7] at H
  have c7b0 : decide (0 ≤ a0_1) = true := decide_eq_true c7
  clear c7
  have H' := aS H
  clear H
  have hnb8 := NB229_230.out
  have hnc8 := NB230_229.out
  obtain ⟨hcz9_0, hcz9_1, hcz9_2⟩ := cl3 BK229
  obtain ⟨hfz9_0, hfz9_1, hfz9_2⟩ := fz3 BK229
  go_wp2
  go_meet
  case rel => exact ⟨_, (decide (a0_1 < (l1.length : Int))), br, H', ⟨by first | omega | exact Nat.le_refl _⟩, ⟨bk BK229.out⟩, ⟨bk BK230.out⟩, ⟨hbk HB⟩⟩
 case rest =>
  clear HC3
  try clear c1
  try clear p2
  try clear c6
  try clear c6b0
  try clear c6b1
  try clear c7
  try clear c7b0
  try clear c8
  try clear c10
  try clear c12
  try clear hcz11_0 hcz11_1 hcz11_2
  try clear hcz13_0 hcz13_1 hcz13_2
  try clear hcz9_0 hcz9_1 hcz9_2
  try clear hfz11_0 hfz11_1 hfz11_2
  try clear hfz13_0 hfz13_1 hfz13_2
  try clear hfz9_0 hfz9_1 hfz9_2
  obtain ⟨kq, x22_2, rfl, HA, HJ2, BK229, BK230, HB⟩ := hcut
  cases kq with
  | zero => exact absurd HA.out (by simp [level_Put.j0])
  | succ kj2 =>
   have H := HA.out
   clear HA
   simp only [level_Put.j0] at H
   by_cases c14 : x22_2 = true
   ·subst c14
    have H1 : (if 0 ≤ a0_1 then (if a0_1 < (l1.length : Int) then ((level_Put.f kj2 ((rd_T76 l1 a0_1).f0) ((rd_T76 l1 a0_1).f1) ((rd_T76 l1 a0_1).f2) ([] : List (S76))).bind fun bt232 => (some (bt232.1, bt232.2.1, bt232.2.2))) else (none)) else (none)) = some (r1, r2, r3) := by rw [if_pos rfl] at H; exact H
    clear H
    have H := H1
    clear H1
    by_cases c15 : 0 ≤ a0_1
    rotate_left
    ·rw [if_neg c15] at H
     exact absurd H (by simp)
    rw [if_pos c15] at H
    have c15b0 : decide (0 ≤ a0_1) = true := decide_eq_true c15
    clear c15
    by_cases c16 : a0_1 < (l1.length : Int)
    rotate_left
    ·rw [if_neg c16] at H
     exact absurd H (by simp)
    rw [if_pos c16] at H
    have c16b0 : decide (a0_1 < (l1.length : Int)) = true := decide_eq_true c16
    clear c16
    replace H := Option.bind_eq_some_iff.mp H
    obtain ⟨⟨t232, t233, t234⟩, A170, H⟩ := H
    try dsimp only at H
    have A17 := aS A170
    clear A170
    simp only [Option.some.injEq, Prod.mk.injEq] at H
    obtain ⟨rfl, rfl, rfl⟩ := H
    have hnb18 := NB229_230.out
    have hnc18 := NB230_229.out
    obtain ⟨hcz19_0, hcz19_1, hcz19_2⟩ := cl3 BK229
    obtain ⟨hfz19_0, hfz19_1, hfz19_2⟩ := fz3 BK229
    have p231 : 0 ≤ (a0_1 : Int) := of_decide_eq_true ba
    have q231 : a0_1 < (l1.length : Int) := of_decide_eq_true ba
    obtain ⟨ad231, A231_2, c231_2, e231, hx231_0, hx231_1, hx231_2, hl231_2, hi231_2⟩ := at_T76 HR1.out a0_1 p231 q231
    cases e231
    replace hx231_0 := (hc HB hx231_0 :)
    replace hx231_1 := (hc HB hx231_1 :)
    replace hx231_2 := (hc HB hx231_2 :)
    have HR231_2 := aS hi231_2
    have HC231_2 := aS hl231_2
    clear hi231_2 hl231_2
    replace p231 := eq_true p231
    replace q231 := eq_true q231
    go_wp2_with (first | ((with_reducible refine gate_callee (f := 125) rfl ?_); refine goesL_ (some 28) rfl rfl Try.func125 (by kernel_rfl) rfl #[.agg #[.int .i64 ((rd_T76 l1 a0_1).f0), .int .i64 ((rd_T76 l1 a0_1).f1), .slice A231_2 ((rd_T76 l1 a0_1).f2).length c231_2], .slice none 0 0] rfl bl ?_; (refine (ih kj2 (by have := HJ2.out; omega) ((rd_T76 l1 a0_1).f0) ((rd_T76 l1 a0_1).f1) _ _ ((rd_T76 l1 a0_1).f2) _ _ ([] : List (S76)) t232 t233 t234 _ ?side1 ?side2 ?side3 ?side4 A17.out).mono ?_); (case side1 => exact cr (Kd.C_below HR231_2.out HB.out)); (case side2 => exact HC231_2.out); (case side3 => exact Kd.C_nil _ _); (case side4 => exact Nat.le_refl _); rintro e w20 ⟨v235, rfl, ho0, hb⟩; refine ⟨_, rfl, ?_⟩; have HO236 := aS (Kd.R_lower (Kd.R_newB (Kd.R_newB ho0 (bkw BK229)) (bkw BK230)) (below_size (hbk HB))); replace BK229 := Bk BK229 hb; replace BK230 := Bk BK230 hb; replace HB := Hs HB hb; (try clear hb); (try clear hb2); (try clear hk); (try clear hi); (try clear ho0); obtain ⟨hcz21_0, hcz21_1, hcz21_2⟩ := cl3 BK230; obtain ⟨hfz21_0, hfz21_1, hfz21_2⟩ := fz3 BK230; obtain ⟨Ao22, co22, eo22⟩ := Kd.R_slice HO236.out; subst eo22))
    refine bodyPost_ret (results_cell_row rfl _ _ gb230 76 #[.int .i64 t232, .int .i64 t233, .slice Ao22 t234.length co22] (0, 0) _ rfl (bp3 BK230.out) Try.underlying76 rfl (by kernel_rfl)) rfl ?_
    exact ⟨_, by first | rfl | (simp [errW_none, errW_some] <;> rfl) | (simp [*, errW_none, errW_some] <;> rfl), by (with_reducible repeat (first | apply Kd.R_alloc | apply Kd.R_drewN | apply Kd.R_drew)); exact Kd.R_mono (R3 (g := gb230) (Kd.R_mono HO236.out (fun k_ hk => (⟨hk, hk.2⟩ : _ ∧ k_ ≠ gb230))) (fun _ hk => hk.2)) (fun _ hk => trivial), hbk HB⟩
   replace c14 := Bool.eq_false_iff.mpr c14
   subst c14
   have H1 : (level_Put.l0 kj2 l1 ([] : List (S76)) l0_2 (l0_2.length : Int) 0 a0_0 a0_1 l0_2) = some (r1, r2, r3) := by rw [if_neg (show ¬ (false = true) by decide)] at H; exact H
   clear H
   have H := H1
   clear H1
   have H' := aS H
   clear H
   have hnb23 := NB229_230.out
   have hnc23 := NB230_229.out
   obtain ⟨hcz24_0, hcz24_1, hcz24_2⟩ := cl3 BK229
   obtain ⟨hfz24_0, hfz24_1, hfz24_2⟩ := fz3 BK229
   go_wp2
   go_loopg [5, 32] kj2 (fun kq v5 v32 w' => ∃ (x5_2 : List (S76)) (x32_2 : Int), v32 = .int .i64 x32_2 ∧ Aside0 (level_Put.l0 kq l1 x5_2 l0_2 (l0_2.length : Int) x32_2 a0_0 a0_1 l0_2 = some (r1, r2, r3)) ∧ Aside0 (kq ≤ kj2) ∧ Aside0 (Kd.R k76 76 w' w.heap.size (fun k_ => k_ ≠ gb229 ∧ k_ ≠ gb230) v5 x5_2) ∧ Aside0 (w'.heap[gb229]? = some (.cells #[.int .i64 a0_0, .int .i64 a0_1, (.slice A0_2 l0_2.length c0_2)] 76 (0, 0))) ∧ Aside0 (w'.heap[gb230]? = some (.cells #[.int .i64 0, .int .i64 0, (.slice none 0 0)] 76 (0, 0))) ∧ Aside0 (Below w.heap.size w w'))
   case atStart => exact ⟨(([] : List (S76))), (0), br, H', ⟨Nat.le_refl _⟩, ⟨by first | exact Kd.R_nil _ _ _ _ _ | exact Kd.N_nil _ _ _ _ _ | exact Kd.V_nil _ _ _ _ _ | exact Kd.Q_nil _ _ _ _ _ | exact Kd.S_nil _ _ _ _ _⟩, ⟨bk BK229.out⟩, ⟨bk BK230.out⟩, ⟨hbk HB⟩⟩
   case round =>
    clear H'
    try clear c1
    try clear c2
    try clear p2
    try clear q2
    try clear hx2
    try clear c6
    try clear c6b0
    try clear c6b1
    try clear c7
    try clear c7b0
    try clear c8
    try clear c10
    try clear c12
    try clear c14
    try clear c15
    try clear c15b0
    try clear c16
    try clear c16b0
    try clear c18
    try clear c23
    try clear p23
    try clear q23
    try clear hx23
    try clear hcz11_0 hcz11_1 hcz11_2
    try clear hcz13_0 hcz13_1 hcz13_2
    try clear hcz19_0 hcz19_1 hcz19_2
    try clear hcz21_0 hcz21_1 hcz21_2
    try clear hcz24_0 hcz24_1 hcz24_2
    try clear hcz9_0 hcz9_1 hcz9_2
    try clear hfz11_0 hfz11_1 hfz11_2
    try clear hfz13_0 hfz13_1 hfz13_2
    try clear hfz19_0 hfz19_1 hfz19_2
    try clear hfz21_0 hfz21_1 hfz21_2
    try clear hfz24_0 hfz24_1 hfz24_2
    try clear hfz9_0 hfz9_1 hfz9_2
    try clear hx231_0 hx231_1 hx231_2
    try clear p2
    try clear p231
    try clear q231
    obtain ⟨x5_2, x32_2, rfl, HA, HK2, HO_5, BK229, BK230, HB⟩ := hrel
    cases gk with
    | zero => exact absurd HA.out (by simp [level_Put.l0])
    | succ k2 =>
     have H := HA.out
     clear HA
     simp only [level_Put.l0] at H
     by_cases c25 : x32_2 < (l0_2.length : Int)
     rotate_left
     ·rw [if_neg c25] at H
      have c25b0 : decide (x32_2 < (l0_2.length : Int)) = false := decide_eq_false c25
      clear c25
      simp only [Option.some.injEq, Prod.mk.injEq] at H
      obtain ⟨rfl, rfl, rfl⟩ := H
      obtain ⟨Ao37, co37, eo37⟩ := Kd.R_slice HO_5.out
      subst eo37
      have hnb38 := NB229_230.out
      have hnc38 := NB230_229.out
      obtain ⟨hcz39_0, hcz39_1, hcz39_2⟩ := cl3 BK229
      obtain ⟨hfz39_0, hfz39_1, hfz39_2⟩ := fz3 BK229
      obtain ⟨hcz40_0, hcz40_1, hcz40_2⟩ := cl3 BK230
      obtain ⟨hfz40_0, hfz40_1, hfz40_2⟩ := fz3 BK230
      go_wp2
      refine bodyPost_ret (results_cell_row rfl _ _ gb230 76 #[.int .i64 a0_0, .int .i64 a0_1, .slice Ao37 x5_2.length co37] (0, 0) _ rfl (by (with_reducible repeat (first | refine blk_drewN ?_ _ | refine blk_drew ?_ | refine blk_alloc ?_ _)); refine blk_put (cs := #[.int .i64 a0_0, .int .i64 a0_1, .slice none 0 0]) ?_ 2 _ rfl; (with_reducible repeat (first | refine blk_drewN ?_ _ | refine blk_drew ?_ | refine blk_alloc ?_ _)); refine blk_put (cs := #[.int .i64 a0_0, .int .i64 0, .slice none 0 0]) ?_ 1 _ rfl; (with_reducible repeat (first | refine blk_drewN ?_ _ | refine blk_drew ?_ | refine blk_alloc ?_ _)); refine blk_put (cs := #[.int .i64 0, .int .i64 0, .slice none 0 0]) ?_ 0 _ rfl; (with_reducible repeat (first | refine blk_drewN ?_ _ | refine blk_drew ?_ | refine blk_alloc ?_ _)); refine blk_far ?_ NB230_229.out _; (with_reducible repeat (first | refine blk_drewN ?_ _ | refine blk_drew ?_ | refine blk_alloc ?_ _)); exact BK230.out) Try.underlying76 rfl (by kernel_rfl)) rfl ?_
      exact ⟨_, by first | rfl | (simp [errW_none, errW_some] <;> rfl) | (simp [*, errW_none, errW_some] <;> rfl), by (with_reducible repeat (first | apply Kd.R_alloc | apply Kd.R_drewN | apply Kd.R_drew)); exact Kd.R_mono (R3 (g := gb230) (Kd.R_far (p := ⟨gb229, 2, none⟩) (Kd.R_mono (Kd.R_mono HO_5.out (fun k_ hk => (⟨hk, hk.1⟩ : _ ∧ k_ ≠ gb229))) (fun k_ hk => (⟨hk, hk.1.2⟩ : _ ∧ k_ ≠ gb230))) (fun _ hk => hk.1.2) (.slice Ao37 x5_2.length co37)) (fun _ hk => hk.2)) (fun _ hk => trivial), hbk HB⟩
     rw [if_pos c25] at H
     have c25b0 : decide (x32_2 < (l0_2.length : Int)) = true := decide_eq_true c25
     clear c25
     by_cases c26 : 0 ≤ x32_2
     rotate_left
     ·rw [if_neg c26] at H
      exact absurd H (by simp)
     rw [if_pos c26] at H
     have c26b0 : decide (0 ≤ x32_2) = true := decide_eq_true c26
     clear c26
     by_cases c27 : x32_2 < (l0_2.length : Int)
     rotate_left
     ·rw [if_neg c27] at H
      exact absurd H (by simp)
     rw [if_pos c27] at H
     have c27b0 : decide (x32_2 < (l0_2.length : Int)) = true := decide_eq_true c27
     clear c27
     replace H := Option.bind_eq_some_iff.mp H
     obtain ⟨⟨t239, t240, t241⟩, A280, H⟩ := H
     try dsimp only at H
     have A28 := aS A280
     clear A280
     by_cases c29 : x5_2.length < 3518437208883
     rotate_left
     ·rw [if_neg c29] at H
      exact absurd H (by simp)
     rw [if_pos c29] at H
     have LMc29 := aS c29
     clear c29
     obtain ⟨y244, hy244⟩ : ∃ y_ : List (S76), y_ = (x5_2 ++ [(⟨t239, t240, t241⟩ : S76)]) := ⟨_, rfl⟩
     replace H : (level_Put.l0 k2 l1 y244 l0_2 (l0_2.length : Int) (wrap64 (x32_2 + 1)) a0_0 a0_1 l0_2) = some (r1, r2, r3) := by first | (rw [hy244]; with_reducible exact H) | (have H2_ := (Option.bind_some _ _).symm.trans H; rw [hy244]; with_reducible exact H2_) | (have H2_ := (Option.bind_some _ _).symm.trans H; with_reducible exact H2_) | with_reducible exact H | (rw [hy244]; exact H) | exact H
     have Ny244 := aS hy244
     clear hy244
     have H' := aS H
     clear H
     have p237 : 0 ≤ (x32_2 : Int) := of_decide_eq_true ba
     have q237 : x32_2 < (l0_2.length : Int) := of_decide_eq_true ba
     obtain ⟨ad237, A237_2, c237_2, e237, hx237_0, hx237_1, hx237_2, hl237_2, hi237_2⟩ := at_T76 HR0_2.out x32_2 p237 q237
     cases e237
     replace hx237_0 := (hc HB hx237_0 :)
     replace hx237_1 := (hc HB hx237_1 :)
     replace hx237_2 := (hc HB hx237_2 :)
     have HR237_2 := aS hi237_2
     have HC237_2 := aS hl237_2
     clear hi237_2 hl237_2
     replace p237 := eq_true p237
     replace q237 := eq_true q237
     go_wp2_with (first | ((with_reducible refine gate_dst (N := 7) rfl ?_); (try (refine gate_guard (by rfl) ?_; dsimp only)); refine bx (N := 7) (t := 76) #[.int .i64 0, .int .i64 0, .slice none 0 0] ?_; intro gb238 hg w30 hbox hb; replace HO_5 := aS (Kd.R_below (Kd.R_elderB (kr_ HO_5.out) gb238 (Nat.le_of_eq hg.symm)) hb); have BK238 := aS (hbox); have GW238 := Gz hg HB; have GE238 := Gz hg HB; replace HB := Hs HB hb; have NB229_238 := aS ((by rw [hg]; exact Nat.ne_of_lt (blk_lt (bkw BK229)) : gb229 ≠ gb238)); have NB238_229 := aS ((by rw [hg]; exact Nat.ne_of_gt (blk_lt (bkw BK229)) : gb238 ≠ gb229)); replace BK229 := Bk BK229 hb; have NB230_238 := aS ((by rw [hg]; exact Nat.ne_of_lt (blk_lt (bkw BK230)) : gb230 ≠ gb238)); have NB238_230 := aS ((by rw [hg]; exact Nat.ne_of_gt (blk_lt (bkw BK230)) : gb238 ≠ gb230)); replace BK230 := Bk BK230 hb; clear hb hbox hg; have hnb31 := NB238_229.out; have hnc31 := NB229_238.out; have hnb32 := NB238_230.out; have hnc32 := NB230_238.out; obtain ⟨hcz33_0, hcz33_1, hcz33_2⟩ := cl3 BK238; obtain ⟨hfz33_0, hfz33_1, hfz33_2⟩ := fz3 BK238) | ((with_reducible refine gate_callee (f := 125) rfl ?_); refine goesL_ (some 39) rfl rfl Try.func125 (by kernel_rfl) rfl #[.agg #[.int .i64 ((rd_T76 l0_2 x32_2).f0), .int .i64 ((rd_T76 l0_2 x32_2).f1), .slice A237_2 ((rd_T76 l0_2 x32_2).f2).length c237_2], .slice A1 l1.length c1] rfl bl ?_; (with_reducible refine (ih k2 (by have := HJ2.out; have := HK2.out; omega) ((rd_T76 l0_2 x32_2).f0) ((rd_T76 l0_2 x32_2).f1) _ _ ((rd_T76 l0_2 x32_2).f2) _ _ l1 t239 t240 t241 _ ?side1 ?side2 ?side3 ?side4 A28.out).mono ?_); (case side1 => exact Kd.C_below HR237_2.out (hbk HB)); (case side2 => exact HC237_2.out); (case side3 => exact Kd.C_below HR1.out (hbk HB)); (case side4 => exact HC1.out); rintro e w34 ⟨v242, rfl, ho0, hb⟩; refine ⟨_, rfl, ?_⟩; have HO243 := aS (Kd.R_lower (Kd.R_newB (Kd.R_newB (Kd.R_newB (Kd.R_new' ho0 (Kd.R_lt (by (with_reducible repeat (first | apply Kd.R_alloc | apply Kd.R_drewN | apply Kd.R_drew)); exact (Kd.R_mono (R3 (g := gb238) (Kd.R_mono HO_5.out (fun k_ hk => (⟨hk, hk.2⟩ : _ ∧ k_ ≠ gb238))) (fun _ hk => hk.2)) (fun _ h_ => h_.1))))) (g := gb229) (o := .cells #[.int .i64 a0_0, .int .i64 a0_1, .slice (some ad237) l0_2.length c0_2] 76 (0, 0)) (bf3 BK229.out NB229_238.out)) (g := gb230) (o := .cells #[.int .i64 0, .int .i64 0, .slice none 0 0] 76 (0, 0)) (bf3 BK230.out NB230_238.out)) (g := gb238) (o := .cells #[.int .i64 ((rd_T76 l0_2 x32_2).f0), .int .i64 ((rd_T76 l0_2 x32_2).f1), .slice A237_2 ((rd_T76 l0_2 x32_2).f2).length c237_2] 76 (0, 0)) (bp3 BK238.out)) (below_size (hbk HB))); replace HO_5 := aS (Kd.R_elder' (by (with_reducible repeat (first | apply Kd.R_alloc | apply Kd.R_drewN | apply Kd.R_drew)); exact (Kd.R_mono (R3 (g := gb238) (Kd.R_mono HO_5.out (fun k_ hk => (⟨hk, hk.2⟩ : _ ∧ k_ ≠ gb238))) (fun _ hk => hk.2)) (fun _ h_ => h_.1))) (Kd.R_base ho0) hb); replace BK229 := aS (blk_below (g := gb229) (o := .cells #[.int .i64 a0_0, .int .i64 a0_1, .slice (some ad237) l0_2.length c0_2] 76 (0, 0)) (bf3 BK229.out NB229_238.out) hb); replace BK230 := aS (blk_below (g := gb230) (o := .cells #[.int .i64 0, .int .i64 0, .slice none 0 0] 76 (0, 0)) (bf3 BK230.out NB230_238.out) hb); replace BK238 := aS (blk_below (g := gb238) (o := .cells #[.int .i64 ((rd_T76 l0_2 x32_2).f0), .int .i64 ((rd_T76 l0_2 x32_2).f1), .slice A237_2 ((rd_T76 l0_2 x32_2).f2).length c237_2] 76 (0, 0)) (bp3 BK238.out) hb); replace HB := Hs HB hb; (try clear hb); (try clear hb2); (try clear hk); (try clear hi); (try clear ho0); obtain ⟨Ao36, co36, eo36⟩ := Kd.R_slice HO243.out; subst eo36) | ((with_reducible refine gate_builtin (b := .append) (xs := #[.tmp 36, .tmp 40]) rfl ?_); (try (refine gate_guard (by rfl) ?_; dsimp only)); at_builtin; refine Kd.R_append k76 (w0 := w) w.heap.size rfl (.tmp 36) (.tmp 40) 25 76 (.agg #[(.int .i64 0), (.int .i64 0), (.slice none 0 0)]) 40 rfl Try.underlying25 info76 rfl (by decide) (by omega) u5 x5_2 (⟨t239, t240, t241⟩ : S76) [.int .i64 t239, .int .i64 t240, .slice Ao36 t241.length co36] (fun k_ => k_ ≠ gb229 ∧ k_ ≠ gb230 ∧ k_ ≠ gb238) (fun k_ => ((fun k_ => k_ ≠ gb229 ∧ k_ ≠ gb230 ∧ k_ ≠ gb238)) k_ ∧ some k_ ≠ (u5 : Value).ownBlock) rfl rfl ?aP (fun _ hk => hk) ?aF ?aO ?aB ?aS ?aL ?_; (case aP => exact k76_mkM _ _ _ (⟨t239, t240, t241⟩ : S76) (Kd.R_mono (HO243.out) (fun k_ hk => ⟨⟨hk.1.1.2, ⟨hk.1.2, hk.2⟩⟩, hk.1.1.1.2⟩))); (case aB => exact (hbk HB)); (case aF => exact (fun k_ hk => ⟨Kd.freshB (bkw BK229) k_ hk, Kd.freshB (bkw BK230) k_ hk, Kd.freshB (bkw BK238) k_ hk⟩)); (case aO => exact (by (with_reducible repeat (first | apply Kd.R_alloc | apply Kd.R_drewN | apply Kd.R_drew)); exact Kd.R_mono HO_5.out (fun _ hk => ⟨hk.1.1.1, ⟨hk.1.1.2, hk.1.2⟩⟩))); (case aS => exact (below_size (hbk HB))); (case aL => have := LMc29.out; omega); intro v245 w35 ho hb hg hat; rw [← Ny244.out] at ho; replace BK229 := aS (blk_grown (bkw BK229) hg (Kd.R_away HO_5.out (fun _ hk => hk.1.1.1))); replace BK230 := aS (blk_grown (bkw BK230) hg (Kd.R_away HO_5.out (fun _ hk => hk.1.1.2))); replace BK238 := aS (blk_grown (bkw BK238) hg (Kd.R_away HO_5.out (fun _ hk => hk.1.2))); replace HB := aS (hb); have HO246 := aS (ho); clear HO_5 HO243; clear ho hb hg hat))
     go_roundg k2
     case measure => have := HJ2.out; have := HK2.out; omega
     case rel => exact ⟨(y244), (wrap64 (x32_2 + 1)), br, H', ⟨by have := HJ2.out; have := HK2.out; omega⟩, ⟨by (with_reducible repeat (first | apply Kd.R_alloc | apply Kd.R_drewN | apply Kd.R_drew)); exact Kd.R_mono HO246.out (fun _ hk => ⟨hk.1, hk.2.1⟩)⟩, ⟨bk BK229.out⟩, ⟨bk BK230.out⟩, ⟨hbk HB⟩⟩
def term_levels.l0 : Nat → List (S76) → List (S76) → List (S76) → Int → Int → Option ((List (S76)))
 | 0, _, _, _, _, _ => none
 | k + 1, x1, x5, x8, x9, x10 => if x10 < x9 then (if 0 ≤ x10 then (if x10 < (x8.length : Int) then ((level_Put.f k ((rd_T76 x8 x10).f0) ((rd_T76 x8 x10).f1) ((rd_T76 x8 x10).f2) x1).bind fun bt249 => (if x5.length < 3518437208883 then (term_levels.l0 k x1 (x5 ++ [(⟨bt249.1, bt249.2.1, bt249.2.2⟩ : S76)]) x8 x9 (wrap64 (x10 + 1))) else (none))) else (none)) else (none)) else (some x5)
def term_levels.f (k : Nat) (l0 : List (S76)) (l1 : List (S76)) : Option ((List (S76))) := term_levels.l0 k l1 ([] : List (S76)) l0 (l0.length : Int) 0
set_option maxHeartbeats 8000000 in
set_option maxRecDepth 100000 in
theorem term_levels.calls (k : Nat) (A0 : Option Addr) (c0 : Nat) (l0 : List (S76)) (A1 : Option Addr) (c1 : Nat) (l1 : List (S76)) (r : List (S76)) (w : World) (hr0 : Kd.C k76 w A0 l0.length l0) (hc0 : l0.length ≤ c0) (hr1 : Kd.C k76 w A1 l1.length l1) (hc1 : l1.length ≤ c1) (h : term_levels.f k l0 l1 = some r) :
  Calls Try.prog 100 #[.slice A0 l0.length c0, .slice A1 l1.length c1] w fun e w' => ∃ v0_ : Value, e = .returned (v0_) ∧ Kd.R k76 76 w' w.heap.size (fun _ => True) v0_ r ∧ Below w.heap.size w w' := by
 have hu76 := Try.underlying76
 have HR0 := aS hr0
 have HC0 := aS hc0
 clear hr0 hc0
 have HR1 := aS hr1
 have HC1 := aS hc1
 clear hr1 hc1
 have HB := aS (Below.refl w.heap.size w)
 have H : (term_levels.l0 k l1 ([] : List (S76)) l0 (l0.length : Int) 0) = some r := h
 clear h
 have H' := aS H
 clear H
 go_enter Try.func100, Try.ntmps100
 go_wp2
 go_loopg [5, 10] k (fun kq v5 v10 w' => ∃ (x5_1 : List (S76)) (x10_1 : Int), v10 = .int .i64 x10_1 ∧ Aside0 (term_levels.l0 kq l1 x5_1 l0 (l0.length : Int) x10_1 = some r) ∧ Aside0 (kq ≤ k) ∧ Aside0 (Kd.R k76 76 w' w.heap.size (fun _ => True) v5 x5_1) ∧ Aside0 (Below w.heap.size w w'))
 case atStart => exact ⟨(([] : List (S76))), (0), br, H', ⟨Nat.le_refl _⟩, ⟨by first | exact Kd.R_nil _ _ _ _ _ | exact Kd.N_nil _ _ _ _ _ | exact Kd.V_nil _ _ _ _ _ | exact Kd.Q_nil _ _ _ _ _ | exact Kd.S_nil _ _ _ _ _⟩, ⟨hbk HB⟩⟩
 case round =>
  clear H'
  try clear c1
  try clear p2
  obtain ⟨x5_1, x10_1, rfl, HA, HK1, HO_5, HB⟩ := hrel
  cases gk with
  | zero => exact absurd HA.out (by simp [term_levels.l0])
  | succ k1 =>
   have H := HA.out
   clear HA
   simp only [term_levels.l0] at H
   by_cases c3 : x10_1 < (l0.length : Int)
   rotate_left
   ·rw [if_neg c3] at H
    have c3b0 : decide (x10_1 < (l0.length : Int)) = false := decide_eq_false c3
    clear c3
    obtain rfl := Option.some.inj H
    go_wp2
    go_ret
    exact ⟨_, by first | rfl | (simp [errW_none, errW_some] <;> rfl) | (simp [*, errW_none, errW_some] <;> rfl), by (with_reducible repeat (first | apply Kd.R_alloc | apply Kd.R_drewN | apply Kd.R_drew)); exact HO_5.out, hbk HB⟩
   rw [if_pos c3] at H
   have c3b0 : decide (x10_1 < (l0.length : Int)) = true := decide_eq_true c3
   clear c3
   by_cases c4 : 0 ≤ x10_1
   rotate_left
   ·rw [if_neg c4] at H
    exact absurd H (by simp)
   rw [if_pos c4] at H
   have c4b0 : decide (0 ≤ x10_1) = true := decide_eq_true c4
   clear c4
   by_cases c5 : x10_1 < (l0.length : Int)
   rotate_left
   ·rw [if_neg c5] at H
    exact absurd H (by simp)
   rw [if_pos c5] at H
   have c5b0 : decide (x10_1 < (l0.length : Int)) = true := decide_eq_true c5
   clear c5
   replace H := Option.bind_eq_some_iff.mp H
   obtain ⟨⟨t249, t250, t251⟩, A60, H⟩ := H
   try dsimp only at H
   have A6 := aS A60
   clear A60
   by_cases c7 : x5_1.length < 3518437208883
   rotate_left
   ·rw [if_neg c7] at H
    exact absurd H (by simp)
   rw [if_pos c7] at H
   have LMc7 := aS c7
   clear c7
   obtain ⟨y254, hy254⟩ : ∃ y_ : List (S76), y_ = (x5_1 ++ [(⟨t249, t250, t251⟩ : S76)]) := ⟨_, rfl⟩
   replace H : (term_levels.l0 k1 l1 y254 l0 (l0.length : Int) (wrap64 (x10_1 + 1))) = some r := by first | (rw [hy254]; with_reducible exact H) | (have H2_ := (Option.bind_some _ _).symm.trans H; rw [hy254]; with_reducible exact H2_) | (have H2_ := (Option.bind_some _ _).symm.trans H; with_reducible exact H2_) | with_reducible exact H | (rw [hy254]; exact H) | exact H
   have Ny254 := aS hy254
   clear hy254
   have H' := aS H
   clear H
   have p247 : 0 ≤ (x10_1 : Int) := of_decide_eq_true ba
   have q247 : x10_1 < (l0.length : Int) := of_decide_eq_true ba
   obtain ⟨ad247, A247_2, c247_2, e247, hx247_0, hx247_1, hx247_2, hl247_2, hi247_2⟩ := at_T76 HR0.out x10_1 p247 q247
   cases e247
   replace hx247_0 := (hc HB hx247_0 :)
   replace hx247_1 := (hc HB hx247_1 :)
   replace hx247_2 := (hc HB hx247_2 :)
   have HR247_2 := aS hi247_2
   have HC247_2 := aS hl247_2
   clear hi247_2 hl247_2
   replace p247 := eq_true p247
   replace q247 := eq_true q247
   go_wp2_with (first | ((with_reducible refine gate_dst (N := 7) rfl ?_); refine bx (N := 7) (t := 76) #[.int .i64 0, .int .i64 0, .slice none 0 0] ?_; intro gb248 hg w8 hbox hb; replace HO_5 := aS (Kd.R_below (Kd.R_elderB (kr_ HO_5.out) gb248 (Nat.le_of_eq hg.symm)) hb); have BK248 := aS (hbox); have GW248 := Gz hg HB; have GE248 := Gz hg HB; replace HB := Hs HB hb; clear hb hbox hg; obtain ⟨hcz9_0, hcz9_1, hcz9_2⟩ := cl3 BK248; obtain ⟨hfz9_0, hfz9_1, hfz9_2⟩ := fz3 BK248) | ((with_reducible refine gate_callee (f := 125) rfl ?_); refine goesL_ (some 17) rfl rfl Try.func125 (by kernel_rfl) rfl #[.agg #[.int .i64 ((rd_T76 l0 x10_1).f0), .int .i64 ((rd_T76 l0 x10_1).f1), .slice A247_2 ((rd_T76 l0 x10_1).f2).length c247_2], .slice A1 l1.length c1] rfl bl ?_; (with_reducible refine (level_Put.calls k1 ((rd_T76 l0 x10_1).f0) ((rd_T76 l0 x10_1).f1) _ _ ((rd_T76 l0 x10_1).f2) _ _ l1 t249 t250 t251 _ ?side1 ?side2 ?side3 ?side4 A6.out).mono ?_); (case side1 => exact Kd.C_below HR247_2.out (hbk HB)); (case side2 => exact HC247_2.out); (case side3 => exact Kd.C_below HR1.out (hbk HB)); (case side4 => exact HC1.out); rintro e w10 ⟨v252, rfl, ho0, hb⟩; refine ⟨_, rfl, ?_⟩; have HO253 := aS (Kd.R_lower (Kd.R_newB (Kd.R_new' ho0 (Kd.R_lt (by (with_reducible repeat (first | apply Kd.R_alloc | apply Kd.R_drewN | apply Kd.R_drew)); exact (Kd.R_mono (R3 (g := gb248) (Kd.R_mono HO_5.out (fun k_ hk => (⟨hk, hk.2⟩ : _ ∧ k_ ≠ gb248))) (fun _ hk => hk.2)) (fun _ h_ => h_.1))))) (g := gb248) (o := .cells #[.int .i64 ((rd_T76 l0 x10_1).f0), .int .i64 ((rd_T76 l0 x10_1).f1), .slice A247_2 ((rd_T76 l0 x10_1).f2).length c247_2] 76 (0, 0)) (bp3 BK248.out)) (below_size (hbk HB))); replace HO_5 := aS (Kd.R_elder' (by (with_reducible repeat (first | apply Kd.R_alloc | apply Kd.R_drewN | apply Kd.R_drew)); exact (Kd.R_mono (R3 (g := gb248) (Kd.R_mono HO_5.out (fun k_ hk => (⟨hk, hk.2⟩ : _ ∧ k_ ≠ gb248))) (fun _ hk => hk.2)) (fun _ h_ => h_.1))) (Kd.R_base ho0) hb); replace BK248 := aS (blk_below (g := gb248) (o := .cells #[.int .i64 ((rd_T76 l0 x10_1).f0), .int .i64 ((rd_T76 l0 x10_1).f1), .slice A247_2 ((rd_T76 l0 x10_1).f2).length c247_2] 76 (0, 0)) (bp3 BK248.out) hb); replace HB := Hs HB hb; (try clear hb); (try clear hb2); (try clear hk); (try clear hi); (try clear ho0); obtain ⟨Ao12, co12, eo12⟩ := Kd.R_slice HO253.out; subst eo12) | ((with_reducible refine gate_builtin (b := .append) (xs := #[.tmp 14, .tmp 18]) rfl ?_); at_builtin; refine Kd.R_append k76 (w0 := w) w.heap.size rfl (.tmp 14) (.tmp 18) 25 76 (.agg #[(.int .i64 0), (.int .i64 0), (.slice none 0 0)]) 40 rfl Try.underlying25 info76 rfl (by decide) (by omega) u5 x5_1 (⟨t249, t250, t251⟩ : S76) [.int .i64 t249, .int .i64 t250, .slice Ao12 t251.length co12] (fun k_ => k_ ≠ gb248) (fun k_ => ((fun k_ => k_ ≠ gb248)) k_ ∧ some k_ ≠ (u5 : Value).ownBlock) rfl rfl ?aP (fun _ hk => hk) ?aF ?aO ?aB ?aS ?aL ?_; (case aP => exact k76_mkM _ _ _ (⟨t249, t250, t251⟩ : S76) (Kd.R_mono (HO253.out) (fun k_ hk => ⟨hk.2, hk.1.2⟩))); (case aB => exact (hbk HB)); (case aF => exact (fun k_ hk => Kd.freshB (bkw BK248) k_ hk)); (case aO => exact (by (with_reducible repeat (first | apply Kd.R_alloc | apply Kd.R_drewN | apply Kd.R_drew)); exact Kd.R_mono HO_5.out (fun _ hk => hk.1.2))); (case aS => exact (below_size (hbk HB))); (case aL => have := LMc7.out; omega); intro v255 w11 ho hb hg hat; rw [← Ny254.out] at ho; replace BK248 := aS (blk_grown (bkw BK248) hg (Kd.R_away HO_5.out (fun _ hk => hk.1.2))); replace HB := aS (hb); have HO256 := aS (ho); clear HO_5 HO253; clear ho hb hg hat))
   go_roundg k1
   case measure => have := HK1.out; omega
   case rel => exact ⟨(y254), (wrap64 (x10_1 + 1)), br, H', ⟨by have := HK1.out; omega⟩, ⟨by (with_reducible repeat (first | apply Kd.R_alloc | apply Kd.R_drewN | apply Kd.R_drew)); exact Kd.R_mono HO256.out (fun _ hk => trivial)⟩, ⟨hbk HB⟩⟩
def term_binds.f (a0 : Int) (a1 : Int) : Option (Int) := if a0 = 4 then (if a1 = 1 then (some 1) else (if a0 = 6 then (if a1 = 2 then (some 1) else (some 0)) else (some 0))) else (if a0 = 5 then (if a1 = 1 then (some 1) else (if a0 = 6 then (if a1 = 2 then (some 1) else (some 0)) else (some 0))) else (if a0 = 6 then (if a1 = 2 then (some 1) else (some 0)) else (some 0)))
set_option maxHeartbeats 8000000 in
set_option maxRecDepth 100000 in
theorem term_binds.calls (a0 : Int) (a1 : Int) (r : Int) (w : World) (h : term_binds.f a0 a1 = some r) :
  Calls Try.prog 118 #[.int .i64 a0, .int .i64 a1] w fun e w' => e = .returned (.int .i64 r) ∧ Drawn0 w w' := by
 have H : (if a0 = 4 then (if a1 = 1 then (some 1) else (if a0 = 6 then (if a1 = 2 then (some 1) else (some 0)) else (some 0))) else (if a0 = 5 then (if a1 = 1 then (some 1) else (if a0 = 6 then (if a1 = 2 then (some 1) else (some 0)) else (some 0))) else (if a0 = 6 then (if a1 = 2 then (some 1) else (some 0)) else (some 0)))) = some r := h
 clear h
 by_cases c3 : a0 = 4
 ·rw [if_pos c3] at H
  have c3b0 : (a0 == 4) = true := beq_iff_eq.mpr c3
  have c3b1 : (a0 != 4) = false := bne_eq_false_iff_eq.mpr c3
  clear c3
  by_cases c4 : a1 = 1
  ·rw [if_pos c4] at H
   have c4b0 : (a1 == 1) = true := beq_iff_eq.mpr c4
   have c4b1 : (a1 != 1) = false := bne_eq_false_iff_eq.mpr c4
   clear c4
   obtain rfl := Option.some.inj H
   go_enter Try.func118, Try.ntmps118
   go_wp2
   go_ret
   exact ⟨by first | rfl | (simp; done) | (simp [*]; done), by repeat (first | exact Drawn0.refl _ | apply Drawn0.step)⟩
  rw [if_neg c4] at H
  have c4b0 : (a1 == 1) = false := beq_eq_false_iff_ne.mpr c4
  have c4b1 : (a1 != 1) = true := bne_iff_ne.mpr c4
  by_cases c5 : a0 = 6
  rotate_left
  ·rw [if_neg c5] at H
   have c5b0 : (a0 == 6) = false := beq_eq_false_iff_ne.mpr c5
   have c5b1 : (a0 != 6) = true := bne_iff_ne.mpr c5
   obtain rfl := Option.some.inj H
   go_enter Try.func118, Try.ntmps118
   go_wp2
   go_ret
   exact ⟨by first | rfl | (simp; done) | (simp [*]; done), by repeat (first | exact Drawn0.refl _ | apply Drawn0.step)⟩
  rw [if_pos c5] at H
  have c5b0 : (a0 == 6) = true := beq_iff_eq.mpr c5
  have c5b1 : (a0 != 6) = false := bne_eq_false_iff_eq.mpr c5
  clear c5
  by_cases c6 : a1 = 2
  rotate_left
  ·rw [if_neg c6] at H
   have c6b0 : (a1 == 2) = false := beq_eq_false_iff_ne.mpr c6
   have c6b1 : (a1 != 2) = true := bne_iff_ne.mpr c6
   obtain rfl := Option.some.inj H
   go_enter Try.func118, Try.ntmps118
   go_wp2
   go_ret
   exact ⟨by first | rfl | (simp; done) | (simp [*]; done), by repeat (first | exact Drawn0.refl _ | apply Drawn0.step)⟩
  rw [if_pos c6] at H
  have c6b0 : (a1 == 2) = true := beq_iff_eq.mpr c6
  have c6b1 : (a1 != 2) = false := bne_eq_false_iff_eq.mpr c6
  clear c6
  obtain rfl := Option.some.inj H
  go_enter Try.func118, Try.ntmps118
  go_wp2
  go_ret
  exact ⟨by first | rfl | (simp; done) | (simp [*]; done), by repeat (first | exact Drawn0.refl _ | apply Drawn0.step)⟩
 rw [if_neg c3] at H
 have c3b0 : (a0 == 4) = false := beq_eq_false_iff_ne.mpr c3
 have c3b1 : (a0 != 4) = true := bne_iff_ne.mpr c3
 by_cases c7 : a0 = 5
 rotate_left
 ·rw [if_neg c7] at H
  have c7b0 : (a0 == 5) = false := beq_eq_false_iff_ne.mpr c7
  have c7b1 : (a0 != 5) = true := bne_iff_ne.mpr c7
  by_cases c11 : a0 = 6
  rotate_left
  ·rw [if_neg c11] at H
   have c11b0 : (a0 == 6) = false := beq_eq_false_iff_ne.mpr c11
   have c11b1 : (a0 != 6) = true := bne_iff_ne.mpr c11
   obtain rfl := Option.some.inj H
   go_enter Try.func118, Try.ntmps118
   go_wp2
   go_ret
   exact ⟨by first | rfl | (simp; done) | (simp [*]; done), by repeat (first | exact Drawn0.refl _ | apply Drawn0.step)⟩
  rw [if_pos c11] at H
  have c11b0 : (a0 == 6) = true := beq_iff_eq.mpr c11
  have c11b1 : (a0 != 6) = false := bne_eq_false_iff_eq.mpr c11
  clear c11
  by_cases c12 : a1 = 2
  rotate_left
  ·rw [if_neg c12] at H
   have c12b0 : (a1 == 2) = false := beq_eq_false_iff_ne.mpr c12
   have c12b1 : (a1 != 2) = true := bne_iff_ne.mpr c12
   obtain rfl := Option.some.inj H
   go_enter Try.func118, Try.ntmps118
   go_wp2
   go_ret
   exact ⟨by first | rfl | (simp; done) | (simp [*]; done), by repeat (first | exact Drawn0.refl _ | apply Drawn0.step)⟩
  rw [if_pos c12] at H
  have c12b0 : (a1 == 2) = true := beq_iff_eq.mpr c12
  have c12b1 : (a1 != 2) = false := bne_eq_false_iff_eq.mpr c12
  clear c12
  obtain rfl := Option.some.inj H
  go_enter Try.func118, Try.ntmps118
  go_wp2
  go_ret
  exact ⟨by first | rfl | (simp; done) | (simp [*]; done), by repeat (first | exact Drawn0.refl _ | apply Drawn0.step)⟩
 rw [if_pos c7] at H
 have c7b0 : (a0 == 5) = true := beq_iff_eq.mpr c7
 have c7b1 : (a0 != 5) = false := bne_eq_false_iff_eq.mpr c7
 clear c7
 by_cases c8 : a1 = 1
 ·rw [if_pos c8] at H
  have c8b0 : (a1 == 1) = true := beq_iff_eq.mpr c8
  have c8b1 : (a1 != 1) = false := bne_eq_false_iff_eq.mpr c8
  clear c8
  obtain rfl := Option.some.inj H
  go_enter Try.func118, Try.ntmps118
  go_wp2
  go_ret
  exact ⟨by first | rfl | (simp; done) | (simp [*]; done), by repeat (first | exact Drawn0.refl _ | apply Drawn0.step)⟩
 rw [if_neg c8] at H
 have c8b0 : (a1 == 1) = false := beq_eq_false_iff_ne.mpr c8
 have c8b1 : (a1 != 1) = true := bne_iff_ne.mpr c8
 by_cases c9 : a0 = 6
 rotate_left
 ·rw [if_neg c9] at H
  have c9b0 : (a0 == 6) = false := beq_eq_false_iff_ne.mpr c9
  have c9b1 : (a0 != 6) = true := bne_iff_ne.mpr c9
  obtain rfl := Option.some.inj H
  go_enter Try.func118, Try.ntmps118
  go_wp2
  go_ret
  exact ⟨by first | rfl | (simp; done) | (simp [*]; done), by repeat (first | exact Drawn0.refl _ | apply Drawn0.step)⟩
 rw [if_pos c9] at H
 have c9b0 : (a0 == 6) = true := beq_iff_eq.mpr c9
 have c9b1 : (a0 != 6) = false := bne_eq_false_iff_eq.mpr c9
 clear c9
 by_cases c10 : a1 = 2
 rotate_left
 ·rw [if_neg c10] at H
  have c10b0 : (a1 == 2) = false := beq_eq_false_iff_ne.mpr c10
  have c10b1 : (a1 != 2) = true := bne_iff_ne.mpr c10
  obtain rfl := Option.some.inj H
  go_enter Try.func118, Try.ntmps118
  go_wp2
  go_ret
  exact ⟨by first | rfl | (simp; done) | (simp [*]; done), by repeat (first | exact Drawn0.refl _ | apply Drawn0.step)⟩
 rw [if_pos c10] at H
 have c10b0 : (a1 == 2) = true := beq_iff_eq.mpr c10
 have c10b1 : (a1 != 2) = false := bne_eq_false_iff_eq.mpr c10
 clear c10
 obtain rfl := Option.some.inj H
 go_enter Try.func118, Try.ntmps118
 go_wp2
 go_ret
 exact ⟨by first | rfl | (simp; done) | (simp [*]; done), by repeat (first | exact Drawn0.refl _ | apply Drawn0.step)⟩
end Go.Proofs.Ytpejhapgffcngaa.QK

