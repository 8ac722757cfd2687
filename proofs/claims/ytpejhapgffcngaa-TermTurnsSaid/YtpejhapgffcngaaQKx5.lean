/- Words and walks of this claim. -/
import Derived.Test.YtpejhapgffcngaaXShort
import Derived.Test.YtpejhapgffcngaaQKApart
import Derived.Test.YtpejhapgffcngaaQKx4
namespace Go.Proofs.Ytpejhapgffcngaa.QK
open Go.RowKit Go.Proofs.YtpejhapgffcngaaW.PrintWords Go.Proofs.YtpejhapgffcngaaW.PrintLast Go.Proofs.YtpejhapgffcngaaW.PrintMore
attribute [local go_sem] max2_int min2_int max_two min_two max_three min_three max_four min_four
set_option linter.unusedVariables false
set_option linter.unusedSimpArgs false
mutual
def touchstoneref5_lift.j0 : Nat → Int → Int → Bool → Int → Int → ByteArray → List (S76) → List (S27) → Int → Int → ByteArray → List (S76) → List (S27) → Option (Int × Int × ByteArray × (List (S76)) × (List (S27)))
 | 0, _, _, _, _, _, _, _, _, _, _, _, _, _ => none
 | k + 1, x1, x2, x19, x145000, x145001, x145002, x145003, x145004, x156000, x156001, x156002, x156003, x156004 => if x19 = true then (touchstoneref5_lift.j1 k x1 x2 x145000 x145001 x145002 x145003 x145004 x156000 (wrap64 (x145001 + x1)) x156002 x156003 x156004) else (touchstoneref5_lift.j1 k x1 x2 x145000 x145001 x145002 x145003 x145004 x156000 x156001 x156002 x156003 x156004)
def touchstoneref5_lift.j1 : Nat → Int → Int → Int → Int → ByteArray → List (S76) → List (S27) → Int → Int → ByteArray → List (S76) → List (S27) → Option (Int × Int × ByteArray × (List (S76)) × (List (S27)))
 | 0, _, _, _, _, _, _, _, _, _, _, _, _ => none
 | k + 1, x1, x2, x145000, x145001, x145002, x145003, x145004, x156000, x156001, x156002, x156003, x156004 => touchstoneref5_lift.l0 k x1 x2 0 x145000 x145001 x145002 x145003 x145004 x156000 x156001 x156002 x156003 x156004
def touchstoneref5_lift.l0 : Nat → Int → Int → Int → Int → Int → ByteArray → List (S76) → List (S27) → Int → Int → ByteArray → List (S76) → List (S27) → Option (Int × Int × ByteArray × (List (S76)) × (List (S27)))
 | 0, _, _, _, _, _, _, _, _, _, _, _, _, _ => none
 | k + 1, x1, x2, x8, x145000, x145001, x145002, x145003, x145004, x156000, x156001, x156002, x156003, x156004 => if x8 < (x145004.length : Int) then (if 0 ≤ x8 then ((touchstoneref5_Binds.f x145000 x8).bind fun t157 => ((touchstoneref5_lift.f k ((rd_T27 x145004 x8).f0) ((rd_T27 x145004 x8).f1) ((rd_T27 x145004 x8).f2) ((rd_T27 x145004 x8).f3) ((rd_T27 x145004 x8).f4) x1 (wrap64 (x2 + t157))).bind fun bt158 => (if x156004.length < 1759218604441 then (touchstoneref5_lift.l0 k x1 x2 (wrap64 (x8 + 1)) x145000 x145001 x145002 x145003 x145004 x156000 x156001 x156002 x156003 (x156004 ++ [(⟨bt158.1, bt158.2.1, bt158.2.2.1, bt158.2.2.2.1, bt158.2.2.2.2⟩ : S27)])) else (none)))) else (none)) else (some (x156000, x156001, x156002, x156003, x156004))
def touchstoneref5_lift.f : Nat → Int → Int → ByteArray → List (S76) → List (S27) → Int → Int → Option (Int × Int × ByteArray × (List (S76)) × (List (S27)))
 | 0, _, _, _, _, _, _, _ => none
 | k + 1, a0_0, a0_1, a0_2, l0_3, l0_4, a1, a2 => (touchstoneref5_leaf.f k a0_0 a0_1 a0_2 l0_3 l0_4).bind fun bt146 => (if a0_0 = 0 then (touchstoneref5_lift.j0 k a1 a2 (decide (a0_1 ≥ a2)) a0_0 a0_1 a0_2 l0_3 l0_4 bt146.1 bt146.2.1 bt146.2.2.1 bt146.2.2.2.1 bt146.2.2.2.2) else (touchstoneref5_lift.j0 k a1 a2 false a0_0 a0_1 a0_2 l0_3 l0_4 bt146.1 bt146.2.1 bt146.2.2.1 bt146.2.2.2.1 bt146.2.2.2.2))
end
def touchstoneref5_lift.T7 : Bool × List (List Nat × List Nat) := (true, [([], []), ([0], [0]), ([], []), ([2], [2]), ([], []), ([3, 4], [3, 4]), ([5], [5]), ([], []), ([], []), ([], []), ([9], [9]), ([], []), ([10, 11], [10, 11]), ([8, 12], [8, 12]), ([6, 7, 13, 12], [6, 7, 13]), ([14], [14]), ([1, 15, 14], [1, 15]), ([0, 1, 2, 3, 4, 5, 6, 7, 8, 9, 10, 11, 12, 13, 14, 15, 16], []), ([17, 16, 16, 0, 1, 2, 3, 4, 5, 6, 7, 8, 9, 10, 11, 12, 13, 14, 15, 16], [16, 17])])
def touchstoneref5_lift.B7 : List Nat := [0, 1, 0, 4, 0, 28, 60, 0, 0, 0, 512, 0, 3584, 7936, 16380, 32764, 65535, 131071, 262143]
theorem touchstoneref5_lift.tab7 : rtab .any (opsOf Try.f79 7) = touchstoneref5_lift.T7 := by kernel_rfl
theorem touchstoneref5_lift.bits7 : waitsOk touchstoneref5_lift.T7.2 touchstoneref5_lift.B7 = true := by kernel_rfl
set_option maxHeartbeats 8000000 in
set_option maxRecDepth 100000 in
theorem touchstoneref5_lift.calls (k : Nat) : ∀ (a0_0 : Int) (a0_1 : Int) (a0_2 : ByteArray) (A0_3 : Option Addr) (c0_3 : Nat) (l0_3 : List (S76)) (A0_4 : Option Addr) (c0_4 : Nat) (l0_4 : List (S27)) (a1 : Int) (a2 : Int) (r1 : Int) (r2 : Int) (r3 : ByteArray) (r4 : List (S76)) (r5 : List (S27)) (w : World) (hr0_3 : Kd.C k76 w A0_3 l0_3.length l0_3) (hc0_3 : l0_3.length ≤ c0_3) (hr0_4 : Kd.C k27 w A0_4 l0_4.length l0_4) (hc0_4 : l0_4.length ≤ c0_4) (h : touchstoneref5_lift.f k a0_0 a0_1 a0_2 l0_3 l0_4 a1 a2 = some (r1, r2, r3, r4, r5)),
  Calls Try.prog 79 #[.agg #[.int .i64 a0_0, .int .i64 a0_1, .string a0_2, .slice A0_3 l0_3.length c0_3, .slice A0_4 l0_4.length c0_4], .int .i64 a1, .int .i64 a2] w fun e w' => ∃ v3_ v4_ : Value, e = .returned (.agg #[.int .i64 r1, .int .i64 r2, .string r3, v3_, v4_]) ∧ Kd.R k76 76 w' w.heap.size (fun _ => True) v3_ r4 ∧ Kd.R k27 27 w' w.heap.size (fun k_ => some k_ ≠ (v3_ : Value).ownBlock) v4_ r5 ∧ Below w.heap.size w w' := by
 induction k using Nat.strongRecOn with
 | _ k ih =>
 intro a0_0 a0_1 a0_2 A0_3 c0_3 l0_3 A0_4 c0_4 l0_4 a1 a2 r1 r2 r3 r4 r5 w hr0_3 hc0_3 hr0_4 hc0_4 h
 cases k with
 | zero => exact absurd h (by simp [touchstoneref5_lift.f])
 | succ k =>
 simp only [touchstoneref5_lift.f] at h
 have hu27 := Try.underlying27
 have HR0_3 := aS hr0_3
 have HC0_3 := aS hc0_3
 clear hr0_3 hc0_3
 have HR0_4 := aS hr0_4
 have HC0_4 := aS hc0_4
 clear hr0_4 hc0_4
 have HB := aS (Below.refl w.heap.size w)
 have H : ((touchstoneref5_leaf.f k a0_0 a0_1 a0_2 l0_3 l0_4).bind fun bt146 => (if a0_0 = 0 then (touchstoneref5_lift.j0 k a1 a2 (decide (a0_1 ≥ a2)) a0_0 a0_1 a0_2 l0_3 l0_4 bt146.1 bt146.2.1 bt146.2.2.1 bt146.2.2.2.1 bt146.2.2.2.2) else (touchstoneref5_lift.j0 k a1 a2 false a0_0 a0_1 a0_2 l0_3 l0_4 bt146.1 bt146.2.1 bt146.2.2.1 bt146.2.2.2.1 bt146.2.2.2.2))) = some (r1, r2, r3, r4, r5) := h
 clear h
 replace H := Option.bind_eq_some_iff.mp H
 obtain ⟨⟨t146, t147, t148, t149, t152⟩, A40, H⟩ := H
 try dsimp only at H
 have A4 := aS A40
 clear A40
 have HC5 := aS H
 clear H
 go_enter Try.func79, Try.ntmps79
 go_upto_region 2 with (first | ((with_reducible refine gate_dst (N := 3) rfl ?_); refine bx (N := 3) (t := 27) #[.int .i64 a0_0, .int .i64 a0_1, .string a0_2, .slice A0_3 l0_3.length c0_3, .slice A0_4 l0_4.length c0_4] ?_; intro gb144 hg w6 hbox hb; have BK144 := aS (hbox); have GW144 := Gz hg HB; have GE144 := Gz hg HB; replace HB := Hs HB hb; clear hb hbox hg) | ((with_reducible refine gate_dst (N := 6) rfl ?_); refine bx (N := 6) (t := 27) #[.int .i64 0, .int .i64 0, .string (⟨#[]⟩ : ByteArray), .slice none 0 0, .slice none 0 0] ?_; intro gb145 hg w7 hbox hb; have BK145 := aS (hbox); have GW145 := Gz hg HB; have GE145 := Gz hg HB; replace HB := Hs HB hb; have NB144_145 := aS ((by rw [hg]; exact Nat.ne_of_lt (blk_lt (bkw BK144)) : gb144 ≠ gb145)); have NB145_144 := aS ((by rw [hg]; exact Nat.ne_of_gt (blk_lt (bkw BK144)) : gb145 ≠ gb144)); replace BK144 := Bk BK144 hb; clear hb hbox hg; have hnb8 := NB144_145.out; have hnc8 := NB145_144.out; obtain ⟨hcz9_0, hcz9_1, hcz9_2, hcz9_3, hcz9_4⟩ := cl5 BK144; obtain ⟨hfz9_0, hfz9_1, hfz9_2, hfz9_3, hfz9_4⟩ := fz5 BK144) | ((with_reducible refine gate_callee (f := 101) rfl ?_); refine goesL_ (some 10) rfl rfl Try.func101 (by kernel_rfl) rfl #[.agg #[.int .i64 a0_0, .int .i64 a0_1, .string a0_2, .slice A0_3 l0_3.length c0_3, .slice A0_4 l0_4.length c0_4]] rfl bl ?_; (with_reducible refine (touchstoneref5_leaf.calls k a0_0 a0_1 a0_2 _ _ l0_3 _ _ l0_4 t146 t147 t148 t149 t152 _ ?side1 ?side2 ?side3 ?side4 A4.out).mono ?_); (case side1 => exact cr (Kd.C_below HR0_3.out HB.out)); (case side2 => exact HC0_3.out); (case side3 => exact cr (Kd.C_below HR0_4.out HB.out)); (case side4 => exact HC0_4.out); rintro e w10 ⟨v150, v153, rfl, ho0, ho1, hb⟩; refine ⟨_, rfl, ?_⟩; have HO151 := aS (Kd.R_lower ho0 (below_size (hbk HB))); have HO154 := aS (Kd.R_lower (Kd.R_newB (Kd.R_newB ho1 (bkw BK144)) (bkw BK145)) (below_size (hbk HB))); replace BK144 := Bk BK144 hb; replace BK145 := Bk BK145 hb; replace HB := Hs HB hb; (try clear hb); (try clear hb2); (try clear hk); (try clear hi); (try clear ho0); (try clear ho1)) | ((with_reducible refine gate_dst (N := 7) rfl ?_); refine bx (N := 7) (t := 27) #[.int .i64 0, .int .i64 0, .string (⟨#[]⟩ : ByteArray), .slice none 0 0, .slice none 0 0] ?_; intro gb155 hg w11 hbox hb; replace HO151 := aS (Kd.R_below (kr_ HO151.out) hb); replace HO154 := aS (Kd.R_below (Kd.R_elderB (kr_ HO154.out) gb155 (Nat.le_of_eq hg.symm)) hb); have BK155 := aS (hbox); have GW155 := Gz hg HB; have GE155 := Gz hg HB; replace HB := Hs HB hb; have NB144_155 := aS ((by rw [hg]; exact Nat.ne_of_lt (blk_lt (bkw BK144)) : gb144 ≠ gb155)); have NB155_144 := aS ((by rw [hg]; exact Nat.ne_of_gt (blk_lt (bkw BK144)) : gb155 ≠ gb144)); replace BK144 := Bk BK144 hb; have NB145_155 := aS ((by rw [hg]; exact Nat.ne_of_lt (blk_lt (bkw BK145)) : gb145 ≠ gb155)); have NB155_145 := aS ((by rw [hg]; exact Nat.ne_of_gt (blk_lt (bkw BK145)) : gb155 ≠ gb145)); replace BK145 := Bk BK145 hb; clear hb hbox hg; have hnb12 := NB155_144.out; have hnc12 := NB144_155.out; have hnb13 := NB155_145.out; have hnc13 := NB145_155.out; obtain ⟨hcz14_0, hcz14_1, hcz14_2, hcz14_3, hcz14_4⟩ := cl5 BK155; obtain ⟨hfz14_0, hfz14_1, hfz14_2, hfz14_3, hfz14_4⟩ := fz5 BK155; obtain ⟨Ao15, co15, eo15⟩ := Kd.R_slice HO151.out; subst eo15; obtain ⟨Ao16, co16, eo16⟩ := Kd.R_slice HO154.out; subst eo16))
 (try simp only [Act.put, List.setIfInBounds_toArray, List.set_cons_zero, List.set_cons_succ])
 go_cut [19] (fun v19 wc => ∃ (kq : Nat) (x19_4 : Bool), v19 = .bool x19_4 ∧ Aside0 (touchstoneref5_lift.j0 kq a1 a2 x19_4 a0_0 a0_1 a0_2 l0_3 l0_4 t146 t147 t148 t149 t152 = some (r1, r2, r3, r4, r5)) ∧ Aside0 (kq ≤ k) ∧ Aside0 (Kd.R k76 76 wc w.heap.size (fun _ => True) (.slice Ao15 t149.length co15) t149) ∧ Aside0 (Kd.R k27 27 wc w.heap.size (fun k_ => some k_ ≠ ((.slice Ao15 t149.length co15) : Value).ownBlock ∧ k_ ≠ gb144 ∧ k_ ≠ gb145 ∧ k_ ≠ gb155) (.slice Ao16 t152.length co16) t152) ∧ Aside0 (wc.heap[gb144]? = some (.cells #[.int .i64 a0_0, .int .i64 a0_1, .string a0_2, (.slice A0_3 l0_3.length c0_3), (.slice A0_4 l0_4.length c0_4)] 27 (0, 0))) ∧ Aside0 (wc.heap[gb145]? = some (.cells #[.int .i64 0, .int .i64 0, .string (⟨#[]⟩ : ByteArray), (.slice none 0 0), (.slice none 0 0)] 27 (0, 0))) ∧ Aside0 (wc.heap[gb155]? = some (.cells #[.int .i64 t146, .int .i64 t147, .string t148, (.slice Ao15 t149.length co15), (.slice Ao16 t152.length co16)] 27 (0, 0))) ∧ Aside0 (Below w.heap.size w wc))
 case first =>
  have H := HC5.out
  clear HC5
  by_cases c17 : a0_0 = 0
  rotate_left
  ·rw [if_neg c17] at H
   have c17b0 : (a0_0 == 0) = false := beq_eq_false_iff_ne.mpr c17
   have c17b1 : (a0_0 != 0) = true := bne_iff_ne.mpr c17
   (first | rw [c17b0] | (simp only [i64_w, i32_w]; rw [c17b0]) | skip)
   have H' := aS H
   clear H
   have hnb21 := NB144_145.out
   have hnc21 := NB145_144.out
   have hnb22 := NB144_155.out
   have hnc22 := NB155_144.out
   obtain ⟨hcz23_0, hcz23_1, hcz23_2, hcz23_3, hcz23_4⟩ := cl5 BK144
   obtain ⟨hfz23_0, hfz23_1, hfz23_2, hfz23_3, hfz23_4⟩ := fz5 BK144
   go_wp2
   go_meet
   case rel => exact ⟨_, (false), br, H', ⟨by first | omega | exact Nat.le_refl _⟩, ⟨by (with_reducible repeat (first | apply Kd.R_alloc | apply Kd.R_drewN | apply Kd.R_drew)); exact Kd.R_mono (R5 (g := gb155) (Kd.R_types HO151.out BK155.out (by decide)) (fun _ hk => hk.2)) (fun _ hk => trivial)⟩, ⟨by (with_reducible repeat (first | apply Kd.R_alloc | apply Kd.R_drewN | apply Kd.R_drew)); exact Kd.R_mono (R5 (g := gb155) (Kd.R_mono HO154.out (fun k_ hk => (⟨hk, hk.2⟩ : _ ∧ k_ ≠ gb155))) (fun _ hk => hk.2)) (fun _ hk => ⟨hk.1.1.1.1, ⟨hk.1.1.1.2, ⟨hk.1.1.2, hk.1.2⟩⟩⟩)⟩, ⟨bf5 BK144.out NB144_155.out⟩, ⟨bf5 BK145.out NB145_155.out⟩, ⟨bp5 BK155.out⟩, ⟨hbk HB⟩⟩
  rw [if_pos c17] at H
  have c17b0 : (a0_0 == 0) = true := beq_iff_eq.mpr c17
  have c17b1 : (a0_0 != 0) = false := bne_eq_false_iff_eq.mpr c17
  clear c17
  (first | rw [c17b0] | (simp only [i64_w, i32_w]; rw [c17b0]) | skip)
  have H' := aS H
  clear H
  have hnb18 := NB144_145.out
  have hnc18 := NB145_144.out
  have hnb19 := NB144_155.out
  have hnc19 := NB155_144.out
  obtain ⟨hcz20_0, hcz20_1, hcz20_2, hcz20_3, hcz20_4⟩ := cl5 BK144
  obtain ⟨hfz20_0, hfz20_1, hfz20_2, hfz20_3, hfz20_4⟩ := fz5 BK144
  go_wp2
  go_meet
  case rel => exact ⟨_, (decide (a0_1 ≥ a2)), br, H', ⟨by first | omega | exact Nat.le_refl _⟩, ⟨by (with_reducible repeat (first | apply Kd.R_alloc | apply Kd.R_drewN | apply Kd.R_drew)); exact Kd.R_mono (R5 (g := gb155) (Kd.R_types HO151.out BK155.out (by decide)) (fun _ hk => hk.2)) (fun _ hk => trivial)⟩, ⟨by (with_reducible repeat (first | apply Kd.R_alloc | apply Kd.R_drewN | apply Kd.R_drew)); exact Kd.R_mono (R5 (g := gb155) (Kd.R_mono HO154.out (fun k_ hk => (⟨hk, hk.2⟩ : _ ∧ k_ ≠ gb155))) (fun _ hk => hk.2)) (fun _ hk => ⟨hk.1.1.1.1, ⟨hk.1.1.1.2, ⟨hk.1.1.2, hk.1.2⟩⟩⟩)⟩, ⟨bf5 BK144.out NB144_155.out⟩, ⟨bf5 BK145.out NB145_155.out⟩, ⟨bp5 BK155.out⟩, ⟨hbk HB⟩⟩
 case rest =>
  clear HC5
  try clear c1
  try clear c2
  try clear p2
  try clear c7
  try clear c8
  try clear c10
  try clear c12
  try clear c13
  try clear c17
  try clear c17b0
  try clear c17b1
  try clear c18
  try clear c19
  try clear c21
  try clear c22
  try clear hcz14_0 hcz14_1 hcz14_2 hcz14_3 hcz14_4
  try clear hcz20_0 hcz20_1 hcz20_2 hcz20_3 hcz20_4
  try clear hcz23_0 hcz23_1 hcz23_2 hcz23_3 hcz23_4
  try clear hcz9_0 hcz9_1 hcz9_2 hcz9_3 hcz9_4
  try clear hfz14_0 hfz14_1 hfz14_2 hfz14_3 hfz14_4
  try clear hfz20_0 hfz20_1 hfz20_2 hfz20_3 hfz20_4
  try clear hfz23_0 hfz23_1 hfz23_2 hfz23_3 hfz23_4
  try clear hfz9_0 hfz9_1 hfz9_2 hfz9_3 hfz9_4
  obtain ⟨kq, x19_4, rfl, HA, HJ4, HO_156003, HO_156004, BK144, BK145, BK155, HB⟩ := hcut
  cases kq with
  | zero => exact absurd HA.out (by simp [touchstoneref5_lift.j0])
  | succ kj4 =>
   have H := HA.out
   clear HA
   simp only [touchstoneref5_lift.j0] at H
   have HC24 := aS H
   clear H
   go_upto_if 19 with (fail)
   go_cut [] (fun wc => ∃ (kq : Nat) (x156001_23 : Int), Aside0 (touchstoneref5_lift.j1 kq a1 a2 a0_0 a0_1 a0_2 l0_3 l0_4 t146 x156001_23 t148 t149 t152 = some (r1, r2, r3, r4, r5)) ∧ Aside0 (kq ≤ kj4) ∧ Aside0 (Kd.R k76 76 wc w.heap.size (fun _ => True) (.slice Ao15 t149.length co15) t149) ∧ Aside0 (Kd.R k27 27 wc w.heap.size (fun k_ => some k_ ≠ ((.slice Ao15 t149.length co15) : Value).ownBlock ∧ k_ ≠ gb144 ∧ k_ ≠ gb145 ∧ k_ ≠ gb155) (.slice Ao16 t152.length co16) t152) ∧ Aside0 (wc.heap[gb144]? = some (.cells #[.int .i64 a0_0, .int .i64 a0_1, .string a0_2, (.slice A0_3 l0_3.length c0_3), (.slice A0_4 l0_4.length c0_4)] 27 (0, 0))) ∧ Aside0 (wc.heap[gb145]? = some (.cells #[.int .i64 0, .int .i64 0, .string (⟨#[]⟩ : ByteArray), (.slice none 0 0), (.slice none 0 0)] 27 (0, 0))) ∧ Aside0 (wc.heap[gb155]? = some (.cells #[.int .i64 t146, .int .i64 x156001_23, .string t148, (.slice Ao15 t149.length co15), (.slice Ao16 t152.length co16)] 27 (0, 0))) ∧ Aside0 (Below w.heap.size w wc))
   case first =>
    have H := HC24.out
    clear HC24
    by_cases c25 : x19_4 = true
    rotate_left
    ·replace c25 := Bool.eq_false_iff.mpr c25
     subst c25
     have H1 : (touchstoneref5_lift.j1 kj4 a1 a2 a0_0 a0_1 a0_2 l0_3 l0_4 t146 t147 t148 t149 t152) = some (r1, r2, r3, r4, r5) := by rw [if_neg (show ¬ (false = true) by decide)] at H; exact H
     clear H
     have H := H1
     clear H1
     have H' := aS H
     clear H
     go_wp2
     go_meet
     case rel => exact ⟨_, (t147), H', ⟨by have := HJ4.out; first | omega | exact Nat.le_refl _⟩, ⟨kr_ HO_156003.out⟩, ⟨kr_ HO_156004.out⟩, ⟨bk BK144.out⟩, ⟨bk BK145.out⟩, ⟨bk BK155.out⟩, ⟨hbk HB⟩⟩
    subst c25
    have H1 : (touchstoneref5_lift.j1 kj4 a1 a2 a0_0 a0_1 a0_2 l0_3 l0_4 t146 (wrap64 (a0_1 + a1)) t148 t149 t152) = some (r1, r2, r3, r4, r5) := by rw [if_pos rfl] at H; exact H
    clear H
    have H := H1
    clear H1
    have H' := aS H
    clear H
    have hnb26 := NB144_145.out
    have hnc26 := NB145_144.out
    have hnb27 := NB144_155.out
    have hnc27 := NB155_144.out
    obtain ⟨hcz28_0, hcz28_1, hcz28_2, hcz28_3, hcz28_4⟩ := cl5 BK144
    obtain ⟨hfz28_0, hfz28_1, hfz28_2, hfz28_3, hfz28_4⟩ := fz5 BK144
    have hnb29 := NB155_145.out
    have hnc29 := NB145_155.out
    obtain ⟨hcz30_0, hcz30_1, hcz30_2, hcz30_3, hcz30_4⟩ := cl5 BK155
    obtain ⟨hfz30_0, hfz30_1, hfz30_2, hfz30_3, hfz30_4⟩ := fz5 BK155
    go_wp2
    go_meet
    case rel => exact ⟨_, (wrap64 (a0_1 + a1)), H', ⟨by have := HJ4.out; first | omega | exact Nat.le_refl _⟩, ⟨by (with_reducible repeat (first | apply Kd.R_alloc | apply Kd.R_drewN | apply Kd.R_drew)); exact Kd.R_mono (Kd.R_far (p := ⟨gb155, 1, none⟩) (Kd.R_types HO_156003.out BK155.out (by decide)) (fun _ hk => hk.2) (.int .i64 (wrap64 (a0_1 + a1)))) (fun _ hk => trivial)⟩, ⟨by (with_reducible repeat (first | apply Kd.R_alloc | apply Kd.R_drewN | apply Kd.R_drew)); exact Kd.R_mono (Kd.R_far (p := ⟨gb155, 1, none⟩) (Kd.R_mono HO_156004.out (fun k_ hk => (⟨hk, hk.2.2.2⟩ : _ ∧ k_ ≠ gb155))) (fun _ hk => hk.2) (.int .i64 (wrap64 (a0_1 + a1)))) (fun _ hk => ⟨hk.1.1, ⟨hk.1.2.1, ⟨hk.1.2.2.1, hk.1.2.2.2⟩⟩⟩)⟩, ⟨by (with_reducible repeat (first | refine blk_drewN ?_ _ | refine blk_drew ?_ | refine blk_alloc ?_ _)); refine blk_far ?_ NB144_155.out _; (with_reducible repeat (first | refine blk_drewN ?_ _ | refine blk_drew ?_ | refine blk_alloc ?_ _)); exact BK144.out⟩, ⟨by (with_reducible repeat (first | refine blk_drewN ?_ _ | refine blk_drew ?_ | refine blk_alloc ?_ _)); refine blk_far ?_ NB145_155.out _; (with_reducible repeat (first | refine blk_drewN ?_ _ | refine blk_drew ?_ | refine blk_alloc ?_ _)); exact BK145.out⟩, ⟨by (with_reducible repeat (first | refine blk_drewN ?_ _ | refine blk_drew ?_ | refine blk_alloc ?_ _)); refine blk_put (cs := #[.int .i64 t146, .int .i64 t147, .string t148, .slice Ao15 t149.length co15, .slice Ao16 t152.length co16]) ?_ 1 _ rfl; (with_reducible repeat (first | refine blk_drewN ?_ _ | refine blk_drew ?_ | refine blk_alloc ?_ _)); exact BK155.out⟩, ⟨hbk HB⟩⟩
   case rest =>
    clear HC24
    try clear c1
    try clear c2
    try clear p2
    try clear p6
    try clear c7
    try clear c8
    try clear c10
    try clear c12
    try clear c13
    try clear c17
    try clear c17b0
    try clear c17b1
    try clear c18
    try clear c19
    try clear c21
    try clear c22
    try clear c25
    try clear c26
    try clear c27
    try clear c29
    try clear hcz14_0 hcz14_1 hcz14_2 hcz14_3 hcz14_4
    try clear hcz20_0 hcz20_1 hcz20_2 hcz20_3 hcz20_4
    try clear hcz23_0 hcz23_1 hcz23_2 hcz23_3 hcz23_4
    try clear hcz28_0 hcz28_1 hcz28_2 hcz28_3 hcz28_4
    try clear hcz30_0 hcz30_1 hcz30_2 hcz30_3 hcz30_4
    try clear hcz9_0 hcz9_1 hcz9_2 hcz9_3 hcz9_4
    try clear hfz14_0 hfz14_1 hfz14_2 hfz14_3 hfz14_4
    try clear hfz20_0 hfz20_1 hfz20_2 hfz20_3 hfz20_4
    try clear hfz23_0 hfz23_1 hfz23_2 hfz23_3 hfz23_4
    try clear hfz28_0 hfz28_1 hfz28_2 hfz28_3 hfz28_4
    try clear hfz30_0 hfz30_1 hfz30_2 hfz30_3 hfz30_4
    try clear hfz9_0 hfz9_1 hfz9_2 hfz9_3 hfz9_4
    try clear p2
    obtain ⟨kq, x156001_23, HA, HJ23, HO_156003, HO_156004, BK144, BK145, BK155, HB⟩ := hcut
    cases kq with
    | zero => exact absurd HA.out (by simp [touchstoneref5_lift.j1])
    | succ kj23 =>
     have H := HA.out
     clear HA
     simp only [touchstoneref5_lift.j1] at H
     have H' := aS H
     clear H
     go_wp2
     go_loopg [8] kj23 (fun kq v8 w' => ∃ (x8_3 : Int) (x156004_3 : List (S27)) (u156004 : Value), v8 = .int .i64 x8_3 ∧ Aside0 (touchstoneref5_lift.l0 kq a1 a2 x8_3 a0_0 a0_1 a0_2 l0_3 l0_4 t146 x156001_23 t148 t149 x156004_3 = some (r1, r2, r3, r4, r5)) ∧ Aside0 (kq ≤ kj23) ∧ Aside0 (Kd.R k76 76 w' w.heap.size (fun _ => True) (.slice Ao15 t149.length co15) t149) ∧ Aside0 (Kd.R k27 27 w' w.heap.size (fun k_ => some k_ ≠ ((.slice Ao15 t149.length co15) : Value).ownBlock ∧ k_ ≠ gb144 ∧ k_ ≠ gb145 ∧ k_ ≠ gb155) u156004 x156004_3) ∧ Aside0 (w'.heap[gb144]? = some (.cells #[.int .i64 a0_0, .int .i64 a0_1, .string a0_2, (.slice A0_3 l0_3.length c0_3), (.slice A0_4 l0_4.length c0_4)] 27 (0, 0))) ∧ Aside0 (w'.heap[gb145]? = some (.cells #[.int .i64 0, .int .i64 0, .string (⟨#[]⟩ : ByteArray), (.slice none 0 0), (.slice none 0 0)] 27 (0, 0))) ∧ Aside0 (w'.heap[gb155]? = some (.cells #[.int .i64 t146, .int .i64 x156001_23, .string t148, (.slice Ao15 t149.length co15), u156004] 27 (0, 0))) ∧ Aside0 (Below w.heap.size w w'))
     case atStart => exact ⟨(0), (t152), (.slice Ao16 t152.length co16), br, H', ⟨Nat.le_refl _⟩, ⟨kr_ HO_156003.out⟩, ⟨kr_ HO_156004.out⟩, ⟨bk BK144.out⟩, ⟨bk BK145.out⟩, ⟨bk BK155.out⟩, ⟨hbk HB⟩⟩
     case round =>
      clear H'
      try clear c1
      try clear c2
      try clear p2
      try clear p6
      try clear c7
      try clear c8
      try clear c10
      try clear c12
      try clear c13
      try clear c17
      try clear c17b0
      try clear c17b1
      try clear c18
      try clear c19
      try clear c21
      try clear c22
      try clear c25
      try clear c26
      try clear c27
      try clear c29
      try clear hcz14_0 hcz14_1 hcz14_2 hcz14_3 hcz14_4
      try clear hcz20_0 hcz20_1 hcz20_2 hcz20_3 hcz20_4
      try clear hcz23_0 hcz23_1 hcz23_2 hcz23_3 hcz23_4
      try clear hcz28_0 hcz28_1 hcz28_2 hcz28_3 hcz28_4
      try clear hcz30_0 hcz30_1 hcz30_2 hcz30_3 hcz30_4
      try clear hcz9_0 hcz9_1 hcz9_2 hcz9_3 hcz9_4
      try clear hfz14_0 hfz14_1 hfz14_2 hfz14_3 hfz14_4
      try clear hfz20_0 hfz20_1 hfz20_2 hfz20_3 hfz20_4
      try clear hfz23_0 hfz23_1 hfz23_2 hfz23_3 hfz23_4
      try clear hfz28_0 hfz28_1 hfz28_2 hfz28_3 hfz28_4
      try clear hfz30_0 hfz30_1 hfz30_2 hfz30_3 hfz30_4
      try clear hfz9_0 hfz9_1 hfz9_2 hfz9_3 hfz9_4
      try clear p2
      try clear p6
      obtain ⟨x8_3, x156004_3, u156004, rfl, HA, HK3, HO_156003, HO_156004, BK144, BK145, BK155, HB⟩ := hrel
      cases gk with
      | zero => exact absurd HA.out (by simp [touchstoneref5_lift.l0])
      | succ k3 =>
       have H := HA.out
       clear HA
       simp only [touchstoneref5_lift.l0] at H
       by_cases c31 : x8_3 < (l0_4.length : Int)
       rotate_left
       ·rw [if_neg c31] at H
        have c31b0 : decide (x8_3 < (l0_4.length : Int)) = false := decide_eq_false c31
        clear c31
        simp only [Option.some.injEq, Prod.mk.injEq] at H
        obtain ⟨rfl, rfl, rfl, rfl, rfl⟩ := H
        have hnb46 := NB144_145.out
        have hnc46 := NB145_144.out
        have hnb47 := NB144_155.out
        have hnc47 := NB155_144.out
        obtain ⟨hcz48_0, hcz48_1, hcz48_2, hcz48_3, hcz48_4⟩ := cl5 BK144
        obtain ⟨hfz48_0, hfz48_1, hfz48_2, hfz48_3, hfz48_4⟩ := fz5 BK144
        have hnb49 := NB155_145.out
        have hnc49 := NB145_155.out
        obtain ⟨hcz50_0, hcz50_1, hcz50_2, hcz50_3, hcz50_4⟩ := cl5 BK155
        obtain ⟨hfz50_0, hfz50_1, hfz50_2, hfz50_3, hfz50_4⟩ := fz5 BK155
        obtain ⟨hcz51_0, hcz51_1, hcz51_2, hcz51_3, hcz51_4⟩ := cl5 BK145
        obtain ⟨hfz51_0, hfz51_1, hfz51_2, hfz51_3, hfz51_4⟩ := fz5 BK145
        obtain ⟨Ao52, co52, eo52⟩ := Kd.R_slice HO_156004.out
        subst eo52
        go_wp2
        refine bodyPost_ret (results_cell_row rfl _ _ gb145 27 #[.int .i64 t146, .int .i64 x156001_23, .string t148, .slice Ao15 t149.length co15, .slice Ao52 x156004_3.length co52] (0, 0) _ rfl (bp5 BK145.out) Try.underlying27 rfl (by kernel_rfl)) rfl ?_
        exact ⟨_, _, by first | rfl | (simp [errW_none, errW_some] <;> rfl) | (simp [*, errW_none, errW_some] <;> rfl), by (with_reducible repeat (first | apply Kd.R_alloc | apply Kd.R_drewN | apply Kd.R_drew)); exact Kd.R_mono (R5 (g := gb145) (Kd.R_types HO_156003.out BK145.out (by decide)) (fun _ hk => hk.2)) (fun _ hk => trivial), by (with_reducible repeat (first | apply Kd.R_alloc | apply Kd.R_drewN | apply Kd.R_drew)); exact Kd.R_mono (R5 (g := gb145) (Kd.R_mono HO_156004.out (fun k_ hk => (⟨hk, hk.2.2.1⟩ : _ ∧ k_ ≠ gb145))) (fun _ hk => hk.2)) (fun _ hk => hk.1.1), hbk HB⟩
       rw [if_pos c31] at H
       have c31b0 : decide (x8_3 < (l0_4.length : Int)) = true := decide_eq_true c31
       clear c31
       by_cases c32 : 0 ≤ x8_3
       rotate_left
       ·rw [if_neg c32] at H
        exact absurd H (by simp)
       rw [if_pos c32] at H
       have c32b0 : decide (0 ≤ x8_3) = true := decide_eq_true c32
       clear c32
       replace H := Option.bind_eq_some_iff.mp H
       obtain ⟨t157, A330, H⟩ := H
       try dsimp only at H
       have A33 := aS A330
       clear A330
       replace H := Option.bind_eq_some_iff.mp H
       obtain ⟨⟨t158, t159, t160, t161, t164⟩, A340, H⟩ := H
       try dsimp only at H
       have A34 := aS A340
       clear A340
       by_cases c35 : x156004_3.length < 1759218604441
       rotate_left
       ·rw [if_neg c35] at H
        exact absurd H (by simp)
       rw [if_pos c35] at H
       have LMc35 := aS c35
       clear c35
       obtain ⟨y167, hy167⟩ : ∃ y_ : List (S27), y_ = (x156004_3 ++ [(⟨t158, t159, t160, t161, t164⟩ : S27)]) := ⟨_, rfl⟩
       replace H : (touchstoneref5_lift.l0 k3 a1 a2 (wrap64 (x8_3 + 1)) a0_0 a0_1 a0_2 l0_3 l0_4 t146 x156001_23 t148 t149 y167) = some (r1, r2, r3, r4, r5) := by first | (rw [hy167]; with_reducible exact H) | (have H2_ := (Option.bind_some _ _).symm.trans H; rw [hy167]; with_reducible exact H2_) | (have H2_ := (Option.bind_some _ _).symm.trans H; with_reducible exact H2_) | with_reducible exact H | (rw [hy167]; exact H) | exact H
       have Ny167 := aS hy167
       clear hy167
       have H' := aS H
       clear H
       have hnb36 := NB144_145.out
       have hnc36 := NB145_144.out
       have hnb37 := NB144_155.out
       have hnc37 := NB155_144.out
       obtain ⟨hcz38_0, hcz38_1, hcz38_2, hcz38_3, hcz38_4⟩ := cl5 BK144
       obtain ⟨hfz38_0, hfz38_1, hfz38_2, hfz38_3, hfz38_4⟩ := fz5 BK144
       try go_wp2
       replace HO_156003 := aS (Kd.R_drew HO_156003.out)
       replace HO_156004 := aS (Kd.R_drew HO_156004.out)
       replace BK144 := aS (blk_drew BK144.out)
       replace BK145 := aS (blk_drew BK145.out)
       replace BK155 := aS (blk_drew BK155.out)
       replace HB := aS (below_drew1 HB.out)
       have p156 : 0 ≤ (x8_3 : Int) := of_decide_eq_true ba
       have q156 : x8_3 < (l0_4.length : Int) := of_decide_eq_true ba
       obtain ⟨ad156, A156_3, c156_3, A156_4, c156_4, e156, hx156_0, hx156_1, hx156_2, hx156_3, hx156_4, hl156_3, hi156_3, hl156_4, hi156_4⟩ := at_T27 HR0_4.out x8_3 p156 q156
       have hw156_4 := hx156_4
       have hw156_3 := hx156_3
       have hw156_2 := hx156_2
       have hw156_1 := hx156_1
       have hw156_0 := hx156_0
       cases e156
       replace hx156_0 := (hc HB hx156_0 :)
       replace hx156_1 := (hc HB hx156_1 :)
       replace hx156_2 := (hc HB hx156_2 :)
       replace hx156_3 := (hc HB hx156_3 :)
       replace hx156_4 := (hc HB hx156_4 :)
       have HR156_3 := aS hi156_3
       have HC156_3 := aS hl156_3
       clear hi156_3 hl156_3
       have HR156_4 := aS hi156_4
       have HC156_4 := aS hl156_4
       clear hi156_4 hl156_4
       replace p156 := eq_true p156
       replace q156 := eq_true q156
       refine start_ (n := 19) (S := fun w' => w'.cell? ⟨gb155, 0, none⟩ = some (.int .i64 t146) ∧ w'.cell? ⟨gb155, 1, none⟩ = some (.int .i64 x156001_23) ∧ w'.cell? ⟨gb155, 2, none⟩ = some (.string t148) ∧ w'.cell? ⟨gb155, 3, none⟩ = some (.slice Ao15 t149.length co15) ∧ w'.cell? ⟨gb155, 4, none⟩ = some (u156004) ∧ w'.cell? ⟨gb144, 0, none⟩ = some (.int .i64 a0_0) ∧ w'.cell? ⟨gb144, 1, none⟩ = some (.int .i64 a0_1) ∧ w'.cell? ⟨gb144, 2, none⟩ = some (.string a0_2) ∧ w'.cell? ⟨gb144, 3, none⟩ = some (.slice A0_3 l0_3.length c0_3) ∧ w'.cell? ⟨gb144, 4, none⟩ = some (.slice (some ad156) l0_4.length c0_4) ∧ w'.cell? (ad156.add ((x8_3).toNat * 5)) = some (.int .i64 ((rd_T27 l0_4 x8_3).f0)) ∧ w'.cell? ⟨(ad156.add ((x8_3).toNat * 5)).block, (ad156.add ((x8_3).toNat * 5)).off + 1, none⟩ = some (.int .i64 ((rd_T27 l0_4 x8_3).f1)) ∧ w'.cell? ⟨(ad156.add ((x8_3).toNat * 5)).block, (ad156.add ((x8_3).toNat * 5)).off + 2, none⟩ = some (.string ((rd_T27 l0_4 x8_3).f2)) ∧ w'.cell? ⟨(ad156.add ((x8_3).toNat * 5)).block, (ad156.add ((x8_3).toNat * 5)).off + 3, none⟩ = some (.slice A156_3 ((rd_T27 l0_4 x8_3).f3).length c156_3) ∧ w'.cell? ⟨(ad156.add ((x8_3).toNat * 5)).block, (ad156.add ((x8_3).toNat * 5)).off + 4, none⟩ = some (.slice A156_4 ((rd_T27 l0_4 x8_3).f4).length c156_4)) (ds := [18]) #[false, false, false, false, false, false, false, false, false, false, false, false, false, false, false, false, false, false, false] (by kernel_rfl) rfl rfl ⟨cz BK155 0, cz BK155 1, cz BK155 2, cz BK155 3, cz BK155 4, cz BK144 0, cz BK144 1, cz BK144 2, cz BK144 3, cz BK144 4, (hc HB hw156_0 :), (hc HB hw156_1 :), (hc HB hw156_2 :), (hc HB hw156_3 :), (hc HB hw156_4 :)⟩ (fun hHeld => ?_); refine with_tabW touchstoneref5_lift.tab7 touchstoneref5_lift.bits7 (fun HT_ HW_ => ?_)
       generalize wr.drew = w39 at HO_156003 HO_156004 BK144 BK145 BK155 HB HR156_3 HR156_4 hx156_0 hx156_1 hx156_2 hx156_3 hx156_4 hHeld ⊢
       refine pu 0 32 (bA 19 1) HT_ rfl rfl ?_
       refine pu 2 34 (bA 19 5) HT_ rfl rfl ?_
       refine pu 4 36 (bA 19 21) HT_ rfl rfl ?_
       refine pu 7 39 (bA 19 149) HT_ rfl rfl ?_
       refine pu 8 40 (bA 19 405) HT_ rfl rfl ?_
       refine pu 9 41 (bA 19 917) HT_ rfl rfl ?_
       refine pu 11 43 (bA 19 2965) HT_ rfl rfl ?_
       refine ta 1 33 (bA 19 2967) HT_ HW_ rfl rfl hHeld ?_
       refine ta 3 35 (bA 19 2975) HT_ HW_ rfl rfl hHeld ?_
       refine pu 5 37 (bA 19 3007) HT_ rfl rfl ?_
       refine ta 6 38 (bA 19 3071) HT_ HW_ rfl rfl hHeld ?_
       refine ta 10 42 (bA 19 4095) HT_ HW_ rfl rfl hHeld ?_
       refine one_ (i := 12) (N := some 44) (bA 19 8191) rfl rfl (one_of HT_.out (by kernel_rfl)) (by decide) (fun K hK => ?_)
       refine goes_ Try.func107 (by kernel_rfl) rfl #[.int .i64 a0_0, .int .i64 x8_3] (by rfl) rfl rfl bl ?_
       with_reducible refine (touchstoneref5_Binds.calls a0_0 x8_3 t157 _ A33.out).mono ?_
       rintro e w' ⟨rfl, ⟨nd, rfl⟩⟩
       refine ⟨_, rfl, ?_⟩
       refine hK.out _ _ ⟨cz BK155 0, cz BK155 1, cz BK155 2, cz BK155 3, cz BK155 4, cz BK144 0, cz BK144 1, cz BK144 2, cz BK144 3, cz BK144 4, (hc HB hw156_0 :), (hc HB hw156_1 :), (hc HB hw156_2 :), (hc HB hw156_3 :), (hc HB hw156_4 :)⟩ (fun hHeld => ?_)
       clear hK K
       refine norm_ ap ?_
       refine pu 13 45 (bA 19 16383) HT_ rfl rfl ?_
       refine one_ (i := 14) (N := some 46) (bA 19 32767) rfl rfl (one_of HT_.out (by kernel_rfl)) (by decide) (fun K hK => ?_)
       refine goes_ Try.func79 (by kernel_rfl) rfl #[.agg #[.int .i64 ((rd_T27 l0_4 x8_3).f0), .int .i64 ((rd_T27 l0_4 x8_3).f1), .string ((rd_T27 l0_4 x8_3).f2), .slice A156_3 ((rd_T27 l0_4 x8_3).f3).length c156_3, .slice A156_4 ((rd_T27 l0_4 x8_3).f4).length c156_4], .int .i64 a1, .int .i64 (wrap64 (a2 + t157))] (by rfl) rfl rfl bl ?_
       with_reducible refine (ih k3 (by have := HJ4.out; have := HJ23.out; have := HK3.out; omega) ((rd_T27 l0_4 x8_3).f0) ((rd_T27 l0_4 x8_3).f1) ((rd_T27 l0_4 x8_3).f2) _ _ ((rd_T27 l0_4 x8_3).f3) _ _ ((rd_T27 l0_4 x8_3).f4) a1 (wrap64 (a2 + t157)) t158 t159 t160 t161 t164 _ ?side1 ?side2 ?side3 ?side4 A34.out).mono ?_
       (case side1 => exact cr (Kd.C_below HR156_3.out (hbk HB)))
       (case side2 => exact HC156_3.out)
       (case side3 => exact cr (Kd.C_below HR156_4.out (hbk HB)))
       (case side4 => exact HC156_4.out)
       rintro e w40 ⟨v162, v165, rfl, ho0, ho1, hb⟩
       refine ⟨_, rfl, ?_⟩
       have HO163 := aS (Kd.R_lower (Kd.R_new' ho0 (Kd.R_lt (kr_ HO_156003.out))) (below_size (hbk HB)))
       have HO166 := aS (Kd.R_lower (Kd.R_newB (Kd.R_newB (Kd.R_newB (Kd.R_new' (Kd.R_new' ho1 (Kd.R_lt (kr_ HO_156003.out))) (Kd.R_lt (kr_ HO_156004.out))) (bkw BK144)) (bkw BK145)) (bkw BK155)) (below_size (hbk HB)))
       replace HO_156003 := aS (Kd.R_elder' (kr_ HO_156003.out) (Kd.R_base ho0) hb)
       replace HO_156004 := aS (Kd.R_mono (Kd.R_told (Kd.R_told (Kd.R_old (kr_ HO_156004.out) hb) (Kd.R_base ho0)) (Kd.R_base ho1)) (fun _ h_ => h_.1))
       replace BK144 := Bk BK144 hb
       replace BK145 := Bk BK145 hb
       replace BK155 := Bk BK155 hb
       replace HB := Hs HB hb
       (try clear hb)
       (try clear hb2)
       (try clear hk)
       (try clear hi)
       (try clear ho0)
       (try clear ho1)
       obtain ⟨Ao42, co42, eo42⟩ := Kd.R_slice HO163.out
       (first | subst eo42 | (injection eo42 with f1_ f2_ f3_; have f4_ := f1_.symm; have f5_ := f3_.symm; clear f1_ f2_ f3_; subst f4_; subst f5_))
       obtain ⟨Ao43, co43, eo43⟩ := Kd.R_slice HO166.out
       (first | subst eo43 | (injection eo43 with f1_ f2_ f3_; have f4_ := f1_.symm; have f5_ := f3_.symm; clear f1_ f2_ f3_; subst f4_; subst f5_))
       refine hK.out _ _ ⟨cz BK155 0, cz BK155 1, cz BK155 2, cz BK155 3, cz BK155 4, cz BK144 0, cz BK144 1, cz BK144 2, cz BK144 3, cz BK144 4, (hc HB hw156_0 :), (hc HB hw156_1 :), (hc HB hw156_2 :), (hc HB hw156_3 :), (hc HB hw156_4 :)⟩ (fun hHeld => ?_)
       clear hK K
       refine norm_ ap ?_
       refine one_ (i := 15) (N := some 47) (bA 19 65535) rfl rfl (one_of HT_.out (by kernel_rfl)) (by decide) (fun K hK => ?_)
       refine value_ (w1 := ?_) (v := ?_) (by rfl) rfl ?_ ?_
       rotate_left 2
       ·go_simp
        constructor
        ·rfl
        ·rfl
       refine hK.out _ _ ⟨(blk_cell (blk_alloc BK155.out _) 0).trans rfl, (blk_cell (blk_alloc BK155.out _) 1).trans rfl, (blk_cell (blk_alloc BK155.out _) 2).trans rfl, (blk_cell (blk_alloc BK155.out _) 3).trans rfl, (blk_cell (blk_alloc BK155.out _) 4).trans rfl, (blk_cell (blk_alloc BK144.out _) 0).trans rfl, (blk_cell (blk_alloc BK144.out _) 1).trans rfl, (blk_cell (blk_alloc BK144.out _) 2).trans rfl, (blk_cell (blk_alloc BK144.out _) 3).trans rfl, (blk_cell (blk_alloc BK144.out _) 4).trans rfl, (World.cell?_alloc_lt _ _ _ (World.block_lt_of_cell? _ _ ((hc HB hw156_0 :)))).trans ((hc HB hw156_0 :)), (World.cell?_alloc_lt _ _ _ (World.block_lt_of_cell? _ _ ((hc HB hw156_1 :)))).trans ((hc HB hw156_1 :)), (World.cell?_alloc_lt _ _ _ (World.block_lt_of_cell? _ _ ((hc HB hw156_2 :)))).trans ((hc HB hw156_2 :)), (World.cell?_alloc_lt _ _ _ (World.block_lt_of_cell? _ _ ((hc HB hw156_3 :)))).trans ((hc HB hw156_3 :)), (World.cell?_alloc_lt _ _ _ (World.block_lt_of_cell? _ _ ((hc HB hw156_4 :)))).trans ((hc HB hw156_4 :))⟩ (fun hHeld => ?_)
       clear hK K
       refine norm_ ap ?_
       refine one_ (i := 16) (N := some 48) (bA 19 131071) rfl rfl (one_of HT_.out (by kernel_rfl)) (by decide) (fun K hK => ?_)
       refine Kd.R_append_step k27 (w0 := w) w.heap.size (by rfl) (.tmp 33) (.tmp 47) 23 27 (.agg #[(.int .i64 0), (.int .i64 0), (.string ⟨#[]⟩), (.slice none 0 0), (.slice none 0 0)]) 80 rfl Try.underlying23 info27 rfl (by decide) (by omega) u156004 x156004_3 (⟨t158, t159, t160, t161, t164⟩ : S27) [.int .i64 t158, .int .i64 t159, .string t160, .slice Ao42 t161.length co42, .slice Ao43 t164.length co43] (fun k_ => some k_ ≠ (.slice Ao15 t149.length co15 : Value).ownBlock ∧ k_ ≠ gb144 ∧ k_ ≠ gb145 ∧ k_ ≠ gb155) (fun k_ => ((fun k_ => some k_ ≠ (.slice Ao15 t149.length co15 : Value).ownBlock ∧ k_ ≠ gb144 ∧ k_ ≠ gb145 ∧ k_ ≠ gb155)) k_ ∧ some k_ ≠ (u156004 : Value).ownBlock) rfl rfl ?aP (fun _ hk => hk) ?aF ?aO ?aB ?aS ?aL ?_
       (case aP => exact k27_mkM _ _ _ (⟨t158, t159, t160, t161, t164⟩ : S27) (Kd.R_mono (Kd.R_types (Kd.R_types (Kd.R_types (Kd.R_apart' (HO163.out) (Kd.R_typed HO_156004.out) (by decide)) BK144.out (by decide)) BK145.out (by decide)) BK155.out (by decide)) (fun k_ hk => ⟨⟨hk.1.1.1.1.2, ⟨hk.1.1.2, ⟨hk.1.2, hk.2⟩⟩⟩, hk.1.1.1.2⟩)) (Kd.R_mono (HO166.out) (fun k_ hk => ⟨⟨hk.1.1.1.1.2, ⟨hk.1.1.2, ⟨hk.1.2, hk.2⟩⟩⟩, hk.1.1.1.2⟩)))
       (case aB => exact (hbk HB))
       (case aF => exact (fun k_ hk => ⟨Kd.fresh' (Kd.R_lt (kr_ HO_156003.out)) k_ hk, Kd.freshB (bkw BK144) k_ hk, Kd.freshB (bkw BK145) k_ hk, Kd.freshB (bkw BK155) k_ hk⟩))
       (case aO => exact (by (with_reducible repeat (first | apply Kd.R_alloc | apply Kd.R_drewN | apply Kd.R_drew)); exact Kd.R_mono HO_156004.out (fun _ hk => ⟨hk.1.1.1, ⟨hk.1.1.2.1, ⟨hk.1.1.2.2.1, hk.1.1.2.2.2⟩⟩⟩)))
       (case aS => exact (below_size (hbk HB)))
       (case aL => have := LMc35.out; omega)
       intro v168 w41 ho hb hg hat
       rw [← Ny167.out] at ho
       replace HO_156003 := aS (Kd.R_over' (kr_ HO_156003.out) (Kd.R_typed (kr_ HO_156004.out)) (by decide) hg)
       replace BK144 := aS (blk_grown (bkw BK144) hg (Kd.R_away HO_156004.out (fun _ hk => hk.1.1.2.1)))
       replace BK145 := aS (blk_grown (bkw BK145) hg (Kd.R_away HO_156004.out (fun _ hk => hk.1.1.2.2.1)))
       replace BK155 := aS (blk_grown (bkw BK155) hg (Kd.R_away HO_156004.out (fun _ hk => hk.1.1.2.2.2)))
       replace HB := aS (hb)
       have HO169 := aS (ho)
       clear HO_156004 HO163 HO166
       clear ho hb hg hat
       obtain ⟨Ao44, co44, eo44⟩ := Kd.R_slice HO169.out
       (first | subst eo44 | (injection eo44 with f1_ f2_ f3_; have f4_ := f1_.symm; have f5_ := f3_.symm; clear f1_ f2_ f3_; subst f4_; subst f5_))
       refine hK.out _ _ ⟨cz BK155 0, cz BK155 1, cz BK155 2, cz BK155 3, cz BK155 4, cz BK144 0, cz BK144 1, cz BK144 2, cz BK144 3, cz BK144 4, (hc HB hw156_0 :), (hc HB hw156_1 :), (hc HB hw156_2 :), (hc HB hw156_3 :), (hc HB hw156_4 :)⟩ (fun hHeld => ?_)
       clear hK K
       refine norm_ ap ?_
       refine pu 17 49 (bA 19 262143) HT_ rfl rfl ?_
       refine last_ (i := 18) (N := none) (bA 19 524287) rfl rfl (one_of HT_.out (by kernel_rfl)) (by decide) (fun K hK => ?_)
       have hs45 : w41.cell? ⟨gb155, 4, none⟩ = some (u156004) := cz BK155 4
       have hfs45 := blk_frozen BK155.out 4
       have hns45_0 := NB144_155.out
       have hns45_1 := NB145_155.out
       have hms45_0 := NB155_144.out
       have hms45_1 := NB155_145.out
       refine skip_ (w1 := ?_) (by rfl) rfl ?_ ?_
       rotate_left
       ·go_simp
        rfl
       refine hK.out _ _ ?_
       clear hK K
       refine done_ (done_of HT_.out (by kernel_rfl)) ?_
       try go_wp2
       go_roundg k3
       case measure => have := HJ4.out; have := HJ23.out; have := HK3.out; omega
       case rel => exact ⟨(wrap64 (x8_3 + 1)), (y167), (.slice Ao44 y167.length co44), br, H', ⟨by have := HJ4.out; have := HJ23.out; have := HK3.out; omega⟩, ⟨by (with_reducible repeat (first | apply Kd.R_alloc | apply Kd.R_drewN | apply Kd.R_drew)); exact Kd.R_mono (Kd.R_far (p := ⟨gb155, 4, none⟩) (Kd.R_types HO_156003.out BK155.out (by decide)) (fun _ hk => hk.2) (.slice Ao44 y167.length co44)) (fun _ hk => trivial)⟩, ⟨by (with_reducible repeat (first | apply Kd.R_alloc | apply Kd.R_drewN | apply Kd.R_drew)); exact Kd.R_mono (Kd.R_far (p := ⟨gb155, 4, none⟩) (Kd.R_mono HO169.out (fun k_ hk => (⟨hk, hk.2.2.2⟩ : _ ∧ k_ ≠ gb155))) (fun _ hk => hk.2) (.slice Ao44 y167.length co44)) (fun _ hk => ⟨hk.1.1, ⟨hk.1.2.1, ⟨hk.1.2.2.1, hk.1.2.2.2⟩⟩⟩)⟩, ⟨by (with_reducible repeat (first | refine blk_drewN ?_ _ | refine blk_drew ?_ | refine blk_alloc ?_ _)); refine blk_far ?_ NB144_155.out _; (with_reducible repeat (first | refine blk_drewN ?_ _ | refine blk_drew ?_ | refine blk_alloc ?_ _)); exact BK144.out⟩, ⟨by (with_reducible repeat (first | refine blk_drewN ?_ _ | refine blk_drew ?_ | refine blk_alloc ?_ _)); refine blk_far ?_ NB145_155.out _; (with_reducible repeat (first | refine blk_drewN ?_ _ | refine blk_drew ?_ | refine blk_alloc ?_ _)); exact BK145.out⟩, ⟨by (with_reducible repeat (first | refine blk_drewN ?_ _ | refine blk_drew ?_ | refine blk_alloc ?_ _)); refine blk_put (cs := #[.int .i64 t146, .int .i64 x156001_23, .string t148, .slice Ao15 t149.length co15, u156004]) ?_ 4 _ rfl; (with_reducible repeat (first | refine blk_drewN ?_ _ | refine blk_drew ?_ | refine blk_alloc ?_ _)); exact BK155.out⟩, ⟨hbk HB⟩⟩
end Go.Proofs.Ytpejhapgffcngaa.QK

