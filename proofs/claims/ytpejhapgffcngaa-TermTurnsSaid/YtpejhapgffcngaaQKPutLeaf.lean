/- The closure that Put makes. -/
import Derived.Test.YtpejhapgffcngaaXShort
import Derived.Test.YtpejhapgffcngaaQKLift
set_option linter.unusedVariables false
set_option linter.unusedSimpArgs false
namespace Go.Proofs.Ytpejhapgffcngaa.QK
open Go.RowKit Go.Proofs.YtpejhapgffcngaaW.PrintWords Go.Proofs.YtpejhapgffcngaaW.PrintLast Go.Proofs.YtpejhapgffcngaaW.PrintMore
attribute [local go_sem] max2_int min2_int max_two min_two max_three min_three max_four min_four
structure PC where
 x0 : Int
 x1 : Int
 x2 : ByteArray
 A3 : Option Addr
 c3 : Nat
 l3 : List (S76)
 A4 : Option Addr
 c4 : Nat
 l4 : List (S27)
 bv : Nat
def PC.ok (c : PC) (w : World) : Prop := w.heap[c.bv]? = some (.cells #[.int .i64 c.x0, .int .i64 c.x1, .string c.x2, .slice c.A3 c.l3.length c.c3, .slice c.A4 c.l4.length c.c4] 27 (0, 0)) ∧ Kd.C k76 w c.A3 c.l3.length c.l3 ∧ c.l3.length ≤ c.c3 ∧ Kd.C k27 w c.A4 c.l4.length c.l4 ∧ c.l4.length ≤ c.c4
theorem PC.ok.below {c : PC} {w W : World} (h : c.ok w) (hb : Below w.heap.size w W) : c.ok W := ⟨blk_below h.1 hb, Kd.C_below h.2.1 hb, h.2.2.1, Kd.C_below h.2.2.2.1 hb, h.2.2.2.2⟩
def putLeaf.f (k : Nat) (a0_0 : Int) (a0_1 : Int) (a0_2 : ByteArray) (l0_3 : List (S76)) (l0_4 : List (S27)) (a1 : Int) (a2 : PC) : Option (Int × Int × ByteArray × (List (S76)) × (List (S27))) := if a0_1 = a1 then ((term_Lift.f k a2.x0 a2.x1 a2.x2 a2.l3 a2.l4 a1 0).bind fun bt389 => (some (bt389.1, bt389.2.1, bt389.2.2.1, bt389.2.2.2.1, bt389.2.2.2.2))) else (if a0_1 > a1 then ((term_bare.f k a0_0 (wrap64 (a0_1 - 1)) a0_2 l0_3 l0_4).bind fun bt398 => (some (bt398.1, bt398.2.1, bt398.2.2.1, bt398.2.2.2.1, bt398.2.2.2.2))) else ((term_bare.f k a0_0 a0_1 a0_2 l0_3 l0_4).bind fun bt407 => (some (bt407.1, bt407.2.1, bt407.2.2.1, bt407.2.2.2.1, bt407.2.2.2.2))))
set_option maxHeartbeats 8000000 in
set_option maxRecDepth 100000 in
theorem putLeaf.calls (k : Nat) (a0_0 : Int) (a0_1 : Int) (a0_2 : ByteArray) (A0_3 : Option Addr) (c0_3 : Nat) (l0_3 : List (S76)) (A0_4 : Option Addr) (c0_4 : Nat) (l0_4 : List (S27)) (a1 : Int) (a2 : PC) (r1 : Int) (r2 : Int) (r3 : ByteArray) (r4 : List (S76)) (r5 : List (S27)) (w : World) (hlaid : PC.ok a2 w) (hr0_3 : Kd.C k76 w A0_3 l0_3.length l0_3) (hc0_3 : l0_3.length ≤ c0_3) (hr0_4 : Kd.C k27 w A0_4 l0_4.length l0_4) (hc0_4 : l0_4.length ≤ c0_4) (h : putLeaf.f k a0_0 a0_1 a0_2 l0_3 l0_4 a1 a2 = some (r1, r2, r3, r4, r5)) :
  Calls Try.prog 91 #[.agg #[.int .i64 a0_0, .int .i64 a0_1, .string a0_2, .slice A0_3 l0_3.length c0_3, .slice A0_4 l0_4.length c0_4], .int .i64 a1, .pointer (some ⟨a2.bv, 0, none⟩)] w fun e w' => ∃ v3_ v4_ : Value, e = .returned (.agg #[.int .i64 r1, .int .i64 r2, .string r3, v3_, v4_]) ∧ Kd.R k76 76 w' w.heap.size (fun _ => True) v3_ r4 ∧ Kd.R k27 27 w' w.heap.size (fun k_ => some k_ ≠ (v3_ : Value).ownBlock) v4_ r5 ∧ Below w.heap.size w w' := by
 have hu27 := Try.underlying27
 have HR0_3 := aS hr0_3
 have HC0_3 := aS hc0_3
 clear hr0_3 hc0_3
 have HR0_4 := aS hr0_4
 have HC0_4 := aS hc0_4
 clear hr0_4 hc0_4
 have HR2_3 := aS hlaid.2.1
 have HC2_3 := aS hlaid.2.2.1
 have HR2_4 := aS hlaid.2.2.2.1
 have HC2_4 := aS hlaid.2.2.2.2
 have HLD := aS hlaid.1
 clear hlaid
 have HB := aS (Below.refl w.heap.size w)
 have H : (if a0_1 = a1 then ((term_Lift.f k a2.x0 a2.x1 a2.x2 a2.l3 a2.l4 a1 0).bind fun bt389 => (some (bt389.1, bt389.2.1, bt389.2.2.1, bt389.2.2.2.1, bt389.2.2.2.2))) else (if a0_1 > a1 then ((term_bare.f k a0_0 (wrap64 (a0_1 - 1)) a0_2 l0_3 l0_4).bind fun bt398 => (some (bt398.1, bt398.2.1, bt398.2.2.1, bt398.2.2.2.1, bt398.2.2.2.2))) else ((term_bare.f k a0_0 a0_1 a0_2 l0_3 l0_4).bind fun bt407 => (some (bt407.1, bt407.2.1, bt407.2.2.1, bt407.2.2.2.1, bt407.2.2.2.2))))) = some (r1, r2, r3, r4, r5) := h
 clear h
 by_cases c4 : a0_1 = a1
 ·rw [if_pos c4] at H
  have c4b0 : (a0_1 == a1) = true := beq_iff_eq.mpr c4
  have c4b1 : (a0_1 != a1) = false := bne_eq_false_iff_eq.mpr c4
  clear c4
  replace H := Option.bind_eq_some_iff.mp H
  obtain ⟨⟨t389, t390, t391, t392, t395⟩, A50, H⟩ := H
  try dsimp only at H
  have A5 := aS A50
  clear A50
  simp only [Option.some.injEq, Prod.mk.injEq] at H
  obtain ⟨rfl, rfl, rfl, rfl, rfl⟩ := H
  go_enter Try.func91, Try.ntmps91
  go_wp2_with (first | ((with_reducible refine gate_dst (N := 3) rfl ?_); refine bx (N := 3) (t := 27) #[.int .i64 a0_0, .int .i64 a0_1, .string a0_2, .slice A0_3 l0_3.length c0_3, .slice A0_4 l0_4.length c0_4] ?_; intro gb387 hg w6 hbox hb; have BK387 := aS (hbox); have GW387 := Gz hg HB; have GE387 := Gz hg HB; replace HB := Hs HB hb; clear hb hbox hg) | ((with_reducible refine gate_dst (N := 5) rfl ?_); refine bx (N := 5) (t := 27) #[.int .i64 0, .int .i64 0, .string (⟨#[]⟩ : ByteArray), .slice none 0 0, .slice none 0 0] ?_; intro gb388 hg w7 hbox hb; have BK388 := aS (hbox); have GW388 := Gz hg HB; have GE388 := Gz hg HB; replace HB := Hs HB hb; have NB387_388 := aS ((by rw [hg]; exact Nat.ne_of_lt (blk_lt (bkw BK387)) : gb387 ≠ gb388)); have NB388_387 := aS ((by rw [hg]; exact Nat.ne_of_gt (blk_lt (bkw BK387)) : gb388 ≠ gb387)); replace BK387 := Bk BK387 hb; clear hb hbox hg; have hcv_0 := (blk_cell (blk_below HLD.out HB.out) 0).trans (rfl : _ = some (Value.int .i64 a2.x0)); have hcv_1 := (blk_cell (blk_below HLD.out HB.out) 1).trans (rfl : _ = some (Value.int .i64 a2.x1)); have hcv_2 := (blk_cell (blk_below HLD.out HB.out) 2).trans (rfl : _ = some (Value.string a2.x2)); have hcv_3 := (blk_cell (blk_below HLD.out HB.out) 3).trans (rfl : _ = some (Value.slice a2.A3 a2.l3.length a2.c3)); have hcv_4 := (blk_cell (blk_below HLD.out HB.out) 4).trans (rfl : _ = some (Value.slice a2.A4 a2.l4.length a2.c4)); have hnb8 := NB387_388.out; have hnc8 := NB388_387.out; obtain ⟨hcz9_0, hcz9_1, hcz9_2, hcz9_3, hcz9_4⟩ := cl5 BK387; obtain ⟨hfz9_0, hfz9_1, hfz9_2, hfz9_3, hfz9_4⟩ := fz5 BK387) | ((with_reducible refine gate_callee (f := 41) rfl ?_); refine goesL_ (some 13) rfl rfl Try.func41 (by kernel_rfl) rfl #[.agg #[.int .i64 a2.x0, .int .i64 a2.x1, .string a2.x2, .slice a2.A3 a2.l3.length a2.c3, .slice a2.A4 a2.l4.length a2.c4], .int .i64 a1, .int .i64 0] rfl bl ?_; (with_reducible refine (term_Lift.calls k a2.x0 a2.x1 a2.x2 _ _ a2.l3 _ _ a2.l4 a1 0 t389 t390 t391 t392 t395 _ ?side1 ?side2 ?side3 ?side4 A5.out).mono ?_); (case side1 => exact cr (Kd.C_below HR2_3.out HB.out)); (case side2 => exact HC2_3.out); (case side3 => exact cr (Kd.C_below HR2_4.out HB.out)); (case side4 => exact HC2_4.out); rintro e w10 ⟨v393, v396, rfl, ho0, ho1, hb⟩; refine ⟨_, rfl, ?_⟩; have HO394 := aS (Kd.R_lower ho0 (below_size (hbk HB))); have HO397 := aS (Kd.R_lower (Kd.R_newB (Kd.R_newB ho1 (bkw BK387)) (bkw BK388)) (below_size (hbk HB))); replace BK387 := Bk BK387 hb; replace BK388 := Bk BK388 hb; replace HB := Hs HB hb; (try clear hb); (try clear hb2); (try clear hk); (try clear hi); (try clear ho0); (try clear ho1); obtain ⟨hcz11_0, hcz11_1, hcz11_2, hcz11_3, hcz11_4⟩ := cl5 BK388; obtain ⟨hfz11_0, hfz11_1, hfz11_2, hfz11_3, hfz11_4⟩ := fz5 BK388; obtain ⟨Ao12, co12, eo12⟩ := Kd.R_slice HO394.out; subst eo12; obtain ⟨Ao13, co13, eo13⟩ := Kd.R_slice HO397.out; subst eo13))
  refine bodyPost_ret (results_cell_row rfl _ _ gb388 27 #[.int .i64 t389, .int .i64 t390, .string t391, .slice Ao12 t392.length co12, .slice Ao13 t395.length co13] (0, 0) _ rfl (bp5 BK388.out) Try.underlying27 rfl (by kernel_rfl)) rfl ?_
  exact ⟨_, _, by first | rfl | (simp [errW_none, errW_some] <;> rfl) | (simp [*, errW_none, errW_some] <;> rfl), by (with_reducible repeat (first | apply Kd.R_alloc | apply Kd.R_drewN | apply Kd.R_drew)); exact Kd.R_mono (R5 (g := gb388) (Kd.R_types HO394.out BK388.out (by decide)) (fun _ hk => hk.2)) (fun _ hk => trivial), by (with_reducible repeat (first | apply Kd.R_alloc | apply Kd.R_drewN | apply Kd.R_drew)); exact Kd.R_mono (R5 (g := gb388) (Kd.R_mono HO397.out (fun k_ hk => (⟨hk, hk.2⟩ : _ ∧ k_ ≠ gb388))) (fun _ hk => hk.2)) (fun _ hk => hk.1.1.1), hbk HB⟩
 rw [if_neg c4] at H
 have c4b0 : (a0_1 == a1) = false := beq_eq_false_iff_ne.mpr c4
 have c4b1 : (a0_1 != a1) = true := bne_iff_ne.mpr c4
 by_cases c14 : a0_1 > a1
 rotate_left
 ·rw [if_neg c14] at H
  have c14b0 : decide (a1 < a0_1) = false := decide_eq_false c14
  clear c14
  replace H := Option.bind_eq_some_iff.mp H
  obtain ⟨⟨t407, t408, t409, t410, t413⟩, A240, H⟩ := H
  try dsimp only at H
  have A24 := aS A240
  clear A240
  simp only [Option.some.injEq, Prod.mk.injEq] at H
  obtain ⟨rfl, rfl, rfl, rfl, rfl⟩ := H
  go_enter Try.func91, Try.ntmps91
  go_wp2_with (first | ((with_reducible refine gate_dst (N := 3) rfl ?_); refine bx (N := 3) (t := 27) #[.int .i64 a0_0, .int .i64 a0_1, .string a0_2, .slice A0_3 l0_3.length c0_3, .slice A0_4 l0_4.length c0_4] ?_; intro gb387 hg w25 hbox hb; have BK387 := aS (hbox); have GW387 := Gz hg HB; have GE387 := Gz hg HB; replace HB := Hs HB hb; clear hb hbox hg) | ((with_reducible refine gate_dst (N := 5) rfl ?_); refine bx (N := 5) (t := 27) #[.int .i64 0, .int .i64 0, .string (⟨#[]⟩ : ByteArray), .slice none 0 0, .slice none 0 0] ?_; intro gb388 hg w26 hbox hb; have BK388 := aS (hbox); have GW388 := Gz hg HB; have GE388 := Gz hg HB; replace HB := Hs HB hb; have NB387_388 := aS ((by rw [hg]; exact Nat.ne_of_lt (blk_lt (bkw BK387)) : gb387 ≠ gb388)); have NB388_387 := aS ((by rw [hg]; exact Nat.ne_of_gt (blk_lt (bkw BK387)) : gb388 ≠ gb387)); replace BK387 := Bk BK387 hb; clear hb hbox hg; have hcv_0 := (blk_cell (blk_below HLD.out HB.out) 0).trans (rfl : _ = some (Value.int .i64 a2.x0)); have hcv_1 := (blk_cell (blk_below HLD.out HB.out) 1).trans (rfl : _ = some (Value.int .i64 a2.x1)); have hcv_2 := (blk_cell (blk_below HLD.out HB.out) 2).trans (rfl : _ = some (Value.string a2.x2)); have hcv_3 := (blk_cell (blk_below HLD.out HB.out) 3).trans (rfl : _ = some (Value.slice a2.A3 a2.l3.length a2.c3)); have hcv_4 := (blk_cell (blk_below HLD.out HB.out) 4).trans (rfl : _ = some (Value.slice a2.A4 a2.l4.length a2.c4)); have hnb27 := NB387_388.out; have hnc27 := NB388_387.out; obtain ⟨hcz28_0, hcz28_1, hcz28_2, hcz28_3, hcz28_4⟩ := cl5 BK387; obtain ⟨hfz28_0, hfz28_1, hfz28_2, hfz28_3, hfz28_4⟩ := fz5 BK387) | ((with_reducible refine gate_callee (f := 90) rfl ?_); refine goesL_ (some 24) rfl rfl Try.func90 (by kernel_rfl) rfl #[.agg #[.int .i64 a0_0, .int .i64 a0_1, .string a0_2, .slice A0_3 l0_3.length c0_3, .slice A0_4 l0_4.length c0_4]] rfl bl ?_; (with_reducible refine (term_bare.calls k a0_0 a0_1 a0_2 _ _ l0_3 _ _ l0_4 t407 t408 t409 t410 t413 _ ?side1 ?side2 ?side3 ?side4 A24.out).mono ?_); (case side1 => exact cr (Kd.C_below HR0_3.out HB.out)); (case side2 => exact HC0_3.out); (case side3 => exact cr (Kd.C_below HR0_4.out HB.out)); (case side4 => exact HC0_4.out); rintro e w29 ⟨v411, v414, rfl, ho0, ho1, hb⟩; refine ⟨_, rfl, ?_⟩; have HO412 := aS (Kd.R_lower ho0 (below_size (hbk HB))); have HO415 := aS (Kd.R_lower (Kd.R_newB (Kd.R_newB ho1 (bkw BK387)) (bkw BK388)) (below_size (hbk HB))); replace BK387 := Bk BK387 hb; replace BK388 := Bk BK388 hb; replace HB := Hs HB hb; (try clear hb); (try clear hb2); (try clear hk); (try clear hi); (try clear ho0); (try clear ho1); obtain ⟨hcz30_0, hcz30_1, hcz30_2, hcz30_3, hcz30_4⟩ := cl5 BK388; obtain ⟨hfz30_0, hfz30_1, hfz30_2, hfz30_3, hfz30_4⟩ := fz5 BK388; obtain ⟨Ao31, co31, eo31⟩ := Kd.R_slice HO412.out; subst eo31; obtain ⟨Ao32, co32, eo32⟩ := Kd.R_slice HO415.out; subst eo32))
  refine bodyPost_ret (results_cell_row rfl _ _ gb388 27 #[.int .i64 t407, .int .i64 t408, .string t409, .slice Ao31 t410.length co31, .slice Ao32 t413.length co32] (0, 0) _ rfl (bp5 BK388.out) Try.underlying27 rfl (by kernel_rfl)) rfl ?_
  exact ⟨_, _, by first | rfl | (simp [errW_none, errW_some] <;> rfl) | (simp [*, errW_none, errW_some] <;> rfl), by (with_reducible repeat (first | apply Kd.R_alloc | apply Kd.R_drewN | apply Kd.R_drew)); exact Kd.R_mono (R5 (g := gb388) (Kd.R_types HO412.out BK388.out (by decide)) (fun _ hk => hk.2)) (fun _ hk => trivial), by (with_reducible repeat (first | apply Kd.R_alloc | apply Kd.R_drewN | apply Kd.R_drew)); exact Kd.R_mono (R5 (g := gb388) (Kd.R_mono HO415.out (fun k_ hk => (⟨hk, hk.2⟩ : _ ∧ k_ ≠ gb388))) (fun _ hk => hk.2)) (fun _ hk => hk.1.1.1), hbk HB⟩
 rw [if_pos c14] at H
 have c14b0 : decide (a1 < a0_1) = true := decide_eq_true c14
 clear c14
 replace H := Option.bind_eq_some_iff.mp H
 obtain ⟨⟨t398, t399, t400, t401, t404⟩, A150, H⟩ := H
 try dsimp only at H
 have A15 := aS A150
 clear A150
 simp only [Option.some.injEq, Prod.mk.injEq] at H
 obtain ⟨rfl, rfl, rfl, rfl, rfl⟩ := H
 go_enter Try.func91, Try.ntmps91
 go_wp2_with (first | ((with_reducible refine gate_dst (N := 3) rfl ?_); refine bx (N := 3) (t := 27) #[.int .i64 a0_0, .int .i64 a0_1, .string a0_2, .slice A0_3 l0_3.length c0_3, .slice A0_4 l0_4.length c0_4] ?_; intro gb387 hg w16 hbox hb; have BK387 := aS (hbox); have GW387 := Gz hg HB; have GE387 := Gz hg HB; replace HB := Hs HB hb; clear hb hbox hg) | ((with_reducible refine gate_dst (N := 5) rfl ?_); refine bx (N := 5) (t := 27) #[.int .i64 0, .int .i64 0, .string (⟨#[]⟩ : ByteArray), .slice none 0 0, .slice none 0 0] ?_; intro gb388 hg w17 hbox hb; have BK388 := aS (hbox); have GW388 := Gz hg HB; have GE388 := Gz hg HB; replace HB := Hs HB hb; have NB387_388 := aS ((by rw [hg]; exact Nat.ne_of_lt (blk_lt (bkw BK387)) : gb387 ≠ gb388)); have NB388_387 := aS ((by rw [hg]; exact Nat.ne_of_gt (blk_lt (bkw BK387)) : gb388 ≠ gb387)); replace BK387 := Bk BK387 hb; clear hb hbox hg; have hcv_0 := (blk_cell (blk_below HLD.out HB.out) 0).trans (rfl : _ = some (Value.int .i64 a2.x0)); have hcv_1 := (blk_cell (blk_below HLD.out HB.out) 1).trans (rfl : _ = some (Value.int .i64 a2.x1)); have hcv_2 := (blk_cell (blk_below HLD.out HB.out) 2).trans (rfl : _ = some (Value.string a2.x2)); have hcv_3 := (blk_cell (blk_below HLD.out HB.out) 3).trans (rfl : _ = some (Value.slice a2.A3 a2.l3.length a2.c3)); have hcv_4 := (blk_cell (blk_below HLD.out HB.out) 4).trans (rfl : _ = some (Value.slice a2.A4 a2.l4.length a2.c4)); have hnb18 := NB387_388.out; have hnc18 := NB388_387.out; obtain ⟨hcz19_0, hcz19_1, hcz19_2, hcz19_3, hcz19_4⟩ := cl5 BK387; obtain ⟨hfz19_0, hfz19_1, hfz19_2, hfz19_3, hfz19_4⟩ := fz5 BK387) | ((with_reducible refine gate_callee (f := 90) rfl ?_); refine goesL_ (some 24) rfl rfl Try.func90 (by kernel_rfl) rfl #[.agg #[.int .i64 a0_0, .int .i64 (wrap64 (a0_1 - 1)), .string a0_2, .slice A0_3 l0_3.length c0_3, .slice A0_4 l0_4.length c0_4]] rfl bl ?_; (with_reducible refine (term_bare.calls k a0_0 (wrap64 (a0_1 - 1)) a0_2 _ _ l0_3 _ _ l0_4 t398 t399 t400 t401 t404 _ ?side1 ?side2 ?side3 ?side4 A15.out).mono ?_); (case side1 => exact Kd.C_below HR0_3.out (hbk HB)); (case side2 => exact HC0_3.out); (case side3 => exact Kd.C_below HR0_4.out (hbk HB)); (case side4 => exact HC0_4.out); rintro e w20 ⟨v402, v405, rfl, ho0, ho1, hb⟩; refine ⟨_, rfl, ?_⟩; have HO403 := aS (Kd.R_lower ho0 (below_size (hbk HB))); have HO406 := aS (Kd.R_lower (Kd.R_newB (Kd.R_newB ho1 (g := gb387) (o := .cells #[.int .i64 a0_0, .int .i64 (wrap64 (a0_1 - 1)), .string a0_2, .slice A0_3 l0_3.length c0_3, .slice A0_4 l0_4.length c0_4] 27 (0, 0)) (by (with_reducible repeat (first | refine blk_drewN ?_ _ | refine blk_drew ?_ | refine blk_alloc ?_ _)); refine blk_put (cs := #[.int .i64 a0_0, .int .i64 a0_1, .string a0_2, .slice A0_3 l0_3.length c0_3, .slice A0_4 l0_4.length c0_4]) ?_ 1 _ rfl; (with_reducible repeat (first | refine blk_drewN ?_ _ | refine blk_drew ?_ | refine blk_alloc ?_ _)); exact BK387.out)) (g := gb388) (o := .cells #[.int .i64 0, .int .i64 0, .string (⟨#[]⟩ : ByteArray), .slice none 0 0, .slice none 0 0] 27 (0, 0)) (by (with_reducible repeat (first | refine blk_drewN ?_ _ | refine blk_drew ?_ | refine blk_alloc ?_ _)); refine blk_far ?_ NB388_387.out _; (with_reducible repeat (first | refine blk_drewN ?_ _ | refine blk_drew ?_ | refine blk_alloc ?_ _)); exact BK388.out)) (below_size (hbk HB))); replace BK387 := aS (blk_below (g := gb387) (o := .cells #[.int .i64 a0_0, .int .i64 (wrap64 (a0_1 - 1)), .string a0_2, .slice A0_3 l0_3.length c0_3, .slice A0_4 l0_4.length c0_4] 27 (0, 0)) (by (with_reducible repeat (first | refine blk_drewN ?_ _ | refine blk_drew ?_ | refine blk_alloc ?_ _)); refine blk_put (cs := #[.int .i64 a0_0, .int .i64 a0_1, .string a0_2, .slice A0_3 l0_3.length c0_3, .slice A0_4 l0_4.length c0_4]) ?_ 1 _ rfl; (with_reducible repeat (first | refine blk_drewN ?_ _ | refine blk_drew ?_ | refine blk_alloc ?_ _)); exact BK387.out) hb); replace BK388 := aS (blk_below (g := gb388) (o := .cells #[.int .i64 0, .int .i64 0, .string (⟨#[]⟩ : ByteArray), .slice none 0 0, .slice none 0 0] 27 (0, 0)) (by (with_reducible repeat (first | refine blk_drewN ?_ _ | refine blk_drew ?_ | refine blk_alloc ?_ _)); refine blk_far ?_ NB388_387.out _; (with_reducible repeat (first | refine blk_drewN ?_ _ | refine blk_drew ?_ | refine blk_alloc ?_ _)); exact BK388.out) hb); replace HB := Hs HB hb; (try clear hb); (try clear hb2); (try clear hk); (try clear hi); (try clear ho0); (try clear ho1); obtain ⟨hcz21_0, hcz21_1, hcz21_2, hcz21_3, hcz21_4⟩ := cl5 BK388; obtain ⟨hfz21_0, hfz21_1, hfz21_2, hfz21_3, hfz21_4⟩ := fz5 BK388; obtain ⟨Ao22, co22, eo22⟩ := Kd.R_slice HO403.out; subst eo22; obtain ⟨Ao23, co23, eo23⟩ := Kd.R_slice HO406.out; subst eo23))
 refine bodyPost_ret (results_cell_row rfl _ _ gb388 27 #[.int .i64 t398, .int .i64 t399, .string t400, .slice Ao22 t401.length co22, .slice Ao23 t404.length co23] (0, 0) _ rfl (bp5 BK388.out) Try.underlying27 rfl (by kernel_rfl)) rfl ?_
 exact ⟨_, _, by first | rfl | (simp [errW_none, errW_some] <;> rfl) | (simp [*, errW_none, errW_some] <;> rfl), by (with_reducible repeat (first | apply Kd.R_alloc | apply Kd.R_drewN | apply Kd.R_drew)); exact Kd.R_mono (R5 (g := gb388) (Kd.R_types HO403.out BK388.out (by decide)) (fun _ hk => hk.2)) (fun _ hk => trivial), by (with_reducible repeat (first | apply Kd.R_alloc | apply Kd.R_drewN | apply Kd.R_drew)); exact Kd.R_mono (R5 (g := gb388) (Kd.R_mono HO406.out (fun k_ hk => (⟨hk, hk.2⟩ : _ ∧ k_ ≠ gb388))) (fun _ hk => hk.2)) (fun _ hk => hk.1.1.1), hbk HB⟩
end Go.Proofs.Ytpejhapgffcngaa.QK

