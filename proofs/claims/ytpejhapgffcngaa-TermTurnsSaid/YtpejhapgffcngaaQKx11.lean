/- Words and walks of this claim. -/
import Derived.Test.YtpejhapgffcngaaXShort
import Derived.Test.YtpejhapgffcngaaQKDepth
import Derived.Test.YtpejhapgffcngaaQKThr
import Derived.Test.YtpejhapgffcngaaQKApart
import Derived.Test.YtpejhapgffcngaaQKx4
import Derived.Test.YtpejhapgffcngaaQKx5
import Derived.Test.YtpejhapgffcngaaQKx10
namespace Go.Proofs.Ytpejhapgffcngaa.QK
open Go.RowKit Go.Proofs.YtpejhapgffcngaaW.PrintWords Go.Proofs.YtpejhapgffcngaaW.PrintLast Go.Proofs.YtpejhapgffcngaaW.PrintMore
attribute [local go_sem] max2_int min2_int max_two min_two max_three min_three max_four min_four
set_option linter.unusedVariables false
set_option linter.unusedSimpArgs false
def term_May.f (k : Nat) (a0_0 : Int) (a0_1 : Int) (a0_2 : ByteArray) (l0_3 : List (S76)) (l0_4 : List (S27)) (a1 : Int) (a2 : Int) : Option (Int) := (term_Whole.f k a0_0 a0_1 a0_2 l0_3 l0_4 1048576).bind fun bt275 => (if bt275.2 = true then (if bt275.1 > 2000 then (some 3) else ((term_Depth.f k a0_0 a0_1 a0_2 l0_3 l0_4 100).bind fun t277 => (if t277 > 100 then (some 6) else ((term_scoped.f k a0_0 a0_1 a0_2 l0_3 l0_4 a1 0 a2).bind fun t278 => (some t278))))) else (some 5))
set_option maxHeartbeats 8000000 in
set_option maxRecDepth 100000 in
theorem term_May.calls (k : Nat) (a0_0 : Int) (a0_1 : Int) (a0_2 : ByteArray) (A0_3 : Option Addr) (c0_3 : Nat) (l0_3 : List (S76)) (A0_4 : Option Addr) (c0_4 : Nat) (l0_4 : List (S27)) (a1 : Int) (a2 : Int) (r : Int) (w : World) (hr0_3 : Kd.C k76 w A0_3 l0_3.length l0_3) (hc0_3 : l0_3.length ≤ c0_3) (hr0_4 : Kd.C k27 w A0_4 l0_4.length l0_4) (hc0_4 : l0_4.length ≤ c0_4) (h : term_May.f k a0_0 a0_1 a0_2 l0_3 l0_4 a1 a2 = some r) :
  Calls Try.prog 49 #[.agg #[.int .i64 a0_0, .int .i64 a0_1, .string a0_2, .slice A0_3 l0_3.length c0_3, .slice A0_4 l0_4.length c0_4], .int .i64 a1, .int .i64 a2] w fun e w' => e = .returned (.int .i64 r) ∧ Below w.heap.size w w' := by
 have hu27 := Try.underlying27
 have HR0_3 := aS hr0_3
 have HC0_3 := aS hc0_3
 clear hr0_3 hc0_3
 have HR0_4 := aS hr0_4
 have HC0_4 := aS hc0_4
 clear hr0_4 hc0_4
 have HB := aS (Below.refl w.heap.size w)
 have H : ((term_Whole.f k a0_0 a0_1 a0_2 l0_3 l0_4 1048576).bind fun bt275 => (if bt275.2 = true then (if bt275.1 > 2000 then (some 3) else ((term_Depth.f k a0_0 a0_1 a0_2 l0_3 l0_4 100).bind fun t277 => (if t277 > 100 then (some 6) else ((term_scoped.f k a0_0 a0_1 a0_2 l0_3 l0_4 a1 0 a2).bind fun t278 => (some t278))))) else (some 5))) = some r := h
 clear h
 replace H := Option.bind_eq_some_iff.mp H
 obtain ⟨⟨t275, t276⟩, A40, H⟩ := H
 try dsimp only at H
 have A4 := aS A40
 clear A40
 by_cases c5 : t276 = true
 rotate_left
 ·replace c5 := Bool.eq_false_iff.mpr c5
  subst c5
  have H1 : (some 5) = some r := by rw [if_neg (show ¬ (false = true) by decide)] at H; exact H
  clear H
  have H := H1
  clear H1
  obtain rfl := Option.some.inj H
  go_enter Try.func49, Try.ntmps49
  go_wp2_with (first | ((with_reducible refine gate_dst (N := 3) rfl ?_); refine bx (N := 3) (t := 27) #[.int .i64 a0_0, .int .i64 a0_1, .string a0_2, .slice A0_3 l0_3.length c0_3, .slice A0_4 l0_4.length c0_4] ?_; intro gb274 hg w25 hbox hb; have BK274 := aS (hbox); have GW274 := Gz hg HB; have GE274 := Gz hg HB; replace HB := Hs HB hb; clear hb hbox hg; obtain ⟨hcz26_0, hcz26_1, hcz26_2, hcz26_3, hcz26_4⟩ := cl5 BK274; obtain ⟨hfz26_0, hfz26_1, hfz26_2, hfz26_3, hfz26_4⟩ := fz5 BK274) | ((with_reducible refine gate_callee (f := 97) rfl ?_); refine goesL_ (some 11) rfl rfl Try.func97 (by kernel_rfl) rfl #[.agg #[.int .i64 a0_0, .int .i64 a0_1, .string a0_2, .slice A0_3 l0_3.length c0_3, .slice A0_4 l0_4.length c0_4], .int .i64 1048576] rfl bl ?_; (with_reducible refine (term_Whole.calls k a0_0 a0_1 a0_2 _ _ l0_3 _ _ l0_4 1048576 t275 false _ ?side1 ?side2 ?side3 ?side4 A4.out).mono ?_); (case side1 => exact cr (Kd.C_below HR0_3.out HB.out)); (case side2 => exact HC0_3.out); (case side3 => exact cr (Kd.C_below HR0_4.out HB.out)); (case side4 => exact HC0_4.out); rintro e w27 ⟨rfl, hb⟩; refine ⟨_, rfl, ?_⟩; replace BK274 := Bk BK274 hb; replace HB := Hs HB hb; (try clear hb); (try clear hb2); (try clear hk); (try clear hi)))
  go_ret
  exact ⟨by first | rfl | (simp [errW_none, errW_some] <;> rfl) | (simp [*, errW_none, errW_some] <;> rfl), hbk HB⟩
 subst c5
 have H1 : (if t275 > 2000 then (some 3) else ((term_Depth.f k a0_0 a0_1 a0_2 l0_3 l0_4 100).bind fun t277 => (if t277 > 100 then (some 6) else ((term_scoped.f k a0_0 a0_1 a0_2 l0_3 l0_4 a1 0 a2).bind fun t278 => (some t278))))) = some r := by rw [if_pos rfl] at H; exact H
 clear H
 have H := H1
 clear H1
 by_cases c6 : t275 > 2000
 ·rw [if_pos c6] at H
  have c6b0 : decide (2000 < t275) = true := decide_eq_true c6
  clear c6
  obtain rfl := Option.some.inj H
  go_enter Try.func49, Try.ntmps49
  go_wp2_with (first | ((with_reducible refine gate_dst (N := 3) rfl ?_); refine bx (N := 3) (t := 27) #[.int .i64 a0_0, .int .i64 a0_1, .string a0_2, .slice A0_3 l0_3.length c0_3, .slice A0_4 l0_4.length c0_4] ?_; intro gb274 hg w7 hbox hb; have BK274 := aS (hbox); have GW274 := Gz hg HB; have GE274 := Gz hg HB; replace HB := Hs HB hb; clear hb hbox hg; obtain ⟨hcz8_0, hcz8_1, hcz8_2, hcz8_3, hcz8_4⟩ := cl5 BK274; obtain ⟨hfz8_0, hfz8_1, hfz8_2, hfz8_3, hfz8_4⟩ := fz5 BK274) | ((with_reducible refine gate_callee (f := 97) rfl ?_); refine goesL_ (some 11) rfl rfl Try.func97 (by kernel_rfl) rfl #[.agg #[.int .i64 a0_0, .int .i64 a0_1, .string a0_2, .slice A0_3 l0_3.length c0_3, .slice A0_4 l0_4.length c0_4], .int .i64 1048576] rfl bl ?_; (with_reducible refine (term_Whole.calls k a0_0 a0_1 a0_2 _ _ l0_3 _ _ l0_4 1048576 t275 true _ ?side1 ?side2 ?side3 ?side4 A4.out).mono ?_); (case side1 => exact cr (Kd.C_below HR0_3.out HB.out)); (case side2 => exact HC0_3.out); (case side3 => exact cr (Kd.C_below HR0_4.out HB.out)); (case side4 => exact HC0_4.out); rintro e w9 ⟨rfl, hb⟩; refine ⟨_, rfl, ?_⟩; replace BK274 := Bk BK274 hb; replace HB := Hs HB hb; (try clear hb); (try clear hb2); (try clear hk); (try clear hi)))
  go_ret
  exact ⟨by first | rfl | (simp [errW_none, errW_some] <;> rfl) | (simp [*, errW_none, errW_some] <;> rfl), hbk HB⟩
 rw [if_neg c6] at H
 have c6b0 : decide (2000 < t275) = false := decide_eq_false c6
 clear c6
 replace H := Option.bind_eq_some_iff.mp H
 obtain ⟨t277, A100, H⟩ := H
 try dsimp only at H
 have A10 := aS A100
 clear A100
 by_cases c11 : t277 > 100
 ·rw [if_pos c11] at H
  have c11b0 : decide (100 < t277) = true := decide_eq_true c11
  clear c11
  obtain rfl := Option.some.inj H
  go_enter Try.func49, Try.ntmps49
  go_wp2_with (first | ((with_reducible refine gate_dst (N := 3) rfl ?_); refine bx (N := 3) (t := 27) #[.int .i64 a0_0, .int .i64 a0_1, .string a0_2, .slice A0_3 l0_3.length c0_3, .slice A0_4 l0_4.length c0_4] ?_; intro gb274 hg w12 hbox hb; have BK274 := aS (hbox); have GW274 := Gz hg HB; have GE274 := Gz hg HB; replace HB := Hs HB hb; clear hb hbox hg; obtain ⟨hcz13_0, hcz13_1, hcz13_2, hcz13_3, hcz13_4⟩ := cl5 BK274; obtain ⟨hfz13_0, hfz13_1, hfz13_2, hfz13_3, hfz13_4⟩ := fz5 BK274) | ((with_reducible refine gate_callee (f := 97) rfl ?_); refine goesL_ (some 11) rfl rfl Try.func97 (by kernel_rfl) rfl #[.agg #[.int .i64 a0_0, .int .i64 a0_1, .string a0_2, .slice A0_3 l0_3.length c0_3, .slice A0_4 l0_4.length c0_4], .int .i64 1048576] rfl bl ?_; (with_reducible refine (term_Whole.calls k a0_0 a0_1 a0_2 _ _ l0_3 _ _ l0_4 1048576 t275 true _ ?side1 ?side2 ?side3 ?side4 A4.out).mono ?_); (case side1 => exact cr (Kd.C_below HR0_3.out HB.out)); (case side2 => exact HC0_3.out); (case side3 => exact cr (Kd.C_below HR0_4.out HB.out)); (case side4 => exact HC0_4.out); rintro e w14 ⟨rfl, hb⟩; refine ⟨_, rfl, ?_⟩; replace BK274 := Bk BK274 hb; replace HB := Hs HB hb; (try clear hb); (try clear hb2); (try clear hk); (try clear hi); obtain ⟨hcz15_0, hcz15_1, hcz15_2, hcz15_3, hcz15_4⟩ := cl5 BK274; obtain ⟨hfz15_0, hfz15_1, hfz15_2, hfz15_3, hfz15_4⟩ := fz5 BK274) | ((with_reducible refine gate_callee (f := 47) rfl ?_); refine goesL_ (some 22) rfl rfl Try.func47 (by kernel_rfl) rfl #[.agg #[.int .i64 a0_0, .int .i64 a0_1, .string a0_2, .slice A0_3 l0_3.length c0_3, .slice A0_4 l0_4.length c0_4], .int .i64 100] rfl bl ?_; (with_reducible refine (term_Depth.calls k a0_0 a0_1 a0_2 _ _ l0_3 _ _ l0_4 100 t277 _ ?side1 ?side2 ?side3 ?side4 A10.out).mono ?_); (case side1 => exact cr (Kd.C_below HR0_3.out HB.out)); (case side2 => exact HC0_3.out); (case side3 => exact cr (Kd.C_below HR0_4.out HB.out)); (case side4 => exact HC0_4.out); rintro e w16 ⟨rfl, hb⟩; refine ⟨_, rfl, ?_⟩; replace BK274 := Bk BK274 hb; replace HB := Hs HB hb; (try clear hb); (try clear hb2); (try clear hk); (try clear hi)))
  go_ret
  exact ⟨by first | rfl | (simp [errW_none, errW_some] <;> rfl) | (simp [*, errW_none, errW_some] <;> rfl), hbk HB⟩
 rw [if_neg c11] at H
 have c11b0 : decide (100 < t277) = false := decide_eq_false c11
 clear c11
 replace H := Option.bind_eq_some_iff.mp H
 obtain ⟨t278, A170, H⟩ := H
 try dsimp only at H
 have A17 := aS A170
 clear A170
 obtain rfl := Option.some.inj H
 go_enter Try.func49, Try.ntmps49
 go_wp2_with (first | ((with_reducible refine gate_dst (N := 3) rfl ?_); refine bx (N := 3) (t := 27) #[.int .i64 a0_0, .int .i64 a0_1, .string a0_2, .slice A0_3 l0_3.length c0_3, .slice A0_4 l0_4.length c0_4] ?_; intro gb274 hg w18 hbox hb; have BK274 := aS (hbox); have GW274 := Gz hg HB; have GE274 := Gz hg HB; replace HB := Hs HB hb; clear hb hbox hg; obtain ⟨hcz19_0, hcz19_1, hcz19_2, hcz19_3, hcz19_4⟩ := cl5 BK274; obtain ⟨hfz19_0, hfz19_1, hfz19_2, hfz19_3, hfz19_4⟩ := fz5 BK274) | ((with_reducible refine gate_callee (f := 97) rfl ?_); refine goesL_ (some 11) rfl rfl Try.func97 (by kernel_rfl) rfl #[.agg #[.int .i64 a0_0, .int .i64 a0_1, .string a0_2, .slice A0_3 l0_3.length c0_3, .slice A0_4 l0_4.length c0_4], .int .i64 1048576] rfl bl ?_; (with_reducible refine (term_Whole.calls k a0_0 a0_1 a0_2 _ _ l0_3 _ _ l0_4 1048576 t275 true _ ?side1 ?side2 ?side3 ?side4 A4.out).mono ?_); (case side1 => exact cr (Kd.C_below HR0_3.out HB.out)); (case side2 => exact HC0_3.out); (case side3 => exact cr (Kd.C_below HR0_4.out HB.out)); (case side4 => exact HC0_4.out); rintro e w20 ⟨rfl, hb⟩; refine ⟨_, rfl, ?_⟩; replace BK274 := Bk BK274 hb; replace HB := Hs HB hb; (try clear hb); (try clear hb2); (try clear hk); (try clear hi); obtain ⟨hcz21_0, hcz21_1, hcz21_2, hcz21_3, hcz21_4⟩ := cl5 BK274; obtain ⟨hfz21_0, hfz21_1, hfz21_2, hfz21_3, hfz21_4⟩ := fz5 BK274) | ((with_reducible refine gate_callee (f := 47) rfl ?_); refine goesL_ (some 22) rfl rfl Try.func47 (by kernel_rfl) rfl #[.agg #[.int .i64 a0_0, .int .i64 a0_1, .string a0_2, .slice A0_3 l0_3.length c0_3, .slice A0_4 l0_4.length c0_4], .int .i64 100] rfl bl ?_; (with_reducible refine (term_Depth.calls k a0_0 a0_1 a0_2 _ _ l0_3 _ _ l0_4 100 t277 _ ?side1 ?side2 ?side3 ?side4 A10.out).mono ?_); (case side1 => exact cr (Kd.C_below HR0_3.out HB.out)); (case side2 => exact HC0_3.out); (case side3 => exact cr (Kd.C_below HR0_4.out HB.out)); (case side4 => exact HC0_4.out); rintro e w22 ⟨rfl, hb⟩; refine ⟨_, rfl, ?_⟩; replace BK274 := Bk BK274 hb; replace HB := Hs HB hb; (try clear hb); (try clear hb2); (try clear hk); (try clear hi); obtain ⟨hcz23_0, hcz23_1, hcz23_2, hcz23_3, hcz23_4⟩ := cl5 BK274; obtain ⟨hfz23_0, hfz23_1, hfz23_2, hfz23_3, hfz23_4⟩ := fz5 BK274) | ((with_reducible refine gate_callee (f := 98) rfl ?_); refine goesL_ (some 27) rfl rfl Try.func98 (by kernel_rfl) rfl #[.agg #[.int .i64 a0_0, .int .i64 a0_1, .string a0_2, .slice A0_3 l0_3.length c0_3, .slice A0_4 l0_4.length c0_4], .int .i64 a1, .int .i64 0, .int .i64 a2] rfl bl ?_; (with_reducible refine (term_scoped.calls k a0_0 a0_1 a0_2 _ _ l0_3 _ _ l0_4 a1 0 a2 t278 _ ?side1 ?side2 ?side3 ?side4 A17.out).mono ?_); (case side1 => exact cr (Kd.C_below HR0_3.out HB.out)); (case side2 => exact HC0_3.out); (case side3 => exact cr (Kd.C_below HR0_4.out HB.out)); (case side4 => exact HC0_4.out); rintro e w24 ⟨rfl, hb⟩; refine ⟨_, rfl, ?_⟩; replace BK274 := Bk BK274 hb; replace HB := Hs HB hb; (try clear hb); (try clear hb2); (try clear hk); (try clear hi)))
 go_ret
 exact ⟨by first | rfl | (simp [errW_none, errW_some] <;> rfl) | (simp [*, errW_none, errW_some] <;> rfl), hbk HB⟩
def touchstoneref5_Var.f (a0 : Int) : Option (Int × Int × ByteArray × (List (S76)) × (List (S27))) := some (0, a0, (⟨#[]⟩ : ByteArray), ([] : List (S76)), ([] : List (S27)))
set_option maxHeartbeats 8000000 in
set_option maxRecDepth 100000 in
theorem touchstoneref5_Var.calls (a0 : Int) (r1 : Int) (r2 : Int) (r3 : ByteArray) (r4 : List (S76)) (r5 : List (S27)) (w : World) (h : touchstoneref5_Var.f a0 = some (r1, r2, r3, r4, r5)) :
  Calls Try.prog 81 #[.int .i64 a0] w fun e w' => ∃ v3_ v4_ : Value, e = .returned (.agg #[.int .i64 r1, .int .i64 r2, .string r3, v3_, v4_]) ∧ Kd.R k76 76 w' w.heap.size (fun _ => True) v3_ r4 ∧ Kd.R k27 27 w' w.heap.size (fun k_ => some k_ ≠ (v3_ : Value).ownBlock) v4_ r5 ∧ Below w.heap.size w w' := by
 have hu27 := Try.underlying27
 have HB := aS (Below.refl w.heap.size w)
 have H : (some (0, a0, (⟨#[]⟩ : ByteArray), ([] : List (S76)), ([] : List (S27)))) = some (r1, r2, r3, r4, r5) := h
 clear h
 simp only [Option.some.injEq, Prod.mk.injEq] at H
 obtain ⟨rfl, rfl, rfl, rfl, rfl⟩ := H
 go_enter Try.func81, Try.ntmps81
 go_wp2_with (first | ((with_reducible refine gate_dst (N := 2) rfl ?_); refine bx (N := 2) (t := 27) #[.int .i64 0, .int .i64 0, .string (⟨#[]⟩ : ByteArray), .slice none 0 0, .slice none 0 0] ?_; intro gb279 hg w2 hbox hb; have BK279 := aS (hbox); have GW279 := Gz hg HB; have GE279 := Gz hg HB; replace HB := Hs HB hb; clear hb hbox hg; obtain ⟨hcz3_0, hcz3_1, hcz3_2, hcz3_3, hcz3_4⟩ := cl5 BK279; obtain ⟨hfz3_0, hfz3_1, hfz3_2, hfz3_3, hfz3_4⟩ := fz5 BK279))
 refine bodyPost_ret (results_cell_row rfl _ _ gb279 27 #[.int .i64 0, .int .i64 a0, .string (⟨#[]⟩ : ByteArray), .slice none 0 0, .slice none 0 0] (0, 0) _ rfl (bp5 BK279.out) Try.underlying27 rfl (by kernel_rfl)) rfl ?_
 exact ⟨_, _, by first | rfl | (simp [errW_none, errW_some] <;> rfl) | (simp [*, errW_none, errW_some] <;> rfl), by first | exact Kd.R_nil _ _ _ _ _ | exact Kd.N_nil _ _ _ _ _ | exact Kd.V_nil _ _ _ _ _ | exact Kd.Q_nil _ _ _ _ _ | exact Kd.S_nil _ _ _ _ _, by first | exact Kd.R_nil _ _ _ _ _ | exact Kd.N_nil _ _ _ _ _ | exact Kd.V_nil _ _ _ _ _ | exact Kd.Q_nil _ _ _ _ _ | exact Kd.S_nil _ _ _ _ _, hbk HB⟩
def touchstoneref5_Copy.f (k : Nat) (a0_0 : Int) (a0_1 : Int) (a0_2 : ByteArray) (l0_3 : List (S76)) (l0_4 : List (S27)) : Option (Int × Int × ByteArray × (List (S76)) × (List (S27))) := (touchstoneref5_lift.f k a0_0 a0_1 a0_2 l0_3 l0_4 0 0).bind fun bt282 => (some (bt282.1, bt282.2.1, bt282.2.2.1, bt282.2.2.2.1, bt282.2.2.2.2))
set_option maxHeartbeats 8000000 in
set_option maxRecDepth 100000 in
theorem touchstoneref5_Copy.calls (k : Nat) (a0_0 : Int) (a0_1 : Int) (a0_2 : ByteArray) (A0_3 : Option Addr) (c0_3 : Nat) (l0_3 : List (S76)) (A0_4 : Option Addr) (c0_4 : Nat) (l0_4 : List (S27)) (r1 : Int) (r2 : Int) (r3 : ByteArray) (r4 : List (S76)) (r5 : List (S27)) (w : World) (hr0_3 : Kd.C k76 w A0_3 l0_3.length l0_3) (hc0_3 : l0_3.length ≤ c0_3) (hr0_4 : Kd.C k27 w A0_4 l0_4.length l0_4) (hc0_4 : l0_4.length ≤ c0_4) (h : touchstoneref5_Copy.f k a0_0 a0_1 a0_2 l0_3 l0_4 = some (r1, r2, r3, r4, r5)) :
  Calls Try.prog 52 #[.agg #[.int .i64 a0_0, .int .i64 a0_1, .string a0_2, .slice A0_3 l0_3.length c0_3, .slice A0_4 l0_4.length c0_4]] w fun e w' => ∃ v3_ v4_ : Value, e = .returned (.agg #[.int .i64 r1, .int .i64 r2, .string r3, v3_, v4_]) ∧ Kd.R k76 76 w' w.heap.size (fun _ => True) v3_ r4 ∧ Kd.R k27 27 w' w.heap.size (fun k_ => some k_ ≠ (v3_ : Value).ownBlock) v4_ r5 ∧ Below w.heap.size w w' := by
 have hu27 := Try.underlying27
 have HR0_3 := aS hr0_3
 have HC0_3 := aS hc0_3
 clear hr0_3 hc0_3
 have HR0_4 := aS hr0_4
 have HC0_4 := aS hc0_4
 clear hr0_4 hc0_4
 have HB := aS (Below.refl w.heap.size w)
 have H : ((touchstoneref5_lift.f k a0_0 a0_1 a0_2 l0_3 l0_4 0 0).bind fun bt282 => (some (bt282.1, bt282.2.1, bt282.2.2.1, bt282.2.2.2.1, bt282.2.2.2.2))) = some (r1, r2, r3, r4, r5) := h
 clear h
 replace H := Option.bind_eq_some_iff.mp H
 obtain ⟨⟨t282, t283, t284, t285, t288⟩, A20, H⟩ := H
 try dsimp only at H
 have A2 := aS A20
 clear A20
 simp only [Option.some.injEq, Prod.mk.injEq] at H
 obtain ⟨rfl, rfl, rfl, rfl, rfl⟩ := H
 go_enter Try.func52, Try.ntmps52
 go_wp2_with (first | ((with_reducible refine gate_dst (N := 1) rfl ?_); refine bx (N := 1) (t := 27) #[.int .i64 a0_0, .int .i64 a0_1, .string a0_2, .slice A0_3 l0_3.length c0_3, .slice A0_4 l0_4.length c0_4] ?_; intro gb280 hg w3 hbox hb; have BK280 := aS (hbox); have GW280 := Gz hg HB; have GE280 := Gz hg HB; replace HB := Hs HB hb; clear hb hbox hg) | ((with_reducible refine gate_dst (N := 2) rfl ?_); refine bx (N := 2) (t := 27) #[.int .i64 0, .int .i64 0, .string (⟨#[]⟩ : ByteArray), .slice none 0 0, .slice none 0 0] ?_; intro gb281 hg w4 hbox hb; have BK281 := aS (hbox); have GW281 := Gz hg HB; have GE281 := Gz hg HB; replace HB := Hs HB hb; have NB280_281 := aS ((by rw [hg]; exact Nat.ne_of_lt (blk_lt (bkw BK280)) : gb280 ≠ gb281)); have NB281_280 := aS ((by rw [hg]; exact Nat.ne_of_gt (blk_lt (bkw BK280)) : gb281 ≠ gb280)); replace BK280 := Bk BK280 hb; clear hb hbox hg; have hnb5 := NB280_281.out; have hnc5 := NB281_280.out; obtain ⟨hcz6_0, hcz6_1, hcz6_2, hcz6_3, hcz6_4⟩ := cl5 BK280; obtain ⟨hfz6_0, hfz6_1, hfz6_2, hfz6_3, hfz6_4⟩ := fz5 BK280) | ((with_reducible refine gate_callee (f := 79) rfl ?_); refine goesL_ (some 4) rfl rfl Try.func79 (by kernel_rfl) rfl #[.agg #[.int .i64 a0_0, .int .i64 a0_1, .string a0_2, .slice A0_3 l0_3.length c0_3, .slice A0_4 l0_4.length c0_4], .int .i64 0, .int .i64 0] rfl bl ?_; (with_reducible refine (touchstoneref5_lift.calls k a0_0 a0_1 a0_2 _ _ l0_3 _ _ l0_4 0 0 t282 t283 t284 t285 t288 _ ?side1 ?side2 ?side3 ?side4 A2.out).mono ?_); (case side1 => exact cr (Kd.C_below HR0_3.out HB.out)); (case side2 => exact HC0_3.out); (case side3 => exact cr (Kd.C_below HR0_4.out HB.out)); (case side4 => exact HC0_4.out); rintro e w7 ⟨v286, v289, rfl, ho0, ho1, hb⟩; refine ⟨_, rfl, ?_⟩; have HO287 := aS (Kd.R_lower ho0 (below_size (hbk HB))); have HO290 := aS (Kd.R_lower (Kd.R_newB (Kd.R_newB ho1 (bkw BK280)) (bkw BK281)) (below_size (hbk HB))); replace BK280 := Bk BK280 hb; replace BK281 := Bk BK281 hb; replace HB := Hs HB hb; (try clear hb); (try clear hb2); (try clear hk); (try clear hi); (try clear ho0); (try clear ho1); obtain ⟨hcz8_0, hcz8_1, hcz8_2, hcz8_3, hcz8_4⟩ := cl5 BK281; obtain ⟨hfz8_0, hfz8_1, hfz8_2, hfz8_3, hfz8_4⟩ := fz5 BK281; obtain ⟨Ao9, co9, eo9⟩ := Kd.R_slice HO287.out; subst eo9; obtain ⟨Ao10, co10, eo10⟩ := Kd.R_slice HO290.out; subst eo10))
 refine bodyPost_ret (results_cell_row rfl _ _ gb281 27 #[.int .i64 t282, .int .i64 t283, .string t284, .slice Ao9 t285.length co9, .slice Ao10 t288.length co10] (0, 0) _ rfl (bp5 BK281.out) Try.underlying27 rfl (by kernel_rfl)) rfl ?_
 exact ⟨_, _, by first | rfl | (simp [errW_none, errW_some] <;> rfl) | (simp [*, errW_none, errW_some] <;> rfl), by (with_reducible repeat (first | apply Kd.R_alloc | apply Kd.R_drewN | apply Kd.R_drew)); exact Kd.R_mono (R5 (g := gb281) (Kd.R_types HO287.out BK281.out (by decide)) (fun _ hk => hk.2)) (fun _ hk => trivial), by (with_reducible repeat (first | apply Kd.R_alloc | apply Kd.R_drewN | apply Kd.R_drew)); exact Kd.R_mono (R5 (g := gb281) (Kd.R_mono HO290.out (fun k_ hk => (⟨hk, hk.2⟩ : _ ∧ k_ ≠ gb281))) (fun _ hk => hk.2)) (fun _ hk => hk.1.1.1), hbk HB⟩
def touchstoneref5_App.f (k : Nat) (a0_0 : Int) (a0_1 : Int) (a0_2 : ByteArray) (l0_3 : List (S76)) (l0_4 : List (S27)) (a1_0 : Int) (a1_1 : Int) (a1_2 : ByteArray) (l1_3 : List (S76)) (l1_4 : List (S27)) : Option (Int × Int × ByteArray × (List (S76)) × (List (S27))) := (touchstoneref5_Copy.f k a1_0 a1_1 a1_2 l1_3 l1_4).bind fun bt294 => (some (3, 0, (⟨#[]⟩ : ByteArray), ([] : List (S76)), (([(⟨a0_0, a0_1, a0_2, l0_3, l0_4⟩ : S27), (⟨bt294.1, bt294.2.1, bt294.2.2.1, bt294.2.2.2.1, bt294.2.2.2.2⟩ : S27)] : List (S27)))))
set_option maxHeartbeats 8000000 in
set_option maxRecDepth 100000 in
theorem touchstoneref5_App.calls (k : Nat) (a0_0 : Int) (a0_1 : Int) (a0_2 : ByteArray) (P0_3_ : Nat → Prop) (A0_3 : Option Addr) (c0_3 : Nat) (l0_3 : List (S76)) (P0_4_ : Nat → Prop) (A0_4 : Option Addr) (c0_4 : Nat) (l0_4 : List (S27)) (a1_0 : Int) (a1_1 : Int) (a1_2 : ByteArray) (A1_3 : Option Addr) (c1_3 : Nat) (l1_3 : List (S76)) (A1_4 : Option Addr) (c1_4 : Nat) (l1_4 : List (S27)) (r1 : Int) (r2 : Int) (r3 : ByteArray) (r4 : List (S76)) (r5 : List (S27)) (w : World) (hs0_3 : Kd.V k76 76 w w.heap.size (fun k_ => P0_3_ k_) (.slice A0_3 l0_3.length c0_3) l0_3) (hs0_4 : Kd.V k27 27 w w.heap.size (fun k_ => P0_4_ k_) (.slice A0_4 l0_4.length c0_4) l0_4) (hr1_3 : Kd.C k76 w A1_3 l1_3.length l1_3) (hc1_3 : l1_3.length ≤ c1_3) (hr1_4 : Kd.C k27 w A1_4 l1_4.length l1_4) (hc1_4 : l1_4.length ≤ c1_4) (h : touchstoneref5_App.f k a0_0 a0_1 a0_2 l0_3 l0_4 a1_0 a1_1 a1_2 l1_3 l1_4 = some (r1, r2, r3, r4, r5)) :
  Calls Try.prog 83 #[.agg #[.int .i64 a0_0, .int .i64 a0_1, .string a0_2, .slice A0_3 l0_3.length c0_3, .slice A0_4 l0_4.length c0_4], .agg #[.int .i64 a1_0, .int .i64 a1_1, .string a1_2, .slice A1_3 l1_3.length c1_3, .slice A1_4 l1_4.length c1_4]] w fun e w' => ∃ v3_ v4_ : Value, e = .returned (.agg #[.int .i64 r1, .int .i64 r2, .string r3, v3_, v4_]) ∧ Kd.N k76 76 w' w.heap.size (fun k_ => ((P0_3_ k_ ∨ P0_4_ k_) ∨ w.heap.size ≤ k_) ∧ some k_ ≠ (v4_ : Value).ownBlock) v3_ r4 ∧ Kd.N k27 27 w' w.heap.size (fun k_ => ((P0_3_ k_ ∨ P0_4_ k_) ∨ w.heap.size ≤ k_) ∧ some k_ ≠ (v3_ : Value).ownBlock) v4_ r5 ∧ Below w.heap.size w w' := by
 have hu27 := Try.underlying27
 have HO0_3 := aS (show Kd.V k76 76 w w.heap.size (fun k_ => ((P0_3_ k_ ∨ P0_4_ k_) ∨ w.heap.size ≤ k_)) (.slice A0_3 l0_3.length c0_3) l0_3 from Kd.V_mono hs0_3 (fun k_ hk => .inl (.inl hk)))
 have HO0_4 := aS (show Kd.V k27 27 w w.heap.size (fun k_ => ((P0_3_ k_ ∨ P0_4_ k_) ∨ w.heap.size ≤ k_)) (.slice A0_4 l0_4.length c0_4) l0_4 from Kd.V_mono hs0_4 (fun k_ hk => .inl (.inr hk)))
 have HR1_3 := aS hr1_3
 have HC1_3 := aS hc1_3
 clear hr1_3 hc1_3
 have HR1_4 := aS hr1_4
 have HC1_4 := aS hc1_4
 clear hr1_4 hc1_4
 have HB := aS (Below.refl w.heap.size w)
 have H : ((touchstoneref5_Copy.f k a1_0 a1_1 a1_2 l1_3 l1_4).bind fun bt294 => (some (3, 0, (⟨#[]⟩ : ByteArray), ([] : List (S76)), (([(⟨a0_0, a0_1, a0_2, l0_3, l0_4⟩ : S27), (⟨bt294.1, bt294.2.1, bt294.2.2.1, bt294.2.2.2.1, bt294.2.2.2.2⟩ : S27)] : List (S27)))))) = some (r1, r2, r3, r4, r5) := h
 clear h
 replace H := Option.bind_eq_some_iff.mp H
 obtain ⟨⟨t294, t295, t296, t297, t300⟩, A30, H⟩ := H
 try dsimp only at H
 have A3 := aS A30
 clear A30
 obtain ⟨y303, hy303⟩ : ∃ y_ : List (S27), y_ = (([(⟨a0_0, a0_1, a0_2, l0_3, l0_4⟩ : S27), (⟨t294, t295, t296, t297, t300⟩ : S27)] : List (S27))) := ⟨_, rfl⟩
 replace H : (some (3, 0, (⟨#[]⟩ : ByteArray), ([] : List (S76)), y303)) = some (r1, r2, r3, r4, r5) := by first | (rw [hy303]; with_reducible exact H) | (have H2_ := (Option.bind_some _ _).symm.trans H; rw [hy303]; with_reducible exact H2_) | (have H2_ := (Option.bind_some _ _).symm.trans H; with_reducible exact H2_) | with_reducible exact H | (rw [hy303]; exact H) | exact H
 have Ny303 := aS hy303
 clear hy303
 simp only [Option.some.injEq, Prod.mk.injEq] at H
 obtain ⟨rfl, rfl, rfl, rfl, rfl⟩ := H
 go_enter Try.func83, Try.ntmps83
 try go_wp2_with (first | ((with_reducible refine gate_dst (N := 2) rfl ?_); refine bx (N := 2) (t := 27) #[.int .i64 a0_0, .int .i64 a0_1, .string a0_2, .slice A0_3 l0_3.length c0_3, .slice A0_4 l0_4.length c0_4] ?_; intro gb291 hg w4 hbox hb; replace HO0_3 := aS (Kd.V_below (Kd.V_elderB (by (with_reducible repeat (first | apply Kd.V_alloc | apply Kd.V_drewN | apply Kd.V_drew)); exact HO0_3.out) gb291 (Nat.le_of_eq hg.symm)) hb); replace HO0_4 := aS (Kd.V_below (Kd.V_elderB (by (with_reducible repeat (first | apply Kd.V_alloc | apply Kd.V_drewN | apply Kd.V_drew)); exact HO0_4.out) gb291 (Nat.le_of_eq hg.symm)) hb); have BK291 := aS (hbox); have GW291 := Gz hg HB; have GE291 := Gz hg HB; replace HB := Hs HB hb; clear hb hbox hg) | ((with_reducible refine gate_dst (N := 3) rfl ?_); refine bx (N := 3) (t := 27) #[.int .i64 a1_0, .int .i64 a1_1, .string a1_2, .slice A1_3 l1_3.length c1_3, .slice A1_4 l1_4.length c1_4] ?_; intro gb292 hg w5 hbox hb; replace HO0_3 := aS (Kd.V_below (Kd.V_elderB (by (with_reducible repeat (first | apply Kd.V_alloc | apply Kd.V_drewN | apply Kd.V_drew)); exact HO0_3.out) gb292 (Nat.le_of_eq hg.symm)) hb); replace HO0_4 := aS (Kd.V_below (Kd.V_elderB (by (with_reducible repeat (first | apply Kd.V_alloc | apply Kd.V_drewN | apply Kd.V_drew)); exact HO0_4.out) gb292 (Nat.le_of_eq hg.symm)) hb); have BK292 := aS (hbox); have GW292 := Gz hg HB; have GE292 := Gz hg HB; replace HB := Hs HB hb; have NB291_292 := aS ((by rw [hg]; exact Nat.ne_of_lt (blk_lt (bkw BK291)) : gb291 ≠ gb292)); have NB292_291 := aS ((by rw [hg]; exact Nat.ne_of_gt (blk_lt (bkw BK291)) : gb292 ≠ gb291)); replace BK291 := Bk BK291 hb; clear hb hbox hg) | ((with_reducible refine gate_dst (N := 4) rfl ?_); refine bx (N := 4) (t := 27) #[.int .i64 0, .int .i64 0, .string (⟨#[]⟩ : ByteArray), .slice none 0 0, .slice none 0 0] ?_; intro gb293 hg w6 hbox hb; replace HO0_3 := aS (Kd.V_below (Kd.V_elderB (by (with_reducible repeat (first | apply Kd.V_alloc | apply Kd.V_drewN | apply Kd.V_drew)); exact HO0_3.out) gb293 (Nat.le_of_eq hg.symm)) hb); replace HO0_4 := aS (Kd.V_below (Kd.V_elderB (by (with_reducible repeat (first | apply Kd.V_alloc | apply Kd.V_drewN | apply Kd.V_drew)); exact HO0_4.out) gb293 (Nat.le_of_eq hg.symm)) hb); have BK293 := aS (hbox); have GW293 := Gz hg HB; have GE293 := Gz hg HB; replace HB := Hs HB hb; have NB291_293 := aS ((by rw [hg]; exact Nat.ne_of_lt (blk_lt (bkw BK291)) : gb291 ≠ gb293)); have NB293_291 := aS ((by rw [hg]; exact Nat.ne_of_gt (blk_lt (bkw BK291)) : gb293 ≠ gb291)); replace BK291 := Bk BK291 hb; have NB292_293 := aS ((by rw [hg]; exact Nat.ne_of_lt (blk_lt (bkw BK292)) : gb292 ≠ gb293)); have NB293_292 := aS ((by rw [hg]; exact Nat.ne_of_gt (blk_lt (bkw BK292)) : gb293 ≠ gb292)); replace BK292 := Bk BK292 hb; clear hb hbox hg))
 replace HO0_3 := aS (Kd.V_drew HO0_3.out)
 replace HO0_4 := aS (Kd.V_drew HO0_4.out)
 replace BK291 := aS (blk_drew BK291.out)
 replace BK292 := aS (blk_drew BK292.out)
 replace BK293 := aS (blk_drew BK293.out)
 replace HB := aS (below_drew1 HB.out)
 refine start_ (n := 6) (S := fun w' => w'.cell? ⟨gb291, 0, none⟩ = some (.int .i64 a0_0) ∧ w'.cell? ⟨gb291, 1, none⟩ = some (.int .i64 a0_1) ∧ w'.cell? ⟨gb291, 2, none⟩ = some (.string a0_2) ∧ w'.cell? ⟨gb291, 3, none⟩ = some (.slice A0_3 l0_3.length c0_3) ∧ w'.cell? ⟨gb291, 4, none⟩ = some (.slice A0_4 l0_4.length c0_4) ∧ w'.cell? ⟨gb292, 0, none⟩ = some (.int .i64 a1_0) ∧ w'.cell? ⟨gb292, 1, none⟩ = some (.int .i64 a1_1) ∧ w'.cell? ⟨gb292, 2, none⟩ = some (.string a1_2) ∧ w'.cell? ⟨gb292, 3, none⟩ = some (.slice A1_3 l1_3.length c1_3) ∧ w'.cell? ⟨gb292, 4, none⟩ = some (.slice A1_4 l1_4.length c1_4)) (ds := []) #[false, false, false, false, false, false] (by kernel_rfl) rfl rfl ⟨cz BK291 0, cz BK291 1, cz BK291 2, cz BK291 3, cz BK291 4, cz BK292 0, cz BK292 1, cz BK292 2, cz BK292 3, cz BK292 4⟩ (fun hHeld => ?_)
 generalize w6.drew = w7 at HO0_3 HO0_4 BK291 BK292 BK293 HB hHeld ⊢
 refine take_ (i := 0) (N := some 5) (v := ?_) (a' := ?_) #[true, false, false, false, false, false] rfl rfl (by kernel_rfl) (fun _ _ _ h => h) (Or.inl ⟨by rfl, ?_⟩) hHeld ?_ ?_
 rotate_left
 ·rintro w' ⟨s0, s1, s2, s3, s4, s5, s6, s7, s8, s9⟩
  go_simp
  with_reducible rfl
 rotate_left
 ·simp only [Act.put, List.setIfInBounds_toArray, List.set_cons_zero, List.set_cons_succ, i64_w, i32_w]
  rfl
 refine take_ (i := 1) (N := some 6) (v := ?_) (a' := ?_) #[true, true, false, false, false, false] rfl rfl (by kernel_rfl) (fun _ _ _ h => h) (Or.inl ⟨by rfl, ?_⟩) hHeld ?_ ?_
 rotate_left
 ·rintro w' ⟨s0, s1, s2, s3, s4, s5, s6, s7, s8, s9⟩
  go_simp
  with_reducible rfl
 rotate_left
 ·simp only [Act.put, List.setIfInBounds_toArray, List.set_cons_zero, List.set_cons_succ, i64_w, i32_w]
  rfl
 refine one_ (i := 2) (N := some 7) #[true, true, true, false, false, false] rfl rfl (by kernel_rfl) (by decide) (fun K hK => ?_)
 refine goes_ Try.func52 (by kernel_rfl) rfl #[.agg #[.int .i64 a1_0, .int .i64 a1_1, .string a1_2, .slice A1_3 l1_3.length c1_3, .slice A1_4 l1_4.length c1_4]] (by rfl) rfl rfl bl ?_
 with_reducible refine (touchstoneref5_Copy.calls k a1_0 a1_1 a1_2 _ _ l1_3 _ _ l1_4 t294 t295 t296 t297 t300 _ ?side1 ?side2 ?side3 ?side4 A3.out).mono ?_
 (case side1 => exact cr (Kd.C_below HR1_3.out HB.out))
 (case side2 => exact HC1_3.out)
 (case side3 => exact cr (Kd.C_below HR1_4.out HB.out))
 (case side4 => exact HC1_4.out)
 rintro e w8 ⟨v298, v301, rfl, ho0, ho1, hb⟩
 refine ⟨_, rfl, ?_⟩
 replace HO0_3 := aS (Kd.V_mono (Kd.V_told (Kd.V_told (Kd.V_old (by (with_reducible repeat (first | apply Kd.V_alloc | apply Kd.V_drewN | apply Kd.V_drew)); exact HO0_3.out) hb) (nb ho0)) (nb ho1)) (fun _ h_ => h_.1))
 replace HO0_4 := aS (Kd.V_mono (Kd.V_told (Kd.V_told (Kd.V_old (by (with_reducible repeat (first | apply Kd.V_alloc | apply Kd.V_drewN | apply Kd.V_drew)); exact HO0_4.out) hb) (nb ho0)) (nb ho1)) (fun _ h_ => h_.1))
 have HO299 := aS (Kd.N_lower (Kd.N_mono (ok' := fun k_ => ((P0_3_ k_ ∨ P0_4_ k_) ∨ w.heap.size ≤ k_) ∧ some k_ ≠ (v301 : Value).ownBlock ∧ k_ ≠ gb291 ∧ k_ ≠ gb292 ∧ k_ ≠ gb293) (Kd.R_N (Kd.R_bound (Kd.R_apart' ho0 (Kd.R_typed ho1) (by decide)))) (fun k_ hk_ => ⟨(.inr (Nat.le_trans (below_size (hbk HB)) hk_.2.1)), hk_.1.2, (Kd.freshB (bkw BK291) k_ hk_.2.1), (Kd.freshB (bkw BK292) k_ hk_.2.1), (Kd.freshB (bkw BK293) k_ hk_.2.1)⟩)) (below_size (hbk HB)))
 have HO302 := aS (Kd.N_lower (Kd.N_mono (ok' := fun k_ => ((P0_3_ k_ ∨ P0_4_ k_) ∨ w.heap.size ≤ k_) ∧ some k_ ≠ (v298 : Value).ownBlock ∧ k_ ≠ gb291 ∧ k_ ≠ gb292 ∧ k_ ≠ gb293) (Kd.R_N (Kd.R_bound ho1)) (fun k_ hk_ => ⟨(.inr (Nat.le_trans (below_size (hbk HB)) hk_.2.1)), hk_.1, (Kd.freshB (bkw BK291) k_ hk_.2.1), (Kd.freshB (bkw BK292) k_ hk_.2.1), (Kd.freshB (bkw BK293) k_ hk_.2.1)⟩)) (below_size (hbk HB)))
 replace BK291 := Bk BK291 hb
 replace BK292 := Bk BK292 hb
 replace BK293 := Bk BK293 hb
 replace HB := Hs HB hb
 (try clear hb)
 (try clear hb2)
 (try clear hk)
 (try clear hi)
 (try clear ho0)
 (try clear ho1)
 obtain ⟨Ao9, co9, eo9⟩ := Kd.N_slice HO299.out
 (first | subst eo9 | (injection eo9 with f1_ f2_ f3_; have f4_ := f1_.symm; have f5_ := f3_.symm; clear f1_ f2_ f3_; subst f4_; subst f5_))
 obtain ⟨Ao10, co10, eo10⟩ := Kd.N_slice HO302.out
 (first | subst eo10 | (injection eo10 with f1_ f2_ f3_; have f4_ := f1_.symm; have f5_ := f3_.symm; clear f1_ f2_ f3_; subst f4_; subst f5_))
 refine hK.out _ _ ⟨cz BK291 0, cz BK291 1, cz BK291 2, cz BK291 3, cz BK291 4, cz BK292 0, cz BK292 1, cz BK292 2, cz BK292 3, cz BK292 4⟩ (fun hHeld => ?_)
 clear hK K
 refine norm_ ap ?_
 refine one_ (i := 3) (N := some 8) #[true, true, true, true, false, false] rfl rfl (by kernel_rfl) (by decide) (fun K hK => ?_)
 refine Kd.N_lit_step k27 _ 27 ?hg (N' := 8) ?hd (xs := ([(⟨a0_0, a0_1, a0_2, l0_3, l0_4⟩ : S27), (⟨t294, t295, t296, t297, t300⟩ : S27)] : List (S27))) (inner := [.int .i64 a0_0, .int .i64 a0_1, .string a0_2, .slice A0_3 l0_3.length c0_3, .slice A0_4 l0_4.length c0_4, .int .i64 t294, .int .i64 t295, .string t296, .slice Ao9 t297.length co9, .slice Ao10 t300.length co10]) (ok := (fun k_ => ((P0_3_ k_ ∨ P0_4_ k_) ∨ w.heap.size ≤ k_) ∧ k_ ≠ gb291 ∧ k_ ≠ gb292 ∧ k_ ≠ gb293)) (okp := (fun k_ => ((P0_3_ k_ ∨ P0_4_ k_) ∨ w.heap.size ≤ k_) ∧ k_ ≠ gb291 ∧ k_ ≠ gb292 ∧ k_ ≠ gb293)) ?hr ?hp (fun _ hk => hk) ((show ∀ k_, w8.heap.size ≤ k_ → (fun k_ => ((P0_3_ k_ ∨ P0_4_ k_) ∨ w.heap.size ≤ k_) ∧ k_ ≠ gb291 ∧ k_ ≠ gb292 ∧ k_ ≠ gb293) k_ from fun k_ hk => ⟨(.inr (Nat.le_trans (below_size (hbk HB)) hk)), Kd.freshB (bkw BK291) k_ hk, Kd.freshB (bkw BK292) k_ hk, Kd.freshB (bkw BK293) k_ hk⟩) _ (Nat.le_refl _)) (Below.refl _ _) (Nat.le_refl _) (by simp) ?_; (case hd => rfl); (case hg => rfl); (case hr => first | (go_simp; done) | (go_simp; rfl)); (case hp => exact (Reps.c5 (show Kd.FK k27 _ _ (⟨a0_0, a0_1, a0_2, l0_3, l0_4⟩ : S27) [.int .i64 a0_0, .int .i64 a0_1, .string a0_2, .slice A0_3 l0_3.length c0_3, .slice A0_4 l0_4.length c0_4] from (k27_mkF _ _ (⟨a0_0, a0_1, a0_2, l0_3, l0_4⟩ : S27) (Kd.V_reads' (Kd.V_mono (ok' := (fun k_ => ((P0_3_ k_ ∨ P0_4_ k_) ∨ w.heap.size ≤ k_) ∧ k_ ≠ gb291 ∧ k_ ≠ gb292 ∧ k_ ≠ gb293)) (HO0_3.out) (fun k_ hk => ⟨hk.1.1.1.1.1, ⟨hk.1.1.1.1.2, ⟨hk.1.1.1.2, hk.1.1.2⟩⟩⟩))).2.1 (Kd.V_F (Kd.V_mono (ok' := (fun k_ => ((P0_3_ k_ ∨ P0_4_ k_) ∨ w.heap.size ≤ k_) ∧ k_ ≠ gb291 ∧ k_ ≠ gb292 ∧ k_ ≠ gb293)) (HO0_3.out) (fun k_ hk => ⟨hk.1.1.1.1.1, ⟨hk.1.1.1.1.2, ⟨hk.1.1.1.2, hk.1.1.2⟩⟩⟩))) (Kd.V_reads' (Kd.V_mono (ok' := (fun k_ => ((P0_3_ k_ ∨ P0_4_ k_) ∨ w.heap.size ≤ k_) ∧ k_ ≠ gb291 ∧ k_ ≠ gb292 ∧ k_ ≠ gb293)) (HO0_4.out) (fun k_ hk => ⟨hk.1.1.1.1.1, ⟨hk.1.1.1.1.2, ⟨hk.1.1.1.2, hk.1.1.2⟩⟩⟩))).2.1 (Kd.V_F (Kd.V_mono (ok' := (fun k_ => ((P0_3_ k_ ∨ P0_4_ k_) ∨ w.heap.size ≤ k_) ∧ k_ ≠ gb291 ∧ k_ ≠ gb292 ∧ k_ ≠ gb293)) (HO0_4.out) (fun k_ hk => ⟨hk.1.1.1.1.1, ⟨hk.1.1.1.1.2, ⟨hk.1.1.1.2, hk.1.1.2⟩⟩⟩))))) (Reps.c5 (show Kd.FK k27 _ _ (⟨t294, t295, t296, t297, t300⟩ : S27) [.int .i64 t294, .int .i64 t295, .string t296, .slice Ao9 t297.length co9, .slice Ao10 t300.length co10] from (k27_mkF _ _ (⟨t294, t295, t296, t297, t300⟩ : S27) (Kd.N_reads' (Kd.N_mono (ok' := (fun k_ => ((P0_3_ k_ ∨ P0_4_ k_) ∨ w.heap.size ≤ k_) ∧ k_ ≠ gb291 ∧ k_ ≠ gb292 ∧ k_ ≠ gb293)) (HO299.out) (fun k_ hk => ⟨hk.1, ⟨hk.2.2.1, ⟨hk.2.2.2.1, hk.2.2.2.2⟩⟩⟩))).2.1 (Kd.N_F (Kd.N_mono (ok' := (fun k_ => ((P0_3_ k_ ∨ P0_4_ k_) ∨ w.heap.size ≤ k_) ∧ k_ ≠ gb291 ∧ k_ ≠ gb292 ∧ k_ ≠ gb293)) (HO299.out) (fun k_ hk => ⟨hk.1, ⟨hk.2.2.1, ⟨hk.2.2.2.1, hk.2.2.2.2⟩⟩⟩))) (Kd.N_reads' (Kd.N_mono (ok' := (fun k_ => ((P0_3_ k_ ∨ P0_4_ k_) ∨ w.heap.size ≤ k_) ∧ k_ ≠ gb291 ∧ k_ ≠ gb292 ∧ k_ ≠ gb293)) (HO302.out) (fun k_ hk => ⟨hk.1, ⟨hk.2.2.1, ⟨hk.2.2.2.1, hk.2.2.2.2⟩⟩⟩))).2.1 (Kd.N_F (Kd.N_mono (ok' := (fun k_ => ((P0_3_ k_ ∨ P0_4_ k_) ∨ w.heap.size ≤ k_) ∧ k_ ≠ gb291 ∧ k_ ≠ gb292 ∧ k_ ≠ gb293)) (HO302.out) (fun k_ hk => ⟨hk.1, ⟨hk.2.2.1, ⟨hk.2.2.2.1, hk.2.2.2.2⟩⟩⟩))))) (Reps.none _ _))))
 intro v304 w11 ho12 hb hg_ hnew_
 clear hg_ hnew_
 (first | rw [← Ny303.out] at ho12 | (simp only [Int.reduceToNat] at ho12; rw [← Ny303.out] at ho12))
 replace HO0_3 := aS (Kd.V_elder' (by (with_reducible repeat (first | apply Kd.V_alloc | apply Kd.V_drewN | apply Kd.V_drew)); exact HO0_3.out) (nb ho12) hb)
 replace HO0_4 := aS (Kd.V_elder' (by (with_reducible repeat (first | apply Kd.V_alloc | apply Kd.V_drewN | apply Kd.V_drew)); exact HO0_4.out) (nb ho12) hb)
 have HO305 := aS (Kd.N_lower ho12 (below_size (hbk HB)))
 replace BK291 := Bk BK291 hb
 replace BK292 := Bk BK292 hb
 replace BK293 := Bk BK293 hb
 replace HB := Hs HB hb
 clear HO299 HO302
 clear hb ho12
 obtain ⟨Ao13, co13, eo13⟩ := Kd.N_slice HO305.out
 (first | subst eo13 | (injection eo13 with f1_ f2_ f3_; have f4_ := f1_.symm; have f5_ := f3_.symm; clear f1_ f2_ f3_; subst f4_; subst f5_))
 refine hK.out _ _ ⟨cz BK291 0, cz BK291 1, cz BK291 2, cz BK291 3, cz BK291 4, cz BK292 0, cz BK292 1, cz BK292 2, cz BK292 3, cz BK292 4⟩ (fun hHeld => ?_)
 clear hK K
 refine norm_ ap ?_
 refine pure_ (i := 4) (N := some 9) (v := ?_) (a' := ?_) #[true, true, true, true, true, false] rfl rfl (by kernel_rfl) (fun _ _ _ h => h) (Or.inl ⟨by rfl, ?_⟩) ?_ ?_
 rotate_left
 ·intro w'
  go_simp
  with_reducible rfl
 rotate_left
 ·simp only [Act.put, List.setIfInBounds_toArray, List.set_cons_zero, List.set_cons_succ, i64_w, i32_w]
  rfl
 refine one_ (i := 5) (N := none) #[true, true, true, true, true, true] rfl rfl (by kernel_rfl) (by decide) (fun K hK => ?_)
 have hs14 : w11.cell? ⟨gb293, 0, none⟩ = some (.int .i64 0) := cz BK293 0
 have hfs14 := blk_frozen BK293.out 0
 have hns14_0 := NB291_293.out
 have hns14_1 := NB292_293.out
 have hms14_0 := NB293_291.out
 have hms14_1 := NB293_292.out
 have hs15 : w11.cell? ⟨gb293, 1, none⟩ = some (.int .i64 0) := cz BK293 1
 have hfs15 := blk_frozen BK293.out 1
 have hns15_0 := NB291_293.out
 have hns15_1 := NB292_293.out
 have hms15_0 := NB293_291.out
 have hms15_1 := NB293_292.out
 have hs16 : w11.cell? ⟨gb293, 2, none⟩ = some (.string (⟨#[]⟩ : ByteArray)) := cz BK293 2
 have hfs16 := blk_frozen BK293.out 2
 have hns16_0 := NB291_293.out
 have hns16_1 := NB292_293.out
 have hms16_0 := NB293_291.out
 have hms16_1 := NB293_292.out
 have hs17 : w11.cell? ⟨gb293, 3, none⟩ = some (.slice none 0 0) := cz BK293 3
 have hfs17 := blk_frozen BK293.out 3
 have hns17_0 := NB291_293.out
 have hns17_1 := NB292_293.out
 have hms17_0 := NB293_291.out
 have hms17_1 := NB293_292.out
 have hs18 : w11.cell? ⟨gb293, 4, none⟩ = some (.slice none 0 0) := cz BK293 4
 have hfs18 := blk_frozen BK293.out 4
 have hns18_0 := NB291_293.out
 have hns18_1 := NB292_293.out
 have hms18_0 := NB293_291.out
 have hms18_1 := NB293_292.out
 refine skip_ (w1 := ?_) (by rfl) rfl ?_ ?_
 rotate_left
 ·go_simp
  rfl
 refine hK.out _ _ ⟨((cell_far (p := ⟨gb293, _, none⟩) NB291_293.out _).trans (((cell_far (p := ⟨gb293, _, none⟩) NB291_293.out _).trans (((cell_far (p := ⟨gb293, _, none⟩) NB291_293.out _).trans (((cell_far (p := ⟨gb293, _, none⟩) NB291_293.out _).trans (((cell_far (p := ⟨gb293, _, none⟩) NB291_293.out _).trans (hHeld.1)))))))))), ((cell_far (p := ⟨gb293, _, none⟩) NB291_293.out _).trans (((cell_far (p := ⟨gb293, _, none⟩) NB291_293.out _).trans (((cell_far (p := ⟨gb293, _, none⟩) NB291_293.out _).trans (((cell_far (p := ⟨gb293, _, none⟩) NB291_293.out _).trans (((cell_far (p := ⟨gb293, _, none⟩) NB291_293.out _).trans (hHeld.2.1)))))))))), ((cell_far (p := ⟨gb293, _, none⟩) NB291_293.out _).trans (((cell_far (p := ⟨gb293, _, none⟩) NB291_293.out _).trans (((cell_far (p := ⟨gb293, _, none⟩) NB291_293.out _).trans (((cell_far (p := ⟨gb293, _, none⟩) NB291_293.out _).trans (((cell_far (p := ⟨gb293, _, none⟩) NB291_293.out _).trans (hHeld.2.2.1)))))))))), ((cell_far (p := ⟨gb293, _, none⟩) NB291_293.out _).trans (((cell_far (p := ⟨gb293, _, none⟩) NB291_293.out _).trans (((cell_far (p := ⟨gb293, _, none⟩) NB291_293.out _).trans (((cell_far (p := ⟨gb293, _, none⟩) NB291_293.out _).trans (((cell_far (p := ⟨gb293, _, none⟩) NB291_293.out _).trans (hHeld.2.2.2.1)))))))))), ((cell_far (p := ⟨gb293, _, none⟩) NB291_293.out _).trans (((cell_far (p := ⟨gb293, _, none⟩) NB291_293.out _).trans (((cell_far (p := ⟨gb293, _, none⟩) NB291_293.out _).trans (((cell_far (p := ⟨gb293, _, none⟩) NB291_293.out _).trans (((cell_far (p := ⟨gb293, _, none⟩) NB291_293.out _).trans (hHeld.2.2.2.2.1)))))))))), ((cell_far (p := ⟨gb293, _, none⟩) NB292_293.out _).trans (((cell_far (p := ⟨gb293, _, none⟩) NB292_293.out _).trans (((cell_far (p := ⟨gb293, _, none⟩) NB292_293.out _).trans (((cell_far (p := ⟨gb293, _, none⟩) NB292_293.out _).trans (((cell_far (p := ⟨gb293, _, none⟩) NB292_293.out _).trans (hHeld.2.2.2.2.2.1)))))))))), ((cell_far (p := ⟨gb293, _, none⟩) NB292_293.out _).trans (((cell_far (p := ⟨gb293, _, none⟩) NB292_293.out _).trans (((cell_far (p := ⟨gb293, _, none⟩) NB292_293.out _).trans (((cell_far (p := ⟨gb293, _, none⟩) NB292_293.out _).trans (((cell_far (p := ⟨gb293, _, none⟩) NB292_293.out _).trans (hHeld.2.2.2.2.2.2.1)))))))))), ((cell_far (p := ⟨gb293, _, none⟩) NB292_293.out _).trans (((cell_far (p := ⟨gb293, _, none⟩) NB292_293.out _).trans (((cell_far (p := ⟨gb293, _, none⟩) NB292_293.out _).trans (((cell_far (p := ⟨gb293, _, none⟩) NB292_293.out _).trans (((cell_far (p := ⟨gb293, _, none⟩) NB292_293.out _).trans (hHeld.2.2.2.2.2.2.2.1)))))))))), ((cell_far (p := ⟨gb293, _, none⟩) NB292_293.out _).trans (((cell_far (p := ⟨gb293, _, none⟩) NB292_293.out _).trans (((cell_far (p := ⟨gb293, _, none⟩) NB292_293.out _).trans (((cell_far (p := ⟨gb293, _, none⟩) NB292_293.out _).trans (((cell_far (p := ⟨gb293, _, none⟩) NB292_293.out _).trans (hHeld.2.2.2.2.2.2.2.2.1)))))))))), ((cell_far (p := ⟨gb293, _, none⟩) NB292_293.out _).trans (((cell_far (p := ⟨gb293, _, none⟩) NB292_293.out _).trans (((cell_far (p := ⟨gb293, _, none⟩) NB292_293.out _).trans (((cell_far (p := ⟨gb293, _, none⟩) NB292_293.out _).trans (((cell_far (p := ⟨gb293, _, none⟩) NB292_293.out _).trans (hHeld.2.2.2.2.2.2.2.2.2))))))))))⟩ (fun hHeld => ?_)
 clear hK K
 refine done_ (by kernel_rfl) ?_
 try go_wp2
 refine bodyPost_ret (results_cell_row rfl _ _ gb293 27 #[.int .i64 3, .int .i64 0, .string (⟨#[]⟩ : ByteArray), .slice none 0 0, .slice Ao13 y303.length co13] (0, 0) _ rfl (bp5 BK293.out) Try.underlying27 rfl (by kernel_rfl)) rfl ?_
 exact ⟨_, _, by first | rfl | (simp [errW_none, errW_some] <;> rfl) | (simp [*, errW_none, errW_some] <;> rfl), by first | exact Kd.R_nil _ _ _ _ _ | exact Kd.N_nil _ _ _ _ _ | exact Kd.V_nil _ _ _ _ _ | exact Kd.Q_nil _ _ _ _ _ | exact Kd.S_nil _ _ _ _ _, by (with_reducible repeat (first | apply Kd.N_alloc | apply Kd.N_drewN | apply Kd.N_drew)); exact Kd.N_mono (N5 (g := gb293) (Kd.N_mono HO305.out (fun k_ hk => (⟨hk, hk.2.2.2⟩ : _ ∧ k_ ≠ gb293))) (fun _ hk => hk.2)) (fun _ hk => ⟨hk.1.1, (by simp [Value.ownBlock])⟩), hbk HB⟩
def touchstoneref5_Const.f (k : Nat) (a0 : ByteArray) (l1 : List (S76)) : Option (Int × Int × ByteArray × (List (S76)) × (List (S27))) := (touchstoneref5_leaf.f k 2 0 a0 l1 ([] : List (S27))).bind fun bt307 => (some (bt307.1, bt307.2.1, bt307.2.2.1, bt307.2.2.2.1, bt307.2.2.2.2))
set_option maxHeartbeats 8000000 in
set_option maxRecDepth 100000 in
theorem touchstoneref5_Const.calls (k : Nat) (a0 : ByteArray) (A1 : Option Addr) (c1 : Nat) (l1 : List (S76)) (r1 : Int) (r2 : Int) (r3 : ByteArray) (r4 : List (S76)) (r5 : List (S27)) (w : World) (hr1 : Kd.C k76 w A1 l1.length l1) (hc1 : l1.length ≤ c1) (h : touchstoneref5_Const.f k a0 l1 = some (r1, r2, r3, r4, r5)) :
  Calls Try.prog 84 #[.string a0, .slice A1 l1.length c1] w fun e w' => ∃ v3_ v4_ : Value, e = .returned (.agg #[.int .i64 r1, .int .i64 r2, .string r3, v3_, v4_]) ∧ Kd.R k76 76 w' w.heap.size (fun _ => True) v3_ r4 ∧ Kd.R k27 27 w' w.heap.size (fun k_ => some k_ ≠ (v3_ : Value).ownBlock) v4_ r5 ∧ Below w.heap.size w w' := by
 have hu27 := Try.underlying27
 have HR1 := aS hr1
 have HC1 := aS hc1
 clear hr1 hc1
 have HB := aS (Below.refl w.heap.size w)
 have H : ((touchstoneref5_leaf.f k 2 0 a0 l1 ([] : List (S27))).bind fun bt307 => (some (bt307.1, bt307.2.1, bt307.2.2.1, bt307.2.2.2.1, bt307.2.2.2.2))) = some (r1, r2, r3, r4, r5) := h
 clear h
 replace H := Option.bind_eq_some_iff.mp H
 obtain ⟨⟨t307, t308, t309, t310, t313⟩, A30, H⟩ := H
 try dsimp only at H
 have A3 := aS A30
 clear A30
 simp only [Option.some.injEq, Prod.mk.injEq] at H
 obtain ⟨rfl, rfl, rfl, rfl, rfl⟩ := H
 go_enter Try.func84, Try.ntmps84
 go_wp2_with (first | ((with_reducible refine gate_dst (N := 4) rfl ?_); refine bx (N := 4) (t := 27) #[.int .i64 0, .int .i64 0, .string (⟨#[]⟩ : ByteArray), .slice none 0 0, .slice none 0 0] ?_; intro gb306 hg w4 hbox hb; have BK306 := aS (hbox); have GW306 := Gz hg HB; have GE306 := Gz hg HB; replace HB := Hs HB hb; clear hb hbox hg) | ((with_reducible refine gate_callee (f := 101) rfl ?_); refine goesL_ (some 8) rfl rfl Try.func101 (by kernel_rfl) rfl #[.agg #[.int .i64 2, .int .i64 0, .string a0, .slice A1 l1.length c1, .slice none 0 0]] rfl bl ?_; (refine (touchstoneref5_leaf.calls k 2 0 a0 _ _ l1 _ _ ([] : List (S27)) t307 t308 t309 t310 t313 _ ?side1 ?side2 ?side3 ?side4 A3.out).mono ?_); (case side1 => exact cr (Kd.C_below HR1.out HB.out)); (case side2 => exact HC1.out); (case side3 => exact Kd.C_nil _ _); (case side4 => exact Nat.le_refl _); rintro e w5 ⟨v311, v314, rfl, ho0, ho1, hb⟩; refine ⟨_, rfl, ?_⟩; have HO312 := aS (Kd.R_lower ho0 (below_size (hbk HB))); have HO315 := aS (Kd.R_lower (Kd.R_newB ho1 (bkw BK306)) (below_size (hbk HB))); replace BK306 := Bk BK306 hb; replace HB := Hs HB hb; (try clear hb); (try clear hb2); (try clear hk); (try clear hi); (try clear ho0); (try clear ho1); obtain ⟨hcz6_0, hcz6_1, hcz6_2, hcz6_3, hcz6_4⟩ := cl5 BK306; obtain ⟨hfz6_0, hfz6_1, hfz6_2, hfz6_3, hfz6_4⟩ := fz5 BK306; obtain ⟨Ao7, co7, eo7⟩ := Kd.R_slice HO312.out; subst eo7; obtain ⟨Ao8, co8, eo8⟩ := Kd.R_slice HO315.out; subst eo8))
 refine bodyPost_ret (results_cell_row rfl _ _ gb306 27 #[.int .i64 t307, .int .i64 t308, .string t309, .slice Ao7 t310.length co7, .slice Ao8 t313.length co8] (0, 0) _ rfl (bp5 BK306.out) Try.underlying27 rfl (by kernel_rfl)) rfl ?_
 exact ⟨_, _, by first | rfl | (simp [errW_none, errW_some] <;> rfl) | (simp [*, errW_none, errW_some] <;> rfl), by (with_reducible repeat (first | apply Kd.R_alloc | apply Kd.R_drewN | apply Kd.R_drew)); exact Kd.R_mono (R5 (g := gb306) (Kd.R_types HO312.out BK306.out (by decide)) (fun _ hk => hk.2)) (fun _ hk => trivial), by (with_reducible repeat (first | apply Kd.R_alloc | apply Kd.R_drewN | apply Kd.R_drew)); exact Kd.R_mono (R5 (g := gb306) (Kd.R_mono HO315.out (fun k_ hk => (⟨hk, hk.2⟩ : _ ∧ k_ ≠ gb306))) (fun _ hk => hk.2)) (fun _ hk => hk.1.1), hbk HB⟩
end Go.Proofs.Ytpejhapgffcngaa.QK

