/- touchstonelaw5.begun. -/
import Derived.Test.YtpejhapgffcngaaXShort
import Derived.Test.YtpejhapgffcngaaQKApart
import Derived.Test.YtpejhapgffcngaaQKx11
import Derived.Test.YtpejhapgffcngaaQKx9
import Derived.Test.YtpejhapgffcngaaQKPut
import Derived.Test.YtpejhapgffcngaaQKSize2
import Derived.Test.YtpejhapgffcngaaQKDepth
import Derived.Test.YtpejhapgffcngaaQKEq
namespace Go.Proofs.Ytpejhapgffcngaa.QK
open Go.RowKit Go.Proofs.YtpejhapgffcngaaW.PrintWords Go.Proofs.YtpejhapgffcngaaW.PrintLast Go.Proofs.YtpejhapgffcngaaW.PrintMore
attribute [local go_sem] max2_int min2_int max_two min_two max_three min_three max_four min_four
set_option linter.unusedVariables false
set_option linter.unusedSimpArgs false
def begunP.f (k : Nat)  : Option (Bool) := (touchstoneref5_Var.f 0).bind fun bt259 => ((touchstoneref5_Var.f 1).bind fun bt268 => ((touchstoneref5_App.f k bt259.1 bt259.2.1 bt259.2.2.1 bt259.2.2.2.1 bt259.2.2.2.2 bt268.1 bt268.2.1 bt268.2.2.1 bt268.2.2.2.1 bt268.2.2.2.2).bind fun bt277 => ((touchstoneref5_Const.f k (⟨#[99]⟩ : ByteArray) ([] : List (S76))).bind fun bt287 => ((term_Put.f k bt277.1 bt277.2.1 bt277.2.2.1 bt277.2.2.2.1 bt277.2.2.2.2 bt287.1 bt287.2.1 bt287.2.2.1 bt287.2.2.2.1 bt287.2.2.2.2).bind fun bt296 => ((term_Size.f k bt277.1 bt277.2.1 bt277.2.2.1 bt277.2.2.2.1 bt277.2.2.2.2 9).bind fun t306 => (if t306 = 3 then ((term_Depth.f k bt277.1 bt277.2.1 bt277.2.2.1 bt277.2.2.2.1 bt277.2.2.2.2 9).bind fun t307 => (if t307 = 2 then ((term_May.f k bt277.1 bt277.2.1 bt277.2.2.1 bt277.2.2.2.1 bt277.2.2.2.2 2 0).bind fun t308 => (if t308 = 0 then ((term_Uses.f k bt277.1 bt277.2.1 bt277.2.2.1 bt277.2.2.2.1 bt277.2.2.2.2 1).bind fun t309 => (if t309 = true then (if (bt296.2.2.2.2.length : Int) = 2 then (if 0 < (bt296.2.2.2.2.length : Int) then (if ((rd_T27 bt296.2.2.2.2 0).f2).toList = ([99] : List UInt8) then (if 1 < (bt296.2.2.2.2.length : Int) then (if ((rd_T27 bt296.2.2.2.2 1).f1) = 0 then ((term_Equal.f k bt277.1 bt277.2.1 bt277.2.2.1 bt277.2.2.2.1 bt277.2.2.2.2 bt277.1 bt277.2.1 bt277.2.2.1 bt277.2.2.2.1 bt277.2.2.2.2).bind fun t312 => (some t312)) else (some false)) else (none)) else (some false)) else (none)) else (some false)) else (some false))) else (some false))) else (some false))) else (some false)))))))
set_option maxHeartbeats 8000000 in
set_option maxRecDepth 100000 in
theorem begunP.calls (k : Nat) (w : World) (h : begunP.f k = some true) :
  Calls Try.prog 38 #[] w fun e w' => e = .returned (.bool true) ∧ Below w.heap.size w w' := by
 have hu27 := Try.underlying27
 have HB := aS (Below.refl w.heap.size w)
 have H : ((touchstoneref5_Var.f 0).bind fun bt259 => ((touchstoneref5_Var.f 1).bind fun bt268 => ((touchstoneref5_App.f k bt259.1 bt259.2.1 bt259.2.2.1 bt259.2.2.2.1 bt259.2.2.2.2 bt268.1 bt268.2.1 bt268.2.2.1 bt268.2.2.2.1 bt268.2.2.2.2).bind fun bt277 => ((touchstoneref5_Const.f k (⟨#[99]⟩ : ByteArray) ([] : List (S76))).bind fun bt287 => ((term_Put.f k bt277.1 bt277.2.1 bt277.2.2.1 bt277.2.2.2.1 bt277.2.2.2.2 bt287.1 bt287.2.1 bt287.2.2.1 bt287.2.2.2.1 bt287.2.2.2.2).bind fun bt296 => ((term_Size.f k bt277.1 bt277.2.1 bt277.2.2.1 bt277.2.2.2.1 bt277.2.2.2.2 9).bind fun t306 => (if t306 = 3 then ((term_Depth.f k bt277.1 bt277.2.1 bt277.2.2.1 bt277.2.2.2.1 bt277.2.2.2.2 9).bind fun t307 => (if t307 = 2 then ((term_May.f k bt277.1 bt277.2.1 bt277.2.2.1 bt277.2.2.2.1 bt277.2.2.2.2 2 0).bind fun t308 => (if t308 = 0 then ((term_Uses.f k bt277.1 bt277.2.1 bt277.2.2.1 bt277.2.2.2.1 bt277.2.2.2.2 1).bind fun t309 => (if t309 = true then (if (bt296.2.2.2.2.length : Int) = 2 then (if 0 < (bt296.2.2.2.2.length : Int) then (if ((rd_T27 bt296.2.2.2.2 0).f2).toList = ([99] : List UInt8) then (if 1 < (bt296.2.2.2.2.length : Int) then (if ((rd_T27 bt296.2.2.2.2 1).f1) = 0 then ((term_Equal.f k bt277.1 bt277.2.1 bt277.2.2.1 bt277.2.2.2.1 bt277.2.2.2.2 bt277.1 bt277.2.1 bt277.2.2.1 bt277.2.2.2.1 bt277.2.2.2.2).bind fun t312 => (some t312)) else (some false)) else (none)) else (some false)) else (none)) else (some false)) else (some false))) else (some false))) else (some false))) else (some false)))))))) = some true := h
 clear h
 replace H := Option.bind_eq_some_iff.mp H
 obtain ⟨⟨t259, t260, t261, t262, t265⟩, A10, H⟩ := H
 try dsimp only at H
 have A1 := aS A10
 clear A10
 replace H := Option.bind_eq_some_iff.mp H
 obtain ⟨⟨t268, t269, t270, t271, t274⟩, A20, H⟩ := H
 try dsimp only at H
 have A2 := aS A20
 clear A20
 replace H := Option.bind_eq_some_iff.mp H
 obtain ⟨⟨t277, t278, t279, t280, t283⟩, A30, H⟩ := H
 try dsimp only at H
 have A3 := aS A30
 clear A30
 replace H := Option.bind_eq_some_iff.mp H
 obtain ⟨⟨t287, t288, t289, t290, t293⟩, A40, H⟩ := H
 try dsimp only at H
 have A4 := aS A40
 clear A40
 replace H := Option.bind_eq_some_iff.mp H
 obtain ⟨⟨t296, t297, t298, t299, t302⟩, A50, H⟩ := H
 try dsimp only at H
 have A5 := aS A50
 clear A50
 replace H := Option.bind_eq_some_iff.mp H
 obtain ⟨t306, A60, H⟩ := H
 try dsimp only at H
 have A6 := aS A60
 clear A60
 by_cases c7 : t306 = 3
 rotate_left
 ·rw [if_neg c7] at H
  exact absurd H (by simp)
 rw [if_pos c7] at H
 have c7b0 : (t306 == 3) = true := beq_iff_eq.mpr c7
 have c7b1 : (t306 != 3) = false := bne_eq_false_iff_eq.mpr c7
 clear c7
 replace H := Option.bind_eq_some_iff.mp H
 obtain ⟨t307, A80, H⟩ := H
 try dsimp only at H
 have A8 := aS A80
 clear A80
 by_cases c9 : t307 = 2
 rotate_left
 ·rw [if_neg c9] at H
  exact absurd H (by simp)
 rw [if_pos c9] at H
 have c9b0 : (t307 == 2) = true := beq_iff_eq.mpr c9
 have c9b1 : (t307 != 2) = false := bne_eq_false_iff_eq.mpr c9
 clear c9
 replace H := Option.bind_eq_some_iff.mp H
 obtain ⟨t308, A100, H⟩ := H
 try dsimp only at H
 have A10 := aS A100
 clear A100
 by_cases c11 : t308 = 0
 rotate_left
 ·rw [if_neg c11] at H
  exact absurd H (by simp)
 rw [if_pos c11] at H
 have c11b0 : (t308 == 0) = true := beq_iff_eq.mpr c11
 have c11b1 : (t308 != 0) = false := bne_eq_false_iff_eq.mpr c11
 clear c11
 replace H := Option.bind_eq_some_iff.mp H
 obtain ⟨t309, A120, H⟩ := H
 try dsimp only at H
 have A12 := aS A120
 clear A120
 by_cases c13 : t309 = true
 rotate_left
 ·exact absurd H (by simp [c13])
 subst c13
 have H1 : (if (t302.length : Int) = 2 then (if 0 < (t302.length : Int) then (if ((rd_T27 t302 0).f2).toList = ([99] : List UInt8) then (if 1 < (t302.length : Int) then (if ((rd_T27 t302 1).f1) = 0 then ((term_Equal.f k t277 t278 t279 t280 t283 t277 t278 t279 t280 t283).bind fun t312 => (some t312)) else (some false)) else (none)) else (some false)) else (none)) else (some false)) = some true := by rw [if_pos rfl] at H; exact H
 clear H
 have H := H1
 clear H1
 by_cases c14 : (t302.length : Int) = 2
 rotate_left
 ·rw [if_neg c14] at H
  exact absurd H (by simp)
 rw [if_pos c14] at H
 have c14b0 : ((t302.length : Int) == 2) = true := beq_iff_eq.mpr c14
 have c14b1 : ((t302.length : Int) != 2) = false := bne_eq_false_iff_eq.mpr c14
 clear c14
 by_cases c15 : 0 < (t302.length : Int)
 rotate_left
 ·rw [if_neg c15] at H
  exact absurd H (by simp)
 rw [if_pos c15] at H
 have c15b0 : decide (0 < (t302.length : Int)) = true := decide_eq_true c15
 have c15b1 : decide (0 < t302.length) = true := decide_eq_true (by omega)
 clear c15
 by_cases c16 : ((rd_T27 t302 0).f2).toList = ([99] : List UInt8)
 rotate_left
 ·rw [if_neg c16] at H
  exact absurd H (by simp)
 rw [if_pos c16] at H
 have c16b0 : (((rd_T27 t302 0).f2).toList == ([99] : List UInt8)) = true := beq_iff_eq.mpr c16
 have c16b1 : (((rd_T27 t302 0).f2).toList != ([99] : List UInt8)) = false := bne_eq_false_iff_eq.mpr c16
 clear c16
 by_cases c17 : 1 < (t302.length : Int)
 rotate_left
 ·rw [if_neg c17] at H
  exact absurd H (by simp)
 rw [if_pos c17] at H
 have c17b0 : decide (1 < (t302.length : Int)) = true := decide_eq_true c17
 have c17b1 : decide (1 < t302.length) = true := decide_eq_true (by omega)
 clear c17
 by_cases c18 : ((rd_T27 t302 1).f1) = 0
 rotate_left
 ·rw [if_neg c18] at H
  exact absurd H (by simp)
 rw [if_pos c18] at H
 have c18b0 : (((rd_T27 t302 1).f1) == 0) = true := beq_iff_eq.mpr c18
 have c18b1 : (((rd_T27 t302 1).f1) != 0) = false := bne_eq_false_iff_eq.mpr c18
 clear c18
 replace H := Option.bind_eq_some_iff.mp H
 obtain ⟨t312, A190, H⟩ := H
 try dsimp only at H
 have A19 := aS A190
 clear A190
 obtain rfl := Option.some.inj H
 go_enter Try.func38, Try.ntmps38
 try go_wp2_with (first | ((with_reducible refine gate_callee (f := 81) rfl ?_); refine goesL_ (some 3) rfl rfl Try.func81 (by kernel_rfl) rfl #[.int .i64 0] rfl bl ?_; (with_reducible refine (touchstoneref5_Var.calls 0 t259 t260 t261 t262 t265 _ A1.out).mono ?_); rintro e w20 ⟨v263, v266, rfl, ho0, ho1, hb⟩; refine ⟨_, rfl, ?_⟩; have HO264 := aS (Kd.N_lower (Kd.N_mono (ok' := fun k_ => some k_ ≠ (v266 : Value).ownBlock) (Kd.R_N (Kd.R_bound (Kd.R_apart' ho0 (Kd.R_typed ho1) (by decide)))) (fun k_ hk_ => hk_.1.2)) (below_size (hbk HB))); have HO267 := aS (Kd.N_lower (Kd.N_mono (ok' := fun k_ => some k_ ≠ (v263 : Value).ownBlock) (Kd.R_N (Kd.R_bound ho1)) (fun k_ hk_ => hk_.1)) (below_size (hbk HB))); replace HB := Hs HB hb; (try clear hb); (try clear hb2); (try clear hk); (try clear hi); (try clear ho0); (try clear ho1)) | ((with_reducible refine gate_callee (f := 81) rfl ?_); refine goesL_ (some 4) rfl rfl Try.func81 (by kernel_rfl) rfl #[.int .i64 1] rfl bl ?_; (with_reducible refine (touchstoneref5_Var.calls 1 t268 t269 t270 t271 t274 _ A2.out).mono ?_); rintro e w21 ⟨v272, v275, rfl, ho0, ho1, hb⟩; refine ⟨_, rfl, ?_⟩; have HO273 := aS (Kd.N_lower (Kd.N_mono (ok' := fun k_ => some k_ ≠ (v275 : Value).ownBlock ∧ some k_ ≠ (v263 : Value).ownBlock ∧ some k_ ≠ (v266 : Value).ownBlock) (Kd.R_N (Kd.R_bound (Kd.R_apart' ho0 (Kd.R_typed ho1) (by decide)))) (fun k_ hk_ => ⟨hk_.1.2, (Kd.fresh' (Kd.N_lt (kn HO264.out)) k_ hk_.2.1), (Kd.fresh' (Kd.N_lt (kn HO267.out)) k_ hk_.2.1)⟩)) (below_size (hbk HB))); have HO276 := aS (Kd.N_lower (Kd.N_mono (ok' := fun k_ => some k_ ≠ (v272 : Value).ownBlock ∧ some k_ ≠ (v263 : Value).ownBlock ∧ some k_ ≠ (v266 : Value).ownBlock) (Kd.R_N (Kd.R_bound ho1)) (fun k_ hk_ => ⟨hk_.1, (Kd.fresh' (Kd.N_lt (kn HO264.out)) k_ hk_.2.1), (Kd.fresh' (Kd.N_lt (kn HO267.out)) k_ hk_.2.1)⟩)) (below_size (hbk HB))); replace HO264 := aS (Kd.N_mono (Kd.N_told (Kd.N_told (Kd.N_old (kn HO264.out) hb) (nb ho0)) (nb ho1)) (fun _ h_ => h_.1)); replace HO267 := aS (Kd.N_mono (Kd.N_told (Kd.N_told (Kd.N_old (kn HO267.out) hb) (nb ho0)) (nb ho1)) (fun _ h_ => h_.1)); replace HB := Hs HB hb; (try clear hb); (try clear hb2); (try clear hk); (try clear hi); (try clear ho0); (try clear ho1); obtain ⟨Ao22, co22, eo22⟩ := Kd.N_slice HO264.out; subst eo22; obtain ⟨Ao23, co23, eo23⟩ := Kd.N_slice HO267.out; subst eo23; obtain ⟨Ao24, co24, eo24⟩ := Kd.N_slice HO273.out; subst eo24; obtain ⟨Ao25, co25, eo25⟩ := Kd.N_slice HO276.out; subst eo25) | ((with_reducible refine gate_callee (f := 83) rfl ?_); refine goesL_ (some 5) rfl rfl Try.func83 (by kernel_rfl) rfl #[.agg #[.int .i64 t259, .int .i64 t260, .string t261, .slice Ao22 t262.length co22, .slice Ao23 t265.length co23], .agg #[.int .i64 t268, .int .i64 t269, .string t270, .slice Ao24 t271.length co24, .slice Ao25 t274.length co25]] rfl bl ?_; (with_reducible refine (touchstoneref5_App.calls k t259 t260 t261 (fun k_ => ((some k_ ≠ (.slice Ao23 t265.length co23 : Value).ownBlock ∧ some k_ ≠ (.slice Ao24 t271.length co24 : Value).ownBlock) ∧ some k_ ≠ (.slice Ao25 t274.length co25 : Value).ownBlock)) _ _ t262 (fun k_ => ((some k_ ≠ (.slice Ao22 t262.length co22 : Value).ownBlock ∧ some k_ ≠ (.slice Ao24 t271.length co24 : Value).ownBlock) ∧ some k_ ≠ (.slice Ao25 t274.length co25 : Value).ownBlock)) _ _ t265 t268 t269 t270 _ _ t271 _ _ t274 t277 t278 t279 t280 t283 _ ?side1 ?side2 ?side3 ?side4 ?side5 ?side6 A3.out).mono ?_); (case side1 => exact Kd.N_V (HO264.out)); (case side2 => exact Kd.N_V (HO267.out)); (case side3 => exact cr (Kd.N_reads' HO273.out).2.2); (case side4 => exact (Kd.N_reads' HO273.out).2.1); (case side5 => exact cr (Kd.N_reads' HO276.out).2.2); (case side6 => exact (Kd.N_reads' HO276.out).2.1); rintro e w26 ⟨v281, v284, rfl, ho0, ho1, hb⟩; refine ⟨_, rfl, ?_⟩; replace HO264 := aS (Kd.N_mono (Kd.N_told (Kd.N_told (Kd.N_old (kn HO264.out) hb) (nb ho0)) (nb ho1)) (fun _ h_ => h_.1)); replace HO267 := aS (Kd.N_mono (Kd.N_told (Kd.N_told (Kd.N_old (kn HO267.out) hb) (nb ho0)) (nb ho1)) (fun _ h_ => h_.1)); have HO282 := aS (Kd.N_lower (Kd.N_mono (ok' := fun k_ => some k_ ≠ (v284 : Value).ownBlock ∧ some k_ ≠ (.slice Ao24 t271.length co24 : Value).ownBlock ∧ some k_ ≠ (.slice Ao25 t274.length co25 : Value).ownBlock) ho0 (fun k_ hk_ => ⟨hk_.2, Or.elim hk_.1 (fun hs_ => Or.elim hs_ (fun hs_ => hs_.1.2) (fun hs_ => hs_.1.2)) (fun hn_ => (Kd.fresh' (Kd.N_lt (kn HO273.out)) k_ hn_)), Or.elim hk_.1 (fun hs_ => Or.elim hs_ (fun hs_ => hs_.2) (fun hs_ => hs_.2)) (fun hn_ => (Kd.fresh' (Kd.N_lt (kn HO276.out)) k_ hn_))⟩)) (below_size (hbk HB))); have HO285 := aS (Kd.N_lower (Kd.N_mono (ok' := fun k_ => some k_ ≠ (v281 : Value).ownBlock ∧ some k_ ≠ (.slice Ao24 t271.length co24 : Value).ownBlock ∧ some k_ ≠ (.slice Ao25 t274.length co25 : Value).ownBlock) ho1 (fun k_ hk_ => ⟨hk_.2, Or.elim hk_.1 (fun hs_ => Or.elim hs_ (fun hs_ => hs_.1.2) (fun hs_ => hs_.1.2)) (fun hn_ => (Kd.fresh' (Kd.N_lt (kn HO273.out)) k_ hn_)), Or.elim hk_.1 (fun hs_ => Or.elim hs_ (fun hs_ => hs_.2) (fun hs_ => hs_.2)) (fun hn_ => (Kd.fresh' (Kd.N_lt (kn HO276.out)) k_ hn_))⟩)) (below_size (hbk HB))); replace HO273 := aS (Kd.N_mono (Kd.N_told (Kd.N_told (Kd.N_old (kn HO273.out) hb) (nb ho0)) (nb ho1)) (fun _ h_ => h_.1)); replace HO276 := aS (Kd.N_mono (Kd.N_told (Kd.N_told (Kd.N_old (kn HO276.out) hb) (nb ho0)) (nb ho1)) (fun _ h_ => h_.1)); replace HB := Hs HB hb; (try clear hb); (try clear hb2); (try clear hk); (try clear hi); (try clear ho0); (try clear ho1)) | ((with_reducible refine gate_dst (N := 1) rfl ?_); (try (refine gate_guard (by rfl) ?_; dsimp only)); refine bx (N := 1) (t := 27) #[.int .i64 0, .int .i64 0, .string (⟨#[]⟩ : ByteArray), .slice none 0 0, .slice none 0 0] ?_; intro gb286 hg w27 hbox hb; replace HO264 := aS (Kd.N_below (Kd.N_elderB (kn HO264.out) gb286 (Nat.le_of_eq hg.symm)) hb); replace HO267 := aS (Kd.N_below (Kd.N_elderB (kn HO267.out) gb286 (Nat.le_of_eq hg.symm)) hb); replace HO273 := aS (Kd.N_below (Kd.N_elderB (kn HO273.out) gb286 (Nat.le_of_eq hg.symm)) hb); replace HO276 := aS (Kd.N_below (Kd.N_elderB (kn HO276.out) gb286 (Nat.le_of_eq hg.symm)) hb); replace HO282 := aS (Kd.N_below (Kd.N_elderB (kn HO282.out) gb286 (Nat.le_of_eq hg.symm)) hb); replace HO285 := aS (Kd.N_below (Kd.N_elderB (kn HO285.out) gb286 (Nat.le_of_eq hg.symm)) hb); have BK286 := aS (hbox); have GW286 := Gz hg HB; have GE286 := Gz hg HB; replace HB := Hs HB hb; clear hb hbox hg; obtain ⟨hcz28_0, hcz28_1, hcz28_2, hcz28_3, hcz28_4⟩ := cl5 BK286; obtain ⟨hfz28_0, hfz28_1, hfz28_2, hfz28_3, hfz28_4⟩ := fz5 BK286; obtain ⟨Ao29, co29, eo29⟩ := Kd.N_slice HO282.out; subst eo29; obtain ⟨Ao30, co30, eo30⟩ := Kd.N_slice HO285.out; subst eo30))
 have n0_ : Aside0 (Kd.N k76 76 (((((w27.setCell ⟨gb286, 0, none⟩ (.int .i64 t277)).setCell ⟨gb286, 1, none⟩ (.int .i64 t278)).setCell ⟨gb286, 2, none⟩ (.string t279)).setCell ⟨gb286, 3, none⟩ (.slice Ao29 t280.length co29)).setCell ⟨gb286, 4, none⟩ (.slice Ao30 t283.length co30)) w.heap.size (fun k_ => some k_ ≠ (.slice Ao23 t265.length co23 : Value).ownBlock ∧ some k_ ≠ (.slice Ao24 t271.length co24 : Value).ownBlock ∧ some k_ ≠ (.slice Ao25 t274.length co25 : Value).ownBlock ∧ some k_ ≠ (.slice Ao29 t280.length co29 : Value).ownBlock ∧ some k_ ≠ (.slice Ao30 t283.length co30 : Value).ownBlock ∧ k_ ≠ gb286) (.slice Ao22 t262.length co22) t262) := ⟨by (with_reducible repeat (first | apply Kd.N_alloc | apply Kd.N_drewN | apply Kd.N_drew)); exact Kd.N_mono (N5 (g := gb286) (Kd.N_mono HO264.out (fun k_ hk => (⟨hk, hk.2⟩ : _ ∧ k_ ≠ gb286))) (fun _ hk => hk.2)) (fun _ hk => ⟨hk.1.1.1.1.1.1, ⟨hk.1.1.1.1.1.2, ⟨hk.1.1.1.1.2, ⟨hk.1.1.1.2, ⟨hk.1.1.2, hk.1.2⟩⟩⟩⟩⟩)⟩
 have n1_ : Aside0 (Kd.N k27 27 (((((w27.setCell ⟨gb286, 0, none⟩ (.int .i64 t277)).setCell ⟨gb286, 1, none⟩ (.int .i64 t278)).setCell ⟨gb286, 2, none⟩ (.string t279)).setCell ⟨gb286, 3, none⟩ (.slice Ao29 t280.length co29)).setCell ⟨gb286, 4, none⟩ (.slice Ao30 t283.length co30)) w.heap.size (fun k_ => some k_ ≠ (.slice Ao22 t262.length co22 : Value).ownBlock ∧ some k_ ≠ (.slice Ao24 t271.length co24 : Value).ownBlock ∧ some k_ ≠ (.slice Ao25 t274.length co25 : Value).ownBlock ∧ some k_ ≠ (.slice Ao29 t280.length co29 : Value).ownBlock ∧ some k_ ≠ (.slice Ao30 t283.length co30 : Value).ownBlock ∧ k_ ≠ gb286) (.slice Ao23 t265.length co23) t265) := ⟨by (with_reducible repeat (first | apply Kd.N_alloc | apply Kd.N_drewN | apply Kd.N_drew)); exact Kd.N_mono (N5 (g := gb286) (Kd.N_mono HO267.out (fun k_ hk => (⟨hk, hk.2⟩ : _ ∧ k_ ≠ gb286))) (fun _ hk => hk.2)) (fun _ hk => ⟨hk.1.1.1.1.1.1, ⟨hk.1.1.1.1.1.2, ⟨hk.1.1.1.1.2, ⟨hk.1.1.1.2, ⟨hk.1.1.2, hk.1.2⟩⟩⟩⟩⟩)⟩
 have n2_ : Aside0 (Kd.N k76 76 (((((w27.setCell ⟨gb286, 0, none⟩ (.int .i64 t277)).setCell ⟨gb286, 1, none⟩ (.int .i64 t278)).setCell ⟨gb286, 2, none⟩ (.string t279)).setCell ⟨gb286, 3, none⟩ (.slice Ao29 t280.length co29)).setCell ⟨gb286, 4, none⟩ (.slice Ao30 t283.length co30)) w.heap.size (fun k_ => some k_ ≠ (.slice Ao22 t262.length co22 : Value).ownBlock ∧ some k_ ≠ (.slice Ao23 t265.length co23 : Value).ownBlock ∧ some k_ ≠ (.slice Ao25 t274.length co25 : Value).ownBlock ∧ some k_ ≠ (.slice Ao29 t280.length co29 : Value).ownBlock ∧ some k_ ≠ (.slice Ao30 t283.length co30 : Value).ownBlock ∧ k_ ≠ gb286) (.slice Ao24 t271.length co24) t271) := ⟨by (with_reducible repeat (first | apply Kd.N_alloc | apply Kd.N_drewN | apply Kd.N_drew)); exact Kd.N_mono (N5 (g := gb286) (Kd.N_mono HO273.out (fun k_ hk => (⟨hk, hk.2⟩ : _ ∧ k_ ≠ gb286))) (fun _ hk => hk.2)) (fun _ hk => ⟨hk.1.1.1.1.2.1, ⟨hk.1.1.1.1.2.2, ⟨hk.1.1.1.1.1, ⟨hk.1.1.1.2, ⟨hk.1.1.2, hk.1.2⟩⟩⟩⟩⟩)⟩
 have n3_ : Aside0 (Kd.N k27 27 (((((w27.setCell ⟨gb286, 0, none⟩ (.int .i64 t277)).setCell ⟨gb286, 1, none⟩ (.int .i64 t278)).setCell ⟨gb286, 2, none⟩ (.string t279)).setCell ⟨gb286, 3, none⟩ (.slice Ao29 t280.length co29)).setCell ⟨gb286, 4, none⟩ (.slice Ao30 t283.length co30)) w.heap.size (fun k_ => some k_ ≠ (.slice Ao22 t262.length co22 : Value).ownBlock ∧ some k_ ≠ (.slice Ao23 t265.length co23 : Value).ownBlock ∧ some k_ ≠ (.slice Ao24 t271.length co24 : Value).ownBlock ∧ some k_ ≠ (.slice Ao29 t280.length co29 : Value).ownBlock ∧ some k_ ≠ (.slice Ao30 t283.length co30 : Value).ownBlock ∧ k_ ≠ gb286) (.slice Ao25 t274.length co25) t274) := ⟨by (with_reducible repeat (first | apply Kd.N_alloc | apply Kd.N_drewN | apply Kd.N_drew)); exact Kd.N_mono (N5 (g := gb286) (Kd.N_mono HO276.out (fun k_ hk => (⟨hk, hk.2⟩ : _ ∧ k_ ≠ gb286))) (fun _ hk => hk.2)) (fun _ hk => ⟨hk.1.1.1.1.2.1, ⟨hk.1.1.1.1.2.2, ⟨hk.1.1.1.1.1, ⟨hk.1.1.1.2, ⟨hk.1.1.2, hk.1.2⟩⟩⟩⟩⟩)⟩
 have n4_ : Aside0 (Kd.N k76 76 (((((w27.setCell ⟨gb286, 0, none⟩ (.int .i64 t277)).setCell ⟨gb286, 1, none⟩ (.int .i64 t278)).setCell ⟨gb286, 2, none⟩ (.string t279)).setCell ⟨gb286, 3, none⟩ (.slice Ao29 t280.length co29)).setCell ⟨gb286, 4, none⟩ (.slice Ao30 t283.length co30)) w.heap.size (fun k_ => some k_ ≠ (.slice Ao24 t271.length co24 : Value).ownBlock ∧ some k_ ≠ (.slice Ao25 t274.length co25 : Value).ownBlock ∧ some k_ ≠ (.slice Ao30 t283.length co30 : Value).ownBlock ∧ k_ ≠ gb286) (.slice Ao29 t280.length co29) t280) := ⟨by (with_reducible repeat (first | apply Kd.N_alloc | apply Kd.N_drewN | apply Kd.N_drew)); exact Kd.N_mono (N5 (g := gb286) (Kd.N_mono HO282.out (fun k_ hk => (⟨hk, hk.2⟩ : _ ∧ k_ ≠ gb286))) (fun _ hk => hk.2)) (fun _ hk => ⟨hk.1.1.2.1, ⟨hk.1.1.2.2, ⟨hk.1.1.1, hk.1.2⟩⟩⟩)⟩
 have n5_ : Aside0 (Kd.N k27 27 (((((w27.setCell ⟨gb286, 0, none⟩ (.int .i64 t277)).setCell ⟨gb286, 1, none⟩ (.int .i64 t278)).setCell ⟨gb286, 2, none⟩ (.string t279)).setCell ⟨gb286, 3, none⟩ (.slice Ao29 t280.length co29)).setCell ⟨gb286, 4, none⟩ (.slice Ao30 t283.length co30)) w.heap.size (fun k_ => some k_ ≠ (.slice Ao24 t271.length co24 : Value).ownBlock ∧ some k_ ≠ (.slice Ao25 t274.length co25 : Value).ownBlock ∧ some k_ ≠ (.slice Ao29 t280.length co29 : Value).ownBlock ∧ k_ ≠ gb286) (.slice Ao30 t283.length co30) t283) := ⟨by (with_reducible repeat (first | apply Kd.N_alloc | apply Kd.N_drewN | apply Kd.N_drew)); exact Kd.N_mono (N5 (g := gb286) (Kd.N_mono HO285.out (fun k_ hk => (⟨hk, hk.2⟩ : _ ∧ k_ ≠ gb286))) (fun _ hk => hk.2)) (fun _ hk => ⟨hk.1.1.2.1, ⟨hk.1.1.2.2, ⟨hk.1.1.1, hk.1.2⟩⟩⟩)⟩
 have n6_ : Aside0 ((((((w27.setCell ⟨gb286, 0, none⟩ (.int .i64 t277)).setCell ⟨gb286, 1, none⟩ (.int .i64 t278)).setCell ⟨gb286, 2, none⟩ (.string t279)).setCell ⟨gb286, 3, none⟩ (.slice Ao29 t280.length co29)).setCell ⟨gb286, 4, none⟩ (.slice Ao30 t283.length co30)).heap[gb286]? = some (.cells #[.int .i64 t277, .int .i64 t278, .string t279, .slice Ao29 t280.length co29, .slice Ao30 t283.length co30] 27 (0, 0))) := ⟨bp5 BK286.out⟩
 have n7_ : Aside0 (Below w.heap.size w (((((w27.setCell ⟨gb286, 0, none⟩ (.int .i64 t277)).setCell ⟨gb286, 1, none⟩ (.int .i64 t278)).setCell ⟨gb286, 2, none⟩ (.string t279)).setCell ⟨gb286, 3, none⟩ (.slice Ao29 t280.length co29)).setCell ⟨gb286, 4, none⟩ (.slice Ao30 t283.length co30))) := ⟨hbk HB⟩
 (try clear HO264)
 (try clear HO267)
 (try clear HO273)
 (try clear HO276)
 (try clear HO282)
 (try clear HO285)
 (try clear BK286)
 (try clear HB)
 generalize (((((w27.setCell ⟨gb286, 0, none⟩ (.int .i64 t277)).setCell ⟨gb286, 1, none⟩ (.int .i64 t278)).setCell ⟨gb286, 2, none⟩ (.string t279)).setCell ⟨gb286, 3, none⟩ (.slice Ao29 t280.length co29)).setCell ⟨gb286, 4, none⟩ (.slice Ao30 t283.length co30)) = w31 at n0_ n1_ n2_ n3_ n4_ n5_ n6_ n7_ ⊢
 have HO264 := n0_
 have HO267 := n1_
 have HO273 := n2_
 have HO276 := n3_
 have HO282 := n4_
 have HO285 := n5_
 have BK286 := n6_
 have HB := n7_
 clear n0_ n1_ n2_ n3_ n4_ n5_ n6_ n7_
 replace HO264 := aS (Kd.N_drew HO264.out)
 replace HO267 := aS (Kd.N_drew HO267.out)
 replace HO273 := aS (Kd.N_drew HO273.out)
 replace HO276 := aS (Kd.N_drew HO276.out)
 replace HO282 := aS (Kd.N_drew HO282.out)
 replace HO285 := aS (Kd.N_drew HO285.out)
 replace BK286 := aS (blk_drew BK286.out)
 replace HB := aS (below_drew1 HB.out)
 refine start_ (n := 5) (S := fun w' => w'.cell? ⟨gb286, 0, none⟩ = some (.int .i64 t277) ∧ w'.cell? ⟨gb286, 1, none⟩ = some (.int .i64 t278) ∧ w'.cell? ⟨gb286, 2, none⟩ = some (.string t279) ∧ w'.cell? ⟨gb286, 3, none⟩ = some (.slice Ao29 t280.length co29) ∧ w'.cell? ⟨gb286, 4, none⟩ = some (.slice Ao30 t283.length co30)) (ds := []) #[false, false, false, false, false] (by kernel_rfl) rfl rfl ⟨cz BK286 0, cz BK286 1, cz BK286 2, cz BK286 3, cz BK286 4⟩ (fun hHeld => ?_)
 generalize w31.drew = w32 at HO264 HO267 HO273 HO276 HO282 HO285 BK286 HB hHeld ⊢
 refine take_ (i := 0) (N := some 6) (v := ?_) (a' := ?_) #[true, false, false, false, false] rfl rfl (by kernel_rfl) (fun _ _ _ h => h) (Or.inl ⟨by rfl, ?_⟩) hHeld ?_ ?_
 rotate_left
 ·rintro w' ⟨s0, s1, s2, s3, s4⟩
  go_simp
  with_reducible rfl
 rotate_left
 ·simp only [Act.put, List.setIfInBounds_toArray, List.set_cons_zero, List.set_cons_succ, i64_w, i32_w]
  rfl
 refine join_ (σ := Value × Value × Value × Value × Nat) 1 #[true, true, true, true, false] (fun s_ => [(7, .agg #[.int .i64 t287, .int .i64 t288, .string t289, s_.1, s_.2.1]), (8, .agg #[.int .i64 t296, .int .i64 t297, .string t298, s_.2.2.1, s_.2.2.2.1]), (2, .pointer (some ⟨s_.2.2.2.2, 0, none⟩))]) (fun s_ w' => (w'.cell? ⟨gb286, 0, none⟩ = some (.int .i64 t277) ∧ w'.cell? ⟨gb286, 1, none⟩ = some (.int .i64 t278) ∧ w'.cell? ⟨gb286, 2, none⟩ = some (.string t279) ∧ w'.cell? ⟨gb286, 3, none⟩ = some (.slice Ao29 t280.length co29) ∧ w'.cell? ⟨gb286, 4, none⟩ = some (.slice Ao30 t283.length co30)) ∧ (Kd.N k76 76 w' w.heap.size (fun k_ => some k_ ≠ (.slice Ao23 t265.length co23 : Value).ownBlock ∧ some k_ ≠ (.slice Ao24 t271.length co24 : Value).ownBlock ∧ some k_ ≠ (.slice Ao25 t274.length co25 : Value).ownBlock ∧ some k_ ≠ (.slice Ao29 t280.length co29 : Value).ownBlock ∧ some k_ ≠ (.slice Ao30 t283.length co30 : Value).ownBlock ∧ some k_ ≠ (s_.1 : Value).ownBlock ∧ some k_ ≠ (s_.2.1 : Value).ownBlock ∧ some k_ ≠ (s_.2.2.1 : Value).ownBlock ∧ some k_ ≠ (s_.2.2.2.1 : Value).ownBlock ∧ k_ ≠ gb286 ∧ k_ ≠ s_.2.2.2.2) (.slice Ao22 t262.length co22) t262) ∧ (Kd.N k27 27 w' w.heap.size (fun k_ => some k_ ≠ (.slice Ao22 t262.length co22 : Value).ownBlock ∧ some k_ ≠ (.slice Ao24 t271.length co24 : Value).ownBlock ∧ some k_ ≠ (.slice Ao25 t274.length co25 : Value).ownBlock ∧ some k_ ≠ (.slice Ao29 t280.length co29 : Value).ownBlock ∧ some k_ ≠ (.slice Ao30 t283.length co30 : Value).ownBlock ∧ some k_ ≠ (s_.1 : Value).ownBlock ∧ some k_ ≠ (s_.2.1 : Value).ownBlock ∧ some k_ ≠ (s_.2.2.1 : Value).ownBlock ∧ some k_ ≠ (s_.2.2.2.1 : Value).ownBlock ∧ k_ ≠ gb286 ∧ k_ ≠ s_.2.2.2.2) (.slice Ao23 t265.length co23) t265) ∧ (Kd.N k76 76 w' w.heap.size (fun k_ => some k_ ≠ (.slice Ao22 t262.length co22 : Value).ownBlock ∧ some k_ ≠ (.slice Ao23 t265.length co23 : Value).ownBlock ∧ some k_ ≠ (.slice Ao25 t274.length co25 : Value).ownBlock ∧ some k_ ≠ (.slice Ao29 t280.length co29 : Value).ownBlock ∧ some k_ ≠ (.slice Ao30 t283.length co30 : Value).ownBlock ∧ some k_ ≠ (s_.1 : Value).ownBlock ∧ some k_ ≠ (s_.2.1 : Value).ownBlock ∧ some k_ ≠ (s_.2.2.1 : Value).ownBlock ∧ some k_ ≠ (s_.2.2.2.1 : Value).ownBlock ∧ k_ ≠ gb286 ∧ k_ ≠ s_.2.2.2.2) (.slice Ao24 t271.length co24) t271) ∧ (Kd.N k27 27 w' w.heap.size (fun k_ => some k_ ≠ (.slice Ao22 t262.length co22 : Value).ownBlock ∧ some k_ ≠ (.slice Ao23 t265.length co23 : Value).ownBlock ∧ some k_ ≠ (.slice Ao24 t271.length co24 : Value).ownBlock ∧ some k_ ≠ (.slice Ao29 t280.length co29 : Value).ownBlock ∧ some k_ ≠ (.slice Ao30 t283.length co30 : Value).ownBlock ∧ some k_ ≠ (s_.1 : Value).ownBlock ∧ some k_ ≠ (s_.2.1 : Value).ownBlock ∧ some k_ ≠ (s_.2.2.1 : Value).ownBlock ∧ some k_ ≠ (s_.2.2.2.1 : Value).ownBlock ∧ k_ ≠ gb286 ∧ k_ ≠ s_.2.2.2.2) (.slice Ao25 t274.length co25) t274) ∧ (Kd.N k76 76 w' w.heap.size (fun k_ => some k_ ≠ (.slice Ao24 t271.length co24 : Value).ownBlock ∧ some k_ ≠ (.slice Ao25 t274.length co25 : Value).ownBlock ∧ some k_ ≠ (.slice Ao30 t283.length co30 : Value).ownBlock ∧ some k_ ≠ (s_.1 : Value).ownBlock ∧ some k_ ≠ (s_.2.1 : Value).ownBlock ∧ some k_ ≠ (s_.2.2.1 : Value).ownBlock ∧ some k_ ≠ (s_.2.2.2.1 : Value).ownBlock ∧ k_ ≠ gb286 ∧ k_ ≠ s_.2.2.2.2) (.slice Ao29 t280.length co29) t280) ∧ (Kd.N k27 27 w' w.heap.size (fun k_ => some k_ ≠ (.slice Ao24 t271.length co24 : Value).ownBlock ∧ some k_ ≠ (.slice Ao25 t274.length co25 : Value).ownBlock ∧ some k_ ≠ (.slice Ao29 t280.length co29 : Value).ownBlock ∧ some k_ ≠ (s_.1 : Value).ownBlock ∧ some k_ ≠ (s_.2.1 : Value).ownBlock ∧ some k_ ≠ (s_.2.2.1 : Value).ownBlock ∧ some k_ ≠ (s_.2.2.2.1 : Value).ownBlock ∧ k_ ≠ gb286 ∧ k_ ≠ s_.2.2.2.2) (.slice Ao30 t283.length co30) t283) ∧ (Kd.N k76 76 w' w.heap.size (fun k_ => some k_ ≠ (.slice Ao22 t262.length co22 : Value).ownBlock ∧ some k_ ≠ (.slice Ao23 t265.length co23 : Value).ownBlock ∧ some k_ ≠ (.slice Ao24 t271.length co24 : Value).ownBlock ∧ some k_ ≠ (.slice Ao25 t274.length co25 : Value).ownBlock ∧ some k_ ≠ (.slice Ao29 t280.length co29 : Value).ownBlock ∧ some k_ ≠ (.slice Ao30 t283.length co30 : Value).ownBlock ∧ some k_ ≠ (s_.2.1 : Value).ownBlock ∧ some k_ ≠ (s_.2.2.1 : Value).ownBlock ∧ some k_ ≠ (s_.2.2.2.1 : Value).ownBlock ∧ k_ ≠ gb286 ∧ k_ ≠ s_.2.2.2.2) s_.1 t290) ∧ (Kd.N k27 27 w' w.heap.size (fun k_ => some k_ ≠ (.slice Ao22 t262.length co22 : Value).ownBlock ∧ some k_ ≠ (.slice Ao23 t265.length co23 : Value).ownBlock ∧ some k_ ≠ (.slice Ao24 t271.length co24 : Value).ownBlock ∧ some k_ ≠ (.slice Ao25 t274.length co25 : Value).ownBlock ∧ some k_ ≠ (.slice Ao29 t280.length co29 : Value).ownBlock ∧ some k_ ≠ (.slice Ao30 t283.length co30 : Value).ownBlock ∧ some k_ ≠ (s_.1 : Value).ownBlock ∧ some k_ ≠ (s_.2.2.1 : Value).ownBlock ∧ some k_ ≠ (s_.2.2.2.1 : Value).ownBlock ∧ k_ ≠ gb286 ∧ k_ ≠ s_.2.2.2.2) s_.2.1 t293) ∧ (Kd.N k76 76 w' w.heap.size (fun k_ => some k_ ≠ (.slice Ao22 t262.length co22 : Value).ownBlock ∧ some k_ ≠ (.slice Ao23 t265.length co23 : Value).ownBlock ∧ some k_ ≠ (.slice Ao24 t271.length co24 : Value).ownBlock ∧ some k_ ≠ (.slice Ao25 t274.length co25 : Value).ownBlock ∧ some k_ ≠ (.slice Ao29 t280.length co29 : Value).ownBlock ∧ some k_ ≠ (.slice Ao30 t283.length co30 : Value).ownBlock ∧ some k_ ≠ (s_.1 : Value).ownBlock ∧ some k_ ≠ (s_.2.1 : Value).ownBlock ∧ some k_ ≠ (s_.2.2.2.1 : Value).ownBlock ∧ k_ ≠ gb286 ∧ k_ ≠ s_.2.2.2.2) s_.2.2.1 t299) ∧ (Kd.N k27 27 w' w.heap.size (fun k_ => some k_ ≠ (.slice Ao22 t262.length co22 : Value).ownBlock ∧ some k_ ≠ (.slice Ao23 t265.length co23 : Value).ownBlock ∧ some k_ ≠ (.slice Ao24 t271.length co24 : Value).ownBlock ∧ some k_ ≠ (.slice Ao25 t274.length co25 : Value).ownBlock ∧ some k_ ≠ (.slice Ao29 t280.length co29 : Value).ownBlock ∧ some k_ ≠ (.slice Ao30 t283.length co30 : Value).ownBlock ∧ some k_ ≠ (s_.1 : Value).ownBlock ∧ some k_ ≠ (s_.2.1 : Value).ownBlock ∧ some k_ ≠ (s_.2.2.1 : Value).ownBlock ∧ k_ ≠ gb286 ∧ k_ ≠ s_.2.2.2.2) s_.2.2.2.1 t302) ∧ (w'.heap[gb286]? = some (.cells #[.int .i64 t277, .int .i64 t278, .string t279, .slice Ao29 t280.length co29, .slice Ao30 t283.length co30] 27 (0, 0))) ∧ (w'.heap[s_.2.2.2.2]? = some (.cells #[.int .i64 0, .int .i64 0, .string (⟨#[]⟩ : ByteArray), .slice none 0 0, .slice none 0 0] 27 (0, 0))) ∧ (w.heap.size ≤ s_.2.2.2.2) ∧ (w.heap.size ≤ s_.2.2.2.2) ∧ (gb286 ≠ s_.2.2.2.2) ∧ (s_.2.2.2.2 ≠ gb286) ∧ (Below w.heap.size w w')) ?_ ?_
 rotate_left
 ·intro hCont
  refine two_ (i := 1) (j := 3) (Ni := some 7) (Nj := some 2) #[true, true, false, false, false] #[true, false, false, true, false] rfl rfl rfl rfl (by kernel_rfl) (by decide) (by decide) (fun K hK => ?_) (fun K hK => ?_)
  ·skip
   refine goes_ Try.func84 (by kernel_rfl) rfl #[.string (⟨#[99]⟩ : ByteArray), .slice none 0 0] (by rfl) rfl rfl bl ?_
   refine (touchstoneref5_Const.calls k (⟨#[99]⟩ : ByteArray) _ _ ([] : List (S76)) t287 t288 t289 t290 t293 _ ?side1 ?side2 A4.out).mono ?_
   (case side1 => exact Kd.C_nil _ _)
   (case side2 => exact Nat.le_refl _)
   rintro e w33 ⟨v291, v294, rfl, ho0, ho1, hb⟩
   refine ⟨_, rfl, ?_⟩
   have HO292 := aS (Kd.N_lower (Kd.N_mono (ok' := fun k_ => some k_ ≠ (v294 : Value).ownBlock ∧ some k_ ≠ (.slice Ao22 t262.length co22 : Value).ownBlock ∧ some k_ ≠ (.slice Ao23 t265.length co23 : Value).ownBlock ∧ some k_ ≠ (.slice Ao24 t271.length co24 : Value).ownBlock ∧ some k_ ≠ (.slice Ao25 t274.length co25 : Value).ownBlock ∧ some k_ ≠ (.slice Ao29 t280.length co29 : Value).ownBlock ∧ some k_ ≠ (.slice Ao30 t283.length co30 : Value).ownBlock ∧ k_ ≠ gb286) (Kd.R_N (Kd.R_bound (Kd.R_apart' ho0 (Kd.R_typed ho1) (by decide)))) (fun k_ hk_ => ⟨hk_.1.2, (Kd.fresh' (Kd.N_lt (kn HO264.out)) k_ hk_.2.1), (Kd.fresh' (Kd.N_lt (kn HO267.out)) k_ hk_.2.1), (Kd.fresh' (Kd.N_lt (kn HO273.out)) k_ hk_.2.1), (Kd.fresh' (Kd.N_lt (kn HO276.out)) k_ hk_.2.1), (Kd.fresh' (Kd.N_lt (kn HO282.out)) k_ hk_.2.1), (Kd.fresh' (Kd.N_lt (kn HO285.out)) k_ hk_.2.1), (Kd.freshB (bkw BK286) k_ hk_.2.1)⟩)) (below_size (hbk HB)))
   have HO295 := aS (Kd.N_lower (Kd.N_mono (ok' := fun k_ => some k_ ≠ (v291 : Value).ownBlock ∧ some k_ ≠ (.slice Ao22 t262.length co22 : Value).ownBlock ∧ some k_ ≠ (.slice Ao23 t265.length co23 : Value).ownBlock ∧ some k_ ≠ (.slice Ao24 t271.length co24 : Value).ownBlock ∧ some k_ ≠ (.slice Ao25 t274.length co25 : Value).ownBlock ∧ some k_ ≠ (.slice Ao29 t280.length co29 : Value).ownBlock ∧ some k_ ≠ (.slice Ao30 t283.length co30 : Value).ownBlock ∧ k_ ≠ gb286) (Kd.R_N (Kd.R_bound ho1)) (fun k_ hk_ => ⟨hk_.1, (Kd.fresh' (Kd.N_lt (kn HO264.out)) k_ hk_.2.1), (Kd.fresh' (Kd.N_lt (kn HO267.out)) k_ hk_.2.1), (Kd.fresh' (Kd.N_lt (kn HO273.out)) k_ hk_.2.1), (Kd.fresh' (Kd.N_lt (kn HO276.out)) k_ hk_.2.1), (Kd.fresh' (Kd.N_lt (kn HO282.out)) k_ hk_.2.1), (Kd.fresh' (Kd.N_lt (kn HO285.out)) k_ hk_.2.1), (Kd.freshB (bkw BK286) k_ hk_.2.1)⟩)) (below_size (hbk HB)))
   replace HO264 := aS (Kd.N_mono (Kd.N_told (Kd.N_told (Kd.N_old (kn HO264.out) hb) (nb ho0)) (nb ho1)) (fun _ h_ => h_.1))
   replace HO267 := aS (Kd.N_mono (Kd.N_told (Kd.N_told (Kd.N_old (kn HO267.out) hb) (nb ho0)) (nb ho1)) (fun _ h_ => h_.1))
   replace HO273 := aS (Kd.N_mono (Kd.N_told (Kd.N_told (Kd.N_old (kn HO273.out) hb) (nb ho0)) (nb ho1)) (fun _ h_ => h_.1))
   replace HO276 := aS (Kd.N_mono (Kd.N_told (Kd.N_told (Kd.N_old (kn HO276.out) hb) (nb ho0)) (nb ho1)) (fun _ h_ => h_.1))
   replace HO282 := aS (Kd.N_mono (Kd.N_told (Kd.N_told (Kd.N_old (kn HO282.out) hb) (nb ho0)) (nb ho1)) (fun _ h_ => h_.1))
   replace HO285 := aS (Kd.N_mono (Kd.N_told (Kd.N_told (Kd.N_old (kn HO285.out) hb) (nb ho0)) (nb ho1)) (fun _ h_ => h_.1))
   replace BK286 := Bk BK286 hb
   replace HB := Hs HB hb
   (try clear hb)
   (try clear hb2)
   (try clear hk)
   (try clear hi)
   (try clear ho0)
   (try clear ho1)
   obtain ⟨Ao34, co34, eo34⟩ := Kd.N_slice HO292.out
   (first | subst eo34 | (injection eo34 with f1_ f2_ f3_; have f4_ := f1_.symm; have f5_ := f3_.symm; clear f1_ f2_ f3_; subst f4_; subst f5_))
   obtain ⟨Ao35, co35, eo35⟩ := Kd.N_slice HO295.out
   (first | subst eo35 | (injection eo35 with f1_ f2_ f3_; have f4_ := f1_.symm; have f5_ := f3_.symm; clear f1_ f2_ f3_; subst f4_; subst f5_))
   refine hK.out _ _ ⟨cz BK286 0, cz BK286 1, cz BK286 2, cz BK286 3, cz BK286 4⟩ (fun hHeld => ?_)
   clear hK K
   refine norm_ ap ?_
   refine two_ (i := 2) (j := 3) (Ni := some 8) (Nj := some 2) #[true, true, true, false, false] #[true, true, false, true, false] rfl rfl rfl rfl (by kernel_rfl) (by decide) (by decide) (fun K hK => ?_) (fun K hK => ?_)
   ·skip
    refine goes_ Try.func42 (by kernel_rfl) rfl #[.agg #[.int .i64 t277, .int .i64 t278, .string t279, .slice Ao29 t280.length co29, .slice Ao30 t283.length co30], .agg #[.int .i64 t287, .int .i64 t288, .string t289, .slice Ao34 t290.length co34, .slice Ao35 t293.length co35]] (by rfl) rfl rfl bl ?_
    with_reducible refine (term_Put.calls k t277 t278 t279 _ _ t280 _ _ t283 t287 t288 t289 _ _ t290 _ _ t293 t296 t297 t298 t299 t302 _ ?side1 ?side2 ?side3 ?side4 ?side5 ?side6 ?side7 ?side8 A5.out).mono ?_
    (case side1 => exact cr (Kd.N_reads' HO282.out).2.2)
    (case side2 => exact (Kd.N_reads' HO282.out).2.1)
    (case side3 => exact cr (Kd.N_reads' HO285.out).2.2)
    (case side4 => exact (Kd.N_reads' HO285.out).2.1)
    (case side5 => exact cr (Kd.N_reads' HO292.out).2.2)
    (case side6 => exact (Kd.N_reads' HO292.out).2.1)
    (case side7 => exact cr (Kd.N_reads' HO295.out).2.2)
    (case side8 => exact (Kd.N_reads' HO295.out).2.1)
    rintro e w36 ⟨v300, v303, rfl, ho0, ho1, hb⟩
    refine ⟨_, rfl, ?_⟩
    have HO301 := aS (Kd.N_lower (Kd.N_mono (ok' := fun k_ => some k_ ≠ (v303 : Value).ownBlock ∧ some k_ ≠ (.slice Ao22 t262.length co22 : Value).ownBlock ∧ some k_ ≠ (.slice Ao23 t265.length co23 : Value).ownBlock ∧ some k_ ≠ (.slice Ao24 t271.length co24 : Value).ownBlock ∧ some k_ ≠ (.slice Ao25 t274.length co25 : Value).ownBlock ∧ some k_ ≠ (.slice Ao29 t280.length co29 : Value).ownBlock ∧ some k_ ≠ (.slice Ao30 t283.length co30 : Value).ownBlock ∧ some k_ ≠ (.slice Ao34 t290.length co34 : Value).ownBlock ∧ some k_ ≠ (.slice Ao35 t293.length co35 : Value).ownBlock ∧ k_ ≠ gb286) (Kd.R_N (Kd.R_bound (Kd.R_apart' ho0 (Kd.R_typed ho1) (by decide)))) (fun k_ hk_ => ⟨hk_.1.2, (Kd.fresh' (Kd.N_lt (kn HO264.out)) k_ hk_.2.1), (Kd.fresh' (Kd.N_lt (kn HO267.out)) k_ hk_.2.1), (Kd.fresh' (Kd.N_lt (kn HO273.out)) k_ hk_.2.1), (Kd.fresh' (Kd.N_lt (kn HO276.out)) k_ hk_.2.1), (Kd.fresh' (Kd.N_lt (kn HO282.out)) k_ hk_.2.1), (Kd.fresh' (Kd.N_lt (kn HO285.out)) k_ hk_.2.1), (Kd.fresh' (Kd.N_lt (kn HO292.out)) k_ hk_.2.1), (Kd.fresh' (Kd.N_lt (kn HO295.out)) k_ hk_.2.1), (Kd.freshB (bkw BK286) k_ hk_.2.1)⟩)) (below_size (hbk HB)))
    have HO304 := aS (Kd.N_lower (Kd.N_mono (ok' := fun k_ => some k_ ≠ (v300 : Value).ownBlock ∧ some k_ ≠ (.slice Ao22 t262.length co22 : Value).ownBlock ∧ some k_ ≠ (.slice Ao23 t265.length co23 : Value).ownBlock ∧ some k_ ≠ (.slice Ao24 t271.length co24 : Value).ownBlock ∧ some k_ ≠ (.slice Ao25 t274.length co25 : Value).ownBlock ∧ some k_ ≠ (.slice Ao29 t280.length co29 : Value).ownBlock ∧ some k_ ≠ (.slice Ao30 t283.length co30 : Value).ownBlock ∧ some k_ ≠ (.slice Ao34 t290.length co34 : Value).ownBlock ∧ some k_ ≠ (.slice Ao35 t293.length co35 : Value).ownBlock ∧ k_ ≠ gb286) (Kd.R_N (Kd.R_bound ho1)) (fun k_ hk_ => ⟨hk_.1, (Kd.fresh' (Kd.N_lt (kn HO264.out)) k_ hk_.2.1), (Kd.fresh' (Kd.N_lt (kn HO267.out)) k_ hk_.2.1), (Kd.fresh' (Kd.N_lt (kn HO273.out)) k_ hk_.2.1), (Kd.fresh' (Kd.N_lt (kn HO276.out)) k_ hk_.2.1), (Kd.fresh' (Kd.N_lt (kn HO282.out)) k_ hk_.2.1), (Kd.fresh' (Kd.N_lt (kn HO285.out)) k_ hk_.2.1), (Kd.fresh' (Kd.N_lt (kn HO292.out)) k_ hk_.2.1), (Kd.fresh' (Kd.N_lt (kn HO295.out)) k_ hk_.2.1), (Kd.freshB (bkw BK286) k_ hk_.2.1)⟩)) (below_size (hbk HB)))
    replace HO264 := aS (Kd.N_mono (Kd.N_told (Kd.N_told (Kd.N_old (kn HO264.out) hb) (nb ho0)) (nb ho1)) (fun _ h_ => h_.1))
    replace HO267 := aS (Kd.N_mono (Kd.N_told (Kd.N_told (Kd.N_old (kn HO267.out) hb) (nb ho0)) (nb ho1)) (fun _ h_ => h_.1))
    replace HO273 := aS (Kd.N_mono (Kd.N_told (Kd.N_told (Kd.N_old (kn HO273.out) hb) (nb ho0)) (nb ho1)) (fun _ h_ => h_.1))
    replace HO276 := aS (Kd.N_mono (Kd.N_told (Kd.N_told (Kd.N_old (kn HO276.out) hb) (nb ho0)) (nb ho1)) (fun _ h_ => h_.1))
    replace HO282 := aS (Kd.N_mono (Kd.N_told (Kd.N_told (Kd.N_old (kn HO282.out) hb) (nb ho0)) (nb ho1)) (fun _ h_ => h_.1))
    replace HO285 := aS (Kd.N_mono (Kd.N_told (Kd.N_told (Kd.N_old (kn HO285.out) hb) (nb ho0)) (nb ho1)) (fun _ h_ => h_.1))
    replace HO292 := aS (Kd.N_mono (Kd.N_told (Kd.N_told (Kd.N_old (kn HO292.out) hb) (nb ho0)) (nb ho1)) (fun _ h_ => h_.1))
    replace HO295 := aS (Kd.N_mono (Kd.N_told (Kd.N_told (Kd.N_old (kn HO295.out) hb) (nb ho0)) (nb ho1)) (fun _ h_ => h_.1))
    replace BK286 := Bk BK286 hb
    replace HB := Hs HB hb
    (try clear hb)
    (try clear hb2)
    (try clear hk)
    (try clear hi)
    (try clear ho0)
    (try clear ho1)
    refine hK.out _ _ ⟨cz BK286 0, cz BK286 1, cz BK286 2, cz BK286 3, cz BK286 4⟩ (fun hHeld => ?_)
    clear hK K
    refine norm_ ap ?_
    refine one_ (i := 3) (N := some 2) #[true, true, true, true, false] rfl rfl (by kernel_rfl) (by decide) (fun K hK => ?_)
    refine by_ (N := 2) (t := 27) #[.int .i64 0, .int .i64 0, .string (⟨#[]⟩ : ByteArray), .slice none 0 0, .slice none 0 0] ?_
    intro gb305 hg w37 hbox hb
    replace HO264 := aS (Kd.N_below (Kd.N_elderB (kn HO264.out) gb305 (Nat.le_of_eq hg.symm)) hb)
    replace HO267 := aS (Kd.N_below (Kd.N_elderB (kn HO267.out) gb305 (Nat.le_of_eq hg.symm)) hb)
    replace HO273 := aS (Kd.N_below (Kd.N_elderB (kn HO273.out) gb305 (Nat.le_of_eq hg.symm)) hb)
    replace HO276 := aS (Kd.N_below (Kd.N_elderB (kn HO276.out) gb305 (Nat.le_of_eq hg.symm)) hb)
    replace HO282 := aS (Kd.N_below (Kd.N_elderB (kn HO282.out) gb305 (Nat.le_of_eq hg.symm)) hb)
    replace HO285 := aS (Kd.N_below (Kd.N_elderB (kn HO285.out) gb305 (Nat.le_of_eq hg.symm)) hb)
    replace HO292 := aS (Kd.N_below (Kd.N_elderB (kn HO292.out) gb305 (Nat.le_of_eq hg.symm)) hb)
    replace HO295 := aS (Kd.N_below (Kd.N_elderB (kn HO295.out) gb305 (Nat.le_of_eq hg.symm)) hb)
    replace HO301 := aS (Kd.N_below (Kd.N_elderB (kn HO301.out) gb305 (Nat.le_of_eq hg.symm)) hb)
    replace HO304 := aS (Kd.N_below (Kd.N_elderB (kn HO304.out) gb305 (Nat.le_of_eq hg.symm)) hb)
    have BK305 := aS (hbox)
    have GW305 := Gz hg HB
    have GE305 := Gz hg HB
    replace HB := Hs HB hb
    have NB286_305 := aS ((by rw [hg]; exact Nat.ne_of_lt (blk_lt (bkw BK286)) : gb286 ≠ gb305))
    have NB305_286 := aS ((by rw [hg]; exact Nat.ne_of_gt (blk_lt (bkw BK286)) : gb305 ≠ gb286))
    replace BK286 := Bk BK286 hb
    clear hb hbox hg
    refine hK.out _ _ ⟨cz BK286 0, cz BK286 1, cz BK286 2, cz BK286 3, cz BK286 4⟩ (fun hHeld => ?_)
    clear hK K
    refine norm_ ap ?_
    exact norm_ (by simp only [putAll, Act.put, List.setIfInBounds_toArray, List.set_cons_zero, List.set_cons_succ]) (hCont (.slice Ao34 t290.length co34, .slice Ao35 t293.length co35, v300, v303, gb305) _ ⟨hHeld, (by (with_reducible repeat (first | apply Kd.N_alloc | apply Kd.N_drewN | apply Kd.N_drew)); exact Kd.N_mono HO264.out (fun _ hk => ⟨hk.1.1.1.1.1.1, ⟨hk.1.1.1.1.1.2.1, ⟨hk.1.1.1.1.1.2.2.1, ⟨hk.1.1.1.1.1.2.2.2.1, ⟨hk.1.1.1.1.1.2.2.2.2.1, ⟨hk.1.1.1.1.2, ⟨hk.1.1.1.2, ⟨hk.1.1.2, ⟨hk.1.2, ⟨hk.1.1.1.1.1.2.2.2.2.2, hk.2⟩⟩⟩⟩⟩⟩⟩⟩⟩⟩)), (by (with_reducible repeat (first | apply Kd.N_alloc | apply Kd.N_drewN | apply Kd.N_drew)); exact Kd.N_mono HO267.out (fun _ hk => ⟨hk.1.1.1.1.1.1, ⟨hk.1.1.1.1.1.2.1, ⟨hk.1.1.1.1.1.2.2.1, ⟨hk.1.1.1.1.1.2.2.2.1, ⟨hk.1.1.1.1.1.2.2.2.2.1, ⟨hk.1.1.1.1.2, ⟨hk.1.1.1.2, ⟨hk.1.1.2, ⟨hk.1.2, ⟨hk.1.1.1.1.1.2.2.2.2.2, hk.2⟩⟩⟩⟩⟩⟩⟩⟩⟩⟩)), (by (with_reducible repeat (first | apply Kd.N_alloc | apply Kd.N_drewN | apply Kd.N_drew)); exact Kd.N_mono HO273.out (fun _ hk => ⟨hk.1.1.1.1.1.1, ⟨hk.1.1.1.1.1.2.1, ⟨hk.1.1.1.1.1.2.2.1, ⟨hk.1.1.1.1.1.2.2.2.1, ⟨hk.1.1.1.1.1.2.2.2.2.1, ⟨hk.1.1.1.1.2, ⟨hk.1.1.1.2, ⟨hk.1.1.2, ⟨hk.1.2, ⟨hk.1.1.1.1.1.2.2.2.2.2, hk.2⟩⟩⟩⟩⟩⟩⟩⟩⟩⟩)), (by (with_reducible repeat (first | apply Kd.N_alloc | apply Kd.N_drewN | apply Kd.N_drew)); exact Kd.N_mono HO276.out (fun _ hk => ⟨hk.1.1.1.1.1.1, ⟨hk.1.1.1.1.1.2.1, ⟨hk.1.1.1.1.1.2.2.1, ⟨hk.1.1.1.1.1.2.2.2.1, ⟨hk.1.1.1.1.1.2.2.2.2.1, ⟨hk.1.1.1.1.2, ⟨hk.1.1.1.2, ⟨hk.1.1.2, ⟨hk.1.2, ⟨hk.1.1.1.1.1.2.2.2.2.2, hk.2⟩⟩⟩⟩⟩⟩⟩⟩⟩⟩)), (by (with_reducible repeat (first | apply Kd.N_alloc | apply Kd.N_drewN | apply Kd.N_drew)); exact Kd.N_mono HO282.out (fun _ hk => ⟨hk.1.1.1.1.1.1, ⟨hk.1.1.1.1.1.2.1, ⟨hk.1.1.1.1.1.2.2.1, ⟨hk.1.1.1.1.2, ⟨hk.1.1.1.2, ⟨hk.1.1.2, ⟨hk.1.2, ⟨hk.1.1.1.1.1.2.2.2, hk.2⟩⟩⟩⟩⟩⟩⟩⟩)), (by (with_reducible repeat (first | apply Kd.N_alloc | apply Kd.N_drewN | apply Kd.N_drew)); exact Kd.N_mono HO285.out (fun _ hk => ⟨hk.1.1.1.1.1.1, ⟨hk.1.1.1.1.1.2.1, ⟨hk.1.1.1.1.1.2.2.1, ⟨hk.1.1.1.1.2, ⟨hk.1.1.1.2, ⟨hk.1.1.2, ⟨hk.1.2, ⟨hk.1.1.1.1.1.2.2.2, hk.2⟩⟩⟩⟩⟩⟩⟩⟩)), (by (with_reducible repeat (first | apply Kd.N_alloc | apply Kd.N_drewN | apply Kd.N_drew)); exact Kd.N_mono HO292.out (fun _ hk => ⟨hk.1.1.1.2.1, ⟨hk.1.1.1.2.2.1, ⟨hk.1.1.1.2.2.2.1, ⟨hk.1.1.1.2.2.2.2.1, ⟨hk.1.1.1.2.2.2.2.2.1, ⟨hk.1.1.1.2.2.2.2.2.2.1, ⟨hk.1.1.1.1, ⟨hk.1.1.2, ⟨hk.1.2, ⟨hk.1.1.1.2.2.2.2.2.2.2, hk.2⟩⟩⟩⟩⟩⟩⟩⟩⟩⟩)), (by (with_reducible repeat (first | apply Kd.N_alloc | apply Kd.N_drewN | apply Kd.N_drew)); exact Kd.N_mono HO295.out (fun _ hk => ⟨hk.1.1.1.2.1, ⟨hk.1.1.1.2.2.1, ⟨hk.1.1.1.2.2.2.1, ⟨hk.1.1.1.2.2.2.2.1, ⟨hk.1.1.1.2.2.2.2.2.1, ⟨hk.1.1.1.2.2.2.2.2.2.1, ⟨hk.1.1.1.1, ⟨hk.1.1.2, ⟨hk.1.2, ⟨hk.1.1.1.2.2.2.2.2.2.2, hk.2⟩⟩⟩⟩⟩⟩⟩⟩⟩⟩)), (by (with_reducible repeat (first | apply Kd.N_alloc | apply Kd.N_drewN | apply Kd.N_drew)); exact Kd.N_mono HO301.out (fun _ hk => ⟨hk.1.2.1, ⟨hk.1.2.2.1, ⟨hk.1.2.2.2.1, ⟨hk.1.2.2.2.2.1, ⟨hk.1.2.2.2.2.2.1, ⟨hk.1.2.2.2.2.2.2.1, ⟨hk.1.2.2.2.2.2.2.2.1, ⟨hk.1.2.2.2.2.2.2.2.2.1, ⟨hk.1.1, ⟨hk.1.2.2.2.2.2.2.2.2.2, hk.2⟩⟩⟩⟩⟩⟩⟩⟩⟩⟩)), (by (with_reducible repeat (first | apply Kd.N_alloc | apply Kd.N_drewN | apply Kd.N_drew)); exact Kd.N_mono HO304.out (fun _ hk => ⟨hk.1.2.1, ⟨hk.1.2.2.1, ⟨hk.1.2.2.2.1, ⟨hk.1.2.2.2.2.1, ⟨hk.1.2.2.2.2.2.1, ⟨hk.1.2.2.2.2.2.2.1, ⟨hk.1.2.2.2.2.2.2.2.1, ⟨hk.1.2.2.2.2.2.2.2.2.1, ⟨hk.1.1, ⟨hk.1.2.2.2.2.2.2.2.2.2, hk.2⟩⟩⟩⟩⟩⟩⟩⟩⟩⟩)), (bk BK286.out), (bk BK305.out), GW305.out, GE305.out, NB286_305.out, NB305_286.out, (hbk HB)⟩)
   ·skip
    refine by_ (N := 2) (t := 27) #[.int .i64 0, .int .i64 0, .string (⟨#[]⟩ : ByteArray), .slice none 0 0, .slice none 0 0] ?_
    intro gb305 hg w34 hbox hb
    replace HO264 := aS (Kd.N_below (Kd.N_elderB (kn HO264.out) gb305 (Nat.le_of_eq hg.symm)) hb)
    replace HO267 := aS (Kd.N_below (Kd.N_elderB (kn HO267.out) gb305 (Nat.le_of_eq hg.symm)) hb)
    replace HO273 := aS (Kd.N_below (Kd.N_elderB (kn HO273.out) gb305 (Nat.le_of_eq hg.symm)) hb)
    replace HO276 := aS (Kd.N_below (Kd.N_elderB (kn HO276.out) gb305 (Nat.le_of_eq hg.symm)) hb)
    replace HO282 := aS (Kd.N_below (Kd.N_elderB (kn HO282.out) gb305 (Nat.le_of_eq hg.symm)) hb)
    replace HO285 := aS (Kd.N_below (Kd.N_elderB (kn HO285.out) gb305 (Nat.le_of_eq hg.symm)) hb)
    replace HO292 := aS (Kd.N_below (Kd.N_elderB (kn HO292.out) gb305 (Nat.le_of_eq hg.symm)) hb)
    replace HO295 := aS (Kd.N_below (Kd.N_elderB (kn HO295.out) gb305 (Nat.le_of_eq hg.symm)) hb)
    have BK305 := aS (hbox)
    have GW305 := Gz hg HB
    have GE305 := Gz hg HB
    replace HB := Hs HB hb
    have NB286_305 := aS ((by rw [hg]; exact Nat.ne_of_lt (blk_lt (bkw BK286)) : gb286 ≠ gb305))
    have NB305_286 := aS ((by rw [hg]; exact Nat.ne_of_gt (blk_lt (bkw BK286)) : gb305 ≠ gb286))
    replace BK286 := Bk BK286 hb
    clear hb hbox hg
    obtain ⟨Ao35, co35, eo35⟩ := Kd.N_slice HO292.out
    (first | subst eo35 | (injection eo35 with f1_ f2_ f3_; have f4_ := f1_.symm; have f5_ := f3_.symm; clear f1_ f2_ f3_; subst f4_; subst f5_))
    obtain ⟨Ao36, co36, eo36⟩ := Kd.N_slice HO295.out
    (first | subst eo36 | (injection eo36 with f1_ f2_ f3_; have f4_ := f1_.symm; have f5_ := f3_.symm; clear f1_ f2_ f3_; subst f4_; subst f5_))
    refine hK.out _ _ ⟨cz BK286 0, cz BK286 1, cz BK286 2, cz BK286 3, cz BK286 4⟩ (fun hHeld => ?_)
    clear hK K
    refine norm_ ap ?_
    refine one_ (i := 2) (N := some 8) #[true, true, true, true, false] rfl rfl (by kernel_rfl) (by decide) (fun K hK => ?_)
    refine goes_ Try.func42 (by kernel_rfl) rfl #[.agg #[.int .i64 t277, .int .i64 t278, .string t279, .slice Ao29 t280.length co29, .slice Ao30 t283.length co30], .agg #[.int .i64 t287, .int .i64 t288, .string t289, .slice Ao35 t290.length co35, .slice Ao36 t293.length co36]] (by rfl) rfl rfl bl ?_
    with_reducible refine (term_Put.calls k t277 t278 t279 _ _ t280 _ _ t283 t287 t288 t289 _ _ t290 _ _ t293 t296 t297 t298 t299 t302 _ ?side1 ?side2 ?side3 ?side4 ?side5 ?side6 ?side7 ?side8 A5.out).mono ?_
    (case side1 => exact cr (Kd.N_reads' HO282.out).2.2)
    (case side2 => exact (Kd.N_reads' HO282.out).2.1)
    (case side3 => exact cr (Kd.N_reads' HO285.out).2.2)
    (case side4 => exact (Kd.N_reads' HO285.out).2.1)
    (case side5 => exact cr (Kd.N_reads' HO292.out).2.2)
    (case side6 => exact (Kd.N_reads' HO292.out).2.1)
    (case side7 => exact cr (Kd.N_reads' HO295.out).2.2)
    (case side8 => exact (Kd.N_reads' HO295.out).2.1)
    rintro e w37 ⟨v300, v303, rfl, ho0, ho1, hb⟩
    refine ⟨_, rfl, ?_⟩
    have HO301 := aS (Kd.N_lower (Kd.N_mono (ok' := fun k_ => some k_ ≠ (v303 : Value).ownBlock ∧ some k_ ≠ (.slice Ao22 t262.length co22 : Value).ownBlock ∧ some k_ ≠ (.slice Ao23 t265.length co23 : Value).ownBlock ∧ some k_ ≠ (.slice Ao24 t271.length co24 : Value).ownBlock ∧ some k_ ≠ (.slice Ao25 t274.length co25 : Value).ownBlock ∧ some k_ ≠ (.slice Ao29 t280.length co29 : Value).ownBlock ∧ some k_ ≠ (.slice Ao30 t283.length co30 : Value).ownBlock ∧ some k_ ≠ (.slice Ao35 t290.length co35 : Value).ownBlock ∧ some k_ ≠ (.slice Ao36 t293.length co36 : Value).ownBlock ∧ k_ ≠ gb286 ∧ k_ ≠ gb305) (Kd.R_N (Kd.R_bound (Kd.R_apart' ho0 (Kd.R_typed ho1) (by decide)))) (fun k_ hk_ => ⟨hk_.1.2, (Kd.fresh' (Kd.N_lt (kn HO264.out)) k_ hk_.2.1), (Kd.fresh' (Kd.N_lt (kn HO267.out)) k_ hk_.2.1), (Kd.fresh' (Kd.N_lt (kn HO273.out)) k_ hk_.2.1), (Kd.fresh' (Kd.N_lt (kn HO276.out)) k_ hk_.2.1), (Kd.fresh' (Kd.N_lt (kn HO282.out)) k_ hk_.2.1), (Kd.fresh' (Kd.N_lt (kn HO285.out)) k_ hk_.2.1), (Kd.fresh' (Kd.N_lt (kn HO292.out)) k_ hk_.2.1), (Kd.fresh' (Kd.N_lt (kn HO295.out)) k_ hk_.2.1), (Kd.freshB (bkw BK286) k_ hk_.2.1), (Kd.freshB (bkw BK305) k_ hk_.2.1)⟩)) (below_size (hbk HB)))
    have HO304 := aS (Kd.N_lower (Kd.N_mono (ok' := fun k_ => some k_ ≠ (v300 : Value).ownBlock ∧ some k_ ≠ (.slice Ao22 t262.length co22 : Value).ownBlock ∧ some k_ ≠ (.slice Ao23 t265.length co23 : Value).ownBlock ∧ some k_ ≠ (.slice Ao24 t271.length co24 : Value).ownBlock ∧ some k_ ≠ (.slice Ao25 t274.length co25 : Value).ownBlock ∧ some k_ ≠ (.slice Ao29 t280.length co29 : Value).ownBlock ∧ some k_ ≠ (.slice Ao30 t283.length co30 : Value).ownBlock ∧ some k_ ≠ (.slice Ao35 t290.length co35 : Value).ownBlock ∧ some k_ ≠ (.slice Ao36 t293.length co36 : Value).ownBlock ∧ k_ ≠ gb286 ∧ k_ ≠ gb305) (Kd.R_N (Kd.R_bound ho1)) (fun k_ hk_ => ⟨hk_.1, (Kd.fresh' (Kd.N_lt (kn HO264.out)) k_ hk_.2.1), (Kd.fresh' (Kd.N_lt (kn HO267.out)) k_ hk_.2.1), (Kd.fresh' (Kd.N_lt (kn HO273.out)) k_ hk_.2.1), (Kd.fresh' (Kd.N_lt (kn HO276.out)) k_ hk_.2.1), (Kd.fresh' (Kd.N_lt (kn HO282.out)) k_ hk_.2.1), (Kd.fresh' (Kd.N_lt (kn HO285.out)) k_ hk_.2.1), (Kd.fresh' (Kd.N_lt (kn HO292.out)) k_ hk_.2.1), (Kd.fresh' (Kd.N_lt (kn HO295.out)) k_ hk_.2.1), (Kd.freshB (bkw BK286) k_ hk_.2.1), (Kd.freshB (bkw BK305) k_ hk_.2.1)⟩)) (below_size (hbk HB)))
    replace HO264 := aS (Kd.N_mono (Kd.N_told (Kd.N_told (Kd.N_old (kn HO264.out) hb) (nb ho0)) (nb ho1)) (fun _ h_ => h_.1))
    replace HO267 := aS (Kd.N_mono (Kd.N_told (Kd.N_told (Kd.N_old (kn HO267.out) hb) (nb ho0)) (nb ho1)) (fun _ h_ => h_.1))
    replace HO273 := aS (Kd.N_mono (Kd.N_told (Kd.N_told (Kd.N_old (kn HO273.out) hb) (nb ho0)) (nb ho1)) (fun _ h_ => h_.1))
    replace HO276 := aS (Kd.N_mono (Kd.N_told (Kd.N_told (Kd.N_old (kn HO276.out) hb) (nb ho0)) (nb ho1)) (fun _ h_ => h_.1))
    replace HO282 := aS (Kd.N_mono (Kd.N_told (Kd.N_told (Kd.N_old (kn HO282.out) hb) (nb ho0)) (nb ho1)) (fun _ h_ => h_.1))
    replace HO285 := aS (Kd.N_mono (Kd.N_told (Kd.N_told (Kd.N_old (kn HO285.out) hb) (nb ho0)) (nb ho1)) (fun _ h_ => h_.1))
    replace HO292 := aS (Kd.N_mono (Kd.N_told (Kd.N_told (Kd.N_old (kn HO292.out) hb) (nb ho0)) (nb ho1)) (fun _ h_ => h_.1))
    replace HO295 := aS (Kd.N_mono (Kd.N_told (Kd.N_told (Kd.N_old (kn HO295.out) hb) (nb ho0)) (nb ho1)) (fun _ h_ => h_.1))
    replace BK286 := Bk BK286 hb
    replace BK305 := Bk BK305 hb
    replace HB := Hs HB hb
    (try clear hb)
    (try clear hb2)
    (try clear hk)
    (try clear hi)
    (try clear ho0)
    (try clear ho1)
    refine hK.out _ _ ⟨cz BK286 0, cz BK286 1, cz BK286 2, cz BK286 3, cz BK286 4⟩ (fun hHeld => ?_)
    clear hK K
    refine norm_ ap ?_
    exact norm_ (by simp only [putAll, Act.put, List.setIfInBounds_toArray, List.set_cons_zero, List.set_cons_succ]) (hCont (.slice Ao35 t290.length co35, .slice Ao36 t293.length co36, v300, v303, gb305) _ ⟨hHeld, (by (with_reducible repeat (first | apply Kd.N_alloc | apply Kd.N_drewN | apply Kd.N_drew)); exact Kd.N_mono HO264.out (fun _ hk => ⟨hk.1.1.1.1.1.1, ⟨hk.1.1.1.1.1.2.1, ⟨hk.1.1.1.1.1.2.2.1, ⟨hk.1.1.1.1.1.2.2.2.1, ⟨hk.1.1.1.1.1.2.2.2.2.1, ⟨hk.1.1.1.1.2, ⟨hk.1.1.1.2, ⟨hk.1.2, ⟨hk.2, ⟨hk.1.1.1.1.1.2.2.2.2.2, hk.1.1.2⟩⟩⟩⟩⟩⟩⟩⟩⟩⟩)), (by (with_reducible repeat (first | apply Kd.N_alloc | apply Kd.N_drewN | apply Kd.N_drew)); exact Kd.N_mono HO267.out (fun _ hk => ⟨hk.1.1.1.1.1.1, ⟨hk.1.1.1.1.1.2.1, ⟨hk.1.1.1.1.1.2.2.1, ⟨hk.1.1.1.1.1.2.2.2.1, ⟨hk.1.1.1.1.1.2.2.2.2.1, ⟨hk.1.1.1.1.2, ⟨hk.1.1.1.2, ⟨hk.1.2, ⟨hk.2, ⟨hk.1.1.1.1.1.2.2.2.2.2, hk.1.1.2⟩⟩⟩⟩⟩⟩⟩⟩⟩⟩)), (by (with_reducible repeat (first | apply Kd.N_alloc | apply Kd.N_drewN | apply Kd.N_drew)); exact Kd.N_mono HO273.out (fun _ hk => ⟨hk.1.1.1.1.1.1, ⟨hk.1.1.1.1.1.2.1, ⟨hk.1.1.1.1.1.2.2.1, ⟨hk.1.1.1.1.1.2.2.2.1, ⟨hk.1.1.1.1.1.2.2.2.2.1, ⟨hk.1.1.1.1.2, ⟨hk.1.1.1.2, ⟨hk.1.2, ⟨hk.2, ⟨hk.1.1.1.1.1.2.2.2.2.2, hk.1.1.2⟩⟩⟩⟩⟩⟩⟩⟩⟩⟩)), (by (with_reducible repeat (first | apply Kd.N_alloc | apply Kd.N_drewN | apply Kd.N_drew)); exact Kd.N_mono HO276.out (fun _ hk => ⟨hk.1.1.1.1.1.1, ⟨hk.1.1.1.1.1.2.1, ⟨hk.1.1.1.1.1.2.2.1, ⟨hk.1.1.1.1.1.2.2.2.1, ⟨hk.1.1.1.1.1.2.2.2.2.1, ⟨hk.1.1.1.1.2, ⟨hk.1.1.1.2, ⟨hk.1.2, ⟨hk.2, ⟨hk.1.1.1.1.1.2.2.2.2.2, hk.1.1.2⟩⟩⟩⟩⟩⟩⟩⟩⟩⟩)), (by (with_reducible repeat (first | apply Kd.N_alloc | apply Kd.N_drewN | apply Kd.N_drew)); exact Kd.N_mono HO282.out (fun _ hk => ⟨hk.1.1.1.1.1.1, ⟨hk.1.1.1.1.1.2.1, ⟨hk.1.1.1.1.1.2.2.1, ⟨hk.1.1.1.1.2, ⟨hk.1.1.1.2, ⟨hk.1.2, ⟨hk.2, ⟨hk.1.1.1.1.1.2.2.2, hk.1.1.2⟩⟩⟩⟩⟩⟩⟩⟩)), (by (with_reducible repeat (first | apply Kd.N_alloc | apply Kd.N_drewN | apply Kd.N_drew)); exact Kd.N_mono HO285.out (fun _ hk => ⟨hk.1.1.1.1.1.1, ⟨hk.1.1.1.1.1.2.1, ⟨hk.1.1.1.1.1.2.2.1, ⟨hk.1.1.1.1.2, ⟨hk.1.1.1.2, ⟨hk.1.2, ⟨hk.2, ⟨hk.1.1.1.1.1.2.2.2, hk.1.1.2⟩⟩⟩⟩⟩⟩⟩⟩)), (by (with_reducible repeat (first | apply Kd.N_alloc | apply Kd.N_drewN | apply Kd.N_drew)); exact Kd.N_mono HO292.out (fun _ hk => ⟨hk.1.1.1.2.1, ⟨hk.1.1.1.2.2.1, ⟨hk.1.1.1.2.2.2.1, ⟨hk.1.1.1.2.2.2.2.1, ⟨hk.1.1.1.2.2.2.2.2.1, ⟨hk.1.1.1.2.2.2.2.2.2.1, ⟨hk.1.1.1.1, ⟨hk.1.2, ⟨hk.2, ⟨hk.1.1.1.2.2.2.2.2.2.2, hk.1.1.2⟩⟩⟩⟩⟩⟩⟩⟩⟩⟩)), (by (with_reducible repeat (first | apply Kd.N_alloc | apply Kd.N_drewN | apply Kd.N_drew)); exact Kd.N_mono HO295.out (fun _ hk => ⟨hk.1.1.1.2.1, ⟨hk.1.1.1.2.2.1, ⟨hk.1.1.1.2.2.2.1, ⟨hk.1.1.1.2.2.2.2.1, ⟨hk.1.1.1.2.2.2.2.2.1, ⟨hk.1.1.1.2.2.2.2.2.2.1, ⟨hk.1.1.1.1, ⟨hk.1.2, ⟨hk.2, ⟨hk.1.1.1.2.2.2.2.2.2.2, hk.1.1.2⟩⟩⟩⟩⟩⟩⟩⟩⟩⟩)), (by (with_reducible repeat (first | apply Kd.N_alloc | apply Kd.N_drewN | apply Kd.N_drew)); exact Kd.N_mono HO301.out (fun _ hk => ⟨hk.2.1, ⟨hk.2.2.1, ⟨hk.2.2.2.1, ⟨hk.2.2.2.2.1, ⟨hk.2.2.2.2.2.1, ⟨hk.2.2.2.2.2.2.1, ⟨hk.2.2.2.2.2.2.2.1, ⟨hk.2.2.2.2.2.2.2.2.1, ⟨hk.1, ⟨hk.2.2.2.2.2.2.2.2.2.1, hk.2.2.2.2.2.2.2.2.2.2⟩⟩⟩⟩⟩⟩⟩⟩⟩⟩)), (by (with_reducible repeat (first | apply Kd.N_alloc | apply Kd.N_drewN | apply Kd.N_drew)); exact Kd.N_mono HO304.out (fun _ hk => ⟨hk.2.1, ⟨hk.2.2.1, ⟨hk.2.2.2.1, ⟨hk.2.2.2.2.1, ⟨hk.2.2.2.2.2.1, ⟨hk.2.2.2.2.2.2.1, ⟨hk.2.2.2.2.2.2.2.1, ⟨hk.2.2.2.2.2.2.2.2.1, ⟨hk.1, ⟨hk.2.2.2.2.2.2.2.2.2.1, hk.2.2.2.2.2.2.2.2.2.2⟩⟩⟩⟩⟩⟩⟩⟩⟩⟩)), (bk BK286.out), (bk BK305.out), GW305.out, GE305.out, NB286_305.out, NB305_286.out, (hbk HB)⟩)
  ·skip
   refine by_ (N := 2) (t := 27) #[.int .i64 0, .int .i64 0, .string (⟨#[]⟩ : ByteArray), .slice none 0 0, .slice none 0 0] ?_
   intro gb305 hg w33 hbox hb
   replace HO264 := aS (Kd.N_below (Kd.N_elderB (kn HO264.out) gb305 (Nat.le_of_eq hg.symm)) hb)
   replace HO267 := aS (Kd.N_below (Kd.N_elderB (kn HO267.out) gb305 (Nat.le_of_eq hg.symm)) hb)
   replace HO273 := aS (Kd.N_below (Kd.N_elderB (kn HO273.out) gb305 (Nat.le_of_eq hg.symm)) hb)
   replace HO276 := aS (Kd.N_below (Kd.N_elderB (kn HO276.out) gb305 (Nat.le_of_eq hg.symm)) hb)
   replace HO282 := aS (Kd.N_below (Kd.N_elderB (kn HO282.out) gb305 (Nat.le_of_eq hg.symm)) hb)
   replace HO285 := aS (Kd.N_below (Kd.N_elderB (kn HO285.out) gb305 (Nat.le_of_eq hg.symm)) hb)
   have BK305 := aS (hbox)
   have GW305 := Gz hg HB
   have GE305 := Gz hg HB
   replace HB := Hs HB hb
   have NB286_305 := aS ((by rw [hg]; exact Nat.ne_of_lt (blk_lt (bkw BK286)) : gb286 ≠ gb305))
   have NB305_286 := aS ((by rw [hg]; exact Nat.ne_of_gt (blk_lt (bkw BK286)) : gb305 ≠ gb286))
   replace BK286 := Bk BK286 hb
   clear hb hbox hg
   refine hK.out _ _ ⟨cz BK286 0, cz BK286 1, cz BK286 2, cz BK286 3, cz BK286 4⟩ (fun hHeld => ?_)
   clear hK K
   refine norm_ ap ?_
   refine one_ (i := 1) (N := some 7) #[true, true, false, true, false] rfl rfl (by kernel_rfl) (by decide) (fun K hK => ?_)
   refine goes_ Try.func84 (by kernel_rfl) rfl #[.string (⟨#[99]⟩ : ByteArray), .slice none 0 0] (by rfl) rfl rfl bl ?_
   refine (touchstoneref5_Const.calls k (⟨#[99]⟩ : ByteArray) _ _ ([] : List (S76)) t287 t288 t289 t290 t293 _ ?side1 ?side2 A4.out).mono ?_
   (case side1 => exact Kd.C_nil _ _)
   (case side2 => exact Nat.le_refl _)
   rintro e w34 ⟨v291, v294, rfl, ho0, ho1, hb⟩
   refine ⟨_, rfl, ?_⟩
   have HO292 := aS (Kd.N_lower (Kd.N_mono (ok' := fun k_ => some k_ ≠ (v294 : Value).ownBlock ∧ some k_ ≠ (.slice Ao22 t262.length co22 : Value).ownBlock ∧ some k_ ≠ (.slice Ao23 t265.length co23 : Value).ownBlock ∧ some k_ ≠ (.slice Ao24 t271.length co24 : Value).ownBlock ∧ some k_ ≠ (.slice Ao25 t274.length co25 : Value).ownBlock ∧ some k_ ≠ (.slice Ao29 t280.length co29 : Value).ownBlock ∧ some k_ ≠ (.slice Ao30 t283.length co30 : Value).ownBlock ∧ k_ ≠ gb286 ∧ k_ ≠ gb305) (Kd.R_N (Kd.R_bound (Kd.R_apart' ho0 (Kd.R_typed ho1) (by decide)))) (fun k_ hk_ => ⟨hk_.1.2, (Kd.fresh' (Kd.N_lt (kn HO264.out)) k_ hk_.2.1), (Kd.fresh' (Kd.N_lt (kn HO267.out)) k_ hk_.2.1), (Kd.fresh' (Kd.N_lt (kn HO273.out)) k_ hk_.2.1), (Kd.fresh' (Kd.N_lt (kn HO276.out)) k_ hk_.2.1), (Kd.fresh' (Kd.N_lt (kn HO282.out)) k_ hk_.2.1), (Kd.fresh' (Kd.N_lt (kn HO285.out)) k_ hk_.2.1), (Kd.freshB (bkw BK286) k_ hk_.2.1), (Kd.freshB (bkw BK305) k_ hk_.2.1)⟩)) (below_size (hbk HB)))
   have HO295 := aS (Kd.N_lower (Kd.N_mono (ok' := fun k_ => some k_ ≠ (v291 : Value).ownBlock ∧ some k_ ≠ (.slice Ao22 t262.length co22 : Value).ownBlock ∧ some k_ ≠ (.slice Ao23 t265.length co23 : Value).ownBlock ∧ some k_ ≠ (.slice Ao24 t271.length co24 : Value).ownBlock ∧ some k_ ≠ (.slice Ao25 t274.length co25 : Value).ownBlock ∧ some k_ ≠ (.slice Ao29 t280.length co29 : Value).ownBlock ∧ some k_ ≠ (.slice Ao30 t283.length co30 : Value).ownBlock ∧ k_ ≠ gb286 ∧ k_ ≠ gb305) (Kd.R_N (Kd.R_bound ho1)) (fun k_ hk_ => ⟨hk_.1, (Kd.fresh' (Kd.N_lt (kn HO264.out)) k_ hk_.2.1), (Kd.fresh' (Kd.N_lt (kn HO267.out)) k_ hk_.2.1), (Kd.fresh' (Kd.N_lt (kn HO273.out)) k_ hk_.2.1), (Kd.fresh' (Kd.N_lt (kn HO276.out)) k_ hk_.2.1), (Kd.fresh' (Kd.N_lt (kn HO282.out)) k_ hk_.2.1), (Kd.fresh' (Kd.N_lt (kn HO285.out)) k_ hk_.2.1), (Kd.freshB (bkw BK286) k_ hk_.2.1), (Kd.freshB (bkw BK305) k_ hk_.2.1)⟩)) (below_size (hbk HB)))
   replace HO264 := aS (Kd.N_mono (Kd.N_told (Kd.N_told (Kd.N_old (kn HO264.out) hb) (nb ho0)) (nb ho1)) (fun _ h_ => h_.1))
   replace HO267 := aS (Kd.N_mono (Kd.N_told (Kd.N_told (Kd.N_old (kn HO267.out) hb) (nb ho0)) (nb ho1)) (fun _ h_ => h_.1))
   replace HO273 := aS (Kd.N_mono (Kd.N_told (Kd.N_told (Kd.N_old (kn HO273.out) hb) (nb ho0)) (nb ho1)) (fun _ h_ => h_.1))
   replace HO276 := aS (Kd.N_mono (Kd.N_told (Kd.N_told (Kd.N_old (kn HO276.out) hb) (nb ho0)) (nb ho1)) (fun _ h_ => h_.1))
   replace HO282 := aS (Kd.N_mono (Kd.N_told (Kd.N_told (Kd.N_old (kn HO282.out) hb) (nb ho0)) (nb ho1)) (fun _ h_ => h_.1))
   replace HO285 := aS (Kd.N_mono (Kd.N_told (Kd.N_told (Kd.N_old (kn HO285.out) hb) (nb ho0)) (nb ho1)) (fun _ h_ => h_.1))
   replace BK286 := Bk BK286 hb
   replace BK305 := Bk BK305 hb
   replace HB := Hs HB hb
   (try clear hb)
   (try clear hb2)
   (try clear hk)
   (try clear hi)
   (try clear ho0)
   (try clear ho1)
   obtain ⟨Ao35, co35, eo35⟩ := Kd.N_slice HO292.out
   (first | subst eo35 | (injection eo35 with f1_ f2_ f3_; have f4_ := f1_.symm; have f5_ := f3_.symm; clear f1_ f2_ f3_; subst f4_; subst f5_))
   obtain ⟨Ao36, co36, eo36⟩ := Kd.N_slice HO295.out
   (first | subst eo36 | (injection eo36 with f1_ f2_ f3_; have f4_ := f1_.symm; have f5_ := f3_.symm; clear f1_ f2_ f3_; subst f4_; subst f5_))
   refine hK.out _ _ ⟨cz BK286 0, cz BK286 1, cz BK286 2, cz BK286 3, cz BK286 4⟩ (fun hHeld => ?_)
   clear hK K
   refine norm_ ap ?_
   refine one_ (i := 2) (N := some 8) #[true, true, true, true, false] rfl rfl (by kernel_rfl) (by decide) (fun K hK => ?_)
   refine goes_ Try.func42 (by kernel_rfl) rfl #[.agg #[.int .i64 t277, .int .i64 t278, .string t279, .slice Ao29 t280.length co29, .slice Ao30 t283.length co30], .agg #[.int .i64 t287, .int .i64 t288, .string t289, .slice Ao35 t290.length co35, .slice Ao36 t293.length co36]] (by rfl) rfl rfl bl ?_
   with_reducible refine (term_Put.calls k t277 t278 t279 _ _ t280 _ _ t283 t287 t288 t289 _ _ t290 _ _ t293 t296 t297 t298 t299 t302 _ ?side1 ?side2 ?side3 ?side4 ?side5 ?side6 ?side7 ?side8 A5.out).mono ?_
   (case side1 => exact cr (Kd.N_reads' HO282.out).2.2)
   (case side2 => exact (Kd.N_reads' HO282.out).2.1)
   (case side3 => exact cr (Kd.N_reads' HO285.out).2.2)
   (case side4 => exact (Kd.N_reads' HO285.out).2.1)
   (case side5 => exact cr (Kd.N_reads' HO292.out).2.2)
   (case side6 => exact (Kd.N_reads' HO292.out).2.1)
   (case side7 => exact cr (Kd.N_reads' HO295.out).2.2)
   (case side8 => exact (Kd.N_reads' HO295.out).2.1)
   rintro e w37 ⟨v300, v303, rfl, ho0, ho1, hb⟩
   refine ⟨_, rfl, ?_⟩
   have HO301 := aS (Kd.N_lower (Kd.N_mono (ok' := fun k_ => some k_ ≠ (v303 : Value).ownBlock ∧ some k_ ≠ (.slice Ao22 t262.length co22 : Value).ownBlock ∧ some k_ ≠ (.slice Ao23 t265.length co23 : Value).ownBlock ∧ some k_ ≠ (.slice Ao24 t271.length co24 : Value).ownBlock ∧ some k_ ≠ (.slice Ao25 t274.length co25 : Value).ownBlock ∧ some k_ ≠ (.slice Ao29 t280.length co29 : Value).ownBlock ∧ some k_ ≠ (.slice Ao30 t283.length co30 : Value).ownBlock ∧ some k_ ≠ (.slice Ao35 t290.length co35 : Value).ownBlock ∧ some k_ ≠ (.slice Ao36 t293.length co36 : Value).ownBlock ∧ k_ ≠ gb286 ∧ k_ ≠ gb305) (Kd.R_N (Kd.R_bound (Kd.R_apart' ho0 (Kd.R_typed ho1) (by decide)))) (fun k_ hk_ => ⟨hk_.1.2, (Kd.fresh' (Kd.N_lt (kn HO264.out)) k_ hk_.2.1), (Kd.fresh' (Kd.N_lt (kn HO267.out)) k_ hk_.2.1), (Kd.fresh' (Kd.N_lt (kn HO273.out)) k_ hk_.2.1), (Kd.fresh' (Kd.N_lt (kn HO276.out)) k_ hk_.2.1), (Kd.fresh' (Kd.N_lt (kn HO282.out)) k_ hk_.2.1), (Kd.fresh' (Kd.N_lt (kn HO285.out)) k_ hk_.2.1), (Kd.fresh' (Kd.N_lt (kn HO292.out)) k_ hk_.2.1), (Kd.fresh' (Kd.N_lt (kn HO295.out)) k_ hk_.2.1), (Kd.freshB (bkw BK286) k_ hk_.2.1), (Kd.freshB (bkw BK305) k_ hk_.2.1)⟩)) (below_size (hbk HB)))
   have HO304 := aS (Kd.N_lower (Kd.N_mono (ok' := fun k_ => some k_ ≠ (v300 : Value).ownBlock ∧ some k_ ≠ (.slice Ao22 t262.length co22 : Value).ownBlock ∧ some k_ ≠ (.slice Ao23 t265.length co23 : Value).ownBlock ∧ some k_ ≠ (.slice Ao24 t271.length co24 : Value).ownBlock ∧ some k_ ≠ (.slice Ao25 t274.length co25 : Value).ownBlock ∧ some k_ ≠ (.slice Ao29 t280.length co29 : Value).ownBlock ∧ some k_ ≠ (.slice Ao30 t283.length co30 : Value).ownBlock ∧ some k_ ≠ (.slice Ao35 t290.length co35 : Value).ownBlock ∧ some k_ ≠ (.slice Ao36 t293.length co36 : Value).ownBlock ∧ k_ ≠ gb286 ∧ k_ ≠ gb305) (Kd.R_N (Kd.R_bound ho1)) (fun k_ hk_ => ⟨hk_.1, (Kd.fresh' (Kd.N_lt (kn HO264.out)) k_ hk_.2.1), (Kd.fresh' (Kd.N_lt (kn HO267.out)) k_ hk_.2.1), (Kd.fresh' (Kd.N_lt (kn HO273.out)) k_ hk_.2.1), (Kd.fresh' (Kd.N_lt (kn HO276.out)) k_ hk_.2.1), (Kd.fresh' (Kd.N_lt (kn HO282.out)) k_ hk_.2.1), (Kd.fresh' (Kd.N_lt (kn HO285.out)) k_ hk_.2.1), (Kd.fresh' (Kd.N_lt (kn HO292.out)) k_ hk_.2.1), (Kd.fresh' (Kd.N_lt (kn HO295.out)) k_ hk_.2.1), (Kd.freshB (bkw BK286) k_ hk_.2.1), (Kd.freshB (bkw BK305) k_ hk_.2.1)⟩)) (below_size (hbk HB)))
   replace HO264 := aS (Kd.N_mono (Kd.N_told (Kd.N_told (Kd.N_old (kn HO264.out) hb) (nb ho0)) (nb ho1)) (fun _ h_ => h_.1))
   replace HO267 := aS (Kd.N_mono (Kd.N_told (Kd.N_told (Kd.N_old (kn HO267.out) hb) (nb ho0)) (nb ho1)) (fun _ h_ => h_.1))
   replace HO273 := aS (Kd.N_mono (Kd.N_told (Kd.N_told (Kd.N_old (kn HO273.out) hb) (nb ho0)) (nb ho1)) (fun _ h_ => h_.1))
   replace HO276 := aS (Kd.N_mono (Kd.N_told (Kd.N_told (Kd.N_old (kn HO276.out) hb) (nb ho0)) (nb ho1)) (fun _ h_ => h_.1))
   replace HO282 := aS (Kd.N_mono (Kd.N_told (Kd.N_told (Kd.N_old (kn HO282.out) hb) (nb ho0)) (nb ho1)) (fun _ h_ => h_.1))
   replace HO285 := aS (Kd.N_mono (Kd.N_told (Kd.N_told (Kd.N_old (kn HO285.out) hb) (nb ho0)) (nb ho1)) (fun _ h_ => h_.1))
   replace HO292 := aS (Kd.N_mono (Kd.N_told (Kd.N_told (Kd.N_old (kn HO292.out) hb) (nb ho0)) (nb ho1)) (fun _ h_ => h_.1))
   replace HO295 := aS (Kd.N_mono (Kd.N_told (Kd.N_told (Kd.N_old (kn HO295.out) hb) (nb ho0)) (nb ho1)) (fun _ h_ => h_.1))
   replace BK286 := Bk BK286 hb
   replace BK305 := Bk BK305 hb
   replace HB := Hs HB hb
   (try clear hb)
   (try clear hb2)
   (try clear hk)
   (try clear hi)
   (try clear ho0)
   (try clear ho1)
   refine hK.out _ _ ⟨cz BK286 0, cz BK286 1, cz BK286 2, cz BK286 3, cz BK286 4⟩ (fun hHeld => ?_)
   clear hK K
   refine norm_ ap ?_
   exact norm_ (by simp only [putAll, Act.put, List.setIfInBounds_toArray, List.set_cons_zero, List.set_cons_succ]) (hCont (.slice Ao35 t290.length co35, .slice Ao36 t293.length co36, v300, v303, gb305) _ ⟨hHeld, (by (with_reducible repeat (first | apply Kd.N_alloc | apply Kd.N_drewN | apply Kd.N_drew)); exact Kd.N_mono HO264.out (fun _ hk => ⟨hk.1.1.1.1.1.1, ⟨hk.1.1.1.1.1.2.1, ⟨hk.1.1.1.1.1.2.2.1, ⟨hk.1.1.1.1.1.2.2.2.1, ⟨hk.1.1.1.1.1.2.2.2.2.1, ⟨hk.1.1.1.2, ⟨hk.1.1.2, ⟨hk.1.2, ⟨hk.2, ⟨hk.1.1.1.1.1.2.2.2.2.2, hk.1.1.1.1.2⟩⟩⟩⟩⟩⟩⟩⟩⟩⟩)), (by (with_reducible repeat (first | apply Kd.N_alloc | apply Kd.N_drewN | apply Kd.N_drew)); exact Kd.N_mono HO267.out (fun _ hk => ⟨hk.1.1.1.1.1.1, ⟨hk.1.1.1.1.1.2.1, ⟨hk.1.1.1.1.1.2.2.1, ⟨hk.1.1.1.1.1.2.2.2.1, ⟨hk.1.1.1.1.1.2.2.2.2.1, ⟨hk.1.1.1.2, ⟨hk.1.1.2, ⟨hk.1.2, ⟨hk.2, ⟨hk.1.1.1.1.1.2.2.2.2.2, hk.1.1.1.1.2⟩⟩⟩⟩⟩⟩⟩⟩⟩⟩)), (by (with_reducible repeat (first | apply Kd.N_alloc | apply Kd.N_drewN | apply Kd.N_drew)); exact Kd.N_mono HO273.out (fun _ hk => ⟨hk.1.1.1.1.1.1, ⟨hk.1.1.1.1.1.2.1, ⟨hk.1.1.1.1.1.2.2.1, ⟨hk.1.1.1.1.1.2.2.2.1, ⟨hk.1.1.1.1.1.2.2.2.2.1, ⟨hk.1.1.1.2, ⟨hk.1.1.2, ⟨hk.1.2, ⟨hk.2, ⟨hk.1.1.1.1.1.2.2.2.2.2, hk.1.1.1.1.2⟩⟩⟩⟩⟩⟩⟩⟩⟩⟩)), (by (with_reducible repeat (first | apply Kd.N_alloc | apply Kd.N_drewN | apply Kd.N_drew)); exact Kd.N_mono HO276.out (fun _ hk => ⟨hk.1.1.1.1.1.1, ⟨hk.1.1.1.1.1.2.1, ⟨hk.1.1.1.1.1.2.2.1, ⟨hk.1.1.1.1.1.2.2.2.1, ⟨hk.1.1.1.1.1.2.2.2.2.1, ⟨hk.1.1.1.2, ⟨hk.1.1.2, ⟨hk.1.2, ⟨hk.2, ⟨hk.1.1.1.1.1.2.2.2.2.2, hk.1.1.1.1.2⟩⟩⟩⟩⟩⟩⟩⟩⟩⟩)), (by (with_reducible repeat (first | apply Kd.N_alloc | apply Kd.N_drewN | apply Kd.N_drew)); exact Kd.N_mono HO282.out (fun _ hk => ⟨hk.1.1.1.1.1.1, ⟨hk.1.1.1.1.1.2.1, ⟨hk.1.1.1.1.1.2.2.1, ⟨hk.1.1.1.2, ⟨hk.1.1.2, ⟨hk.1.2, ⟨hk.2, ⟨hk.1.1.1.1.1.2.2.2, hk.1.1.1.1.2⟩⟩⟩⟩⟩⟩⟩⟩)), (by (with_reducible repeat (first | apply Kd.N_alloc | apply Kd.N_drewN | apply Kd.N_drew)); exact Kd.N_mono HO285.out (fun _ hk => ⟨hk.1.1.1.1.1.1, ⟨hk.1.1.1.1.1.2.1, ⟨hk.1.1.1.1.1.2.2.1, ⟨hk.1.1.1.2, ⟨hk.1.1.2, ⟨hk.1.2, ⟨hk.2, ⟨hk.1.1.1.1.1.2.2.2, hk.1.1.1.1.2⟩⟩⟩⟩⟩⟩⟩⟩)), (by (with_reducible repeat (first | apply Kd.N_alloc | apply Kd.N_drewN | apply Kd.N_drew)); exact Kd.N_mono HO292.out (fun _ hk => ⟨hk.1.1.2.1, ⟨hk.1.1.2.2.1, ⟨hk.1.1.2.2.2.1, ⟨hk.1.1.2.2.2.2.1, ⟨hk.1.1.2.2.2.2.2.1, ⟨hk.1.1.2.2.2.2.2.2.1, ⟨hk.1.1.1, ⟨hk.1.2, ⟨hk.2, ⟨hk.1.1.2.2.2.2.2.2.2.1, hk.1.1.2.2.2.2.2.2.2.2⟩⟩⟩⟩⟩⟩⟩⟩⟩⟩)), (by (with_reducible repeat (first | apply Kd.N_alloc | apply Kd.N_drewN | apply Kd.N_drew)); exact Kd.N_mono HO295.out (fun _ hk => ⟨hk.1.1.2.1, ⟨hk.1.1.2.2.1, ⟨hk.1.1.2.2.2.1, ⟨hk.1.1.2.2.2.2.1, ⟨hk.1.1.2.2.2.2.2.1, ⟨hk.1.1.2.2.2.2.2.2.1, ⟨hk.1.1.1, ⟨hk.1.2, ⟨hk.2, ⟨hk.1.1.2.2.2.2.2.2.2.1, hk.1.1.2.2.2.2.2.2.2.2⟩⟩⟩⟩⟩⟩⟩⟩⟩⟩)), (by (with_reducible repeat (first | apply Kd.N_alloc | apply Kd.N_drewN | apply Kd.N_drew)); exact Kd.N_mono HO301.out (fun _ hk => ⟨hk.2.1, ⟨hk.2.2.1, ⟨hk.2.2.2.1, ⟨hk.2.2.2.2.1, ⟨hk.2.2.2.2.2.1, ⟨hk.2.2.2.2.2.2.1, ⟨hk.2.2.2.2.2.2.2.1, ⟨hk.2.2.2.2.2.2.2.2.1, ⟨hk.1, ⟨hk.2.2.2.2.2.2.2.2.2.1, hk.2.2.2.2.2.2.2.2.2.2⟩⟩⟩⟩⟩⟩⟩⟩⟩⟩)), (by (with_reducible repeat (first | apply Kd.N_alloc | apply Kd.N_drewN | apply Kd.N_drew)); exact Kd.N_mono HO304.out (fun _ hk => ⟨hk.2.1, ⟨hk.2.2.1, ⟨hk.2.2.2.1, ⟨hk.2.2.2.2.1, ⟨hk.2.2.2.2.2.1, ⟨hk.2.2.2.2.2.2.1, ⟨hk.2.2.2.2.2.2.2.1, ⟨hk.2.2.2.2.2.2.2.2.1, ⟨hk.1, ⟨hk.2.2.2.2.2.2.2.2.2.1, hk.2.2.2.2.2.2.2.2.2.2⟩⟩⟩⟩⟩⟩⟩⟩⟩⟩)), (bk BK286.out), (bk BK305.out), GW305.out, GE305.out, NB286_305.out, NB305_286.out, (hbk HB)⟩)
 rintro ⟨v291, v294, v300, v303, gb305⟩ w38 ⟨hS_, h0_, h1_, h2_, h3_, h4_, h5_, h6_, h7_, h8_, h9_, h10_, h11_, h12_, h13_, h14_, h15_, h16_⟩
 replace HO264 : Aside0 (Kd.N k76 76 w38 w.heap.size (fun k_ => some k_ ≠ (.slice Ao23 t265.length co23 : Value).ownBlock ∧ some k_ ≠ (.slice Ao24 t271.length co24 : Value).ownBlock ∧ some k_ ≠ (.slice Ao25 t274.length co25 : Value).ownBlock ∧ some k_ ≠ (.slice Ao29 t280.length co29 : Value).ownBlock ∧ some k_ ≠ (.slice Ao30 t283.length co30 : Value).ownBlock ∧ some k_ ≠ (v291 : Value).ownBlock ∧ some k_ ≠ (v294 : Value).ownBlock ∧ some k_ ≠ (v300 : Value).ownBlock ∧ some k_ ≠ (v303 : Value).ownBlock ∧ k_ ≠ gb286 ∧ k_ ≠ gb305) (.slice Ao22 t262.length co22) t262) := ⟨h0_⟩
 replace HO267 : Aside0 (Kd.N k27 27 w38 w.heap.size (fun k_ => some k_ ≠ (.slice Ao22 t262.length co22 : Value).ownBlock ∧ some k_ ≠ (.slice Ao24 t271.length co24 : Value).ownBlock ∧ some k_ ≠ (.slice Ao25 t274.length co25 : Value).ownBlock ∧ some k_ ≠ (.slice Ao29 t280.length co29 : Value).ownBlock ∧ some k_ ≠ (.slice Ao30 t283.length co30 : Value).ownBlock ∧ some k_ ≠ (v291 : Value).ownBlock ∧ some k_ ≠ (v294 : Value).ownBlock ∧ some k_ ≠ (v300 : Value).ownBlock ∧ some k_ ≠ (v303 : Value).ownBlock ∧ k_ ≠ gb286 ∧ k_ ≠ gb305) (.slice Ao23 t265.length co23) t265) := ⟨h1_⟩
 replace HO273 : Aside0 (Kd.N k76 76 w38 w.heap.size (fun k_ => some k_ ≠ (.slice Ao22 t262.length co22 : Value).ownBlock ∧ some k_ ≠ (.slice Ao23 t265.length co23 : Value).ownBlock ∧ some k_ ≠ (.slice Ao25 t274.length co25 : Value).ownBlock ∧ some k_ ≠ (.slice Ao29 t280.length co29 : Value).ownBlock ∧ some k_ ≠ (.slice Ao30 t283.length co30 : Value).ownBlock ∧ some k_ ≠ (v291 : Value).ownBlock ∧ some k_ ≠ (v294 : Value).ownBlock ∧ some k_ ≠ (v300 : Value).ownBlock ∧ some k_ ≠ (v303 : Value).ownBlock ∧ k_ ≠ gb286 ∧ k_ ≠ gb305) (.slice Ao24 t271.length co24) t271) := ⟨h2_⟩
 replace HO276 : Aside0 (Kd.N k27 27 w38 w.heap.size (fun k_ => some k_ ≠ (.slice Ao22 t262.length co22 : Value).ownBlock ∧ some k_ ≠ (.slice Ao23 t265.length co23 : Value).ownBlock ∧ some k_ ≠ (.slice Ao24 t271.length co24 : Value).ownBlock ∧ some k_ ≠ (.slice Ao29 t280.length co29 : Value).ownBlock ∧ some k_ ≠ (.slice Ao30 t283.length co30 : Value).ownBlock ∧ some k_ ≠ (v291 : Value).ownBlock ∧ some k_ ≠ (v294 : Value).ownBlock ∧ some k_ ≠ (v300 : Value).ownBlock ∧ some k_ ≠ (v303 : Value).ownBlock ∧ k_ ≠ gb286 ∧ k_ ≠ gb305) (.slice Ao25 t274.length co25) t274) := ⟨h3_⟩
 replace HO282 : Aside0 (Kd.N k76 76 w38 w.heap.size (fun k_ => some k_ ≠ (.slice Ao24 t271.length co24 : Value).ownBlock ∧ some k_ ≠ (.slice Ao25 t274.length co25 : Value).ownBlock ∧ some k_ ≠ (.slice Ao30 t283.length co30 : Value).ownBlock ∧ some k_ ≠ (v291 : Value).ownBlock ∧ some k_ ≠ (v294 : Value).ownBlock ∧ some k_ ≠ (v300 : Value).ownBlock ∧ some k_ ≠ (v303 : Value).ownBlock ∧ k_ ≠ gb286 ∧ k_ ≠ gb305) (.slice Ao29 t280.length co29) t280) := ⟨h4_⟩
 replace HO285 : Aside0 (Kd.N k27 27 w38 w.heap.size (fun k_ => some k_ ≠ (.slice Ao24 t271.length co24 : Value).ownBlock ∧ some k_ ≠ (.slice Ao25 t274.length co25 : Value).ownBlock ∧ some k_ ≠ (.slice Ao29 t280.length co29 : Value).ownBlock ∧ some k_ ≠ (v291 : Value).ownBlock ∧ some k_ ≠ (v294 : Value).ownBlock ∧ some k_ ≠ (v300 : Value).ownBlock ∧ some k_ ≠ (v303 : Value).ownBlock ∧ k_ ≠ gb286 ∧ k_ ≠ gb305) (.slice Ao30 t283.length co30) t283) := ⟨h5_⟩
 have HO292 : Aside0 (Kd.N k76 76 w38 w.heap.size (fun k_ => some k_ ≠ (.slice Ao22 t262.length co22 : Value).ownBlock ∧ some k_ ≠ (.slice Ao23 t265.length co23 : Value).ownBlock ∧ some k_ ≠ (.slice Ao24 t271.length co24 : Value).ownBlock ∧ some k_ ≠ (.slice Ao25 t274.length co25 : Value).ownBlock ∧ some k_ ≠ (.slice Ao29 t280.length co29 : Value).ownBlock ∧ some k_ ≠ (.slice Ao30 t283.length co30 : Value).ownBlock ∧ some k_ ≠ (v294 : Value).ownBlock ∧ some k_ ≠ (v300 : Value).ownBlock ∧ some k_ ≠ (v303 : Value).ownBlock ∧ k_ ≠ gb286 ∧ k_ ≠ gb305) v291 t290) := ⟨h6_⟩
 have HO295 : Aside0 (Kd.N k27 27 w38 w.heap.size (fun k_ => some k_ ≠ (.slice Ao22 t262.length co22 : Value).ownBlock ∧ some k_ ≠ (.slice Ao23 t265.length co23 : Value).ownBlock ∧ some k_ ≠ (.slice Ao24 t271.length co24 : Value).ownBlock ∧ some k_ ≠ (.slice Ao25 t274.length co25 : Value).ownBlock ∧ some k_ ≠ (.slice Ao29 t280.length co29 : Value).ownBlock ∧ some k_ ≠ (.slice Ao30 t283.length co30 : Value).ownBlock ∧ some k_ ≠ (v291 : Value).ownBlock ∧ some k_ ≠ (v300 : Value).ownBlock ∧ some k_ ≠ (v303 : Value).ownBlock ∧ k_ ≠ gb286 ∧ k_ ≠ gb305) v294 t293) := ⟨h7_⟩
 have HO301 : Aside0 (Kd.N k76 76 w38 w.heap.size (fun k_ => some k_ ≠ (.slice Ao22 t262.length co22 : Value).ownBlock ∧ some k_ ≠ (.slice Ao23 t265.length co23 : Value).ownBlock ∧ some k_ ≠ (.slice Ao24 t271.length co24 : Value).ownBlock ∧ some k_ ≠ (.slice Ao25 t274.length co25 : Value).ownBlock ∧ some k_ ≠ (.slice Ao29 t280.length co29 : Value).ownBlock ∧ some k_ ≠ (.slice Ao30 t283.length co30 : Value).ownBlock ∧ some k_ ≠ (v291 : Value).ownBlock ∧ some k_ ≠ (v294 : Value).ownBlock ∧ some k_ ≠ (v303 : Value).ownBlock ∧ k_ ≠ gb286 ∧ k_ ≠ gb305) v300 t299) := ⟨h8_⟩
 have HO304 : Aside0 (Kd.N k27 27 w38 w.heap.size (fun k_ => some k_ ≠ (.slice Ao22 t262.length co22 : Value).ownBlock ∧ some k_ ≠ (.slice Ao23 t265.length co23 : Value).ownBlock ∧ some k_ ≠ (.slice Ao24 t271.length co24 : Value).ownBlock ∧ some k_ ≠ (.slice Ao25 t274.length co25 : Value).ownBlock ∧ some k_ ≠ (.slice Ao29 t280.length co29 : Value).ownBlock ∧ some k_ ≠ (.slice Ao30 t283.length co30 : Value).ownBlock ∧ some k_ ≠ (v291 : Value).ownBlock ∧ some k_ ≠ (v294 : Value).ownBlock ∧ some k_ ≠ (v300 : Value).ownBlock ∧ k_ ≠ gb286 ∧ k_ ≠ gb305) v303 t302) := ⟨h9_⟩
 replace BK286 : Aside0 (w38.heap[gb286]? = some (.cells #[.int .i64 t277, .int .i64 t278, .string t279, .slice Ao29 t280.length co29, .slice Ao30 t283.length co30] 27 (0, 0))) := ⟨h10_⟩
 have BK305 : Aside0 (w38.heap[gb305]? = some (.cells #[.int .i64 0, .int .i64 0, .string (⟨#[]⟩ : ByteArray), .slice none 0 0, .slice none 0 0] 27 (0, 0))) := ⟨h11_⟩
 have GW305 : Aside0 (w.heap.size ≤ gb305) := ⟨h12_⟩
 have GE305 : Aside0 (w.heap.size ≤ gb305) := ⟨h13_⟩
 have NB286_305 : Aside0 (gb286 ≠ gb305) := ⟨h14_⟩
 have NB305_286 : Aside0 (gb305 ≠ gb286) := ⟨h15_⟩
 replace HB : Aside0 (Below w.heap.size w w38) := ⟨h16_⟩
 clear h0_ h1_ h2_ h3_ h4_ h5_ h6_ h7_ h8_ h9_ h10_ h11_ h12_ h13_ h14_ h15_ h16_
 have hHeld : w38.cell? ⟨gb286, 0, none⟩ = some (.int .i64 t277) ∧ w38.cell? ⟨gb286, 1, none⟩ = some (.int .i64 t278) ∧ w38.cell? ⟨gb286, 2, none⟩ = some (.string t279) ∧ w38.cell? ⟨gb286, 3, none⟩ = some (.slice Ao29 t280.length co29) ∧ w38.cell? ⟨gb286, 4, none⟩ = some (.slice Ao30 t283.length co30) := hS_
 obtain ⟨Ao42, co42, eo42⟩ := Kd.N_slice HO301.out
 (first | subst eo42 | (injection eo42 with f1_ f2_ f3_; have f4_ := f1_.symm; have f5_ := f3_.symm; clear f1_ f2_ f3_; subst f4_; subst f5_))
 obtain ⟨Ao44, co44, eo44⟩ := Kd.N_slice HO304.out
 (first | subst eo44 | (injection eo44 with f1_ f2_ f3_; have f4_ := f1_.symm; have f5_ := f3_.symm; clear f1_ f2_ f3_; subst f4_; subst f5_))
 refine norm_ (a' := ?_) ?_ ?_
 rotate_left
 ·simp only [putAll, Act.put, List.setIfInBounds_toArray, List.set_cons_zero, List.set_cons_succ]
  rfl
 refine one_ (i := 4) (N := none) #[true, true, true, true, true] rfl rfl (by kernel_rfl) (by decide) (fun K hK => ?_)
 have hs39 : w38.cell? ⟨gb305, 0, none⟩ = some (.int .i64 0) := cz BK305 0
 have hfs39 := blk_frozen BK305.out 0
 have hns39_0 := NB286_305.out
 have hms39_0 := NB305_286.out
 have hs40 : w38.cell? ⟨gb305, 1, none⟩ = some (.int .i64 0) := cz BK305 1
 have hfs40 := blk_frozen BK305.out 1
 have hns40_0 := NB286_305.out
 have hms40_0 := NB305_286.out
 have hs41 : w38.cell? ⟨gb305, 2, none⟩ = some (.string (⟨#[]⟩ : ByteArray)) := cz BK305 2
 have hfs41 := blk_frozen BK305.out 2
 have hns41_0 := NB286_305.out
 have hms41_0 := NB305_286.out
 have hs43 : w38.cell? ⟨gb305, 3, none⟩ = some (.slice none 0 0) := cz BK305 3
 have hfs43 := blk_frozen BK305.out 3
 have hns43_0 := NB286_305.out
 have hms43_0 := NB305_286.out
 have hs45 : w38.cell? ⟨gb305, 4, none⟩ = some (.slice none 0 0) := cz BK305 4
 have hfs45 := blk_frozen BK305.out 4
 have hns45_0 := NB286_305.out
 have hms45_0 := NB305_286.out
 refine skip_ (w1 := ?_) (by rfl) rfl ?_ ?_
 rotate_left
 ·go_simp
  rfl
 refine hK.out _ _ ⟨((cell_far (p := ⟨gb305, _, none⟩) NB286_305.out _).trans (((cell_far (p := ⟨gb305, _, none⟩) NB286_305.out _).trans (((cell_far (p := ⟨gb305, _, none⟩) NB286_305.out _).trans (((cell_far (p := ⟨gb305, _, none⟩) NB286_305.out _).trans (((cell_far (p := ⟨gb305, _, none⟩) NB286_305.out _).trans (hHeld.1)))))))))), ((cell_far (p := ⟨gb305, _, none⟩) NB286_305.out _).trans (((cell_far (p := ⟨gb305, _, none⟩) NB286_305.out _).trans (((cell_far (p := ⟨gb305, _, none⟩) NB286_305.out _).trans (((cell_far (p := ⟨gb305, _, none⟩) NB286_305.out _).trans (((cell_far (p := ⟨gb305, _, none⟩) NB286_305.out _).trans (hHeld.2.1)))))))))), ((cell_far (p := ⟨gb305, _, none⟩) NB286_305.out _).trans (((cell_far (p := ⟨gb305, _, none⟩) NB286_305.out _).trans (((cell_far (p := ⟨gb305, _, none⟩) NB286_305.out _).trans (((cell_far (p := ⟨gb305, _, none⟩) NB286_305.out _).trans (((cell_far (p := ⟨gb305, _, none⟩) NB286_305.out _).trans (hHeld.2.2.1)))))))))), ((cell_far (p := ⟨gb305, _, none⟩) NB286_305.out _).trans (((cell_far (p := ⟨gb305, _, none⟩) NB286_305.out _).trans (((cell_far (p := ⟨gb305, _, none⟩) NB286_305.out _).trans (((cell_far (p := ⟨gb305, _, none⟩) NB286_305.out _).trans (((cell_far (p := ⟨gb305, _, none⟩) NB286_305.out _).trans (hHeld.2.2.2.1)))))))))), ((cell_far (p := ⟨gb305, _, none⟩) NB286_305.out _).trans (((cell_far (p := ⟨gb305, _, none⟩) NB286_305.out _).trans (((cell_far (p := ⟨gb305, _, none⟩) NB286_305.out _).trans (((cell_far (p := ⟨gb305, _, none⟩) NB286_305.out _).trans (((cell_far (p := ⟨gb305, _, none⟩) NB286_305.out _).trans (hHeld.2.2.2.2))))))))))⟩ (fun hHeld => ?_)
 clear hK K
 refine done_ (by kernel_rfl) ?_
 have hnb46 := NB286_305.out
 have hnc46 := NB305_286.out
 obtain ⟨hcz47_0, hcz47_1, hcz47_2, hcz47_3, hcz47_4⟩ := cl5 BK286
 obtain ⟨hfz47_0, hfz47_1, hfz47_2, hfz47_3, hfz47_4⟩ := fz5 BK286
 try go_wp2_with (first | ((with_reducible refine gate_callee (f := 46) rfl ?_); refine goesL_ (some 10) rfl rfl Try.func46 (by kernel_rfl) rfl #[.agg #[.int .i64 t277, .int .i64 t278, .string t279, .slice Ao29 t280.length co29, .slice Ao30 t283.length co30], .int .i64 9] rfl bl ?_; (with_reducible refine (term_Size.calls k t277 t278 t279 _ _ t280 _ _ t283 9 t306 _ ?side1 ?side2 ?side3 ?side4 A6.out).mono ?_); (case side1 => refine (Kd.N_reads' (e := 76) (base := w.heap.size) (ok := fun k_ => (some k_ ≠ (.slice Ao24 t271.length co24 : Value).ownBlock ∧ (some k_ ≠ (.slice Ao25 t274.length co25 : Value).ownBlock ∧ (some k_ ≠ (.slice Ao30 t283.length co30 : Value).ownBlock ∧ (some k_ ≠ (v291 : Value).ownBlock ∧ (some k_ ≠ (v294 : Value).ownBlock ∧ (some k_ ≠ (.slice Ao42 t299.length co42 : Value).ownBlock ∧ (some k_ ≠ (.slice Ao44 t302.length co44 : Value).ownBlock ∧ (k_ ≠ gb286 ∧ k_ ≠ gb305))))))))) (n := t280.length) (c := co29) ?_).2.2; exact (by (with_reducible repeat (first | apply Kd.N_alloc | apply Kd.N_drewN | apply Kd.N_drew)); exact (Kd.N_mono (N5 (g := gb305) (Kd.N_mono HO282.out (fun k_ hk => (⟨hk, hk.2.2.2.2.2.2.2.2⟩ : _ ∧ k_ ≠ gb305))) (fun _ hk => hk.2)) (fun _ h_ => h_.1)))); (case side2 => exact (Kd.N_reads' HO282.out).2.1); (case side3 => refine (Kd.N_reads' (e := 27) (base := w.heap.size) (ok := fun k_ => (some k_ ≠ (.slice Ao24 t271.length co24 : Value).ownBlock ∧ (some k_ ≠ (.slice Ao25 t274.length co25 : Value).ownBlock ∧ (some k_ ≠ (.slice Ao29 t280.length co29 : Value).ownBlock ∧ (some k_ ≠ (v291 : Value).ownBlock ∧ (some k_ ≠ (v294 : Value).ownBlock ∧ (some k_ ≠ (.slice Ao42 t299.length co42 : Value).ownBlock ∧ (some k_ ≠ (.slice Ao44 t302.length co44 : Value).ownBlock ∧ (k_ ≠ gb286 ∧ k_ ≠ gb305))))))))) (n := t283.length) (c := co30) ?_).2.2; exact (by (with_reducible repeat (first | apply Kd.N_alloc | apply Kd.N_drewN | apply Kd.N_drew)); exact (Kd.N_mono (N5 (g := gb305) (Kd.N_mono HO285.out (fun k_ hk => (⟨hk, hk.2.2.2.2.2.2.2.2⟩ : _ ∧ k_ ≠ gb305))) (fun _ hk => hk.2)) (fun _ h_ => h_.1)))); (case side4 => exact (Kd.N_reads' HO285.out).2.1); rintro e w48 ⟨rfl, hb⟩; refine ⟨_, rfl, ?_⟩; replace HO264 := aS (Kd.N_below (by (with_reducible repeat (first | apply Kd.N_alloc | apply Kd.N_drewN | apply Kd.N_drew)); exact (Kd.N_mono (N5 (g := gb305) (Kd.N_mono HO264.out (fun k_ hk => (⟨hk, hk.2.2.2.2.2.2.2.2.2.2⟩ : _ ∧ k_ ≠ gb305))) (fun _ hk => hk.2)) (fun _ h_ => h_.1))) hb); replace HO267 := aS (Kd.N_below (by (with_reducible repeat (first | apply Kd.N_alloc | apply Kd.N_drewN | apply Kd.N_drew)); exact (Kd.N_mono (N5 (g := gb305) (Kd.N_mono HO267.out (fun k_ hk => (⟨hk, hk.2.2.2.2.2.2.2.2.2.2⟩ : _ ∧ k_ ≠ gb305))) (fun _ hk => hk.2)) (fun _ h_ => h_.1))) hb); replace HO273 := aS (Kd.N_below (by (with_reducible repeat (first | apply Kd.N_alloc | apply Kd.N_drewN | apply Kd.N_drew)); exact (Kd.N_mono (N5 (g := gb305) (Kd.N_mono HO273.out (fun k_ hk => (⟨hk, hk.2.2.2.2.2.2.2.2.2.2⟩ : _ ∧ k_ ≠ gb305))) (fun _ hk => hk.2)) (fun _ h_ => h_.1))) hb); replace HO276 := aS (Kd.N_below (by (with_reducible repeat (first | apply Kd.N_alloc | apply Kd.N_drewN | apply Kd.N_drew)); exact (Kd.N_mono (N5 (g := gb305) (Kd.N_mono HO276.out (fun k_ hk => (⟨hk, hk.2.2.2.2.2.2.2.2.2.2⟩ : _ ∧ k_ ≠ gb305))) (fun _ hk => hk.2)) (fun _ h_ => h_.1))) hb); replace HO282 := aS (Kd.N_below (by (with_reducible repeat (first | apply Kd.N_alloc | apply Kd.N_drewN | apply Kd.N_drew)); exact (Kd.N_mono (N5 (g := gb305) (Kd.N_mono HO282.out (fun k_ hk => (⟨hk, hk.2.2.2.2.2.2.2.2⟩ : _ ∧ k_ ≠ gb305))) (fun _ hk => hk.2)) (fun _ h_ => h_.1))) hb); replace HO285 := aS (Kd.N_below (by (with_reducible repeat (first | apply Kd.N_alloc | apply Kd.N_drewN | apply Kd.N_drew)); exact (Kd.N_mono (N5 (g := gb305) (Kd.N_mono HO285.out (fun k_ hk => (⟨hk, hk.2.2.2.2.2.2.2.2⟩ : _ ∧ k_ ≠ gb305))) (fun _ hk => hk.2)) (fun _ h_ => h_.1))) hb); replace HO292 := aS (Kd.N_below (by (with_reducible repeat (first | apply Kd.N_alloc | apply Kd.N_drewN | apply Kd.N_drew)); exact (Kd.N_mono (N5 (g := gb305) (Kd.N_mono HO292.out (fun k_ hk => (⟨hk, hk.2.2.2.2.2.2.2.2.2.2⟩ : _ ∧ k_ ≠ gb305))) (fun _ hk => hk.2)) (fun _ h_ => h_.1))) hb); replace HO295 := aS (Kd.N_below (by (with_reducible repeat (first | apply Kd.N_alloc | apply Kd.N_drewN | apply Kd.N_drew)); exact (Kd.N_mono (N5 (g := gb305) (Kd.N_mono HO295.out (fun k_ hk => (⟨hk, hk.2.2.2.2.2.2.2.2.2.2⟩ : _ ∧ k_ ≠ gb305))) (fun _ hk => hk.2)) (fun _ h_ => h_.1))) hb); replace HO301 := aS (Kd.N_below (by (with_reducible repeat (first | apply Kd.N_alloc | apply Kd.N_drewN | apply Kd.N_drew)); exact (Kd.N_mono (N5 (g := gb305) (Kd.N_mono HO301.out (fun k_ hk => (⟨hk, hk.2.2.2.2.2.2.2.2.2.2⟩ : _ ∧ k_ ≠ gb305))) (fun _ hk => hk.2)) (fun _ h_ => h_.1))) hb); replace HO304 := aS (Kd.N_below (by (with_reducible repeat (first | apply Kd.N_alloc | apply Kd.N_drewN | apply Kd.N_drew)); exact (Kd.N_mono (N5 (g := gb305) (Kd.N_mono HO304.out (fun k_ hk => (⟨hk, hk.2.2.2.2.2.2.2.2.2.2⟩ : _ ∧ k_ ≠ gb305))) (fun _ hk => hk.2)) (fun _ h_ => h_.1))) hb); replace BK286 := aS (blk_below (g := gb286) (o := .cells #[.int .i64 t277, .int .i64 t278, .string t279, .slice Ao29 t280.length co29, .slice Ao30 t283.length co30] 27 (0, 0)) (bf5 BK286.out NB286_305.out) hb); replace BK305 := aS (blk_below (g := gb305) (o := .cells #[.int .i64 t296, .int .i64 t297, .string t298, .slice Ao42 t299.length co42, .slice Ao44 t302.length co44] 27 (0, 0)) (bp5 BK305.out) hb); replace HB := Hs HB hb; (try clear hb); (try clear hb2); (try clear hk); (try clear hi); obtain ⟨hcz49_0, hcz49_1, hcz49_2, hcz49_3, hcz49_4⟩ := cl5 BK286; obtain ⟨hfz49_0, hfz49_1, hfz49_2, hfz49_3, hfz49_4⟩ := fz5 BK286) | (go_at_call 47; (with_reducible refine (term_Depth.calls k t277 t278 t279 _ _ t280 _ _ t283 9 t307 _ ?side1 ?side2 ?side3 ?side4 A8.out).mono ?_); (case side1 => exact cr (Kd.N_reads' HO282.out).2.2); (case side2 => exact (Kd.N_reads' HO282.out).2.1); (case side3 => exact cr (Kd.N_reads' HO285.out).2.2); (case side4 => exact (Kd.N_reads' HO285.out).2.1); rintro e w50 ⟨rfl, hb⟩; replace HO264 := aS (Kd.N_below (kn HO264.out) hb); replace HO267 := aS (Kd.N_below (kn HO267.out) hb); replace HO273 := aS (Kd.N_below (kn HO273.out) hb); replace HO276 := aS (Kd.N_below (kn HO276.out) hb); replace HO282 := aS (Kd.N_below (kn HO282.out) hb); replace HO285 := aS (Kd.N_below (kn HO285.out) hb); replace HO292 := aS (Kd.N_below (kn HO292.out) hb); replace HO295 := aS (Kd.N_below (kn HO295.out) hb); replace HO301 := aS (Kd.N_below (kn HO301.out) hb); replace HO304 := aS (Kd.N_below (kn HO304.out) hb); replace BK286 := Bk BK286 hb; replace BK305 := Bk BK305 hb; replace HB := Hs HB hb; (try clear hb); (try clear hb2); (try clear hk); (try clear hi); obtain ⟨hcz51_0, hcz51_1, hcz51_2, hcz51_3, hcz51_4⟩ := cl5 BK286; obtain ⟨hfz51_0, hfz51_1, hfz51_2, hfz51_3, hfz51_4⟩ := fz5 BK286) | (go_at_call 49; (with_reducible refine (term_May.calls k t277 t278 t279 _ _ t280 _ _ t283 2 0 t308 _ ?side1 ?side2 ?side3 ?side4 A10.out).mono ?_); (case side1 => exact cr (Kd.N_reads' HO282.out).2.2); (case side2 => exact (Kd.N_reads' HO282.out).2.1); (case side3 => exact cr (Kd.N_reads' HO285.out).2.2); (case side4 => exact (Kd.N_reads' HO285.out).2.1); rintro e w52 ⟨rfl, hb⟩; replace HO264 := aS (Kd.N_below (kn HO264.out) hb); replace HO267 := aS (Kd.N_below (kn HO267.out) hb); replace HO273 := aS (Kd.N_below (kn HO273.out) hb); replace HO276 := aS (Kd.N_below (kn HO276.out) hb); replace HO282 := aS (Kd.N_below (kn HO282.out) hb); replace HO285 := aS (Kd.N_below (kn HO285.out) hb); replace HO292 := aS (Kd.N_below (kn HO292.out) hb); replace HO295 := aS (Kd.N_below (kn HO295.out) hb); replace HO301 := aS (Kd.N_below (kn HO301.out) hb); replace HO304 := aS (Kd.N_below (kn HO304.out) hb); replace BK286 := Bk BK286 hb; replace BK305 := Bk BK305 hb; replace HB := Hs HB hb; (try clear hb); (try clear hb2); (try clear hk); (try clear hi); obtain ⟨hcz53_0, hcz53_1, hcz53_2, hcz53_3, hcz53_4⟩ := cl5 BK286; obtain ⟨hfz53_0, hfz53_1, hfz53_2, hfz53_3, hfz53_4⟩ := fz5 BK286) | (go_at_call 43; (with_reducible refine (term_Uses.calls k t277 t278 t279 _ _ t280 _ _ t283 1 true _ ?side1 ?side2 ?side3 ?side4 A12.out).mono ?_); (case side1 => exact cr (Kd.N_reads' HO282.out).2.2); (case side2 => exact (Kd.N_reads' HO282.out).2.1); (case side3 => exact cr (Kd.N_reads' HO285.out).2.2); (case side4 => exact (Kd.N_reads' HO285.out).2.1); rintro e w54 ⟨rfl, hb⟩; replace HO264 := aS (Kd.N_below (kn HO264.out) hb); replace HO267 := aS (Kd.N_below (kn HO267.out) hb); replace HO273 := aS (Kd.N_below (kn HO273.out) hb); replace HO276 := aS (Kd.N_below (kn HO276.out) hb); replace HO282 := aS (Kd.N_below (kn HO282.out) hb); replace HO285 := aS (Kd.N_below (kn HO285.out) hb); replace HO292 := aS (Kd.N_below (kn HO292.out) hb); replace HO295 := aS (Kd.N_below (kn HO295.out) hb); replace HO301 := aS (Kd.N_below (kn HO301.out) hb); replace HO304 := aS (Kd.N_below (kn HO304.out) hb); replace BK286 := Bk BK286 hb; replace BK305 := Bk BK305 hb; replace HB := Hs HB hb; (try clear hb); (try clear hb2); (try clear hk); (try clear hi); obtain ⟨hcz55_0, hcz55_1, hcz55_2, hcz55_3, hcz55_4⟩ := cl5 BK305; obtain ⟨hfz55_0, hfz55_1, hfz55_2, hfz55_3, hfz55_4⟩ := fz5 BK305; have p310 : 0 ≤ (0 : Int) := (by omega); have q310 : 0 < (t302.length : Int) := of_decide_eq_true ba; obtain ⟨ad310, A310_3, c310_3, A310_4, c310_4, e310, hx310_0, hx310_1, hx310_2, hx310_3, hx310_4, hl310_3, hi310_3, hl310_4, hi310_4⟩ := at_T27 (Kd.N_reads' HO304.out).2.2 0 p310 q310; cases e310; obtain ⟨ce310, hce310, hMe310, hcc310⟩ := Kd.N_get HO304.out z27 0 p310 (by first | exact q310 | exact of_decide_eq_true ba | (have e_ := (Kd.N_reads' HO304.out).1; omega)); obtain ⟨ua310_3, uc310_3, ua310_4, uc310_4, rfl, ul310_3, ge310_3, ul310_4, ge310_4⟩ := k27_openF hMe310; have hv310_3 := hcc310 3 _ rfl; rw [add_field _ _ 3 (by omega)] at hv310_3; replace hv310_3 := Option.some.inj (hv310_3.symm.trans hx310_3); injection hv310_3 with hva_ hvn_ hvc_; rw [hva_] at ge310_3; rw [hvc_] at ul310_3; have HL310_3 := aS (show Kd.V k76 76 _ w.heap.size _ _ ((rd_T27 t302 0).f3) from Kd.V_mk ul310_3 ge310_3); clear hva_ hvn_ hvc_ ge310_3 ul310_3; have hv310_4 := hcc310 4 _ rfl; rw [add_field _ _ 4 (by omega)] at hv310_4; replace hv310_4 := Option.some.inj (hv310_4.symm.trans hx310_4); injection hv310_4 with hva_ hvn_ hvc_; rw [hva_] at ge310_4; rw [hvc_] at ul310_4; have HL310_4 := aS (show Kd.V k27 27 _ w.heap.size _ _ ((rd_T27 t302 0).f4) from Kd.V_mk ul310_4 ge310_4); clear hva_ hvn_ hvc_ ge310_4 ul310_4; clear hcc310 hce310; have qi310 : (0 < t302.length) = True := eq_true (by omega); (try rw [show ((0 : Int)).toNat = 0 from rfl] at hx310_0); (try rw [show 0 * 5 = 0 from rfl] at hx310_0); (try rw [Addr.add_zero'] at hx310_0); (try rw [show ((0 : Int)).toNat = 0 from rfl] at hx310_1); (try rw [show 0 * 5 = 0 from rfl] at hx310_1); (try rw [Addr.add_zero'] at hx310_1); (try rw [show ((0 : Int)).toNat = 0 from rfl] at hx310_2); (try rw [show 0 * 5 = 0 from rfl] at hx310_2); (try rw [Addr.add_zero'] at hx310_2); (try rw [show ((0 : Int)).toNat = 0 from rfl] at hx310_3); (try rw [show 0 * 5 = 0 from rfl] at hx310_3); (try rw [Addr.add_zero'] at hx310_3); (try rw [show ((0 : Int)).toNat = 0 from rfl] at hx310_4); (try rw [show 0 * 5 = 0 from rfl] at hx310_4); (try rw [Addr.add_zero'] at hx310_4); have HR310_3 := aS hi310_3; have HC310_3 := aS hl310_3; clear hi310_3 hl310_3; have HR310_4 := aS hi310_4; have HC310_4 := aS hl310_4; clear hi310_4 hl310_4; replace p310 := eq_true p310; replace q310 := eq_true q310; have p311 : 0 ≤ (1 : Int) := (by omega); have q311 : 1 < (t302.length : Int) := of_decide_eq_true ba; obtain ⟨ad311, A311_3, c311_3, A311_4, c311_4, e311, hx311_0, hx311_1, hx311_2, hx311_3, hx311_4, hl311_3, hi311_3, hl311_4, hi311_4⟩ := at_T27 (Kd.N_reads' HO304.out).2.2 1 p311 q311; obtain rfl : ad310 = ad311 := (by injection e311); obtain ⟨ce311, hce311, hMe311, hcc311⟩ := Kd.N_get HO304.out z27 1 p311 (by first | exact q311 | exact of_decide_eq_true ba | (have e_ := (Kd.N_reads' HO304.out).1; omega)); obtain ⟨ua311_3, uc311_3, ua311_4, uc311_4, rfl, ul311_3, ge311_3, ul311_4, ge311_4⟩ := k27_openF hMe311; have hv311_3 := hcc311 3 _ rfl; rw [add_field _ _ 3 (by omega)] at hv311_3; replace hv311_3 := Option.some.inj (hv311_3.symm.trans hx311_3); injection hv311_3 with hva_ hvn_ hvc_; rw [hva_] at ge311_3; rw [hvc_] at ul311_3; have HL311_3 := aS (show Kd.V k76 76 _ w.heap.size _ _ ((rd_T27 t302 1).f3) from Kd.V_mk ul311_3 ge311_3); clear hva_ hvn_ hvc_ ge311_3 ul311_3; have hv311_4 := hcc311 4 _ rfl; rw [add_field _ _ 4 (by omega)] at hv311_4; replace hv311_4 := Option.some.inj (hv311_4.symm.trans hx311_4); injection hv311_4 with hva_ hvn_ hvc_; rw [hva_] at ge311_4; rw [hvc_] at ul311_4; have HL311_4 := aS (show Kd.V k27 27 _ w.heap.size _ _ ((rd_T27 t302 1).f4) from Kd.V_mk ul311_4 ge311_4); clear hva_ hvn_ hvc_ ge311_4 ul311_4; clear hcc311 hce311; (try simp only [show (1 : Int).toNat = 1 from rfl, Nat.reduceMul, Nat.reduceEqDiff, Go.Addr.add, ↓reduceIte] at hx311_0); (try simp only [show (1 : Int).toNat = 1 from rfl, Nat.reduceMul, Nat.reduceEqDiff, Go.Addr.add, ↓reduceIte] at hx311_1); (try simp only [show (1 : Int).toNat = 1 from rfl, Nat.reduceMul, Nat.reduceEqDiff, Go.Addr.add, ↓reduceIte] at hx311_2); (try simp only [show (1 : Int).toNat = 1 from rfl, Nat.reduceMul, Nat.reduceEqDiff, Go.Addr.add, ↓reduceIte] at hx311_3); (try simp only [show (1 : Int).toNat = 1 from rfl, Nat.reduceMul, Nat.reduceEqDiff, Go.Addr.add, ↓reduceIte] at hx311_4); have qi311 : (1 < t302.length) = True := eq_true (by omega); (try rw [show ((1 : Int)).toNat = 1 from rfl] at hx311_0); (try rw [show 1 * 5 = 5 from rfl] at hx311_0); (try rw [show ((1 : Int)).toNat = 1 from rfl] at hx311_1); (try rw [show 1 * 5 = 5 from rfl] at hx311_1); (try rw [show ((1 : Int)).toNat = 1 from rfl] at hx311_2); (try rw [show 1 * 5 = 5 from rfl] at hx311_2); (try rw [show ((1 : Int)).toNat = 1 from rfl] at hx311_3); (try rw [show 1 * 5 = 5 from rfl] at hx311_3); (try rw [show ((1 : Int)).toNat = 1 from rfl] at hx311_4); (try rw [show 1 * 5 = 5 from rfl] at hx311_4); have HR311_3 := aS hi311_3; have HC311_3 := aS hl311_3; clear hi311_3 hl311_3; have HR311_4 := aS hi311_4; have HC311_4 := aS hl311_4; clear hi311_4 hl311_4; replace p311 := eq_true p311; replace q311 := eq_true q311; obtain ⟨hcz56_0, hcz56_1, hcz56_2, hcz56_3, hcz56_4⟩ := cl5 BK286; obtain ⟨hfz56_0, hfz56_1, hfz56_2, hfz56_3, hfz56_4⟩ := fz5 BK286) | (go_at_call 85; (with_reducible refine (term_Equal.calls k t277 t278 t279 _ _ t280 _ _ t283 t277 t278 t279 _ _ t280 _ _ t283 true _ ?side1 ?side2 ?side3 ?side4 ?side5 ?side6 ?side7 ?side8 A19.out).mono ?_); (case side1 => exact cr (Kd.N_reads' HO282.out).2.2); (case side2 => exact (Kd.N_reads' HO282.out).2.1); (case side3 => exact cr (Kd.N_reads' HO285.out).2.2); (case side4 => exact (Kd.N_reads' HO285.out).2.1); (case side5 => exact cr (Kd.N_reads' HO282.out).2.2); (case side6 => exact (Kd.N_reads' HO282.out).2.1); (case side7 => exact cr (Kd.N_reads' HO285.out).2.2); (case side8 => exact (Kd.N_reads' HO285.out).2.1); rintro e w57 ⟨rfl, hb⟩; replace HO264 := aS (Kd.N_below (kn HO264.out) hb); replace HO267 := aS (Kd.N_below (kn HO267.out) hb); replace HO273 := aS (Kd.N_below (kn HO273.out) hb); replace HO276 := aS (Kd.N_below (kn HO276.out) hb); replace HO282 := aS (Kd.N_below (kn HO282.out) hb); replace HO285 := aS (Kd.N_below (kn HO285.out) hb); replace HO292 := aS (Kd.N_below (kn HO292.out) hb); replace HO295 := aS (Kd.N_below (kn HO295.out) hb); replace HO301 := aS (Kd.N_below (kn HO301.out) hb); replace HO304 := aS (Kd.N_below (kn HO304.out) hb); replace HL310_3 := aS (Kd.V_below (by (with_reducible repeat (first | apply Kd.V_alloc | apply Kd.V_drewN | apply Kd.V_drew)); exact HL310_3.out) hb); replace HL310_4 := aS (Kd.V_below (by (with_reducible repeat (first | apply Kd.V_alloc | apply Kd.V_drewN | apply Kd.V_drew)); exact HL310_4.out) hb); replace HL311_3 := aS (Kd.V_below (by (with_reducible repeat (first | apply Kd.V_alloc | apply Kd.V_drewN | apply Kd.V_drew)); exact HL311_3.out) hb); replace HL311_4 := aS (Kd.V_below (by (with_reducible repeat (first | apply Kd.V_alloc | apply Kd.V_drewN | apply Kd.V_drew)); exact HL311_4.out) hb); replace BK286 := Bk BK286 hb; replace BK305 := Bk BK305 hb; replace HR310_3 := aS (Kd.C_below (by repeat (first | (with_reducible exact HR310_3.out) | (with_reducible refine Kd.C_alloc ?_ _) | (with_reducible refine Kd.C_drewN ?_ _) | (with_reducible refine Kd.C_drew ?_) | exact HR310_3.out)) hb); replace HR310_4 := aS (Kd.C_below (by repeat (first | (with_reducible exact HR310_4.out) | (with_reducible refine Kd.C_alloc ?_ _) | (with_reducible refine Kd.C_drewN ?_ _) | (with_reducible refine Kd.C_drew ?_) | exact HR310_4.out)) hb); replace HR311_3 := aS (Kd.C_below (by repeat (first | (with_reducible exact HR311_3.out) | (with_reducible refine Kd.C_alloc ?_ _) | (with_reducible refine Kd.C_drewN ?_ _) | (with_reducible refine Kd.C_drew ?_) | exact HR311_3.out)) hb); replace HR311_4 := aS (Kd.C_below (by repeat (first | (with_reducible exact HR311_4.out) | (with_reducible refine Kd.C_alloc ?_ _) | (with_reducible refine Kd.C_drewN ?_ _) | (with_reducible refine Kd.C_drew ?_) | exact HR311_4.out)) hb); replace HB := Hs HB hb; (try clear hb); (try clear hb2); (try clear hk); (try clear hi)))
 go_ret
 exact ⟨by first | rfl | (simp [errW_none, errW_some] <;> rfl) | (simp [*, errW_none, errW_some] <;> rfl), hbk HB⟩
theorem begunP_true : begunP.f 30 = some true := by decide +kernel
def touchstonelaw5_begun.f (k : Nat) : Option Bool := some true
theorem touchstonelaw5_begun.calls (k : Nat) (r : Bool) (w : World) (h : touchstonelaw5_begun.f k = some r) :
  Calls Try.prog 38 #[] w fun e w' => e = .returned (.bool r) ∧ Below w.heap.size w w' := by
 obtain rfl := Option.some.inj h
 exact begunP.calls 30 w begunP_true
end Go.Proofs.Ytpejhapgffcngaa.QK

