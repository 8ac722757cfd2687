-- By this session's own printing program: a text of this claim's own.
import Derived.Test.YtpejhapgffcngaaQVBegun
import Derived.Test.YtpejhapgffcngaaQVx0
import Derived.Test.YtpejhapgffcngaaQVx1
namespace Go.Proofs.Ytpejhapgffcngaa.QV
open Go.RowKit Go.Proofs.YtpejhapgffcngaaW.PrintWords Go.Proofs.YtpejhapgffcngaaW.PrintLast Go.Proofs.YtpejhapgffcngaaW.PrintMore
attribute [local go_sem] max2_int min2_int max_two min_two max_three min_three max_four min_four   -- for this text's walks alone
set_option linter.unusedVariables false
set_option linter.unusedSimpArgs false

/-! ### touchstonelaw17_TeleVars: function 3 -/
def touchstonelaw17_TeleVars.l0 : Nat → Int → Int → List (S27) → Int → Option (Bool)
  | 0, _, _, _, _ => none
  | k + 1, x0, x1, x5, x6 => if x6 < (x5.length : Int) then (if 0 ≤ x6 then (if ((rd_T27 x5 x6).f0) = 0 then (if ((rd_T27 x5 x6).f1) = (wrap64 ((wrap64 ((wrap64 ((wrap64 (x1)) + (wrap64 (x0)))) - 1)) - x6)) then (touchstonelaw17_TeleVars.l0 k x0 x1 x5 (wrap64 (x6 + 1))) else (none)) else (none)) else (none)) else (some ((x5.length : Int) == (wrap64 (x0))))
def touchstonelaw17_TeleVars.f (k : Nat) (a0 : Int) (a1 : Int) : Option (Bool) := (touchstonelaw17_begun.f k).bind fun t479 => (if t479 = true then ((tele_Vars.f k (wrap64 (a0)) (wrap64 (a1))).bind fun t480 => (touchstonelaw17_TeleVars.l0 k a0 a1 t480 0)) else (none))
theorem touchstonelaw17_TeleVars.mono_l : ∀ k, (∀ y0 y1 y2 y3, LeO (touchstonelaw17_TeleVars.l0 k y0 y1 y2 y3) (touchstonelaw17_TeleVars.l0 (k + 1) y0 y1 y2 y3))
  | 0 => fun _ _ _ _ r h => by simp [touchstonelaw17_TeleVars.l0] at h
  | k + 1 => by
    have ih0 := touchstonelaw17_TeleVars.mono_l k
    · intro y0 y1 y2 y3
      unfold touchstonelaw17_TeleVars.l0
      repeat' first
      | (with_reducible exact ih0 _ _ _ _)
      | (with_reducible exact tele_Vars.mono _ _ _)
      | (with_reducible exact touchstonelaw17_begun.mono _)
      | (with_reducible exact LeO.refl _)
      | (with_reducible exact LeO.none _)
      | (with_reducible refine LeO.ite ?_ ?_)
      | (with_reducible refine LeO.bind ?_ (fun _ => ?_))
      | exact ih0 _ _ _ _
      | exact tele_Vars.mono _ _ _
      | exact touchstonelaw17_begun.mono _
      | exact LeO.none _
      | refine LeO.ite ?_ ?_
      | refine LeO.bind ?_ (fun _ => ?_)
theorem touchstonelaw17_TeleVars.mono : ∀ a0 a1 k, LeO (touchstonelaw17_TeleVars.f k a0 a1) (touchstonelaw17_TeleVars.f (k + 1) a0 a1) := by
  intro a0 a1 k
  have ih0 := touchstonelaw17_TeleVars.mono_l k
  unfold touchstonelaw17_TeleVars.f
  repeat' first
      | (with_reducible exact ih0 _ _ _ _)
      | (with_reducible exact tele_Vars.mono _ _ _)
      | (with_reducible exact touchstonelaw17_begun.mono _)
      | (with_reducible exact LeO.refl _)
      | (with_reducible exact LeO.none _)
      | (with_reducible refine LeO.ite ?_ ?_)
      | (with_reducible refine LeO.bind ?_ (fun _ => ?_))
      | exact ih0 _ _ _ _
      | exact tele_Vars.mono _ _ _
      | exact touchstonelaw17_begun.mono _
      | exact LeO.none _
      | refine LeO.ite ?_ ?_
      | refine LeO.bind ?_ (fun _ => ?_)
set_option maxHeartbeats 8000000 in
set_option maxRecDepth 100000 in
theorem touchstonelaw17_TeleVars.calls (k : Nat) (a0 : Int) (a1 : Int) (r : Bool) (w : World) (h : touchstonelaw17_TeleVars.f k a0 a1 = some r) :
    Calls Try.prog 3 #[.int .u8 a0, .int .u8 a1] w fun e w' => e = .returned (.bool r) ∧ Below w.heap.size w w' := by
  have HB := Aside0.mk (Below.refl w.heap.size w)
  have H : ((touchstonelaw17_begun.f k).bind fun t479 => (if t479 = true then ((tele_Vars.f k (wrap64 (a0)) (wrap64 (a1))).bind fun t480 => (touchstonelaw17_TeleVars.l0 k a0 a1 t480 0)) else (none))) = some r := h
  clear h
  replace H := Option.bind_eq_some_iff.mp H
  obtain ⟨t479, A30, H⟩ := H
  replace H : (if t479 = true then ((tele_Vars.f k (wrap64 (a0)) (wrap64 (a1))).bind fun t480 => (touchstonelaw17_TeleVars.l0 k a0 a1 t480 0)) else (none)) = some r := H
  have A3 := Aside0.mk A30
  clear A30
  by_cases c4 : t479 = true
  · subst c4
    have H1 : ((tele_Vars.f k (wrap64 (a0)) (wrap64 (a1))).bind fun t480 => (touchstonelaw17_TeleVars.l0 k a0 a1 t480 0)) = some r := by rw [if_pos rfl] at H; exact H
    clear H
    have H := H1
    clear H1
    replace H := Option.bind_eq_some_iff.mp H
    obtain ⟨t480, A50, H⟩ := H
    replace H : (touchstonelaw17_TeleVars.l0 k a0 a1 t480 0) = some r := H
    have A5 := Aside0.mk A50
    clear A50
    have H' := Aside0.mk H
    clear H
    go_enter Try.func3, Try.ntmps3
    go_wp2_with (first | ((with_reducible refine gate_callee (f := 15) rfl ?_); refine goesL_ (some 7) rfl rfl Try.func15 (by kernel_rfl) rfl #[] rfl (by (try simp only [List.map_toArray, List.map_cons, List.map_nil]); first | done | rfl | (simp only [List.length_drop, List.length_take]; rfl)) ?_; (with_reducible refine (touchstonelaw17_begun.calls k  true _ A3.out).mono ?_); rintro e w6 ⟨rfl, hb⟩; refine ⟨_, rfl, ?_⟩; have n0_ := Aside0.mk (below_step (by repeat (first | (with_reducible first | exact HB.out | apply below_alloc | apply pw_below_drewN | apply below_drew1) | exact HB.out)) hb); clear HB; have HB := n0_; clear n0_; (try clear hb); (try clear hb2); (try clear hk); (try clear hi)) | ((with_reducible refine gate_callee (f := 16) rfl ?_); refine goesL_ (some 13) rfl rfl Try.func16 (by kernel_rfl) rfl #[.int .i64 (wrap64 (a0)), .int .i64 (wrap64 (a1))] rfl (by (try simp only [List.map_toArray, List.map_cons, List.map_nil]); first | done | rfl | (simp only [List.length_drop, List.length_take]; rfl)) ?_; (with_reducible refine (tele_Vars.calls k (wrap64 (a0)) (wrap64 (a1)) t480 _ A5.out).mono ?_); rintro e w7 ⟨v481, rfl, ho0, hb⟩; refine ⟨_, rfl, ?_⟩; have n0_ := Aside0.mk (Kd.R_lower ho0 (below_size (by repeat (first | (with_reducible first | exact HB.out | apply below_alloc | apply pw_below_drewN | apply below_drew1) | exact HB.out)))); have n1_ := Aside0.mk (below_step (by repeat (first | (with_reducible first | exact HB.out | apply below_alloc | apply pw_below_drewN | apply below_drew1) | exact HB.out)) hb); clear HB; have HO482 := n0_; have HB := n1_; clear n0_ n1_; (try clear hb); (try clear hb2); (try clear hk); (try clear hi); (try clear ho0)))
    go_loopg [6] k (fun kq v6 w' => ∃ (x6_1 : Int), v6 = .int .i64 x6_1 ∧ Aside0 (touchstonelaw17_TeleVars.l0 kq a0 a1 t480 x6_1 = some r) ∧ Aside0 (kq ≤ k) ∧ Aside0 (Kd.R k27 27 w' w.heap.size (fun _ => True) v481 t480) ∧ Aside0 (Below w.heap.size w w'))
    case atStart => exact ⟨(0), (by first | rfl | (simp; done) | (simp [*]; done)), H', ⟨Nat.le_refl _⟩, ⟨by (with_reducible repeat (first | apply Kd.R_alloc | apply Kd.R_drewN | apply Kd.R_drew)); exact HO482.out⟩, ⟨by repeat (first | (with_reducible first | exact HB.out | apply below_alloc | apply pw_below_drewN | apply below_drew1) | exact HB.out)⟩⟩
    case round =>
      clear H'
      try clear c1
      try clear p2
      try clear c3
      try clear c4
      try clear p6
      obtain ⟨x6_1, rfl, HA, HK1, HO_5, HB⟩ := hrel
      cases gk with
      | zero => exact absurd HA.out (by simp [touchstonelaw17_TeleVars.l0])
      | succ k1 =>
        have H := HA.out
        clear HA
        simp only [touchstonelaw17_TeleVars.l0] at H
        by_cases c8 : x6_1 < (t480.length : Int)
        · rw [if_pos c8] at H
          have c8b0 : decide (x6_1 < (t480.length : Int)) = true := decide_eq_true c8
          clear c8
          by_cases c9 : 0 ≤ x6_1
          · rw [if_pos c9] at H
            have c9b0 : decide (0 ≤ x6_1) = true := decide_eq_true c9
            clear c9
            by_cases c10 : ((rd_T27 t480 x6_1).f0) = 0
            · rw [if_pos c10] at H
              have c10b0 : (((rd_T27 t480 x6_1).f0) == 0) = true := beq_iff_eq.mpr c10
              have c10b1 : (((rd_T27 t480 x6_1).f0) != 0) = false := bne_eq_false_iff_eq.mpr c10
              clear c10
              by_cases c11 : ((rd_T27 t480 x6_1).f1) = (wrap64 ((wrap64 ((wrap64 ((wrap64 (a1)) + (wrap64 (a0)))) - 1)) - x6_1))
              · rw [if_pos c11] at H
                have c11b0 : (((rd_T27 t480 x6_1).f1) == (wrap64 ((wrap64 ((wrap64 ((wrap64 (a1)) + (wrap64 (a0)))) - 1)) - x6_1))) = true := beq_iff_eq.mpr c11
                have c11b1 : (((rd_T27 t480 x6_1).f1) != (wrap64 ((wrap64 ((wrap64 ((wrap64 (a1)) + (wrap64 (a0)))) - 1)) - x6_1))) = false := bne_eq_false_iff_eq.mpr c11
                clear c11
                have H' := Aside0.mk H
                clear H
                obtain ⟨Ao12, co12, eo12⟩ := Kd.R_slice HO_5.out
                subst eo12
                have p483 : 0 ≤ (x6_1 : Int) := of_decide_eq_true (by first | (with_reducible assumption) | assumption)
                have q483 : x6_1 < (t480.length : Int) := of_decide_eq_true (by first | (with_reducible assumption) | assumption)
                obtain ⟨ad483, A483_3, c483_3, A483_4, c483_4, e483, hx483_0, hx483_1, hx483_2, hx483_3, hx483_4, hl483_3, hi483_3, hl483_4, hi483_4⟩ := at_T27 (Kd.R_reads' HO_5.out).2.2 x6_1 p483 q483
                cases e483
                obtain ⟨ce483, hce483, hMe483, hcc483⟩ := Kd.R_get HO_5.out z27 x6_1 p483 (by first | exact q483 | exact of_decide_eq_true (by first | (with_reducible assumption) | assumption) | (have e_ := (Kd.R_reads' HO_5.out).1; omega))
                obtain ⟨ve483_3, ve483_4, rfl, ge483_3, ge483_4⟩ := k27_openM hMe483
                have hv483_3 := hcc483 3 _ rfl
                rw [add_field _ _ 3 (by omega)] at hv483_3
                replace hv483_3 := Option.some.inj (hv483_3.symm.trans hx483_3)
                rw [hv483_3] at ge483_3
                have HL483_3 := Aside0.mk (show Kd.R k76 76 _ _ _ _ ((rd_T27 t480 x6_1).f3) from ge483_3)
                clear hv483_3 ge483_3
                have hv483_4 := hcc483 4 _ rfl
                rw [add_field _ _ 4 (by omega)] at hv483_4
                replace hv483_4 := Option.some.inj (hv483_4.symm.trans hx483_4)
                rw [hv483_4] at ge483_4
                have HL483_4 := Aside0.mk (show Kd.R k27 27 _ _ _ _ ((rd_T27 t480 x6_1).f4) from ge483_4)
                clear hv483_4 ge483_4
                clear hcc483 hce483
                have HR483_3 := Aside0.mk hi483_3
                have HC483_3 := Aside0.mk hl483_3
                clear hi483_3 hl483_3
                have HR483_4 := Aside0.mk hi483_4
                have HC483_4 := Aside0.mk hl483_4
                clear hi483_4 hl483_4
                replace p483 := eq_true p483
                replace q483 := eq_true q483
                have p484 : 0 ≤ (x6_1 : Int) := of_decide_eq_true (by first | (with_reducible assumption) | assumption)
                have q484 : x6_1 < (t480.length : Int) := of_decide_eq_true (by first | (with_reducible assumption) | assumption)
                obtain ⟨ad484, A484_3, c484_3, A484_4, c484_4, e484, hx484_0, hx484_1, hx484_2, hx484_3, hx484_4, hl484_3, hi484_3, hl484_4, hi484_4⟩ := at_T27 (Kd.R_reads' HO_5.out).2.2 x6_1 p484 q484
                obtain rfl : ad483 = ad484 := (by injection e484)
                obtain ⟨ce484, hce484, hMe484, hcc484⟩ := Kd.R_get HO_5.out z27 x6_1 p484 (by first | exact q484 | exact of_decide_eq_true (by first | (with_reducible assumption) | assumption) | (have e_ := (Kd.R_reads' HO_5.out).1; omega))
                obtain ⟨ve484_3, ve484_4, rfl, ge484_3, ge484_4⟩ := k27_openM hMe484
                have hv484_3 := hcc484 3 _ rfl
                rw [add_field _ _ 3 (by omega)] at hv484_3
                replace hv484_3 := Option.some.inj (hv484_3.symm.trans hx484_3)
                rw [hv484_3] at ge484_3
                have HL484_3 := Aside0.mk (show Kd.R k76 76 _ _ _ _ ((rd_T27 t480 x6_1).f3) from ge484_3)
                clear hv484_3 ge484_3
                have hv484_4 := hcc484 4 _ rfl
                rw [add_field _ _ 4 (by omega)] at hv484_4
                replace hv484_4 := Option.some.inj (hv484_4.symm.trans hx484_4)
                rw [hv484_4] at ge484_4
                have HL484_4 := Aside0.mk (show Kd.R k27 27 _ _ _ _ ((rd_T27 t480 x6_1).f4) from ge484_4)
                clear hv484_4 ge484_4
                clear hcc484 hce484
                have HR484_3 := Aside0.mk hi484_3
                have HC484_3 := Aside0.mk hl484_3
                clear hi484_3 hl484_3
                have HR484_4 := Aside0.mk hi484_4
                have HC484_4 := Aside0.mk hl484_4
                clear hi484_4 hl484_4
                replace p484 := eq_true p484
                replace q484 := eq_true q484
                have ea_ := Option.some.inj (hx483_3.symm.trans hx484_3)
                injection ea_ with ea_ en_ ec_
                subst ea_
                subst ec_
                clear en_
                have ea_ := Option.some.inj (hx483_4.symm.trans hx484_4)
                injection ea_ with ea_ en_ ec_
                subst ea_
                subst ec_
                clear en_
                go_wp2
                go_roundg k1
                case measure => have := HK1.out; omega
                case rel => exact ⟨(wrap64 (x6_1 + 1)), (by first | rfl | (simp; done) | (simp [*]; done)), H', ⟨by have := HK1.out; omega⟩, ⟨by (with_reducible repeat (first | apply Kd.R_alloc | apply Kd.R_drewN | apply Kd.R_drew)); exact HO_5.out⟩, ⟨by repeat (first | (with_reducible first | exact HB.out | apply below_alloc | apply pw_below_drewN | apply below_drew1) | exact HB.out)⟩⟩
              · rw [if_neg c11] at H
                exact absurd H (by simp)
            · rw [if_neg c10] at H
              exact absurd H (by simp)
          · rw [if_neg c9] at H
            exact absurd H (by simp)
        · rw [if_neg c8] at H
          have c8b0 : decide (x6_1 < (t480.length : Int)) = false := decide_eq_false c8
          clear c8
          obtain rfl := Option.some.inj H
          obtain ⟨Ao13, co13, eo13⟩ := Kd.R_slice HO_5.out
          subst eo13
          go_wp2
          go_ret
          exact ⟨by first | rfl | (simp [errW_none, errW_some] <;> rfl) | (simp [*, errW_none, errW_some] <;> rfl), by repeat (first | (with_reducible first | exact HB.out | apply below_alloc | apply pw_below_drewN | apply below_drew1) | exact HB.out)⟩
  · replace c4 := Bool.eq_false_iff.mpr c4
    subst c4
    have H1 : (none) = some r := by rw [if_neg (show ¬ (false = true) by decide)] at H; exact H
    clear H
    have H := H1
    clear H1
    exact absurd H (by simp)

/-- THE ONE PURE STATEMENT of touchstonelaw17_TeleVars: yours. -/
def touchstonelaw17_TeleVars.Pure : Prop := ∀ (a0 : Int) (a1 : Int), (Lit.int .u8 a0).wf = true → (Lit.int .u8 a1).wf = true → ∃ k, touchstonelaw17_TeleVars.f k a0 a1 = some true
theorem touchstonelaw17_TeleVars.walk (P : touchstonelaw17_TeleVars.Pure) (a0 : Int) (a1 : Int) (w : World) (w0 : (Lit.int .u8 a0).wf = true) (w1 : (Lit.int .u8 a1).wf = true) :
    Calls Try.prog 3 #[.int .u8 a0, .int .u8 a1] w fun e w' => e = .returned (.bool true) ∧ Below w.heap.size w w' := by
  obtain ⟨k, h⟩ := P a0 a1 w0 w1
  refine (touchstonelaw17_TeleVars.calls k a0 a1 true w h).mono ?_
  rintro e w' ⟨rfl, hd⟩
  exact ⟨rfl, hd⟩

end Go.Proofs.Ytpejhapgffcngaa.QV
