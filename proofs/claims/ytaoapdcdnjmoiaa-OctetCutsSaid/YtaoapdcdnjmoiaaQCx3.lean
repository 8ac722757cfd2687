-- By this session's own printing program: a text of this claim's own.
import Derived.Test.YtaoapdcdnjmoiaaQCx0
import Derived.Test.YtaoapdcdnjmoiaaQCx1
import Derived.Test.YtaoapdcdnjmoiaaQCx2
namespace Go.Proofs.Ytaoapdcdnjmoiaa.QC
open Go.RowKit Go.Proofs.YtaoapdcdnjmoiaaW.PrintWords Go.Proofs.YtaoapdcdnjmoiaaW.PrintLast Go.Proofs.YtaoapdcdnjmoiaaW.PrintMore
attribute [local go_sem] max2_int min2_int max_two min_two max_three min_three max_four min_four   -- for this text's walks alone
set_option linter.unusedVariables false
set_option linter.unusedSimpArgs false

/-! ### touchstonelaw1_OctetCuts: function 9 -/
def touchstonelaw1_OctetCuts.f (k : Nat) (a0 : Int) (l1 : List Int) (a2 : Int) : Option (Bool) := (touchstonelaw1_begun.f k).bind fun t185 => (if t185 = true then (if (l1.length : Int) > 300 then (some true) else ((octet_Var.f k ([] : List Int) a0).bind fun t186 => ((octet_Text.f k ([] : List Int) l1).bind fun t189 => (if (t186.length : Int) = 0 then (none) else (if 0 ≤ (Int.tmod (wrap64 (a2)) (t186.length : Int)) then (if (Int.tmod (wrap64 (a2)) (t186.length : Int)) ≤ (t186.length : Int) then ((octet_TakeVar.f k (t186.take ((Int.tmod (wrap64 (a2)) (t186.length : Int)) : Int).toNat)).bind fun bt196 => (if (t189.length : Int) = 0 then (none) else (if 0 ≤ (Int.tmod (wrap64 (a2)) (t189.length : Int)) then (if (Int.tmod (wrap64 (a2)) (t189.length : Int)) ≤ (t189.length : Int) then ((octet_TakeText.f k (t189.take ((Int.tmod (wrap64 (a2)) (t189.length : Int)) : Int).toNat) 300).bind fun bt203 => ((octet_Eight.f k ([] : List Int) a0).bind fun t208 => (if 0 ≤ (Int.tmod a2 8) then (if (Int.tmod a2 8) ≤ (t208.length : Int) then ((octet_TakeEight.f k (t208.take ((Int.tmod a2 8) : Int).toNat)).bind fun bt215 => (if bt196.2.2 = 2 then (if bt196.2.1 = 0 then (if bt203.2.2 = 2 then (if bt203.2.1 = 0 then (if (bt203.1.length : Int) = 0 then (if bt215.2 = 2 then ((touchstoneref1_Text.f k ([] : List Int) l1).bind fun t217 => (some ((strOfNums t217).toList == (strOfNums t189).toList))) else (none)) else (none)) else (none)) else (none)) else (none)) else (none))) else (none)) else (none)))) else (none)) else (none)))) else (none)) else (none)))))) else (none))
theorem touchstonelaw1_OctetCuts.mono : ∀ a0 a1 a2 k, LeO (touchstonelaw1_OctetCuts.f k a0 a1 a2) (touchstonelaw1_OctetCuts.f (k + 1) a0 a1 a2) := by
  intro a0 a1 a2 k
  unfold touchstonelaw1_OctetCuts.f
  repeat' first
      | (with_reducible exact octet_Eight.mono _ _ _)
      | (with_reducible exact octet_TakeEight.mono _ _)
      | (with_reducible exact octet_TakeText.mono _ _ _)
      | (with_reducible exact octet_TakeVar.mono _ _)
      | (with_reducible exact octet_Text.mono _ _ _)
      | (with_reducible exact octet_Var.mono _ _ _)
      | (with_reducible exact touchstonelaw1_begun.mono _)
      | (with_reducible exact touchstoneref1_Text.mono _ _ _)
      | (with_reducible exact LeO.refl _)
      | (with_reducible exact LeO.none _)
      | (with_reducible refine LeO.ite ?_ ?_)
      | (with_reducible refine LeO.bind ?_ (fun _ => ?_))
      | exact octet_Eight.mono _ _ _
      | exact octet_TakeEight.mono _ _
      | exact octet_TakeText.mono _ _ _
      | exact octet_TakeVar.mono _ _
      | exact octet_Text.mono _ _ _
      | exact octet_Var.mono _ _ _
      | exact touchstonelaw1_begun.mono _
      | exact touchstoneref1_Text.mono _ _ _
      | exact LeO.none _
      | refine LeO.ite ?_ ?_
      | refine LeO.bind ?_ (fun _ => ?_)
def touchstonelaw1_OctetCuts.T9 : Bool × List (List Nat × List Nat) := (true, [([], []), ([0], [0]), ([1], [1]), ([2], [2]), ([3, 2], [2, 3]), ([2, 4], [2, 4]), ([5, 2], [5]), ([6], [6]), ([7, 6], [6, 7]), ([6, 8], [6, 8]), ([9, 6], [9]), ([10], [10]), ([11, 10], [10, 11]), ([10, 12], [10, 12]), ([13, 10], [13]), ([14], [14]), ([15, 14], [14, 15]), ([16, 14], [14, 16]), ([14, 17], [14, 17]), ([18, 14], [18]), ([19], [19]), ([20, 19], [19, 20]), ([19, 21], [19, 21]), ([22, 19], [22]), ([23], [23]), ([24, 23, 23], [23, 24]), ([25, 23], [23, 25]), ([23], [23]), ([27, 23], [23, 27]), ([26, 28, 23], [23, 26, 28]), ([23, 29], [23, 29]), ([30, 25, 0, 1, 2, 3, 4, 5, 6, 7, 8, 9, 10, 11, 12, 13, 14, 15, 16, 17, 18, 19, 20, 21, 22, 23, 24, 25, 26, 27, 28, 29, 30], [30])])
def touchstonelaw1_OctetCuts.B9 : List Nat := [0, 1, 3, 7, 15, 31, 63, 127, 255, 511, 1023, 2047, 4095, 8191, 16383, 32767, 65535, 131071, 262143, 524287, 1048575, 2097151, 4194303, 8388607, 16777215, 33554431, 67108863, 16777215, 150994943, 536870911, 1073741823, 2147483647]
theorem touchstonelaw1_OctetCuts.tab9 : rtab .any (opsOf Try.f9 9) = touchstonelaw1_OctetCuts.T9 := by kernel_rfl
theorem touchstonelaw1_OctetCuts.bits9 : waitsOk touchstonelaw1_OctetCuts.T9.2 touchstonelaw1_OctetCuts.B9 = true := by kernel_rfl
set_option maxHeartbeats 8000000 in
set_option maxRecDepth 100000 in
theorem touchstonelaw1_OctetCuts.calls (k : Nat) (a0 : Int) (A1 : Option Addr) (c1 : Nat) (l1 : List Int) (a2 : Int) (r : Bool) (w : World) (hr1 : Kd.C (Kd.int .u8) w A1 l1.length l1) (hc1 : l1.length ≤ c1) (h : touchstonelaw1_OctetCuts.f k a0 l1 a2 = some r) :
    Calls Try.prog 9 #[.int .u64 a0, .slice A1 l1.length c1, .int .u16 a2] w fun e w' => e = .returned (.bool r) ∧ Below w.heap.size w w' := by
  have HR1 := Aside0.mk hr1
  have HC1 := Aside0.mk hc1
  clear hr1 hc1
  have HB := Aside0.mk (Below.refl w.heap.size w)
  have H : ((touchstonelaw1_begun.f k).bind fun t185 => (if t185 = true then (if (l1.length : Int) > 300 then (some true) else ((octet_Var.f k ([] : List Int) a0).bind fun t186 => ((octet_Text.f k ([] : List Int) l1).bind fun t189 => (if (t186.length : Int) = 0 then (none) else (if 0 ≤ (Int.tmod (wrap64 (a2)) (t186.length : Int)) then (if (Int.tmod (wrap64 (a2)) (t186.length : Int)) ≤ (t186.length : Int) then ((octet_TakeVar.f k (t186.take ((Int.tmod (wrap64 (a2)) (t186.length : Int)) : Int).toNat)).bind fun bt196 => (if (t189.length : Int) = 0 then (none) else (if 0 ≤ (Int.tmod (wrap64 (a2)) (t189.length : Int)) then (if (Int.tmod (wrap64 (a2)) (t189.length : Int)) ≤ (t189.length : Int) then ((octet_TakeText.f k (t189.take ((Int.tmod (wrap64 (a2)) (t189.length : Int)) : Int).toNat) 300).bind fun bt203 => ((octet_Eight.f k ([] : List Int) a0).bind fun t208 => (if 0 ≤ (Int.tmod a2 8) then (if (Int.tmod a2 8) ≤ (t208.length : Int) then ((octet_TakeEight.f k (t208.take ((Int.tmod a2 8) : Int).toNat)).bind fun bt215 => (if bt196.2.2 = 2 then (if bt196.2.1 = 0 then (if bt203.2.2 = 2 then (if bt203.2.1 = 0 then (if (bt203.1.length : Int) = 0 then (if bt215.2 = 2 then ((touchstoneref1_Text.f k ([] : List Int) l1).bind fun t217 => (some ((strOfNums t217).toList == (strOfNums t189).toList))) else (none)) else (none)) else (none)) else (none)) else (none)) else (none))) else (none)) else (none)))) else (none)) else (none)))) else (none)) else (none)))))) else (none))) = some r := h
  clear h
  replace H := Option.bind_eq_some_iff.mp H
  obtain ⟨t185, A40, H⟩ := H
  replace H : (if t185 = true then (if (l1.length : Int) > 300 then (some true) else ((octet_Var.f k ([] : List Int) a0).bind fun t186 => ((octet_Text.f k ([] : List Int) l1).bind fun t189 => (if (t186.length : Int) = 0 then (none) else (if 0 ≤ (Int.tmod (wrap64 (a2)) (t186.length : Int)) then (if (Int.tmod (wrap64 (a2)) (t186.length : Int)) ≤ (t186.length : Int) then ((octet_TakeVar.f k (t186.take ((Int.tmod (wrap64 (a2)) (t186.length : Int)) : Int).toNat)).bind fun bt196 => (if (t189.length : Int) = 0 then (none) else (if 0 ≤ (Int.tmod (wrap64 (a2)) (t189.length : Int)) then (if (Int.tmod (wrap64 (a2)) (t189.length : Int)) ≤ (t189.length : Int) then ((octet_TakeText.f k (t189.take ((Int.tmod (wrap64 (a2)) (t189.length : Int)) : Int).toNat) 300).bind fun bt203 => ((octet_Eight.f k ([] : List Int) a0).bind fun t208 => (if 0 ≤ (Int.tmod a2 8) then (if (Int.tmod a2 8) ≤ (t208.length : Int) then ((octet_TakeEight.f k (t208.take ((Int.tmod a2 8) : Int).toNat)).bind fun bt215 => (if bt196.2.2 = 2 then (if bt196.2.1 = 0 then (if bt203.2.2 = 2 then (if bt203.2.1 = 0 then (if (bt203.1.length : Int) = 0 then (if bt215.2 = 2 then ((touchstoneref1_Text.f k ([] : List Int) l1).bind fun t217 => (some ((strOfNums t217).toList == (strOfNums t189).toList))) else (none)) else (none)) else (none)) else (none)) else (none)) else (none))) else (none)) else (none)))) else (none)) else (none)))) else (none)) else (none)))))) else (none)) = some r := H
  have A4 := Aside0.mk A40
  clear A40
  by_cases c5 : t185 = true
  · subst c5
    have H1 : (if (l1.length : Int) > 300 then (some true) else ((octet_Var.f k ([] : List Int) a0).bind fun t186 => ((octet_Text.f k ([] : List Int) l1).bind fun t189 => (if (t186.length : Int) = 0 then (none) else (if 0 ≤ (Int.tmod (wrap64 (a2)) (t186.length : Int)) then (if (Int.tmod (wrap64 (a2)) (t186.length : Int)) ≤ (t186.length : Int) then ((octet_TakeVar.f k (t186.take ((Int.tmod (wrap64 (a2)) (t186.length : Int)) : Int).toNat)).bind fun bt196 => (if (t189.length : Int) = 0 then (none) else (if 0 ≤ (Int.tmod (wrap64 (a2)) (t189.length : Int)) then (if (Int.tmod (wrap64 (a2)) (t189.length : Int)) ≤ (t189.length : Int) then ((octet_TakeText.f k (t189.take ((Int.tmod (wrap64 (a2)) (t189.length : Int)) : Int).toNat) 300).bind fun bt203 => ((octet_Eight.f k ([] : List Int) a0).bind fun t208 => (if 0 ≤ (Int.tmod a2 8) then (if (Int.tmod a2 8) ≤ (t208.length : Int) then ((octet_TakeEight.f k (t208.take ((Int.tmod a2 8) : Int).toNat)).bind fun bt215 => (if bt196.2.2 = 2 then (if bt196.2.1 = 0 then (if bt203.2.2 = 2 then (if bt203.2.1 = 0 then (if (bt203.1.length : Int) = 0 then (if bt215.2 = 2 then ((touchstoneref1_Text.f k ([] : List Int) l1).bind fun t217 => (some ((strOfNums t217).toList == (strOfNums t189).toList))) else (none)) else (none)) else (none)) else (none)) else (none)) else (none))) else (none)) else (none)))) else (none)) else (none)))) else (none)) else (none)))))) = some r := by rw [if_pos rfl] at H; exact H
    clear H
    have H := H1
    clear H1
    by_cases c6 : (l1.length : Int) > 300
    · rw [if_pos c6] at H
      have c6b0 : decide (300 < (l1.length : Int)) = true := decide_eq_true c6
      have c6b1 : decide (300 < l1.length) = true := decide_eq_true (by omega)
      clear c6
      obtain rfl := Option.some.inj H
      go_enter Try.func9, Try.ntmps9
      go_wp2_with (first | ((with_reducible refine gate_callee (f := 10) rfl ?_); refine goesL_ (some 17) rfl rfl Try.func10 (by kernel_rfl) rfl #[] rfl (by (try simp only [List.map_toArray, List.map_cons, List.map_nil]); first | done | rfl | (simp only [List.length_drop, List.length_take]; rfl)) ?_; (with_reducible refine (touchstonelaw1_begun.calls k  true _ A4.out).mono ?_); rintro e w7 ⟨rfl, hb⟩; refine ⟨_, rfl, ?_⟩; have n0_ := Aside0.mk (below_step (by repeat (first | (with_reducible first | exact HB.out | apply below_alloc | apply pw_below_drewN | apply below_drew1) | exact HB.out)) hb); clear HB; have HB := n0_; clear n0_; (try clear hb); (try clear hb2); (try clear hk); (try clear hi)))
      go_ret
      exact ⟨by first | rfl | (simp [errW_none, errW_some] <;> rfl) | (simp [*, errW_none, errW_some] <;> rfl), by repeat (first | (with_reducible first | exact HB.out | apply below_alloc | apply pw_below_drewN | apply below_drew1) | exact HB.out)⟩
    · rw [if_neg c6] at H
      have c6b0 : decide (300 < (l1.length : Int)) = false := decide_eq_false c6
      have c6b1 : decide (300 < l1.length) = false := decide_eq_false (by omega)
      clear c6
      replace H := Option.bind_eq_some_iff.mp H
      obtain ⟨t186, A80, H⟩ := H
      replace H : ((octet_Text.f k ([] : List Int) l1).bind fun t189 => (if (t186.length : Int) = 0 then (none) else (if 0 ≤ (Int.tmod (wrap64 (a2)) (t186.length : Int)) then (if (Int.tmod (wrap64 (a2)) (t186.length : Int)) ≤ (t186.length : Int) then ((octet_TakeVar.f k (t186.take ((Int.tmod (wrap64 (a2)) (t186.length : Int)) : Int).toNat)).bind fun bt196 => (if (t189.length : Int) = 0 then (none) else (if 0 ≤ (Int.tmod (wrap64 (a2)) (t189.length : Int)) then (if (Int.tmod (wrap64 (a2)) (t189.length : Int)) ≤ (t189.length : Int) then ((octet_TakeText.f k (t189.take ((Int.tmod (wrap64 (a2)) (t189.length : Int)) : Int).toNat) 300).bind fun bt203 => ((octet_Eight.f k ([] : List Int) a0).bind fun t208 => (if 0 ≤ (Int.tmod a2 8) then (if (Int.tmod a2 8) ≤ (t208.length : Int) then ((octet_TakeEight.f k (t208.take ((Int.tmod a2 8) : Int).toNat)).bind fun bt215 => (if bt196.2.2 = 2 then (if bt196.2.1 = 0 then (if bt203.2.2 = 2 then (if bt203.2.1 = 0 then (if (bt203.1.length : Int) = 0 then (if bt215.2 = 2 then ((touchstoneref1_Text.f k ([] : List Int) l1).bind fun t217 => (some ((strOfNums t217).toList == (strOfNums t189).toList))) else (none)) else (none)) else (none)) else (none)) else (none)) else (none))) else (none)) else (none)))) else (none)) else (none)))) else (none)) else (none)))) = some r := H
      have A8 := Aside0.mk A80
      clear A80
      replace H := Option.bind_eq_some_iff.mp H
      obtain ⟨t189, A90, H⟩ := H
      replace H : (if (t186.length : Int) = 0 then (none) else (if 0 ≤ (Int.tmod (wrap64 (a2)) (t186.length : Int)) then (if (Int.tmod (wrap64 (a2)) (t186.length : Int)) ≤ (t186.length : Int) then ((octet_TakeVar.f k (t186.take ((Int.tmod (wrap64 (a2)) (t186.length : Int)) : Int).toNat)).bind fun bt196 => (if (t189.length : Int) = 0 then (none) else (if 0 ≤ (Int.tmod (wrap64 (a2)) (t189.length : Int)) then (if (Int.tmod (wrap64 (a2)) (t189.length : Int)) ≤ (t189.length : Int) then ((octet_TakeText.f k (t189.take ((Int.tmod (wrap64 (a2)) (t189.length : Int)) : Int).toNat) 300).bind fun bt203 => ((octet_Eight.f k ([] : List Int) a0).bind fun t208 => (if 0 ≤ (Int.tmod a2 8) then (if (Int.tmod a2 8) ≤ (t208.length : Int) then ((octet_TakeEight.f k (t208.take ((Int.tmod a2 8) : Int).toNat)).bind fun bt215 => (if bt196.2.2 = 2 then (if bt196.2.1 = 0 then (if bt203.2.2 = 2 then (if bt203.2.1 = 0 then (if (bt203.1.length : Int) = 0 then (if bt215.2 = 2 then ((touchstoneref1_Text.f k ([] : List Int) l1).bind fun t217 => (some ((strOfNums t217).toList == (strOfNums t189).toList))) else (none)) else (none)) else (none)) else (none)) else (none)) else (none))) else (none)) else (none)))) else (none)) else (none)))) else (none)) else (none))) = some r := H
      have A9 := Aside0.mk A90
      clear A90
      by_cases c10 : (t186.length : Int) = 0
      · rw [if_pos c10] at H
        exact absurd H (by simp)
      · rw [if_neg c10] at H
        have c10b0 : ((t186.length : Int) == 0) = false := beq_eq_false_iff_ne.mpr c10
        have c10b1 : ((t186.length : Int) != 0) = true := bne_iff_ne.mpr c10
        have c10b2 : ¬ (t186 = []) := fun h_ => c10 (by rw [h_]; rfl)
        obtain ⟨ji11, hji11⟩ : ∃ j_ : Int, (Int.tmod (wrap64 (a2)) (t186.length : Int)) = j_ := ⟨_, rfl⟩
        replace H : (if 0 ≤ (ji11) then (if (ji11) ≤ (t186.length : Int) then ((octet_TakeVar.f k (t186.take ((ji11) : Int).toNat)).bind fun bt196 => (if (t189.length : Int) = 0 then (none) else (if 0 ≤ (Int.tmod (wrap64 (a2)) (t189.length : Int)) then (if (Int.tmod (wrap64 (a2)) (t189.length : Int)) ≤ (t189.length : Int) then ((octet_TakeText.f k (t189.take ((Int.tmod (wrap64 (a2)) (t189.length : Int)) : Int).toNat) 300).bind fun bt203 => ((octet_Eight.f k ([] : List Int) a0).bind fun t208 => (if 0 ≤ (Int.tmod a2 8) then (if (Int.tmod a2 8) ≤ (t208.length : Int) then ((octet_TakeEight.f k (t208.take ((Int.tmod a2 8) : Int).toNat)).bind fun bt215 => (if bt196.2.2 = 2 then (if bt196.2.1 = 0 then (if bt203.2.2 = 2 then (if bt203.2.1 = 0 then (if (bt203.1.length : Int) = 0 then (if bt215.2 = 2 then ((touchstoneref1_Text.f k ([] : List Int) l1).bind fun t217 => (some ((strOfNums t217).toList == (strOfNums t189).toList))) else (none)) else (none)) else (none)) else (none)) else (none)) else (none))) else (none)) else (none)))) else (none)) else (none)))) else (none)) else (none)) = some r := by first | (rw [hji11] at H; exact H) | (simp only [hji11] at H ⊢; exact H)
        (try rw [hji11] at A4)
        (try rw [hji11] at A8)
        (try rw [hji11] at A9)
        by_cases c12 : 0 ≤ (ji11)
        · rw [if_pos c12] at H
          have c12b0 := eq_true c12
          have c12b1 : decide (0 ≤ (ji11)) = true := decide_eq_true c12
          clear c12
          by_cases c13 : (ji11) ≤ (t186.length : Int)
          · rw [if_pos c13] at H
            have c13b0 := eq_true c13
            have c13b1 : decide ((ji11) ≤ (t186.length : Int)) = true := decide_eq_true c13
            clear c13
            obtain ⟨y192, hy192⟩ : ∃ y_ : List Int, y_ = (t186.take ((ji11) : Int).toNat) := ⟨_, rfl⟩
            replace H : ((octet_TakeVar.f k y192).bind fun bt196 => (if (t189.length : Int) = 0 then (none) else (if 0 ≤ (Int.tmod (wrap64 (a2)) (t189.length : Int)) then (if (Int.tmod (wrap64 (a2)) (t189.length : Int)) ≤ (t189.length : Int) then ((octet_TakeText.f k (t189.take ((Int.tmod (wrap64 (a2)) (t189.length : Int)) : Int).toNat) 300).bind fun bt203 => ((octet_Eight.f k ([] : List Int) a0).bind fun t208 => (if 0 ≤ (Int.tmod a2 8) then (if (Int.tmod a2 8) ≤ (t208.length : Int) then ((octet_TakeEight.f k (t208.take ((Int.tmod a2 8) : Int).toNat)).bind fun bt215 => (if bt196.2.2 = 2 then (if bt196.2.1 = 0 then (if bt203.2.2 = 2 then (if bt203.2.1 = 0 then (if (bt203.1.length : Int) = 0 then (if bt215.2 = 2 then ((touchstoneref1_Text.f k ([] : List Int) l1).bind fun t217 => (some ((strOfNums t217).toList == (strOfNums t189).toList))) else (none)) else (none)) else (none)) else (none)) else (none)) else (none))) else (none)) else (none)))) else (none)) else (none)))) = some r := by first | (rw [hy192]; with_reducible exact H) | (have H2_ := (Option.bind_some _ _).symm.trans H; rw [hy192]; with_reducible exact H2_) | (have H2_ := (Option.bind_some _ _).symm.trans H; with_reducible exact H2_) | with_reducible exact H | (rw [hy192]; exact H) | exact H
            have Ny192 := Aside0.mk hy192
            clear hy192
            replace H := Option.bind_eq_some_iff.mp H
            obtain ⟨⟨t196, t197, t198⟩, A140, H⟩ := H
            replace H : (if (t189.length : Int) = 0 then (none) else (if 0 ≤ (Int.tmod (wrap64 (a2)) (t189.length : Int)) then (if (Int.tmod (wrap64 (a2)) (t189.length : Int)) ≤ (t189.length : Int) then ((octet_TakeText.f k (t189.take ((Int.tmod (wrap64 (a2)) (t189.length : Int)) : Int).toNat) 300).bind fun bt203 => ((octet_Eight.f k ([] : List Int) a0).bind fun t208 => (if 0 ≤ (Int.tmod a2 8) then (if (Int.tmod a2 8) ≤ (t208.length : Int) then ((octet_TakeEight.f k (t208.take ((Int.tmod a2 8) : Int).toNat)).bind fun bt215 => (if t198 = 2 then (if t197 = 0 then (if bt203.2.2 = 2 then (if bt203.2.1 = 0 then (if (bt203.1.length : Int) = 0 then (if bt215.2 = 2 then ((touchstoneref1_Text.f k ([] : List Int) l1).bind fun t217 => (some ((strOfNums t217).toList == (strOfNums t189).toList))) else (none)) else (none)) else (none)) else (none)) else (none)) else (none))) else (none)) else (none)))) else (none)) else (none))) = some r := H
            have A14 := Aside0.mk A140
            clear A140
            by_cases c15 : (t189.length : Int) = 0
            · rw [if_pos c15] at H
              exact absurd H (by simp)
            · rw [if_neg c15] at H
              have c15b0 : ((t189.length : Int) == 0) = false := beq_eq_false_iff_ne.mpr c15
              have c15b1 : ((t189.length : Int) != 0) = true := bne_iff_ne.mpr c15
              have c15b2 : ¬ (t189 = []) := fun h_ => c15 (by rw [h_]; rfl)
              obtain ⟨ji16, hji16⟩ : ∃ j_ : Int, (Int.tmod (wrap64 (a2)) (t189.length : Int)) = j_ := ⟨_, rfl⟩
              replace H : (if 0 ≤ (ji16) then (if (ji16) ≤ (t189.length : Int) then ((octet_TakeText.f k (t189.take ((ji16) : Int).toNat) 300).bind fun bt203 => ((octet_Eight.f k ([] : List Int) a0).bind fun t208 => (if 0 ≤ (Int.tmod a2 8) then (if (Int.tmod a2 8) ≤ (t208.length : Int) then ((octet_TakeEight.f k (t208.take ((Int.tmod a2 8) : Int).toNat)).bind fun bt215 => (if t198 = 2 then (if t197 = 0 then (if bt203.2.2 = 2 then (if bt203.2.1 = 0 then (if (bt203.1.length : Int) = 0 then (if bt215.2 = 2 then ((touchstoneref1_Text.f k ([] : List Int) l1).bind fun t217 => (some ((strOfNums t217).toList == (strOfNums t189).toList))) else (none)) else (none)) else (none)) else (none)) else (none)) else (none))) else (none)) else (none)))) else (none)) else (none)) = some r := by first | (rw [hji16] at H; exact H) | (simp only [hji16] at H ⊢; exact H)
              (try rw [hji16] at A4)
              (try rw [hji16] at A8)
              (try rw [hji16] at A9)
              (try rw [hji16] at A14)
              by_cases c17 : 0 ≤ (ji16)
              · rw [if_pos c17] at H
                have c17b0 := eq_true c17
                have c17b1 : decide (0 ≤ (ji16)) = true := decide_eq_true c17
                clear c17
                by_cases c18 : (ji16) ≤ (t189.length : Int)
                · rw [if_pos c18] at H
                  have c18b0 := eq_true c18
                  have c18b1 : decide ((ji16) ≤ (t189.length : Int)) = true := decide_eq_true c18
                  clear c18
                  obtain ⟨y199, hy199⟩ : ∃ y_ : List Int, y_ = (t189.take ((ji16) : Int).toNat) := ⟨_, rfl⟩
                  replace H : ((octet_TakeText.f k y199 300).bind fun bt203 => ((octet_Eight.f k ([] : List Int) a0).bind fun t208 => (if 0 ≤ (Int.tmod a2 8) then (if (Int.tmod a2 8) ≤ (t208.length : Int) then ((octet_TakeEight.f k (t208.take ((Int.tmod a2 8) : Int).toNat)).bind fun bt215 => (if t198 = 2 then (if t197 = 0 then (if bt203.2.2 = 2 then (if bt203.2.1 = 0 then (if (bt203.1.length : Int) = 0 then (if bt215.2 = 2 then ((touchstoneref1_Text.f k ([] : List Int) l1).bind fun t217 => (some ((strOfNums t217).toList == (strOfNums t189).toList))) else (none)) else (none)) else (none)) else (none)) else (none)) else (none))) else (none)) else (none)))) = some r := by first | (rw [hy199]; with_reducible exact H) | (have H2_ := (Option.bind_some _ _).symm.trans H; rw [hy199]; with_reducible exact H2_) | (have H2_ := (Option.bind_some _ _).symm.trans H; with_reducible exact H2_) | with_reducible exact H | (rw [hy199]; exact H) | exact H
                  have Ny199 := Aside0.mk hy199
                  clear hy199
                  replace H := Option.bind_eq_some_iff.mp H
                  obtain ⟨⟨t203, t204, t205⟩, A190, H⟩ := H
                  replace H : ((octet_Eight.f k ([] : List Int) a0).bind fun t208 => (if 0 ≤ (Int.tmod a2 8) then (if (Int.tmod a2 8) ≤ (t208.length : Int) then ((octet_TakeEight.f k (t208.take ((Int.tmod a2 8) : Int).toNat)).bind fun bt215 => (if t198 = 2 then (if t197 = 0 then (if t205 = 2 then (if t204 = 0 then (if (t203.length : Int) = 0 then (if bt215.2 = 2 then ((touchstoneref1_Text.f k ([] : List Int) l1).bind fun t217 => (some ((strOfNums t217).toList == (strOfNums t189).toList))) else (none)) else (none)) else (none)) else (none)) else (none)) else (none))) else (none)) else (none))) = some r := H
                  have A19 := Aside0.mk A190
                  clear A190
                  replace H := Option.bind_eq_some_iff.mp H
                  obtain ⟨t208, A200, H⟩ := H
                  replace H : (if 0 ≤ (Int.tmod a2 8) then (if (Int.tmod a2 8) ≤ (t208.length : Int) then ((octet_TakeEight.f k (t208.take ((Int.tmod a2 8) : Int).toNat)).bind fun bt215 => (if t198 = 2 then (if t197 = 0 then (if t205 = 2 then (if t204 = 0 then (if (t203.length : Int) = 0 then (if bt215.2 = 2 then ((touchstoneref1_Text.f k ([] : List Int) l1).bind fun t217 => (some ((strOfNums t217).toList == (strOfNums t189).toList))) else (none)) else (none)) else (none)) else (none)) else (none)) else (none))) else (none)) else (none)) = some r := H
                  have A20 := Aside0.mk A200
                  clear A200
                  obtain ⟨ji21, hji21⟩ : ∃ j_ : Int, (Int.tmod a2 8) = j_ := ⟨_, rfl⟩
                  replace H : (if 0 ≤ (ji21) then (if (ji21) ≤ (t208.length : Int) then ((octet_TakeEight.f k (t208.take ((ji21) : Int).toNat)).bind fun bt215 => (if t198 = 2 then (if t197 = 0 then (if t205 = 2 then (if t204 = 0 then (if (t203.length : Int) = 0 then (if bt215.2 = 2 then ((touchstoneref1_Text.f k ([] : List Int) l1).bind fun t217 => (some ((strOfNums t217).toList == (strOfNums t189).toList))) else (none)) else (none)) else (none)) else (none)) else (none)) else (none))) else (none)) else (none)) = some r := by first | (rw [hji21] at H; exact H) | (simp only [hji21] at H ⊢; exact H)
                  (try rw [hji21] at A4)
                  (try rw [hji21] at A8)
                  (try rw [hji21] at A9)
                  (try rw [hji21] at A14)
                  (try rw [hji21] at A19)
                  (try rw [hji21] at A20)
                  by_cases c22 : 0 ≤ (ji21)
                  · rw [if_pos c22] at H
                    have c22b0 := eq_true c22
                    have c22b1 : decide (0 ≤ (ji21)) = true := decide_eq_true c22
                    clear c22
                    by_cases c23 : (ji21) ≤ (t208.length : Int)
                    · rw [if_pos c23] at H
                      have c23b0 := eq_true c23
                      have c23b1 : decide ((ji21) ≤ (t208.length : Int)) = true := decide_eq_true c23
                      clear c23
                      obtain ⟨y211, hy211⟩ : ∃ y_ : List Int, y_ = (t208.take ((ji21) : Int).toNat) := ⟨_, rfl⟩
                      replace H : ((octet_TakeEight.f k y211).bind fun bt215 => (if t198 = 2 then (if t197 = 0 then (if t205 = 2 then (if t204 = 0 then (if (t203.length : Int) = 0 then (if bt215.2 = 2 then ((touchstoneref1_Text.f k ([] : List Int) l1).bind fun t217 => (some ((strOfNums t217).toList == (strOfNums t189).toList))) else (none)) else (none)) else (none)) else (none)) else (none)) else (none))) = some r := by first | (rw [hy211]; with_reducible exact H) | (have H2_ := (Option.bind_some _ _).symm.trans H; rw [hy211]; with_reducible exact H2_) | (have H2_ := (Option.bind_some _ _).symm.trans H; with_reducible exact H2_) | with_reducible exact H | (rw [hy211]; exact H) | exact H
                      have Ny211 := Aside0.mk hy211
                      clear hy211
                      replace H := Option.bind_eq_some_iff.mp H
                      obtain ⟨⟨t215, t216⟩, A240, H⟩ := H
                      replace H : (if t198 = 2 then (if t197 = 0 then (if t205 = 2 then (if t204 = 0 then (if (t203.length : Int) = 0 then (if t216 = 2 then ((touchstoneref1_Text.f k ([] : List Int) l1).bind fun t217 => (some ((strOfNums t217).toList == (strOfNums t189).toList))) else (none)) else (none)) else (none)) else (none)) else (none)) else (none)) = some r := H
                      have A24 := Aside0.mk A240
                      clear A240
                      by_cases c25 : t198 = 2
                      · rw [if_pos c25] at H
                        have c25b0 : (t198 == 2) = true := beq_iff_eq.mpr c25
                        have c25b1 : (t198 != 2) = false := bne_eq_false_iff_eq.mpr c25
                        clear c25
                        by_cases c26 : t197 = 0
                        · rw [if_pos c26] at H
                          have c26b0 : (t197 == 0) = true := beq_iff_eq.mpr c26
                          have c26b1 : (t197 != 0) = false := bne_eq_false_iff_eq.mpr c26
                          clear c26
                          by_cases c27 : t205 = 2
                          · rw [if_pos c27] at H
                            have c27b0 : (t205 == 2) = true := beq_iff_eq.mpr c27
                            have c27b1 : (t205 != 2) = false := bne_eq_false_iff_eq.mpr c27
                            clear c27
                            by_cases c28 : t204 = 0
                            · rw [if_pos c28] at H
                              have c28b0 : (t204 == 0) = true := beq_iff_eq.mpr c28
                              have c28b1 : (t204 != 0) = false := bne_eq_false_iff_eq.mpr c28
                              clear c28
                              by_cases c29 : (t203.length : Int) = 0
                              · rw [if_pos c29] at H
                                have c29b0 : ((t203.length : Int) == 0) = true := beq_iff_eq.mpr c29
                                have c29b1 : ((t203.length : Int) != 0) = false := bne_eq_false_iff_eq.mpr c29
                                clear c29
                                by_cases c30 : t216 = 2
                                · rw [if_pos c30] at H
                                  have c30b0 : (t216 == 2) = true := beq_iff_eq.mpr c30
                                  have c30b1 : (t216 != 2) = false := bne_eq_false_iff_eq.mpr c30
                                  clear c30
                                  replace H := Option.bind_eq_some_iff.mp H
                                  obtain ⟨t217, A310, H⟩ := H
                                  replace H : (some ((strOfNums t217).toList == (strOfNums t189).toList)) = some r := H
                                  have A31 := Aside0.mk A310
                                  clear A310
                                  obtain rfl := Option.some.inj H
                                  go_enter Try.func9, Try.ntmps9
                                  try go_wp2_with (first | ((with_reducible refine gate_callee (f := 10) rfl ?_); refine goesL_ (some 17) rfl rfl Try.func10 (by kernel_rfl) rfl #[] rfl (by (try simp only [List.map_toArray, List.map_cons, List.map_nil]); first | done | rfl | (simp only [List.length_drop, List.length_take]; rfl)) ?_; (with_reducible refine (touchstonelaw1_begun.calls k  true _ A4.out).mono ?_); rintro e w32 ⟨rfl, hb⟩; refine ⟨_, rfl, ?_⟩; have n0_ := Aside0.mk (below_step (by repeat (first | (with_reducible first | exact HB.out | apply below_alloc | apply pw_below_drewN | apply below_drew1) | exact HB.out)) hb); clear HB; have HB := n0_; clear n0_; (try clear hb); (try clear hb2); (try clear hk); (try clear hi)) | ((with_reducible refine gate_callee (f := 11) rfl ?_); refine goesL_ (some 23) rfl rfl Try.func11 (by kernel_rfl) rfl #[.slice none 0 0, .int .u64 a0] rfl (by (try simp only [List.map_toArray, List.map_cons, List.map_nil]); first | done | rfl | (simp only [List.length_drop, List.length_take]; rfl)) ?_; (refine (octet_Var.calls k _ _ ([] : List Int) a0 t186 _ ?side1 ?side2 A8.out).mono ?_); (case side1 => exact Kd.C_nil _ _); (case side2 => exact Nat.le_refl _); rintro e w33 ⟨v187, rfl, ho0, hb⟩; refine ⟨_, rfl, ?_⟩; have n0_ := Aside0.mk (Kd.R_lower ho0 (below_size (by repeat (first | (with_reducible first | exact HB.out | apply below_alloc | apply pw_below_drewN | apply below_drew1) | exact HB.out)))); have n1_ := Aside0.mk (below_step (by repeat (first | (with_reducible first | exact HB.out | apply below_alloc | apply pw_below_drewN | apply below_drew1) | exact HB.out)) hb); clear HB; have HO188 := n0_; have HB := n1_; clear n0_ n1_; (try clear hb); (try clear hb2); (try clear hk); (try clear hi); (try clear ho0)) | ((with_reducible refine gate_callee (f := 13) rfl ?_); refine goesL_ (some 25) rfl rfl Try.func13 (by kernel_rfl) rfl #[.slice none 0 0, .slice A1 l1.length c1] rfl (by (try simp only [List.map_toArray, List.map_cons, List.map_nil]); first | done | rfl | (simp only [List.length_drop, List.length_take]; rfl)) ?_; (refine (octet_Text.calls k _ _ ([] : List Int) _ _ l1 t189 _ ?side1 ?side2 ?side3 ?side4 A9.out).mono ?_); (case side1 => exact Kd.C_nil _ _); (case side2 => exact Nat.le_refl _); (case side3 => repeat (first | exact (Kd.C_below HR1.out HB.out) | (with_reducible refine Kd.C_alloc ?_ _) | (with_reducible refine Kd.C_drewN ?_ _) | (with_reducible refine Kd.C_drew ?_))); (case side4 => exact HC1.out); rintro e w34 ⟨v190, rfl, ho0, hb⟩; refine ⟨_, rfl, ?_⟩; have n0_ := Aside0.mk (Kd.R_elder' (by (with_reducible repeat (first | apply Kd.R_alloc | apply Kd.R_drewN | apply Kd.R_drew)); exact HO188.out) (Kd.R_base ho0) hb); have n1_ := Aside0.mk (Kd.R_lower (Kd.R_new' ho0 (Kd.R_lt (by (with_reducible repeat (first | apply Kd.R_alloc | apply Kd.R_drewN | apply Kd.R_drew)); exact HO188.out))) (below_size (by repeat (first | (with_reducible first | exact HB.out | apply below_alloc | apply pw_below_drewN | apply below_drew1) | exact HB.out)))); have n2_ := Aside0.mk (below_step (by repeat (first | (with_reducible first | exact HB.out | apply below_alloc | apply pw_below_drewN | apply below_drew1) | exact HB.out)) hb); clear HO188; clear HB; have HO188 := n0_; have HO191 := n1_; have HB := n2_; clear n0_ n1_ n2_; (try clear hb); (try clear hb2); (try clear hk); (try clear hi); (try clear ho0); obtain ⟨Ao35, co35, eo35⟩ := Kd.R_slice HO188.out; subst eo35; have q36 : ((ji11) : Int) ≤ ((t186.length : Int) : Int) := of_decide_eq_true (by first | (with_reducible assumption) | assumption); obtain ⟨i036, hi036, _, hsz36, _⟩ := info_parts info5; have hroom36 : t186.length ≤ co35 := (Kd.R_reads' HO188.out).2.1; have hC36 : Kd.C (Kd.int .u8) _ Ao35 t186.length t186 := (Kd.R_reads' HO188.out).2.2; have hcut36 := cut_to (P := Try.prog) 24 5 .i64 Try.underlying24 hi036 Ao35 t186.length co35 (ji11) (of_decide_eq_true (by first | (with_reducible assumption) | assumption)) q36 hroom36; have hr36 := Kd.C_take (m := ((ji11) : Int).toNat) hC36 (by omega); have hy36 : y192.length = ((ji11) : Int).toNat := (by rw [Ny192.out, List.length_take]; omega); rw [← Ny192.out] at hr36; rw [← hy36] at hcut36; have HR195 := Aside0.mk hr36; have HC195 := Aside0.mk (show y192.length ≤ co35 from by omega); clear hr36 hC36 hroom36 hi036 hsz36; have KY36 := Aside0.mk hy36; clear hy36; have KL36 := Aside0.mk (show ((ji11) : Int).toNat ≤ t186.length from by omega); replace q36 := eq_true q36) | ((with_reducible refine gate_callee (f := 20) rfl ?_); refine goesL_ (some 34) rfl rfl Try.func20 (by kernel_rfl) rfl #[.slice Ao35 y192.length co35] rfl (by (try simp only [List.map_toArray, List.map_cons, List.map_nil]); first | done | rfl | (simp only [List.length_drop, List.length_take]; rfl)) ?_; (with_reducible refine (octet_TakeVar.calls k _ _ y192 t196 t197 t198 _ ?side1 ?side2 A14.out).mono ?_); (case side1 => repeat (first | exact (by repeat (first | (with_reducible exact HR195.out) | (with_reducible refine Kd.C_alloc ?_ _) | (with_reducible refine Kd.C_drewN ?_ _) | (with_reducible refine Kd.C_drew ?_) | exact HR195.out)) | (with_reducible refine Kd.C_alloc ?_ _) | (with_reducible refine Kd.C_drewN ?_ _) | (with_reducible refine Kd.C_drew ?_))); (case side2 => exact HC195.out); rintro e w' ⟨rfl, ⟨nd, rfl⟩⟩; refine ⟨_, rfl, ?_⟩; obtain ⟨Ao37, co37, eo37⟩ := Kd.R_slice HO191.out; subst eo37; have q38 : ((ji16) : Int) ≤ ((t189.length : Int) : Int) := of_decide_eq_true (by first | (with_reducible assumption) | assumption); obtain ⟨i038, hi038, _, hsz38, _⟩ := info_parts info5; have hroom38 : t189.length ≤ co37 := (Kd.R_reads' HO191.out).2.1; have hC38 : Kd.C (Kd.int .u8) _ Ao37 t189.length t189 := (Kd.R_reads' HO191.out).2.2; have hcut38 := cut_to (P := Try.prog) 24 5 .i64 Try.underlying24 hi038 Ao37 t189.length co37 (ji16) (of_decide_eq_true (by first | (with_reducible assumption) | assumption)) q38 hroom38; have hr38 := Kd.C_take (m := ((ji16) : Int).toNat) hC38 (by omega); have hy38 : y199.length = ((ji16) : Int).toNat := (by rw [Ny199.out, List.length_take]; omega); rw [← Ny199.out] at hr38; rw [← hy38] at hcut38; have HR202 := Aside0.mk hr38; have HC202 := Aside0.mk (show y199.length ≤ co37 from by omega); clear hr38 hC38 hroom38 hi038 hsz38; have KY38 := Aside0.mk hy38; clear hy38; have KL38 := Aside0.mk (show ((ji16) : Int).toNat ≤ t189.length from by omega); replace q38 := eq_true q38) | ((with_reducible refine gate_callee (f := 21) rfl ?_); refine goesL_ (some 46) rfl rfl Try.func21 (by kernel_rfl) rfl #[.slice Ao37 y199.length co37, .int .i64 300] rfl (by (try simp only [List.map_toArray, List.map_cons, List.map_nil]); first | done | rfl | (simp only [List.length_drop, List.length_take]; rfl)) ?_; (with_reducible refine (octet_TakeText.calls k _ _ y199 300 t203 t204 t205 _ ?side1 ?side2 A19.out).mono ?_); (case side1 => repeat (first | exact (by repeat (first | (with_reducible exact HR202.out) | (with_reducible refine Kd.C_alloc ?_ _) | (with_reducible refine Kd.C_drewN ?_ _) | (with_reducible refine Kd.C_drew ?_) | exact HR202.out)) | (with_reducible refine Kd.C_alloc ?_ _) | (with_reducible refine Kd.C_drewN ?_ _) | (with_reducible refine Kd.C_drew ?_))); (case side2 => exact HC202.out); rintro e w39 ⟨v206, rfl, ho0, hb⟩; refine ⟨_, rfl, ?_⟩; have n0_ := Aside0.mk (Kd.R_elder' (by (with_reducible repeat (first | apply Kd.R_alloc | apply Kd.R_drewN | apply Kd.R_drew)); exact HO188.out) (Kd.R_base ho0) hb); have n1_ := Aside0.mk (Kd.R_elder' (by (with_reducible repeat (first | apply Kd.R_alloc | apply Kd.R_drewN | apply Kd.R_drew)); exact HO191.out) (Kd.R_base ho0) hb); have n2_ := Aside0.mk (Kd.R_lower (Kd.R_new' (Kd.R_new' ho0 (Kd.R_lt (by (with_reducible repeat (first | apply Kd.R_alloc | apply Kd.R_drewN | apply Kd.R_drew)); exact HO188.out))) (Kd.R_lt (by (with_reducible repeat (first | apply Kd.R_alloc | apply Kd.R_drewN | apply Kd.R_drew)); exact HO191.out))) (below_size (by repeat (first | (with_reducible first | exact HB.out | apply below_alloc | apply pw_below_drewN | apply below_drew1) | exact HB.out)))); have n3_ := Aside0.mk (Kd.C_below (by repeat (first | (with_reducible exact HR195.out) | (with_reducible refine Kd.C_alloc ?_ _) | (with_reducible refine Kd.C_drewN ?_ _) | (with_reducible refine Kd.C_drew ?_) | exact HR195.out)) hb); have n4_ := Aside0.mk (Kd.C_below (by repeat (first | (with_reducible exact HR202.out) | (with_reducible refine Kd.C_alloc ?_ _) | (with_reducible refine Kd.C_drewN ?_ _) | (with_reducible refine Kd.C_drew ?_) | exact HR202.out)) hb); have n5_ := Aside0.mk (below_step (by repeat (first | (with_reducible first | exact HB.out | apply below_alloc | apply pw_below_drewN | apply below_drew1) | exact HB.out)) hb); clear HO188; clear HO191; clear HR195; clear HR202; clear HB; have HO188 := n0_; have HO191 := n1_; have HO207 := n2_; have HR195 := n3_; have HR202 := n4_; have HB := n5_; clear n0_ n1_ n2_ n3_ n4_ n5_; (try clear hb); (try clear hb2); (try clear hk); (try clear hi); (try clear ho0)) | ((with_reducible refine gate_callee (f := 14) rfl ?_); refine goesL_ (some 52) rfl rfl Try.func14 (by kernel_rfl) rfl #[.slice none 0 0, .int .u64 a0] rfl (by (try simp only [List.map_toArray, List.map_cons, List.map_nil]); first | done | rfl | (simp only [List.length_drop, List.length_take]; rfl)) ?_; (refine (octet_Eight.calls k _ _ ([] : List Int) a0 t208 _ ?side1 ?side2 A20.out).mono ?_); (case side1 => exact Kd.C_nil _ _); (case side2 => exact Nat.le_refl _); rintro e w40 ⟨v209, rfl, ho0, hb⟩; refine ⟨_, rfl, ?_⟩; have n0_ := Aside0.mk (Kd.R_elder' (by (with_reducible repeat (first | apply Kd.R_alloc | apply Kd.R_drewN | apply Kd.R_drew)); exact HO188.out) (Kd.R_base ho0) hb); have n1_ := Aside0.mk (Kd.R_elder' (by (with_reducible repeat (first | apply Kd.R_alloc | apply Kd.R_drewN | apply Kd.R_drew)); exact HO191.out) (Kd.R_base ho0) hb); have n2_ := Aside0.mk (Kd.R_elder' (by (with_reducible repeat (first | apply Kd.R_alloc | apply Kd.R_drewN | apply Kd.R_drew)); exact HO207.out) (Kd.R_base ho0) hb); have n3_ := Aside0.mk (Kd.R_lower (Kd.R_new' (Kd.R_new' (Kd.R_new' ho0 (Kd.R_lt (by (with_reducible repeat (first | apply Kd.R_alloc | apply Kd.R_drewN | apply Kd.R_drew)); exact HO188.out))) (Kd.R_lt (by (with_reducible repeat (first | apply Kd.R_alloc | apply Kd.R_drewN | apply Kd.R_drew)); exact HO191.out))) (Kd.R_lt (by (with_reducible repeat (first | apply Kd.R_alloc | apply Kd.R_drewN | apply Kd.R_drew)); exact HO207.out))) (below_size (by repeat (first | (with_reducible first | exact HB.out | apply below_alloc | apply pw_below_drewN | apply below_drew1) | exact HB.out)))); have n4_ := Aside0.mk (Kd.C_below (by repeat (first | (with_reducible exact HR195.out) | (with_reducible refine Kd.C_alloc ?_ _) | (with_reducible refine Kd.C_drewN ?_ _) | (with_reducible refine Kd.C_drew ?_) | exact HR195.out)) hb); have n5_ := Aside0.mk (Kd.C_below (by repeat (first | (with_reducible exact HR202.out) | (with_reducible refine Kd.C_alloc ?_ _) | (with_reducible refine Kd.C_drewN ?_ _) | (with_reducible refine Kd.C_drew ?_) | exact HR202.out)) hb); have n6_ := Aside0.mk (below_step (by repeat (first | (with_reducible first | exact HB.out | apply below_alloc | apply pw_below_drewN | apply below_drew1) | exact HB.out)) hb); clear HO188; clear HO191; clear HO207; clear HR195; clear HR202; clear HB; have HO188 := n0_; have HO191 := n1_; have HO207 := n2_; have HO210 := n3_; have HR195 := n4_; have HR202 := n5_; have HB := n6_; clear n0_ n1_ n2_ n3_ n4_ n5_ n6_; (try clear hb); (try clear hb2); (try clear hk); (try clear hi); (try clear ho0); obtain ⟨Ao42, co42, eo42⟩ := Kd.R_slice HO210.out; subst eo42; have q41 : ((ji21) : Int) ≤ ((t208.length : Int) : Int) := of_decide_eq_true (by first | (with_reducible assumption) | assumption); obtain ⟨i041, hi041, _, hsz41, _⟩ := info_parts info5; have hroom41 : t208.length ≤ co42 := (Kd.R_reads' HO210.out).2.1; have hC41 : Kd.C (Kd.int .u8) _ Ao42 t208.length t208 := (Kd.R_reads' HO210.out).2.2; have hcut41 := cut_to (P := Try.prog) 24 5 .u16 Try.underlying24 hi041 Ao42 t208.length co42 (ji21) (of_decide_eq_true (by first | (with_reducible assumption) | assumption)) q41 hroom41; have hr41 := Kd.C_take (m := ((ji21) : Int).toNat) hC41 (by omega); have hy41 : y211.length = ((ji21) : Int).toNat := (by rw [Ny211.out, List.length_take]; omega); rw [← Ny211.out] at hr41; rw [← hy41] at hcut41; have HR214 := Aside0.mk hr41; have HC214 := Aside0.mk (show y211.length ≤ co42 from by omega); clear hr41 hC41 hroom41 hi041 hsz41; have KY41 := Aside0.mk hy41; clear hy41; have KL41 := Aside0.mk (show ((ji21) : Int).toNat ≤ t208.length from by omega); replace q41 := eq_true q41) | ((with_reducible refine gate_callee (f := 24) rfl ?_); refine goesL_ (some 56) rfl rfl Try.func24 (by kernel_rfl) rfl #[.slice Ao42 y211.length co42] rfl (by (try simp only [List.map_toArray, List.map_cons, List.map_nil]); first | done | rfl | (simp only [List.length_drop, List.length_take]; rfl)) ?_; (with_reducible refine (octet_TakeEight.calls k _ _ y211 t215 t216 _ ?side1 ?side2 A24.out).mono ?_); (case side1 => repeat (first | exact (by repeat (first | (with_reducible exact HR214.out) | (with_reducible refine Kd.C_alloc ?_ _) | (with_reducible refine Kd.C_drewN ?_ _) | (with_reducible refine Kd.C_drew ?_) | exact HR214.out)) | (with_reducible refine Kd.C_alloc ?_ _) | (with_reducible refine Kd.C_drewN ?_ _) | (with_reducible refine Kd.C_drew ?_))); (case side2 => exact HC214.out); rintro e w' ⟨rfl, ⟨nd, rfl⟩⟩; refine ⟨_, rfl, ?_⟩))
                                  (try (rw [drewN_self w40]; generalize hq_ : World.drewN w40 _ = w40; have n0_ : Aside0 (Kd.R (Kd.int .u8) 5 w40 w.heap.size (fun k_ => some k_ ≠ (.slice Ao37 t189.length co37 : Value).ownBlock ∧ some k_ ≠ (v206 : Value).ownBlock ∧ some k_ ≠ (.slice Ao42 t208.length co42 : Value).ownBlock) (.slice Ao35 t186.length co35) t186) := ⟨by rw [← hq_]; exact (by (with_reducible repeat (first | apply Kd.R_alloc | apply Kd.R_drewN | apply Kd.R_drew)); exact Kd.R_mono HO188.out (fun _ hk => ⟨hk.1.1.2, ⟨hk.1.2, hk.2⟩⟩))⟩; have n1_ : Aside0 (Kd.R (Kd.int .u8) 5 w40 w.heap.size (fun k_ => some k_ ≠ (.slice Ao35 t186.length co35 : Value).ownBlock ∧ some k_ ≠ (v206 : Value).ownBlock ∧ some k_ ≠ (.slice Ao42 t208.length co42 : Value).ownBlock) (.slice Ao37 t189.length co37) t189) := ⟨by rw [← hq_]; exact (by (with_reducible repeat (first | apply Kd.R_alloc | apply Kd.R_drewN | apply Kd.R_drew)); exact Kd.R_mono HO191.out (fun _ hk => ⟨hk.1.1.2, ⟨hk.1.2, hk.2⟩⟩))⟩; have n2_ : Aside0 (Kd.R (Kd.int .u8) 5 w40 w.heap.size (fun k_ => some k_ ≠ (.slice Ao35 t186.length co35 : Value).ownBlock ∧ some k_ ≠ (.slice Ao37 t189.length co37 : Value).ownBlock ∧ some k_ ≠ (.slice Ao42 t208.length co42 : Value).ownBlock) v206 t203) := ⟨by rw [← hq_]; exact (by (with_reducible repeat (first | apply Kd.R_alloc | apply Kd.R_drewN | apply Kd.R_drew)); exact Kd.R_mono HO207.out (fun _ hk => ⟨hk.1.1.2, ⟨hk.1.2, hk.2⟩⟩))⟩; have n3_ : Aside0 (Kd.R (Kd.int .u8) 5 w40 w.heap.size (fun k_ => some k_ ≠ (.slice Ao35 t186.length co35 : Value).ownBlock ∧ some k_ ≠ (.slice Ao37 t189.length co37 : Value).ownBlock ∧ some k_ ≠ (v206 : Value).ownBlock) (.slice Ao42 t208.length co42) t208) := ⟨by rw [← hq_]; exact (by (with_reducible repeat (first | apply Kd.R_alloc | apply Kd.R_drewN | apply Kd.R_drew)); exact Kd.R_mono HO210.out (fun _ hk => ⟨hk.1.1.2, ⟨hk.1.2, hk.2⟩⟩))⟩; have n4_ : Aside0 (Below w.heap.size w w40) := ⟨by rw [← hq_]; exact (by repeat (first | (with_reducible first | exact HB.out | apply below_alloc | apply pw_below_drewN | apply below_drew1) | exact HB.out))⟩; have n5_ : Aside0 (Kd.C (Kd.int .u8) w40 Ao35 y192.length y192) := ⟨by rw [← hq_]; exact (by repeat (first | (with_reducible exact HR195.out) | (with_reducible refine Kd.C_alloc ?_ _) | (with_reducible refine Kd.C_drewN ?_ _) | (with_reducible refine Kd.C_drew ?_) | exact HR195.out))⟩; have n6_ : Aside0 (Kd.C (Kd.int .u8) w40 Ao37 y199.length y199) := ⟨by rw [← hq_]; exact (by repeat (first | (with_reducible exact HR202.out) | (with_reducible refine Kd.C_alloc ?_ _) | (with_reducible refine Kd.C_drewN ?_ _) | (with_reducible refine Kd.C_drew ?_) | exact HR202.out))⟩; have n7_ : Aside0 (Kd.C (Kd.int .u8) w40 Ao42 y211.length y211) := ⟨by rw [← hq_]; exact (by repeat (first | (with_reducible exact HR214.out) | (with_reducible refine Kd.C_alloc ?_ _) | (with_reducible refine Kd.C_drewN ?_ _) | (with_reducible refine Kd.C_drew ?_) | exact HR214.out))⟩; clear HO188 HO191 HO207 HO210 HB HR195 HR202 HR214 hq_; have HO188 := n0_; have HO191 := n1_; have HO207 := n2_; have HO210 := n3_; have HB := n4_; have HR195 := n5_; have HR202 := n6_; have HR214 := n7_; clear n0_ n1_ n2_ n3_ n4_ n5_ n6_ n7_))
                                  have n0_ := Aside0.mk (Kd.R_drew HO188.out)
                                  have n1_ := Aside0.mk (Kd.R_drew HO191.out)
                                  have n2_ := Aside0.mk (Kd.R_drew HO207.out)
                                  have n3_ := Aside0.mk (Kd.R_drew HO210.out)
                                  have n4_ := Aside0.mk (Kd.C_drew HR195.out)
                                  have n5_ := Aside0.mk (Kd.C_drew HR202.out)
                                  have n6_ := Aside0.mk (Kd.C_drew HR214.out)
                                  have n7_ := Aside0.mk (below_drew1 HB.out)
                                  clear HO188
                                  clear HO191
                                  clear HO207
                                  clear HO210
                                  clear HR195
                                  clear HR202
                                  clear HR214
                                  clear HB
                                  have HO188 := n0_
                                  have HO191 := n1_
                                  have HO207 := n2_
                                  have HO210 := n3_
                                  have HR195 := n4_
                                  have HR202 := n5_
                                  have HR214 := n6_
                                  have HB := n7_
                                  clear n0_ n1_ n2_ n3_ n4_ n5_ n6_ n7_
                                  obtain ⟨Ao44, co44, eo44⟩ := Kd.R_slice HO207.out
                                  (first | subst eo44 | (injection eo44 with f1_ f2_ f3_; have f4_ := f1_.symm; have f5_ := f3_.symm; clear f1_ f2_ f3_; subst f4_; subst f5_))
                                  refine start_ (n := 32) (S := fun w' => Sem.run Try.prog (convert 24 9 (.slice Ao37 t189.length co37)) w' = .ok (.string (strOfNums t189)) w') (ds := []) #[false, false, false, false, false, false, false, false, false, false, false, false, false, false, false, false, false, false, false, false, false, false, false, false, false, false, false, false, false, false, false, false] (by kernel_rfl) rfl rfl ((own_string (P := Try.prog) Try.underlying24 Try.underlying5 Try.underlying9 (Kd.own_of_R HO191.out))) (fun hHeld => ?_); refine with_tabW touchstonelaw1_OctetCuts.tab9 touchstonelaw1_OctetCuts.bits9 (fun HT_ HW_ => ?_)
                                  generalize w40.drew = w43 at HO188 HO191 HO207 HO210 HR195 HR202 HR214 HB hHeld ⊢
                                  refine pure_ (i := 0) (N := some 59) (v := ?_) (a' := ?_) #[true, false, false, false, false, false, false, false, false, false, false, false, false, false, false, false, false, false, false, false, false, false, false, false, false, false, false, false, false, false, false, false] rfl rfl (any_of HT_.out (by kernel_rfl)) (fun _ _ _ h => h) (Or.inl ⟨by rfl, ?_⟩) ?_ ?_
                                  rotate_left
                                  · intro w'
                                    go_simp
                                    with_reducible rfl
                                  rotate_left
                                  · simp only [Act.put, List.setIfInBounds_toArray, List.set_cons_zero, List.set_cons_succ, i64_w, i32_w]
                                    rfl
                                  refine pure_ (i := 1) (N := some 60) (v := ?_) (a' := ?_) #[true, true, false, false, false, false, false, false, false, false, false, false, false, false, false, false, false, false, false, false, false, false, false, false, false, false, false, false, false, false, false, false] rfl rfl (any_of HT_.out (by kernel_rfl)) (fun _ _ _ h => h) (Or.inl ⟨by rfl, ?_⟩) ?_ ?_
                                  rotate_left
                                  · intro w'
                                    go_simp
                                    with_reducible rfl
                                  rotate_left
                                  · simp only [Act.put, List.setIfInBounds_toArray, List.set_cons_zero, List.set_cons_succ, i64_w, i32_w]
                                    rfl
                                  refine pure_ (i := 2) (N := some 61) (v := ?_) (a' := ?_) #[true, true, true, false, false, false, false, false, false, false, false, false, false, false, false, false, false, false, false, false, false, false, false, false, false, false, false, false, false, false, false, false] rfl rfl (any_of HT_.out (by kernel_rfl)) (fun _ _ _ h => h) (Or.inl ⟨by rfl, ?_⟩) ?_ ?_
                                  rotate_left
                                  · intro w'
                                    go_simp
                                    with_reducible rfl
                                  rotate_left
                                  · simp only [Act.put, List.setIfInBounds_toArray, List.set_cons_zero, List.set_cons_succ, i64_w, i32_w]
                                    rfl
                                  refine pure_ (i := 3) (N := some 62) (v := ?_) (a' := ?_) #[true, true, true, true, false, false, false, false, false, false, false, false, false, false, false, false, false, false, false, false, false, false, false, false, false, false, false, false, false, false, false, false] rfl rfl (any_of HT_.out (by kernel_rfl)) (fun _ _ _ h => h) (Or.inl ⟨by rfl, ?_⟩) ?_ ?_
                                  rotate_left
                                  · intro w'
                                    go_simp
                                    with_reducible rfl
                                  rotate_left
                                  · simp only [Act.put, List.setIfInBounds_toArray, List.set_cons_zero, List.set_cons_succ, i64_w, i32_w]
                                    rfl
                                  refine pure_ (i := 4) (N := some 63) (v := ?_) (a' := ?_) #[true, true, true, true, true, false, false, false, false, false, false, false, false, false, false, false, false, false, false, false, false, false, false, false, false, false, false, false, false, false, false, false] rfl rfl (any_of HT_.out (by kernel_rfl)) (fun _ _ _ h => h) (Or.inl ⟨by rfl, ?_⟩) ?_ ?_
                                  rotate_left
                                  · intro w'
                                    go_simp
                                    with_reducible rfl
                                  rotate_left
                                  · simp only [Act.put, List.setIfInBounds_toArray, List.set_cons_zero, List.set_cons_succ, i64_w, i32_w]
                                    rfl
                                  refine pure_ (i := 5) (N := some 64) (v := ?_) (a' := ?_) #[true, true, true, true, true, true, false, false, false, false, false, false, false, false, false, false, false, false, false, false, false, false, false, false, false, false, false, false, false, false, false, false] rfl rfl (any_of HT_.out (by kernel_rfl)) (fun _ _ _ h => h) (Or.inl ⟨by rfl, ?_⟩) ?_ ?_
                                  rotate_left
                                  · intro w'
                                    go_simp
                                    with_reducible rfl
                                  rotate_left
                                  · simp only [Act.put, List.setIfInBounds_toArray, List.set_cons_zero, List.set_cons_succ, i64_w, i32_w]
                                    rfl
                                  refine pure_ (i := 6) (N := some 65) (v := ?_) (a' := ?_) #[true, true, true, true, true, true, true, false, false, false, false, false, false, false, false, false, false, false, false, false, false, false, false, false, false, false, false, false, false, false, false, false] rfl rfl (any_of HT_.out (by kernel_rfl)) (fun _ _ _ h => h) (Or.inl ⟨by rfl, ?_⟩) ?_ ?_
                                  rotate_left
                                  · intro w'
                                    go_simp
                                    with_reducible rfl
                                  rotate_left
                                  · simp only [Act.put, List.setIfInBounds_toArray, List.set_cons_zero, List.set_cons_succ, i64_w, i32_w]
                                    rfl
                                  refine pure_ (i := 7) (N := some 66) (v := ?_) (a' := ?_) #[true, true, true, true, true, true, true, true, false, false, false, false, false, false, false, false, false, false, false, false, false, false, false, false, false, false, false, false, false, false, false, false] rfl rfl (any_of HT_.out (by kernel_rfl)) (fun _ _ _ h => h) (Or.inl ⟨by rfl, ?_⟩) ?_ ?_
                                  rotate_left
                                  · intro w'
                                    go_simp
                                    with_reducible rfl
                                  rotate_left
                                  · simp only [Act.put, List.setIfInBounds_toArray, List.set_cons_zero, List.set_cons_succ, i64_w, i32_w]
                                    rfl
                                  refine pure_ (i := 8) (N := some 67) (v := ?_) (a' := ?_) #[true, true, true, true, true, true, true, true, true, false, false, false, false, false, false, false, false, false, false, false, false, false, false, false, false, false, false, false, false, false, false, false] rfl rfl (any_of HT_.out (by kernel_rfl)) (fun _ _ _ h => h) (Or.inl ⟨by rfl, ?_⟩) ?_ ?_
                                  rotate_left
                                  · intro w'
                                    go_simp
                                    with_reducible rfl
                                  rotate_left
                                  · simp only [Act.put, List.setIfInBounds_toArray, List.set_cons_zero, List.set_cons_succ, i64_w, i32_w]
                                    rfl
                                  refine pure_ (i := 9) (N := some 68) (v := ?_) (a' := ?_) #[true, true, true, true, true, true, true, true, true, true, false, false, false, false, false, false, false, false, false, false, false, false, false, false, false, false, false, false, false, false, false, false] rfl rfl (any_of HT_.out (by kernel_rfl)) (fun _ _ _ h => h) (Or.inl ⟨by rfl, ?_⟩) ?_ ?_
                                  rotate_left
                                  · intro w'
                                    go_simp
                                    with_reducible rfl
                                  rotate_left
                                  · simp only [Act.put, List.setIfInBounds_toArray, List.set_cons_zero, List.set_cons_succ, i64_w, i32_w]
                                    rfl
                                  refine pure_ (i := 10) (N := some 69) (v := ?_) (a' := ?_) #[true, true, true, true, true, true, true, true, true, true, true, false, false, false, false, false, false, false, false, false, false, false, false, false, false, false, false, false, false, false, false, false] rfl rfl (any_of HT_.out (by kernel_rfl)) (fun _ _ _ h => h) (Or.inl ⟨by rfl, ?_⟩) ?_ ?_
                                  rotate_left
                                  · intro w'
                                    go_simp
                                    with_reducible rfl
                                  rotate_left
                                  · simp only [Act.put, List.setIfInBounds_toArray, List.set_cons_zero, List.set_cons_succ, i64_w, i32_w]
                                    rfl
                                  refine pure_ (i := 11) (N := some 70) (v := ?_) (a' := ?_) #[true, true, true, true, true, true, true, true, true, true, true, true, false, false, false, false, false, false, false, false, false, false, false, false, false, false, false, false, false, false, false, false] rfl rfl (any_of HT_.out (by kernel_rfl)) (fun _ _ _ h => h) (Or.inl ⟨by rfl, ?_⟩) ?_ ?_
                                  rotate_left
                                  · intro w'
                                    go_simp
                                    with_reducible rfl
                                  rotate_left
                                  · simp only [Act.put, List.setIfInBounds_toArray, List.set_cons_zero, List.set_cons_succ, i64_w, i32_w]
                                    rfl
                                  refine pure_ (i := 12) (N := some 71) (v := ?_) (a' := ?_) #[true, true, true, true, true, true, true, true, true, true, true, true, true, false, false, false, false, false, false, false, false, false, false, false, false, false, false, false, false, false, false, false] rfl rfl (any_of HT_.out (by kernel_rfl)) (fun _ _ _ h => h) (Or.inl ⟨by rfl, ?_⟩) ?_ ?_
                                  rotate_left
                                  · intro w'
                                    go_simp
                                    with_reducible rfl
                                  rotate_left
                                  · simp only [Act.put, List.setIfInBounds_toArray, List.set_cons_zero, List.set_cons_succ, i64_w, i32_w]
                                    rfl
                                  refine pure_ (i := 13) (N := some 72) (v := ?_) (a' := ?_) #[true, true, true, true, true, true, true, true, true, true, true, true, true, true, false, false, false, false, false, false, false, false, false, false, false, false, false, false, false, false, false, false] rfl rfl (any_of HT_.out (by kernel_rfl)) (fun _ _ _ h => h) (Or.inl ⟨by rfl, ?_⟩) ?_ ?_
                                  rotate_left
                                  · intro w'
                                    go_simp
                                    with_reducible rfl
                                  rotate_left
                                  · simp only [Act.put, List.setIfInBounds_toArray, List.set_cons_zero, List.set_cons_succ, i64_w, i32_w]
                                    rfl
                                  refine pure_ (i := 14) (N := some 73) (v := ?_) (a' := ?_) #[true, true, true, true, true, true, true, true, true, true, true, true, true, true, true, false, false, false, false, false, false, false, false, false, false, false, false, false, false, false, false, false] rfl rfl (any_of HT_.out (by kernel_rfl)) (fun _ _ _ h => h) (Or.inl ⟨by rfl, ?_⟩) ?_ ?_
                                  rotate_left
                                  · intro w'
                                    go_simp
                                    with_reducible rfl
                                  rotate_left
                                  · simp only [Act.put, List.setIfInBounds_toArray, List.set_cons_zero, List.set_cons_succ, i64_w, i32_w]
                                    rfl
                                  refine pure_ (i := 15) (N := some 74) (v := ?_) (a' := ?_) #[true, true, true, true, true, true, true, true, true, true, true, true, true, true, true, true, false, false, false, false, false, false, false, false, false, false, false, false, false, false, false, false] rfl rfl (any_of HT_.out (by kernel_rfl)) (fun _ _ _ h => h) (Or.inl ⟨by rfl, ?_⟩) ?_ ?_
                                  rotate_left
                                  · intro w'
                                    go_simp
                                    with_reducible rfl
                                  rotate_left
                                  · simp only [Act.put, List.setIfInBounds_toArray, List.set_cons_zero, List.set_cons_succ, i64_w, i32_w]
                                    rfl
                                  refine pure_ (i := 16) (N := some 75) (v := ?_) (a' := ?_) #[true, true, true, true, true, true, true, true, true, true, true, true, true, true, true, true, true, false, false, false, false, false, false, false, false, false, false, false, false, false, false, false] rfl rfl (any_of HT_.out (by kernel_rfl)) (fun _ _ _ h => h) (Or.inl ⟨by rfl, ?_⟩) ?_ ?_
                                  rotate_left
                                  · intro w'
                                    go_simp
                                    with_reducible rfl
                                  rotate_left
                                  · simp only [Act.put, List.setIfInBounds_toArray, List.set_cons_zero, List.set_cons_succ, i64_w, i32_w]
                                    rfl
                                  refine pure_ (i := 17) (N := some 76) (v := ?_) (a' := ?_) #[true, true, true, true, true, true, true, true, true, true, true, true, true, true, true, true, true, true, false, false, false, false, false, false, false, false, false, false, false, false, false, false] rfl rfl (any_of HT_.out (by kernel_rfl)) (fun _ _ _ h => h) (Or.inl ⟨by rfl, ?_⟩) ?_ ?_
                                  rotate_left
                                  · intro w'
                                    go_simp
                                    with_reducible rfl
                                  rotate_left
                                  · simp only [Act.put, List.setIfInBounds_toArray, List.set_cons_zero, List.set_cons_succ, i64_w, i32_w]
                                    rfl
                                  refine pure_ (i := 18) (N := some 77) (v := ?_) (a' := ?_) #[true, true, true, true, true, true, true, true, true, true, true, true, true, true, true, true, true, true, true, false, false, false, false, false, false, false, false, false, false, false, false, false] rfl rfl (any_of HT_.out (by kernel_rfl)) (fun _ _ _ h => h) (Or.inl ⟨by rfl, ?_⟩) ?_ ?_
                                  rotate_left
                                  · intro w'
                                    go_simp
                                    with_reducible rfl
                                  rotate_left
                                  · simp only [Act.put, List.setIfInBounds_toArray, List.set_cons_zero, List.set_cons_succ, i64_w, i32_w]
                                    rfl
                                  refine pure_ (i := 19) (N := some 78) (v := ?_) (a' := ?_) #[true, true, true, true, true, true, true, true, true, true, true, true, true, true, true, true, true, true, true, true, false, false, false, false, false, false, false, false, false, false, false, false] rfl rfl (any_of HT_.out (by kernel_rfl)) (fun _ _ _ h => h) (Or.inl ⟨by rfl, ?_⟩) ?_ ?_
                                  rotate_left
                                  · intro w'
                                    go_simp
                                    with_reducible rfl
                                  rotate_left
                                  · simp only [Act.put, List.setIfInBounds_toArray, List.set_cons_zero, List.set_cons_succ, i64_w, i32_w]
                                    rfl
                                  refine pure_ (i := 20) (N := some 79) (v := ?_) (a' := ?_) #[true, true, true, true, true, true, true, true, true, true, true, true, true, true, true, true, true, true, true, true, true, false, false, false, false, false, false, false, false, false, false, false] rfl rfl (any_of HT_.out (by kernel_rfl)) (fun _ _ _ h => h) (Or.inl ⟨by rfl, ?_⟩) ?_ ?_
                                  rotate_left
                                  · intro w'
                                    go_simp
                                    with_reducible rfl
                                  rotate_left
                                  · simp only [Act.put, List.setIfInBounds_toArray, List.set_cons_zero, List.set_cons_succ, i64_w, i32_w]
                                    rfl
                                  refine pure_ (i := 21) (N := some 80) (v := ?_) (a' := ?_) #[true, true, true, true, true, true, true, true, true, true, true, true, true, true, true, true, true, true, true, true, true, true, false, false, false, false, false, false, false, false, false, false] rfl rfl (any_of HT_.out (by kernel_rfl)) (fun _ _ _ h => h) (Or.inl ⟨by rfl, ?_⟩) ?_ ?_
                                  rotate_left
                                  · intro w'
                                    go_simp
                                    with_reducible rfl
                                  rotate_left
                                  · simp only [Act.put, List.setIfInBounds_toArray, List.set_cons_zero, List.set_cons_succ, i64_w, i32_w]
                                    rfl
                                  refine pure_ (i := 22) (N := some 81) (v := ?_) (a' := ?_) #[true, true, true, true, true, true, true, true, true, true, true, true, true, true, true, true, true, true, true, true, true, true, true, false, false, false, false, false, false, false, false, false] rfl rfl (any_of HT_.out (by kernel_rfl)) (fun _ _ _ h => h) (Or.inl ⟨by rfl, ?_⟩) ?_ ?_
                                  rotate_left
                                  · intro w'
                                    go_simp
                                    with_reducible rfl
                                  rotate_left
                                  · simp only [Act.put, List.setIfInBounds_toArray, List.set_cons_zero, List.set_cons_succ, i64_w, i32_w]
                                    rfl
                                  refine pure_ (i := 23) (N := some 82) (v := ?_) (a' := ?_) #[true, true, true, true, true, true, true, true, true, true, true, true, true, true, true, true, true, true, true, true, true, true, true, true, false, false, false, false, false, false, false, false] rfl rfl (any_of HT_.out (by kernel_rfl)) (fun _ _ _ h => h) (Or.inl ⟨by rfl, ?_⟩) ?_ ?_
                                  rotate_left
                                  · intro w'
                                    go_simp
                                    with_reducible rfl
                                  rotate_left
                                  · simp only [Act.put, List.setIfInBounds_toArray, List.set_cons_zero, List.set_cons_succ, i64_w, i32_w]
                                    rfl
                                  refine pure_ (i := 24) (N := some 83) (v := ?_) (a' := ?_) #[true, true, true, true, true, true, true, true, true, true, true, true, true, true, true, true, true, true, true, true, true, true, true, true, true, false, false, false, false, false, false, false] rfl rfl (any_of HT_.out (by kernel_rfl)) (fun _ _ _ h => h) (Or.inl ⟨by rfl, ?_⟩) ?_ ?_
                                  rotate_left
                                  · intro w'
                                    go_simp
                                    with_reducible rfl
                                  rotate_left
                                  · simp only [Act.put, List.setIfInBounds_toArray, List.set_cons_zero, List.set_cons_succ, i64_w, i32_w]
                                    rfl
                                  refine pure_ (i := 27) (N := some 86) (v := ?_) (a' := ?_) #[true, true, true, true, true, true, true, true, true, true, true, true, true, true, true, true, true, true, true, true, true, true, true, true, true, false, false, true, false, false, false, false] rfl rfl (any_of HT_.out (by kernel_rfl)) (fun _ _ _ h => h) (Or.inl ⟨by rfl, ?_⟩) ?_ ?_
                                  rotate_left
                                  · intro w'
                                    go_simp
                                    with_reducible rfl
                                  rotate_left
                                  · simp only [Act.put, List.setIfInBounds_toArray, List.set_cons_zero, List.set_cons_succ, i64_w, i32_w]
                                    rfl
                                  refine take_ (i := 28) (N := some 87) (v := ?_) (a' := ?_) #[true, true, true, true, true, true, true, true, true, true, true, true, true, true, true, true, true, true, true, true, true, true, true, true, true, false, false, true, true, false, false, false] rfl rfl (take_ofW HT_.out HW_.out (by kernel_rfl)) (fun _ _ _ h => h) (Or.inl ⟨by rfl, ?_⟩) hHeld ?_ ?_
                                  rotate_left
                                  · intro w' s0
                                    go_simp
                                    with_reducible rfl
                                  rotate_left
                                  · simp only [Act.put, List.setIfInBounds_toArray, List.set_cons_zero, List.set_cons_succ, i64_w, i32_w]
                                    rfl
                                  refine one_ (i := 25) (N := some 84) #[true, true, true, true, true, true, true, true, true, true, true, true, true, true, true, true, true, true, true, true, true, true, true, true, true, true, false, true, true, false, false, false] rfl rfl (one_of HT_.out (by kernel_rfl)) (by decide) (fun K hK => ?_)
                                  refine goes_ Try.func16 (by kernel_rfl) rfl #[.slice none 0 0, .slice A1 l1.length c1] (by rfl) rfl rfl (by (try simp only [List.map_toArray, List.map_cons, List.map_nil]); first | done | rfl | (simp only [List.length_drop, List.length_take]; rfl)) ?_
                                  refine (touchstoneref1_Text.calls k _ _ ([] : List Int) _ _ l1 t217 _ ?side1 ?side2 ?side3 ?side4 A31.out).mono ?_
                                  (case side1 => exact Kd.C_nil _ _)
                                  (case side2 => exact Nat.le_refl _)
                                  (case side3 => repeat (first | exact (Kd.C_below HR1.out HB.out) | (with_reducible refine Kd.C_alloc ?_ _) | (with_reducible refine Kd.C_drewN ?_ _) | (with_reducible refine Kd.C_drew ?_)))
                                  (case side4 => exact HC1.out)
                                  rintro e w45 ⟨v218, rfl, ho0, hb⟩
                                  refine ⟨_, rfl, ?_⟩
                                  have n0_ := Aside0.mk (Kd.R_elder' (by (with_reducible repeat (first | apply Kd.R_alloc | apply Kd.R_drewN | apply Kd.R_drew)); exact HO188.out) (Kd.R_base ho0) hb)
                                  have n1_ := Aside0.mk (Kd.R_elder' (by (with_reducible repeat (first | apply Kd.R_alloc | apply Kd.R_drewN | apply Kd.R_drew)); exact HO191.out) (Kd.R_base ho0) hb)
                                  have n2_ := Aside0.mk (Kd.R_elder' (by (with_reducible repeat (first | apply Kd.R_alloc | apply Kd.R_drewN | apply Kd.R_drew)); exact HO207.out) (Kd.R_base ho0) hb)
                                  have n3_ := Aside0.mk (Kd.R_elder' (by (with_reducible repeat (first | apply Kd.R_alloc | apply Kd.R_drewN | apply Kd.R_drew)); exact HO210.out) (Kd.R_base ho0) hb)
                                  have n4_ := Aside0.mk (Kd.R_lower (Kd.R_new' (Kd.R_new' (Kd.R_new' (Kd.R_new' ho0 (Kd.R_lt (by (with_reducible repeat (first | apply Kd.R_alloc | apply Kd.R_drewN | apply Kd.R_drew)); exact HO188.out))) (Kd.R_lt (by (with_reducible repeat (first | apply Kd.R_alloc | apply Kd.R_drewN | apply Kd.R_drew)); exact HO191.out))) (Kd.R_lt (by (with_reducible repeat (first | apply Kd.R_alloc | apply Kd.R_drewN | apply Kd.R_drew)); exact HO207.out))) (Kd.R_lt (by (with_reducible repeat (first | apply Kd.R_alloc | apply Kd.R_drewN | apply Kd.R_drew)); exact HO210.out))) (below_size (by repeat (first | (with_reducible first | exact HB.out | apply below_alloc | apply pw_below_drewN | apply below_drew1) | exact HB.out))))
                                  have n5_ := Aside0.mk (Kd.C_below (by repeat (first | (with_reducible exact HR195.out) | (with_reducible refine Kd.C_alloc ?_ _) | (with_reducible refine Kd.C_drewN ?_ _) | (with_reducible refine Kd.C_drew ?_) | exact HR195.out)) hb)
                                  have n6_ := Aside0.mk (Kd.C_below (by repeat (first | (with_reducible exact HR202.out) | (with_reducible refine Kd.C_alloc ?_ _) | (with_reducible refine Kd.C_drewN ?_ _) | (with_reducible refine Kd.C_drew ?_) | exact HR202.out)) hb)
                                  have n7_ := Aside0.mk (Kd.C_below (by repeat (first | (with_reducible exact HR214.out) | (with_reducible refine Kd.C_alloc ?_ _) | (with_reducible refine Kd.C_drewN ?_ _) | (with_reducible refine Kd.C_drew ?_) | exact HR214.out)) hb)
                                  have n8_ := Aside0.mk (below_step (by repeat (first | (with_reducible first | exact HB.out | apply below_alloc | apply pw_below_drewN | apply below_drew1) | exact HB.out)) hb)
                                  clear HO188
                                  clear HO191
                                  clear HO207
                                  clear HO210
                                  clear HR195
                                  clear HR202
                                  clear HR214
                                  clear HB
                                  have HO188 := n0_
                                  have HO191 := n1_
                                  have HO207 := n2_
                                  have HO210 := n3_
                                  have HO219 := n4_
                                  have HR195 := n5_
                                  have HR202 := n6_
                                  have HR214 := n7_
                                  have HB := n8_
                                  clear n0_ n1_ n2_ n3_ n4_ n5_ n6_ n7_ n8_
                                  (try clear hb)
                                  (try clear hb2)
                                  (try clear hk)
                                  (try clear hi)
                                  (try clear ho0)
                                  refine hK.out _ _ ((own_string (P := Try.prog) Try.underlying24 Try.underlying5 Try.underlying9 (Kd.own_of_R HO191.out))) (fun hHeld => ?_)
                                  clear hK K
                                  refine norm_ (a' := ?_) ?_ ?_
                                  rotate_left
                                  · show Act.put _ (some 84) _ = _
                                    simp only [Act.put, List.setIfInBounds_toArray, List.set_cons_zero, List.set_cons_succ, i64_w, i32_w]
                                    rfl
                                  refine one_ (i := 26) (N := some 85) #[true, true, true, true, true, true, true, true, true, true, true, true, true, true, true, true, true, true, true, true, true, true, true, true, true, true, true, true, true, false, false, false] rfl rfl (one_of HT_.out (by kernel_rfl)) (by decide) (fun K hK => ?_)
                                  have hcv46 := own_string (P := Try.prog) Try.underlying24 Try.underlying5 Try.underlying9 (Kd.own_of_R HO219.out)
                                  refine value_ (w1 := ?_) (v := ?_) (by rfl) rfl ?_ ?_
                                  rotate_left 2
                                  · go_simp
                                    constructor
                                    · rfl
                                    · rfl
                                  clear hcv46
                                  refine hK.out _ _ ((own_string (P := Try.prog) Try.underlying24 Try.underlying5 Try.underlying9 (Kd.own_of_R HO191.out))) (fun hHeld => ?_)
                                  clear hK K
                                  refine norm_ (a' := ?_) ?_ ?_
                                  rotate_left
                                  · show Act.put _ (some 85) _ = _
                                    simp only [Act.put, List.setIfInBounds_toArray, List.set_cons_zero, List.set_cons_succ, i64_w, i32_w]
                                    rfl
                                  refine pure_ (i := 29) (N := some 88) (v := ?_) (a' := ?_) #[true, true, true, true, true, true, true, true, true, true, true, true, true, true, true, true, true, true, true, true, true, true, true, true, true, true, true, true, true, true, false, false] rfl rfl (any_of HT_.out (by kernel_rfl)) (fun _ _ _ h => h) (Or.inl ⟨by rfl, ?_⟩) ?_ ?_
                                  rotate_left
                                  · intro w'
                                    go_simp
                                    with_reducible rfl
                                  rotate_left
                                  · simp only [Act.put, List.setIfInBounds_toArray, List.set_cons_zero, List.set_cons_succ, i64_w, i32_w]
                                    rfl
                                  refine pure_ (i := 30) (N := some 89) (v := ?_) (a' := ?_) #[true, true, true, true, true, true, true, true, true, true, true, true, true, true, true, true, true, true, true, true, true, true, true, true, true, true, true, true, true, true, true, false] rfl rfl (any_of HT_.out (by kernel_rfl)) (fun _ _ _ h => h) (Or.inl ⟨by rfl, ?_⟩) ?_ ?_
                                  rotate_left
                                  · intro w'
                                    go_simp
                                    with_reducible rfl
                                  rotate_left
                                  · simp only [Act.put, List.setIfInBounds_toArray, List.set_cons_zero, List.set_cons_succ, i64_w, i32_w]
                                    rfl
                                  refine pure_ (i := 31) (N := some 6) (v := ?_) (a' := ?_) #[true, true, true, true, true, true, true, true, true, true, true, true, true, true, true, true, true, true, true, true, true, true, true, true, true, true, true, true, true, true, true, true] rfl rfl (any_of HT_.out (by kernel_rfl)) (fun _ _ _ h => h) (Or.inl ⟨by rfl, ?_⟩) ?_ ?_
                                  rotate_left
                                  · intro w'
                                    go_simp
                                    with_reducible rfl
                                  rotate_left
                                  · simp only [Act.put, List.setIfInBounds_toArray, List.set_cons_zero, List.set_cons_succ, i64_w, i32_w]
                                    rfl
                                  refine done_ (done_of HT_.out (by kernel_rfl)) ?_
                                  try go_wp2
                                  go_ret
                                  exact ⟨by first | rfl | (simp [errW_none, errW_some] <;> rfl) | (simp only [← hji11, ← hji16, ← hji21]; first | rfl | (simp [errW_none, errW_some] <;> rfl)) | (simp [*, errW_none, errW_some] <;> rfl), by repeat (first | (with_reducible first | exact HB.out | apply below_alloc | apply pw_below_drewN | apply below_drew1) | exact HB.out)⟩
                                · rw [if_neg c30] at H
                                  exact absurd H (by simp)
                              · rw [if_neg c29] at H
                                exact absurd H (by simp)
                            · rw [if_neg c28] at H
                              exact absurd H (by simp)
                          · rw [if_neg c27] at H
                            exact absurd H (by simp)
                        · rw [if_neg c26] at H
                          exact absurd H (by simp)
                      · rw [if_neg c25] at H
                        exact absurd H (by simp)
                    · rw [if_neg c23] at H
                      exact absurd H (by simp)
                  · rw [if_neg c22] at H
                    exact absurd H (by simp)
                · rw [if_neg c18] at H
                  exact absurd H (by simp)
              · rw [if_neg c17] at H
                exact absurd H (by simp)
          · rw [if_neg c13] at H
            exact absurd H (by simp)
        · rw [if_neg c12] at H
          exact absurd H (by simp)
  · replace c5 := Bool.eq_false_iff.mpr c5
    subst c5
    have H1 : (none) = some r := by rw [if_neg (show ¬ (false = true) by decide)] at H; exact H
    clear H
    have H := H1
    clear H1
    exact absurd H (by simp)

/-- THE ONE PURE STATEMENT of touchstonelaw1_OctetCuts: yours. -/
def touchstonelaw1_OctetCuts.Pure : Prop := ∀ (a0 : Int) (l1 : List Int) (a2 : Int), (Lit.int .u64 a0).wf = true → l1.length ≤ maxLen → l1.length * 1 ≤ 140737488351232 → (∀ x ∈ l1, (Lit.int .u8 x).wf = true) → (Lit.int .u16 a2).wf = true → ∃ k, touchstonelaw1_OctetCuts.f k a0 l1 a2 = some true
theorem touchstonelaw1_OctetCuts.walk (P : touchstonelaw1_OctetCuts.Pure) (a0 : Int) (a1 : Option Addr) (len1 cap1 : Nat) (z1 : List Int) (a2 : Int) (w : World) (w0 : (Lit.int .u64 a0).wf = true) (w1 : (a1 = none ∧ len1 = 0 ∧ cap1 = 0 ∧ z1 = []) ∨ ∃ x, a1 = some x ∧ len1 ≤ cap1 ∧ cap1 ≤ maxLen ∧ z1.length = cap1 ∧ (∀ i, i < z1.length → w.cell? (x.add i) = some (.int .u8 (z1.getD i 0))) ∧ ∀ n ∈ z1, (Lit.int .u8 n).wf = true) (y1 : len1 * 1 ≤ 140737488351232) (w2 : (Lit.int .u16 a2).wf = true) :
    Calls Try.prog 9 #[.int .u64 a0, .slice a1 len1 cap1, .int .u16 a2] w fun e w' => e = .returned (.bool true) ∧ Below w.heap.size w w' := by
  obtain ⟨l1, rfl, hr1, hm1, hw1, hc1⟩ := ReadsInt.ofRowC w1
  obtain ⟨k, h⟩ := P a0 l1 a2 w0 hm1 y1 hw1 w2
  refine (touchstonelaw1_OctetCuts.calls k a0 _ _ l1 a2 true w (Kd.C_of_reads (d := (0 : Int)) (h1 := fun _ => rfl) hr1) hc1 h).mono ?_
  rintro e w' ⟨rfl, hd⟩
  exact ⟨rfl, hd⟩

end Go.Proofs.Ytaoapdcdnjmoiaa.QC
