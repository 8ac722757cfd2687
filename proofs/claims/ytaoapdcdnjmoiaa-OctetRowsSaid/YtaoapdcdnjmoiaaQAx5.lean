-- By this session's own printing program: a text of this claim's own.
import Derived.Test.YtaoapdcdnjmoiaaQAx0
import Derived.Test.YtaoapdcdnjmoiaaQAx1
import Derived.Test.YtaoapdcdnjmoiaaQAx2
import Derived.Test.YtaoapdcdnjmoiaaQAx4
namespace Go.Proofs.Ytaoapdcdnjmoiaa.QA
open Go.RowKit Go.Proofs.YtaoapdcdnjmoiaaW.PrintWords Go.Proofs.YtaoapdcdnjmoiaaW.PrintLast Go.Proofs.YtaoapdcdnjmoiaaW.PrintMore
attribute [local go_sem] max2_int min2_int max_two min_two max_three min_three max_four min_four   -- for this text's walks alone
set_option linter.unusedVariables false
set_option linter.unusedSimpArgs false

/-! ### touchstonelaw1_OctetRows: function 5 -/
mutual
def touchstonelaw1_OctetRows.j0 : Nat → List Int → List (List Int) → Bool → Option (Bool)
  | 0, _, _, _ => none
  | k + 1, x0, x1, x25 => if x25 = true then (some true) else (touchstonelaw1_OctetRows.l0 k x0 x1 ([] : List Int) 0)
def touchstonelaw1_OctetRows.l0 : Nat → List Int → List (List Int) → List Int → Int → Option (Bool)
  | 0, _, _, _, _ => none
  | k + 1, x0, x1, x5, x6 => if x6 < (x0.length : Int) then (if 0 ≤ x6 then ((octet_Var.f k x5 (rd x0 x6)).bind fun t205 => (touchstonelaw1_OctetRows.l0 k x0 x1 t205 (wrap64 (x6 + 1)))) else (none)) else (touchstonelaw1_OctetRows.l1 k x0 x1 x5 0)
def touchstonelaw1_OctetRows.l1 : Nat → List Int → List (List Int) → List Int → Int → Option (Bool)
  | 0, _, _, _, _ => none
  | k + 1, x0, x1, x5, x7 => if x7 < (x1.length : Int) then (if 0 ≤ x7 then (if ((rd_L1 x1 x7).length : Int) > 200 then (some true) else ((octet_Text.f k x5 (rd_L1 x1 x7)).bind fun t210 => (touchstonelaw1_OctetRows.l1 k x0 x1 t210 (wrap64 (x7 + 1))))) else (none)) else (touchstonelaw1_OctetRows.l2 k x0 x1 x5 0)
def touchstonelaw1_OctetRows.l2 : Nat → List Int → List (List Int) → List Int → Int → Option (Bool)
  | 0, _, _, _, _ => none
  | k + 1, x0, x1, x5, x8 => if x8 < (x0.length : Int) then ((octet_TakeVar.f k x5).bind fun bt213 => (if bt213.2.2 = 0 then (if 0 ≤ x8 then (if bt213.1 = (rd x0 x8) then (if 0 ≤ bt213.2.1 then (if bt213.2.1 ≤ (x5.length : Int) then (touchstonelaw1_OctetRows.l2 k x0 x1 (x5.drop (bt213.2.1 : Int).toNat) (wrap64 (x8 + 1))) else (none)) else (none)) else (some false)) else (none)) else (some false))) else (touchstonelaw1_OctetRows.l3 k x1 x5 0)
def touchstonelaw1_OctetRows.l3 : Nat → List (List Int) → List Int → Int → Option (Bool)
  | 0, _, _, _ => none
  | k + 1, x1, x5, x12 => if x12 < (x1.length : Int) then ((octet_TakeText.f k x5 200).bind fun bt220 => (if bt220.2.2 = 0 then (if 0 ≤ x12 then (if (strOfNums bt220.1).toList = (strOfNums (rd_L1 x1 x12)).toList then (if 0 ≤ bt220.2.1 then (if bt220.2.1 ≤ (x5.length : Int) then (touchstonelaw1_OctetRows.l3 k x1 (x5.drop (bt220.2.1 : Int).toNat) (wrap64 (x12 + 1))) else (none)) else (none)) else (some false)) else (none)) else (some false))) else (some ((x5.length : Int) == 0))
end
def touchstonelaw1_OctetRows.f (k : Nat) (l0 : List Int) (l1 : List (List Int)) : Option (Bool) := (touchstonelaw1_begun.f k).bind fun t203 => (if t203 = true then (if (l0.length : Int) > 20 then (touchstonelaw1_OctetRows.j0 k l0 l1 true) else (touchstonelaw1_OctetRows.j0 k l0 l1 (decide ((l1.length : Int) > 20)))) else (some false))
theorem touchstonelaw1_OctetRows.mono_l : ∀ k, (∀ y0 y1 y2, LeO (touchstonelaw1_OctetRows.j0 k y0 y1 y2) (touchstonelaw1_OctetRows.j0 (k + 1) y0 y1 y2)) ∧ (∀ y0 y1 y2 y3, LeO (touchstonelaw1_OctetRows.l0 k y0 y1 y2 y3) (touchstonelaw1_OctetRows.l0 (k + 1) y0 y1 y2 y3)) ∧ (∀ y0 y1 y2 y3, LeO (touchstonelaw1_OctetRows.l1 k y0 y1 y2 y3) (touchstonelaw1_OctetRows.l1 (k + 1) y0 y1 y2 y3)) ∧ (∀ y0 y1 y2 y3, LeO (touchstonelaw1_OctetRows.l2 k y0 y1 y2 y3) (touchstonelaw1_OctetRows.l2 (k + 1) y0 y1 y2 y3)) ∧ (∀ y0 y1 y2, LeO (touchstonelaw1_OctetRows.l3 k y0 y1 y2) (touchstonelaw1_OctetRows.l3 (k + 1) y0 y1 y2))
  | 0 => ⟨fun _ _ _ r h => by simp [touchstonelaw1_OctetRows.j0] at h, fun _ _ _ _ r h => by simp [touchstonelaw1_OctetRows.l0] at h, fun _ _ _ _ r h => by simp [touchstonelaw1_OctetRows.l1] at h, fun _ _ _ _ r h => by simp [touchstonelaw1_OctetRows.l2] at h, fun _ _ _ r h => by simp [touchstonelaw1_OctetRows.l3] at h⟩
  | k + 1 => by
    obtain ⟨ih0, ih1, ih2, ih3, ih4⟩ := touchstonelaw1_OctetRows.mono_l k
    refine ⟨?_, ?_, ?_, ?_, ?_⟩
    · intro y0 y1 y2
      unfold touchstonelaw1_OctetRows.j0
      repeat' first
      | (with_reducible exact ih0 _ _ _)
      | (with_reducible exact ih1 _ _ _ _)
      | (with_reducible exact ih2 _ _ _ _)
      | (with_reducible exact ih3 _ _ _ _)
      | (with_reducible exact ih4 _ _ _)
      | (with_reducible exact octet_TakeText.mono _ _ _)
      | (with_reducible exact octet_TakeVar.mono _ _)
      | (with_reducible exact octet_Text.mono _ _ _)
      | (with_reducible exact octet_Var.mono _ _ _)
      | (with_reducible exact touchstonelaw1_begun.mono _)
      | (with_reducible exact LeO.refl _)
      | (with_reducible exact LeO.none _)
      | (with_reducible refine LeO.ite ?_ ?_)
      | (with_reducible refine LeO.bind ?_ (fun _ => ?_))
      | exact ih0 _ _ _
      | exact ih1 _ _ _ _
      | exact ih2 _ _ _ _
      | exact ih3 _ _ _ _
      | exact ih4 _ _ _
      | exact octet_TakeText.mono _ _ _
      | exact octet_TakeVar.mono _ _
      | exact octet_Text.mono _ _ _
      | exact octet_Var.mono _ _ _
      | exact touchstonelaw1_begun.mono _
      | exact LeO.none _
      | refine LeO.ite ?_ ?_
      | refine LeO.bind ?_ (fun _ => ?_)
    · intro y0 y1 y2 y3
      unfold touchstonelaw1_OctetRows.l0
      repeat' first
      | (with_reducible exact ih0 _ _ _)
      | (with_reducible exact ih1 _ _ _ _)
      | (with_reducible exact ih2 _ _ _ _)
      | (with_reducible exact ih3 _ _ _ _)
      | (with_reducible exact ih4 _ _ _)
      | (with_reducible exact octet_TakeText.mono _ _ _)
      | (with_reducible exact octet_TakeVar.mono _ _)
      | (with_reducible exact octet_Text.mono _ _ _)
      | (with_reducible exact octet_Var.mono _ _ _)
      | (with_reducible exact touchstonelaw1_begun.mono _)
      | (with_reducible exact LeO.refl _)
      | (with_reducible exact LeO.none _)
      | (with_reducible refine LeO.ite ?_ ?_)
      | (with_reducible refine LeO.bind ?_ (fun _ => ?_))
      | exact ih0 _ _ _
      | exact ih1 _ _ _ _
      | exact ih2 _ _ _ _
      | exact ih3 _ _ _ _
      | exact ih4 _ _ _
      | exact octet_TakeText.mono _ _ _
      | exact octet_TakeVar.mono _ _
      | exact octet_Text.mono _ _ _
      | exact octet_Var.mono _ _ _
      | exact touchstonelaw1_begun.mono _
      | exact LeO.none _
      | refine LeO.ite ?_ ?_
      | refine LeO.bind ?_ (fun _ => ?_)
    · intro y0 y1 y2 y3
      unfold touchstonelaw1_OctetRows.l1
      repeat' first
      | (with_reducible exact ih0 _ _ _)
      | (with_reducible exact ih1 _ _ _ _)
      | (with_reducible exact ih2 _ _ _ _)
      | (with_reducible exact ih3 _ _ _ _)
      | (with_reducible exact ih4 _ _ _)
      | (with_reducible exact octet_TakeText.mono _ _ _)
      | (with_reducible exact octet_TakeVar.mono _ _)
      | (with_reducible exact octet_Text.mono _ _ _)
      | (with_reducible exact octet_Var.mono _ _ _)
      | (with_reducible exact touchstonelaw1_begun.mono _)
      | (with_reducible exact LeO.refl _)
      | (with_reducible exact LeO.none _)
      | (with_reducible refine LeO.ite ?_ ?_)
      | (with_reducible refine LeO.bind ?_ (fun _ => ?_))
      | exact ih0 _ _ _
      | exact ih1 _ _ _ _
      | exact ih2 _ _ _ _
      | exact ih3 _ _ _ _
      | exact ih4 _ _ _
      | exact octet_TakeText.mono _ _ _
      | exact octet_TakeVar.mono _ _
      | exact octet_Text.mono _ _ _
      | exact octet_Var.mono _ _ _
      | exact touchstonelaw1_begun.mono _
      | exact LeO.none _
      | refine LeO.ite ?_ ?_
      | refine LeO.bind ?_ (fun _ => ?_)
    · intro y0 y1 y2 y3
      unfold touchstonelaw1_OctetRows.l2
      repeat' first
      | (with_reducible exact ih0 _ _ _)
      | (with_reducible exact ih1 _ _ _ _)
      | (with_reducible exact ih2 _ _ _ _)
      | (with_reducible exact ih3 _ _ _ _)
      | (with_reducible exact ih4 _ _ _)
      | (with_reducible exact octet_TakeText.mono _ _ _)
      | (with_reducible exact octet_TakeVar.mono _ _)
      | (with_reducible exact octet_Text.mono _ _ _)
      | (with_reducible exact octet_Var.mono _ _ _)
      | (with_reducible exact touchstonelaw1_begun.mono _)
      | (with_reducible exact LeO.refl _)
      | (with_reducible exact LeO.none _)
      | (with_reducible refine LeO.ite ?_ ?_)
      | (with_reducible refine LeO.bind ?_ (fun _ => ?_))
      | exact ih0 _ _ _
      | exact ih1 _ _ _ _
      | exact ih2 _ _ _ _
      | exact ih3 _ _ _ _
      | exact ih4 _ _ _
      | exact octet_TakeText.mono _ _ _
      | exact octet_TakeVar.mono _ _
      | exact octet_Text.mono _ _ _
      | exact octet_Var.mono _ _ _
      | exact touchstonelaw1_begun.mono _
      | exact LeO.none _
      | refine LeO.ite ?_ ?_
      | refine LeO.bind ?_ (fun _ => ?_)
    · intro y0 y1 y2
      unfold touchstonelaw1_OctetRows.l3
      repeat' first
      | (with_reducible exact ih0 _ _ _)
      | (with_reducible exact ih1 _ _ _ _)
      | (with_reducible exact ih2 _ _ _ _)
      | (with_reducible exact ih3 _ _ _ _)
      | (with_reducible exact ih4 _ _ _)
      | (with_reducible exact octet_TakeText.mono _ _ _)
      | (with_reducible exact octet_TakeVar.mono _ _)
      | (with_reducible exact octet_Text.mono _ _ _)
      | (with_reducible exact octet_Var.mono _ _ _)
      | (with_reducible exact touchstonelaw1_begun.mono _)
      | (with_reducible exact LeO.refl _)
      | (with_reducible exact LeO.none _)
      | (with_reducible refine LeO.ite ?_ ?_)
      | (with_reducible refine LeO.bind ?_ (fun _ => ?_))
      | exact ih0 _ _ _
      | exact ih1 _ _ _ _
      | exact ih2 _ _ _ _
      | exact ih3 _ _ _ _
      | exact ih4 _ _ _
      | exact octet_TakeText.mono _ _ _
      | exact octet_TakeVar.mono _ _
      | exact octet_Text.mono _ _ _
      | exact octet_Var.mono _ _ _
      | exact touchstonelaw1_begun.mono _
      | exact LeO.none _
      | refine LeO.ite ?_ ?_
      | refine LeO.bind ?_ (fun _ => ?_)
theorem touchstonelaw1_OctetRows.mono : ∀ a0 a1 k, LeO (touchstonelaw1_OctetRows.f k a0 a1) (touchstonelaw1_OctetRows.f (k + 1) a0 a1) := by
  intro a0 a1 k
  obtain ⟨ih0, ih1, ih2, ih3, ih4⟩ := touchstonelaw1_OctetRows.mono_l k
  unfold touchstonelaw1_OctetRows.f
  repeat' first
      | (with_reducible exact ih0 _ _ _)
      | (with_reducible exact ih1 _ _ _ _)
      | (with_reducible exact ih2 _ _ _ _)
      | (with_reducible exact ih3 _ _ _ _)
      | (with_reducible exact ih4 _ _ _)
      | (with_reducible exact octet_TakeText.mono _ _ _)
      | (with_reducible exact octet_TakeVar.mono _ _)
      | (with_reducible exact octet_Text.mono _ _ _)
      | (with_reducible exact octet_Var.mono _ _ _)
      | (with_reducible exact touchstonelaw1_begun.mono _)
      | (with_reducible exact LeO.refl _)
      | (with_reducible exact LeO.none _)
      | (with_reducible refine LeO.ite ?_ ?_)
      | (with_reducible refine LeO.bind ?_ (fun _ => ?_))
      | exact ih0 _ _ _
      | exact ih1 _ _ _ _
      | exact ih2 _ _ _ _
      | exact ih3 _ _ _ _
      | exact ih4 _ _ _
      | exact octet_TakeText.mono _ _ _
      | exact octet_TakeVar.mono _ _
      | exact octet_Text.mono _ _ _
      | exact octet_Var.mono _ _ _
      | exact touchstonelaw1_begun.mono _
      | exact LeO.none _
      | refine LeO.ite ?_ ?_
      | refine LeO.bind ?_ (fun _ => ?_)
set_option maxHeartbeats 8000000 in
set_option maxRecDepth 100000 in
theorem touchstonelaw1_OctetRows.calls (k : Nat) (A0 : Option Addr) (c0 : Nat) (l0 : List Int) (A1 : Option Addr) (c1 : Nat) (l1 : List (List Int)) (r : Bool) (w : World) (hr0 : Kd.C (Kd.int .u64) w A0 l0.length l0) (hc0 : l0.length ≤ c0) (hr1 : Kd.C (Kd.slice 5 (Kd.int .u8)) w A1 l1.length l1) (hc1 : l1.length ≤ c1) (h : touchstonelaw1_OctetRows.f k l0 l1 = some r) :
    Calls Try.prog 5 #[.slice A0 l0.length c0, .slice A1 l1.length c1] w fun e w' => e = .returned (.bool r) ∧ Below w.heap.size w w' := by
  have HR0 := Aside0.mk hr0
  have HC0 := Aside0.mk hc0
  clear hr0 hc0
  have HR1 := Aside0.mk hr1
  have HC1 := Aside0.mk hc1
  clear hr1 hc1
  have HB := Aside0.mk (Below.refl w.heap.size w)
  have H : ((touchstonelaw1_begun.f k).bind fun t203 => (if t203 = true then (if (l0.length : Int) > 20 then (touchstonelaw1_OctetRows.j0 k l0 l1 true) else (touchstonelaw1_OctetRows.j0 k l0 l1 (decide ((l1.length : Int) > 20)))) else (some false))) = some r := h
  clear h
  replace H := Option.bind_eq_some_iff.mp H
  obtain ⟨t203, A30, H⟩ := H
  replace H : (if t203 = true then (if (l0.length : Int) > 20 then (touchstonelaw1_OctetRows.j0 k l0 l1 true) else (touchstonelaw1_OctetRows.j0 k l0 l1 (decide ((l1.length : Int) > 20)))) else (some false)) = some r := H
  have A3 := Aside0.mk A30
  clear A30
  by_cases c4 : t203 = true
  · subst c4
    have H1 : (if (l0.length : Int) > 20 then (touchstonelaw1_OctetRows.j0 k l0 l1 true) else (touchstonelaw1_OctetRows.j0 k l0 l1 (decide ((l1.length : Int) > 20)))) = some r := by rw [if_pos rfl] at H; exact H
    clear H
    have H := H1
    clear H1
    have HC5 := Aside0.mk H
    clear H
    go_enter Try.func5, Try.ntmps5
    go_upto_region 3 with (first | (go_at_call 10; (with_reducible refine (touchstonelaw1_begun.calls k  true _ A3.out).mono ?_); rintro e w6 ⟨rfl, hb⟩; have n0_ := Aside0.mk (below_step (by repeat (first | (with_reducible first | exact HB.out | apply below_alloc | apply pw_below_drewN | apply below_drew1) | exact HB.out)) hb); clear HB; have HB := n0_; clear n0_; (try clear hb); (try clear hb2); (try clear hk); (try clear hi)))
    repeat (go_quiet (first | (go_at_call 10; (with_reducible refine (touchstonelaw1_begun.calls k  true _ A3.out).mono ?_); rintro e w6 ⟨rfl, hb⟩; have n0_ := Aside0.mk (below_step (by repeat (first | (with_reducible first | exact HB.out | apply below_alloc | apply pw_below_drewN | apply below_drew1) | exact HB.out)) hb); clear HB; have HB := n0_; clear n0_; (try clear hb); (try clear hb2); (try clear hk); (try clear hi))); go_upto_region 3 with (first | (go_at_call 10; (with_reducible refine (touchstonelaw1_begun.calls k  true _ A3.out).mono ?_); rintro e w6 ⟨rfl, hb⟩; have n0_ := Aside0.mk (below_step (by repeat (first | (with_reducible first | exact HB.out | apply below_alloc | apply pw_below_drewN | apply below_drew1) | exact HB.out)) hb); clear HB; have HB := n0_; clear n0_; (try clear hb); (try clear hb2); (try clear hk); (try clear hi))))
    (try simp only [Act.put, List.setIfInBounds_toArray, List.set_cons_zero, List.set_cons_succ])
    go_cut [25] (fun v25 wc => ∃ (kq : Nat) (x25_4 : Bool), v25 = .bool x25_4 ∧ Aside0 (touchstonelaw1_OctetRows.j0 kq l0 l1 x25_4 = some r) ∧ Aside0 (kq ≤ k) ∧ Aside0 (Below w.heap.size w wc))
    case first =>
      have H := HC5.out
      clear HC5
      by_cases c7 : (l0.length : Int) > 20
      · rw [if_pos c7] at H
        have c7b0 : decide (20 < (l0.length : Int)) = true := decide_eq_true c7
        have c7b1 : decide (20 < l0.length) = true := decide_eq_true (by omega)
        clear c7
        (first | rw [c7b0] | (simp only [i64_w, i32_w]; rw [c7b0]) | skip)
        have H' := Aside0.mk H
        clear H
        go_wp2
        repeat (go_quiet (fail); try go_wp2)
        go_meet
        case rel => exact ⟨_, (true), (by first | rfl | (simp; done) | (simp [*]; done)), H', ⟨by first | omega | exact Nat.le_refl _⟩, ⟨by repeat (first | (with_reducible first | exact HB.out | apply below_alloc | apply pw_below_drewN | apply below_drew1) | exact HB.out)⟩⟩
      · rw [if_neg c7] at H
        have c7b0 : decide (20 < (l0.length : Int)) = false := decide_eq_false c7
        have c7b1 : decide (20 < l0.length) = false := decide_eq_false (by omega)
        clear c7
        (first | rw [c7b0] | (simp only [i64_w, i32_w]; rw [c7b0]) | skip)
        have H' := Aside0.mk H
        clear H
        go_wp2
        repeat (go_quiet (fail); try go_wp2)
        go_meet
        case rel => exact ⟨_, (decide ((l1.length : Int) > 20)), (by first | rfl | (simp; done) | (simp [*]; done)), H', ⟨by first | omega | exact Nat.le_refl _⟩, ⟨by repeat (first | (with_reducible first | exact HB.out | apply below_alloc | apply pw_below_drewN | apply below_drew1) | exact HB.out)⟩⟩
    case rest =>
      clear HC5
      try clear c1
      try clear p2
      try clear c4
      try clear c5
      try clear c7
      try clear c7b0
      try clear c7b1
      obtain ⟨kq, x25_4, rfl, HA, HJ4, HB⟩ := hcut
      cases kq with
      | zero => exact absurd HA.out (by simp [touchstonelaw1_OctetRows.j0])
      | succ kj4 =>
        have H := HA.out
        clear HA
        simp only [touchstonelaw1_OctetRows.j0] at H
        by_cases c8 : x25_4 = true
        · subst c8
          have H1 : (some true) = some r := by rw [if_pos rfl] at H; exact H
          clear H
          have H := H1
          clear H1
          obtain rfl := Option.some.inj H
          go_wp2
          repeat (go_quiet (fail); try go_wp2)
          go_ret
          exact ⟨by first | rfl | (simp [errW_none, errW_some] <;> rfl) | (simp [*, errW_none, errW_some] <;> rfl), by repeat (first | (with_reducible first | exact HB.out | apply below_alloc | apply pw_below_drewN | apply below_drew1) | exact HB.out)⟩
        · replace c8 := Bool.eq_false_iff.mpr c8
          subst c8
          have H1 : (touchstonelaw1_OctetRows.l0 kj4 l0 l1 ([] : List Int) 0) = some r := by rw [if_neg (show ¬ (false = true) by decide)] at H; exact H
          clear H
          have H := H1
          clear H1
          have H' := Aside0.mk H
          clear H
          go_wp2
          repeat (go_quiet (fail); try go_wp2)
          go_loopg [5, 6] kj4 (fun kq v5 v6 w' => ∃ (x5_2 : List Int) (x6_2 : Int), v6 = .int .i64 x6_2 ∧ Aside0 (touchstonelaw1_OctetRows.l0 kq l0 l1 x5_2 x6_2 = some r) ∧ Aside0 (kq ≤ kj4) ∧ Aside0 (Kd.Q (Kd.int .u8) 5 w' w.heap.size (fun _ => True) v5 x5_2) ∧ Aside0 (Below w.heap.size w w'))
          case atStart => exact ⟨(([] : List Int)), (0), (by first | rfl | (simp; done) | (simp [*]; done)), H', ⟨Nat.le_refl _⟩, ⟨Kd.Q_of_R (by first | exact Kd.R_nil _ _ _ _ _ | exact Kd.N_nil _ _ _ _ _ | exact Kd.V_nil _ _ _ _ _ | exact Kd.Q_nil _ _ _ _ _ | exact Kd.S_nil _ _ _ _ _)⟩, ⟨by repeat (first | (with_reducible first | exact HB.out | apply below_alloc | apply pw_below_drewN | apply below_drew1) | exact HB.out)⟩⟩
          case round =>
            clear H'
            try clear c1
            try clear p2
            try clear c4
            try clear c5
            try clear c7
            try clear c7b0
            try clear c7b1
            try clear c8
            try clear p2
            obtain ⟨x5_2, x6_2, rfl, HA, HK2, HO_5, HB⟩ := hrel
            cases gk with
            | zero => exact absurd HA.out (by simp [touchstonelaw1_OctetRows.l0])
            | succ k2 =>
              have H := HA.out
              clear HA
              simp only [touchstonelaw1_OctetRows.l0] at H
              by_cases c9 : x6_2 < (l0.length : Int)
              · rw [if_pos c9] at H
                have c9b0 : decide (x6_2 < (l0.length : Int)) = true := decide_eq_true c9
                clear c9
                by_cases c10 : 0 ≤ x6_2
                · rw [if_pos c10] at H
                  have c10b0 : decide (0 ≤ x6_2) = true := decide_eq_true c10
                  clear c10
                  replace H := Option.bind_eq_some_iff.mp H
                  obtain ⟨t205, A110, H⟩ := H
                  replace H : (touchstonelaw1_OctetRows.l0 k2 l0 l1 t205 (wrap64 (x6_2 + 1))) = some r := H
                  have A11 := Aside0.mk A110
                  clear A110
                  have H' := Aside0.mk H
                  clear H
                  have p204 : 0 ≤ (x6_2 : Int) := of_decide_eq_true (by first | (with_reducible assumption) | assumption)
                  have q204 : x6_2 < (l0.length : Int) := of_decide_eq_true (by first | (with_reducible assumption) | assumption)
                  obtain ⟨ad204, e204, hx204_0⟩ := Kd.at_int HR0.out x6_2 p204 q204
                  cases e204
                  replace hx204_0 := (HB.out.cell (World.block_lt_of_cell? w _ hx204_0)).trans hx204_0
                  replace p204 := eq_true p204
                  replace q204 := eq_true q204
                  obtain ⟨Ao12, co12, eo12, _⟩ := Kd.Q_slice HO_5.out
                  subst eo12
                  go_wp2_with (first | (go_at_call 11; (with_reducible refine (octet_Var.calls k2 _ _ x5_2 (rd l0 x6_2) t205 _ ?side1 ?side2 A11.out).mono ?_); (case side1 => repeat (first | exact (Kd.Q_reads' HO_5.out).2.2 | (with_reducible refine Kd.C_alloc ?_ _) | (with_reducible refine Kd.C_drewN ?_ _) | (with_reducible refine Kd.C_drew ?_))); (case side2 => exact (Kd.Q_reads' HO_5.out).2.1); rintro e w13 ⟨v206, rfl, ho0, hb⟩; have n0_ := Aside0.mk (Kd.Q_elder' (by (with_reducible repeat (first | apply Kd.Q_alloc | apply Kd.Q_drewN | apply Kd.Q_drew)); exact HO_5.out) (Kd.R_base ho0) hb); have n1_ := Aside0.mk (Kd.R_lower (Kd.R_new' ho0 (Kd.Q_lt (by (with_reducible repeat (first | apply Kd.Q_alloc | apply Kd.Q_drewN | apply Kd.Q_drew)); exact HO_5.out))) (below_size (by repeat (first | (with_reducible first | exact HB.out | apply below_alloc | apply pw_below_drewN | apply below_drew1) | exact HB.out)))); have n2_ := Aside0.mk (below_step (by repeat (first | (with_reducible first | exact HB.out | apply below_alloc | apply pw_below_drewN | apply below_drew1) | exact HB.out)) hb); clear HO_5; clear HB; have HO_5 := n0_; have HO207 := n1_; have HB := n2_; clear n0_ n1_ n2_; (try clear hb); (try clear hb2); (try clear hk); (try clear hi); (try clear ho0)))
                  repeat (go_quiet (first | (go_at_call 11; (with_reducible refine (octet_Var.calls k2 _ _ x5_2 (rd l0 x6_2) t205 _ ?side1 ?side2 A11.out).mono ?_); (case side1 => repeat (first | exact (Kd.Q_reads' HO_5.out).2.2 | (with_reducible refine Kd.C_alloc ?_ _) | (with_reducible refine Kd.C_drewN ?_ _) | (with_reducible refine Kd.C_drew ?_))); (case side2 => exact (Kd.Q_reads' HO_5.out).2.1); rintro e w13 ⟨v206, rfl, ho0, hb⟩; have n0_ := Aside0.mk (Kd.Q_elder' (by (with_reducible repeat (first | apply Kd.Q_alloc | apply Kd.Q_drewN | apply Kd.Q_drew)); exact HO_5.out) (Kd.R_base ho0) hb); have n1_ := Aside0.mk (Kd.R_lower (Kd.R_new' ho0 (Kd.Q_lt (by (with_reducible repeat (first | apply Kd.Q_alloc | apply Kd.Q_drewN | apply Kd.Q_drew)); exact HO_5.out))) (below_size (by repeat (first | (with_reducible first | exact HB.out | apply below_alloc | apply pw_below_drewN | apply below_drew1) | exact HB.out)))); have n2_ := Aside0.mk (below_step (by repeat (first | (with_reducible first | exact HB.out | apply below_alloc | apply pw_below_drewN | apply below_drew1) | exact HB.out)) hb); clear HO_5; clear HB; have HO_5 := n0_; have HO207 := n1_; have HB := n2_; clear n0_ n1_ n2_; (try clear hb); (try clear hb2); (try clear hk); (try clear hi); (try clear ho0))); try go_wp2_with (first | (go_at_call 11; (with_reducible refine (octet_Var.calls k2 _ _ x5_2 (rd l0 x6_2) t205 _ ?side1 ?side2 A11.out).mono ?_); (case side1 => repeat (first | exact (Kd.Q_reads' HO_5.out).2.2 | (with_reducible refine Kd.C_alloc ?_ _) | (with_reducible refine Kd.C_drewN ?_ _) | (with_reducible refine Kd.C_drew ?_))); (case side2 => exact (Kd.Q_reads' HO_5.out).2.1); rintro e w13 ⟨v206, rfl, ho0, hb⟩; have n0_ := Aside0.mk (Kd.Q_elder' (by (with_reducible repeat (first | apply Kd.Q_alloc | apply Kd.Q_drewN | apply Kd.Q_drew)); exact HO_5.out) (Kd.R_base ho0) hb); have n1_ := Aside0.mk (Kd.R_lower (Kd.R_new' ho0 (Kd.Q_lt (by (with_reducible repeat (first | apply Kd.Q_alloc | apply Kd.Q_drewN | apply Kd.Q_drew)); exact HO_5.out))) (below_size (by repeat (first | (with_reducible first | exact HB.out | apply below_alloc | apply pw_below_drewN | apply below_drew1) | exact HB.out)))); have n2_ := Aside0.mk (below_step (by repeat (first | (with_reducible first | exact HB.out | apply below_alloc | apply pw_below_drewN | apply below_drew1) | exact HB.out)) hb); clear HO_5; clear HB; have HO_5 := n0_; have HO207 := n1_; have HB := n2_; clear n0_ n1_ n2_; (try clear hb); (try clear hb2); (try clear hk); (try clear hi); (try clear ho0))))
                  go_roundg k2
                  case measure => have := HJ4.out; have := HK2.out; omega
                  case rel => exact ⟨(t205), (wrap64 (x6_2 + 1)), (by first | rfl | (simp; done) | (simp [*]; done)), H', ⟨by have := HJ4.out; have := HK2.out; omega⟩, ⟨Kd.Q_of_R (by (with_reducible repeat (first | apply Kd.R_alloc | apply Kd.R_drewN | apply Kd.R_drew)); exact Kd.R_mono HO207.out (fun _ hk => trivial))⟩, ⟨by repeat (first | (with_reducible first | exact HB.out | apply below_alloc | apply pw_below_drewN | apply below_drew1) | exact HB.out)⟩⟩
                · rw [if_neg c10] at H
                  exact absurd H (by simp)
              · rw [if_neg c9] at H
                have c9b0 : decide (x6_2 < (l0.length : Int)) = false := decide_eq_false c9
                clear c9
                have H' := Aside0.mk H
                clear H
                go_wp2
                repeat (go_quiet (fail); try go_wp2)
                go_loopg [5, 7] k2 (fun kq v5 v7 w' => ∃ (x5_3 : List Int) (x7_3 : Int), v7 = .int .i64 x7_3 ∧ Aside0 (touchstonelaw1_OctetRows.l1 kq l0 l1 x5_3 x7_3 = some r) ∧ Aside0 (kq ≤ k2) ∧ Aside0 (Kd.Q (Kd.int .u8) 5 w' w.heap.size (fun _ => True) v5 x5_3) ∧ Aside0 (Below w.heap.size w w'))
                case atStart => exact ⟨(x5_2), (0), (by first | rfl | (simp; done) | (simp [*]; done)), H', ⟨Nat.le_refl _⟩, ⟨by (with_reducible repeat (first | apply Kd.Q_alloc | apply Kd.Q_drewN | apply Kd.Q_drew)); exact HO_5.out⟩, ⟨by repeat (first | (with_reducible first | exact HB.out | apply below_alloc | apply pw_below_drewN | apply below_drew1) | exact HB.out)⟩⟩
                case round =>
                  clear H'
                  try clear c1
                  try clear p2
                  try clear q2
                  try clear hx2
                  try clear c4
                  try clear c5
                  try clear p6
                  try clear c7
                  try clear c7b0
                  try clear c7b1
                  try clear c8
                  try clear c9
                  try clear c9b0
                  try clear c10
                  try clear c10b0
                  try clear hx204_0
                  try clear p2
                  try clear p204
                  try clear q204
                  obtain ⟨x5_3, x7_3, rfl, HA, HK3, HO_5, HB⟩ := hrel
                  cases gk with
                  | zero => exact absurd HA.out (by simp [touchstonelaw1_OctetRows.l1])
                  | succ k3 =>
                    have H := HA.out
                    clear HA
                    simp only [touchstonelaw1_OctetRows.l1] at H
                    by_cases c14 : x7_3 < (l1.length : Int)
                    · rw [if_pos c14] at H
                      have c14b0 : decide (x7_3 < (l1.length : Int)) = true := decide_eq_true c14
                      clear c14
                      by_cases c15 : 0 ≤ x7_3
                      · rw [if_pos c15] at H
                        have c15b0 : decide (0 ≤ x7_3) = true := decide_eq_true c15
                        clear c15
                        by_cases c16 : ((rd_L1 l1 x7_3).length : Int) > 200
                        · rw [if_pos c16] at H
                          have c16b0 : decide (200 < ((rd_L1 l1 x7_3).length : Int)) = true := decide_eq_true c16
                          have c16b1 : decide (200 < (rd_L1 l1 x7_3).length) = true := decide_eq_true (by omega)
                          clear c16
                          obtain rfl := Option.some.inj H
                          have p208 : 0 ≤ (x7_3 : Int) := of_decide_eq_true (by first | (with_reducible assumption) | assumption)
                          have q208 : x7_3 < (l1.length : Int) := of_decide_eq_true (by first | (with_reducible assumption) | assumption)
                          obtain ⟨ad208, A208_0, c208_0, e208, hx208_0, hl208_0, hi208_0⟩ := at_L1 HR1.out x7_3 p208 q208
                          cases e208
                          replace hx208_0 := (HB.out.cell (World.block_lt_of_cell? w _ hx208_0)).trans hx208_0
                          have HR208_0 := Aside0.mk hi208_0
                          have HC208_0 := Aside0.mk hl208_0
                          clear hi208_0 hl208_0
                          replace p208 := eq_true p208
                          replace q208 := eq_true q208
                          go_wp2
                          repeat (go_quiet (fail); try go_wp2)
                          go_ret
                          exact ⟨by first | rfl | (simp [errW_none, errW_some] <;> rfl) | (simp [*, errW_none, errW_some] <;> rfl), by repeat (first | (with_reducible first | exact HB.out | apply below_alloc | apply pw_below_drewN | apply below_drew1) | exact HB.out)⟩
                        · rw [if_neg c16] at H
                          have c16b0 : decide (200 < ((rd_L1 l1 x7_3).length : Int)) = false := decide_eq_false c16
                          have c16b1 : decide (200 < (rd_L1 l1 x7_3).length) = false := decide_eq_false (by omega)
                          clear c16
                          replace H := Option.bind_eq_some_iff.mp H
                          obtain ⟨t210, A170, H⟩ := H
                          replace H : (touchstonelaw1_OctetRows.l1 k3 l0 l1 t210 (wrap64 (x7_3 + 1))) = some r := H
                          have A17 := Aside0.mk A170
                          clear A170
                          have H' := Aside0.mk H
                          clear H
                          have p208 : 0 ≤ (x7_3 : Int) := of_decide_eq_true (by first | (with_reducible assumption) | assumption)
                          have q208 : x7_3 < (l1.length : Int) := of_decide_eq_true (by first | (with_reducible assumption) | assumption)
                          obtain ⟨ad208, A208_0, c208_0, e208, hx208_0, hl208_0, hi208_0⟩ := at_L1 HR1.out x7_3 p208 q208
                          cases e208
                          replace hx208_0 := (HB.out.cell (World.block_lt_of_cell? w _ hx208_0)).trans hx208_0
                          have HR208_0 := Aside0.mk hi208_0
                          have HC208_0 := Aside0.mk hl208_0
                          clear hi208_0 hl208_0
                          replace p208 := eq_true p208
                          replace q208 := eq_true q208
                          have p209 : 0 ≤ (x7_3 : Int) := of_decide_eq_true (by first | (with_reducible assumption) | assumption)
                          have q209 : x7_3 < (l1.length : Int) := of_decide_eq_true (by first | (with_reducible assumption) | assumption)
                          obtain ⟨ad209, A209_0, c209_0, e209, hx209_0, hl209_0, hi209_0⟩ := at_L1 HR1.out x7_3 p209 q209
                          obtain rfl : ad208 = ad209 := (by injection e209)
                          replace hx209_0 := (HB.out.cell (World.block_lt_of_cell? w _ hx209_0)).trans hx209_0
                          have HR209_0 := Aside0.mk hi209_0
                          have HC209_0 := Aside0.mk hl209_0
                          clear hi209_0 hl209_0
                          replace p209 := eq_true p209
                          replace q209 := eq_true q209
                          have ea_ := Option.some.inj (hx208_0.symm.trans hx209_0)
                          injection ea_ with ea_ en_ ec_
                          subst ea_
                          subst ec_
                          clear en_
                          obtain ⟨Ao18, co18, eo18, _⟩ := Kd.Q_slice HO_5.out
                          subst eo18
                          go_wp2_with (first | (go_at_call 13; (with_reducible refine (octet_Text.calls k3 _ _ x5_3 _ _ (rd_L1 l1 x7_3) t210 _ ?side1 ?side2 ?side3 ?side4 A17.out).mono ?_); (case side1 => repeat (first | exact (Kd.Q_reads' HO_5.out).2.2 | (with_reducible refine Kd.C_alloc ?_ _) | (with_reducible refine Kd.C_drewN ?_ _) | (with_reducible refine Kd.C_drew ?_))); (case side2 => exact (Kd.Q_reads' HO_5.out).2.1); (case side3 => repeat (first | exact (Kd.C_below HR209_0.out HB.out) | (with_reducible refine Kd.C_alloc ?_ _) | (with_reducible refine Kd.C_drewN ?_ _) | (with_reducible refine Kd.C_drew ?_))); (case side4 => exact HC209_0.out); rintro e w19 ⟨v211, rfl, ho0, hb⟩; have n0_ := Aside0.mk (Kd.Q_elder' (by (with_reducible repeat (first | apply Kd.Q_alloc | apply Kd.Q_drewN | apply Kd.Q_drew)); exact HO_5.out) (Kd.R_base ho0) hb); have n1_ := Aside0.mk (Kd.R_lower (Kd.R_new' ho0 (Kd.Q_lt (by (with_reducible repeat (first | apply Kd.Q_alloc | apply Kd.Q_drewN | apply Kd.Q_drew)); exact HO_5.out))) (below_size (by repeat (first | (with_reducible first | exact HB.out | apply below_alloc | apply pw_below_drewN | apply below_drew1) | exact HB.out)))); have n2_ := Aside0.mk (below_step (by repeat (first | (with_reducible first | exact HB.out | apply below_alloc | apply pw_below_drewN | apply below_drew1) | exact HB.out)) hb); clear HO_5; clear HB; have HO_5 := n0_; have HO212 := n1_; have HB := n2_; clear n0_ n1_ n2_; (try clear hb); (try clear hb2); (try clear hk); (try clear hi); (try clear ho0)))
                          repeat (go_quiet (first | (go_at_call 13; (with_reducible refine (octet_Text.calls k3 _ _ x5_3 _ _ (rd_L1 l1 x7_3) t210 _ ?side1 ?side2 ?side3 ?side4 A17.out).mono ?_); (case side1 => repeat (first | exact (Kd.Q_reads' HO_5.out).2.2 | (with_reducible refine Kd.C_alloc ?_ _) | (with_reducible refine Kd.C_drewN ?_ _) | (with_reducible refine Kd.C_drew ?_))); (case side2 => exact (Kd.Q_reads' HO_5.out).2.1); (case side3 => repeat (first | exact (Kd.C_below HR209_0.out HB.out) | (with_reducible refine Kd.C_alloc ?_ _) | (with_reducible refine Kd.C_drewN ?_ _) | (with_reducible refine Kd.C_drew ?_))); (case side4 => exact HC209_0.out); rintro e w19 ⟨v211, rfl, ho0, hb⟩; have n0_ := Aside0.mk (Kd.Q_elder' (by (with_reducible repeat (first | apply Kd.Q_alloc | apply Kd.Q_drewN | apply Kd.Q_drew)); exact HO_5.out) (Kd.R_base ho0) hb); have n1_ := Aside0.mk (Kd.R_lower (Kd.R_new' ho0 (Kd.Q_lt (by (with_reducible repeat (first | apply Kd.Q_alloc | apply Kd.Q_drewN | apply Kd.Q_drew)); exact HO_5.out))) (below_size (by repeat (first | (with_reducible first | exact HB.out | apply below_alloc | apply pw_below_drewN | apply below_drew1) | exact HB.out)))); have n2_ := Aside0.mk (below_step (by repeat (first | (with_reducible first | exact HB.out | apply below_alloc | apply pw_below_drewN | apply below_drew1) | exact HB.out)) hb); clear HO_5; clear HB; have HO_5 := n0_; have HO212 := n1_; have HB := n2_; clear n0_ n1_ n2_; (try clear hb); (try clear hb2); (try clear hk); (try clear hi); (try clear ho0))); try go_wp2_with (first | (go_at_call 13; (with_reducible refine (octet_Text.calls k3 _ _ x5_3 _ _ (rd_L1 l1 x7_3) t210 _ ?side1 ?side2 ?side3 ?side4 A17.out).mono ?_); (case side1 => repeat (first | exact (Kd.Q_reads' HO_5.out).2.2 | (with_reducible refine Kd.C_alloc ?_ _) | (with_reducible refine Kd.C_drewN ?_ _) | (with_reducible refine Kd.C_drew ?_))); (case side2 => exact (Kd.Q_reads' HO_5.out).2.1); (case side3 => repeat (first | exact (Kd.C_below HR209_0.out HB.out) | (with_reducible refine Kd.C_alloc ?_ _) | (with_reducible refine Kd.C_drewN ?_ _) | (with_reducible refine Kd.C_drew ?_))); (case side4 => exact HC209_0.out); rintro e w19 ⟨v211, rfl, ho0, hb⟩; have n0_ := Aside0.mk (Kd.Q_elder' (by (with_reducible repeat (first | apply Kd.Q_alloc | apply Kd.Q_drewN | apply Kd.Q_drew)); exact HO_5.out) (Kd.R_base ho0) hb); have n1_ := Aside0.mk (Kd.R_lower (Kd.R_new' ho0 (Kd.Q_lt (by (with_reducible repeat (first | apply Kd.Q_alloc | apply Kd.Q_drewN | apply Kd.Q_drew)); exact HO_5.out))) (below_size (by repeat (first | (with_reducible first | exact HB.out | apply below_alloc | apply pw_below_drewN | apply below_drew1) | exact HB.out)))); have n2_ := Aside0.mk (below_step (by repeat (first | (with_reducible first | exact HB.out | apply below_alloc | apply pw_below_drewN | apply below_drew1) | exact HB.out)) hb); clear HO_5; clear HB; have HO_5 := n0_; have HO212 := n1_; have HB := n2_; clear n0_ n1_ n2_; (try clear hb); (try clear hb2); (try clear hk); (try clear hi); (try clear ho0))))
                          go_roundg k3
                          case measure => have := HJ4.out; have := HK2.out; have := HK3.out; omega
                          case rel => exact ⟨(t210), (wrap64 (x7_3 + 1)), (by first | rfl | (simp; done) | (simp [*]; done)), H', ⟨by have := HJ4.out; have := HK2.out; have := HK3.out; omega⟩, ⟨Kd.Q_of_R (by (with_reducible repeat (first | apply Kd.R_alloc | apply Kd.R_drewN | apply Kd.R_drew)); exact Kd.R_mono HO212.out (fun _ hk => trivial))⟩, ⟨by repeat (first | (with_reducible first | exact HB.out | apply below_alloc | apply pw_below_drewN | apply below_drew1) | exact HB.out)⟩⟩
                      · rw [if_neg c15] at H
                        exact absurd H (by simp)
                    · rw [if_neg c14] at H
                      have c14b0 : decide (x7_3 < (l1.length : Int)) = false := decide_eq_false c14
                      clear c14
                      have H' := Aside0.mk H
                      clear H
                      go_wp2
                      repeat (go_quiet (fail); try go_wp2)
                      go_loopg [5, 8] k3 (fun kq v5 v8 w' => ∃ (x5_4 : List Int) (x8_4 : Int), v8 = .int .i64 x8_4 ∧ Aside0 (touchstonelaw1_OctetRows.l2 kq l0 l1 x5_4 x8_4 = some r) ∧ Aside0 (kq ≤ k3) ∧ Aside0 (Kd.Q (Kd.int .u8) 5 w' w.heap.size (fun _ => True) v5 x5_4) ∧ Aside0 (Below w.heap.size w w'))
                      case atStart => exact ⟨(x5_3), (0), (by first | rfl | (simp; done) | (simp [*]; done)), H', ⟨Nat.le_refl _⟩, ⟨by (with_reducible repeat (first | apply Kd.Q_alloc | apply Kd.Q_drewN | apply Kd.Q_drew)); exact HO_5.out⟩, ⟨by repeat (first | (with_reducible first | exact HB.out | apply below_alloc | apply pw_below_drewN | apply below_drew1) | exact HB.out)⟩⟩
                      case round =>
                        clear H'
                        try clear c1
                        try clear c2
                        try clear p2
                        try clear q2
                        try clear hx2
                        try clear c4
                        try clear c5
                        try clear p6
                        try clear c7
                        try clear c7b0
                        try clear c7b1
                        try clear c8
                        try clear c9
                        try clear c9b0
                        try clear c10
                        try clear c10b0
                        try clear c14
                        try clear c14b0
                        try clear c15
                        try clear c15b0
                        try clear c16
                        try clear c16b0
                        try clear c16b1
                        try clear hx204_0
                        try clear hx208_0
                        try clear hx209_0
                        try clear p2
                        try clear p204
                        try clear p208
                        try clear p209
                        try clear p6
                        try clear q2
                        try clear q204
                        try clear q208
                        try clear q209
                        obtain ⟨x5_4, x8_4, rfl, HA, HK4, HO_5, HB⟩ := hrel
                        cases gk with
                        | zero => exact absurd HA.out (by simp [touchstonelaw1_OctetRows.l2])
                        | succ k4 =>
                          have H := HA.out
                          clear HA
                          simp only [touchstonelaw1_OctetRows.l2] at H
                          by_cases c20 : x8_4 < (l0.length : Int)
                          · rw [if_pos c20] at H
                            have c20b0 : decide (x8_4 < (l0.length : Int)) = true := decide_eq_true c20
                            clear c20
                            replace H := Option.bind_eq_some_iff.mp H
                            obtain ⟨⟨t213, t214, t215⟩, A210, H⟩ := H
                            replace H : (if t215 = 0 then (if 0 ≤ x8_4 then (if t213 = (rd l0 x8_4) then (if 0 ≤ t214 then (if t214 ≤ (x5_4.length : Int) then (touchstonelaw1_OctetRows.l2 k4 l0 l1 (x5_4.drop (t214 : Int).toNat) (wrap64 (x8_4 + 1))) else (none)) else (none)) else (some false)) else (none)) else (some false)) = some r := H
                            have A21 := Aside0.mk A210
                            clear A210
                            by_cases c22 : t215 = 0
                            · rw [if_pos c22] at H
                              have c22b0 : (t215 == 0) = true := beq_iff_eq.mpr c22
                              have c22b1 : (t215 != 0) = false := bne_eq_false_iff_eq.mpr c22
                              clear c22
                              by_cases c23 : 0 ≤ x8_4
                              · rw [if_pos c23] at H
                                have c23b0 : decide (0 ≤ x8_4) = true := decide_eq_true c23
                                clear c23
                                by_cases c24 : t213 = (rd l0 x8_4)
                                · rw [if_pos c24] at H
                                  have c24b0 : (t213 == (rd l0 x8_4)) = true := beq_iff_eq.mpr c24
                                  have c24b1 : (t213 != (rd l0 x8_4)) = false := bne_eq_false_iff_eq.mpr c24
                                  clear c24
                                  by_cases c25 : 0 ≤ t214
                                  · rw [if_pos c25] at H
                                    have c25b0 := eq_true c25
                                    have c25b1 : decide (0 ≤ t214) = true := decide_eq_true c25
                                    clear c25
                                    by_cases c26 : t214 ≤ (x5_4.length : Int)
                                    · rw [if_pos c26] at H
                                      have c26b0 := eq_true c26
                                      have c26b1 : decide (t214 ≤ (x5_4.length : Int)) = true := decide_eq_true c26
                                      clear c26
                                      obtain ⟨y217, hy217⟩ : ∃ y_ : List Int, y_ = (x5_4.drop (t214 : Int).toNat) := ⟨_, rfl⟩
                                      replace H : (touchstonelaw1_OctetRows.l2 k4 l0 l1 y217 (wrap64 (x8_4 + 1))) = some r := by first | (rw [hy217]; with_reducible exact H) | (have H2_ := (Option.bind_some _ _).symm.trans H; rw [hy217]; with_reducible exact H2_) | (have H2_ := (Option.bind_some _ _).symm.trans H; with_reducible exact H2_) | with_reducible exact H | (rw [hy217]; exact H) | exact H
                                      have Ny217 := Aside0.mk hy217
                                      clear hy217
                                      have H' := Aside0.mk H
                                      clear H
                                      obtain ⟨Ao27, co27, eo27, _⟩ := Kd.Q_slice HO_5.out
                                      subst eo27
                                      go_wp2_with (first | (go_at_call 20; (with_reducible refine (octet_TakeVar.calls k4 _ _ x5_4 t213 t214 t215 _ ?side1 ?side2 A21.out).mono ?_); (case side1 => repeat (first | exact (Kd.Q_reads' HO_5.out).2.2 | (with_reducible refine Kd.C_alloc ?_ _) | (with_reducible refine Kd.C_drewN ?_ _) | (with_reducible refine Kd.C_drew ?_))); (case side2 => exact (Kd.Q_reads' HO_5.out).2.1); rintro e w' ⟨rfl, ⟨nd, rfl⟩⟩; (try first | exact ⟨rfl, _, World.drewN_drewN _ _ _⟩ | exact ⟨rfl, _, Eq.trans (World.drewN_drewN _ _ _) (congrArg (World.drewN _) (Nat.add_assoc _ _ _))⟩); have p216 : 0 ≤ (x8_4 : Int) := of_decide_eq_true (by first | (with_reducible assumption) | assumption); have q216 : x8_4 < (l0.length : Int) := of_decide_eq_true (by first | (with_reducible assumption) | assumption); obtain ⟨ad216, e216, hx216_0⟩ := Kd.at_int HR0.out x8_4 p216 q216; cases e216; replace hx216_0 := (HB.out.cell (World.block_lt_of_cell? w _ hx216_0)).trans hx216_0; replace p216 := eq_true p216; replace q216 := eq_true q216; have q28 : (t214 : Int) ≤ ((x5_4.length : Int) : Int) := of_decide_eq_true (by first | (with_reducible assumption) | assumption); obtain ⟨i028, hi028, _, hsz28, _⟩ := info_parts info5; have hcut28 := cut_from (P := Try.prog) 24 5 .i64 Try.underlying24 hi028 1 hsz28 Ao27 x5_4.length co27 t214 (of_decide_eq_true (by first | (with_reducible assumption) | assumption)) q28; have hr28 := Kd.Q_drop (k := (t214 : Int).toNat) HO_5.out (by omega); obtain ⟨A28, hA28⟩ : ∃ A1, A1 = (if co27 = (t214 : Int).toNat then Ao27 else (Ao27 : Option Addr).map (·.add ((t214 : Int).toNat * 1))) := ⟨_, rfl⟩; obtain ⟨c28, hc28⟩ : ∃ c1, c1 = co27 - (t214 : Int).toNat := ⟨_, rfl⟩; have hy28 : y217.length = x5_4.length - (t214 : Int).toNat := (by rw [Ny217.out, List.length_drop]); rw [← Ny217.out] at hr28; rw [← hy28, ← hA28, ← hc28] at hcut28; replace hr28 : Kd.Q (Kd.int .u8) 5 wr w.heap.size (fun _ => True) (.slice A28 y217.length c28) y217 := (by rw [hA28, hc28, hy28]; exact hr28); have HE28 : Aside0 ((Value.slice A28 y217.length c28).ownBlock = (.slice Ao27 x5_4.length co27 : Value).ownBlock) := ⟨by rw [hA28]; split <;> (cases (Ao27 : Option Addr) <;> (first | rfl | simp [Value.ownBlock, add_block]))⟩; clear hy28 hi028 hsz28 HO_5 hA28 hc28; have HO219 := Aside0.mk hr28; clear hr28; replace q28 := eq_true q28))
                                      repeat (go_quiet (first | (go_at_call 20; (with_reducible refine (octet_TakeVar.calls k4 _ _ x5_4 t213 t214 t215 _ ?side1 ?side2 A21.out).mono ?_); (case side1 => repeat (first | exact (Kd.Q_reads' HO_5.out).2.2 | (with_reducible refine Kd.C_alloc ?_ _) | (with_reducible refine Kd.C_drewN ?_ _) | (with_reducible refine Kd.C_drew ?_))); (case side2 => exact (Kd.Q_reads' HO_5.out).2.1); rintro e w' ⟨rfl, ⟨nd, rfl⟩⟩; (try first | exact ⟨rfl, _, World.drewN_drewN _ _ _⟩ | exact ⟨rfl, _, Eq.trans (World.drewN_drewN _ _ _) (congrArg (World.drewN _) (Nat.add_assoc _ _ _))⟩); have p216 : 0 ≤ (x8_4 : Int) := of_decide_eq_true (by first | (with_reducible assumption) | assumption); have q216 : x8_4 < (l0.length : Int) := of_decide_eq_true (by first | (with_reducible assumption) | assumption); obtain ⟨ad216, e216, hx216_0⟩ := Kd.at_int HR0.out x8_4 p216 q216; cases e216; replace hx216_0 := (HB.out.cell (World.block_lt_of_cell? w _ hx216_0)).trans hx216_0; replace p216 := eq_true p216; replace q216 := eq_true q216; have q28 : (t214 : Int) ≤ ((x5_4.length : Int) : Int) := of_decide_eq_true (by first | (with_reducible assumption) | assumption); obtain ⟨i028, hi028, _, hsz28, _⟩ := info_parts info5; have hcut28 := cut_from (P := Try.prog) 24 5 .i64 Try.underlying24 hi028 1 hsz28 Ao27 x5_4.length co27 t214 (of_decide_eq_true (by first | (with_reducible assumption) | assumption)) q28; have hr28 := Kd.Q_drop (k := (t214 : Int).toNat) HO_5.out (by omega); obtain ⟨A28, hA28⟩ : ∃ A1, A1 = (if co27 = (t214 : Int).toNat then Ao27 else (Ao27 : Option Addr).map (·.add ((t214 : Int).toNat * 1))) := ⟨_, rfl⟩; obtain ⟨c28, hc28⟩ : ∃ c1, c1 = co27 - (t214 : Int).toNat := ⟨_, rfl⟩; have hy28 : y217.length = x5_4.length - (t214 : Int).toNat := (by rw [Ny217.out, List.length_drop]); rw [← Ny217.out] at hr28; rw [← hy28, ← hA28, ← hc28] at hcut28; replace hr28 : Kd.Q (Kd.int .u8) 5 wr w.heap.size (fun _ => True) (.slice A28 y217.length c28) y217 := (by rw [hA28, hc28, hy28]; exact hr28); have HE28 : Aside0 ((Value.slice A28 y217.length c28).ownBlock = (.slice Ao27 x5_4.length co27 : Value).ownBlock) := ⟨by rw [hA28]; split <;> (cases (Ao27 : Option Addr) <;> (first | rfl | simp [Value.ownBlock, add_block]))⟩; clear hy28 hi028 hsz28 HO_5 hA28 hc28; have HO219 := Aside0.mk hr28; clear hr28; replace q28 := eq_true q28)); try go_wp2_with (first | (go_at_call 20; (with_reducible refine (octet_TakeVar.calls k4 _ _ x5_4 t213 t214 t215 _ ?side1 ?side2 A21.out).mono ?_); (case side1 => repeat (first | exact (Kd.Q_reads' HO_5.out).2.2 | (with_reducible refine Kd.C_alloc ?_ _) | (with_reducible refine Kd.C_drewN ?_ _) | (with_reducible refine Kd.C_drew ?_))); (case side2 => exact (Kd.Q_reads' HO_5.out).2.1); rintro e w' ⟨rfl, ⟨nd, rfl⟩⟩; (try first | exact ⟨rfl, _, World.drewN_drewN _ _ _⟩ | exact ⟨rfl, _, Eq.trans (World.drewN_drewN _ _ _) (congrArg (World.drewN _) (Nat.add_assoc _ _ _))⟩); have p216 : 0 ≤ (x8_4 : Int) := of_decide_eq_true (by first | (with_reducible assumption) | assumption); have q216 : x8_4 < (l0.length : Int) := of_decide_eq_true (by first | (with_reducible assumption) | assumption); obtain ⟨ad216, e216, hx216_0⟩ := Kd.at_int HR0.out x8_4 p216 q216; cases e216; replace hx216_0 := (HB.out.cell (World.block_lt_of_cell? w _ hx216_0)).trans hx216_0; replace p216 := eq_true p216; replace q216 := eq_true q216; have q28 : (t214 : Int) ≤ ((x5_4.length : Int) : Int) := of_decide_eq_true (by first | (with_reducible assumption) | assumption); obtain ⟨i028, hi028, _, hsz28, _⟩ := info_parts info5; have hcut28 := cut_from (P := Try.prog) 24 5 .i64 Try.underlying24 hi028 1 hsz28 Ao27 x5_4.length co27 t214 (of_decide_eq_true (by first | (with_reducible assumption) | assumption)) q28; have hr28 := Kd.Q_drop (k := (t214 : Int).toNat) HO_5.out (by omega); obtain ⟨A28, hA28⟩ : ∃ A1, A1 = (if co27 = (t214 : Int).toNat then Ao27 else (Ao27 : Option Addr).map (·.add ((t214 : Int).toNat * 1))) := ⟨_, rfl⟩; obtain ⟨c28, hc28⟩ : ∃ c1, c1 = co27 - (t214 : Int).toNat := ⟨_, rfl⟩; have hy28 : y217.length = x5_4.length - (t214 : Int).toNat := (by rw [Ny217.out, List.length_drop]); rw [← Ny217.out] at hr28; rw [← hy28, ← hA28, ← hc28] at hcut28; replace hr28 : Kd.Q (Kd.int .u8) 5 wr w.heap.size (fun _ => True) (.slice A28 y217.length c28) y217 := (by rw [hA28, hc28, hy28]; exact hr28); have HE28 : Aside0 ((Value.slice A28 y217.length c28).ownBlock = (.slice Ao27 x5_4.length co27 : Value).ownBlock) := ⟨by rw [hA28]; split <;> (cases (Ao27 : Option Addr) <;> (first | rfl | simp [Value.ownBlock, add_block]))⟩; clear hy28 hi028 hsz28 HO_5 hA28 hc28; have HO219 := Aside0.mk hr28; clear hr28; replace q28 := eq_true q28)))
                                      go_roundg k4
                                      case measure => have := HJ4.out; have := HK2.out; have := HK3.out; have := HK4.out; omega
                                      case rel => exact ⟨(y217), (wrap64 (x8_4 + 1)), (by first | rfl | (simp; done) | (simp [*]; done)), H', ⟨by have := HJ4.out; have := HK2.out; have := HK3.out; have := HK4.out; omega⟩, ⟨by (with_reducible repeat (first | apply Kd.Q_alloc | apply Kd.Q_drewN | apply Kd.Q_drew)); exact HO219.out⟩, ⟨by repeat (first | (with_reducible first | exact HB.out | apply below_alloc | apply pw_below_drewN | apply below_drew1) | exact HB.out)⟩⟩
                                    · rw [if_neg c26] at H
                                      exact absurd H (by simp)
                                  · rw [if_neg c25] at H
                                    exact absurd H (by simp)
                                · rw [if_neg c24] at H
                                  have c24b0 : (t213 == (rd l0 x8_4)) = false := beq_eq_false_iff_ne.mpr c24
                                  have c24b1 : (t213 != (rd l0 x8_4)) = true := bne_iff_ne.mpr c24
                                  obtain rfl := Option.some.inj H
                                  obtain ⟨Ao29, co29, eo29, _⟩ := Kd.Q_slice HO_5.out
                                  subst eo29
                                  go_wp2_with (first | (go_at_call 20; (with_reducible refine (octet_TakeVar.calls k4 _ _ x5_4 t213 t214 t215 _ ?side1 ?side2 A21.out).mono ?_); (case side1 => repeat (first | exact (Kd.Q_reads' HO_5.out).2.2 | (with_reducible refine Kd.C_alloc ?_ _) | (with_reducible refine Kd.C_drewN ?_ _) | (with_reducible refine Kd.C_drew ?_))); (case side2 => exact (Kd.Q_reads' HO_5.out).2.1); rintro e w' ⟨rfl, ⟨nd, rfl⟩⟩; (try first | exact ⟨rfl, _, World.drewN_drewN _ _ _⟩ | exact ⟨rfl, _, Eq.trans (World.drewN_drewN _ _ _) (congrArg (World.drewN _) (Nat.add_assoc _ _ _))⟩); have p216 : 0 ≤ (x8_4 : Int) := of_decide_eq_true (by first | (with_reducible assumption) | assumption); have q216 : x8_4 < (l0.length : Int) := of_decide_eq_true (by first | (with_reducible assumption) | assumption); obtain ⟨ad216, e216, hx216_0⟩ := Kd.at_int HR0.out x8_4 p216 q216; cases e216; replace hx216_0 := (HB.out.cell (World.block_lt_of_cell? w _ hx216_0)).trans hx216_0; replace p216 := eq_true p216; replace q216 := eq_true q216))
                                  repeat (go_quiet (first | (go_at_call 20; (with_reducible refine (octet_TakeVar.calls k4 _ _ x5_4 t213 t214 t215 _ ?side1 ?side2 A21.out).mono ?_); (case side1 => repeat (first | exact (Kd.Q_reads' HO_5.out).2.2 | (with_reducible refine Kd.C_alloc ?_ _) | (with_reducible refine Kd.C_drewN ?_ _) | (with_reducible refine Kd.C_drew ?_))); (case side2 => exact (Kd.Q_reads' HO_5.out).2.1); rintro e w' ⟨rfl, ⟨nd, rfl⟩⟩; (try first | exact ⟨rfl, _, World.drewN_drewN _ _ _⟩ | exact ⟨rfl, _, Eq.trans (World.drewN_drewN _ _ _) (congrArg (World.drewN _) (Nat.add_assoc _ _ _))⟩); have p216 : 0 ≤ (x8_4 : Int) := of_decide_eq_true (by first | (with_reducible assumption) | assumption); have q216 : x8_4 < (l0.length : Int) := of_decide_eq_true (by first | (with_reducible assumption) | assumption); obtain ⟨ad216, e216, hx216_0⟩ := Kd.at_int HR0.out x8_4 p216 q216; cases e216; replace hx216_0 := (HB.out.cell (World.block_lt_of_cell? w _ hx216_0)).trans hx216_0; replace p216 := eq_true p216; replace q216 := eq_true q216)); try go_wp2_with (first | (go_at_call 20; (with_reducible refine (octet_TakeVar.calls k4 _ _ x5_4 t213 t214 t215 _ ?side1 ?side2 A21.out).mono ?_); (case side1 => repeat (first | exact (Kd.Q_reads' HO_5.out).2.2 | (with_reducible refine Kd.C_alloc ?_ _) | (with_reducible refine Kd.C_drewN ?_ _) | (with_reducible refine Kd.C_drew ?_))); (case side2 => exact (Kd.Q_reads' HO_5.out).2.1); rintro e w' ⟨rfl, ⟨nd, rfl⟩⟩; (try first | exact ⟨rfl, _, World.drewN_drewN _ _ _⟩ | exact ⟨rfl, _, Eq.trans (World.drewN_drewN _ _ _) (congrArg (World.drewN _) (Nat.add_assoc _ _ _))⟩); have p216 : 0 ≤ (x8_4 : Int) := of_decide_eq_true (by first | (with_reducible assumption) | assumption); have q216 : x8_4 < (l0.length : Int) := of_decide_eq_true (by first | (with_reducible assumption) | assumption); obtain ⟨ad216, e216, hx216_0⟩ := Kd.at_int HR0.out x8_4 p216 q216; cases e216; replace hx216_0 := (HB.out.cell (World.block_lt_of_cell? w _ hx216_0)).trans hx216_0; replace p216 := eq_true p216; replace q216 := eq_true q216)))
                                  go_ret
                                  exact ⟨by first | rfl | (simp [errW_none, errW_some] <;> rfl) | (simp [*, errW_none, errW_some] <;> rfl), by repeat (first | (with_reducible first | exact HB.out | apply below_alloc | apply pw_below_drewN | apply below_drew1) | exact HB.out)⟩
                              · rw [if_neg c23] at H
                                exact absurd H (by simp)
                            · rw [if_neg c22] at H
                              have c22b0 : (t215 == 0) = false := beq_eq_false_iff_ne.mpr c22
                              have c22b1 : (t215 != 0) = true := bne_iff_ne.mpr c22
                              obtain rfl := Option.some.inj H
                              obtain ⟨Ao30, co30, eo30, _⟩ := Kd.Q_slice HO_5.out
                              subst eo30
                              go_wp2_with (first | (go_at_call 20; (with_reducible refine (octet_TakeVar.calls k4 _ _ x5_4 t213 t214 t215 _ ?side1 ?side2 A21.out).mono ?_); (case side1 => repeat (first | exact (Kd.Q_reads' HO_5.out).2.2 | (with_reducible refine Kd.C_alloc ?_ _) | (with_reducible refine Kd.C_drewN ?_ _) | (with_reducible refine Kd.C_drew ?_))); (case side2 => exact (Kd.Q_reads' HO_5.out).2.1); rintro e w' ⟨rfl, ⟨nd, rfl⟩⟩; (try first | exact ⟨rfl, _, World.drewN_drewN _ _ _⟩ | exact ⟨rfl, _, Eq.trans (World.drewN_drewN _ _ _) (congrArg (World.drewN _) (Nat.add_assoc _ _ _))⟩)))
                              repeat (go_quiet (first | (go_at_call 20; (with_reducible refine (octet_TakeVar.calls k4 _ _ x5_4 t213 t214 t215 _ ?side1 ?side2 A21.out).mono ?_); (case side1 => repeat (first | exact (Kd.Q_reads' HO_5.out).2.2 | (with_reducible refine Kd.C_alloc ?_ _) | (with_reducible refine Kd.C_drewN ?_ _) | (with_reducible refine Kd.C_drew ?_))); (case side2 => exact (Kd.Q_reads' HO_5.out).2.1); rintro e w' ⟨rfl, ⟨nd, rfl⟩⟩; (try first | exact ⟨rfl, _, World.drewN_drewN _ _ _⟩ | exact ⟨rfl, _, Eq.trans (World.drewN_drewN _ _ _) (congrArg (World.drewN _) (Nat.add_assoc _ _ _))⟩))); try go_wp2_with (first | (go_at_call 20; (with_reducible refine (octet_TakeVar.calls k4 _ _ x5_4 t213 t214 t215 _ ?side1 ?side2 A21.out).mono ?_); (case side1 => repeat (first | exact (Kd.Q_reads' HO_5.out).2.2 | (with_reducible refine Kd.C_alloc ?_ _) | (with_reducible refine Kd.C_drewN ?_ _) | (with_reducible refine Kd.C_drew ?_))); (case side2 => exact (Kd.Q_reads' HO_5.out).2.1); rintro e w' ⟨rfl, ⟨nd, rfl⟩⟩; (try first | exact ⟨rfl, _, World.drewN_drewN _ _ _⟩ | exact ⟨rfl, _, Eq.trans (World.drewN_drewN _ _ _) (congrArg (World.drewN _) (Nat.add_assoc _ _ _))⟩))))
                              go_ret
                              exact ⟨by first | rfl | (simp [errW_none, errW_some] <;> rfl) | (simp [*, errW_none, errW_some] <;> rfl), by repeat (first | (with_reducible first | exact HB.out | apply below_alloc | apply pw_below_drewN | apply below_drew1) | exact HB.out)⟩
                          · rw [if_neg c20] at H
                            have c20b0 : decide (x8_4 < (l0.length : Int)) = false := decide_eq_false c20
                            clear c20
                            have H' := Aside0.mk H
                            clear H
                            go_wp2
                            repeat (go_quiet (fail); try go_wp2)
                            go_loopg [5, 12] k4 (fun kq v5 v12 w' => ∃ (x5_5 : List Int) (x12_5 : Int), v12 = .int .i64 x12_5 ∧ Aside0 (touchstonelaw1_OctetRows.l3 kq l1 x5_5 x12_5 = some r) ∧ Aside0 (kq ≤ k4) ∧ Aside0 (Kd.Q (Kd.int .u8) 5 w' w.heap.size (fun _ => True) v5 x5_5) ∧ Aside0 (Below w.heap.size w w'))
                            case atStart => exact ⟨(x5_4), (0), (by first | rfl | (simp; done) | (simp [*]; done)), H', ⟨Nat.le_refl _⟩, ⟨by (with_reducible repeat (first | apply Kd.Q_alloc | apply Kd.Q_drewN | apply Kd.Q_drew)); exact HO_5.out⟩, ⟨by repeat (first | (with_reducible first | exact HB.out | apply below_alloc | apply pw_below_drewN | apply below_drew1) | exact HB.out)⟩⟩
                            case round =>
                              clear H'
                              try clear c1
                              try clear c2
                              try clear p2
                              try clear q2
                              try clear hx2
                              try clear c4
                              try clear c5
                              try clear p6
                              try clear c7
                              try clear c7b0
                              try clear c7b1
                              try clear c8
                              try clear c9
                              try clear c9b0
                              try clear c10
                              try clear c10b0
                              try clear c14
                              try clear c14b0
                              try clear c15
                              try clear c15b0
                              try clear c16
                              try clear c16b0
                              try clear c16b1
                              try clear c20
                              try clear c20b0
                              try clear p20
                              try clear q20
                              try clear hx20
                              try clear p21
                              try clear q21
                              try clear hx21
                              try clear c22
                              try clear c22b0
                              try clear c22b1
                              try clear c23
                              try clear c23b0
                              try clear c24
                              try clear c24b0
                              try clear c24b1
                              try clear c25
                              try clear c25b0
                              try clear c25b1
                              try clear c26
                              try clear c26b0
                              try clear c26b1
                              try clear c28
                              try clear q28
                              try clear hx204_0
                              try clear hx208_0
                              try clear hx209_0
                              try clear hx216_0
                              try clear p2
                              try clear p204
                              try clear p208
                              try clear p209
                              try clear p216
                              try clear p6
                              try clear q2
                              try clear q204
                              try clear q208
                              try clear q209
                              try clear q216
                              try clear q28
                              obtain ⟨x5_5, x12_5, rfl, HA, HK5, HO_5, HB⟩ := hrel
                              cases gk with
                              | zero => exact absurd HA.out (by simp [touchstonelaw1_OctetRows.l3])
                              | succ k5 =>
                                have H := HA.out
                                clear HA
                                simp only [touchstonelaw1_OctetRows.l3] at H
                                by_cases c31 : x12_5 < (l1.length : Int)
                                · rw [if_pos c31] at H
                                  have c31b0 : decide (x12_5 < (l1.length : Int)) = true := decide_eq_true c31
                                  clear c31
                                  replace H := Option.bind_eq_some_iff.mp H
                                  obtain ⟨⟨t220, t221, t222⟩, A320, H⟩ := H
                                  replace H : (if t222 = 0 then (if 0 ≤ x12_5 then (if (strOfNums t220).toList = (strOfNums (rd_L1 l1 x12_5)).toList then (if 0 ≤ t221 then (if t221 ≤ (x5_5.length : Int) then (touchstonelaw1_OctetRows.l3 k5 l1 (x5_5.drop (t221 : Int).toNat) (wrap64 (x12_5 + 1))) else (none)) else (none)) else (some false)) else (none)) else (some false)) = some r := H
                                  have A32 := Aside0.mk A320
                                  clear A320
                                  by_cases c33 : t222 = 0
                                  · rw [if_pos c33] at H
                                    have c33b0 : (t222 == 0) = true := beq_iff_eq.mpr c33
                                    have c33b1 : (t222 != 0) = false := bne_eq_false_iff_eq.mpr c33
                                    clear c33
                                    by_cases c34 : 0 ≤ x12_5
                                    · rw [if_pos c34] at H
                                      have c34b0 : decide (0 ≤ x12_5) = true := decide_eq_true c34
                                      clear c34
                                      by_cases c35 : (strOfNums t220).toList = (strOfNums (rd_L1 l1 x12_5)).toList
                                      · rw [if_pos c35] at H
                                        have c35b0 : ((strOfNums t220).toList == (strOfNums (rd_L1 l1 x12_5)).toList) = true := beq_iff_eq.mpr c35
                                        have c35b1 : ((strOfNums t220).toList != (strOfNums (rd_L1 l1 x12_5)).toList) = false := bne_eq_false_iff_eq.mpr c35
                                        clear c35
                                        by_cases c36 : 0 ≤ t221
                                        · rw [if_pos c36] at H
                                          have c36b0 := eq_true c36
                                          have c36b1 : decide (0 ≤ t221) = true := decide_eq_true c36
                                          clear c36
                                          by_cases c37 : t221 ≤ (x5_5.length : Int)
                                          · rw [if_pos c37] at H
                                            have c37b0 := eq_true c37
                                            have c37b1 : decide (t221 ≤ (x5_5.length : Int)) = true := decide_eq_true c37
                                            clear c37
                                            obtain ⟨y226, hy226⟩ : ∃ y_ : List Int, y_ = (x5_5.drop (t221 : Int).toNat) := ⟨_, rfl⟩
                                            replace H : (touchstonelaw1_OctetRows.l3 k5 l1 y226 (wrap64 (x12_5 + 1))) = some r := by first | (rw [hy226]; with_reducible exact H) | (have H2_ := (Option.bind_some _ _).symm.trans H; rw [hy226]; with_reducible exact H2_) | (have H2_ := (Option.bind_some _ _).symm.trans H; with_reducible exact H2_) | with_reducible exact H | (rw [hy226]; exact H) | exact H
                                            have Ny226 := Aside0.mk hy226
                                            clear hy226
                                            have H' := Aside0.mk H
                                            clear H
                                            obtain ⟨Ao38, co38, eo38, _⟩ := Kd.Q_slice HO_5.out
                                            subst eo38
                                            go_wp2_with (first | (go_at_call 21; (with_reducible refine (octet_TakeText.calls k5 _ _ x5_5 200 t220 t221 t222 _ ?side1 ?side2 A32.out).mono ?_); (case side1 => repeat (first | exact (Kd.Q_reads' HO_5.out).2.2 | (with_reducible refine Kd.C_alloc ?_ _) | (with_reducible refine Kd.C_drewN ?_ _) | (with_reducible refine Kd.C_drew ?_))); (case side2 => exact (Kd.Q_reads' HO_5.out).2.1); rintro e w39 ⟨v223, rfl, ho0, hb⟩; have n0_ := Aside0.mk (Kd.Q_elder' (by (with_reducible repeat (first | apply Kd.Q_alloc | apply Kd.Q_drewN | apply Kd.Q_drew)); exact HO_5.out) (Kd.R_base ho0) hb); have n1_ := Aside0.mk (Kd.R_lower (Kd.R_new' ho0 (Kd.Q_lt (by (with_reducible repeat (first | apply Kd.Q_alloc | apply Kd.Q_drewN | apply Kd.Q_drew)); exact HO_5.out))) (below_size (by repeat (first | (with_reducible first | exact HB.out | apply below_alloc | apply pw_below_drewN | apply below_drew1) | exact HB.out)))); have n2_ := Aside0.mk (below_step (by repeat (first | (with_reducible first | exact HB.out | apply below_alloc | apply pw_below_drewN | apply below_drew1) | exact HB.out)) hb); clear HO_5; clear HB; have HO_5 := n0_; have HO224 := n1_; have HB := n2_; clear n0_ n1_ n2_; (try clear hb); (try clear hb2); (try clear hk); (try clear hi); (try clear ho0); have hcv40 := own_string (P := Try.prog) Try.underlying24 Try.underlying5 Try.underlying9 (Kd.own_of_R HO224.out); have hcw41 := fun m_ : Nat => own_string (P := Try.prog) Try.underlying24 Try.underlying5 Try.underlying9 (Kd.own_of_R (Kd.R_drewN HO224.out m_)); have p225 : 0 ≤ (x12_5 : Int) := of_decide_eq_true (by first | (with_reducible assumption) | assumption); have q225 : x12_5 < (l1.length : Int) := of_decide_eq_true (by first | (with_reducible assumption) | assumption); obtain ⟨ad225, A225_0, c225_0, e225, hx225_0, hl225_0, hi225_0⟩ := at_L1 HR1.out x12_5 p225 q225; cases e225; replace hx225_0 := (HB.out.cell (World.block_lt_of_cell? w _ hx225_0)).trans hx225_0; have HR225_0 := Aside0.mk hi225_0; have HC225_0 := Aside0.mk hl225_0; clear hi225_0 hl225_0; replace p225 := eq_true p225; replace q225 := eq_true q225; have hcv42 := Kd.C_string (P := Try.prog) (A := A225_0) (c := c225_0) Try.underlying24 Try.underlying5 Try.underlying9 (Kd.C_below HR225_0.out HB.out); have hcw43 := fun m_ : Nat => Kd.C_string (P := Try.prog) (A := A225_0) (c := c225_0) Try.underlying24 Try.underlying5 Try.underlying9 (Kd.C_drewN (Kd.C_below HR225_0.out HB.out) m_); have n_ := Aside0.mk (Kd.Q_mono (ok' := (fun k_ => some k_ ≠ (v223 : Value).ownBlock)) HO_5.out (fun k_ hk => hk.2)); clear HO_5; have HO_5 := n_; clear n_; have q44 : (t221 : Int) ≤ ((x5_5.length : Int) : Int) := of_decide_eq_true (by first | (with_reducible assumption) | assumption); obtain ⟨i044, hi044, _, hsz44, _⟩ := info_parts info5; have hcut44 := cut_from (P := Try.prog) 24 5 .i64 Try.underlying24 hi044 1 hsz44 Ao38 x5_5.length co38 t221 (of_decide_eq_true (by first | (with_reducible assumption) | assumption)) q44; have hr44 := Kd.Q_drop (k := (t221 : Int).toNat) HO_5.out (by omega); obtain ⟨A44, hA44⟩ : ∃ A1, A1 = (if co38 = (t221 : Int).toNat then Ao38 else (Ao38 : Option Addr).map (·.add ((t221 : Int).toNat * 1))) := ⟨_, rfl⟩; obtain ⟨c44, hc44⟩ : ∃ c1, c1 = co38 - (t221 : Int).toNat := ⟨_, rfl⟩; have hy44 : y226.length = x5_5.length - (t221 : Int).toNat := (by rw [Ny226.out, List.length_drop]); rw [← Ny226.out] at hr44; rw [← hy44, ← hA44, ← hc44] at hcut44; replace hr44 : Kd.Q (Kd.int .u8) 5 w39 w.heap.size (fun k_ => some k_ ≠ (v223 : Value).ownBlock) (.slice A44 y226.length c44) y226 := (by rw [hA44, hc44, hy44]; exact hr44); have HE44 : Aside0 ((Value.slice A44 y226.length c44).ownBlock = (.slice Ao38 x5_5.length co38 : Value).ownBlock) := ⟨by rw [hA44]; split <;> (cases (Ao38 : Option Addr) <;> (first | rfl | simp [Value.ownBlock, add_block]))⟩; clear hy44 hi044 hsz44 HO_5 hA44 hc44; have HO228 := Aside0.mk hr44; clear hr44; replace q44 := eq_true q44; have n_ := Aside0.mk (Kd.R_mono (ok' := fun k_ => (True ∧ some k_ ≠ (.slice A44 y226.length c44 : Value).ownBlock)) HO224.out (fun k_ hk => ⟨trivial, (by rw [HE44.out]; exact hk.2)⟩)); clear HO224; have HO224 := n_; clear n_))
                                            repeat (go_quiet (first | (go_at_call 21; (with_reducible refine (octet_TakeText.calls k5 _ _ x5_5 200 t220 t221 t222 _ ?side1 ?side2 A32.out).mono ?_); (case side1 => repeat (first | exact (Kd.Q_reads' HO_5.out).2.2 | (with_reducible refine Kd.C_alloc ?_ _) | (with_reducible refine Kd.C_drewN ?_ _) | (with_reducible refine Kd.C_drew ?_))); (case side2 => exact (Kd.Q_reads' HO_5.out).2.1); rintro e w39 ⟨v223, rfl, ho0, hb⟩; have n0_ := Aside0.mk (Kd.Q_elder' (by (with_reducible repeat (first | apply Kd.Q_alloc | apply Kd.Q_drewN | apply Kd.Q_drew)); exact HO_5.out) (Kd.R_base ho0) hb); have n1_ := Aside0.mk (Kd.R_lower (Kd.R_new' ho0 (Kd.Q_lt (by (with_reducible repeat (first | apply Kd.Q_alloc | apply Kd.Q_drewN | apply Kd.Q_drew)); exact HO_5.out))) (below_size (by repeat (first | (with_reducible first | exact HB.out | apply below_alloc | apply pw_below_drewN | apply below_drew1) | exact HB.out)))); have n2_ := Aside0.mk (below_step (by repeat (first | (with_reducible first | exact HB.out | apply below_alloc | apply pw_below_drewN | apply below_drew1) | exact HB.out)) hb); clear HO_5; clear HB; have HO_5 := n0_; have HO224 := n1_; have HB := n2_; clear n0_ n1_ n2_; (try clear hb); (try clear hb2); (try clear hk); (try clear hi); (try clear ho0); have hcv40 := own_string (P := Try.prog) Try.underlying24 Try.underlying5 Try.underlying9 (Kd.own_of_R HO224.out); have hcw41 := fun m_ : Nat => own_string (P := Try.prog) Try.underlying24 Try.underlying5 Try.underlying9 (Kd.own_of_R (Kd.R_drewN HO224.out m_)); have p225 : 0 ≤ (x12_5 : Int) := of_decide_eq_true (by first | (with_reducible assumption) | assumption); have q225 : x12_5 < (l1.length : Int) := of_decide_eq_true (by first | (with_reducible assumption) | assumption); obtain ⟨ad225, A225_0, c225_0, e225, hx225_0, hl225_0, hi225_0⟩ := at_L1 HR1.out x12_5 p225 q225; cases e225; replace hx225_0 := (HB.out.cell (World.block_lt_of_cell? w _ hx225_0)).trans hx225_0; have HR225_0 := Aside0.mk hi225_0; have HC225_0 := Aside0.mk hl225_0; clear hi225_0 hl225_0; replace p225 := eq_true p225; replace q225 := eq_true q225; have hcv42 := Kd.C_string (P := Try.prog) (A := A225_0) (c := c225_0) Try.underlying24 Try.underlying5 Try.underlying9 (Kd.C_below HR225_0.out HB.out); have hcw43 := fun m_ : Nat => Kd.C_string (P := Try.prog) (A := A225_0) (c := c225_0) Try.underlying24 Try.underlying5 Try.underlying9 (Kd.C_drewN (Kd.C_below HR225_0.out HB.out) m_); have n_ := Aside0.mk (Kd.Q_mono (ok' := (fun k_ => some k_ ≠ (v223 : Value).ownBlock)) HO_5.out (fun k_ hk => hk.2)); clear HO_5; have HO_5 := n_; clear n_; have q44 : (t221 : Int) ≤ ((x5_5.length : Int) : Int) := of_decide_eq_true (by first | (with_reducible assumption) | assumption); obtain ⟨i044, hi044, _, hsz44, _⟩ := info_parts info5; have hcut44 := cut_from (P := Try.prog) 24 5 .i64 Try.underlying24 hi044 1 hsz44 Ao38 x5_5.length co38 t221 (of_decide_eq_true (by first | (with_reducible assumption) | assumption)) q44; have hr44 := Kd.Q_drop (k := (t221 : Int).toNat) HO_5.out (by omega); obtain ⟨A44, hA44⟩ : ∃ A1, A1 = (if co38 = (t221 : Int).toNat then Ao38 else (Ao38 : Option Addr).map (·.add ((t221 : Int).toNat * 1))) := ⟨_, rfl⟩; obtain ⟨c44, hc44⟩ : ∃ c1, c1 = co38 - (t221 : Int).toNat := ⟨_, rfl⟩; have hy44 : y226.length = x5_5.length - (t221 : Int).toNat := (by rw [Ny226.out, List.length_drop]); rw [← Ny226.out] at hr44; rw [← hy44, ← hA44, ← hc44] at hcut44; replace hr44 : Kd.Q (Kd.int .u8) 5 w39 w.heap.size (fun k_ => some k_ ≠ (v223 : Value).ownBlock) (.slice A44 y226.length c44) y226 := (by rw [hA44, hc44, hy44]; exact hr44); have HE44 : Aside0 ((Value.slice A44 y226.length c44).ownBlock = (.slice Ao38 x5_5.length co38 : Value).ownBlock) := ⟨by rw [hA44]; split <;> (cases (Ao38 : Option Addr) <;> (first | rfl | simp [Value.ownBlock, add_block]))⟩; clear hy44 hi044 hsz44 HO_5 hA44 hc44; have HO228 := Aside0.mk hr44; clear hr44; replace q44 := eq_true q44; have n_ := Aside0.mk (Kd.R_mono (ok' := fun k_ => (True ∧ some k_ ≠ (.slice A44 y226.length c44 : Value).ownBlock)) HO224.out (fun k_ hk => ⟨trivial, (by rw [HE44.out]; exact hk.2)⟩)); clear HO224; have HO224 := n_; clear n_)); try go_wp2_with (first | (go_at_call 21; (with_reducible refine (octet_TakeText.calls k5 _ _ x5_5 200 t220 t221 t222 _ ?side1 ?side2 A32.out).mono ?_); (case side1 => repeat (first | exact (Kd.Q_reads' HO_5.out).2.2 | (with_reducible refine Kd.C_alloc ?_ _) | (with_reducible refine Kd.C_drewN ?_ _) | (with_reducible refine Kd.C_drew ?_))); (case side2 => exact (Kd.Q_reads' HO_5.out).2.1); rintro e w39 ⟨v223, rfl, ho0, hb⟩; have n0_ := Aside0.mk (Kd.Q_elder' (by (with_reducible repeat (first | apply Kd.Q_alloc | apply Kd.Q_drewN | apply Kd.Q_drew)); exact HO_5.out) (Kd.R_base ho0) hb); have n1_ := Aside0.mk (Kd.R_lower (Kd.R_new' ho0 (Kd.Q_lt (by (with_reducible repeat (first | apply Kd.Q_alloc | apply Kd.Q_drewN | apply Kd.Q_drew)); exact HO_5.out))) (below_size (by repeat (first | (with_reducible first | exact HB.out | apply below_alloc | apply pw_below_drewN | apply below_drew1) | exact HB.out)))); have n2_ := Aside0.mk (below_step (by repeat (first | (with_reducible first | exact HB.out | apply below_alloc | apply pw_below_drewN | apply below_drew1) | exact HB.out)) hb); clear HO_5; clear HB; have HO_5 := n0_; have HO224 := n1_; have HB := n2_; clear n0_ n1_ n2_; (try clear hb); (try clear hb2); (try clear hk); (try clear hi); (try clear ho0); have hcv40 := own_string (P := Try.prog) Try.underlying24 Try.underlying5 Try.underlying9 (Kd.own_of_R HO224.out); have hcw41 := fun m_ : Nat => own_string (P := Try.prog) Try.underlying24 Try.underlying5 Try.underlying9 (Kd.own_of_R (Kd.R_drewN HO224.out m_)); have p225 : 0 ≤ (x12_5 : Int) := of_decide_eq_true (by first | (with_reducible assumption) | assumption); have q225 : x12_5 < (l1.length : Int) := of_decide_eq_true (by first | (with_reducible assumption) | assumption); obtain ⟨ad225, A225_0, c225_0, e225, hx225_0, hl225_0, hi225_0⟩ := at_L1 HR1.out x12_5 p225 q225; cases e225; replace hx225_0 := (HB.out.cell (World.block_lt_of_cell? w _ hx225_0)).trans hx225_0; have HR225_0 := Aside0.mk hi225_0; have HC225_0 := Aside0.mk hl225_0; clear hi225_0 hl225_0; replace p225 := eq_true p225; replace q225 := eq_true q225; have hcv42 := Kd.C_string (P := Try.prog) (A := A225_0) (c := c225_0) Try.underlying24 Try.underlying5 Try.underlying9 (Kd.C_below HR225_0.out HB.out); have hcw43 := fun m_ : Nat => Kd.C_string (P := Try.prog) (A := A225_0) (c := c225_0) Try.underlying24 Try.underlying5 Try.underlying9 (Kd.C_drewN (Kd.C_below HR225_0.out HB.out) m_); have n_ := Aside0.mk (Kd.Q_mono (ok' := (fun k_ => some k_ ≠ (v223 : Value).ownBlock)) HO_5.out (fun k_ hk => hk.2)); clear HO_5; have HO_5 := n_; clear n_; have q44 : (t221 : Int) ≤ ((x5_5.length : Int) : Int) := of_decide_eq_true (by first | (with_reducible assumption) | assumption); obtain ⟨i044, hi044, _, hsz44, _⟩ := info_parts info5; have hcut44 := cut_from (P := Try.prog) 24 5 .i64 Try.underlying24 hi044 1 hsz44 Ao38 x5_5.length co38 t221 (of_decide_eq_true (by first | (with_reducible assumption) | assumption)) q44; have hr44 := Kd.Q_drop (k := (t221 : Int).toNat) HO_5.out (by omega); obtain ⟨A44, hA44⟩ : ∃ A1, A1 = (if co38 = (t221 : Int).toNat then Ao38 else (Ao38 : Option Addr).map (·.add ((t221 : Int).toNat * 1))) := ⟨_, rfl⟩; obtain ⟨c44, hc44⟩ : ∃ c1, c1 = co38 - (t221 : Int).toNat := ⟨_, rfl⟩; have hy44 : y226.length = x5_5.length - (t221 : Int).toNat := (by rw [Ny226.out, List.length_drop]); rw [← Ny226.out] at hr44; rw [← hy44, ← hA44, ← hc44] at hcut44; replace hr44 : Kd.Q (Kd.int .u8) 5 w39 w.heap.size (fun k_ => some k_ ≠ (v223 : Value).ownBlock) (.slice A44 y226.length c44) y226 := (by rw [hA44, hc44, hy44]; exact hr44); have HE44 : Aside0 ((Value.slice A44 y226.length c44).ownBlock = (.slice Ao38 x5_5.length co38 : Value).ownBlock) := ⟨by rw [hA44]; split <;> (cases (Ao38 : Option Addr) <;> (first | rfl | simp [Value.ownBlock, add_block]))⟩; clear hy44 hi044 hsz44 HO_5 hA44 hc44; have HO228 := Aside0.mk hr44; clear hr44; replace q44 := eq_true q44; have n_ := Aside0.mk (Kd.R_mono (ok' := fun k_ => (True ∧ some k_ ≠ (.slice A44 y226.length c44 : Value).ownBlock)) HO224.out (fun k_ hk => ⟨trivial, (by rw [HE44.out]; exact hk.2)⟩)); clear HO224; have HO224 := n_; clear n_)))
                                            go_roundg k5
                                            case measure => have := HJ4.out; have := HK2.out; have := HK3.out; have := HK4.out; have := HK5.out; omega
                                            case rel => exact ⟨(y226), (wrap64 (x12_5 + 1)), (by first | rfl | (simp; done) | (simp [*]; done)), H', ⟨by have := HJ4.out; have := HK2.out; have := HK3.out; have := HK4.out; have := HK5.out; omega⟩, ⟨by (with_reducible repeat (first | apply Kd.Q_alloc | apply Kd.Q_drewN | apply Kd.Q_drew)); exact Kd.Q_mono HO228.out (fun _ hk => trivial)⟩, ⟨by repeat (first | (with_reducible first | exact HB.out | apply below_alloc | apply pw_below_drewN | apply below_drew1) | exact HB.out)⟩⟩
                                          · rw [if_neg c37] at H
                                            exact absurd H (by simp)
                                        · rw [if_neg c36] at H
                                          exact absurd H (by simp)
                                      · rw [if_neg c35] at H
                                        have c35b0 : ((strOfNums t220).toList == (strOfNums (rd_L1 l1 x12_5)).toList) = false := beq_eq_false_iff_ne.mpr c35
                                        have c35b1 : ((strOfNums t220).toList != (strOfNums (rd_L1 l1 x12_5)).toList) = true := bne_iff_ne.mpr c35
                                        obtain rfl := Option.some.inj H
                                        obtain ⟨Ao45, co45, eo45, _⟩ := Kd.Q_slice HO_5.out
                                        subst eo45
                                        go_wp2_with (first | (go_at_call 21; (with_reducible refine (octet_TakeText.calls k5 _ _ x5_5 200 t220 t221 t222 _ ?side1 ?side2 A32.out).mono ?_); (case side1 => repeat (first | exact (Kd.Q_reads' HO_5.out).2.2 | (with_reducible refine Kd.C_alloc ?_ _) | (with_reducible refine Kd.C_drewN ?_ _) | (with_reducible refine Kd.C_drew ?_))); (case side2 => exact (Kd.Q_reads' HO_5.out).2.1); rintro e w46 ⟨v223, rfl, ho0, hb⟩; have n0_ := Aside0.mk (Kd.Q_elder' (by (with_reducible repeat (first | apply Kd.Q_alloc | apply Kd.Q_drewN | apply Kd.Q_drew)); exact HO_5.out) (Kd.R_base ho0) hb); have n1_ := Aside0.mk (Kd.R_lower (Kd.R_new' ho0 (Kd.Q_lt (by (with_reducible repeat (first | apply Kd.Q_alloc | apply Kd.Q_drewN | apply Kd.Q_drew)); exact HO_5.out))) (below_size (by repeat (first | (with_reducible first | exact HB.out | apply below_alloc | apply pw_below_drewN | apply below_drew1) | exact HB.out)))); have n2_ := Aside0.mk (below_step (by repeat (first | (with_reducible first | exact HB.out | apply below_alloc | apply pw_below_drewN | apply below_drew1) | exact HB.out)) hb); clear HO_5; clear HB; have HO_5 := n0_; have HO224 := n1_; have HB := n2_; clear n0_ n1_ n2_; (try clear hb); (try clear hb2); (try clear hk); (try clear hi); (try clear ho0); have hcv47 := own_string (P := Try.prog) Try.underlying24 Try.underlying5 Try.underlying9 (Kd.own_of_R HO224.out); have hcw48 := fun m_ : Nat => own_string (P := Try.prog) Try.underlying24 Try.underlying5 Try.underlying9 (Kd.own_of_R (Kd.R_drewN HO224.out m_)); have p225 : 0 ≤ (x12_5 : Int) := of_decide_eq_true (by first | (with_reducible assumption) | assumption); have q225 : x12_5 < (l1.length : Int) := of_decide_eq_true (by first | (with_reducible assumption) | assumption); obtain ⟨ad225, A225_0, c225_0, e225, hx225_0, hl225_0, hi225_0⟩ := at_L1 HR1.out x12_5 p225 q225; cases e225; replace hx225_0 := (HB.out.cell (World.block_lt_of_cell? w _ hx225_0)).trans hx225_0; have HR225_0 := Aside0.mk hi225_0; have HC225_0 := Aside0.mk hl225_0; clear hi225_0 hl225_0; replace p225 := eq_true p225; replace q225 := eq_true q225; have hcv49 := Kd.C_string (P := Try.prog) (A := A225_0) (c := c225_0) Try.underlying24 Try.underlying5 Try.underlying9 (Kd.C_below HR225_0.out HB.out); have hcw50 := fun m_ : Nat => Kd.C_string (P := Try.prog) (A := A225_0) (c := c225_0) Try.underlying24 Try.underlying5 Try.underlying9 (Kd.C_drewN (Kd.C_below HR225_0.out HB.out) m_)))
                                        repeat (go_quiet (first | (go_at_call 21; (with_reducible refine (octet_TakeText.calls k5 _ _ x5_5 200 t220 t221 t222 _ ?side1 ?side2 A32.out).mono ?_); (case side1 => repeat (first | exact (Kd.Q_reads' HO_5.out).2.2 | (with_reducible refine Kd.C_alloc ?_ _) | (with_reducible refine Kd.C_drewN ?_ _) | (with_reducible refine Kd.C_drew ?_))); (case side2 => exact (Kd.Q_reads' HO_5.out).2.1); rintro e w46 ⟨v223, rfl, ho0, hb⟩; have n0_ := Aside0.mk (Kd.Q_elder' (by (with_reducible repeat (first | apply Kd.Q_alloc | apply Kd.Q_drewN | apply Kd.Q_drew)); exact HO_5.out) (Kd.R_base ho0) hb); have n1_ := Aside0.mk (Kd.R_lower (Kd.R_new' ho0 (Kd.Q_lt (by (with_reducible repeat (first | apply Kd.Q_alloc | apply Kd.Q_drewN | apply Kd.Q_drew)); exact HO_5.out))) (below_size (by repeat (first | (with_reducible first | exact HB.out | apply below_alloc | apply pw_below_drewN | apply below_drew1) | exact HB.out)))); have n2_ := Aside0.mk (below_step (by repeat (first | (with_reducible first | exact HB.out | apply below_alloc | apply pw_below_drewN | apply below_drew1) | exact HB.out)) hb); clear HO_5; clear HB; have HO_5 := n0_; have HO224 := n1_; have HB := n2_; clear n0_ n1_ n2_; (try clear hb); (try clear hb2); (try clear hk); (try clear hi); (try clear ho0); have hcv47 := own_string (P := Try.prog) Try.underlying24 Try.underlying5 Try.underlying9 (Kd.own_of_R HO224.out); have hcw48 := fun m_ : Nat => own_string (P := Try.prog) Try.underlying24 Try.underlying5 Try.underlying9 (Kd.own_of_R (Kd.R_drewN HO224.out m_)); have p225 : 0 ≤ (x12_5 : Int) := of_decide_eq_true (by first | (with_reducible assumption) | assumption); have q225 : x12_5 < (l1.length : Int) := of_decide_eq_true (by first | (with_reducible assumption) | assumption); obtain ⟨ad225, A225_0, c225_0, e225, hx225_0, hl225_0, hi225_0⟩ := at_L1 HR1.out x12_5 p225 q225; cases e225; replace hx225_0 := (HB.out.cell (World.block_lt_of_cell? w _ hx225_0)).trans hx225_0; have HR225_0 := Aside0.mk hi225_0; have HC225_0 := Aside0.mk hl225_0; clear hi225_0 hl225_0; replace p225 := eq_true p225; replace q225 := eq_true q225; have hcv49 := Kd.C_string (P := Try.prog) (A := A225_0) (c := c225_0) Try.underlying24 Try.underlying5 Try.underlying9 (Kd.C_below HR225_0.out HB.out); have hcw50 := fun m_ : Nat => Kd.C_string (P := Try.prog) (A := A225_0) (c := c225_0) Try.underlying24 Try.underlying5 Try.underlying9 (Kd.C_drewN (Kd.C_below HR225_0.out HB.out) m_))); try go_wp2_with (first | (go_at_call 21; (with_reducible refine (octet_TakeText.calls k5 _ _ x5_5 200 t220 t221 t222 _ ?side1 ?side2 A32.out).mono ?_); (case side1 => repeat (first | exact (Kd.Q_reads' HO_5.out).2.2 | (with_reducible refine Kd.C_alloc ?_ _) | (with_reducible refine Kd.C_drewN ?_ _) | (with_reducible refine Kd.C_drew ?_))); (case side2 => exact (Kd.Q_reads' HO_5.out).2.1); rintro e w46 ⟨v223, rfl, ho0, hb⟩; have n0_ := Aside0.mk (Kd.Q_elder' (by (with_reducible repeat (first | apply Kd.Q_alloc | apply Kd.Q_drewN | apply Kd.Q_drew)); exact HO_5.out) (Kd.R_base ho0) hb); have n1_ := Aside0.mk (Kd.R_lower (Kd.R_new' ho0 (Kd.Q_lt (by (with_reducible repeat (first | apply Kd.Q_alloc | apply Kd.Q_drewN | apply Kd.Q_drew)); exact HO_5.out))) (below_size (by repeat (first | (with_reducible first | exact HB.out | apply below_alloc | apply pw_below_drewN | apply below_drew1) | exact HB.out)))); have n2_ := Aside0.mk (below_step (by repeat (first | (with_reducible first | exact HB.out | apply below_alloc | apply pw_below_drewN | apply below_drew1) | exact HB.out)) hb); clear HO_5; clear HB; have HO_5 := n0_; have HO224 := n1_; have HB := n2_; clear n0_ n1_ n2_; (try clear hb); (try clear hb2); (try clear hk); (try clear hi); (try clear ho0); have hcv47 := own_string (P := Try.prog) Try.underlying24 Try.underlying5 Try.underlying9 (Kd.own_of_R HO224.out); have hcw48 := fun m_ : Nat => own_string (P := Try.prog) Try.underlying24 Try.underlying5 Try.underlying9 (Kd.own_of_R (Kd.R_drewN HO224.out m_)); have p225 : 0 ≤ (x12_5 : Int) := of_decide_eq_true (by first | (with_reducible assumption) | assumption); have q225 : x12_5 < (l1.length : Int) := of_decide_eq_true (by first | (with_reducible assumption) | assumption); obtain ⟨ad225, A225_0, c225_0, e225, hx225_0, hl225_0, hi225_0⟩ := at_L1 HR1.out x12_5 p225 q225; cases e225; replace hx225_0 := (HB.out.cell (World.block_lt_of_cell? w _ hx225_0)).trans hx225_0; have HR225_0 := Aside0.mk hi225_0; have HC225_0 := Aside0.mk hl225_0; clear hi225_0 hl225_0; replace p225 := eq_true p225; replace q225 := eq_true q225; have hcv49 := Kd.C_string (P := Try.prog) (A := A225_0) (c := c225_0) Try.underlying24 Try.underlying5 Try.underlying9 (Kd.C_below HR225_0.out HB.out); have hcw50 := fun m_ : Nat => Kd.C_string (P := Try.prog) (A := A225_0) (c := c225_0) Try.underlying24 Try.underlying5 Try.underlying9 (Kd.C_drewN (Kd.C_below HR225_0.out HB.out) m_))))
                                        go_ret
                                        exact ⟨by first | rfl | (simp [errW_none, errW_some] <;> rfl) | (simp [*, errW_none, errW_some] <;> rfl), by repeat (first | (with_reducible first | exact HB.out | apply below_alloc | apply pw_below_drewN | apply below_drew1) | exact HB.out)⟩
                                    · rw [if_neg c34] at H
                                      exact absurd H (by simp)
                                  · rw [if_neg c33] at H
                                    have c33b0 : (t222 == 0) = false := beq_eq_false_iff_ne.mpr c33
                                    have c33b1 : (t222 != 0) = true := bne_iff_ne.mpr c33
                                    obtain rfl := Option.some.inj H
                                    obtain ⟨Ao51, co51, eo51, _⟩ := Kd.Q_slice HO_5.out
                                    subst eo51
                                    go_wp2_with (first | (go_at_call 21; (with_reducible refine (octet_TakeText.calls k5 _ _ x5_5 200 t220 t221 t222 _ ?side1 ?side2 A32.out).mono ?_); (case side1 => repeat (first | exact (Kd.Q_reads' HO_5.out).2.2 | (with_reducible refine Kd.C_alloc ?_ _) | (with_reducible refine Kd.C_drewN ?_ _) | (with_reducible refine Kd.C_drew ?_))); (case side2 => exact (Kd.Q_reads' HO_5.out).2.1); rintro e w52 ⟨v223, rfl, ho0, hb⟩; have n0_ := Aside0.mk (Kd.Q_elder' (by (with_reducible repeat (first | apply Kd.Q_alloc | apply Kd.Q_drewN | apply Kd.Q_drew)); exact HO_5.out) (Kd.R_base ho0) hb); have n1_ := Aside0.mk (Kd.R_lower (Kd.R_new' ho0 (Kd.Q_lt (by (with_reducible repeat (first | apply Kd.Q_alloc | apply Kd.Q_drewN | apply Kd.Q_drew)); exact HO_5.out))) (below_size (by repeat (first | (with_reducible first | exact HB.out | apply below_alloc | apply pw_below_drewN | apply below_drew1) | exact HB.out)))); have n2_ := Aside0.mk (below_step (by repeat (first | (with_reducible first | exact HB.out | apply below_alloc | apply pw_below_drewN | apply below_drew1) | exact HB.out)) hb); clear HO_5; clear HB; have HO_5 := n0_; have HO224 := n1_; have HB := n2_; clear n0_ n1_ n2_; (try clear hb); (try clear hb2); (try clear hk); (try clear hi); (try clear ho0)))
                                    repeat (go_quiet (first | (go_at_call 21; (with_reducible refine (octet_TakeText.calls k5 _ _ x5_5 200 t220 t221 t222 _ ?side1 ?side2 A32.out).mono ?_); (case side1 => repeat (first | exact (Kd.Q_reads' HO_5.out).2.2 | (with_reducible refine Kd.C_alloc ?_ _) | (with_reducible refine Kd.C_drewN ?_ _) | (with_reducible refine Kd.C_drew ?_))); (case side2 => exact (Kd.Q_reads' HO_5.out).2.1); rintro e w52 ⟨v223, rfl, ho0, hb⟩; have n0_ := Aside0.mk (Kd.Q_elder' (by (with_reducible repeat (first | apply Kd.Q_alloc | apply Kd.Q_drewN | apply Kd.Q_drew)); exact HO_5.out) (Kd.R_base ho0) hb); have n1_ := Aside0.mk (Kd.R_lower (Kd.R_new' ho0 (Kd.Q_lt (by (with_reducible repeat (first | apply Kd.Q_alloc | apply Kd.Q_drewN | apply Kd.Q_drew)); exact HO_5.out))) (below_size (by repeat (first | (with_reducible first | exact HB.out | apply below_alloc | apply pw_below_drewN | apply below_drew1) | exact HB.out)))); have n2_ := Aside0.mk (below_step (by repeat (first | (with_reducible first | exact HB.out | apply below_alloc | apply pw_below_drewN | apply below_drew1) | exact HB.out)) hb); clear HO_5; clear HB; have HO_5 := n0_; have HO224 := n1_; have HB := n2_; clear n0_ n1_ n2_; (try clear hb); (try clear hb2); (try clear hk); (try clear hi); (try clear ho0))); try go_wp2_with (first | (go_at_call 21; (with_reducible refine (octet_TakeText.calls k5 _ _ x5_5 200 t220 t221 t222 _ ?side1 ?side2 A32.out).mono ?_); (case side1 => repeat (first | exact (Kd.Q_reads' HO_5.out).2.2 | (with_reducible refine Kd.C_alloc ?_ _) | (with_reducible refine Kd.C_drewN ?_ _) | (with_reducible refine Kd.C_drew ?_))); (case side2 => exact (Kd.Q_reads' HO_5.out).2.1); rintro e w52 ⟨v223, rfl, ho0, hb⟩; have n0_ := Aside0.mk (Kd.Q_elder' (by (with_reducible repeat (first | apply Kd.Q_alloc | apply Kd.Q_drewN | apply Kd.Q_drew)); exact HO_5.out) (Kd.R_base ho0) hb); have n1_ := Aside0.mk (Kd.R_lower (Kd.R_new' ho0 (Kd.Q_lt (by (with_reducible repeat (first | apply Kd.Q_alloc | apply Kd.Q_drewN | apply Kd.Q_drew)); exact HO_5.out))) (below_size (by repeat (first | (with_reducible first | exact HB.out | apply below_alloc | apply pw_below_drewN | apply below_drew1) | exact HB.out)))); have n2_ := Aside0.mk (below_step (by repeat (first | (with_reducible first | exact HB.out | apply below_alloc | apply pw_below_drewN | apply below_drew1) | exact HB.out)) hb); clear HO_5; clear HB; have HO_5 := n0_; have HO224 := n1_; have HB := n2_; clear n0_ n1_ n2_; (try clear hb); (try clear hb2); (try clear hk); (try clear hi); (try clear ho0))))
                                    go_ret
                                    exact ⟨by first | rfl | (simp [errW_none, errW_some] <;> rfl) | (simp [*, errW_none, errW_some] <;> rfl), by repeat (first | (with_reducible first | exact HB.out | apply below_alloc | apply pw_below_drewN | apply below_drew1) | exact HB.out)⟩
                                · rw [if_neg c31] at H
                                  have c31b0 : decide (x12_5 < (l1.length : Int)) = false := decide_eq_false c31
                                  clear c31
                                  obtain rfl := Option.some.inj H
                                  obtain ⟨Ao53, co53, eo53, _⟩ := Kd.Q_slice HO_5.out
                                  subst eo53
                                  go_wp2
                                  repeat (go_quiet (fail); try go_wp2)
                                  go_ret
                                  exact ⟨by first | rfl | (simp [errW_none, errW_some] <;> rfl) | (simp [*, errW_none, errW_some] <;> rfl), by repeat (first | (with_reducible first | exact HB.out | apply below_alloc | apply pw_below_drewN | apply below_drew1) | exact HB.out)⟩
  · replace c4 := Bool.eq_false_iff.mpr c4
    subst c4
    have H1 : (some false) = some r := by rw [if_neg (show ¬ (false = true) by decide)] at H; exact H
    clear H
    have H := H1
    clear H1
    obtain rfl := Option.some.inj H
    go_enter Try.func5, Try.ntmps5
    go_wp2_with (first | (go_at_call 10; (with_reducible refine (touchstonelaw1_begun.calls k  false _ A3.out).mono ?_); rintro e w54 ⟨rfl, hb⟩; have n0_ := Aside0.mk (below_step (by repeat (first | (with_reducible first | exact HB.out | apply below_alloc | apply pw_below_drewN | apply below_drew1) | exact HB.out)) hb); clear HB; have HB := n0_; clear n0_; (try clear hb); (try clear hb2); (try clear hk); (try clear hi)))
    repeat (go_quiet (first | (go_at_call 10; (with_reducible refine (touchstonelaw1_begun.calls k  false _ A3.out).mono ?_); rintro e w54 ⟨rfl, hb⟩; have n0_ := Aside0.mk (below_step (by repeat (first | (with_reducible first | exact HB.out | apply below_alloc | apply pw_below_drewN | apply below_drew1) | exact HB.out)) hb); clear HB; have HB := n0_; clear n0_; (try clear hb); (try clear hb2); (try clear hk); (try clear hi))); try go_wp2_with (first | (go_at_call 10; (with_reducible refine (touchstonelaw1_begun.calls k  false _ A3.out).mono ?_); rintro e w54 ⟨rfl, hb⟩; have n0_ := Aside0.mk (below_step (by repeat (first | (with_reducible first | exact HB.out | apply below_alloc | apply pw_below_drewN | apply below_drew1) | exact HB.out)) hb); clear HB; have HB := n0_; clear n0_; (try clear hb); (try clear hb2); (try clear hk); (try clear hi))))
    go_ret
    exact ⟨by first | rfl | (simp [errW_none, errW_some] <;> rfl) | (simp [*, errW_none, errW_some] <;> rfl), by repeat (first | (with_reducible first | exact HB.out | apply below_alloc | apply pw_below_drewN | apply below_drew1) | exact HB.out)⟩

/-- THE ONE PURE STATEMENT of touchstonelaw1_OctetRows: yours. -/
def touchstonelaw1_OctetRows.Pure : Prop := ∀ (l0 : List Int) (l1 : List (List Int)), l0.length ≤ maxLen → l0.length * 8 ≤ 140737488351232 → (∀ x ∈ l0, (Lit.int .u64 x).wf = true) → (l1.length * 24 ≤ 140737488351232 ∧ l1.length ≤ maxLen ∧ ∀ x_l1 ∈ l1, (x_l1.length * 1 ≤ 140737488351232 ∧ x_l1.length ≤ maxLen ∧ ∀ x_x_l1 ∈ x_l1, (Lit.int .u8 x_x_l1).wf = true)) → ∃ k, touchstonelaw1_OctetRows.f k l0 l1 = some true
theorem touchstonelaw1_OctetRows.walk (P : touchstonelaw1_OctetRows.Pure) (a0 : Option Addr) (len0 cap0 : Nat) (z0 : List Int) (A1 : Option Addr) (c1 : Nat) (l1 : List (List Int)) (w : World) (w0 : (a0 = none ∧ len0 = 0 ∧ cap0 = 0 ∧ z0 = []) ∨ ∃ x, a0 = some x ∧ len0 ≤ cap0 ∧ cap0 ≤ maxLen ∧ z0.length = cap0 ∧ (∀ i, i < z0.length → w.cell? (x.add i) = some (.int .u64 (z0.getD i 0))) ∧ ∀ n ∈ z0, (Lit.int .u64 n).wf = true) (y0 : len0 * 8 ≤ 140737488351232) (hC1 : Kd.C (Kd.slice 5 (Kd.int .u8)) w A1 l1.length l1) (hc1 : l1.length ≤ c1) (hW1 : (l1.length * 24 ≤ 140737488351232 ∧ l1.length ≤ maxLen ∧ ∀ x_l1 ∈ l1, (x_l1.length * 1 ≤ 140737488351232 ∧ x_l1.length ≤ maxLen ∧ ∀ x_x_l1 ∈ x_l1, (Lit.int .u8 x_x_l1).wf = true))) :
    Calls Try.prog 5 #[.slice a0 len0 cap0, .slice A1 l1.length c1] w fun e w' => e = .returned (.bool true) ∧ Below w.heap.size w w' := by
  obtain ⟨l0, rfl, hr0, hm0, hw0, hc0⟩ := ReadsInt.ofRowC w0
  obtain ⟨k, h⟩ := P l0 l1 hm0 y0 hw0 hW1
  refine (touchstonelaw1_OctetRows.calls k _ _ l0 _ _ l1 true w (Kd.C_of_reads (d := (0 : Int)) (h1 := fun _ => rfl) hr0) hc0 hC1 hc1 h).mono ?_
  rintro e w' ⟨rfl, hd⟩
  exact ⟨rfl, hd⟩

end Go.Proofs.Ytaoapdcdnjmoiaa.QA
