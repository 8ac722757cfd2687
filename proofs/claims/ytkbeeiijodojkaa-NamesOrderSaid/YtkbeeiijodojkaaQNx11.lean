-- By this session's own printing program: a text of this claim's own.
import Derived.Test.YtkbeeiijodojkaaQNOwn
import Derived.Test.YtkbeeiijodojkaaQNx0
import Derived.Test.YtkbeeiijodojkaaQNx8
import Derived.Test.YtkbeeiijodojkaaQNx9
namespace Go.Proofs.Ytkbeeiijodojkaa.QN
open Go.RowKit Go.Proofs.YtkbeeiijodojkaaW.PrintWords Go.Proofs.YtkbeeiijodojkaaW.PrintLast Go.Proofs.YtkbeeiijodojkaaW.PrintMore
attribute [local go_sem] max2_int min2_int max_two min_two max_three min_three max_four min_four   -- for this text's walks alone
set_option linter.unusedVariables false
set_option linter.unusedSimpArgs false

/-! ### touchstonelaw10_NamesOrder: function 4 -/
mutual
def touchstonelaw10_NamesOrder.j0 : Nat → List ByteArray → ByteArray → ByteArray → ByteArray → Bool → Option (Bool)
  | 0, _, _, _, _, _ => none
  | k + 1, x0, x1, x2, x3, x31 => if x31 = true then (some true) else ((names_Sorted.f x0).bind fun t328 => (touchstonelaw10_NamesOrder.l0 k x0 x1 x2 x3 t328 1))
def touchstonelaw10_NamesOrder.l0 : Nat → List ByteArray → ByteArray → ByteArray → ByteArray → List ByteArray → Int → Option (Bool)
  | 0, _, _, _, _, _, _ => none
  | k + 1, x0, x1, x2, x3, x9, x10 => if x10 < (x9.length : Int) then (if 0 ≤ (wrap64 (x10 - 1)) then (if (wrap64 (x10 - 1)) < (x9.length : Int) then (if 0 ≤ x10 then ((names_Less.f (rdOf ByteArray.empty x9 (wrap64 (x10 - 1))) (rdOf ByteArray.empty x9 x10)).bind fun t333 => (if t333 = true then (touchstonelaw10_NamesOrder.l0 k x0 x1 x2 x3 x9 (wrap64 (x10 + 1))) else (none))) else (none)) else (none)) else (none)) else (touchstonelaw10_NamesOrder.l1 k x0 x1 x2 x3 x9 0)
def touchstonelaw10_NamesOrder.l1 : Nat → List ByteArray → ByteArray → ByteArray → ByteArray → List ByteArray → Int → Option (Bool)
  | 0, _, _, _, _, _, _ => none
  | k + 1, x0, x1, x2, x3, x9, x11 => if x11 < (x0.length : Int) then (if 0 ≤ x11 then ((names_Has.f k x9 (rdOf ByteArray.empty x0 x11)).bind fun t335 => (if t335 = true then (touchstonelaw10_NamesOrder.l1 k x0 x1 x2 x3 x9 (wrap64 (x11 + 1))) else (none))) else (none)) else ((names_Less.f x1 x2).bind fun t336 => (if t336 = true then (if ((x1.toList == x2.toList) == false) = true then ((names_Less.f x1 x2).bind fun t337 => (if t337 = true then ((names_Less.f x2 x3).bind fun t338 => (if t338 = true then ((names_Less.f x1 x3).bind fun t339 => (if t339 = true then ((names_Less.f x1 x2).bind fun t340 => ((touchstoneref11_Less.f k x1 x2).bind fun t341 => (if (t340 == t341) = true then ((names_Sorted.f x9).bind fun t342 => ((touchstonelaw10_alike.f k t342 x9).bind fun t345 => (some t345))) else (none)))) else (none))) else ((names_Less.f x1 x2).bind fun t346 => ((touchstoneref11_Less.f k x1 x2).bind fun t347 => (if (t346 == t347) = true then ((names_Sorted.f x9).bind fun t348 => ((touchstonelaw10_alike.f k t348 x9).bind fun t351 => (some t351))) else (none)))))) else ((names_Less.f x1 x2).bind fun t352 => ((touchstoneref11_Less.f k x1 x2).bind fun t353 => (if (t352 == t353) = true then ((names_Sorted.f x9).bind fun t354 => ((touchstonelaw10_alike.f k t354 x9).bind fun t357 => (some t357))) else (none)))))) else (none)) else ((names_Less.f x2 x1).bind fun t358 => (if ((x1.toList == x2.toList) == (!t358)) = true then ((names_Less.f x1 x2).bind fun t359 => (if t359 = true then ((names_Less.f x2 x3).bind fun t360 => (if t360 = true then ((names_Less.f x1 x3).bind fun t361 => (if t361 = true then ((names_Less.f x1 x2).bind fun t362 => ((touchstoneref11_Less.f k x1 x2).bind fun t363 => (if (t362 == t363) = true then ((names_Sorted.f x9).bind fun t364 => ((touchstonelaw10_alike.f k t364 x9).bind fun t367 => (some t367))) else (none)))) else (none))) else ((names_Less.f x1 x2).bind fun t368 => ((touchstoneref11_Less.f k x1 x2).bind fun t369 => (if (t368 == t369) = true then ((names_Sorted.f x9).bind fun t370 => ((touchstonelaw10_alike.f k t370 x9).bind fun t373 => (some t373))) else (none)))))) else ((names_Less.f x1 x2).bind fun t374 => ((touchstoneref11_Less.f k x1 x2).bind fun t375 => (if (t374 == t375) = true then ((names_Sorted.f x9).bind fun t376 => ((touchstonelaw10_alike.f k t376 x9).bind fun t379 => (some t379))) else (none)))))) else (none)))))
end
def touchstonelaw10_NamesOrder.f (k : Nat) (l0 : List ByteArray) (a1 : ByteArray) (a2 : ByteArray) (a3 : ByteArray) : Option (Bool) := (touchstonelaw10_begun.f k).bind fun t326 => (if t326 = true then ((touchstonelaw10_light.f k l0).bind fun t327 => (if t327 = true then (if (a1.size : Int) > 60 then (touchstonelaw10_NamesOrder.j0 k l0 a1 a2 a3 true) else (if (a2.size : Int) > 60 then (touchstonelaw10_NamesOrder.j0 k l0 a1 a2 a3 true) else (touchstonelaw10_NamesOrder.j0 k l0 a1 a2 a3 (decide ((a3.size : Int) > 60))))) else (touchstonelaw10_NamesOrder.j0 k l0 a1 a2 a3 true))) else (none))
theorem touchstonelaw10_NamesOrder.mono_l : ∀ k, (∀ y0 y1 y2 y3 y4, LeO (touchstonelaw10_NamesOrder.j0 k y0 y1 y2 y3 y4) (touchstonelaw10_NamesOrder.j0 (k + 1) y0 y1 y2 y3 y4)) ∧ (∀ y0 y1 y2 y3 y4 y5, LeO (touchstonelaw10_NamesOrder.l0 k y0 y1 y2 y3 y4 y5) (touchstonelaw10_NamesOrder.l0 (k + 1) y0 y1 y2 y3 y4 y5)) ∧ (∀ y0 y1 y2 y3 y4 y5, LeO (touchstonelaw10_NamesOrder.l1 k y0 y1 y2 y3 y4 y5) (touchstonelaw10_NamesOrder.l1 (k + 1) y0 y1 y2 y3 y4 y5))
  | 0 => ⟨fun _ _ _ _ _ r h => by simp [touchstonelaw10_NamesOrder.j0] at h, fun _ _ _ _ _ _ r h => by simp [touchstonelaw10_NamesOrder.l0] at h, fun _ _ _ _ _ _ r h => by simp [touchstonelaw10_NamesOrder.l1] at h⟩
  | k + 1 => by
    obtain ⟨ih0, ih1, ih2⟩ := touchstonelaw10_NamesOrder.mono_l k
    refine ⟨?_, ?_, ?_⟩
    · intro y0 y1 y2 y3 y4
      unfold touchstonelaw10_NamesOrder.j0
      repeat' first
      | (with_reducible exact ih0 _ _ _ _ _)
      | (with_reducible exact ih1 _ _ _ _ _ _)
      | (with_reducible exact ih2 _ _ _ _ _ _)
      | (with_reducible exact names_Has.mono _ _ _)
      | (with_reducible exact touchstonelaw10_alike.mono _ _ _)
      | (with_reducible exact touchstonelaw10_begun.mono _)
      | (with_reducible exact touchstonelaw10_light.mono _ _)
      | (with_reducible exact touchstoneref11_Less.mono _ _ _)
      | (with_reducible exact LeO.refl _)
      | (with_reducible exact LeO.none _)
      | (with_reducible refine LeO.ite ?_ ?_)
      | (with_reducible refine LeO.bind ?_ (fun _ => ?_))
      | exact ih0 _ _ _ _ _
      | exact ih1 _ _ _ _ _ _
      | exact ih2 _ _ _ _ _ _
      | exact names_Has.mono _ _ _
      | exact touchstonelaw10_alike.mono _ _ _
      | exact touchstonelaw10_begun.mono _
      | exact touchstonelaw10_light.mono _ _
      | exact touchstoneref11_Less.mono _ _ _
      | exact LeO.none _
      | refine LeO.ite ?_ ?_
      | refine LeO.bind ?_ (fun _ => ?_)
    · intro y0 y1 y2 y3 y4 y5
      unfold touchstonelaw10_NamesOrder.l0
      repeat' first
      | (with_reducible exact ih0 _ _ _ _ _)
      | (with_reducible exact ih1 _ _ _ _ _ _)
      | (with_reducible exact ih2 _ _ _ _ _ _)
      | (with_reducible exact names_Has.mono _ _ _)
      | (with_reducible exact touchstonelaw10_alike.mono _ _ _)
      | (with_reducible exact touchstonelaw10_begun.mono _)
      | (with_reducible exact touchstonelaw10_light.mono _ _)
      | (with_reducible exact touchstoneref11_Less.mono _ _ _)
      | (with_reducible exact LeO.refl _)
      | (with_reducible exact LeO.none _)
      | (with_reducible refine LeO.ite ?_ ?_)
      | (with_reducible refine LeO.bind ?_ (fun _ => ?_))
      | exact ih0 _ _ _ _ _
      | exact ih1 _ _ _ _ _ _
      | exact ih2 _ _ _ _ _ _
      | exact names_Has.mono _ _ _
      | exact touchstonelaw10_alike.mono _ _ _
      | exact touchstonelaw10_begun.mono _
      | exact touchstonelaw10_light.mono _ _
      | exact touchstoneref11_Less.mono _ _ _
      | exact LeO.none _
      | refine LeO.ite ?_ ?_
      | refine LeO.bind ?_ (fun _ => ?_)
    · intro y0 y1 y2 y3 y4 y5
      unfold touchstonelaw10_NamesOrder.l1
      repeat' first
      | (with_reducible exact ih0 _ _ _ _ _)
      | (with_reducible exact ih1 _ _ _ _ _ _)
      | (with_reducible exact ih2 _ _ _ _ _ _)
      | (with_reducible exact names_Has.mono _ _ _)
      | (with_reducible exact touchstonelaw10_alike.mono _ _ _)
      | (with_reducible exact touchstonelaw10_begun.mono _)
      | (with_reducible exact touchstonelaw10_light.mono _ _)
      | (with_reducible exact touchstoneref11_Less.mono _ _ _)
      | (with_reducible exact LeO.refl _)
      | (with_reducible exact LeO.none _)
      | (with_reducible refine LeO.ite ?_ ?_)
      | (with_reducible refine LeO.bind ?_ (fun _ => ?_))
      | exact ih0 _ _ _ _ _
      | exact ih1 _ _ _ _ _ _
      | exact ih2 _ _ _ _ _ _
      | exact names_Has.mono _ _ _
      | exact touchstonelaw10_alike.mono _ _ _
      | exact touchstonelaw10_begun.mono _
      | exact touchstonelaw10_light.mono _ _
      | exact touchstoneref11_Less.mono _ _ _
      | exact LeO.none _
      | refine LeO.ite ?_ ?_
      | refine LeO.bind ?_ (fun _ => ?_)
theorem touchstonelaw10_NamesOrder.mono : ∀ a0 a1 a2 a3 k, LeO (touchstonelaw10_NamesOrder.f k a0 a1 a2 a3) (touchstonelaw10_NamesOrder.f (k + 1) a0 a1 a2 a3) := by
  intro a0 a1 a2 a3 k
  obtain ⟨ih0, ih1, ih2⟩ := touchstonelaw10_NamesOrder.mono_l k
  unfold touchstonelaw10_NamesOrder.f
  repeat' first
      | (with_reducible exact ih0 _ _ _ _ _)
      | (with_reducible exact ih1 _ _ _ _ _ _)
      | (with_reducible exact ih2 _ _ _ _ _ _)
      | (with_reducible exact names_Has.mono _ _ _)
      | (with_reducible exact touchstonelaw10_alike.mono _ _ _)
      | (with_reducible exact touchstonelaw10_begun.mono _)
      | (with_reducible exact touchstonelaw10_light.mono _ _)
      | (with_reducible exact touchstoneref11_Less.mono _ _ _)
      | (with_reducible exact LeO.refl _)
      | (with_reducible exact LeO.none _)
      | (with_reducible refine LeO.ite ?_ ?_)
      | (with_reducible refine LeO.bind ?_ (fun _ => ?_))
      | exact ih0 _ _ _ _ _
      | exact ih1 _ _ _ _ _ _
      | exact ih2 _ _ _ _ _ _
      | exact names_Has.mono _ _ _
      | exact touchstonelaw10_alike.mono _ _ _
      | exact touchstonelaw10_begun.mono _
      | exact touchstonelaw10_light.mono _ _
      | exact touchstoneref11_Less.mono _ _ _
      | exact LeO.none _
      | refine LeO.ite ?_ ?_
      | refine LeO.bind ?_ (fun _ => ?_)
set_option maxHeartbeats 8000000 in
set_option maxRecDepth 100000 in
theorem touchstonelaw10_NamesOrder.calls (k : Nat) (A0 : Option Addr) (c0 : Nat) (l0 : List ByteArray) (a1 : ByteArray) (a2 : ByteArray) (a3 : ByteArray) (r : Bool) (w : World) (hr0 : Kd.C Kd.string w A0 l0.length l0) (hc0 : l0.length ≤ c0) (h : touchstonelaw10_NamesOrder.f k l0 a1 a2 a3 = some r) :
    Calls Try.prog 4 #[.slice A0 l0.length c0, .string a1, .string a2, .string a3] w fun e w' => e = .returned (.bool r) ∧ Below w.heap.size w w' := by
  have HR0 := Aside0.mk hr0
  have HC0 := Aside0.mk hc0
  clear hr0 hc0
  have HB := Aside0.mk (Below.refl w.heap.size w)
  have H : ((touchstonelaw10_begun.f k).bind fun t326 => (if t326 = true then ((touchstonelaw10_light.f k l0).bind fun t327 => (if t327 = true then (if (a1.size : Int) > 60 then (touchstonelaw10_NamesOrder.j0 k l0 a1 a2 a3 true) else (if (a2.size : Int) > 60 then (touchstonelaw10_NamesOrder.j0 k l0 a1 a2 a3 true) else (touchstonelaw10_NamesOrder.j0 k l0 a1 a2 a3 (decide ((a3.size : Int) > 60))))) else (touchstonelaw10_NamesOrder.j0 k l0 a1 a2 a3 true))) else (none))) = some r := h
  clear h
  replace H := Option.bind_eq_some_iff.mp H
  obtain ⟨t326, A50, H⟩ := H
  replace H : (if t326 = true then ((touchstonelaw10_light.f k l0).bind fun t327 => (if t327 = true then (if (a1.size : Int) > 60 then (touchstonelaw10_NamesOrder.j0 k l0 a1 a2 a3 true) else (if (a2.size : Int) > 60 then (touchstonelaw10_NamesOrder.j0 k l0 a1 a2 a3 true) else (touchstonelaw10_NamesOrder.j0 k l0 a1 a2 a3 (decide ((a3.size : Int) > 60))))) else (touchstonelaw10_NamesOrder.j0 k l0 a1 a2 a3 true))) else (none)) = some r := H
  have A5 := Aside0.mk A50
  clear A50
  by_cases c6 : t326 = true
  · subst c6
    have H1 : ((touchstonelaw10_light.f k l0).bind fun t327 => (if t327 = true then (if (a1.size : Int) > 60 then (touchstonelaw10_NamesOrder.j0 k l0 a1 a2 a3 true) else (if (a2.size : Int) > 60 then (touchstonelaw10_NamesOrder.j0 k l0 a1 a2 a3 true) else (touchstonelaw10_NamesOrder.j0 k l0 a1 a2 a3 (decide ((a3.size : Int) > 60))))) else (touchstonelaw10_NamesOrder.j0 k l0 a1 a2 a3 true))) = some r := by rw [if_pos rfl] at H; exact H
    clear H
    have H := H1
    clear H1
    have HC7 := Aside0.mk H
    clear H
    go_enter Try.func4, Try.ntmps4
    go_upto_region 3 with (first | (go_at_call 5; (with_reducible refine (touchstonelaw10_begun.calls k  true _ A5.out).mono ?_); rintro e w8 ⟨rfl, hb⟩; have n0_ := Aside0.mk (below_step (by repeat (first | (with_reducible first | exact HB.out | apply below_alloc | apply pw_below_drewN | apply below_drew1) | exact HB.out)) hb); clear HB; have HB := n0_; clear n0_; (try clear hb); (try clear hb2); (try clear hk); (try clear hi)))
    repeat (go_quiet (first | (go_at_call 5; (with_reducible refine (touchstonelaw10_begun.calls k  true _ A5.out).mono ?_); rintro e w8 ⟨rfl, hb⟩; have n0_ := Aside0.mk (below_step (by repeat (first | (with_reducible first | exact HB.out | apply below_alloc | apply pw_below_drewN | apply below_drew1) | exact HB.out)) hb); clear HB; have HB := n0_; clear n0_; (try clear hb); (try clear hb2); (try clear hk); (try clear hi))); go_upto_region 3 with (first | (go_at_call 5; (with_reducible refine (touchstonelaw10_begun.calls k  true _ A5.out).mono ?_); rintro e w8 ⟨rfl, hb⟩; have n0_ := Aside0.mk (below_step (by repeat (first | (with_reducible first | exact HB.out | apply below_alloc | apply pw_below_drewN | apply below_drew1) | exact HB.out)) hb); clear HB; have HB := n0_; clear n0_; (try clear hb); (try clear hb2); (try clear hk); (try clear hi))))
    (try simp only [Act.put, List.setIfInBounds_toArray, List.set_cons_zero, List.set_cons_succ])
    go_cut [31] (fun v31 wc => ∃ (kq : Nat) (x31_6 : Bool), v31 = .bool x31_6 ∧ Aside0 (touchstonelaw10_NamesOrder.j0 kq l0 a1 a2 a3 x31_6 = some r) ∧ Aside0 (kq ≤ k) ∧ Aside0 (Below w.heap.size w wc))
    case first =>
      have H := HC7.out
      clear HC7
      replace H := Option.bind_eq_some_iff.mp H
      obtain ⟨t327, A90, H⟩ := H
      replace H : (if t327 = true then (if (a1.size : Int) > 60 then (touchstonelaw10_NamesOrder.j0 k l0 a1 a2 a3 true) else (if (a2.size : Int) > 60 then (touchstonelaw10_NamesOrder.j0 k l0 a1 a2 a3 true) else (touchstonelaw10_NamesOrder.j0 k l0 a1 a2 a3 (decide ((a3.size : Int) > 60))))) else (touchstonelaw10_NamesOrder.j0 k l0 a1 a2 a3 true)) = some r := H
      have A9 := Aside0.mk A90
      clear A90
      by_cases c10 : t327 = true
      · subst c10
        have H1 : (if (a1.size : Int) > 60 then (touchstonelaw10_NamesOrder.j0 k l0 a1 a2 a3 true) else (if (a2.size : Int) > 60 then (touchstonelaw10_NamesOrder.j0 k l0 a1 a2 a3 true) else (touchstonelaw10_NamesOrder.j0 k l0 a1 a2 a3 (decide ((a3.size : Int) > 60))))) = some r := by rw [if_pos rfl] at H; exact H
        clear H
        have H := H1
        clear H1
        by_cases c11 : (a1.size : Int) > 60
        · rw [if_pos c11] at H
          have c11b0 : decide (60 < (a1.size : Int)) = true := decide_eq_true c11
          have c11b1 : decide (60 < a1.size) = true := decide_eq_true (by omega)
          clear c11
          (first | rw [c11b0] | (simp only [i64_w, i32_w]; rw [c11b0]) | skip)
          have H' := Aside0.mk H
          clear H
          go_wp2_with (first | (go_at_call 6; (with_reducible refine (touchstonelaw10_light.calls k _ _ l0 true _ ?side1 ?side2 A9.out).mono ?_); (case side1 => repeat (first | exact (Kd.C_below HR0.out HB.out) | (with_reducible refine Kd.C_alloc ?_ _) | (with_reducible refine Kd.C_drewN ?_ _) | (with_reducible refine Kd.C_drew ?_))); (case side2 => exact HC0.out); rintro e w' ⟨rfl, ⟨nd, rfl⟩⟩; (try first | exact ⟨rfl, _, World.drewN_drewN _ _ _⟩ | exact ⟨rfl, _, Eq.trans (World.drewN_drewN _ _ _) (congrArg (World.drewN _) (Nat.add_assoc _ _ _))⟩)))
          repeat (go_quiet (first | (go_at_call 6; (with_reducible refine (touchstonelaw10_light.calls k _ _ l0 true _ ?side1 ?side2 A9.out).mono ?_); (case side1 => repeat (first | exact (Kd.C_below HR0.out HB.out) | (with_reducible refine Kd.C_alloc ?_ _) | (with_reducible refine Kd.C_drewN ?_ _) | (with_reducible refine Kd.C_drew ?_))); (case side2 => exact HC0.out); rintro e w' ⟨rfl, ⟨nd, rfl⟩⟩; (try first | exact ⟨rfl, _, World.drewN_drewN _ _ _⟩ | exact ⟨rfl, _, Eq.trans (World.drewN_drewN _ _ _) (congrArg (World.drewN _) (Nat.add_assoc _ _ _))⟩))); try go_wp2_with (first | (go_at_call 6; (with_reducible refine (touchstonelaw10_light.calls k _ _ l0 true _ ?side1 ?side2 A9.out).mono ?_); (case side1 => repeat (first | exact (Kd.C_below HR0.out HB.out) | (with_reducible refine Kd.C_alloc ?_ _) | (with_reducible refine Kd.C_drewN ?_ _) | (with_reducible refine Kd.C_drew ?_))); (case side2 => exact HC0.out); rintro e w' ⟨rfl, ⟨nd, rfl⟩⟩; (try first | exact ⟨rfl, _, World.drewN_drewN _ _ _⟩ | exact ⟨rfl, _, Eq.trans (World.drewN_drewN _ _ _) (congrArg (World.drewN _) (Nat.add_assoc _ _ _))⟩))))
          go_meet
          case rel => exact ⟨_, (true), (by first | rfl | (simp; done) | (simp [*]; done)), H', ⟨by first | omega | exact Nat.le_refl _⟩, ⟨by repeat (first | (with_reducible first | exact HB.out | apply below_alloc | apply pw_below_drewN | apply below_drew1) | exact HB.out)⟩⟩
        · rw [if_neg c11] at H
          have c11b0 : decide (60 < (a1.size : Int)) = false := decide_eq_false c11
          have c11b1 : decide (60 < a1.size) = false := decide_eq_false (by omega)
          clear c11
          (first | rw [c11b0] | (simp only [i64_w, i32_w]; rw [c11b0]) | skip)
          by_cases c12 : (a2.size : Int) > 60
          · rw [if_pos c12] at H
            have c12b0 : decide (60 < (a2.size : Int)) = true := decide_eq_true c12
            have c12b1 : decide (60 < a2.size) = true := decide_eq_true (by omega)
            clear c12
            have H' := Aside0.mk H
            clear H
            go_wp2_with (first | (go_at_call 6; (with_reducible refine (touchstonelaw10_light.calls k _ _ l0 true _ ?side1 ?side2 A9.out).mono ?_); (case side1 => repeat (first | exact (Kd.C_below HR0.out HB.out) | (with_reducible refine Kd.C_alloc ?_ _) | (with_reducible refine Kd.C_drewN ?_ _) | (with_reducible refine Kd.C_drew ?_))); (case side2 => exact HC0.out); rintro e w' ⟨rfl, ⟨nd, rfl⟩⟩; (try first | exact ⟨rfl, _, World.drewN_drewN _ _ _⟩ | exact ⟨rfl, _, Eq.trans (World.drewN_drewN _ _ _) (congrArg (World.drewN _) (Nat.add_assoc _ _ _))⟩)))
            repeat (go_quiet (first | (go_at_call 6; (with_reducible refine (touchstonelaw10_light.calls k _ _ l0 true _ ?side1 ?side2 A9.out).mono ?_); (case side1 => repeat (first | exact (Kd.C_below HR0.out HB.out) | (with_reducible refine Kd.C_alloc ?_ _) | (with_reducible refine Kd.C_drewN ?_ _) | (with_reducible refine Kd.C_drew ?_))); (case side2 => exact HC0.out); rintro e w' ⟨rfl, ⟨nd, rfl⟩⟩; (try first | exact ⟨rfl, _, World.drewN_drewN _ _ _⟩ | exact ⟨rfl, _, Eq.trans (World.drewN_drewN _ _ _) (congrArg (World.drewN _) (Nat.add_assoc _ _ _))⟩))); try go_wp2_with (first | (go_at_call 6; (with_reducible refine (touchstonelaw10_light.calls k _ _ l0 true _ ?side1 ?side2 A9.out).mono ?_); (case side1 => repeat (first | exact (Kd.C_below HR0.out HB.out) | (with_reducible refine Kd.C_alloc ?_ _) | (with_reducible refine Kd.C_drewN ?_ _) | (with_reducible refine Kd.C_drew ?_))); (case side2 => exact HC0.out); rintro e w' ⟨rfl, ⟨nd, rfl⟩⟩; (try first | exact ⟨rfl, _, World.drewN_drewN _ _ _⟩ | exact ⟨rfl, _, Eq.trans (World.drewN_drewN _ _ _) (congrArg (World.drewN _) (Nat.add_assoc _ _ _))⟩))))
            go_meet
            case rel => exact ⟨_, (true), (by first | rfl | (simp; done) | (simp [*]; done)), H', ⟨by first | omega | exact Nat.le_refl _⟩, ⟨by repeat (first | (with_reducible first | exact HB.out | apply below_alloc | apply pw_below_drewN | apply below_drew1) | exact HB.out)⟩⟩
          · rw [if_neg c12] at H
            have c12b0 : decide (60 < (a2.size : Int)) = false := decide_eq_false c12
            have c12b1 : decide (60 < a2.size) = false := decide_eq_false (by omega)
            clear c12
            have H' := Aside0.mk H
            clear H
            go_wp2_with (first | (go_at_call 6; (with_reducible refine (touchstonelaw10_light.calls k _ _ l0 true _ ?side1 ?side2 A9.out).mono ?_); (case side1 => repeat (first | exact (Kd.C_below HR0.out HB.out) | (with_reducible refine Kd.C_alloc ?_ _) | (with_reducible refine Kd.C_drewN ?_ _) | (with_reducible refine Kd.C_drew ?_))); (case side2 => exact HC0.out); rintro e w' ⟨rfl, ⟨nd, rfl⟩⟩; (try first | exact ⟨rfl, _, World.drewN_drewN _ _ _⟩ | exact ⟨rfl, _, Eq.trans (World.drewN_drewN _ _ _) (congrArg (World.drewN _) (Nat.add_assoc _ _ _))⟩)))
            repeat (go_quiet (first | (go_at_call 6; (with_reducible refine (touchstonelaw10_light.calls k _ _ l0 true _ ?side1 ?side2 A9.out).mono ?_); (case side1 => repeat (first | exact (Kd.C_below HR0.out HB.out) | (with_reducible refine Kd.C_alloc ?_ _) | (with_reducible refine Kd.C_drewN ?_ _) | (with_reducible refine Kd.C_drew ?_))); (case side2 => exact HC0.out); rintro e w' ⟨rfl, ⟨nd, rfl⟩⟩; (try first | exact ⟨rfl, _, World.drewN_drewN _ _ _⟩ | exact ⟨rfl, _, Eq.trans (World.drewN_drewN _ _ _) (congrArg (World.drewN _) (Nat.add_assoc _ _ _))⟩))); try go_wp2_with (first | (go_at_call 6; (with_reducible refine (touchstonelaw10_light.calls k _ _ l0 true _ ?side1 ?side2 A9.out).mono ?_); (case side1 => repeat (first | exact (Kd.C_below HR0.out HB.out) | (with_reducible refine Kd.C_alloc ?_ _) | (with_reducible refine Kd.C_drewN ?_ _) | (with_reducible refine Kd.C_drew ?_))); (case side2 => exact HC0.out); rintro e w' ⟨rfl, ⟨nd, rfl⟩⟩; (try first | exact ⟨rfl, _, World.drewN_drewN _ _ _⟩ | exact ⟨rfl, _, Eq.trans (World.drewN_drewN _ _ _) (congrArg (World.drewN _) (Nat.add_assoc _ _ _))⟩))))
            go_meet
            case rel => exact ⟨_, (decide ((a3.size : Int) > 60)), (by first | rfl | (simp; done) | (simp [*]; done)), H', ⟨by first | omega | exact Nat.le_refl _⟩, ⟨by repeat (first | (with_reducible first | exact HB.out | apply below_alloc | apply pw_below_drewN | apply below_drew1) | exact HB.out)⟩⟩
      · replace c10 := Bool.eq_false_iff.mpr c10
        subst c10
        have H1 : (touchstonelaw10_NamesOrder.j0 k l0 a1 a2 a3 true) = some r := by rw [if_neg (show ¬ (false = true) by decide)] at H; exact H
        clear H
        have H := H1
        clear H1
        have H' := Aside0.mk H
        clear H
        go_wp2_with (first | (go_at_call 6; (with_reducible refine (touchstonelaw10_light.calls k _ _ l0 false _ ?side1 ?side2 A9.out).mono ?_); (case side1 => repeat (first | exact (Kd.C_below HR0.out HB.out) | (with_reducible refine Kd.C_alloc ?_ _) | (with_reducible refine Kd.C_drewN ?_ _) | (with_reducible refine Kd.C_drew ?_))); (case side2 => exact HC0.out); rintro e w' ⟨rfl, ⟨nd, rfl⟩⟩; (try first | exact ⟨rfl, _, World.drewN_drewN _ _ _⟩ | exact ⟨rfl, _, Eq.trans (World.drewN_drewN _ _ _) (congrArg (World.drewN _) (Nat.add_assoc _ _ _))⟩)))
        repeat (go_quiet (first | (go_at_call 6; (with_reducible refine (touchstonelaw10_light.calls k _ _ l0 false _ ?side1 ?side2 A9.out).mono ?_); (case side1 => repeat (first | exact (Kd.C_below HR0.out HB.out) | (with_reducible refine Kd.C_alloc ?_ _) | (with_reducible refine Kd.C_drewN ?_ _) | (with_reducible refine Kd.C_drew ?_))); (case side2 => exact HC0.out); rintro e w' ⟨rfl, ⟨nd, rfl⟩⟩; (try first | exact ⟨rfl, _, World.drewN_drewN _ _ _⟩ | exact ⟨rfl, _, Eq.trans (World.drewN_drewN _ _ _) (congrArg (World.drewN _) (Nat.add_assoc _ _ _))⟩))); try go_wp2_with (first | (go_at_call 6; (with_reducible refine (touchstonelaw10_light.calls k _ _ l0 false _ ?side1 ?side2 A9.out).mono ?_); (case side1 => repeat (first | exact (Kd.C_below HR0.out HB.out) | (with_reducible refine Kd.C_alloc ?_ _) | (with_reducible refine Kd.C_drewN ?_ _) | (with_reducible refine Kd.C_drew ?_))); (case side2 => exact HC0.out); rintro e w' ⟨rfl, ⟨nd, rfl⟩⟩; (try first | exact ⟨rfl, _, World.drewN_drewN _ _ _⟩ | exact ⟨rfl, _, Eq.trans (World.drewN_drewN _ _ _) (congrArg (World.drewN _) (Nat.add_assoc _ _ _))⟩))))
        go_meet
        case rel => exact ⟨_, (true), (by first | rfl | (simp; done) | (simp [*]; done)), H', ⟨by first | omega | exact Nat.le_refl _⟩, ⟨by repeat (first | (with_reducible first | exact HB.out | apply below_alloc | apply pw_below_drewN | apply below_drew1) | exact HB.out)⟩⟩
    case rest =>
      clear HC7
      try clear c1
      try clear p2
      try clear c4
      try clear c6
      try clear c10
      try clear c11
      try clear c11b0
      try clear c11b1
      try clear c12
      try clear c12b0
      try clear c12b1
      obtain ⟨kq, x31_6, rfl, HA, HJ6, HB⟩ := hcut
      cases kq with
      | zero => exact absurd HA.out (by simp [touchstonelaw10_NamesOrder.j0])
      | succ kj6 =>
        have H := HA.out
        clear HA
        simp only [touchstonelaw10_NamesOrder.j0] at H
        by_cases c13 : x31_6 = true
        · subst c13
          have H1 : (some true) = some r := by rw [if_pos rfl] at H; exact H
          clear H
          have H := H1
          clear H1
          obtain rfl := Option.some.inj H
          go_wp2
          repeat (go_quiet (fail); try go_wp2)
          go_ret
          exact ⟨by first | rfl | (simp [errW_none, errW_some] <;> rfl) | (simp [*, errW_none, errW_some] <;> rfl), by repeat (first | (with_reducible first | exact HB.out | apply below_alloc | apply pw_below_drewN | apply below_drew1) | exact HB.out)⟩
        · replace c13 := Bool.eq_false_iff.mpr c13
          subst c13
          have H1 : ((names_Sorted.f l0).bind fun t328 => (touchstonelaw10_NamesOrder.l0 kj6 l0 a1 a2 a3 t328 1)) = some r := by rw [if_neg (show ¬ (false = true) by decide)] at H; exact H
          clear H
          have H := H1
          clear H1
          replace H := Option.bind_eq_some_iff.mp H
          obtain ⟨t328, A140, H⟩ := H
          replace H : (touchstonelaw10_NamesOrder.l0 kj6 l0 a1 a2 a3 t328 1) = some r := H
          have A14 := Aside0.mk A140
          clear A140
          have H' := Aside0.mk H
          clear H
          go_wp2_with (first | (go_at_call 7; (with_reducible refine (names_Sorted.calls _ _ l0 t328 _ ?side1 ?side2 A14.out).mono ?_); (case side1 => repeat (first | exact (Kd.C_below HR0.out HB.out) | (with_reducible refine Kd.C_alloc ?_ _) | (with_reducible refine Kd.C_drewN ?_ _) | (with_reducible refine Kd.C_drew ?_))); (case side2 => exact HC0.out); rintro e w15 ⟨v329, rfl, ho0, hb⟩; have n0_ := Aside0.mk (Kd.R_lower ho0 (below_size (by repeat (first | (with_reducible first | exact HB.out | apply below_alloc | apply pw_below_drewN | apply below_drew1) | exact HB.out)))); have n1_ := Aside0.mk (below_step (by repeat (first | (with_reducible first | exact HB.out | apply below_alloc | apply pw_below_drewN | apply below_drew1) | exact HB.out)) hb); clear HB; have HO330 := n0_; have HB := n1_; clear n0_ n1_; (try clear hb); (try clear hb2); (try clear hk); (try clear hi); (try clear ho0)))
          repeat (go_quiet (first | (go_at_call 7; (with_reducible refine (names_Sorted.calls _ _ l0 t328 _ ?side1 ?side2 A14.out).mono ?_); (case side1 => repeat (first | exact (Kd.C_below HR0.out HB.out) | (with_reducible refine Kd.C_alloc ?_ _) | (with_reducible refine Kd.C_drewN ?_ _) | (with_reducible refine Kd.C_drew ?_))); (case side2 => exact HC0.out); rintro e w15 ⟨v329, rfl, ho0, hb⟩; have n0_ := Aside0.mk (Kd.R_lower ho0 (below_size (by repeat (first | (with_reducible first | exact HB.out | apply below_alloc | apply pw_below_drewN | apply below_drew1) | exact HB.out)))); have n1_ := Aside0.mk (below_step (by repeat (first | (with_reducible first | exact HB.out | apply below_alloc | apply pw_below_drewN | apply below_drew1) | exact HB.out)) hb); clear HB; have HO330 := n0_; have HB := n1_; clear n0_ n1_; (try clear hb); (try clear hb2); (try clear hk); (try clear hi); (try clear ho0))); try go_wp2_with (first | (go_at_call 7; (with_reducible refine (names_Sorted.calls _ _ l0 t328 _ ?side1 ?side2 A14.out).mono ?_); (case side1 => repeat (first | exact (Kd.C_below HR0.out HB.out) | (with_reducible refine Kd.C_alloc ?_ _) | (with_reducible refine Kd.C_drewN ?_ _) | (with_reducible refine Kd.C_drew ?_))); (case side2 => exact HC0.out); rintro e w15 ⟨v329, rfl, ho0, hb⟩; have n0_ := Aside0.mk (Kd.R_lower ho0 (below_size (by repeat (first | (with_reducible first | exact HB.out | apply below_alloc | apply pw_below_drewN | apply below_drew1) | exact HB.out)))); have n1_ := Aside0.mk (below_step (by repeat (first | (with_reducible first | exact HB.out | apply below_alloc | apply pw_below_drewN | apply below_drew1) | exact HB.out)) hb); clear HB; have HO330 := n0_; have HB := n1_; clear n0_ n1_; (try clear hb); (try clear hb2); (try clear hk); (try clear hi); (try clear ho0))))
          go_loopg [10] kj6 (fun kq v10 w' => ∃ (x10_2 : Int), v10 = .int .i64 x10_2 ∧ Aside0 (touchstonelaw10_NamesOrder.l0 kq l0 a1 a2 a3 t328 x10_2 = some r) ∧ Aside0 (kq ≤ kj6) ∧ Aside0 (Kd.R Kd.string 9 w' w.heap.size (fun _ => True) v329 t328) ∧ Aside0 (Below w.heap.size w w'))
          case atStart => exact ⟨(1), (by first | rfl | (simp; done) | (simp [*]; done)), H', ⟨Nat.le_refl _⟩, ⟨by (with_reducible repeat (first | apply Kd.R_alloc | apply Kd.R_drewN | apply Kd.R_drew)); exact HO330.out⟩, ⟨by repeat (first | (with_reducible first | exact HB.out | apply below_alloc | apply pw_below_drewN | apply below_drew1) | exact HB.out)⟩⟩
          case round =>
            clear H'
            try clear c1
            try clear p2
            try clear c4
            try clear c6
            try clear c10
            try clear c11
            try clear c11b0
            try clear c11b1
            try clear c12
            try clear c12b0
            try clear c12b1
            try clear c13
            try clear p2
            obtain ⟨x10_2, rfl, HA, HK2, HO_9, HB⟩ := hrel
            cases gk with
            | zero => exact absurd HA.out (by simp [touchstonelaw10_NamesOrder.l0])
            | succ k2 =>
              have H := HA.out
              clear HA
              simp only [touchstonelaw10_NamesOrder.l0] at H
              by_cases c16 : x10_2 < (t328.length : Int)
              · rw [if_pos c16] at H
                have c16b0 : decide (x10_2 < (t328.length : Int)) = true := decide_eq_true c16
                clear c16
                obtain ⟨ji17, hji17⟩ : ∃ j_ : Int, (wrap64 (x10_2 - 1)) = j_ := ⟨_, rfl⟩
                replace H : (if 0 ≤ (ji17) then (if (ji17) < (t328.length : Int) then (if 0 ≤ x10_2 then ((names_Less.f (rdOf ByteArray.empty t328 (ji17)) (rdOf ByteArray.empty t328 x10_2)).bind fun t333 => (if t333 = true then (touchstonelaw10_NamesOrder.l0 k2 l0 a1 a2 a3 t328 (wrap64 (x10_2 + 1))) else (none))) else (none)) else (none)) else (none)) = some r := by first | (rw [hji17] at H; exact H) | (simp only [hji17] at H ⊢; exact H)
                have hji17w : (IntKind.i64.wrap (x10_2 - 1)) = ji17 := (i64_w _).trans hji17
                by_cases c18 : 0 ≤ (ji17)
                · rw [if_pos c18] at H
                  have c18b0 : decide (0 ≤ (ji17)) = true := decide_eq_true c18
                  clear c18
                  by_cases c19 : (ji17) < (t328.length : Int)
                  · rw [if_pos c19] at H
                    have c19b0 : decide ((ji17) < (t328.length : Int)) = true := decide_eq_true c19
                    clear c19
                    by_cases c20 : 0 ≤ x10_2
                    · rw [if_pos c20] at H
                      have c20b0 : decide (0 ≤ x10_2) = true := decide_eq_true c20
                      clear c20
                      replace H := Option.bind_eq_some_iff.mp H
                      obtain ⟨t333, A210, H⟩ := H
                      replace H : (if t333 = true then (touchstonelaw10_NamesOrder.l0 k2 l0 a1 a2 a3 t328 (wrap64 (x10_2 + 1))) else (none)) = some r := H
                      have A21 := Aside0.mk A210
                      clear A210
                      by_cases c22 : t333 = true
                      · subst c22
                        have H1 : (touchstonelaw10_NamesOrder.l0 k2 l0 a1 a2 a3 t328 (wrap64 (x10_2 + 1))) = some r := by rw [if_pos rfl] at H; exact H
                        clear H
                        have H := H1
                        clear H1
                        have H' := Aside0.mk H
                        clear H
                        obtain ⟨Ao23, co23, eo23⟩ := Kd.R_slice HO_9.out
                        subst eo23
                        have p331 : 0 ≤ ((ji17) : Int) := of_decide_eq_true (by first | (with_reducible assumption) | assumption)
                        have q331 : (ji17) < (t328.length : Int) := of_decide_eq_true (by first | (with_reducible assumption) | assumption)
                        obtain ⟨ad331, e331, hx331_0⟩ := Kd.at_string (Kd.R_reads' HO_9.out).2.2 (ji17) p331 q331
                        cases e331
                        replace p331 := eq_true p331
                        replace q331 := eq_true q331
                        have p332 : 0 ≤ (x10_2 : Int) := of_decide_eq_true (by first | (with_reducible assumption) | assumption)
                        have q332 : x10_2 < (t328.length : Int) := of_decide_eq_true (by first | (with_reducible assumption) | assumption)
                        obtain ⟨ad332, e332, hx332_0⟩ := Kd.at_string (Kd.R_reads' HO_9.out).2.2 x10_2 p332 q332
                        obtain rfl : ad331 = ad332 := (by injection e332)
                        replace p332 := eq_true p332
                        replace q332 := eq_true q332
                        go_wp2_with (first | (go_at_call 15; (with_reducible refine (names_Less.calls (rdOf ByteArray.empty t328 (ji17)) (rdOf ByteArray.empty t328 x10_2) true _ A21.out).mono ?_); rintro e w' ⟨rfl, ⟨nd, rfl⟩⟩; (try first | exact ⟨rfl, _, World.drewN_drewN _ _ _⟩ | exact ⟨rfl, _, Eq.trans (World.drewN_drewN _ _ _) (congrArg (World.drewN _) (Nat.add_assoc _ _ _))⟩)))
                        repeat (go_quiet (first | (go_at_call 15; (with_reducible refine (names_Less.calls (rdOf ByteArray.empty t328 (ji17)) (rdOf ByteArray.empty t328 x10_2) true _ A21.out).mono ?_); rintro e w' ⟨rfl, ⟨nd, rfl⟩⟩; (try first | exact ⟨rfl, _, World.drewN_drewN _ _ _⟩ | exact ⟨rfl, _, Eq.trans (World.drewN_drewN _ _ _) (congrArg (World.drewN _) (Nat.add_assoc _ _ _))⟩))); try go_wp2_with (first | (go_at_call 15; (with_reducible refine (names_Less.calls (rdOf ByteArray.empty t328 (ji17)) (rdOf ByteArray.empty t328 x10_2) true _ A21.out).mono ?_); rintro e w' ⟨rfl, ⟨nd, rfl⟩⟩; (try first | exact ⟨rfl, _, World.drewN_drewN _ _ _⟩ | exact ⟨rfl, _, Eq.trans (World.drewN_drewN _ _ _) (congrArg (World.drewN _) (Nat.add_assoc _ _ _))⟩))))
                        go_roundg k2
                        case measure => have := HJ6.out; have := HK2.out; omega
                        case rel => exact ⟨(wrap64 (x10_2 + 1)), (by first | rfl | (simp; done) | (simp [*]; done)), H', ⟨by have := HJ6.out; have := HK2.out; omega⟩, ⟨by (with_reducible repeat (first | apply Kd.R_alloc | apply Kd.R_drewN | apply Kd.R_drew)); exact HO_9.out⟩, ⟨by repeat (first | (with_reducible first | exact HB.out | apply below_alloc | apply pw_below_drewN | apply below_drew1) | exact HB.out)⟩⟩
                      · replace c22 := Bool.eq_false_iff.mpr c22
                        subst c22
                        have H1 : (none) = some r := by rw [if_neg (show ¬ (false = true) by decide)] at H; exact H
                        clear H
                        have H := H1
                        clear H1
                        exact absurd H (by simp)
                    · rw [if_neg c20] at H
                      exact absurd H (by simp)
                  · rw [if_neg c19] at H
                    exact absurd H (by simp)
                · rw [if_neg c18] at H
                  exact absurd H (by simp)
              · rw [if_neg c16] at H
                have c16b0 : decide (x10_2 < (t328.length : Int)) = false := decide_eq_false c16
                clear c16
                have H' := Aside0.mk H
                clear H
                obtain ⟨Ao24, co24, eo24⟩ := Kd.R_slice HO_9.out
                subst eo24
                go_wp2
                repeat (go_quiet (fail); try go_wp2)
                go_loopg [11] k2 (fun kq v11 w' => ∃ (x11_3 : Int), v11 = .int .i64 x11_3 ∧ Aside0 (touchstonelaw10_NamesOrder.l1 kq l0 a1 a2 a3 t328 x11_3 = some r) ∧ Aside0 (kq ≤ k2) ∧ Aside0 (Kd.R Kd.string 9 w' w.heap.size (fun _ => True) (.slice Ao24 t328.length co24) t328) ∧ Aside0 (Below w.heap.size w w'))
                case atStart => exact ⟨(0), (by first | rfl | (simp; done) | (simp [*]; done)), H', ⟨Nat.le_refl _⟩, ⟨by (with_reducible repeat (first | apply Kd.R_alloc | apply Kd.R_drewN | apply Kd.R_drew)); exact HO_9.out⟩, ⟨by repeat (first | (with_reducible first | exact HB.out | apply below_alloc | apply pw_below_drewN | apply below_drew1) | exact HB.out)⟩⟩
                case round =>
                  clear H'
                  try clear c1
                  try clear c2
                  try clear p2
                  try clear p3
                  try clear q3
                  try clear hx3
                  try clear c4
                  try clear c6
                  try clear p6
                  try clear c10
                  try clear c11
                  try clear c11b0
                  try clear c11b1
                  try clear c12
                  try clear c12b0
                  try clear c12b1
                  try clear c13
                  try clear c16
                  try clear c16b0
                  try clear c18
                  try clear c18b0
                  try clear c19
                  try clear c19b0
                  try clear c20
                  try clear c20b0
                  try clear c22
                  try clear hx331_0
                  try clear hx332_0
                  try clear p2
                  try clear p331
                  try clear p332
                  try clear q331
                  try clear q332
                  obtain ⟨x11_3, rfl, HA, HK3, HO_9, HB⟩ := hrel
                  cases gk with
                  | zero => exact absurd HA.out (by simp [touchstonelaw10_NamesOrder.l1])
                  | succ k3 =>
                    have H := HA.out
                    clear HA
                    simp only [touchstonelaw10_NamesOrder.l1] at H
                    by_cases c25 : x11_3 < (l0.length : Int)
                    · rw [if_pos c25] at H
                      have c25b0 : decide (x11_3 < (l0.length : Int)) = true := decide_eq_true c25
                      clear c25
                      by_cases c26 : 0 ≤ x11_3
                      · rw [if_pos c26] at H
                        have c26b0 : decide (0 ≤ x11_3) = true := decide_eq_true c26
                        clear c26
                        replace H := Option.bind_eq_some_iff.mp H
                        obtain ⟨t335, A270, H⟩ := H
                        replace H : (if t335 = true then (touchstonelaw10_NamesOrder.l1 k3 l0 a1 a2 a3 t328 (wrap64 (x11_3 + 1))) else (none)) = some r := H
                        have A27 := Aside0.mk A270
                        clear A270
                        by_cases c28 : t335 = true
                        · subst c28
                          have H1 : (touchstonelaw10_NamesOrder.l1 k3 l0 a1 a2 a3 t328 (wrap64 (x11_3 + 1))) = some r := by rw [if_pos rfl] at H; exact H
                          clear H
                          have H := H1
                          clear H1
                          have H' := Aside0.mk H
                          clear H
                          have p334 : 0 ≤ (x11_3 : Int) := of_decide_eq_true (by first | (with_reducible assumption) | assumption)
                          have q334 : x11_3 < (l0.length : Int) := of_decide_eq_true (by first | (with_reducible assumption) | assumption)
                          obtain ⟨ad334, e334, hx334_0⟩ := Kd.at_string HR0.out x11_3 p334 q334
                          cases e334
                          replace hx334_0 := (HB.out.cell (World.block_lt_of_cell? w _ hx334_0)).trans hx334_0
                          replace p334 := eq_true p334
                          replace q334 := eq_true q334
                          go_wp2_with (first | (go_at_call 13; (with_reducible refine (names_Has.calls k3 _ _ t328 (rdOf ByteArray.empty l0 x11_3) true _ ?side1 ?side2 A27.out).mono ?_); (case side1 => repeat (first | exact (Kd.R_reads' HO_9.out).2.2 | (with_reducible refine Kd.C_alloc ?_ _) | (with_reducible refine Kd.C_drewN ?_ _) | (with_reducible refine Kd.C_drew ?_))); (case side2 => exact (Kd.R_reads' HO_9.out).2.1); rintro e w' ⟨rfl, ⟨nd, rfl⟩⟩; (try first | exact ⟨rfl, _, World.drewN_drewN _ _ _⟩ | exact ⟨rfl, _, Eq.trans (World.drewN_drewN _ _ _) (congrArg (World.drewN _) (Nat.add_assoc _ _ _))⟩)))
                          repeat (go_quiet (first | (go_at_call 13; (with_reducible refine (names_Has.calls k3 _ _ t328 (rdOf ByteArray.empty l0 x11_3) true _ ?side1 ?side2 A27.out).mono ?_); (case side1 => repeat (first | exact (Kd.R_reads' HO_9.out).2.2 | (with_reducible refine Kd.C_alloc ?_ _) | (with_reducible refine Kd.C_drewN ?_ _) | (with_reducible refine Kd.C_drew ?_))); (case side2 => exact (Kd.R_reads' HO_9.out).2.1); rintro e w' ⟨rfl, ⟨nd, rfl⟩⟩; (try first | exact ⟨rfl, _, World.drewN_drewN _ _ _⟩ | exact ⟨rfl, _, Eq.trans (World.drewN_drewN _ _ _) (congrArg (World.drewN _) (Nat.add_assoc _ _ _))⟩))); try go_wp2_with (first | (go_at_call 13; (with_reducible refine (names_Has.calls k3 _ _ t328 (rdOf ByteArray.empty l0 x11_3) true _ ?side1 ?side2 A27.out).mono ?_); (case side1 => repeat (first | exact (Kd.R_reads' HO_9.out).2.2 | (with_reducible refine Kd.C_alloc ?_ _) | (with_reducible refine Kd.C_drewN ?_ _) | (with_reducible refine Kd.C_drew ?_))); (case side2 => exact (Kd.R_reads' HO_9.out).2.1); rintro e w' ⟨rfl, ⟨nd, rfl⟩⟩; (try first | exact ⟨rfl, _, World.drewN_drewN _ _ _⟩ | exact ⟨rfl, _, Eq.trans (World.drewN_drewN _ _ _) (congrArg (World.drewN _) (Nat.add_assoc _ _ _))⟩))))
                          go_roundg k3
                          case measure => have := HJ6.out; have := HK2.out; have := HK3.out; omega
                          case rel => exact ⟨(wrap64 (x11_3 + 1)), (by first | rfl | (simp; done) | (simp [*]; done)), H', ⟨by have := HJ6.out; have := HK2.out; have := HK3.out; omega⟩, ⟨by (with_reducible repeat (first | apply Kd.R_alloc | apply Kd.R_drewN | apply Kd.R_drew)); exact HO_9.out⟩, ⟨by repeat (first | (with_reducible first | exact HB.out | apply below_alloc | apply pw_below_drewN | apply below_drew1) | exact HB.out)⟩⟩
                        · replace c28 := Bool.eq_false_iff.mpr c28
                          subst c28
                          have H1 : (none) = some r := by rw [if_neg (show ¬ (false = true) by decide)] at H; exact H
                          clear H
                          have H := H1
                          clear H1
                          exact absurd H (by simp)
                      · rw [if_neg c26] at H
                        exact absurd H (by simp)
                    · rw [if_neg c25] at H
                      have c25b0 : decide (x11_3 < (l0.length : Int)) = false := decide_eq_false c25
                      clear c25
                      replace H := Option.bind_eq_some_iff.mp H
                      obtain ⟨t336, A290, H⟩ := H
                      replace H : (if t336 = true then (if ((a1.toList == a2.toList) == false) = true then ((names_Less.f a1 a2).bind fun t337 => (if t337 = true then ((names_Less.f a2 a3).bind fun t338 => (if t338 = true then ((names_Less.f a1 a3).bind fun t339 => (if t339 = true then ((names_Less.f a1 a2).bind fun t340 => ((touchstoneref11_Less.f k3 a1 a2).bind fun t341 => (if (t340 == t341) = true then ((names_Sorted.f t328).bind fun t342 => ((touchstonelaw10_alike.f k3 t342 t328).bind fun t345 => (some t345))) else (none)))) else (none))) else ((names_Less.f a1 a2).bind fun t346 => ((touchstoneref11_Less.f k3 a1 a2).bind fun t347 => (if (t346 == t347) = true then ((names_Sorted.f t328).bind fun t348 => ((touchstonelaw10_alike.f k3 t348 t328).bind fun t351 => (some t351))) else (none)))))) else ((names_Less.f a1 a2).bind fun t352 => ((touchstoneref11_Less.f k3 a1 a2).bind fun t353 => (if (t352 == t353) = true then ((names_Sorted.f t328).bind fun t354 => ((touchstonelaw10_alike.f k3 t354 t328).bind fun t357 => (some t357))) else (none)))))) else (none)) else ((names_Less.f a2 a1).bind fun t358 => (if ((a1.toList == a2.toList) == (!t358)) = true then ((names_Less.f a1 a2).bind fun t359 => (if t359 = true then ((names_Less.f a2 a3).bind fun t360 => (if t360 = true then ((names_Less.f a1 a3).bind fun t361 => (if t361 = true then ((names_Less.f a1 a2).bind fun t362 => ((touchstoneref11_Less.f k3 a1 a2).bind fun t363 => (if (t362 == t363) = true then ((names_Sorted.f t328).bind fun t364 => ((touchstonelaw10_alike.f k3 t364 t328).bind fun t367 => (some t367))) else (none)))) else (none))) else ((names_Less.f a1 a2).bind fun t368 => ((touchstoneref11_Less.f k3 a1 a2).bind fun t369 => (if (t368 == t369) = true then ((names_Sorted.f t328).bind fun t370 => ((touchstonelaw10_alike.f k3 t370 t328).bind fun t373 => (some t373))) else (none)))))) else ((names_Less.f a1 a2).bind fun t374 => ((touchstoneref11_Less.f k3 a1 a2).bind fun t375 => (if (t374 == t375) = true then ((names_Sorted.f t328).bind fun t376 => ((touchstonelaw10_alike.f k3 t376 t328).bind fun t379 => (some t379))) else (none)))))) else (none)))) = some r := H
                      have A29 := Aside0.mk A290
                      clear A290
                      by_cases c30 : t336 = true
                      · subst c30
                        have H1 : (if ((a1.toList == a2.toList) == false) = true then ((names_Less.f a1 a2).bind fun t337 => (if t337 = true then ((names_Less.f a2 a3).bind fun t338 => (if t338 = true then ((names_Less.f a1 a3).bind fun t339 => (if t339 = true then ((names_Less.f a1 a2).bind fun t340 => ((touchstoneref11_Less.f k3 a1 a2).bind fun t341 => (if (t340 == t341) = true then ((names_Sorted.f t328).bind fun t342 => ((touchstonelaw10_alike.f k3 t342 t328).bind fun t345 => (some t345))) else (none)))) else (none))) else ((names_Less.f a1 a2).bind fun t346 => ((touchstoneref11_Less.f k3 a1 a2).bind fun t347 => (if (t346 == t347) = true then ((names_Sorted.f t328).bind fun t348 => ((touchstonelaw10_alike.f k3 t348 t328).bind fun t351 => (some t351))) else (none)))))) else ((names_Less.f a1 a2).bind fun t352 => ((touchstoneref11_Less.f k3 a1 a2).bind fun t353 => (if (t352 == t353) = true then ((names_Sorted.f t328).bind fun t354 => ((touchstonelaw10_alike.f k3 t354 t328).bind fun t357 => (some t357))) else (none)))))) else (none)) = some r := by rw [if_pos rfl] at H; exact H
                        clear H
                        have H := H1
                        clear H1
                        by_cases c31 : ((a1.toList == a2.toList) == false) = true
                        · rw [if_pos c31] at H
                          have c31b0 : ((a1.toList == a2.toList) == false) = true := c31
                          (try (have c31b1 : decide ((a1.toList == a2.toList) = false) = true := by simpa using c31))
                          (try (have c31b2 : ((a1.toList == a2.toList) == false) = true := by simpa using c31))
                          clear c31
                          replace H := Option.bind_eq_some_iff.mp H
                          obtain ⟨t337, A320, H⟩ := H
                          replace H : (if t337 = true then ((names_Less.f a2 a3).bind fun t338 => (if t338 = true then ((names_Less.f a1 a3).bind fun t339 => (if t339 = true then ((names_Less.f a1 a2).bind fun t340 => ((touchstoneref11_Less.f k3 a1 a2).bind fun t341 => (if (t340 == t341) = true then ((names_Sorted.f t328).bind fun t342 => ((touchstonelaw10_alike.f k3 t342 t328).bind fun t345 => (some t345))) else (none)))) else (none))) else ((names_Less.f a1 a2).bind fun t346 => ((touchstoneref11_Less.f k3 a1 a2).bind fun t347 => (if (t346 == t347) = true then ((names_Sorted.f t328).bind fun t348 => ((touchstonelaw10_alike.f k3 t348 t328).bind fun t351 => (some t351))) else (none)))))) else ((names_Less.f a1 a2).bind fun t352 => ((touchstoneref11_Less.f k3 a1 a2).bind fun t353 => (if (t352 == t353) = true then ((names_Sorted.f t328).bind fun t354 => ((touchstonelaw10_alike.f k3 t354 t328).bind fun t357 => (some t357))) else (none))))) = some r := H
                          have A32 := Aside0.mk A320
                          clear A320
                          by_cases c33 : t337 = true
                          · subst c33
                            have H1 : ((names_Less.f a2 a3).bind fun t338 => (if t338 = true then ((names_Less.f a1 a3).bind fun t339 => (if t339 = true then ((names_Less.f a1 a2).bind fun t340 => ((touchstoneref11_Less.f k3 a1 a2).bind fun t341 => (if (t340 == t341) = true then ((names_Sorted.f t328).bind fun t342 => ((touchstonelaw10_alike.f k3 t342 t328).bind fun t345 => (some t345))) else (none)))) else (none))) else ((names_Less.f a1 a2).bind fun t346 => ((touchstoneref11_Less.f k3 a1 a2).bind fun t347 => (if (t346 == t347) = true then ((names_Sorted.f t328).bind fun t348 => ((touchstonelaw10_alike.f k3 t348 t328).bind fun t351 => (some t351))) else (none)))))) = some r := by rw [if_pos rfl] at H; exact H
                            clear H
                            have H := H1
                            clear H1
                            replace H := Option.bind_eq_some_iff.mp H
                            obtain ⟨t338, A340, H⟩ := H
                            replace H : (if t338 = true then ((names_Less.f a1 a3).bind fun t339 => (if t339 = true then ((names_Less.f a1 a2).bind fun t340 => ((touchstoneref11_Less.f k3 a1 a2).bind fun t341 => (if (t340 == t341) = true then ((names_Sorted.f t328).bind fun t342 => ((touchstonelaw10_alike.f k3 t342 t328).bind fun t345 => (some t345))) else (none)))) else (none))) else ((names_Less.f a1 a2).bind fun t346 => ((touchstoneref11_Less.f k3 a1 a2).bind fun t347 => (if (t346 == t347) = true then ((names_Sorted.f t328).bind fun t348 => ((touchstonelaw10_alike.f k3 t348 t328).bind fun t351 => (some t351))) else (none))))) = some r := H
                            have A34 := Aside0.mk A340
                            clear A340
                            by_cases c35 : t338 = true
                            · subst c35
                              have H1 : ((names_Less.f a1 a3).bind fun t339 => (if t339 = true then ((names_Less.f a1 a2).bind fun t340 => ((touchstoneref11_Less.f k3 a1 a2).bind fun t341 => (if (t340 == t341) = true then ((names_Sorted.f t328).bind fun t342 => ((touchstonelaw10_alike.f k3 t342 t328).bind fun t345 => (some t345))) else (none)))) else (none))) = some r := by rw [if_pos rfl] at H; exact H
                              clear H
                              have H := H1
                              clear H1
                              replace H := Option.bind_eq_some_iff.mp H
                              obtain ⟨t339, A360, H⟩ := H
                              replace H : (if t339 = true then ((names_Less.f a1 a2).bind fun t340 => ((touchstoneref11_Less.f k3 a1 a2).bind fun t341 => (if (t340 == t341) = true then ((names_Sorted.f t328).bind fun t342 => ((touchstonelaw10_alike.f k3 t342 t328).bind fun t345 => (some t345))) else (none)))) else (none)) = some r := H
                              have A36 := Aside0.mk A360
                              clear A360
                              by_cases c37 : t339 = true
                              · subst c37
                                have H1 : ((names_Less.f a1 a2).bind fun t340 => ((touchstoneref11_Less.f k3 a1 a2).bind fun t341 => (if (t340 == t341) = true then ((names_Sorted.f t328).bind fun t342 => ((touchstonelaw10_alike.f k3 t342 t328).bind fun t345 => (some t345))) else (none)))) = some r := by rw [if_pos rfl] at H; exact H
                                clear H
                                have H := H1
                                clear H1
                                replace H := Option.bind_eq_some_iff.mp H
                                obtain ⟨t340, A380, H⟩ := H
                                replace H : ((touchstoneref11_Less.f k3 a1 a2).bind fun t341 => (if (t340 == t341) = true then ((names_Sorted.f t328).bind fun t342 => ((touchstonelaw10_alike.f k3 t342 t328).bind fun t345 => (some t345))) else (none))) = some r := H
                                have A38 := Aside0.mk A380
                                clear A380
                                replace H := Option.bind_eq_some_iff.mp H
                                obtain ⟨t341, A390, H⟩ := H
                                replace H : (if (t340 == t341) = true then ((names_Sorted.f t328).bind fun t342 => ((touchstonelaw10_alike.f k3 t342 t328).bind fun t345 => (some t345))) else (none)) = some r := H
                                have A39 := Aside0.mk A390
                                clear A390
                                by_cases c40 : (t340 == t341) = true
                                · rw [if_pos c40] at H
                                  have c40b0 : (t340 == t341) = true := c40
                                  (try (have c40b1 : decide (t340 = t341) = true := by simpa using c40))
                                  (try (have c40b2 : (t340 == t341) = true := by simpa using c40))
                                  clear c40
                                  replace H := Option.bind_eq_some_iff.mp H
                                  obtain ⟨t342, A410, H⟩ := H
                                  replace H : ((touchstonelaw10_alike.f k3 t342 t328).bind fun t345 => (some t345)) = some r := H
                                  have A41 := Aside0.mk A410
                                  clear A410
                                  replace H := Option.bind_eq_some_iff.mp H
                                  obtain ⟨t345, A420, H⟩ := H
                                  replace H : (some t345) = some r := H
                                  have A42 := Aside0.mk A420
                                  clear A420
                                  obtain rfl := Option.some.inj H
                                  obtain rfl : t340 = true := Option.some.inj (A38.out.symm.trans A29.out)
                                  obtain rfl : t341 = true := by simpa using c40b0
                                  go_wp2_with (first | (go_at_call 15; (with_reducible refine (names_Less.calls a1 a2 true _ A29.out).mono ?_); rintro e w' ⟨rfl, ⟨nd, rfl⟩⟩; (try first | exact ⟨rfl, _, World.drewN_drewN _ _ _⟩ | exact ⟨rfl, _, Eq.trans (World.drewN_drewN _ _ _) (congrArg (World.drewN _) (Nat.add_assoc _ _ _))⟩)) | (go_at_call 15; (with_reducible refine (names_Less.calls a1 a2 true _ A32.out).mono ?_); rintro e w' ⟨rfl, ⟨nd, rfl⟩⟩; (try first | exact ⟨rfl, _, World.drewN_drewN _ _ _⟩ | exact ⟨rfl, _, Eq.trans (World.drewN_drewN _ _ _) (congrArg (World.drewN _) (Nat.add_assoc _ _ _))⟩)) | (go_at_call 15; (with_reducible refine (names_Less.calls a2 a3 true _ A34.out).mono ?_); rintro e w' ⟨rfl, ⟨nd, rfl⟩⟩; (try first | exact ⟨rfl, _, World.drewN_drewN _ _ _⟩ | exact ⟨rfl, _, Eq.trans (World.drewN_drewN _ _ _) (congrArg (World.drewN _) (Nat.add_assoc _ _ _))⟩)) | (go_at_call 15; (with_reducible refine (names_Less.calls a1 a3 true _ A36.out).mono ?_); rintro e w' ⟨rfl, ⟨nd, rfl⟩⟩; (try first | exact ⟨rfl, _, World.drewN_drewN _ _ _⟩ | exact ⟨rfl, _, Eq.trans (World.drewN_drewN _ _ _) (congrArg (World.drewN _) (Nat.add_assoc _ _ _))⟩)) | (go_at_call 15; (with_reducible refine (names_Less.calls a1 a2 true _ A38.out).mono ?_); rintro e w' ⟨rfl, ⟨nd, rfl⟩⟩; (try first | exact ⟨rfl, _, World.drewN_drewN _ _ _⟩ | exact ⟨rfl, _, Eq.trans (World.drewN_drewN _ _ _) (congrArg (World.drewN _) (Nat.add_assoc _ _ _))⟩)) | (go_at_call 16; (with_reducible refine (touchstoneref11_Less.calls k3 a1 a2 true _ A39.out).mono ?_); rintro e w' ⟨rfl, ⟨nd, rfl⟩⟩; (try first | exact ⟨rfl, _, World.drewN_drewN _ _ _⟩ | exact ⟨rfl, _, Eq.trans (World.drewN_drewN _ _ _) (congrArg (World.drewN _) (Nat.add_assoc _ _ _))⟩)) | (go_at_call 7; (with_reducible refine (names_Sorted.calls _ _ t328 t342 _ ?side1 ?side2 A41.out).mono ?_); (case side1 => repeat (first | exact (Kd.R_reads' HO_9.out).2.2 | (with_reducible refine Kd.C_alloc ?_ _) | (with_reducible refine Kd.C_drewN ?_ _) | (with_reducible refine Kd.C_drew ?_))); (case side2 => exact (Kd.R_reads' HO_9.out).2.1); rintro e w43 ⟨v343, rfl, ho0, hb⟩; have n0_ := Aside0.mk (Kd.R_elder' (by (with_reducible repeat (first | apply Kd.R_alloc | apply Kd.R_drewN | apply Kd.R_drew)); exact HO_9.out) (Kd.R_base ho0) hb); have n1_ := Aside0.mk (Kd.R_lower (Kd.R_new' ho0 (Kd.R_lt (by (with_reducible repeat (first | apply Kd.R_alloc | apply Kd.R_drewN | apply Kd.R_drew)); exact HO_9.out))) (below_size (by repeat (first | (with_reducible first | exact HB.out | apply below_alloc | apply pw_below_drewN | apply below_drew1) | exact HB.out)))); have n2_ := Aside0.mk (below_step (by repeat (first | (with_reducible first | exact HB.out | apply below_alloc | apply pw_below_drewN | apply below_drew1) | exact HB.out)) hb); clear HO_9; clear HB; have HO_9 := n0_; have HO344 := n1_; have HB := n2_; clear n0_ n1_ n2_; (try clear hb); (try clear hb2); (try clear hk); (try clear hi); (try clear ho0); obtain ⟨Ao44, co44, eo44⟩ := Kd.R_slice HO344.out; subst eo44) | (go_at_call 10; (with_reducible refine (touchstonelaw10_alike.calls k3 _ _ t342 _ _ t328 t345 _ ?side1 ?side2 ?side3 ?side4 A42.out).mono ?_); (case side1 => repeat (first | exact (Kd.R_reads' HO344.out).2.2 | (with_reducible refine Kd.C_alloc ?_ _) | (with_reducible refine Kd.C_drewN ?_ _) | (with_reducible refine Kd.C_drew ?_))); (case side2 => exact (Kd.R_reads' HO344.out).2.1); (case side3 => repeat (first | exact (Kd.R_reads' HO_9.out).2.2 | (with_reducible refine Kd.C_alloc ?_ _) | (with_reducible refine Kd.C_drewN ?_ _) | (with_reducible refine Kd.C_drew ?_))); (case side4 => exact (Kd.R_reads' HO_9.out).2.1); rintro e w' ⟨rfl, ⟨nd, rfl⟩⟩; (try first | exact ⟨rfl, _, World.drewN_drewN _ _ _⟩ | exact ⟨rfl, _, Eq.trans (World.drewN_drewN _ _ _) (congrArg (World.drewN _) (Nat.add_assoc _ _ _))⟩)))
                                  repeat (go_quiet (first | (go_at_call 15; (with_reducible refine (names_Less.calls a1 a2 true _ A29.out).mono ?_); rintro e w' ⟨rfl, ⟨nd, rfl⟩⟩; (try first | exact ⟨rfl, _, World.drewN_drewN _ _ _⟩ | exact ⟨rfl, _, Eq.trans (World.drewN_drewN _ _ _) (congrArg (World.drewN _) (Nat.add_assoc _ _ _))⟩)) | (go_at_call 15; (with_reducible refine (names_Less.calls a1 a2 true _ A32.out).mono ?_); rintro e w' ⟨rfl, ⟨nd, rfl⟩⟩; (try first | exact ⟨rfl, _, World.drewN_drewN _ _ _⟩ | exact ⟨rfl, _, Eq.trans (World.drewN_drewN _ _ _) (congrArg (World.drewN _) (Nat.add_assoc _ _ _))⟩)) | (go_at_call 15; (with_reducible refine (names_Less.calls a2 a3 true _ A34.out).mono ?_); rintro e w' ⟨rfl, ⟨nd, rfl⟩⟩; (try first | exact ⟨rfl, _, World.drewN_drewN _ _ _⟩ | exact ⟨rfl, _, Eq.trans (World.drewN_drewN _ _ _) (congrArg (World.drewN _) (Nat.add_assoc _ _ _))⟩)) | (go_at_call 15; (with_reducible refine (names_Less.calls a1 a3 true _ A36.out).mono ?_); rintro e w' ⟨rfl, ⟨nd, rfl⟩⟩; (try first | exact ⟨rfl, _, World.drewN_drewN _ _ _⟩ | exact ⟨rfl, _, Eq.trans (World.drewN_drewN _ _ _) (congrArg (World.drewN _) (Nat.add_assoc _ _ _))⟩)) | (go_at_call 15; (with_reducible refine (names_Less.calls a1 a2 true _ A38.out).mono ?_); rintro e w' ⟨rfl, ⟨nd, rfl⟩⟩; (try first | exact ⟨rfl, _, World.drewN_drewN _ _ _⟩ | exact ⟨rfl, _, Eq.trans (World.drewN_drewN _ _ _) (congrArg (World.drewN _) (Nat.add_assoc _ _ _))⟩)) | (go_at_call 16; (with_reducible refine (touchstoneref11_Less.calls k3 a1 a2 true _ A39.out).mono ?_); rintro e w' ⟨rfl, ⟨nd, rfl⟩⟩; (try first | exact ⟨rfl, _, World.drewN_drewN _ _ _⟩ | exact ⟨rfl, _, Eq.trans (World.drewN_drewN _ _ _) (congrArg (World.drewN _) (Nat.add_assoc _ _ _))⟩)) | (go_at_call 7; (with_reducible refine (names_Sorted.calls _ _ t328 t342 _ ?side1 ?side2 A41.out).mono ?_); (case side1 => repeat (first | exact (Kd.R_reads' HO_9.out).2.2 | (with_reducible refine Kd.C_alloc ?_ _) | (with_reducible refine Kd.C_drewN ?_ _) | (with_reducible refine Kd.C_drew ?_))); (case side2 => exact (Kd.R_reads' HO_9.out).2.1); rintro e w43 ⟨v343, rfl, ho0, hb⟩; have n0_ := Aside0.mk (Kd.R_elder' (by (with_reducible repeat (first | apply Kd.R_alloc | apply Kd.R_drewN | apply Kd.R_drew)); exact HO_9.out) (Kd.R_base ho0) hb); have n1_ := Aside0.mk (Kd.R_lower (Kd.R_new' ho0 (Kd.R_lt (by (with_reducible repeat (first | apply Kd.R_alloc | apply Kd.R_drewN | apply Kd.R_drew)); exact HO_9.out))) (below_size (by repeat (first | (with_reducible first | exact HB.out | apply below_alloc | apply pw_below_drewN | apply below_drew1) | exact HB.out)))); have n2_ := Aside0.mk (below_step (by repeat (first | (with_reducible first | exact HB.out | apply below_alloc | apply pw_below_drewN | apply below_drew1) | exact HB.out)) hb); clear HO_9; clear HB; have HO_9 := n0_; have HO344 := n1_; have HB := n2_; clear n0_ n1_ n2_; (try clear hb); (try clear hb2); (try clear hk); (try clear hi); (try clear ho0); obtain ⟨Ao44, co44, eo44⟩ := Kd.R_slice HO344.out; subst eo44) | (go_at_call 10; (with_reducible refine (touchstonelaw10_alike.calls k3 _ _ t342 _ _ t328 t345 _ ?side1 ?side2 ?side3 ?side4 A42.out).mono ?_); (case side1 => repeat (first | exact (Kd.R_reads' HO344.out).2.2 | (with_reducible refine Kd.C_alloc ?_ _) | (with_reducible refine Kd.C_drewN ?_ _) | (with_reducible refine Kd.C_drew ?_))); (case side2 => exact (Kd.R_reads' HO344.out).2.1); (case side3 => repeat (first | exact (Kd.R_reads' HO_9.out).2.2 | (with_reducible refine Kd.C_alloc ?_ _) | (with_reducible refine Kd.C_drewN ?_ _) | (with_reducible refine Kd.C_drew ?_))); (case side4 => exact (Kd.R_reads' HO_9.out).2.1); rintro e w' ⟨rfl, ⟨nd, rfl⟩⟩; (try first | exact ⟨rfl, _, World.drewN_drewN _ _ _⟩ | exact ⟨rfl, _, Eq.trans (World.drewN_drewN _ _ _) (congrArg (World.drewN _) (Nat.add_assoc _ _ _))⟩))); try go_wp2_with (first | (go_at_call 15; (with_reducible refine (names_Less.calls a1 a2 true _ A29.out).mono ?_); rintro e w' ⟨rfl, ⟨nd, rfl⟩⟩; (try first | exact ⟨rfl, _, World.drewN_drewN _ _ _⟩ | exact ⟨rfl, _, Eq.trans (World.drewN_drewN _ _ _) (congrArg (World.drewN _) (Nat.add_assoc _ _ _))⟩)) | (go_at_call 15; (with_reducible refine (names_Less.calls a1 a2 true _ A32.out).mono ?_); rintro e w' ⟨rfl, ⟨nd, rfl⟩⟩; (try first | exact ⟨rfl, _, World.drewN_drewN _ _ _⟩ | exact ⟨rfl, _, Eq.trans (World.drewN_drewN _ _ _) (congrArg (World.drewN _) (Nat.add_assoc _ _ _))⟩)) | (go_at_call 15; (with_reducible refine (names_Less.calls a2 a3 true _ A34.out).mono ?_); rintro e w' ⟨rfl, ⟨nd, rfl⟩⟩; (try first | exact ⟨rfl, _, World.drewN_drewN _ _ _⟩ | exact ⟨rfl, _, Eq.trans (World.drewN_drewN _ _ _) (congrArg (World.drewN _) (Nat.add_assoc _ _ _))⟩)) | (go_at_call 15; (with_reducible refine (names_Less.calls a1 a3 true _ A36.out).mono ?_); rintro e w' ⟨rfl, ⟨nd, rfl⟩⟩; (try first | exact ⟨rfl, _, World.drewN_drewN _ _ _⟩ | exact ⟨rfl, _, Eq.trans (World.drewN_drewN _ _ _) (congrArg (World.drewN _) (Nat.add_assoc _ _ _))⟩)) | (go_at_call 15; (with_reducible refine (names_Less.calls a1 a2 true _ A38.out).mono ?_); rintro e w' ⟨rfl, ⟨nd, rfl⟩⟩; (try first | exact ⟨rfl, _, World.drewN_drewN _ _ _⟩ | exact ⟨rfl, _, Eq.trans (World.drewN_drewN _ _ _) (congrArg (World.drewN _) (Nat.add_assoc _ _ _))⟩)) | (go_at_call 16; (with_reducible refine (touchstoneref11_Less.calls k3 a1 a2 true _ A39.out).mono ?_); rintro e w' ⟨rfl, ⟨nd, rfl⟩⟩; (try first | exact ⟨rfl, _, World.drewN_drewN _ _ _⟩ | exact ⟨rfl, _, Eq.trans (World.drewN_drewN _ _ _) (congrArg (World.drewN _) (Nat.add_assoc _ _ _))⟩)) | (go_at_call 7; (with_reducible refine (names_Sorted.calls _ _ t328 t342 _ ?side1 ?side2 A41.out).mono ?_); (case side1 => repeat (first | exact (Kd.R_reads' HO_9.out).2.2 | (with_reducible refine Kd.C_alloc ?_ _) | (with_reducible refine Kd.C_drewN ?_ _) | (with_reducible refine Kd.C_drew ?_))); (case side2 => exact (Kd.R_reads' HO_9.out).2.1); rintro e w43 ⟨v343, rfl, ho0, hb⟩; have n0_ := Aside0.mk (Kd.R_elder' (by (with_reducible repeat (first | apply Kd.R_alloc | apply Kd.R_drewN | apply Kd.R_drew)); exact HO_9.out) (Kd.R_base ho0) hb); have n1_ := Aside0.mk (Kd.R_lower (Kd.R_new' ho0 (Kd.R_lt (by (with_reducible repeat (first | apply Kd.R_alloc | apply Kd.R_drewN | apply Kd.R_drew)); exact HO_9.out))) (below_size (by repeat (first | (with_reducible first | exact HB.out | apply below_alloc | apply pw_below_drewN | apply below_drew1) | exact HB.out)))); have n2_ := Aside0.mk (below_step (by repeat (first | (with_reducible first | exact HB.out | apply below_alloc | apply pw_below_drewN | apply below_drew1) | exact HB.out)) hb); clear HO_9; clear HB; have HO_9 := n0_; have HO344 := n1_; have HB := n2_; clear n0_ n1_ n2_; (try clear hb); (try clear hb2); (try clear hk); (try clear hi); (try clear ho0); obtain ⟨Ao44, co44, eo44⟩ := Kd.R_slice HO344.out; subst eo44) | (go_at_call 10; (with_reducible refine (touchstonelaw10_alike.calls k3 _ _ t342 _ _ t328 t345 _ ?side1 ?side2 ?side3 ?side4 A42.out).mono ?_); (case side1 => repeat (first | exact (Kd.R_reads' HO344.out).2.2 | (with_reducible refine Kd.C_alloc ?_ _) | (with_reducible refine Kd.C_drewN ?_ _) | (with_reducible refine Kd.C_drew ?_))); (case side2 => exact (Kd.R_reads' HO344.out).2.1); (case side3 => repeat (first | exact (Kd.R_reads' HO_9.out).2.2 | (with_reducible refine Kd.C_alloc ?_ _) | (with_reducible refine Kd.C_drewN ?_ _) | (with_reducible refine Kd.C_drew ?_))); (case side4 => exact (Kd.R_reads' HO_9.out).2.1); rintro e w' ⟨rfl, ⟨nd, rfl⟩⟩; (try first | exact ⟨rfl, _, World.drewN_drewN _ _ _⟩ | exact ⟨rfl, _, Eq.trans (World.drewN_drewN _ _ _) (congrArg (World.drewN _) (Nat.add_assoc _ _ _))⟩))))
                                  go_ret
                                  exact ⟨by first | rfl | (simp [errW_none, errW_some] <;> rfl) | (simp [*, errW_none, errW_some] <;> rfl), by repeat (first | (with_reducible first | exact HB.out | apply below_alloc | apply pw_below_drewN | apply below_drew1) | exact HB.out)⟩
                                · rw [if_neg c40] at H
                                  exact absurd H (by simp)
                              · replace c37 := Bool.eq_false_iff.mpr c37
                                subst c37
                                have H1 : (none) = some r := by rw [if_neg (show ¬ (false = true) by decide)] at H; exact H
                                clear H
                                have H := H1
                                clear H1
                                exact absurd H (by simp)
                            · replace c35 := Bool.eq_false_iff.mpr c35
                              subst c35
                              have H1 : ((names_Less.f a1 a2).bind fun t346 => ((touchstoneref11_Less.f k3 a1 a2).bind fun t347 => (if (t346 == t347) = true then ((names_Sorted.f t328).bind fun t348 => ((touchstonelaw10_alike.f k3 t348 t328).bind fun t351 => (some t351))) else (none)))) = some r := by rw [if_neg (show ¬ (false = true) by decide)] at H; exact H
                              clear H
                              have H := H1
                              clear H1
                              replace H := Option.bind_eq_some_iff.mp H
                              obtain ⟨t346, A450, H⟩ := H
                              replace H : ((touchstoneref11_Less.f k3 a1 a2).bind fun t347 => (if (t346 == t347) = true then ((names_Sorted.f t328).bind fun t348 => ((touchstonelaw10_alike.f k3 t348 t328).bind fun t351 => (some t351))) else (none))) = some r := H
                              have A45 := Aside0.mk A450
                              clear A450
                              replace H := Option.bind_eq_some_iff.mp H
                              obtain ⟨t347, A460, H⟩ := H
                              replace H : (if (t346 == t347) = true then ((names_Sorted.f t328).bind fun t348 => ((touchstonelaw10_alike.f k3 t348 t328).bind fun t351 => (some t351))) else (none)) = some r := H
                              have A46 := Aside0.mk A460
                              clear A460
                              by_cases c47 : (t346 == t347) = true
                              · rw [if_pos c47] at H
                                have c47b0 : (t346 == t347) = true := c47
                                (try (have c47b1 : decide (t346 = t347) = true := by simpa using c47))
                                (try (have c47b2 : (t346 == t347) = true := by simpa using c47))
                                clear c47
                                replace H := Option.bind_eq_some_iff.mp H
                                obtain ⟨t348, A480, H⟩ := H
                                replace H : ((touchstonelaw10_alike.f k3 t348 t328).bind fun t351 => (some t351)) = some r := H
                                have A48 := Aside0.mk A480
                                clear A480
                                replace H := Option.bind_eq_some_iff.mp H
                                obtain ⟨t351, A490, H⟩ := H
                                replace H : (some t351) = some r := H
                                have A49 := Aside0.mk A490
                                clear A490
                                obtain rfl := Option.some.inj H
                                obtain rfl : t346 = true := Option.some.inj (A45.out.symm.trans A29.out)
                                obtain rfl : t347 = true := by simpa using c47b0
                                go_wp2_with (first | (go_at_call 15; (with_reducible refine (names_Less.calls a1 a2 true _ A29.out).mono ?_); rintro e w' ⟨rfl, ⟨nd, rfl⟩⟩; (try first | exact ⟨rfl, _, World.drewN_drewN _ _ _⟩ | exact ⟨rfl, _, Eq.trans (World.drewN_drewN _ _ _) (congrArg (World.drewN _) (Nat.add_assoc _ _ _))⟩)) | (go_at_call 15; (with_reducible refine (names_Less.calls a1 a2 true _ A32.out).mono ?_); rintro e w' ⟨rfl, ⟨nd, rfl⟩⟩; (try first | exact ⟨rfl, _, World.drewN_drewN _ _ _⟩ | exact ⟨rfl, _, Eq.trans (World.drewN_drewN _ _ _) (congrArg (World.drewN _) (Nat.add_assoc _ _ _))⟩)) | (go_at_call 15; (with_reducible refine (names_Less.calls a2 a3 false _ A34.out).mono ?_); rintro e w' ⟨rfl, ⟨nd, rfl⟩⟩; (try first | exact ⟨rfl, _, World.drewN_drewN _ _ _⟩ | exact ⟨rfl, _, Eq.trans (World.drewN_drewN _ _ _) (congrArg (World.drewN _) (Nat.add_assoc _ _ _))⟩)) | (go_at_call 15; (with_reducible refine (names_Less.calls a1 a2 true _ A45.out).mono ?_); rintro e w' ⟨rfl, ⟨nd, rfl⟩⟩; (try first | exact ⟨rfl, _, World.drewN_drewN _ _ _⟩ | exact ⟨rfl, _, Eq.trans (World.drewN_drewN _ _ _) (congrArg (World.drewN _) (Nat.add_assoc _ _ _))⟩)) | (go_at_call 16; (with_reducible refine (touchstoneref11_Less.calls k3 a1 a2 true _ A46.out).mono ?_); rintro e w' ⟨rfl, ⟨nd, rfl⟩⟩; (try first | exact ⟨rfl, _, World.drewN_drewN _ _ _⟩ | exact ⟨rfl, _, Eq.trans (World.drewN_drewN _ _ _) (congrArg (World.drewN _) (Nat.add_assoc _ _ _))⟩)) | (go_at_call 7; (with_reducible refine (names_Sorted.calls _ _ t328 t348 _ ?side1 ?side2 A48.out).mono ?_); (case side1 => repeat (first | exact (Kd.R_reads' HO_9.out).2.2 | (with_reducible refine Kd.C_alloc ?_ _) | (with_reducible refine Kd.C_drewN ?_ _) | (with_reducible refine Kd.C_drew ?_))); (case side2 => exact (Kd.R_reads' HO_9.out).2.1); rintro e w50 ⟨v349, rfl, ho0, hb⟩; have n0_ := Aside0.mk (Kd.R_elder' (by (with_reducible repeat (first | apply Kd.R_alloc | apply Kd.R_drewN | apply Kd.R_drew)); exact HO_9.out) (Kd.R_base ho0) hb); have n1_ := Aside0.mk (Kd.R_lower (Kd.R_new' ho0 (Kd.R_lt (by (with_reducible repeat (first | apply Kd.R_alloc | apply Kd.R_drewN | apply Kd.R_drew)); exact HO_9.out))) (below_size (by repeat (first | (with_reducible first | exact HB.out | apply below_alloc | apply pw_below_drewN | apply below_drew1) | exact HB.out)))); have n2_ := Aside0.mk (below_step (by repeat (first | (with_reducible first | exact HB.out | apply below_alloc | apply pw_below_drewN | apply below_drew1) | exact HB.out)) hb); clear HO_9; clear HB; have HO_9 := n0_; have HO350 := n1_; have HB := n2_; clear n0_ n1_ n2_; (try clear hb); (try clear hb2); (try clear hk); (try clear hi); (try clear ho0); obtain ⟨Ao51, co51, eo51⟩ := Kd.R_slice HO350.out; subst eo51) | (go_at_call 10; (with_reducible refine (touchstonelaw10_alike.calls k3 _ _ t348 _ _ t328 t351 _ ?side1 ?side2 ?side3 ?side4 A49.out).mono ?_); (case side1 => repeat (first | exact (Kd.R_reads' HO350.out).2.2 | (with_reducible refine Kd.C_alloc ?_ _) | (with_reducible refine Kd.C_drewN ?_ _) | (with_reducible refine Kd.C_drew ?_))); (case side2 => exact (Kd.R_reads' HO350.out).2.1); (case side3 => repeat (first | exact (Kd.R_reads' HO_9.out).2.2 | (with_reducible refine Kd.C_alloc ?_ _) | (with_reducible refine Kd.C_drewN ?_ _) | (with_reducible refine Kd.C_drew ?_))); (case side4 => exact (Kd.R_reads' HO_9.out).2.1); rintro e w' ⟨rfl, ⟨nd, rfl⟩⟩; (try first | exact ⟨rfl, _, World.drewN_drewN _ _ _⟩ | exact ⟨rfl, _, Eq.trans (World.drewN_drewN _ _ _) (congrArg (World.drewN _) (Nat.add_assoc _ _ _))⟩)))
                                repeat (go_quiet (first | (go_at_call 15; (with_reducible refine (names_Less.calls a1 a2 true _ A29.out).mono ?_); rintro e w' ⟨rfl, ⟨nd, rfl⟩⟩; (try first | exact ⟨rfl, _, World.drewN_drewN _ _ _⟩ | exact ⟨rfl, _, Eq.trans (World.drewN_drewN _ _ _) (congrArg (World.drewN _) (Nat.add_assoc _ _ _))⟩)) | (go_at_call 15; (with_reducible refine (names_Less.calls a1 a2 true _ A32.out).mono ?_); rintro e w' ⟨rfl, ⟨nd, rfl⟩⟩; (try first | exact ⟨rfl, _, World.drewN_drewN _ _ _⟩ | exact ⟨rfl, _, Eq.trans (World.drewN_drewN _ _ _) (congrArg (World.drewN _) (Nat.add_assoc _ _ _))⟩)) | (go_at_call 15; (with_reducible refine (names_Less.calls a2 a3 false _ A34.out).mono ?_); rintro e w' ⟨rfl, ⟨nd, rfl⟩⟩; (try first | exact ⟨rfl, _, World.drewN_drewN _ _ _⟩ | exact ⟨rfl, _, Eq.trans (World.drewN_drewN _ _ _) (congrArg (World.drewN _) (Nat.add_assoc _ _ _))⟩)) | (go_at_call 15; (with_reducible refine (names_Less.calls a1 a2 true _ A45.out).mono ?_); rintro e w' ⟨rfl, ⟨nd, rfl⟩⟩; (try first | exact ⟨rfl, _, World.drewN_drewN _ _ _⟩ | exact ⟨rfl, _, Eq.trans (World.drewN_drewN _ _ _) (congrArg (World.drewN _) (Nat.add_assoc _ _ _))⟩)) | (go_at_call 16; (with_reducible refine (touchstoneref11_Less.calls k3 a1 a2 true _ A46.out).mono ?_); rintro e w' ⟨rfl, ⟨nd, rfl⟩⟩; (try first | exact ⟨rfl, _, World.drewN_drewN _ _ _⟩ | exact ⟨rfl, _, Eq.trans (World.drewN_drewN _ _ _) (congrArg (World.drewN _) (Nat.add_assoc _ _ _))⟩)) | (go_at_call 7; (with_reducible refine (names_Sorted.calls _ _ t328 t348 _ ?side1 ?side2 A48.out).mono ?_); (case side1 => repeat (first | exact (Kd.R_reads' HO_9.out).2.2 | (with_reducible refine Kd.C_alloc ?_ _) | (with_reducible refine Kd.C_drewN ?_ _) | (with_reducible refine Kd.C_drew ?_))); (case side2 => exact (Kd.R_reads' HO_9.out).2.1); rintro e w50 ⟨v349, rfl, ho0, hb⟩; have n0_ := Aside0.mk (Kd.R_elder' (by (with_reducible repeat (first | apply Kd.R_alloc | apply Kd.R_drewN | apply Kd.R_drew)); exact HO_9.out) (Kd.R_base ho0) hb); have n1_ := Aside0.mk (Kd.R_lower (Kd.R_new' ho0 (Kd.R_lt (by (with_reducible repeat (first | apply Kd.R_alloc | apply Kd.R_drewN | apply Kd.R_drew)); exact HO_9.out))) (below_size (by repeat (first | (with_reducible first | exact HB.out | apply below_alloc | apply pw_below_drewN | apply below_drew1) | exact HB.out)))); have n2_ := Aside0.mk (below_step (by repeat (first | (with_reducible first | exact HB.out | apply below_alloc | apply pw_below_drewN | apply below_drew1) | exact HB.out)) hb); clear HO_9; clear HB; have HO_9 := n0_; have HO350 := n1_; have HB := n2_; clear n0_ n1_ n2_; (try clear hb); (try clear hb2); (try clear hk); (try clear hi); (try clear ho0); obtain ⟨Ao51, co51, eo51⟩ := Kd.R_slice HO350.out; subst eo51) | (go_at_call 10; (with_reducible refine (touchstonelaw10_alike.calls k3 _ _ t348 _ _ t328 t351 _ ?side1 ?side2 ?side3 ?side4 A49.out).mono ?_); (case side1 => repeat (first | exact (Kd.R_reads' HO350.out).2.2 | (with_reducible refine Kd.C_alloc ?_ _) | (with_reducible refine Kd.C_drewN ?_ _) | (with_reducible refine Kd.C_drew ?_))); (case side2 => exact (Kd.R_reads' HO350.out).2.1); (case side3 => repeat (first | exact (Kd.R_reads' HO_9.out).2.2 | (with_reducible refine Kd.C_alloc ?_ _) | (with_reducible refine Kd.C_drewN ?_ _) | (with_reducible refine Kd.C_drew ?_))); (case side4 => exact (Kd.R_reads' HO_9.out).2.1); rintro e w' ⟨rfl, ⟨nd, rfl⟩⟩; (try first | exact ⟨rfl, _, World.drewN_drewN _ _ _⟩ | exact ⟨rfl, _, Eq.trans (World.drewN_drewN _ _ _) (congrArg (World.drewN _) (Nat.add_assoc _ _ _))⟩))); try go_wp2_with (first | (go_at_call 15; (with_reducible refine (names_Less.calls a1 a2 true _ A29.out).mono ?_); rintro e w' ⟨rfl, ⟨nd, rfl⟩⟩; (try first | exact ⟨rfl, _, World.drewN_drewN _ _ _⟩ | exact ⟨rfl, _, Eq.trans (World.drewN_drewN _ _ _) (congrArg (World.drewN _) (Nat.add_assoc _ _ _))⟩)) | (go_at_call 15; (with_reducible refine (names_Less.calls a1 a2 true _ A32.out).mono ?_); rintro e w' ⟨rfl, ⟨nd, rfl⟩⟩; (try first | exact ⟨rfl, _, World.drewN_drewN _ _ _⟩ | exact ⟨rfl, _, Eq.trans (World.drewN_drewN _ _ _) (congrArg (World.drewN _) (Nat.add_assoc _ _ _))⟩)) | (go_at_call 15; (with_reducible refine (names_Less.calls a2 a3 false _ A34.out).mono ?_); rintro e w' ⟨rfl, ⟨nd, rfl⟩⟩; (try first | exact ⟨rfl, _, World.drewN_drewN _ _ _⟩ | exact ⟨rfl, _, Eq.trans (World.drewN_drewN _ _ _) (congrArg (World.drewN _) (Nat.add_assoc _ _ _))⟩)) | (go_at_call 15; (with_reducible refine (names_Less.calls a1 a2 true _ A45.out).mono ?_); rintro e w' ⟨rfl, ⟨nd, rfl⟩⟩; (try first | exact ⟨rfl, _, World.drewN_drewN _ _ _⟩ | exact ⟨rfl, _, Eq.trans (World.drewN_drewN _ _ _) (congrArg (World.drewN _) (Nat.add_assoc _ _ _))⟩)) | (go_at_call 16; (with_reducible refine (touchstoneref11_Less.calls k3 a1 a2 true _ A46.out).mono ?_); rintro e w' ⟨rfl, ⟨nd, rfl⟩⟩; (try first | exact ⟨rfl, _, World.drewN_drewN _ _ _⟩ | exact ⟨rfl, _, Eq.trans (World.drewN_drewN _ _ _) (congrArg (World.drewN _) (Nat.add_assoc _ _ _))⟩)) | (go_at_call 7; (with_reducible refine (names_Sorted.calls _ _ t328 t348 _ ?side1 ?side2 A48.out).mono ?_); (case side1 => repeat (first | exact (Kd.R_reads' HO_9.out).2.2 | (with_reducible refine Kd.C_alloc ?_ _) | (with_reducible refine Kd.C_drewN ?_ _) | (with_reducible refine Kd.C_drew ?_))); (case side2 => exact (Kd.R_reads' HO_9.out).2.1); rintro e w50 ⟨v349, rfl, ho0, hb⟩; have n0_ := Aside0.mk (Kd.R_elder' (by (with_reducible repeat (first | apply Kd.R_alloc | apply Kd.R_drewN | apply Kd.R_drew)); exact HO_9.out) (Kd.R_base ho0) hb); have n1_ := Aside0.mk (Kd.R_lower (Kd.R_new' ho0 (Kd.R_lt (by (with_reducible repeat (first | apply Kd.R_alloc | apply Kd.R_drewN | apply Kd.R_drew)); exact HO_9.out))) (below_size (by repeat (first | (with_reducible first | exact HB.out | apply below_alloc | apply pw_below_drewN | apply below_drew1) | exact HB.out)))); have n2_ := Aside0.mk (below_step (by repeat (first | (with_reducible first | exact HB.out | apply below_alloc | apply pw_below_drewN | apply below_drew1) | exact HB.out)) hb); clear HO_9; clear HB; have HO_9 := n0_; have HO350 := n1_; have HB := n2_; clear n0_ n1_ n2_; (try clear hb); (try clear hb2); (try clear hk); (try clear hi); (try clear ho0); obtain ⟨Ao51, co51, eo51⟩ := Kd.R_slice HO350.out; subst eo51) | (go_at_call 10; (with_reducible refine (touchstonelaw10_alike.calls k3 _ _ t348 _ _ t328 t351 _ ?side1 ?side2 ?side3 ?side4 A49.out).mono ?_); (case side1 => repeat (first | exact (Kd.R_reads' HO350.out).2.2 | (with_reducible refine Kd.C_alloc ?_ _) | (with_reducible refine Kd.C_drewN ?_ _) | (with_reducible refine Kd.C_drew ?_))); (case side2 => exact (Kd.R_reads' HO350.out).2.1); (case side3 => repeat (first | exact (Kd.R_reads' HO_9.out).2.2 | (with_reducible refine Kd.C_alloc ?_ _) | (with_reducible refine Kd.C_drewN ?_ _) | (with_reducible refine Kd.C_drew ?_))); (case side4 => exact (Kd.R_reads' HO_9.out).2.1); rintro e w' ⟨rfl, ⟨nd, rfl⟩⟩; (try first | exact ⟨rfl, _, World.drewN_drewN _ _ _⟩ | exact ⟨rfl, _, Eq.trans (World.drewN_drewN _ _ _) (congrArg (World.drewN _) (Nat.add_assoc _ _ _))⟩))))
                                go_ret
                                exact ⟨by first | rfl | (simp [errW_none, errW_some] <;> rfl) | (simp [*, errW_none, errW_some] <;> rfl), by repeat (first | (with_reducible first | exact HB.out | apply below_alloc | apply pw_below_drewN | apply below_drew1) | exact HB.out)⟩
                              · rw [if_neg c47] at H
                                exact absurd H (by simp)
                          · replace c33 := Bool.eq_false_iff.mpr c33
                            subst c33
                            have H1 : ((names_Less.f a1 a2).bind fun t352 => ((touchstoneref11_Less.f k3 a1 a2).bind fun t353 => (if (t352 == t353) = true then ((names_Sorted.f t328).bind fun t354 => ((touchstonelaw10_alike.f k3 t354 t328).bind fun t357 => (some t357))) else (none)))) = some r := by rw [if_neg (show ¬ (false = true) by decide)] at H; exact H
                            clear H
                            have H := H1
                            clear H1
                            replace H := Option.bind_eq_some_iff.mp H
                            obtain ⟨t352, A520, H⟩ := H
                            replace H : ((touchstoneref11_Less.f k3 a1 a2).bind fun t353 => (if (t352 == t353) = true then ((names_Sorted.f t328).bind fun t354 => ((touchstonelaw10_alike.f k3 t354 t328).bind fun t357 => (some t357))) else (none))) = some r := H
                            have A52 := Aside0.mk A520
                            clear A520
                            replace H := Option.bind_eq_some_iff.mp H
                            obtain ⟨t353, A530, H⟩ := H
                            replace H : (if (t352 == t353) = true then ((names_Sorted.f t328).bind fun t354 => ((touchstonelaw10_alike.f k3 t354 t328).bind fun t357 => (some t357))) else (none)) = some r := H
                            have A53 := Aside0.mk A530
                            clear A530
                            by_cases c54 : (t352 == t353) = true
                            · rw [if_pos c54] at H
                              have c54b0 : (t352 == t353) = true := c54
                              (try (have c54b1 : decide (t352 = t353) = true := by simpa using c54))
                              (try (have c54b2 : (t352 == t353) = true := by simpa using c54))
                              clear c54
                              replace H := Option.bind_eq_some_iff.mp H
                              obtain ⟨t354, A550, H⟩ := H
                              replace H : ((touchstonelaw10_alike.f k3 t354 t328).bind fun t357 => (some t357)) = some r := H
                              have A55 := Aside0.mk A550
                              clear A550
                              replace H := Option.bind_eq_some_iff.mp H
                              obtain ⟨t357, A560, H⟩ := H
                              replace H : (some t357) = some r := H
                              have A56 := Aside0.mk A560
                              clear A560
                              obtain rfl := Option.some.inj H
                              exact absurd (A29.out.symm.trans A32.out) (by simp)
                            · rw [if_neg c54] at H
                              exact absurd H (by simp)
                        · rw [if_neg c31] at H
                          exact absurd H (by simp)
                      · replace c30 := Bool.eq_false_iff.mpr c30
                        subst c30
                        have H1 : ((names_Less.f a2 a1).bind fun t358 => (if ((a1.toList == a2.toList) == (!t358)) = true then ((names_Less.f a1 a2).bind fun t359 => (if t359 = true then ((names_Less.f a2 a3).bind fun t360 => (if t360 = true then ((names_Less.f a1 a3).bind fun t361 => (if t361 = true then ((names_Less.f a1 a2).bind fun t362 => ((touchstoneref11_Less.f k3 a1 a2).bind fun t363 => (if (t362 == t363) = true then ((names_Sorted.f t328).bind fun t364 => ((touchstonelaw10_alike.f k3 t364 t328).bind fun t367 => (some t367))) else (none)))) else (none))) else ((names_Less.f a1 a2).bind fun t368 => ((touchstoneref11_Less.f k3 a1 a2).bind fun t369 => (if (t368 == t369) = true then ((names_Sorted.f t328).bind fun t370 => ((touchstonelaw10_alike.f k3 t370 t328).bind fun t373 => (some t373))) else (none)))))) else ((names_Less.f a1 a2).bind fun t374 => ((touchstoneref11_Less.f k3 a1 a2).bind fun t375 => (if (t374 == t375) = true then ((names_Sorted.f t328).bind fun t376 => ((touchstonelaw10_alike.f k3 t376 t328).bind fun t379 => (some t379))) else (none)))))) else (none))) = some r := by rw [if_neg (show ¬ (false = true) by decide)] at H; exact H
                        clear H
                        have H := H1
                        clear H1
                        replace H := Option.bind_eq_some_iff.mp H
                        obtain ⟨t358, A590, H⟩ := H
                        replace H : (if ((a1.toList == a2.toList) == (!t358)) = true then ((names_Less.f a1 a2).bind fun t359 => (if t359 = true then ((names_Less.f a2 a3).bind fun t360 => (if t360 = true then ((names_Less.f a1 a3).bind fun t361 => (if t361 = true then ((names_Less.f a1 a2).bind fun t362 => ((touchstoneref11_Less.f k3 a1 a2).bind fun t363 => (if (t362 == t363) = true then ((names_Sorted.f t328).bind fun t364 => ((touchstonelaw10_alike.f k3 t364 t328).bind fun t367 => (some t367))) else (none)))) else (none))) else ((names_Less.f a1 a2).bind fun t368 => ((touchstoneref11_Less.f k3 a1 a2).bind fun t369 => (if (t368 == t369) = true then ((names_Sorted.f t328).bind fun t370 => ((touchstonelaw10_alike.f k3 t370 t328).bind fun t373 => (some t373))) else (none)))))) else ((names_Less.f a1 a2).bind fun t374 => ((touchstoneref11_Less.f k3 a1 a2).bind fun t375 => (if (t374 == t375) = true then ((names_Sorted.f t328).bind fun t376 => ((touchstonelaw10_alike.f k3 t376 t328).bind fun t379 => (some t379))) else (none)))))) else (none)) = some r := H
                        have A59 := Aside0.mk A590
                        clear A590
                        by_cases c60 : ((a1.toList == a2.toList) == (!t358)) = true
                        · rw [if_pos c60] at H
                          have c60b0 : ((a1.toList == a2.toList) == (!t358)) = true := c60
                          (try (have c60b1 : decide ((a1.toList == a2.toList) = (!t358)) = true := by simpa using c60))
                          (try (have c60b2 : ((a1.toList == a2.toList) == (!t358)) = true := by simpa using c60))
                          clear c60
                          replace H := Option.bind_eq_some_iff.mp H
                          obtain ⟨t359, A610, H⟩ := H
                          replace H : (if t359 = true then ((names_Less.f a2 a3).bind fun t360 => (if t360 = true then ((names_Less.f a1 a3).bind fun t361 => (if t361 = true then ((names_Less.f a1 a2).bind fun t362 => ((touchstoneref11_Less.f k3 a1 a2).bind fun t363 => (if (t362 == t363) = true then ((names_Sorted.f t328).bind fun t364 => ((touchstonelaw10_alike.f k3 t364 t328).bind fun t367 => (some t367))) else (none)))) else (none))) else ((names_Less.f a1 a2).bind fun t368 => ((touchstoneref11_Less.f k3 a1 a2).bind fun t369 => (if (t368 == t369) = true then ((names_Sorted.f t328).bind fun t370 => ((touchstonelaw10_alike.f k3 t370 t328).bind fun t373 => (some t373))) else (none)))))) else ((names_Less.f a1 a2).bind fun t374 => ((touchstoneref11_Less.f k3 a1 a2).bind fun t375 => (if (t374 == t375) = true then ((names_Sorted.f t328).bind fun t376 => ((touchstonelaw10_alike.f k3 t376 t328).bind fun t379 => (some t379))) else (none))))) = some r := H
                          have A61 := Aside0.mk A610
                          clear A610
                          by_cases c62 : t359 = true
                          · subst c62
                            have H1 : ((names_Less.f a2 a3).bind fun t360 => (if t360 = true then ((names_Less.f a1 a3).bind fun t361 => (if t361 = true then ((names_Less.f a1 a2).bind fun t362 => ((touchstoneref11_Less.f k3 a1 a2).bind fun t363 => (if (t362 == t363) = true then ((names_Sorted.f t328).bind fun t364 => ((touchstonelaw10_alike.f k3 t364 t328).bind fun t367 => (some t367))) else (none)))) else (none))) else ((names_Less.f a1 a2).bind fun t368 => ((touchstoneref11_Less.f k3 a1 a2).bind fun t369 => (if (t368 == t369) = true then ((names_Sorted.f t328).bind fun t370 => ((touchstonelaw10_alike.f k3 t370 t328).bind fun t373 => (some t373))) else (none)))))) = some r := by rw [if_pos rfl] at H; exact H
                            clear H
                            have H := H1
                            clear H1
                            replace H := Option.bind_eq_some_iff.mp H
                            obtain ⟨t360, A630, H⟩ := H
                            replace H : (if t360 = true then ((names_Less.f a1 a3).bind fun t361 => (if t361 = true then ((names_Less.f a1 a2).bind fun t362 => ((touchstoneref11_Less.f k3 a1 a2).bind fun t363 => (if (t362 == t363) = true then ((names_Sorted.f t328).bind fun t364 => ((touchstonelaw10_alike.f k3 t364 t328).bind fun t367 => (some t367))) else (none)))) else (none))) else ((names_Less.f a1 a2).bind fun t368 => ((touchstoneref11_Less.f k3 a1 a2).bind fun t369 => (if (t368 == t369) = true then ((names_Sorted.f t328).bind fun t370 => ((touchstonelaw10_alike.f k3 t370 t328).bind fun t373 => (some t373))) else (none))))) = some r := H
                            have A63 := Aside0.mk A630
                            clear A630
                            by_cases c64 : t360 = true
                            · subst c64
                              have H1 : ((names_Less.f a1 a3).bind fun t361 => (if t361 = true then ((names_Less.f a1 a2).bind fun t362 => ((touchstoneref11_Less.f k3 a1 a2).bind fun t363 => (if (t362 == t363) = true then ((names_Sorted.f t328).bind fun t364 => ((touchstonelaw10_alike.f k3 t364 t328).bind fun t367 => (some t367))) else (none)))) else (none))) = some r := by rw [if_pos rfl] at H; exact H
                              clear H
                              have H := H1
                              clear H1
                              replace H := Option.bind_eq_some_iff.mp H
                              obtain ⟨t361, A650, H⟩ := H
                              replace H : (if t361 = true then ((names_Less.f a1 a2).bind fun t362 => ((touchstoneref11_Less.f k3 a1 a2).bind fun t363 => (if (t362 == t363) = true then ((names_Sorted.f t328).bind fun t364 => ((touchstonelaw10_alike.f k3 t364 t328).bind fun t367 => (some t367))) else (none)))) else (none)) = some r := H
                              have A65 := Aside0.mk A650
                              clear A650
                              by_cases c66 : t361 = true
                              · subst c66
                                have H1 : ((names_Less.f a1 a2).bind fun t362 => ((touchstoneref11_Less.f k3 a1 a2).bind fun t363 => (if (t362 == t363) = true then ((names_Sorted.f t328).bind fun t364 => ((touchstonelaw10_alike.f k3 t364 t328).bind fun t367 => (some t367))) else (none)))) = some r := by rw [if_pos rfl] at H; exact H
                                clear H
                                have H := H1
                                clear H1
                                replace H := Option.bind_eq_some_iff.mp H
                                obtain ⟨t362, A670, H⟩ := H
                                replace H : ((touchstoneref11_Less.f k3 a1 a2).bind fun t363 => (if (t362 == t363) = true then ((names_Sorted.f t328).bind fun t364 => ((touchstonelaw10_alike.f k3 t364 t328).bind fun t367 => (some t367))) else (none))) = some r := H
                                have A67 := Aside0.mk A670
                                clear A670
                                replace H := Option.bind_eq_some_iff.mp H
                                obtain ⟨t363, A680, H⟩ := H
                                replace H : (if (t362 == t363) = true then ((names_Sorted.f t328).bind fun t364 => ((touchstonelaw10_alike.f k3 t364 t328).bind fun t367 => (some t367))) else (none)) = some r := H
                                have A68 := Aside0.mk A680
                                clear A680
                                by_cases c69 : (t362 == t363) = true
                                · rw [if_pos c69] at H
                                  have c69b0 : (t362 == t363) = true := c69
                                  (try (have c69b1 : decide (t362 = t363) = true := by simpa using c69))
                                  (try (have c69b2 : (t362 == t363) = true := by simpa using c69))
                                  clear c69
                                  replace H := Option.bind_eq_some_iff.mp H
                                  obtain ⟨t364, A700, H⟩ := H
                                  replace H : ((touchstonelaw10_alike.f k3 t364 t328).bind fun t367 => (some t367)) = some r := H
                                  have A70 := Aside0.mk A700
                                  clear A700
                                  replace H := Option.bind_eq_some_iff.mp H
                                  obtain ⟨t367, A710, H⟩ := H
                                  replace H : (some t367) = some r := H
                                  have A71 := Aside0.mk A710
                                  clear A710
                                  obtain rfl := Option.some.inj H
                                  exact absurd (A61.out.symm.trans A29.out) (by simp)
                                · rw [if_neg c69] at H
                                  exact absurd H (by simp)
                              · replace c66 := Bool.eq_false_iff.mpr c66
                                subst c66
                                have H1 : (none) = some r := by rw [if_neg (show ¬ (false = true) by decide)] at H; exact H
                                clear H
                                have H := H1
                                clear H1
                                exact absurd H (by simp)
                            · replace c64 := Bool.eq_false_iff.mpr c64
                              subst c64
                              have H1 : ((names_Less.f a1 a2).bind fun t368 => ((touchstoneref11_Less.f k3 a1 a2).bind fun t369 => (if (t368 == t369) = true then ((names_Sorted.f t328).bind fun t370 => ((touchstonelaw10_alike.f k3 t370 t328).bind fun t373 => (some t373))) else (none)))) = some r := by rw [if_neg (show ¬ (false = true) by decide)] at H; exact H
                              clear H
                              have H := H1
                              clear H1
                              replace H := Option.bind_eq_some_iff.mp H
                              obtain ⟨t368, A740, H⟩ := H
                              replace H : ((touchstoneref11_Less.f k3 a1 a2).bind fun t369 => (if (t368 == t369) = true then ((names_Sorted.f t328).bind fun t370 => ((touchstonelaw10_alike.f k3 t370 t328).bind fun t373 => (some t373))) else (none))) = some r := H
                              have A74 := Aside0.mk A740
                              clear A740
                              replace H := Option.bind_eq_some_iff.mp H
                              obtain ⟨t369, A750, H⟩ := H
                              replace H : (if (t368 == t369) = true then ((names_Sorted.f t328).bind fun t370 => ((touchstonelaw10_alike.f k3 t370 t328).bind fun t373 => (some t373))) else (none)) = some r := H
                              have A75 := Aside0.mk A750
                              clear A750
                              by_cases c76 : (t368 == t369) = true
                              · rw [if_pos c76] at H
                                have c76b0 : (t368 == t369) = true := c76
                                (try (have c76b1 : decide (t368 = t369) = true := by simpa using c76))
                                (try (have c76b2 : (t368 == t369) = true := by simpa using c76))
                                clear c76
                                replace H := Option.bind_eq_some_iff.mp H
                                obtain ⟨t370, A770, H⟩ := H
                                replace H : ((touchstonelaw10_alike.f k3 t370 t328).bind fun t373 => (some t373)) = some r := H
                                have A77 := Aside0.mk A770
                                clear A770
                                replace H := Option.bind_eq_some_iff.mp H
                                obtain ⟨t373, A780, H⟩ := H
                                replace H : (some t373) = some r := H
                                have A78 := Aside0.mk A780
                                clear A780
                                obtain rfl := Option.some.inj H
                                exact absurd (A61.out.symm.trans A29.out) (by simp)
                              · rw [if_neg c76] at H
                                exact absurd H (by simp)
                          · replace c62 := Bool.eq_false_iff.mpr c62
                            subst c62
                            have H1 : ((names_Less.f a1 a2).bind fun t374 => ((touchstoneref11_Less.f k3 a1 a2).bind fun t375 => (if (t374 == t375) = true then ((names_Sorted.f t328).bind fun t376 => ((touchstonelaw10_alike.f k3 t376 t328).bind fun t379 => (some t379))) else (none)))) = some r := by rw [if_neg (show ¬ (false = true) by decide)] at H; exact H
                            clear H
                            have H := H1
                            clear H1
                            replace H := Option.bind_eq_some_iff.mp H
                            obtain ⟨t374, A810, H⟩ := H
                            replace H : ((touchstoneref11_Less.f k3 a1 a2).bind fun t375 => (if (t374 == t375) = true then ((names_Sorted.f t328).bind fun t376 => ((touchstonelaw10_alike.f k3 t376 t328).bind fun t379 => (some t379))) else (none))) = some r := H
                            have A81 := Aside0.mk A810
                            clear A810
                            replace H := Option.bind_eq_some_iff.mp H
                            obtain ⟨t375, A820, H⟩ := H
                            replace H : (if (t374 == t375) = true then ((names_Sorted.f t328).bind fun t376 => ((touchstonelaw10_alike.f k3 t376 t328).bind fun t379 => (some t379))) else (none)) = some r := H
                            have A82 := Aside0.mk A820
                            clear A820
                            by_cases c83 : (t374 == t375) = true
                            · rw [if_pos c83] at H
                              have c83b0 : (t374 == t375) = true := c83
                              (try (have c83b1 : decide (t374 = t375) = true := by simpa using c83))
                              (try (have c83b2 : (t374 == t375) = true := by simpa using c83))
                              clear c83
                              replace H := Option.bind_eq_some_iff.mp H
                              obtain ⟨t376, A840, H⟩ := H
                              replace H : ((touchstonelaw10_alike.f k3 t376 t328).bind fun t379 => (some t379)) = some r := H
                              have A84 := Aside0.mk A840
                              clear A840
                              replace H := Option.bind_eq_some_iff.mp H
                              obtain ⟨t379, A850, H⟩ := H
                              replace H : (some t379) = some r := H
                              have A85 := Aside0.mk A850
                              clear A850
                              obtain rfl := Option.some.inj H
                              obtain rfl : t374 = false := Option.some.inj (A81.out.symm.trans A29.out)
                              obtain rfl : t375 = false := by simpa using c83b0
                              go_wp2_with (first | (go_at_call 15; (with_reducible refine (names_Less.calls a1 a2 false _ A29.out).mono ?_); rintro e w' ⟨rfl, ⟨nd, rfl⟩⟩; (try first | exact ⟨rfl, _, World.drewN_drewN _ _ _⟩ | exact ⟨rfl, _, Eq.trans (World.drewN_drewN _ _ _) (congrArg (World.drewN _) (Nat.add_assoc _ _ _))⟩)) | (go_at_call 15; (with_reducible refine (names_Less.calls a2 a1 t358 _ A59.out).mono ?_); rintro e w' ⟨rfl, ⟨nd, rfl⟩⟩; (try first | exact ⟨rfl, _, World.drewN_drewN _ _ _⟩ | exact ⟨rfl, _, Eq.trans (World.drewN_drewN _ _ _) (congrArg (World.drewN _) (Nat.add_assoc _ _ _))⟩)) | (go_at_call 15; (with_reducible refine (names_Less.calls a1 a2 false _ A61.out).mono ?_); rintro e w' ⟨rfl, ⟨nd, rfl⟩⟩; (try first | exact ⟨rfl, _, World.drewN_drewN _ _ _⟩ | exact ⟨rfl, _, Eq.trans (World.drewN_drewN _ _ _) (congrArg (World.drewN _) (Nat.add_assoc _ _ _))⟩)) | (go_at_call 15; (with_reducible refine (names_Less.calls a1 a2 false _ A81.out).mono ?_); rintro e w' ⟨rfl, ⟨nd, rfl⟩⟩; (try first | exact ⟨rfl, _, World.drewN_drewN _ _ _⟩ | exact ⟨rfl, _, Eq.trans (World.drewN_drewN _ _ _) (congrArg (World.drewN _) (Nat.add_assoc _ _ _))⟩)) | (go_at_call 16; (with_reducible refine (touchstoneref11_Less.calls k3 a1 a2 false _ A82.out).mono ?_); rintro e w' ⟨rfl, ⟨nd, rfl⟩⟩; (try first | exact ⟨rfl, _, World.drewN_drewN _ _ _⟩ | exact ⟨rfl, _, Eq.trans (World.drewN_drewN _ _ _) (congrArg (World.drewN _) (Nat.add_assoc _ _ _))⟩)) | (go_at_call 7; (with_reducible refine (names_Sorted.calls _ _ t328 t376 _ ?side1 ?side2 A84.out).mono ?_); (case side1 => repeat (first | exact (Kd.R_reads' HO_9.out).2.2 | (with_reducible refine Kd.C_alloc ?_ _) | (with_reducible refine Kd.C_drewN ?_ _) | (with_reducible refine Kd.C_drew ?_))); (case side2 => exact (Kd.R_reads' HO_9.out).2.1); rintro e w86 ⟨v377, rfl, ho0, hb⟩; have n0_ := Aside0.mk (Kd.R_elder' (by (with_reducible repeat (first | apply Kd.R_alloc | apply Kd.R_drewN | apply Kd.R_drew)); exact HO_9.out) (Kd.R_base ho0) hb); have n1_ := Aside0.mk (Kd.R_lower (Kd.R_new' ho0 (Kd.R_lt (by (with_reducible repeat (first | apply Kd.R_alloc | apply Kd.R_drewN | apply Kd.R_drew)); exact HO_9.out))) (below_size (by repeat (first | (with_reducible first | exact HB.out | apply below_alloc | apply pw_below_drewN | apply below_drew1) | exact HB.out)))); have n2_ := Aside0.mk (below_step (by repeat (first | (with_reducible first | exact HB.out | apply below_alloc | apply pw_below_drewN | apply below_drew1) | exact HB.out)) hb); clear HO_9; clear HB; have HO_9 := n0_; have HO378 := n1_; have HB := n2_; clear n0_ n1_ n2_; (try clear hb); (try clear hb2); (try clear hk); (try clear hi); (try clear ho0); obtain ⟨Ao87, co87, eo87⟩ := Kd.R_slice HO378.out; subst eo87) | (go_at_call 10; (with_reducible refine (touchstonelaw10_alike.calls k3 _ _ t376 _ _ t328 t379 _ ?side1 ?side2 ?side3 ?side4 A85.out).mono ?_); (case side1 => repeat (first | exact (Kd.R_reads' HO378.out).2.2 | (with_reducible refine Kd.C_alloc ?_ _) | (with_reducible refine Kd.C_drewN ?_ _) | (with_reducible refine Kd.C_drew ?_))); (case side2 => exact (Kd.R_reads' HO378.out).2.1); (case side3 => repeat (first | exact (Kd.R_reads' HO_9.out).2.2 | (with_reducible refine Kd.C_alloc ?_ _) | (with_reducible refine Kd.C_drewN ?_ _) | (with_reducible refine Kd.C_drew ?_))); (case side4 => exact (Kd.R_reads' HO_9.out).2.1); rintro e w' ⟨rfl, ⟨nd, rfl⟩⟩; (try first | exact ⟨rfl, _, World.drewN_drewN _ _ _⟩ | exact ⟨rfl, _, Eq.trans (World.drewN_drewN _ _ _) (congrArg (World.drewN _) (Nat.add_assoc _ _ _))⟩)))
                              repeat (go_quiet (first | (go_at_call 15; (with_reducible refine (names_Less.calls a1 a2 false _ A29.out).mono ?_); rintro e w' ⟨rfl, ⟨nd, rfl⟩⟩; (try first | exact ⟨rfl, _, World.drewN_drewN _ _ _⟩ | exact ⟨rfl, _, Eq.trans (World.drewN_drewN _ _ _) (congrArg (World.drewN _) (Nat.add_assoc _ _ _))⟩)) | (go_at_call 15; (with_reducible refine (names_Less.calls a2 a1 t358 _ A59.out).mono ?_); rintro e w' ⟨rfl, ⟨nd, rfl⟩⟩; (try first | exact ⟨rfl, _, World.drewN_drewN _ _ _⟩ | exact ⟨rfl, _, Eq.trans (World.drewN_drewN _ _ _) (congrArg (World.drewN _) (Nat.add_assoc _ _ _))⟩)) | (go_at_call 15; (with_reducible refine (names_Less.calls a1 a2 false _ A61.out).mono ?_); rintro e w' ⟨rfl, ⟨nd, rfl⟩⟩; (try first | exact ⟨rfl, _, World.drewN_drewN _ _ _⟩ | exact ⟨rfl, _, Eq.trans (World.drewN_drewN _ _ _) (congrArg (World.drewN _) (Nat.add_assoc _ _ _))⟩)) | (go_at_call 15; (with_reducible refine (names_Less.calls a1 a2 false _ A81.out).mono ?_); rintro e w' ⟨rfl, ⟨nd, rfl⟩⟩; (try first | exact ⟨rfl, _, World.drewN_drewN _ _ _⟩ | exact ⟨rfl, _, Eq.trans (World.drewN_drewN _ _ _) (congrArg (World.drewN _) (Nat.add_assoc _ _ _))⟩)) | (go_at_call 16; (with_reducible refine (touchstoneref11_Less.calls k3 a1 a2 false _ A82.out).mono ?_); rintro e w' ⟨rfl, ⟨nd, rfl⟩⟩; (try first | exact ⟨rfl, _, World.drewN_drewN _ _ _⟩ | exact ⟨rfl, _, Eq.trans (World.drewN_drewN _ _ _) (congrArg (World.drewN _) (Nat.add_assoc _ _ _))⟩)) | (go_at_call 7; (with_reducible refine (names_Sorted.calls _ _ t328 t376 _ ?side1 ?side2 A84.out).mono ?_); (case side1 => repeat (first | exact (Kd.R_reads' HO_9.out).2.2 | (with_reducible refine Kd.C_alloc ?_ _) | (with_reducible refine Kd.C_drewN ?_ _) | (with_reducible refine Kd.C_drew ?_))); (case side2 => exact (Kd.R_reads' HO_9.out).2.1); rintro e w86 ⟨v377, rfl, ho0, hb⟩; have n0_ := Aside0.mk (Kd.R_elder' (by (with_reducible repeat (first | apply Kd.R_alloc | apply Kd.R_drewN | apply Kd.R_drew)); exact HO_9.out) (Kd.R_base ho0) hb); have n1_ := Aside0.mk (Kd.R_lower (Kd.R_new' ho0 (Kd.R_lt (by (with_reducible repeat (first | apply Kd.R_alloc | apply Kd.R_drewN | apply Kd.R_drew)); exact HO_9.out))) (below_size (by repeat (first | (with_reducible first | exact HB.out | apply below_alloc | apply pw_below_drewN | apply below_drew1) | exact HB.out)))); have n2_ := Aside0.mk (below_step (by repeat (first | (with_reducible first | exact HB.out | apply below_alloc | apply pw_below_drewN | apply below_drew1) | exact HB.out)) hb); clear HO_9; clear HB; have HO_9 := n0_; have HO378 := n1_; have HB := n2_; clear n0_ n1_ n2_; (try clear hb); (try clear hb2); (try clear hk); (try clear hi); (try clear ho0); obtain ⟨Ao87, co87, eo87⟩ := Kd.R_slice HO378.out; subst eo87) | (go_at_call 10; (with_reducible refine (touchstonelaw10_alike.calls k3 _ _ t376 _ _ t328 t379 _ ?side1 ?side2 ?side3 ?side4 A85.out).mono ?_); (case side1 => repeat (first | exact (Kd.R_reads' HO378.out).2.2 | (with_reducible refine Kd.C_alloc ?_ _) | (with_reducible refine Kd.C_drewN ?_ _) | (with_reducible refine Kd.C_drew ?_))); (case side2 => exact (Kd.R_reads' HO378.out).2.1); (case side3 => repeat (first | exact (Kd.R_reads' HO_9.out).2.2 | (with_reducible refine Kd.C_alloc ?_ _) | (with_reducible refine Kd.C_drewN ?_ _) | (with_reducible refine Kd.C_drew ?_))); (case side4 => exact (Kd.R_reads' HO_9.out).2.1); rintro e w' ⟨rfl, ⟨nd, rfl⟩⟩; (try first | exact ⟨rfl, _, World.drewN_drewN _ _ _⟩ | exact ⟨rfl, _, Eq.trans (World.drewN_drewN _ _ _) (congrArg (World.drewN _) (Nat.add_assoc _ _ _))⟩))); try go_wp2_with (first | (go_at_call 15; (with_reducible refine (names_Less.calls a1 a2 false _ A29.out).mono ?_); rintro e w' ⟨rfl, ⟨nd, rfl⟩⟩; (try first | exact ⟨rfl, _, World.drewN_drewN _ _ _⟩ | exact ⟨rfl, _, Eq.trans (World.drewN_drewN _ _ _) (congrArg (World.drewN _) (Nat.add_assoc _ _ _))⟩)) | (go_at_call 15; (with_reducible refine (names_Less.calls a2 a1 t358 _ A59.out).mono ?_); rintro e w' ⟨rfl, ⟨nd, rfl⟩⟩; (try first | exact ⟨rfl, _, World.drewN_drewN _ _ _⟩ | exact ⟨rfl, _, Eq.trans (World.drewN_drewN _ _ _) (congrArg (World.drewN _) (Nat.add_assoc _ _ _))⟩)) | (go_at_call 15; (with_reducible refine (names_Less.calls a1 a2 false _ A61.out).mono ?_); rintro e w' ⟨rfl, ⟨nd, rfl⟩⟩; (try first | exact ⟨rfl, _, World.drewN_drewN _ _ _⟩ | exact ⟨rfl, _, Eq.trans (World.drewN_drewN _ _ _) (congrArg (World.drewN _) (Nat.add_assoc _ _ _))⟩)) | (go_at_call 15; (with_reducible refine (names_Less.calls a1 a2 false _ A81.out).mono ?_); rintro e w' ⟨rfl, ⟨nd, rfl⟩⟩; (try first | exact ⟨rfl, _, World.drewN_drewN _ _ _⟩ | exact ⟨rfl, _, Eq.trans (World.drewN_drewN _ _ _) (congrArg (World.drewN _) (Nat.add_assoc _ _ _))⟩)) | (go_at_call 16; (with_reducible refine (touchstoneref11_Less.calls k3 a1 a2 false _ A82.out).mono ?_); rintro e w' ⟨rfl, ⟨nd, rfl⟩⟩; (try first | exact ⟨rfl, _, World.drewN_drewN _ _ _⟩ | exact ⟨rfl, _, Eq.trans (World.drewN_drewN _ _ _) (congrArg (World.drewN _) (Nat.add_assoc _ _ _))⟩)) | (go_at_call 7; (with_reducible refine (names_Sorted.calls _ _ t328 t376 _ ?side1 ?side2 A84.out).mono ?_); (case side1 => repeat (first | exact (Kd.R_reads' HO_9.out).2.2 | (with_reducible refine Kd.C_alloc ?_ _) | (with_reducible refine Kd.C_drewN ?_ _) | (with_reducible refine Kd.C_drew ?_))); (case side2 => exact (Kd.R_reads' HO_9.out).2.1); rintro e w86 ⟨v377, rfl, ho0, hb⟩; have n0_ := Aside0.mk (Kd.R_elder' (by (with_reducible repeat (first | apply Kd.R_alloc | apply Kd.R_drewN | apply Kd.R_drew)); exact HO_9.out) (Kd.R_base ho0) hb); have n1_ := Aside0.mk (Kd.R_lower (Kd.R_new' ho0 (Kd.R_lt (by (with_reducible repeat (first | apply Kd.R_alloc | apply Kd.R_drewN | apply Kd.R_drew)); exact HO_9.out))) (below_size (by repeat (first | (with_reducible first | exact HB.out | apply below_alloc | apply pw_below_drewN | apply below_drew1) | exact HB.out)))); have n2_ := Aside0.mk (below_step (by repeat (first | (with_reducible first | exact HB.out | apply below_alloc | apply pw_below_drewN | apply below_drew1) | exact HB.out)) hb); clear HO_9; clear HB; have HO_9 := n0_; have HO378 := n1_; have HB := n2_; clear n0_ n1_ n2_; (try clear hb); (try clear hb2); (try clear hk); (try clear hi); (try clear ho0); obtain ⟨Ao87, co87, eo87⟩ := Kd.R_slice HO378.out; subst eo87) | (go_at_call 10; (with_reducible refine (touchstonelaw10_alike.calls k3 _ _ t376 _ _ t328 t379 _ ?side1 ?side2 ?side3 ?side4 A85.out).mono ?_); (case side1 => repeat (first | exact (Kd.R_reads' HO378.out).2.2 | (with_reducible refine Kd.C_alloc ?_ _) | (with_reducible refine Kd.C_drewN ?_ _) | (with_reducible refine Kd.C_drew ?_))); (case side2 => exact (Kd.R_reads' HO378.out).2.1); (case side3 => repeat (first | exact (Kd.R_reads' HO_9.out).2.2 | (with_reducible refine Kd.C_alloc ?_ _) | (with_reducible refine Kd.C_drewN ?_ _) | (with_reducible refine Kd.C_drew ?_))); (case side4 => exact (Kd.R_reads' HO_9.out).2.1); rintro e w' ⟨rfl, ⟨nd, rfl⟩⟩; (try first | exact ⟨rfl, _, World.drewN_drewN _ _ _⟩ | exact ⟨rfl, _, Eq.trans (World.drewN_drewN _ _ _) (congrArg (World.drewN _) (Nat.add_assoc _ _ _))⟩))))
                              go_ret
                              exact ⟨by first | rfl | (simp [errW_none, errW_some] <;> rfl) | (simp [*, errW_none, errW_some] <;> rfl), by repeat (first | (with_reducible first | exact HB.out | apply below_alloc | apply pw_below_drewN | apply below_drew1) | exact HB.out)⟩
                            · rw [if_neg c83] at H
                              exact absurd H (by simp)
                        · rw [if_neg c60] at H
                          exact absurd H (by simp)
  · replace c6 := Bool.eq_false_iff.mpr c6
    subst c6
    have H1 : (none) = some r := by rw [if_neg (show ¬ (false = true) by decide)] at H; exact H
    clear H
    have H := H1
    clear H1
    exact absurd H (by simp)

/-- THE ONE PURE STATEMENT of touchstonelaw10_NamesOrder: yours. -/
def touchstonelaw10_NamesOrder.Pure : Prop := ∀ (l0 : List ByteArray) (a1 : ByteArray) (a2 : ByteArray) (a3 : ByteArray), (l0.length * 16 ≤ 140737488351232 ∧ l0.length ≤ maxLen ∧ ∀ x_l0 ∈ l0, x_l0.size ≤ 140737488351232) → a1.size ≤ 140737488351232 → a2.size ≤ 140737488351232 → a3.size ≤ 140737488351232 → ∃ k, touchstonelaw10_NamesOrder.f k l0 a1 a2 a3 = some true
theorem touchstonelaw10_NamesOrder.walk (P : touchstonelaw10_NamesOrder.Pure) (A0 : Option Addr) (c0 : Nat) (l0 : List ByteArray) (a1 : ByteArray) (a2 : ByteArray) (a3 : ByteArray) (w : World) (hC0 : Kd.C Kd.string w A0 l0.length l0) (hc0 : l0.length ≤ c0) (hW0 : (l0.length * 16 ≤ 140737488351232 ∧ l0.length ≤ maxLen ∧ ∀ x_l0 ∈ l0, x_l0.size ≤ 140737488351232)) (w1 : a1.size ≤ 140737488351232) (w2 : a2.size ≤ 140737488351232) (w3 : a3.size ≤ 140737488351232) :
    Calls Try.prog 4 #[.slice A0 l0.length c0, .string a1, .string a2, .string a3] w fun e w' => e = .returned (.bool true) ∧ Below w.heap.size w w' := by
  obtain ⟨k, h⟩ := P l0 a1 a2 a3 hW0 w1 w2 w3
  refine (touchstonelaw10_NamesOrder.calls k _ _ l0 a1 a2 a3 true w hC0 hc0 h).mono ?_
  rintro e w' ⟨rfl, hd⟩
  exact ⟨rfl, hd⟩

end Go.Proofs.Ytkbeeiijodojkaa.QN
