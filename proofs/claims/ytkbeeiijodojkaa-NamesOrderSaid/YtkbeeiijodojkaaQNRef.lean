/- touchstoneref11.Sorted: the document's sorted list, in the printed form. -/
import Derived.Test.YtkbeeiijodojkaaQNLess
set_option linter.unusedVariables false
set_option linter.unusedSimpArgs false
namespace Go.Proofs.Ytkbeeiijodojkaa.QN
open Go.RowKit Go.Proofs.YtkbeeiijodojkaaW.PrintWords Go.Proofs.YtkbeeiijodojkaaW.PrintLast Go.Proofs.YtkbeeiijodojkaaW.PrintMore
attribute [local go_sem] max2_int min2_int max_two min_two max_three min_three max_four min_four
def ins11.f (xs : List ByteArray) (k : Int) (x : ByteArray) : Option (List ByteArray) := if 0 ≤ k ∧ k ≤ (xs.length : Int) ∧ xs.length ≤ 10000 then some (xs.take k.toNat ++ [x] ++ xs.drop k.toNat) else none
theorem ins11_some {xs : List ByteArray} {k : Int} {x : ByteArray} {t : List ByteArray} (h : ins11.f xs k x = some t) : 0 ≤ k ∧ k ≤ (xs.length : Int) ∧ xs.length ≤ 10000 ∧ t = xs.take k.toNat ++ [x] ++ xs.drop k.toNat := by
  unfold ins11.f at h
  split at h
  case isFalse => cases h
  case isTrue hc => exact ⟨hc.1, hc.2.1, hc.2.2, (Option.some.inj h).symm⟩
mutual
def touchstoneref11_Sorted.l0 : Nat → List ByteArray → List ByteArray → Int → Option (List ByteArray)
  | 0, _, _, _ => none
  | k + 1, x0, x3, x4 => if x4 < (x0.length : Int) then (touchstoneref11_Sorted.l1 k x0 x3 x4 0) else (some x3)
def touchstoneref11_Sorted.l1 : Nat → List ByteArray → List ByteArray → Int → Int → Option (List ByteArray)
  | 0, _, _, _, _ => none
  | k + 1, x0, x3, x4, x5 => if x5 < (x3.length : Int) then (if 0 ≤ x5 then (if 0 ≤ x4 then (if x4 < (x0.length : Int) then ((less11.f (rdOf ByteArray.empty x3 x5) (rdOf ByteArray.empty x0 x4)).bind fun t278 => (if t278 = true then (touchstoneref11_Sorted.l1 k x0 x3 x4 (wrap64 (x5 + 1))) else (if x5 = (x3.length : Int) then ((ins11.f x3 x5 (rdOf ByteArray.empty x0 x4)).bind fun t280 => (touchstoneref11_Sorted.l0 k x0 t280 (wrap64 (x4 + 1)))) else (if (rdOf ByteArray.empty x3 x5).toList = (rdOf ByteArray.empty x0 x4).toList then (touchstoneref11_Sorted.l0 k x0 x3 (wrap64 (x4 + 1))) else ((ins11.f x3 x5 (rdOf ByteArray.empty x0 x4)).bind fun t286 => (touchstoneref11_Sorted.l0 k x0 t286 (wrap64 (x4 + 1)))))))) else (none)) else (none)) else (none)) else (if x5 = (x3.length : Int) then (if 0 ≤ x4 then (if x4 < (x0.length : Int) then ((ins11.f x3 x5 (rdOf ByteArray.empty x0 x4)).bind fun t290 => (touchstoneref11_Sorted.l0 k x0 t290 (wrap64 (x4 + 1)))) else (none)) else (none)) else (if 0 ≤ x5 then (none) else (none)))
end
def touchstoneref11_Sorted.f (k : Nat) (l0 : List ByteArray) : Option (List ByteArray) := touchstoneref11_Sorted.l0 k l0 ([] : List ByteArray) 0
theorem touchstoneref11_Sorted.mono_l : ∀ k, (∀ y0 y1 y2, LeO (touchstoneref11_Sorted.l0 k y0 y1 y2) (touchstoneref11_Sorted.l0 (k + 1) y0 y1 y2)) ∧ (∀ y0 y1 y2 y3, LeO (touchstoneref11_Sorted.l1 k y0 y1 y2 y3) (touchstoneref11_Sorted.l1 (k + 1) y0 y1 y2 y3))
  | 0 => ⟨fun _ _ _ r h => by simp [touchstoneref11_Sorted.l0] at h, fun _ _ _ _ r h => by simp [touchstoneref11_Sorted.l1] at h⟩
  | k + 1 => by
    obtain ⟨ih0, ih1⟩ := touchstoneref11_Sorted.mono_l k
    refine ⟨?_, ?_⟩
    · intro y0 y1 y2
      unfold touchstoneref11_Sorted.l0
      repeat' first
      | (with_reducible exact ih0 _ _ _)
      | (with_reducible exact ih1 _ _ _ _)
      | (with_reducible exact LeO.refl _)
      | (with_reducible exact LeO.none _)
      | (with_reducible refine LeO.ite ?_ ?_)
      | (with_reducible refine LeO.bind ?_ (fun _ => ?_))
      | exact ih0 _ _ _
      | exact ih1 _ _ _ _
      | exact LeO.none _
      | refine LeO.ite ?_ ?_
      | refine LeO.bind ?_ (fun _ => ?_)
    · intro y0 y1 y2 y3
      unfold touchstoneref11_Sorted.l1
      repeat' first
      | (with_reducible exact ih0 _ _ _)
      | (with_reducible exact ih1 _ _ _ _)
      | (with_reducible exact LeO.refl _)
      | (with_reducible exact LeO.none _)
      | (with_reducible refine LeO.ite ?_ ?_)
      | (with_reducible refine LeO.bind ?_ (fun _ => ?_))
      | exact ih0 _ _ _
      | exact ih1 _ _ _ _
      | exact LeO.none _
      | refine LeO.ite ?_ ?_
      | refine LeO.bind ?_ (fun _ => ?_)
theorem touchstoneref11_Sorted.mono : ∀ a0 k, LeO (touchstoneref11_Sorted.f k a0) (touchstoneref11_Sorted.f (k + 1) a0) := by
  intro a0 k
  obtain ⟨ih0, ih1⟩ := touchstoneref11_Sorted.mono_l k
  unfold touchstoneref11_Sorted.f
  repeat' first
      | (with_reducible exact ih0 _ _ _)
      | (with_reducible exact ih1 _ _ _ _)
      | (with_reducible exact LeO.refl _)
      | (with_reducible exact LeO.none _)
      | (with_reducible refine LeO.ite ?_ ?_)
      | (with_reducible refine LeO.bind ?_ (fun _ => ?_))
      | exact ih0 _ _ _
      | exact ih1 _ _ _ _
      | exact LeO.none _
      | refine LeO.ite ?_ ?_
      | refine LeO.bind ?_ (fun _ => ?_)
set_option maxHeartbeats 2000000 in
set_option maxRecDepth 100000 in
theorem touchstoneref11_Sorted.calls (k : Nat) (A0 : Option Addr) (c0 : Nat) (l0 : List ByteArray) (r : List ByteArray) (w : World) (hr0 : Kd.C Kd.string w A0 l0.length l0) (hc0 : l0.length ≤ c0) (h : touchstoneref11_Sorted.f k l0 = some r) :
    Calls Try.prog 9 #[.slice A0 l0.length c0] w fun e w' => ∃ v0_ : Value, e = .returned (v0_) ∧ Kd.R Kd.string 9 w' w.heap.size (fun _ => True) v0_ r ∧ Below w.heap.size w w' := by
  have HR0 := Aside0.mk hr0
  have HC0 := Aside0.mk hc0
  clear hr0 hc0
  have HB := Aside0.mk (Below.refl w.heap.size w)
  have H : (touchstoneref11_Sorted.l0 k l0 ([] : List ByteArray) 0) = some r := h
  clear h
  have H' := Aside0.mk H
  clear H
  go_enter Try.func9, Try.ntmps9
  go_wp2
  repeat (go_quiet (fail); try go_wp2)
  go_loopg [3, 4] k (fun kq v3 v4 w' => ∃ (x3_1 : List ByteArray) (x4_1 : Int), v4 = .int .i64 x4_1 ∧ Aside0 (touchstoneref11_Sorted.l0 kq l0 x3_1 x4_1 = some r) ∧ Aside0 (kq ≤ k) ∧ Aside0 (Kd.R Kd.string 9 w' w.heap.size (fun _ => True) v3 x3_1) ∧ Aside0 (Below w.heap.size w w'))
  case atStart => exact ⟨(([] : List ByteArray)), (0), (by first | rfl | (simp; done) | (simp [*]; done)), H', ⟨Nat.le_refl _⟩, ⟨by first | exact Kd.R_nil _ _ _ _ _ | exact Kd.N_nil _ _ _ _ _ | exact Kd.V_nil _ _ _ _ _ | exact Kd.Q_nil _ _ _ _ _ | exact Kd.S_nil _ _ _ _ _⟩, ⟨by repeat (first | (with_reducible first | exact HB.out | apply below_alloc | apply pw_below_drewN | apply below_drew1) | exact HB.out)⟩⟩
  case round =>
    clear H'
    obtain ⟨x3_1, x4_1, rfl, HA, HK1, HO_3, HB⟩ := hrel
    cases gk with
    | zero => exact absurd HA.out (by simp [touchstoneref11_Sorted.l0])
    | succ k1 =>
      have H := HA.out
      clear HA
      simp only [touchstoneref11_Sorted.l0] at H
      by_cases c2 : x4_1 < (l0.length : Int)
      · rw [if_pos c2] at H
        have c2b0 : decide (x4_1 < (l0.length : Int)) = true := decide_eq_true c2
        clear c2
        have H' := Aside0.mk H
        clear H
        go_wp2
        repeat (go_quiet (fail); try go_wp2)
        go_loopg [5] k1 (fun kq v5 w' => ∃ (x5_2 : Int), v5 = .int .i64 x5_2 ∧ Aside0 (touchstoneref11_Sorted.l1 kq l0 x3_1 x4_1 x5_2 = some r) ∧ Aside0 (kq ≤ k1) ∧ Aside0 (Kd.R Kd.string 9 w' w.heap.size (fun _ => True) u3 x3_1) ∧ Aside0 (Below w.heap.size w w'))
        case atStart => exact ⟨(0), (by first | rfl | (simp; done) | (simp [*]; done)), H', ⟨Nat.le_refl _⟩, ⟨by (with_reducible repeat (first | apply Kd.R_alloc | apply Kd.R_drewN | apply Kd.R_drew)); exact HO_3.out⟩, ⟨by repeat (first | (with_reducible first | exact HB.out | apply below_alloc | apply pw_below_drewN | apply below_drew1) | exact HB.out)⟩⟩
        case round =>
          clear H'
          try clear c2
          try clear c2b0
          try clear p2
          obtain ⟨x5_2, rfl, HA, HK2, HO_3, HB⟩ := hrel
          cases gk with
          | zero => exact absurd HA.out (by simp [touchstoneref11_Sorted.l1])
          | succ k2 =>
            have H := HA.out
            clear HA
            simp only [touchstoneref11_Sorted.l1] at H
            by_cases c3 : x5_2 < (x3_1.length : Int)
            · rw [if_pos c3] at H
              have c3b0 : decide (x5_2 < (x3_1.length : Int)) = true := decide_eq_true c3
              clear c3
              by_cases c4 : 0 ≤ x5_2
              · rw [if_pos c4] at H
                have c4b0 : decide (0 ≤ x5_2) = true := decide_eq_true c4
                clear c4
                by_cases c5 : 0 ≤ x4_1
                · rw [if_pos c5] at H
                  have c5b0 : decide (0 ≤ x4_1) = true := decide_eq_true c5
                  clear c5
                  by_cases c6 : x4_1 < (l0.length : Int)
                  · rw [if_pos c6] at H
                    have c6b0 : decide (x4_1 < (l0.length : Int)) = true := decide_eq_true c6
                    clear c6
                    replace H := Option.bind_eq_some_iff.mp H
                    obtain ⟨t278, A70, H⟩ := H
                    replace H : (if t278 = true then (touchstoneref11_Sorted.l1 k2 l0 x3_1 x4_1 (wrap64 (x5_2 + 1))) else (if x5_2 = (x3_1.length : Int) then ((ins11.f x3_1 x5_2 (rdOf ByteArray.empty l0 x4_1)).bind fun t280 => (touchstoneref11_Sorted.l0 k2 l0 t280 (wrap64 (x4_1 + 1)))) else (if (rdOf ByteArray.empty x3_1 x5_2).toList = (rdOf ByteArray.empty l0 x4_1).toList then (touchstoneref11_Sorted.l0 k2 l0 x3_1 (wrap64 (x4_1 + 1))) else ((ins11.f x3_1 x5_2 (rdOf ByteArray.empty l0 x4_1)).bind fun t286 => (touchstoneref11_Sorted.l0 k2 l0 t286 (wrap64 (x4_1 + 1))))))) = some r := H
                    have A7 := Aside0.mk A70
                    clear A70
                    by_cases c8 : t278 = true
                    · subst c8
                      have H1 : (touchstoneref11_Sorted.l1 k2 l0 x3_1 x4_1 (wrap64 (x5_2 + 1))) = some r := by rw [if_pos rfl] at H; exact H
                      clear H
                      have H := H1
                      clear H1
                      have H' := Aside0.mk H
                      clear H
                      obtain ⟨Ao9, co9, eo9⟩ := Kd.R_slice HO_3.out
                      subst eo9
                      have p276 : 0 ≤ (x5_2 : Int) := of_decide_eq_true (by first | (with_reducible assumption) | assumption)
                      have q276 : x5_2 < (x3_1.length : Int) := of_decide_eq_true (by first | (with_reducible assumption) | assumption)
                      obtain ⟨ad276, e276, hx276_0⟩ := Kd.at_string (Kd.R_reads' HO_3.out).2.2 x5_2 p276 q276
                      cases e276
                      replace p276 := eq_true p276
                      replace q276 := eq_true q276
                      have p277 : 0 ≤ (x4_1 : Int) := of_decide_eq_true (by first | (with_reducible assumption) | assumption)
                      have q277 : x4_1 < (l0.length : Int) := of_decide_eq_true (by first | (with_reducible assumption) | assumption)
                      obtain ⟨ad277, e277, hx277_0⟩ := Kd.at_string HR0.out x4_1 p277 q277
                      cases e277
                      replace hx277_0 := (HB.out.cell (World.block_lt_of_cell? w _ hx277_0)).trans hx277_0
                      replace p277 := eq_true p277
                      replace q277 := eq_true q277
                      go_wp2_with (first | (go_at_call 16; (with_reducible refine (less11.calls (rdOf ByteArray.empty x3_1 x5_2) (rdOf ByteArray.empty l0 x4_1) true _ A7.out).mono ?_); rintro e w' ⟨rfl, ⟨nd, rfl⟩⟩; (try first | exact ⟨rfl, _, World.drewN_drewN _ _ _⟩ | exact ⟨rfl, _, Eq.trans (World.drewN_drewN _ _ _) (congrArg (World.drewN _) (Nat.add_assoc _ _ _))⟩)))
                      repeat (go_quiet (first | (go_at_call 16; (with_reducible refine (less11.calls (rdOf ByteArray.empty x3_1 x5_2) (rdOf ByteArray.empty l0 x4_1) true _ A7.out).mono ?_); rintro e w' ⟨rfl, ⟨nd, rfl⟩⟩; (try first | exact ⟨rfl, _, World.drewN_drewN _ _ _⟩ | exact ⟨rfl, _, Eq.trans (World.drewN_drewN _ _ _) (congrArg (World.drewN _) (Nat.add_assoc _ _ _))⟩))); try go_wp2_with (first | (go_at_call 16; (with_reducible refine (less11.calls (rdOf ByteArray.empty x3_1 x5_2) (rdOf ByteArray.empty l0 x4_1) true _ A7.out).mono ?_); rintro e w' ⟨rfl, ⟨nd, rfl⟩⟩; (try first | exact ⟨rfl, _, World.drewN_drewN _ _ _⟩ | exact ⟨rfl, _, Eq.trans (World.drewN_drewN _ _ _) (congrArg (World.drewN _) (Nat.add_assoc _ _ _))⟩))))
                      go_roundg k2
                      case measure => have := HK1.out; have := HK2.out; omega
                      case rel => exact ⟨(wrap64 (x5_2 + 1)), (by first | rfl | (simp; done) | (simp [*]; done)), H', ⟨by have := HK1.out; have := HK2.out; omega⟩, ⟨by (with_reducible repeat (first | apply Kd.R_alloc | apply Kd.R_drewN | apply Kd.R_drew)); exact HO_3.out⟩, ⟨by repeat (first | (with_reducible first | exact HB.out | apply below_alloc | apply pw_below_drewN | apply below_drew1) | exact HB.out)⟩⟩
                    · replace c8 := Bool.eq_false_iff.mpr c8
                      subst c8
                      have H1 : (if x5_2 = (x3_1.length : Int) then ((ins11.f x3_1 x5_2 (rdOf ByteArray.empty l0 x4_1)).bind fun t280 => (touchstoneref11_Sorted.l0 k2 l0 t280 (wrap64 (x4_1 + 1)))) else (if (rdOf ByteArray.empty x3_1 x5_2).toList = (rdOf ByteArray.empty l0 x4_1).toList then (touchstoneref11_Sorted.l0 k2 l0 x3_1 (wrap64 (x4_1 + 1))) else ((ins11.f x3_1 x5_2 (rdOf ByteArray.empty l0 x4_1)).bind fun t286 => (touchstoneref11_Sorted.l0 k2 l0 t286 (wrap64 (x4_1 + 1)))))) = some r := by rw [if_neg (show ¬ (false = true) by decide)] at H; exact H
                      clear H
                      have H := H1
                      clear H1
                      by_cases c10 : x5_2 = (x3_1.length : Int)
                      · rw [if_pos c10] at H
                        have c10b0 : (x5_2 == (x3_1.length : Int)) = true := beq_iff_eq.mpr c10
                        have c10b1 : (x5_2 != (x3_1.length : Int)) = false := bne_eq_false_iff_eq.mpr c10
                        clear c10
                        replace H := Option.bind_eq_some_iff.mp H
                        obtain ⟨t280, A110, H⟩ := H
                        replace H : (touchstoneref11_Sorted.l0 k2 l0 t280 (wrap64 (x4_1 + 1))) = some r := H
                        have A11 := Aside0.mk A110
                        clear A110
                        have H' := Aside0.mk H
                        clear H
                        obtain ⟨Ao12, co12, eo12⟩ := Kd.R_slice HO_3.out
                        subst eo12
                        have p276 : 0 ≤ (x5_2 : Int) := of_decide_eq_true (by first | (with_reducible assumption) | assumption)
                        have q276 : x5_2 < (x3_1.length : Int) := of_decide_eq_true (by first | (with_reducible assumption) | assumption)
                        obtain ⟨ad276, e276, hx276_0⟩ := Kd.at_string (Kd.R_reads' HO_3.out).2.2 x5_2 p276 q276
                        cases e276
                        replace p276 := eq_true p276
                        replace q276 := eq_true q276
                        have p277 : 0 ≤ (x4_1 : Int) := of_decide_eq_true (by first | (with_reducible assumption) | assumption)
                        have q277 : x4_1 < (l0.length : Int) := of_decide_eq_true (by first | (with_reducible assumption) | assumption)
                        obtain ⟨ad277, e277, hx277_0⟩ := Kd.at_string HR0.out x4_1 p277 q277
                        cases e277
                        replace hx277_0 := (HB.out.cell (World.block_lt_of_cell? w _ hx277_0)).trans hx277_0
                        replace p277 := eq_true p277
                        replace q277 := eq_true q277
                        go_wp2_with (first | (go_at_call 16; (with_reducible refine (less11.calls (rdOf ByteArray.empty x3_1 x5_2) (rdOf ByteArray.empty l0 x4_1) false _ A7.out).mono ?_); rintro e w' ⟨rfl, ⟨nd, rfl⟩⟩; (try first | exact ⟨rfl, _, World.drewN_drewN _ _ _⟩ | exact ⟨rfl, _, Eq.trans (World.drewN_drewN _ _ _) (congrArg (World.drewN _) (Nat.add_assoc _ _ _))⟩); have p279 : 0 ≤ (x4_1 : Int) := of_decide_eq_true (by first | (with_reducible assumption) | assumption); have q279 : x4_1 < (l0.length : Int) := of_decide_eq_true (by first | (with_reducible assumption) | assumption); obtain ⟨ad279, e279, hx279_0⟩ := Kd.at_string HR0.out x4_1 p279 q279; obtain rfl : ad277 = ad279 := (by injection e279); replace hx279_0 := (HB.out.cell (World.block_lt_of_cell? w _ hx279_0)).trans hx279_0; replace p279 := eq_true p279; replace q279 := eq_true q279))
                        repeat (go_quiet (first | (go_at_call 16; (with_reducible refine (less11.calls (rdOf ByteArray.empty x3_1 x5_2) (rdOf ByteArray.empty l0 x4_1) false _ A7.out).mono ?_); rintro e w' ⟨rfl, ⟨nd, rfl⟩⟩; (try first | exact ⟨rfl, _, World.drewN_drewN _ _ _⟩ | exact ⟨rfl, _, Eq.trans (World.drewN_drewN _ _ _) (congrArg (World.drewN _) (Nat.add_assoc _ _ _))⟩); have p279 : 0 ≤ (x4_1 : Int) := of_decide_eq_true (by first | (with_reducible assumption) | assumption); have q279 : x4_1 < (l0.length : Int) := of_decide_eq_true (by first | (with_reducible assumption) | assumption); obtain ⟨ad279, e279, hx279_0⟩ := Kd.at_string HR0.out x4_1 p279 q279; obtain rfl : ad277 = ad279 := (by injection e279); replace hx279_0 := (HB.out.cell (World.block_lt_of_cell? w _ hx279_0)).trans hx279_0; replace p279 := eq_true p279; replace q279 := eq_true q279)); try go_wp2)
                        obtain ⟨hk0, hk1, hk2, ht⟩ := ins11_some A11.out
                        obtain ⟨i0, hi0, hi1⟩ := Option.map_eq_some_iff.1 info9
                        have hs1 : i0.size = 1 := by simp only [Prod.mk.injEq] at hi1; exact hi1.2.1
                        have hcp := (Kd.R_reads' HO_3.out).2.1
                        have hcutA := cut_to (P := Try.prog) 22 9 .i64 Try.underlying22 hi0 (some ad276) x3_1.length co12 x5_2 hk0 hk1 hcp
                        have hcutB := cut_from (P := Try.prog) 22 9 .i64 Try.underlying22 hi0 1 hs1 (some ad276) x3_1.length co12 x5_2 hk0 hk1
                        refine (fun (h_ : ∀ W9 : World, W9.cell? (ad277.add x4_1.toNat) = some (.string (rdOf ByteArray.empty l0 x4_1)) → Kd.R Kd.string 9 W9 w.heap.size (fun _ => True) (.slice (some ad276) x3_1.length co12) x3_1 → Below w.heap.size w W9 → Code.wp Try.prog _ _ _ W9) => h_ _ ?c1_q1 ?c2_q1 ?c3_q1) ?cont_q1
                        case c1_q1 => exact hx277_0
                        case c2_q1 => exact (by (with_reducible repeat (first | apply Kd.R_alloc | apply Kd.R_drewN | apply Kd.R_drew)); exact HO_3.out)
                        case c3_q1 => exact (by repeat (first | (with_reducible first | exact HB.out | apply below_alloc | apply pw_below_drewN | apply below_drew1) | exact HB.out))
                        intro W9 hx9 hO9 hB9
                        have hCA : Kd.C Kd.string W9 (some ad276) x5_2.toNat (x3_1.take x5_2.toNat) := by have h_ := Kd.C_take (Kd.R_reads' hO9).2.2 (m := x5_2.toNat) (by omega); rwa [List.length_take, Nat.min_eq_left (by omega)] at h_
                        have hCB : Kd.C Kd.string W9 (if co12 = x5_2.toNat then (some ad276) else ((some ad276) : Option Addr).map (·.add (x5_2.toNat * 1))) (x3_1.length - x5_2.toNat) (x3_1.drop x5_2.toNat) := by have h_ := Kd.C_drop (Kd.R_reads' hO9).2.2 (m := x5_2.toNat) (c := co12) (by omega) hcp; rwa [List.length_drop] at h_
                        obtain ⟨AB, hAB⟩ : ∃ z : Option Addr, z = (if co12 = x5_2.toNat then (some ad276) else ((some ad276) : Option Addr).map (·.add (x5_2.toNat * 1))) := ⟨_, rfl⟩
                        rw [← hAB] at hcutB hCB
                        clear hAB
                        have hlt9 := World.block_lt_of_cell? W9 _ hx9
                        have CA := Aside0.mk hCA
                        have CB := Aside0.mk hCB
                        have B9 := Aside0.mk hB9
                        have LT := Aside0.mk hlt9
                        have TT := Aside0.mk ht
                        have KK := Aside0.mk (And.intro hk0 (And.intro hk1 hk2))
                        have HB9 : Aside0 (Below W9.heap.size W9 W9.drew) := ⟨by repeat (first | exact Below.refl _ _ | apply below_drew1)⟩
                        clear hCA hCB hO9 hB9 hlt9 ht hk0 hk1 hk2 hcp
                        refine wp_region_held_drew (S := (fun wz => wz.cell? (ad277.add x4_1.toNat) = some (.string (rdOf ByteArray.empty l0 x4_1)))) (by kernel_rfl) (by (try dsimp only); exact hx9) (fun hHeld => ?_)
                        refine wpAnyH_take (i := 1) (oi := ({ dst := some 45, op := Go.Op.move (Go.Operand.tmp 3), type := 22, pos := "ref.go:29", after := #[], guard := none } : Oper)) (v := ?_) rfl (by kernel_rfl) (by kernel_rfl) (by kernel_rfl) (fun _ _ _ h => h) (Or.inl ⟨by rfl, ?_⟩) (by assumption) ?_
                        rotate_left
                        · ((intro w hSw; (try dsimp only at hSw); go_simp) <;> with_reducible rfl)
                        try simp only [Act.put, List.setIfInBounds_toArray, List.set_cons_zero, List.set_cons_succ]
                        refine wpAnyH_take (i := 2) (oi := ({ dst := some 46, op := Go.Op.move (Go.Operand.tmp 5), type := 3, pos := "ref.go:29", after := #[], guard := none } : Oper)) (v := ?_) rfl (by kernel_rfl) (by kernel_rfl) (by kernel_rfl) (fun _ _ _ h => h) (Or.inl ⟨by rfl, ?_⟩) (by assumption) ?_
                        rotate_left
                        · ((intro w hSw; (try dsimp only at hSw); go_simp) <;> with_reducible rfl)
                        try simp only [Act.put, List.setIfInBounds_toArray, List.set_cons_zero, List.set_cons_succ]
                        refine wpAnyH_take (i := 3) (oi := ({ dst := some 47, op := Go.Op.slice 22 (Go.Operand.tmp 45) none (some (Go.Operand.tmp 46)) none, type := 22, pos := "ref.go:29", after := #[{ on := 1, ground := Go.Ground.data }, { on := 2, ground := Go.Ground.data }], guard := none } : Oper)) (v := ?_) rfl (by kernel_rfl) (by kernel_rfl) (by kernel_rfl) (fun _ _ _ h => h) (Or.inl ⟨by rfl, ?_⟩) (by assumption) ?_
                        rotate_left
                        · ((intro w hSw; (try dsimp only at hSw); go_simp) <;> with_reducible rfl)
                        try simp only [Act.put, List.setIfInBounds_toArray, List.set_cons_zero, List.set_cons_succ]
                        refine wpAnyH_take (i := 5) (oi := ({ dst := some 49, op := Go.Op.move (Go.Operand.tmp 0), type := 22, pos := "ref.go:29", after := #[], guard := none } : Oper)) (v := ?_) rfl (by kernel_rfl) (by kernel_rfl) (by kernel_rfl) (fun _ _ _ h => h) (Or.inl ⟨by rfl, ?_⟩) (by assumption) ?_
                        rotate_left
                        · ((intro w hSw; (try dsimp only at hSw); go_simp) <;> with_reducible rfl)
                        try simp only [Act.put, List.setIfInBounds_toArray, List.set_cons_zero, List.set_cons_succ]
                        refine wpAnyH_take (i := 6) (oi := ({ dst := some 50, op := Go.Op.move (Go.Operand.tmp 4), type := 3, pos := "ref.go:29", after := #[], guard := none } : Oper)) (v := ?_) rfl (by kernel_rfl) (by kernel_rfl) (by kernel_rfl) (fun _ _ _ h => h) (Or.inl ⟨by rfl, ?_⟩) (by assumption) ?_
                        rotate_left
                        · ((intro w hSw; (try dsimp only at hSw); go_simp) <;> with_reducible rfl)
                        try simp only [Act.put, List.setIfInBounds_toArray, List.set_cons_zero, List.set_cons_succ]
                        refine wpAnyH_take (i := 7) (oi := ({ dst := some 51, op := Go.Op.indexAddr 22 (Go.Operand.tmp 49) (Go.Operand.tmp 50), type := 0, pos := "ref.go:29", after := #[{ on := 5, ground := Go.Ground.data }, { on := 6, ground := Go.Ground.data }], guard := none } : Oper)) (v := ?_) rfl (by kernel_rfl) (by kernel_rfl) (by kernel_rfl) (fun _ _ _ h => h) (Or.inl ⟨by rfl, ?_⟩) (by assumption) ?_
                        rotate_left
                        · ((intro w hSw; (try dsimp only at hSw); go_simp) <;> with_reducible rfl)
                        try simp only [Act.put, List.setIfInBounds_toArray, List.set_cons_zero, List.set_cons_succ]
                        refine wpAnyH_take (i := 8) (oi := ({ dst := some 52, op := Go.Op.load 9 (Go.Operand.tmp 51), type := 9, pos := "ref.go:29", after := #[{ on := 7, ground := Go.Ground.data }], guard := none } : Oper)) (v := ?_) rfl (by kernel_rfl) (by kernel_rfl) (by kernel_rfl) (fun _ _ _ h => h) (Or.inl ⟨by rfl, ?_⟩) (by assumption) ?_
                        rotate_left
                        · ((intro w hSw; (try dsimp only at hSw); go_simp) <;> with_reducible rfl)
                        try simp only [Act.put, List.setIfInBounds_toArray, List.set_cons_zero, List.set_cons_succ]
                        refine wpAnyH_take (i := 11) (oi := ({ dst := some 55, op := Go.Op.move (Go.Operand.tmp 3), type := 22, pos := "ref.go:29", after := #[], guard := none } : Oper)) (v := ?_) rfl (by kernel_rfl) (by kernel_rfl) (by kernel_rfl) (fun _ _ _ h => h) (Or.inl ⟨by rfl, ?_⟩) (by assumption) ?_
                        rotate_left
                        · ((intro w hSw; (try dsimp only at hSw); go_simp) <;> with_reducible rfl)
                        try simp only [Act.put, List.setIfInBounds_toArray, List.set_cons_zero, List.set_cons_succ]
                        refine wpAnyH_take (i := 12) (oi := ({ dst := some 56, op := Go.Op.move (Go.Operand.tmp 5), type := 3, pos := "ref.go:29", after := #[], guard := none } : Oper)) (v := ?_) rfl (by kernel_rfl) (by kernel_rfl) (by kernel_rfl) (fun _ _ _ h => h) (Or.inl ⟨by rfl, ?_⟩) (by assumption) ?_
                        rotate_left
                        · ((intro w hSw; (try dsimp only at hSw); go_simp) <;> with_reducible rfl)
                        try simp only [Act.put, List.setIfInBounds_toArray, List.set_cons_zero, List.set_cons_succ]
                        refine wpAnyH_take (i := 13) (oi := ({ dst := some 57, op := Go.Op.slice 22 (Go.Operand.tmp 55) (some (Go.Operand.tmp 56)) none none, type := 22, pos := "ref.go:29", after := #[{ on := 11, ground := Go.Ground.data }, { on := 12, ground := Go.Ground.data }], guard := none } : Oper)) (v := ?_) rfl (by kernel_rfl) (by kernel_rfl) (by kernel_rfl) (fun _ _ _ h => h) (Or.inl ⟨by rfl, ?_⟩) (by assumption) ?_
                        rotate_left
                        · ((intro w hSw; (try dsimp only at hSw); go_simp) <;> with_reducible rfl)
                        try simp only [Act.put, List.setIfInBounds_toArray, List.set_cons_zero, List.set_cons_succ]
                        refine wpAnyH_ready (rs := [0, 9]) (by kernel_rfl) (by simp) (AllReadyH.cons (o := ({ dst := some 44, op := Go.Op.buildSlice 22 0 #[], type := 22, pos := "ref.go:29", after := #[], guard := none } : Oper)) rfl (fun K hK => ?e0_0q1) (AllReadyH.cons (o := ({ dst := some 53, op := Go.Op.buildSlice 22 1 #[(0, Go.Operand.tmp 52)], type := 22, pos := "ref.go:29", after := #[{ on := 8, ground := Go.Ground.data }], guard := none } : Oper)) rfl (fun K hK => ?e0_9q1) AllReadyH.nil))
                        case e0_0q1 =>
                          (refine Kd.R_lit_step Kd.string (w0 := W9) W9.heap.size 9 ?hg (N := 44) ?hdq1 (xs := ([] : List ByteArray)) (inner := []) (ok := fun _ => True) (okp := fun _ => False) ?hrq1 ?hpq1 (fun _ h => h.elim) trivial HB9.out HB9.out.size (by simp) ?_; (case hdq1 => rfl); (case hg => rfl); (case hrq1 => first | (go_simp; done) | (go_simp; rfl)); (case hpq1 => exact (Reps.none _ _)); intro vy w44 hy hb hg_ hn_; have HY := Aside0.mk hy; have HB9' := Aside0.mk hb; clear hn_; clear hy hb HB9; have HB9 := HB9'; clear HB9' hg_)
                          refine hK.out _ _ (by (try dsimp only); exact (HB9.out.cell LT.out).trans hx9) (fun hHeld2 => ?_)
                          clear hK K hHeld
                          have hHeld := hHeld2
                          clear hHeld2
                          try simp only [Act.put, List.setIfInBounds_toArray, List.set_cons_zero, List.set_cons_succ]
                          refine wpAnyH_ready (rs := [4, 9]) (by kernel_rfl) (by simp) (AllReadyH.cons (o := ({ dst := some 48, op := Go.Op.call { callee := Go.Callee.builtin Go.Builtin.append, args := #[Go.Operand.tmp 44, Go.Operand.tmp 47], argTypes := #[22, 22] }, type := 22, pos := "ref.go:29", after := #[{ on := 0, ground := Go.Ground.data }, { on := 3, ground := Go.Ground.data }], guard := none } : Oper)) rfl (fun K hK => ?e1_4q1) (AllReadyH.cons (o := ({ dst := some 53, op := Go.Op.buildSlice 22 1 #[(0, Go.Operand.tmp 52)], type := 22, pos := "ref.go:29", after := #[{ on := 8, ground := Go.Ground.data }], guard := none } : Oper)) rfl (fun K hK => ?e1_9q1) AllReadyH.nil))
                          case e1_4q1 =>
                            (refine Kd.R_append_rows_step Kd.string (w0 := W9) W9.heap.size ?hwq1 (.tmp 44) (.tmp 47) 22 9 (.string ⟨#[]⟩) 16 rfl Try.underlying22 info9 rfl (by decide) (by omega) vy ([] : List ByteArray) (x3_1.take x5_2.toNat) (some ad276) x5_2.toNat co12 (fun _ => True) (fun _ => False) ?hsq1 ?hxq1 ?aOq1 ?aRq1 (fun _ _ h => h) (fun _ h => h.elim) ?aFq1 ?aBq1 ?aSq1 ?aLq1 ?_; (case hwq1 => rfl); (case hsq1 => rfl); (case hxq1 => rfl); (case aRq1 => exact (Kd.C_below CA.out HB9.out)); (case aBq1 => exact HB9.out); (case aFq1 => exact (fun _ _ => trivial)); (case aOq1 => exact HY.out); (case aSq1 => exact HB9.out.size); (case aLq1 => have h_ := KK.out; simp only [List.length_take, List.length_append, List.length_cons, List.length_nil]; omega); intro vy4 wz_ hz_ hb hg_ hn_; rw [List.nil_append] at hz_; have HY' := Aside0.mk hz_; have HB9' := Aside0.mk hb; clear hz_ hb HB9 HY; have HB9 := HB9'; have HY := HY'; clear HB9' HY' hg_ hn_)
                            refine hK.out _ _ (by (try dsimp only); exact (HB9.out.cell LT.out).trans hx9) (fun hHeld2 => ?_)
                            clear hK K hHeld
                            have hHeld := hHeld2
                            clear hHeld2
                            try simp only [Act.put, List.setIfInBounds_toArray, List.set_cons_zero, List.set_cons_succ]
                            refine wpAnyH_ready (rs := [9]) (by kernel_rfl) (by simp) (AllReadyH.cons (o := ({ dst := some 53, op := Go.Op.buildSlice 22 1 #[(0, Go.Operand.tmp 52)], type := 22, pos := "ref.go:29", after := #[{ on := 8, ground := Go.Ground.data }], guard := none } : Oper)) rfl (fun K hK => ?e2_9q1) AllReadyH.nil)
                            case e2_9q1 =>
                              (refine Kd.R_lit_step Kd.string (w0 := W9) W9.heap.size 9 ?hg (N := 53) ?hdq1 (xs := [(rdOf ByteArray.empty l0 x4_1)]) (inner := [.string (rdOf ByteArray.empty l0 x4_1)]) (ok := fun k_ => some k_ ≠ vy4.ownBlock) (okp := fun _ => False) ?hrq1 ?hpq1 (fun _ h => h.elim) (Kd.R_ne_new HY.out 0) HB9.out HB9.out.size (by simp) ?_; (case hdq1 => rfl); (case hg => rfl); (case hrq1 => first | (go_simp; done) | (go_simp; rfl)); (case hpq1 => exact (Reps.one (show Kd.M Kd.string _ _ _ (rdOf ByteArray.empty l0 x4_1) [.string (rdOf ByteArray.empty l0 x4_1)] from rfl) (Reps.none _ _))); intro vx w53 hx_ hb hg_ hn_; obtain ⟨Ax, cx, rfl⟩ := Kd.R_slice hx_; have HX := Aside0.mk hx_; have HB9' := Aside0.mk hb; have HY' := Aside0.mk (Kd.R_grown HY.out hg_ (fun _ _ h => by cases h)); clear HY; have HY := HY'; clear HY'; clear hx_ hb HB9; have HB9 := HB9'; clear HB9' hg_ hn_)
                              refine hK.out _ _ (by (try dsimp only); exact (HB9.out.cell LT.out).trans hx9) (fun hHeld2 => ?_)
                              clear hK K hHeld
                              have hHeld := hHeld2
                              clear hHeld2
                              try simp only [Act.put, List.setIfInBounds_toArray, List.set_cons_zero, List.set_cons_succ]
                              refine wpAnyH_ready (rs := [10]) (by kernel_rfl) (by simp) (AllReadyH.cons (o := ({ dst := some 54, op := Go.Op.call { callee := Go.Callee.builtin Go.Builtin.append, args := #[Go.Operand.tmp 48, Go.Operand.tmp 53], argTypes := #[22, 22] }, type := 22, pos := "ref.go:29", after := #[{ on := 4, ground := Go.Ground.data }, { on := 9, ground := Go.Ground.data }, { on := 4, ground := Go.Ground.chain }], guard := none } : Oper)) rfl (fun K hK => ?e3_10q1) AllReadyH.nil)
                              case e3_10q1 =>
                                (refine Kd.R_append_rows_step Kd.string (w0 := W9) W9.heap.size ?hwq1 (.tmp 48) (.tmp 53) 22 9 (.string ⟨#[]⟩) 16 rfl Try.underlying22 info9 rfl (by decide) (by omega) vy4 (x3_1.take x5_2.toNat) [(rdOf ByteArray.empty l0 x4_1)] Ax ([(rdOf ByteArray.empty l0 x4_1)] : List ByteArray).length cx (fun _ => True) (fun _ => False) ?hsq1 ?hxq1 ?aOq1 ?aRq1 (fun _ _ h => h) (fun _ h => h.elim) ?aFq1 ?aBq1 ?aSq1 ?aLq1 ?_; (case hwq1 => rfl); (case hsq1 => rfl); (case hxq1 => rfl); (case aRq1 => exact (Kd.R_reads' HX.out).2.2); (case aBq1 => exact HB9.out); (case aFq1 => exact (fun _ _ => trivial)); (case aOq1 => exact HY.out); (case aSq1 => exact HB9.out.size); (case aLq1 => have h_ := KK.out; simp only [List.length_take, List.length_append, List.length_cons, List.length_nil]; omega); intro vy10 wz_ hz_ hb hg_ hn_; have HY' := Aside0.mk hz_; have HB9' := Aside0.mk hb; clear hz_ hb HB9 HY; have HB9 := HB9'; have HY := HY'; clear HB9' HY' hg_ hn_)
                                refine hK.out _ _ (by (try dsimp only); exact (HB9.out.cell LT.out).trans hx9) (fun hHeld2 => ?_)
                                clear hK K hHeld
                                have hHeld := hHeld2
                                clear hHeld2
                                try simp only [Act.put, List.setIfInBounds_toArray, List.set_cons_zero, List.set_cons_succ]
                                refine wpAnyH_ready (rs := [14]) (by kernel_rfl) (by simp) (AllReadyH.cons (o := ({ dst := some 58, op := Go.Op.call { callee := Go.Callee.builtin Go.Builtin.append, args := #[Go.Operand.tmp 54, Go.Operand.tmp 57], argTypes := #[22, 22] }, type := 22, pos := "ref.go:29", after := #[{ on := 10, ground := Go.Ground.data }, { on := 13, ground := Go.Ground.data }, { on := 10, ground := Go.Ground.chain }], guard := none } : Oper)) rfl (fun K hK => ?e4_14q1) AllReadyH.nil)
                                case e4_14q1 =>
                                  (refine Kd.R_append_rows_step Kd.string (w0 := W9) W9.heap.size ?hwq1 (.tmp 54) (.tmp 57) 22 9 (.string ⟨#[]⟩) 16 rfl Try.underlying22 info9 rfl (by decide) (by omega) vy10 ((x3_1.take x5_2.toNat) ++ [(rdOf ByteArray.empty l0 x4_1)]) (x3_1.drop x5_2.toNat) AB (x3_1.length - x5_2.toNat) (co12 - x5_2.toNat) (fun _ => True) (fun _ => False) ?hsq1 ?hxq1 ?aOq1 ?aRq1 (fun _ _ h => h) (fun _ h => h.elim) ?aFq1 ?aBq1 ?aSq1 ?aLq1 ?_; (case hwq1 => rfl); (case hsq1 => rfl); (case hxq1 => rfl); (case aRq1 => exact (Kd.C_below CB.out HB9.out)); (case aBq1 => exact HB9.out); (case aFq1 => exact (fun _ _ => trivial)); (case aOq1 => exact HY.out); (case aSq1 => exact HB9.out.size); (case aLq1 => have h_ := KK.out; simp only [List.length_take, List.length_append, List.length_cons, List.length_nil]; omega); intro vy14 wz_ hz_ hb hg_ hn_; have HY' := Aside0.mk hz_; have HB9' := Aside0.mk hb; clear hz_ hb HB9 HY; have HB9 := HB9'; have HY := HY'; clear HB9' HY' hg_ hn_)
                                  refine hK.out _ _ (by (try dsimp only); exact (HB9.out.cell LT.out).trans hx9) (fun hHeld2 => ?_)
                                  clear hK K hHeld
                                  have hHeld := hHeld2
                                  clear hHeld2
                                  try simp only [Act.put, List.setIfInBounds_toArray, List.set_cons_zero, List.set_cons_succ]
                                  refine wpAnyH_take (i := 15) (oi := ({ dst := some 3, op := Go.Op.assign (Go.Operand.tmp 58), type := 22, pos := "ref.go:29", after := #[{ on := 14, ground := Go.Ground.data }, { on := 14, ground := Go.Ground.chain }, { on := 0, ground := Go.Ground.phase }, { on := 1, ground := Go.Ground.phase }, { on := 2, ground := Go.Ground.phase }, { on := 3, ground := Go.Ground.phase }, { on := 4, ground := Go.Ground.phase }, { on := 5, ground := Go.Ground.phase }, { on := 6, ground := Go.Ground.phase }, { on := 7, ground := Go.Ground.phase }, { on := 8, ground := Go.Ground.phase }, { on := 9, ground := Go.Ground.phase }, { on := 10, ground := Go.Ground.phase }, { on := 11, ground := Go.Ground.phase }, { on := 12, ground := Go.Ground.phase }, { on := 13, ground := Go.Ground.phase }, { on := 14, ground := Go.Ground.phase }], guard := none } : Oper)) (v := ?_) rfl (by kernel_rfl) (by kernel_rfl) (by kernel_rfl) (fun _ _ _ h => h) (Or.inl ⟨by rfl, ?_⟩) (by assumption) ?_
                                  rotate_left
                                  · ((intro w hSw; (try dsimp only at hSw); go_simp) <;> with_reducible rfl)
                                  try simp only [Act.put, List.setIfInBounds_toArray, List.set_cons_zero, List.set_cons_succ]
                                  refine wpAnyH_done (by kernel_rfl) ?_ _
                                  have HO282 := Aside0.mk (by have h_ := Kd.R_lower HY.out B9.out.size; rw [← TT.out] at h_; exact h_)
                                  have HB := Aside0.mk (below_step B9.out HB9.out)
                                  go_wp2
                                  go_roundg k2
                                  case measure => have := HK1.out; have := HK2.out; omega
                                  case rel => exact ⟨(t280), (wrap64 (x4_1 + 1)), (by first | rfl | (simp; done) | (simp [*]; done)), H', ⟨by have := HK1.out; have := HK2.out; omega⟩, ⟨by (with_reducible repeat (first | apply Kd.R_alloc | apply Kd.R_drewN | apply Kd.R_drew)); exact Kd.R_mono HO282.out (fun _ hk => trivial)⟩, ⟨by repeat (first | (with_reducible first | exact HB.out | apply below_alloc | apply pw_below_drewN | apply below_drew1) | exact HB.out)⟩⟩
                          case e1_9q1 =>
                            (refine Kd.R_lit_step Kd.string (w0 := W9) W9.heap.size 9 ?hg (N := 53) ?hdq1 (xs := [(rdOf ByteArray.empty l0 x4_1)]) (inner := [.string (rdOf ByteArray.empty l0 x4_1)]) (ok := fun k_ => some k_ ≠ vy.ownBlock) (okp := fun _ => False) ?hrq1 ?hpq1 (fun _ h => h.elim) (Kd.R_ne_new HY.out 0) HB9.out HB9.out.size (by simp) ?_; (case hdq1 => rfl); (case hg => rfl); (case hrq1 => first | (go_simp; done) | (go_simp; rfl)); (case hpq1 => exact (Reps.one (show Kd.M Kd.string _ _ _ (rdOf ByteArray.empty l0 x4_1) [.string (rdOf ByteArray.empty l0 x4_1)] from rfl) (Reps.none _ _))); intro vx w53 hx_ hb hg_ hn_; obtain ⟨Ax, cx, rfl⟩ := Kd.R_slice hx_; have HX := Aside0.mk hx_; have HB9' := Aside0.mk hb; have HY' := Aside0.mk (Kd.R_grown HY.out hg_ (fun _ _ h => by cases h)); clear HY; have HY := HY'; clear HY'; clear hx_ hb HB9; have HB9 := HB9'; clear HB9' hg_ hn_)
                            refine hK.out _ _ (by (try dsimp only); exact (HB9.out.cell LT.out).trans hx9) (fun hHeld2 => ?_)
                            clear hK K hHeld
                            have hHeld := hHeld2
                            clear hHeld2
                            try simp only [Act.put, List.setIfInBounds_toArray, List.set_cons_zero, List.set_cons_succ]
                            refine wpAnyH_ready (rs := [4]) (by kernel_rfl) (by simp) (AllReadyH.cons (o := ({ dst := some 48, op := Go.Op.call { callee := Go.Callee.builtin Go.Builtin.append, args := #[Go.Operand.tmp 44, Go.Operand.tmp 47], argTypes := #[22, 22] }, type := 22, pos := "ref.go:29", after := #[{ on := 0, ground := Go.Ground.data }, { on := 3, ground := Go.Ground.data }], guard := none } : Oper)) rfl (fun K hK => ?e2_4q1) AllReadyH.nil)
                            case e2_4q1 =>
                              (refine Kd.R_append_rows_step Kd.string (w0 := W9) W9.heap.size ?hwq1 (.tmp 44) (.tmp 47) 22 9 (.string ⟨#[]⟩) 16 rfl Try.underlying22 info9 rfl (by decide) (by omega) vy ([] : List ByteArray) (x3_1.take x5_2.toNat) (some ad276) x5_2.toNat co12 (fun _ => True) (fun _ => False) ?hsq1 ?hxq1 ?aOq1 ?aRq1 (fun _ _ h => h) (fun _ h => h.elim) ?aFq1 ?aBq1 ?aSq1 ?aLq1 ?_; (case hwq1 => rfl); (case hsq1 => rfl); (case hxq1 => rfl); (case aRq1 => exact (Kd.C_below CA.out HB9.out)); (case aBq1 => exact HB9.out); (case aFq1 => exact (fun _ _ => trivial)); (case aOq1 => exact HY.out); (case aSq1 => exact HB9.out.size); (case aLq1 => have h_ := KK.out; simp only [List.length_take, List.length_append, List.length_cons, List.length_nil]; omega); intro vy4 wz_ hz_ hb hg_ hn_; rw [List.nil_append] at hz_; have HX' := Aside0.mk (Kd.R_grown HX.out hg_ (fun _ hk => hk)); clear HX; have HX := HX'; clear HX'; have HY' := Aside0.mk hz_; have HB9' := Aside0.mk hb; clear hz_ hb HB9 HY; have HB9 := HB9'; have HY := HY'; clear HB9' HY' hg_ hn_)
                              refine hK.out _ _ (by (try dsimp only); exact (HB9.out.cell LT.out).trans hx9) (fun hHeld2 => ?_)
                              clear hK K hHeld
                              have hHeld := hHeld2
                              clear hHeld2
                              try simp only [Act.put, List.setIfInBounds_toArray, List.set_cons_zero, List.set_cons_succ]
                              refine wpAnyH_ready (rs := [10]) (by kernel_rfl) (by simp) (AllReadyH.cons (o := ({ dst := some 54, op := Go.Op.call { callee := Go.Callee.builtin Go.Builtin.append, args := #[Go.Operand.tmp 48, Go.Operand.tmp 53], argTypes := #[22, 22] }, type := 22, pos := "ref.go:29", after := #[{ on := 4, ground := Go.Ground.data }, { on := 9, ground := Go.Ground.data }, { on := 4, ground := Go.Ground.chain }], guard := none } : Oper)) rfl (fun K hK => ?e3_10q1) AllReadyH.nil)
                              case e3_10q1 =>
                                (refine Kd.R_append_rows_step Kd.string (w0 := W9) W9.heap.size ?hwq1 (.tmp 48) (.tmp 53) 22 9 (.string ⟨#[]⟩) 16 rfl Try.underlying22 info9 rfl (by decide) (by omega) vy4 (x3_1.take x5_2.toNat) [(rdOf ByteArray.empty l0 x4_1)] Ax ([(rdOf ByteArray.empty l0 x4_1)] : List ByteArray).length cx (fun _ => True) (fun _ => False) ?hsq1 ?hxq1 ?aOq1 ?aRq1 (fun _ _ h => h) (fun _ h => h.elim) ?aFq1 ?aBq1 ?aSq1 ?aLq1 ?_; (case hwq1 => rfl); (case hsq1 => rfl); (case hxq1 => rfl); (case aRq1 => exact (Kd.R_reads' HX.out).2.2); (case aBq1 => exact HB9.out); (case aFq1 => exact (fun _ _ => trivial)); (case aOq1 => exact HY.out); (case aSq1 => exact HB9.out.size); (case aLq1 => have h_ := KK.out; simp only [List.length_take, List.length_append, List.length_cons, List.length_nil]; omega); intro vy10 wz_ hz_ hb hg_ hn_; have HY' := Aside0.mk hz_; have HB9' := Aside0.mk hb; clear hz_ hb HB9 HY; have HB9 := HB9'; have HY := HY'; clear HB9' HY' hg_ hn_)
                                refine hK.out _ _ (by (try dsimp only); exact (HB9.out.cell LT.out).trans hx9) (fun hHeld2 => ?_)
                                clear hK K hHeld
                                have hHeld := hHeld2
                                clear hHeld2
                                try simp only [Act.put, List.setIfInBounds_toArray, List.set_cons_zero, List.set_cons_succ]
                                refine wpAnyH_ready (rs := [14]) (by kernel_rfl) (by simp) (AllReadyH.cons (o := ({ dst := some 58, op := Go.Op.call { callee := Go.Callee.builtin Go.Builtin.append, args := #[Go.Operand.tmp 54, Go.Operand.tmp 57], argTypes := #[22, 22] }, type := 22, pos := "ref.go:29", after := #[{ on := 10, ground := Go.Ground.data }, { on := 13, ground := Go.Ground.data }, { on := 10, ground := Go.Ground.chain }], guard := none } : Oper)) rfl (fun K hK => ?e4_14q1) AllReadyH.nil)
                                case e4_14q1 =>
                                  (refine Kd.R_append_rows_step Kd.string (w0 := W9) W9.heap.size ?hwq1 (.tmp 54) (.tmp 57) 22 9 (.string ⟨#[]⟩) 16 rfl Try.underlying22 info9 rfl (by decide) (by omega) vy10 ((x3_1.take x5_2.toNat) ++ [(rdOf ByteArray.empty l0 x4_1)]) (x3_1.drop x5_2.toNat) AB (x3_1.length - x5_2.toNat) (co12 - x5_2.toNat) (fun _ => True) (fun _ => False) ?hsq1 ?hxq1 ?aOq1 ?aRq1 (fun _ _ h => h) (fun _ h => h.elim) ?aFq1 ?aBq1 ?aSq1 ?aLq1 ?_; (case hwq1 => rfl); (case hsq1 => rfl); (case hxq1 => rfl); (case aRq1 => exact (Kd.C_below CB.out HB9.out)); (case aBq1 => exact HB9.out); (case aFq1 => exact (fun _ _ => trivial)); (case aOq1 => exact HY.out); (case aSq1 => exact HB9.out.size); (case aLq1 => have h_ := KK.out; simp only [List.length_take, List.length_append, List.length_cons, List.length_nil]; omega); intro vy14 wz_ hz_ hb hg_ hn_; have HY' := Aside0.mk hz_; have HB9' := Aside0.mk hb; clear hz_ hb HB9 HY; have HB9 := HB9'; have HY := HY'; clear HB9' HY' hg_ hn_)
                                  refine hK.out _ _ (by (try dsimp only); exact (HB9.out.cell LT.out).trans hx9) (fun hHeld2 => ?_)
                                  clear hK K hHeld
                                  have hHeld := hHeld2
                                  clear hHeld2
                                  try simp only [Act.put, List.setIfInBounds_toArray, List.set_cons_zero, List.set_cons_succ]
                                  refine wpAnyH_take (i := 15) (oi := ({ dst := some 3, op := Go.Op.assign (Go.Operand.tmp 58), type := 22, pos := "ref.go:29", after := #[{ on := 14, ground := Go.Ground.data }, { on := 14, ground := Go.Ground.chain }, { on := 0, ground := Go.Ground.phase }, { on := 1, ground := Go.Ground.phase }, { on := 2, ground := Go.Ground.phase }, { on := 3, ground := Go.Ground.phase }, { on := 4, ground := Go.Ground.phase }, { on := 5, ground := Go.Ground.phase }, { on := 6, ground := Go.Ground.phase }, { on := 7, ground := Go.Ground.phase }, { on := 8, ground := Go.Ground.phase }, { on := 9, ground := Go.Ground.phase }, { on := 10, ground := Go.Ground.phase }, { on := 11, ground := Go.Ground.phase }, { on := 12, ground := Go.Ground.phase }, { on := 13, ground := Go.Ground.phase }, { on := 14, ground := Go.Ground.phase }], guard := none } : Oper)) (v := ?_) rfl (by kernel_rfl) (by kernel_rfl) (by kernel_rfl) (fun _ _ _ h => h) (Or.inl ⟨by rfl, ?_⟩) (by assumption) ?_
                                  rotate_left
                                  · ((intro w hSw; (try dsimp only at hSw); go_simp) <;> with_reducible rfl)
                                  try simp only [Act.put, List.setIfInBounds_toArray, List.set_cons_zero, List.set_cons_succ]
                                  refine wpAnyH_done (by kernel_rfl) ?_ _
                                  have HO282 := Aside0.mk (by have h_ := Kd.R_lower HY.out B9.out.size; rw [← TT.out] at h_; exact h_)
                                  have HB := Aside0.mk (below_step B9.out HB9.out)
                                  go_wp2
                                  go_roundg k2
                                  case measure => have := HK1.out; have := HK2.out; omega
                                  case rel => exact ⟨(t280), (wrap64 (x4_1 + 1)), (by first | rfl | (simp; done) | (simp [*]; done)), H', ⟨by have := HK1.out; have := HK2.out; omega⟩, ⟨by (with_reducible repeat (first | apply Kd.R_alloc | apply Kd.R_drewN | apply Kd.R_drew)); exact Kd.R_mono HO282.out (fun _ hk => trivial)⟩, ⟨by repeat (first | (with_reducible first | exact HB.out | apply below_alloc | apply pw_below_drewN | apply below_drew1) | exact HB.out)⟩⟩
                        case e0_9q1 =>
                          (refine Kd.R_lit_step Kd.string (w0 := W9) W9.heap.size 9 ?hg (N := 53) ?hdq1 (xs := [(rdOf ByteArray.empty l0 x4_1)]) (inner := [.string (rdOf ByteArray.empty l0 x4_1)]) (ok := fun _ => True) (okp := fun _ => False) ?hrq1 ?hpq1 (fun _ h => h.elim) trivial HB9.out HB9.out.size (by simp) ?_; (case hdq1 => rfl); (case hg => rfl); (case hrq1 => first | (go_simp; done) | (go_simp; rfl)); (case hpq1 => exact (Reps.one (show Kd.M Kd.string _ _ _ (rdOf ByteArray.empty l0 x4_1) [.string (rdOf ByteArray.empty l0 x4_1)] from rfl) (Reps.none _ _))); intro vx w53 hx_ hb hg_ hn_; obtain ⟨Ax, cx, rfl⟩ := Kd.R_slice hx_; have HX := Aside0.mk hx_; have HB9' := Aside0.mk hb; clear hx_ hb HB9; have HB9 := HB9'; clear HB9' hg_ hn_)
                          refine hK.out _ _ (by (try dsimp only); exact (HB9.out.cell LT.out).trans hx9) (fun hHeld2 => ?_)
                          clear hK K hHeld
                          have hHeld := hHeld2
                          clear hHeld2
                          try simp only [Act.put, List.setIfInBounds_toArray, List.set_cons_zero, List.set_cons_succ]
                          refine wpAnyH_ready (rs := [0]) (by kernel_rfl) (by simp) (AllReadyH.cons (o := ({ dst := some 44, op := Go.Op.buildSlice 22 0 #[], type := 22, pos := "ref.go:29", after := #[], guard := none } : Oper)) rfl (fun K hK => ?e1_0q1) AllReadyH.nil)
                          case e1_0q1 =>
                            (refine Kd.R_lit_step Kd.string (w0 := W9) W9.heap.size 9 ?hg (N := 44) ?hdq1 (xs := ([] : List ByteArray)) (inner := []) (ok := fun _ => True) (okp := fun _ => False) ?hrq1 ?hpq1 (fun _ h => h.elim) trivial HB9.out HB9.out.size (by simp) ?_; (case hdq1 => rfl); (case hg => rfl); (case hrq1 => first | (go_simp; done) | (go_simp; rfl)); (case hpq1 => exact (Reps.none _ _)); intro vy w44 hy hb hg_ hn_; have HY := Aside0.mk hy; have HB9' := Aside0.mk hb; obtain ⟨by_, hby, hbl⟩ := hn_; have HX' := Aside0.mk (Kd.R_mono (Kd.R_grown (Kd.R_bound HX.out) hg_ (fun _ _ h => by cases h)) (ok' := fun k_ => some k_ ≠ vy.ownBlock) (fun k_ hk => by have h1_ := hk.2.2.1; intro he; rw [hby] at he; have h2_ := Option.some.inj he; omega)); clear HX; have HX := HX'; clear HX' hby hbl; clear hy hb HB9; have HB9 := HB9'; clear HB9' hg_)
                            refine hK.out _ _ (by (try dsimp only); exact (HB9.out.cell LT.out).trans hx9) (fun hHeld2 => ?_)
                            clear hK K hHeld
                            have hHeld := hHeld2
                            clear hHeld2
                            try simp only [Act.put, List.setIfInBounds_toArray, List.set_cons_zero, List.set_cons_succ]
                            refine wpAnyH_ready (rs := [4]) (by kernel_rfl) (by simp) (AllReadyH.cons (o := ({ dst := some 48, op := Go.Op.call { callee := Go.Callee.builtin Go.Builtin.append, args := #[Go.Operand.tmp 44, Go.Operand.tmp 47], argTypes := #[22, 22] }, type := 22, pos := "ref.go:29", after := #[{ on := 0, ground := Go.Ground.data }, { on := 3, ground := Go.Ground.data }], guard := none } : Oper)) rfl (fun K hK => ?e2_4q1) AllReadyH.nil)
                            case e2_4q1 =>
                              (refine Kd.R_append_rows_step Kd.string (w0 := W9) W9.heap.size ?hwq1 (.tmp 44) (.tmp 47) 22 9 (.string ⟨#[]⟩) 16 rfl Try.underlying22 info9 rfl (by decide) (by omega) vy ([] : List ByteArray) (x3_1.take x5_2.toNat) (some ad276) x5_2.toNat co12 (fun _ => True) (fun _ => False) ?hsq1 ?hxq1 ?aOq1 ?aRq1 (fun _ _ h => h) (fun _ h => h.elim) ?aFq1 ?aBq1 ?aSq1 ?aLq1 ?_; (case hwq1 => rfl); (case hsq1 => rfl); (case hxq1 => rfl); (case aRq1 => exact (Kd.C_below CA.out HB9.out)); (case aBq1 => exact HB9.out); (case aFq1 => exact (fun _ _ => trivial)); (case aOq1 => exact HY.out); (case aSq1 => exact HB9.out.size); (case aLq1 => have h_ := KK.out; simp only [List.length_take, List.length_append, List.length_cons, List.length_nil]; omega); intro vy4 wz_ hz_ hb hg_ hn_; rw [List.nil_append] at hz_; have HX' := Aside0.mk (Kd.R_grown HX.out hg_ (fun _ hk => hk)); clear HX; have HX := HX'; clear HX'; have HY' := Aside0.mk hz_; have HB9' := Aside0.mk hb; clear hz_ hb HB9 HY; have HB9 := HB9'; have HY := HY'; clear HB9' HY' hg_ hn_)
                              refine hK.out _ _ (by (try dsimp only); exact (HB9.out.cell LT.out).trans hx9) (fun hHeld2 => ?_)
                              clear hK K hHeld
                              have hHeld := hHeld2
                              clear hHeld2
                              try simp only [Act.put, List.setIfInBounds_toArray, List.set_cons_zero, List.set_cons_succ]
                              refine wpAnyH_ready (rs := [10]) (by kernel_rfl) (by simp) (AllReadyH.cons (o := ({ dst := some 54, op := Go.Op.call { callee := Go.Callee.builtin Go.Builtin.append, args := #[Go.Operand.tmp 48, Go.Operand.tmp 53], argTypes := #[22, 22] }, type := 22, pos := "ref.go:29", after := #[{ on := 4, ground := Go.Ground.data }, { on := 9, ground := Go.Ground.data }, { on := 4, ground := Go.Ground.chain }], guard := none } : Oper)) rfl (fun K hK => ?e3_10q1) AllReadyH.nil)
                              case e3_10q1 =>
                                (refine Kd.R_append_rows_step Kd.string (w0 := W9) W9.heap.size ?hwq1 (.tmp 48) (.tmp 53) 22 9 (.string ⟨#[]⟩) 16 rfl Try.underlying22 info9 rfl (by decide) (by omega) vy4 (x3_1.take x5_2.toNat) [(rdOf ByteArray.empty l0 x4_1)] Ax ([(rdOf ByteArray.empty l0 x4_1)] : List ByteArray).length cx (fun _ => True) (fun _ => False) ?hsq1 ?hxq1 ?aOq1 ?aRq1 (fun _ _ h => h) (fun _ h => h.elim) ?aFq1 ?aBq1 ?aSq1 ?aLq1 ?_; (case hwq1 => rfl); (case hsq1 => rfl); (case hxq1 => rfl); (case aRq1 => exact (Kd.R_reads' HX.out).2.2); (case aBq1 => exact HB9.out); (case aFq1 => exact (fun _ _ => trivial)); (case aOq1 => exact HY.out); (case aSq1 => exact HB9.out.size); (case aLq1 => have h_ := KK.out; simp only [List.length_take, List.length_append, List.length_cons, List.length_nil]; omega); intro vy10 wz_ hz_ hb hg_ hn_; have HY' := Aside0.mk hz_; have HB9' := Aside0.mk hb; clear hz_ hb HB9 HY; have HB9 := HB9'; have HY := HY'; clear HB9' HY' hg_ hn_)
                                refine hK.out _ _ (by (try dsimp only); exact (HB9.out.cell LT.out).trans hx9) (fun hHeld2 => ?_)
                                clear hK K hHeld
                                have hHeld := hHeld2
                                clear hHeld2
                                try simp only [Act.put, List.setIfInBounds_toArray, List.set_cons_zero, List.set_cons_succ]
                                refine wpAnyH_ready (rs := [14]) (by kernel_rfl) (by simp) (AllReadyH.cons (o := ({ dst := some 58, op := Go.Op.call { callee := Go.Callee.builtin Go.Builtin.append, args := #[Go.Operand.tmp 54, Go.Operand.tmp 57], argTypes := #[22, 22] }, type := 22, pos := "ref.go:29", after := #[{ on := 10, ground := Go.Ground.data }, { on := 13, ground := Go.Ground.data }, { on := 10, ground := Go.Ground.chain }], guard := none } : Oper)) rfl (fun K hK => ?e4_14q1) AllReadyH.nil)
                                case e4_14q1 =>
                                  (refine Kd.R_append_rows_step Kd.string (w0 := W9) W9.heap.size ?hwq1 (.tmp 54) (.tmp 57) 22 9 (.string ⟨#[]⟩) 16 rfl Try.underlying22 info9 rfl (by decide) (by omega) vy10 ((x3_1.take x5_2.toNat) ++ [(rdOf ByteArray.empty l0 x4_1)]) (x3_1.drop x5_2.toNat) AB (x3_1.length - x5_2.toNat) (co12 - x5_2.toNat) (fun _ => True) (fun _ => False) ?hsq1 ?hxq1 ?aOq1 ?aRq1 (fun _ _ h => h) (fun _ h => h.elim) ?aFq1 ?aBq1 ?aSq1 ?aLq1 ?_; (case hwq1 => rfl); (case hsq1 => rfl); (case hxq1 => rfl); (case aRq1 => exact (Kd.C_below CB.out HB9.out)); (case aBq1 => exact HB9.out); (case aFq1 => exact (fun _ _ => trivial)); (case aOq1 => exact HY.out); (case aSq1 => exact HB9.out.size); (case aLq1 => have h_ := KK.out; simp only [List.length_take, List.length_append, List.length_cons, List.length_nil]; omega); intro vy14 wz_ hz_ hb hg_ hn_; have HY' := Aside0.mk hz_; have HB9' := Aside0.mk hb; clear hz_ hb HB9 HY; have HB9 := HB9'; have HY := HY'; clear HB9' HY' hg_ hn_)
                                  refine hK.out _ _ (by (try dsimp only); exact (HB9.out.cell LT.out).trans hx9) (fun hHeld2 => ?_)
                                  clear hK K hHeld
                                  have hHeld := hHeld2
                                  clear hHeld2
                                  try simp only [Act.put, List.setIfInBounds_toArray, List.set_cons_zero, List.set_cons_succ]
                                  refine wpAnyH_take (i := 15) (oi := ({ dst := some 3, op := Go.Op.assign (Go.Operand.tmp 58), type := 22, pos := "ref.go:29", after := #[{ on := 14, ground := Go.Ground.data }, { on := 14, ground := Go.Ground.chain }, { on := 0, ground := Go.Ground.phase }, { on := 1, ground := Go.Ground.phase }, { on := 2, ground := Go.Ground.phase }, { on := 3, ground := Go.Ground.phase }, { on := 4, ground := Go.Ground.phase }, { on := 5, ground := Go.Ground.phase }, { on := 6, ground := Go.Ground.phase }, { on := 7, ground := Go.Ground.phase }, { on := 8, ground := Go.Ground.phase }, { on := 9, ground := Go.Ground.phase }, { on := 10, ground := Go.Ground.phase }, { on := 11, ground := Go.Ground.phase }, { on := 12, ground := Go.Ground.phase }, { on := 13, ground := Go.Ground.phase }, { on := 14, ground := Go.Ground.phase }], guard := none } : Oper)) (v := ?_) rfl (by kernel_rfl) (by kernel_rfl) (by kernel_rfl) (fun _ _ _ h => h) (Or.inl ⟨by rfl, ?_⟩) (by assumption) ?_
                                  rotate_left
                                  · ((intro w hSw; (try dsimp only at hSw); go_simp) <;> with_reducible rfl)
                                  try simp only [Act.put, List.setIfInBounds_toArray, List.set_cons_zero, List.set_cons_succ]
                                  refine wpAnyH_done (by kernel_rfl) ?_ _
                                  have HO282 := Aside0.mk (by have h_ := Kd.R_lower HY.out B9.out.size; rw [← TT.out] at h_; exact h_)
                                  have HB := Aside0.mk (below_step B9.out HB9.out)
                                  go_wp2
                                  go_roundg k2
                                  case measure => have := HK1.out; have := HK2.out; omega
                                  case rel => exact ⟨(t280), (wrap64 (x4_1 + 1)), (by first | rfl | (simp; done) | (simp [*]; done)), H', ⟨by have := HK1.out; have := HK2.out; omega⟩, ⟨by (with_reducible repeat (first | apply Kd.R_alloc | apply Kd.R_drewN | apply Kd.R_drew)); exact Kd.R_mono HO282.out (fun _ hk => trivial)⟩, ⟨by repeat (first | (with_reducible first | exact HB.out | apply below_alloc | apply pw_below_drewN | apply below_drew1) | exact HB.out)⟩⟩
                      · rw [if_neg c10] at H
                        have c10b0 : (x5_2 == (x3_1.length : Int)) = false := beq_eq_false_iff_ne.mpr c10
                        have c10b1 : (x5_2 != (x3_1.length : Int)) = true := bne_iff_ne.mpr c10
                        by_cases c14 : (rdOf ByteArray.empty x3_1 x5_2).toList = (rdOf ByteArray.empty l0 x4_1).toList
                        · rw [if_pos c14] at H
                          have c14b0 : ((rdOf ByteArray.empty x3_1 x5_2).toList == (rdOf ByteArray.empty l0 x4_1).toList) = true := beq_iff_eq.mpr c14
                          have c14b1 : ((rdOf ByteArray.empty x3_1 x5_2).toList != (rdOf ByteArray.empty l0 x4_1).toList) = false := bne_eq_false_iff_eq.mpr c14
                          clear c14
                          have H' := Aside0.mk H
                          clear H
                          obtain ⟨Ao15, co15, eo15⟩ := Kd.R_slice HO_3.out
                          subst eo15
                          have p276 : 0 ≤ (x5_2 : Int) := of_decide_eq_true (by first | (with_reducible assumption) | assumption)
                          have q276 : x5_2 < (x3_1.length : Int) := of_decide_eq_true (by first | (with_reducible assumption) | assumption)
                          obtain ⟨ad276, e276, hx276_0⟩ := Kd.at_string (Kd.R_reads' HO_3.out).2.2 x5_2 p276 q276
                          cases e276
                          replace p276 := eq_true p276
                          replace q276 := eq_true q276
                          have p277 : 0 ≤ (x4_1 : Int) := of_decide_eq_true (by first | (with_reducible assumption) | assumption)
                          have q277 : x4_1 < (l0.length : Int) := of_decide_eq_true (by first | (with_reducible assumption) | assumption)
                          obtain ⟨ad277, e277, hx277_0⟩ := Kd.at_string HR0.out x4_1 p277 q277
                          cases e277
                          replace hx277_0 := (HB.out.cell (World.block_lt_of_cell? w _ hx277_0)).trans hx277_0
                          replace p277 := eq_true p277
                          replace q277 := eq_true q277
                          go_wp2_with (first | (go_at_call 16; (with_reducible refine (less11.calls (rdOf ByteArray.empty x3_1 x5_2) (rdOf ByteArray.empty l0 x4_1) false _ A7.out).mono ?_); rintro e w' ⟨rfl, ⟨nd, rfl⟩⟩; (try first | exact ⟨rfl, _, World.drewN_drewN _ _ _⟩ | exact ⟨rfl, _, Eq.trans (World.drewN_drewN _ _ _) (congrArg (World.drewN _) (Nat.add_assoc _ _ _))⟩); have p283 : 0 ≤ (x5_2 : Int) := of_decide_eq_true (by first | (with_reducible assumption) | assumption); have q283 : x5_2 < (x3_1.length : Int) := of_decide_eq_true (by first | (with_reducible assumption) | assumption); obtain ⟨ad283, e283, hx283_0⟩ := Kd.at_string (Kd.R_reads' HO_3.out).2.2 x5_2 p283 q283; obtain rfl : ad276 = ad283 := (by injection e283); replace p283 := eq_true p283; replace q283 := eq_true q283; have p284 : 0 ≤ (x4_1 : Int) := of_decide_eq_true (by first | (with_reducible assumption) | assumption); have q284 : x4_1 < (l0.length : Int) := of_decide_eq_true (by first | (with_reducible assumption) | assumption); obtain ⟨ad284, e284, hx284_0⟩ := Kd.at_string HR0.out x4_1 p284 q284; obtain rfl : ad277 = ad284 := (by injection e284); replace hx284_0 := (HB.out.cell (World.block_lt_of_cell? w _ hx284_0)).trans hx284_0; replace p284 := eq_true p284; replace q284 := eq_true q284))
                          repeat (go_quiet (first | (go_at_call 16; (with_reducible refine (less11.calls (rdOf ByteArray.empty x3_1 x5_2) (rdOf ByteArray.empty l0 x4_1) false _ A7.out).mono ?_); rintro e w' ⟨rfl, ⟨nd, rfl⟩⟩; (try first | exact ⟨rfl, _, World.drewN_drewN _ _ _⟩ | exact ⟨rfl, _, Eq.trans (World.drewN_drewN _ _ _) (congrArg (World.drewN _) (Nat.add_assoc _ _ _))⟩); have p283 : 0 ≤ (x5_2 : Int) := of_decide_eq_true (by first | (with_reducible assumption) | assumption); have q283 : x5_2 < (x3_1.length : Int) := of_decide_eq_true (by first | (with_reducible assumption) | assumption); obtain ⟨ad283, e283, hx283_0⟩ := Kd.at_string (Kd.R_reads' HO_3.out).2.2 x5_2 p283 q283; obtain rfl : ad276 = ad283 := (by injection e283); replace p283 := eq_true p283; replace q283 := eq_true q283; have p284 : 0 ≤ (x4_1 : Int) := of_decide_eq_true (by first | (with_reducible assumption) | assumption); have q284 : x4_1 < (l0.length : Int) := of_decide_eq_true (by first | (with_reducible assumption) | assumption); obtain ⟨ad284, e284, hx284_0⟩ := Kd.at_string HR0.out x4_1 p284 q284; obtain rfl : ad277 = ad284 := (by injection e284); replace hx284_0 := (HB.out.cell (World.block_lt_of_cell? w _ hx284_0)).trans hx284_0; replace p284 := eq_true p284; replace q284 := eq_true q284)); try go_wp2_with (first | (go_at_call 16; (with_reducible refine (less11.calls (rdOf ByteArray.empty x3_1 x5_2) (rdOf ByteArray.empty l0 x4_1) false _ A7.out).mono ?_); rintro e w' ⟨rfl, ⟨nd, rfl⟩⟩; (try first | exact ⟨rfl, _, World.drewN_drewN _ _ _⟩ | exact ⟨rfl, _, Eq.trans (World.drewN_drewN _ _ _) (congrArg (World.drewN _) (Nat.add_assoc _ _ _))⟩); have p283 : 0 ≤ (x5_2 : Int) := of_decide_eq_true (by first | (with_reducible assumption) | assumption); have q283 : x5_2 < (x3_1.length : Int) := of_decide_eq_true (by first | (with_reducible assumption) | assumption); obtain ⟨ad283, e283, hx283_0⟩ := Kd.at_string (Kd.R_reads' HO_3.out).2.2 x5_2 p283 q283; obtain rfl : ad276 = ad283 := (by injection e283); replace p283 := eq_true p283; replace q283 := eq_true q283; have p284 : 0 ≤ (x4_1 : Int) := of_decide_eq_true (by first | (with_reducible assumption) | assumption); have q284 : x4_1 < (l0.length : Int) := of_decide_eq_true (by first | (with_reducible assumption) | assumption); obtain ⟨ad284, e284, hx284_0⟩ := Kd.at_string HR0.out x4_1 p284 q284; obtain rfl : ad277 = ad284 := (by injection e284); replace hx284_0 := (HB.out.cell (World.block_lt_of_cell? w _ hx284_0)).trans hx284_0; replace p284 := eq_true p284; replace q284 := eq_true q284)))
                          go_roundg k2
                          case measure => have := HK1.out; have := HK2.out; omega
                          case rel => exact ⟨(x3_1), (wrap64 (x4_1 + 1)), (by first | rfl | (simp; done) | (simp [*]; done)), H', ⟨by have := HK1.out; have := HK2.out; omega⟩, ⟨by (with_reducible repeat (first | apply Kd.R_alloc | apply Kd.R_drewN | apply Kd.R_drew)); exact HO_3.out⟩, ⟨by repeat (first | (with_reducible first | exact HB.out | apply below_alloc | apply pw_below_drewN | apply below_drew1) | exact HB.out)⟩⟩
                        · rw [if_neg c14] at H
                          have c14b0 : ((rdOf ByteArray.empty x3_1 x5_2).toList == (rdOf ByteArray.empty l0 x4_1).toList) = false := beq_eq_false_iff_ne.mpr c14
                          have c14b1 : ((rdOf ByteArray.empty x3_1 x5_2).toList != (rdOf ByteArray.empty l0 x4_1).toList) = true := bne_iff_ne.mpr c14
                          replace H := Option.bind_eq_some_iff.mp H
                          obtain ⟨t286, A160, H⟩ := H
                          replace H : (touchstoneref11_Sorted.l0 k2 l0 t286 (wrap64 (x4_1 + 1))) = some r := H
                          have A16 := Aside0.mk A160
                          clear A160
                          have H' := Aside0.mk H
                          clear H
                          obtain ⟨Ao17, co17, eo17⟩ := Kd.R_slice HO_3.out
                          subst eo17
                          have p276 : 0 ≤ (x5_2 : Int) := of_decide_eq_true (by first | (with_reducible assumption) | assumption)
                          have q276 : x5_2 < (x3_1.length : Int) := of_decide_eq_true (by first | (with_reducible assumption) | assumption)
                          obtain ⟨ad276, e276, hx276_0⟩ := Kd.at_string (Kd.R_reads' HO_3.out).2.2 x5_2 p276 q276
                          cases e276
                          replace p276 := eq_true p276
                          replace q276 := eq_true q276
                          have p277 : 0 ≤ (x4_1 : Int) := of_decide_eq_true (by first | (with_reducible assumption) | assumption)
                          have q277 : x4_1 < (l0.length : Int) := of_decide_eq_true (by first | (with_reducible assumption) | assumption)
                          obtain ⟨ad277, e277, hx277_0⟩ := Kd.at_string HR0.out x4_1 p277 q277
                          cases e277
                          replace hx277_0 := (HB.out.cell (World.block_lt_of_cell? w _ hx277_0)).trans hx277_0
                          replace p277 := eq_true p277
                          replace q277 := eq_true q277
                          go_wp2_with (first | (go_at_call 16; (with_reducible refine (less11.calls (rdOf ByteArray.empty x3_1 x5_2) (rdOf ByteArray.empty l0 x4_1) false _ A7.out).mono ?_); rintro e w' ⟨rfl, ⟨nd, rfl⟩⟩; (try first | exact ⟨rfl, _, World.drewN_drewN _ _ _⟩ | exact ⟨rfl, _, Eq.trans (World.drewN_drewN _ _ _) (congrArg (World.drewN _) (Nat.add_assoc _ _ _))⟩); have p283 : 0 ≤ (x5_2 : Int) := of_decide_eq_true (by first | (with_reducible assumption) | assumption); have q283 : x5_2 < (x3_1.length : Int) := of_decide_eq_true (by first | (with_reducible assumption) | assumption); obtain ⟨ad283, e283, hx283_0⟩ := Kd.at_string (Kd.R_reads' HO_3.out).2.2 x5_2 p283 q283; obtain rfl : ad276 = ad283 := (by injection e283); replace p283 := eq_true p283; replace q283 := eq_true q283; have p284 : 0 ≤ (x4_1 : Int) := of_decide_eq_true (by first | (with_reducible assumption) | assumption); have q284 : x4_1 < (l0.length : Int) := of_decide_eq_true (by first | (with_reducible assumption) | assumption); obtain ⟨ad284, e284, hx284_0⟩ := Kd.at_string HR0.out x4_1 p284 q284; obtain rfl : ad277 = ad284 := (by injection e284); replace hx284_0 := (HB.out.cell (World.block_lt_of_cell? w _ hx284_0)).trans hx284_0; replace p284 := eq_true p284; replace q284 := eq_true q284; have p285 : 0 ≤ (x4_1 : Int) := of_decide_eq_true (by first | (with_reducible assumption) | assumption); have q285 : x4_1 < (l0.length : Int) := of_decide_eq_true (by first | (with_reducible assumption) | assumption); obtain ⟨ad285, e285, hx285_0⟩ := Kd.at_string HR0.out x4_1 p285 q285; obtain rfl : ad277 = ad285 := (by injection e285); replace hx285_0 := (HB.out.cell (World.block_lt_of_cell? w _ hx285_0)).trans hx285_0; replace p285 := eq_true p285; replace q285 := eq_true q285))
                          repeat (go_quiet (first | (go_at_call 16; (with_reducible refine (less11.calls (rdOf ByteArray.empty x3_1 x5_2) (rdOf ByteArray.empty l0 x4_1) false _ A7.out).mono ?_); rintro e w' ⟨rfl, ⟨nd, rfl⟩⟩; (try first | exact ⟨rfl, _, World.drewN_drewN _ _ _⟩ | exact ⟨rfl, _, Eq.trans (World.drewN_drewN _ _ _) (congrArg (World.drewN _) (Nat.add_assoc _ _ _))⟩); have p283 : 0 ≤ (x5_2 : Int) := of_decide_eq_true (by first | (with_reducible assumption) | assumption); have q283 : x5_2 < (x3_1.length : Int) := of_decide_eq_true (by first | (with_reducible assumption) | assumption); obtain ⟨ad283, e283, hx283_0⟩ := Kd.at_string (Kd.R_reads' HO_3.out).2.2 x5_2 p283 q283; obtain rfl : ad276 = ad283 := (by injection e283); replace p283 := eq_true p283; replace q283 := eq_true q283; have p284 : 0 ≤ (x4_1 : Int) := of_decide_eq_true (by first | (with_reducible assumption) | assumption); have q284 : x4_1 < (l0.length : Int) := of_decide_eq_true (by first | (with_reducible assumption) | assumption); obtain ⟨ad284, e284, hx284_0⟩ := Kd.at_string HR0.out x4_1 p284 q284; obtain rfl : ad277 = ad284 := (by injection e284); replace hx284_0 := (HB.out.cell (World.block_lt_of_cell? w _ hx284_0)).trans hx284_0; replace p284 := eq_true p284; replace q284 := eq_true q284; have p285 : 0 ≤ (x4_1 : Int) := of_decide_eq_true (by first | (with_reducible assumption) | assumption); have q285 : x4_1 < (l0.length : Int) := of_decide_eq_true (by first | (with_reducible assumption) | assumption); obtain ⟨ad285, e285, hx285_0⟩ := Kd.at_string HR0.out x4_1 p285 q285; obtain rfl : ad277 = ad285 := (by injection e285); replace hx285_0 := (HB.out.cell (World.block_lt_of_cell? w _ hx285_0)).trans hx285_0; replace p285 := eq_true p285; replace q285 := eq_true q285)); try go_wp2)
                          obtain ⟨hk0, hk1, hk2, ht⟩ := ins11_some A16.out
                          obtain ⟨i0, hi0, hi1⟩ := Option.map_eq_some_iff.1 info9
                          have hs1 : i0.size = 1 := by simp only [Prod.mk.injEq] at hi1; exact hi1.2.1
                          have hcp := (Kd.R_reads' HO_3.out).2.1
                          have hcutA := cut_to (P := Try.prog) 22 9 .i64 Try.underlying22 hi0 (some ad276) x3_1.length co17 x5_2 hk0 hk1 hcp
                          have hcutB := cut_from (P := Try.prog) 22 9 .i64 Try.underlying22 hi0 1 hs1 (some ad276) x3_1.length co17 x5_2 hk0 hk1
                          refine (fun (h_ : ∀ W9 : World, W9.cell? (ad277.add x4_1.toNat) = some (.string (rdOf ByteArray.empty l0 x4_1)) → Kd.R Kd.string 9 W9 w.heap.size (fun _ => True) (.slice (some ad276) x3_1.length co17) x3_1 → Below w.heap.size w W9 → Code.wp Try.prog _ _ _ W9) => h_ _ ?c1_q2 ?c2_q2 ?c3_q2) ?cont_q2
                          case c1_q2 => exact hx277_0
                          case c2_q2 => exact (by (with_reducible repeat (first | apply Kd.R_alloc | apply Kd.R_drewN | apply Kd.R_drew)); exact HO_3.out)
                          case c3_q2 => exact (by repeat (first | (with_reducible first | exact HB.out | apply below_alloc | apply pw_below_drewN | apply below_drew1) | exact HB.out))
                          intro W9 hx9 hO9 hB9
                          have hCA : Kd.C Kd.string W9 (some ad276) x5_2.toNat (x3_1.take x5_2.toNat) := by have h_ := Kd.C_take (Kd.R_reads' hO9).2.2 (m := x5_2.toNat) (by omega); rwa [List.length_take, Nat.min_eq_left (by omega)] at h_
                          have hCB : Kd.C Kd.string W9 (if co17 = x5_2.toNat then (some ad276) else ((some ad276) : Option Addr).map (·.add (x5_2.toNat * 1))) (x3_1.length - x5_2.toNat) (x3_1.drop x5_2.toNat) := by have h_ := Kd.C_drop (Kd.R_reads' hO9).2.2 (m := x5_2.toNat) (c := co17) (by omega) hcp; rwa [List.length_drop] at h_
                          obtain ⟨AB, hAB⟩ : ∃ z : Option Addr, z = (if co17 = x5_2.toNat then (some ad276) else ((some ad276) : Option Addr).map (·.add (x5_2.toNat * 1))) := ⟨_, rfl⟩
                          rw [← hAB] at hcutB hCB
                          clear hAB
                          have hlt9 := World.block_lt_of_cell? W9 _ hx9
                          have CA := Aside0.mk hCA
                          have CB := Aside0.mk hCB
                          have B9 := Aside0.mk hB9
                          have LT := Aside0.mk hlt9
                          have TT := Aside0.mk ht
                          have KK := Aside0.mk (And.intro hk0 (And.intro hk1 hk2))
                          have HB9 : Aside0 (Below W9.heap.size W9 W9.drew) := ⟨by repeat (first | exact Below.refl _ _ | apply below_drew1)⟩
                          clear hCA hCB hO9 hB9 hlt9 ht hk0 hk1 hk2 hcp
                          refine wp_region_held_drew (S := (fun wz => wz.cell? (ad277.add x4_1.toNat) = some (.string (rdOf ByteArray.empty l0 x4_1)))) (by kernel_rfl) (by (try dsimp only); exact hx9) (fun hHeld => ?_)
                          refine wpAnyH_take (i := 1) (oi := ({ dst := some 45, op := Go.Op.move (Go.Operand.tmp 3), type := 22, pos := "ref.go:29", after := #[], guard := none } : Oper)) (v := ?_) rfl (by kernel_rfl) (by kernel_rfl) (by kernel_rfl) (fun _ _ _ h => h) (Or.inl ⟨by rfl, ?_⟩) (by assumption) ?_
                          rotate_left
                          · ((intro w hSw; (try dsimp only at hSw); go_simp) <;> with_reducible rfl)
                          try simp only [Act.put, List.setIfInBounds_toArray, List.set_cons_zero, List.set_cons_succ]
                          refine wpAnyH_take (i := 2) (oi := ({ dst := some 46, op := Go.Op.move (Go.Operand.tmp 5), type := 3, pos := "ref.go:29", after := #[], guard := none } : Oper)) (v := ?_) rfl (by kernel_rfl) (by kernel_rfl) (by kernel_rfl) (fun _ _ _ h => h) (Or.inl ⟨by rfl, ?_⟩) (by assumption) ?_
                          rotate_left
                          · ((intro w hSw; (try dsimp only at hSw); go_simp) <;> with_reducible rfl)
                          try simp only [Act.put, List.setIfInBounds_toArray, List.set_cons_zero, List.set_cons_succ]
                          refine wpAnyH_take (i := 3) (oi := ({ dst := some 47, op := Go.Op.slice 22 (Go.Operand.tmp 45) none (some (Go.Operand.tmp 46)) none, type := 22, pos := "ref.go:29", after := #[{ on := 1, ground := Go.Ground.data }, { on := 2, ground := Go.Ground.data }], guard := none } : Oper)) (v := ?_) rfl (by kernel_rfl) (by kernel_rfl) (by kernel_rfl) (fun _ _ _ h => h) (Or.inl ⟨by rfl, ?_⟩) (by assumption) ?_
                          rotate_left
                          · ((intro w hSw; (try dsimp only at hSw); go_simp) <;> with_reducible rfl)
                          try simp only [Act.put, List.setIfInBounds_toArray, List.set_cons_zero, List.set_cons_succ]
                          refine wpAnyH_take (i := 5) (oi := ({ dst := some 49, op := Go.Op.move (Go.Operand.tmp 0), type := 22, pos := "ref.go:29", after := #[], guard := none } : Oper)) (v := ?_) rfl (by kernel_rfl) (by kernel_rfl) (by kernel_rfl) (fun _ _ _ h => h) (Or.inl ⟨by rfl, ?_⟩) (by assumption) ?_
                          rotate_left
                          · ((intro w hSw; (try dsimp only at hSw); go_simp) <;> with_reducible rfl)
                          try simp only [Act.put, List.setIfInBounds_toArray, List.set_cons_zero, List.set_cons_succ]
                          refine wpAnyH_take (i := 6) (oi := ({ dst := some 50, op := Go.Op.move (Go.Operand.tmp 4), type := 3, pos := "ref.go:29", after := #[], guard := none } : Oper)) (v := ?_) rfl (by kernel_rfl) (by kernel_rfl) (by kernel_rfl) (fun _ _ _ h => h) (Or.inl ⟨by rfl, ?_⟩) (by assumption) ?_
                          rotate_left
                          · ((intro w hSw; (try dsimp only at hSw); go_simp) <;> with_reducible rfl)
                          try simp only [Act.put, List.setIfInBounds_toArray, List.set_cons_zero, List.set_cons_succ]
                          refine wpAnyH_take (i := 7) (oi := ({ dst := some 51, op := Go.Op.indexAddr 22 (Go.Operand.tmp 49) (Go.Operand.tmp 50), type := 0, pos := "ref.go:29", after := #[{ on := 5, ground := Go.Ground.data }, { on := 6, ground := Go.Ground.data }], guard := none } : Oper)) (v := ?_) rfl (by kernel_rfl) (by kernel_rfl) (by kernel_rfl) (fun _ _ _ h => h) (Or.inl ⟨by rfl, ?_⟩) (by assumption) ?_
                          rotate_left
                          · ((intro w hSw; (try dsimp only at hSw); go_simp) <;> with_reducible rfl)
                          try simp only [Act.put, List.setIfInBounds_toArray, List.set_cons_zero, List.set_cons_succ]
                          refine wpAnyH_take (i := 8) (oi := ({ dst := some 52, op := Go.Op.load 9 (Go.Operand.tmp 51), type := 9, pos := "ref.go:29", after := #[{ on := 7, ground := Go.Ground.data }], guard := none } : Oper)) (v := ?_) rfl (by kernel_rfl) (by kernel_rfl) (by kernel_rfl) (fun _ _ _ h => h) (Or.inl ⟨by rfl, ?_⟩) (by assumption) ?_
                          rotate_left
                          · ((intro w hSw; (try dsimp only at hSw); go_simp) <;> with_reducible rfl)
                          try simp only [Act.put, List.setIfInBounds_toArray, List.set_cons_zero, List.set_cons_succ]
                          refine wpAnyH_take (i := 11) (oi := ({ dst := some 55, op := Go.Op.move (Go.Operand.tmp 3), type := 22, pos := "ref.go:29", after := #[], guard := none } : Oper)) (v := ?_) rfl (by kernel_rfl) (by kernel_rfl) (by kernel_rfl) (fun _ _ _ h => h) (Or.inl ⟨by rfl, ?_⟩) (by assumption) ?_
                          rotate_left
                          · ((intro w hSw; (try dsimp only at hSw); go_simp) <;> with_reducible rfl)
                          try simp only [Act.put, List.setIfInBounds_toArray, List.set_cons_zero, List.set_cons_succ]
                          refine wpAnyH_take (i := 12) (oi := ({ dst := some 56, op := Go.Op.move (Go.Operand.tmp 5), type := 3, pos := "ref.go:29", after := #[], guard := none } : Oper)) (v := ?_) rfl (by kernel_rfl) (by kernel_rfl) (by kernel_rfl) (fun _ _ _ h => h) (Or.inl ⟨by rfl, ?_⟩) (by assumption) ?_
                          rotate_left
                          · ((intro w hSw; (try dsimp only at hSw); go_simp) <;> with_reducible rfl)
                          try simp only [Act.put, List.setIfInBounds_toArray, List.set_cons_zero, List.set_cons_succ]
                          refine wpAnyH_take (i := 13) (oi := ({ dst := some 57, op := Go.Op.slice 22 (Go.Operand.tmp 55) (some (Go.Operand.tmp 56)) none none, type := 22, pos := "ref.go:29", after := #[{ on := 11, ground := Go.Ground.data }, { on := 12, ground := Go.Ground.data }], guard := none } : Oper)) (v := ?_) rfl (by kernel_rfl) (by kernel_rfl) (by kernel_rfl) (fun _ _ _ h => h) (Or.inl ⟨by rfl, ?_⟩) (by assumption) ?_
                          rotate_left
                          · ((intro w hSw; (try dsimp only at hSw); go_simp) <;> with_reducible rfl)
                          try simp only [Act.put, List.setIfInBounds_toArray, List.set_cons_zero, List.set_cons_succ]
                          refine wpAnyH_ready (rs := [0, 9]) (by kernel_rfl) (by simp) (AllReadyH.cons (o := ({ dst := some 44, op := Go.Op.buildSlice 22 0 #[], type := 22, pos := "ref.go:29", after := #[], guard := none } : Oper)) rfl (fun K hK => ?e0_0q2) (AllReadyH.cons (o := ({ dst := some 53, op := Go.Op.buildSlice 22 1 #[(0, Go.Operand.tmp 52)], type := 22, pos := "ref.go:29", after := #[{ on := 8, ground := Go.Ground.data }], guard := none } : Oper)) rfl (fun K hK => ?e0_9q2) AllReadyH.nil))
                          case e0_0q2 =>
                            (refine Kd.R_lit_step Kd.string (w0 := W9) W9.heap.size 9 ?hg (N := 44) ?hdq2 (xs := ([] : List ByteArray)) (inner := []) (ok := fun _ => True) (okp := fun _ => False) ?hrq2 ?hpq2 (fun _ h => h.elim) trivial HB9.out HB9.out.size (by simp) ?_; (case hdq2 => rfl); (case hg => rfl); (case hrq2 => first | (go_simp; done) | (go_simp; rfl)); (case hpq2 => exact (Reps.none _ _)); intro vy w44 hy hb hg_ hn_; have HY := Aside0.mk hy; have HB9' := Aside0.mk hb; clear hn_; clear hy hb HB9; have HB9 := HB9'; clear HB9' hg_)
                            refine hK.out _ _ (by (try dsimp only); exact (HB9.out.cell LT.out).trans hx9) (fun hHeld2 => ?_)
                            clear hK K hHeld
                            have hHeld := hHeld2
                            clear hHeld2
                            try simp only [Act.put, List.setIfInBounds_toArray, List.set_cons_zero, List.set_cons_succ]
                            refine wpAnyH_ready (rs := [4, 9]) (by kernel_rfl) (by simp) (AllReadyH.cons (o := ({ dst := some 48, op := Go.Op.call { callee := Go.Callee.builtin Go.Builtin.append, args := #[Go.Operand.tmp 44, Go.Operand.tmp 47], argTypes := #[22, 22] }, type := 22, pos := "ref.go:29", after := #[{ on := 0, ground := Go.Ground.data }, { on := 3, ground := Go.Ground.data }], guard := none } : Oper)) rfl (fun K hK => ?e1_4q2) (AllReadyH.cons (o := ({ dst := some 53, op := Go.Op.buildSlice 22 1 #[(0, Go.Operand.tmp 52)], type := 22, pos := "ref.go:29", after := #[{ on := 8, ground := Go.Ground.data }], guard := none } : Oper)) rfl (fun K hK => ?e1_9q2) AllReadyH.nil))
                            case e1_4q2 =>
                              (refine Kd.R_append_rows_step Kd.string (w0 := W9) W9.heap.size ?hwq2 (.tmp 44) (.tmp 47) 22 9 (.string ⟨#[]⟩) 16 rfl Try.underlying22 info9 rfl (by decide) (by omega) vy ([] : List ByteArray) (x3_1.take x5_2.toNat) (some ad276) x5_2.toNat co17 (fun _ => True) (fun _ => False) ?hsq2 ?hxq2 ?aOq2 ?aRq2 (fun _ _ h => h) (fun _ h => h.elim) ?aFq2 ?aBq2 ?aSq2 ?aLq2 ?_; (case hwq2 => rfl); (case hsq2 => rfl); (case hxq2 => rfl); (case aRq2 => exact (Kd.C_below CA.out HB9.out)); (case aBq2 => exact HB9.out); (case aFq2 => exact (fun _ _ => trivial)); (case aOq2 => exact HY.out); (case aSq2 => exact HB9.out.size); (case aLq2 => have h_ := KK.out; simp only [List.length_take, List.length_append, List.length_cons, List.length_nil]; omega); intro vy4 wz_ hz_ hb hg_ hn_; rw [List.nil_append] at hz_; have HY' := Aside0.mk hz_; have HB9' := Aside0.mk hb; clear hz_ hb HB9 HY; have HB9 := HB9'; have HY := HY'; clear HB9' HY' hg_ hn_)
                              refine hK.out _ _ (by (try dsimp only); exact (HB9.out.cell LT.out).trans hx9) (fun hHeld2 => ?_)
                              clear hK K hHeld
                              have hHeld := hHeld2
                              clear hHeld2
                              try simp only [Act.put, List.setIfInBounds_toArray, List.set_cons_zero, List.set_cons_succ]
                              refine wpAnyH_ready (rs := [9]) (by kernel_rfl) (by simp) (AllReadyH.cons (o := ({ dst := some 53, op := Go.Op.buildSlice 22 1 #[(0, Go.Operand.tmp 52)], type := 22, pos := "ref.go:29", after := #[{ on := 8, ground := Go.Ground.data }], guard := none } : Oper)) rfl (fun K hK => ?e2_9q2) AllReadyH.nil)
                              case e2_9q2 =>
                                (refine Kd.R_lit_step Kd.string (w0 := W9) W9.heap.size 9 ?hg (N := 53) ?hdq2 (xs := [(rdOf ByteArray.empty l0 x4_1)]) (inner := [.string (rdOf ByteArray.empty l0 x4_1)]) (ok := fun k_ => some k_ ≠ vy4.ownBlock) (okp := fun _ => False) ?hrq2 ?hpq2 (fun _ h => h.elim) (Kd.R_ne_new HY.out 0) HB9.out HB9.out.size (by simp) ?_; (case hdq2 => rfl); (case hg => rfl); (case hrq2 => first | (go_simp; done) | (go_simp; rfl)); (case hpq2 => exact (Reps.one (show Kd.M Kd.string _ _ _ (rdOf ByteArray.empty l0 x4_1) [.string (rdOf ByteArray.empty l0 x4_1)] from rfl) (Reps.none _ _))); intro vx w53 hx_ hb hg_ hn_; obtain ⟨Ax, cx, rfl⟩ := Kd.R_slice hx_; have HX := Aside0.mk hx_; have HB9' := Aside0.mk hb; have HY' := Aside0.mk (Kd.R_grown HY.out hg_ (fun _ _ h => by cases h)); clear HY; have HY := HY'; clear HY'; clear hx_ hb HB9; have HB9 := HB9'; clear HB9' hg_ hn_)
                                refine hK.out _ _ (by (try dsimp only); exact (HB9.out.cell LT.out).trans hx9) (fun hHeld2 => ?_)
                                clear hK K hHeld
                                have hHeld := hHeld2
                                clear hHeld2
                                try simp only [Act.put, List.setIfInBounds_toArray, List.set_cons_zero, List.set_cons_succ]
                                refine wpAnyH_ready (rs := [10]) (by kernel_rfl) (by simp) (AllReadyH.cons (o := ({ dst := some 54, op := Go.Op.call { callee := Go.Callee.builtin Go.Builtin.append, args := #[Go.Operand.tmp 48, Go.Operand.tmp 53], argTypes := #[22, 22] }, type := 22, pos := "ref.go:29", after := #[{ on := 4, ground := Go.Ground.data }, { on := 9, ground := Go.Ground.data }, { on := 4, ground := Go.Ground.chain }], guard := none } : Oper)) rfl (fun K hK => ?e3_10q2) AllReadyH.nil)
                                case e3_10q2 =>
                                  (refine Kd.R_append_rows_step Kd.string (w0 := W9) W9.heap.size ?hwq2 (.tmp 48) (.tmp 53) 22 9 (.string ⟨#[]⟩) 16 rfl Try.underlying22 info9 rfl (by decide) (by omega) vy4 (x3_1.take x5_2.toNat) [(rdOf ByteArray.empty l0 x4_1)] Ax ([(rdOf ByteArray.empty l0 x4_1)] : List ByteArray).length cx (fun _ => True) (fun _ => False) ?hsq2 ?hxq2 ?aOq2 ?aRq2 (fun _ _ h => h) (fun _ h => h.elim) ?aFq2 ?aBq2 ?aSq2 ?aLq2 ?_; (case hwq2 => rfl); (case hsq2 => rfl); (case hxq2 => rfl); (case aRq2 => exact (Kd.R_reads' HX.out).2.2); (case aBq2 => exact HB9.out); (case aFq2 => exact (fun _ _ => trivial)); (case aOq2 => exact HY.out); (case aSq2 => exact HB9.out.size); (case aLq2 => have h_ := KK.out; simp only [List.length_take, List.length_append, List.length_cons, List.length_nil]; omega); intro vy10 wz_ hz_ hb hg_ hn_; have HY' := Aside0.mk hz_; have HB9' := Aside0.mk hb; clear hz_ hb HB9 HY; have HB9 := HB9'; have HY := HY'; clear HB9' HY' hg_ hn_)
                                  refine hK.out _ _ (by (try dsimp only); exact (HB9.out.cell LT.out).trans hx9) (fun hHeld2 => ?_)
                                  clear hK K hHeld
                                  have hHeld := hHeld2
                                  clear hHeld2
                                  try simp only [Act.put, List.setIfInBounds_toArray, List.set_cons_zero, List.set_cons_succ]
                                  refine wpAnyH_ready (rs := [14]) (by kernel_rfl) (by simp) (AllReadyH.cons (o := ({ dst := some 58, op := Go.Op.call { callee := Go.Callee.builtin Go.Builtin.append, args := #[Go.Operand.tmp 54, Go.Operand.tmp 57], argTypes := #[22, 22] }, type := 22, pos := "ref.go:29", after := #[{ on := 10, ground := Go.Ground.data }, { on := 13, ground := Go.Ground.data }, { on := 10, ground := Go.Ground.chain }], guard := none } : Oper)) rfl (fun K hK => ?e4_14q2) AllReadyH.nil)
                                  case e4_14q2 =>
                                    (refine Kd.R_append_rows_step Kd.string (w0 := W9) W9.heap.size ?hwq2 (.tmp 54) (.tmp 57) 22 9 (.string ⟨#[]⟩) 16 rfl Try.underlying22 info9 rfl (by decide) (by omega) vy10 ((x3_1.take x5_2.toNat) ++ [(rdOf ByteArray.empty l0 x4_1)]) (x3_1.drop x5_2.toNat) AB (x3_1.length - x5_2.toNat) (co17 - x5_2.toNat) (fun _ => True) (fun _ => False) ?hsq2 ?hxq2 ?aOq2 ?aRq2 (fun _ _ h => h) (fun _ h => h.elim) ?aFq2 ?aBq2 ?aSq2 ?aLq2 ?_; (case hwq2 => rfl); (case hsq2 => rfl); (case hxq2 => rfl); (case aRq2 => exact (Kd.C_below CB.out HB9.out)); (case aBq2 => exact HB9.out); (case aFq2 => exact (fun _ _ => trivial)); (case aOq2 => exact HY.out); (case aSq2 => exact HB9.out.size); (case aLq2 => have h_ := KK.out; simp only [List.length_take, List.length_append, List.length_cons, List.length_nil]; omega); intro vy14 wz_ hz_ hb hg_ hn_; have HY' := Aside0.mk hz_; have HB9' := Aside0.mk hb; clear hz_ hb HB9 HY; have HB9 := HB9'; have HY := HY'; clear HB9' HY' hg_ hn_)
                                    refine hK.out _ _ (by (try dsimp only); exact (HB9.out.cell LT.out).trans hx9) (fun hHeld2 => ?_)
                                    clear hK K hHeld
                                    have hHeld := hHeld2
                                    clear hHeld2
                                    try simp only [Act.put, List.setIfInBounds_toArray, List.set_cons_zero, List.set_cons_succ]
                                    refine wpAnyH_take (i := 15) (oi := ({ dst := some 3, op := Go.Op.assign (Go.Operand.tmp 58), type := 22, pos := "ref.go:29", after := #[{ on := 14, ground := Go.Ground.data }, { on := 14, ground := Go.Ground.chain }, { on := 0, ground := Go.Ground.phase }, { on := 1, ground := Go.Ground.phase }, { on := 2, ground := Go.Ground.phase }, { on := 3, ground := Go.Ground.phase }, { on := 4, ground := Go.Ground.phase }, { on := 5, ground := Go.Ground.phase }, { on := 6, ground := Go.Ground.phase }, { on := 7, ground := Go.Ground.phase }, { on := 8, ground := Go.Ground.phase }, { on := 9, ground := Go.Ground.phase }, { on := 10, ground := Go.Ground.phase }, { on := 11, ground := Go.Ground.phase }, { on := 12, ground := Go.Ground.phase }, { on := 13, ground := Go.Ground.phase }, { on := 14, ground := Go.Ground.phase }], guard := none } : Oper)) (v := ?_) rfl (by kernel_rfl) (by kernel_rfl) (by kernel_rfl) (fun _ _ _ h => h) (Or.inl ⟨by rfl, ?_⟩) (by assumption) ?_
                                    rotate_left
                                    · ((intro w hSw; (try dsimp only at hSw); go_simp) <;> with_reducible rfl)
                                    try simp only [Act.put, List.setIfInBounds_toArray, List.set_cons_zero, List.set_cons_succ]
                                    refine wpAnyH_done (by kernel_rfl) ?_ _
                                    have HO288 := Aside0.mk (by have h_ := Kd.R_lower HY.out B9.out.size; rw [← TT.out] at h_; exact h_)
                                    have HB := Aside0.mk (below_step B9.out HB9.out)
                                    go_wp2
                                    go_roundg k2
                                    case measure => have := HK1.out; have := HK2.out; omega
                                    case rel => exact ⟨(t286), (wrap64 (x4_1 + 1)), (by first | rfl | (simp; done) | (simp [*]; done)), H', ⟨by have := HK1.out; have := HK2.out; omega⟩, ⟨by (with_reducible repeat (first | apply Kd.R_alloc | apply Kd.R_drewN | apply Kd.R_drew)); exact Kd.R_mono HO288.out (fun _ hk => trivial)⟩, ⟨by repeat (first | (with_reducible first | exact HB.out | apply below_alloc | apply pw_below_drewN | apply below_drew1) | exact HB.out)⟩⟩
                            case e1_9q2 =>
                              (refine Kd.R_lit_step Kd.string (w0 := W9) W9.heap.size 9 ?hg (N := 53) ?hdq2 (xs := [(rdOf ByteArray.empty l0 x4_1)]) (inner := [.string (rdOf ByteArray.empty l0 x4_1)]) (ok := fun k_ => some k_ ≠ vy.ownBlock) (okp := fun _ => False) ?hrq2 ?hpq2 (fun _ h => h.elim) (Kd.R_ne_new HY.out 0) HB9.out HB9.out.size (by simp) ?_; (case hdq2 => rfl); (case hg => rfl); (case hrq2 => first | (go_simp; done) | (go_simp; rfl)); (case hpq2 => exact (Reps.one (show Kd.M Kd.string _ _ _ (rdOf ByteArray.empty l0 x4_1) [.string (rdOf ByteArray.empty l0 x4_1)] from rfl) (Reps.none _ _))); intro vx w53 hx_ hb hg_ hn_; obtain ⟨Ax, cx, rfl⟩ := Kd.R_slice hx_; have HX := Aside0.mk hx_; have HB9' := Aside0.mk hb; have HY' := Aside0.mk (Kd.R_grown HY.out hg_ (fun _ _ h => by cases h)); clear HY; have HY := HY'; clear HY'; clear hx_ hb HB9; have HB9 := HB9'; clear HB9' hg_ hn_)
                              refine hK.out _ _ (by (try dsimp only); exact (HB9.out.cell LT.out).trans hx9) (fun hHeld2 => ?_)
                              clear hK K hHeld
                              have hHeld := hHeld2
                              clear hHeld2
                              try simp only [Act.put, List.setIfInBounds_toArray, List.set_cons_zero, List.set_cons_succ]
                              refine wpAnyH_ready (rs := [4]) (by kernel_rfl) (by simp) (AllReadyH.cons (o := ({ dst := some 48, op := Go.Op.call { callee := Go.Callee.builtin Go.Builtin.append, args := #[Go.Operand.tmp 44, Go.Operand.tmp 47], argTypes := #[22, 22] }, type := 22, pos := "ref.go:29", after := #[{ on := 0, ground := Go.Ground.data }, { on := 3, ground := Go.Ground.data }], guard := none } : Oper)) rfl (fun K hK => ?e2_4q2) AllReadyH.nil)
                              case e2_4q2 =>
                                (refine Kd.R_append_rows_step Kd.string (w0 := W9) W9.heap.size ?hwq2 (.tmp 44) (.tmp 47) 22 9 (.string ⟨#[]⟩) 16 rfl Try.underlying22 info9 rfl (by decide) (by omega) vy ([] : List ByteArray) (x3_1.take x5_2.toNat) (some ad276) x5_2.toNat co17 (fun _ => True) (fun _ => False) ?hsq2 ?hxq2 ?aOq2 ?aRq2 (fun _ _ h => h) (fun _ h => h.elim) ?aFq2 ?aBq2 ?aSq2 ?aLq2 ?_; (case hwq2 => rfl); (case hsq2 => rfl); (case hxq2 => rfl); (case aRq2 => exact (Kd.C_below CA.out HB9.out)); (case aBq2 => exact HB9.out); (case aFq2 => exact (fun _ _ => trivial)); (case aOq2 => exact HY.out); (case aSq2 => exact HB9.out.size); (case aLq2 => have h_ := KK.out; simp only [List.length_take, List.length_append, List.length_cons, List.length_nil]; omega); intro vy4 wz_ hz_ hb hg_ hn_; rw [List.nil_append] at hz_; have HX' := Aside0.mk (Kd.R_grown HX.out hg_ (fun _ hk => hk)); clear HX; have HX := HX'; clear HX'; have HY' := Aside0.mk hz_; have HB9' := Aside0.mk hb; clear hz_ hb HB9 HY; have HB9 := HB9'; have HY := HY'; clear HB9' HY' hg_ hn_)
                                refine hK.out _ _ (by (try dsimp only); exact (HB9.out.cell LT.out).trans hx9) (fun hHeld2 => ?_)
                                clear hK K hHeld
                                have hHeld := hHeld2
                                clear hHeld2
                                try simp only [Act.put, List.setIfInBounds_toArray, List.set_cons_zero, List.set_cons_succ]
                                refine wpAnyH_ready (rs := [10]) (by kernel_rfl) (by simp) (AllReadyH.cons (o := ({ dst := some 54, op := Go.Op.call { callee := Go.Callee.builtin Go.Builtin.append, args := #[Go.Operand.tmp 48, Go.Operand.tmp 53], argTypes := #[22, 22] }, type := 22, pos := "ref.go:29", after := #[{ on := 4, ground := Go.Ground.data }, { on := 9, ground := Go.Ground.data }, { on := 4, ground := Go.Ground.chain }], guard := none } : Oper)) rfl (fun K hK => ?e3_10q2) AllReadyH.nil)
                                case e3_10q2 =>
                                  (refine Kd.R_append_rows_step Kd.string (w0 := W9) W9.heap.size ?hwq2 (.tmp 48) (.tmp 53) 22 9 (.string ⟨#[]⟩) 16 rfl Try.underlying22 info9 rfl (by decide) (by omega) vy4 (x3_1.take x5_2.toNat) [(rdOf ByteArray.empty l0 x4_1)] Ax ([(rdOf ByteArray.empty l0 x4_1)] : List ByteArray).length cx (fun _ => True) (fun _ => False) ?hsq2 ?hxq2 ?aOq2 ?aRq2 (fun _ _ h => h) (fun _ h => h.elim) ?aFq2 ?aBq2 ?aSq2 ?aLq2 ?_; (case hwq2 => rfl); (case hsq2 => rfl); (case hxq2 => rfl); (case aRq2 => exact (Kd.R_reads' HX.out).2.2); (case aBq2 => exact HB9.out); (case aFq2 => exact (fun _ _ => trivial)); (case aOq2 => exact HY.out); (case aSq2 => exact HB9.out.size); (case aLq2 => have h_ := KK.out; simp only [List.length_take, List.length_append, List.length_cons, List.length_nil]; omega); intro vy10 wz_ hz_ hb hg_ hn_; have HY' := Aside0.mk hz_; have HB9' := Aside0.mk hb; clear hz_ hb HB9 HY; have HB9 := HB9'; have HY := HY'; clear HB9' HY' hg_ hn_)
                                  refine hK.out _ _ (by (try dsimp only); exact (HB9.out.cell LT.out).trans hx9) (fun hHeld2 => ?_)
                                  clear hK K hHeld
                                  have hHeld := hHeld2
                                  clear hHeld2
                                  try simp only [Act.put, List.setIfInBounds_toArray, List.set_cons_zero, List.set_cons_succ]
                                  refine wpAnyH_ready (rs := [14]) (by kernel_rfl) (by simp) (AllReadyH.cons (o := ({ dst := some 58, op := Go.Op.call { callee := Go.Callee.builtin Go.Builtin.append, args := #[Go.Operand.tmp 54, Go.Operand.tmp 57], argTypes := #[22, 22] }, type := 22, pos := "ref.go:29", after := #[{ on := 10, ground := Go.Ground.data }, { on := 13, ground := Go.Ground.data }, { on := 10, ground := Go.Ground.chain }], guard := none } : Oper)) rfl (fun K hK => ?e4_14q2) AllReadyH.nil)
                                  case e4_14q2 =>
                                    (refine Kd.R_append_rows_step Kd.string (w0 := W9) W9.heap.size ?hwq2 (.tmp 54) (.tmp 57) 22 9 (.string ⟨#[]⟩) 16 rfl Try.underlying22 info9 rfl (by decide) (by omega) vy10 ((x3_1.take x5_2.toNat) ++ [(rdOf ByteArray.empty l0 x4_1)]) (x3_1.drop x5_2.toNat) AB (x3_1.length - x5_2.toNat) (co17 - x5_2.toNat) (fun _ => True) (fun _ => False) ?hsq2 ?hxq2 ?aOq2 ?aRq2 (fun _ _ h => h) (fun _ h => h.elim) ?aFq2 ?aBq2 ?aSq2 ?aLq2 ?_; (case hwq2 => rfl); (case hsq2 => rfl); (case hxq2 => rfl); (case aRq2 => exact (Kd.C_below CB.out HB9.out)); (case aBq2 => exact HB9.out); (case aFq2 => exact (fun _ _ => trivial)); (case aOq2 => exact HY.out); (case aSq2 => exact HB9.out.size); (case aLq2 => have h_ := KK.out; simp only [List.length_take, List.length_append, List.length_cons, List.length_nil]; omega); intro vy14 wz_ hz_ hb hg_ hn_; have HY' := Aside0.mk hz_; have HB9' := Aside0.mk hb; clear hz_ hb HB9 HY; have HB9 := HB9'; have HY := HY'; clear HB9' HY' hg_ hn_)
                                    refine hK.out _ _ (by (try dsimp only); exact (HB9.out.cell LT.out).trans hx9) (fun hHeld2 => ?_)
                                    clear hK K hHeld
                                    have hHeld := hHeld2
                                    clear hHeld2
                                    try simp only [Act.put, List.setIfInBounds_toArray, List.set_cons_zero, List.set_cons_succ]
                                    refine wpAnyH_take (i := 15) (oi := ({ dst := some 3, op := Go.Op.assign (Go.Operand.tmp 58), type := 22, pos := "ref.go:29", after := #[{ on := 14, ground := Go.Ground.data }, { on := 14, ground := Go.Ground.chain }, { on := 0, ground := Go.Ground.phase }, { on := 1, ground := Go.Ground.phase }, { on := 2, ground := Go.Ground.phase }, { on := 3, ground := Go.Ground.phase }, { on := 4, ground := Go.Ground.phase }, { on := 5, ground := Go.Ground.phase }, { on := 6, ground := Go.Ground.phase }, { on := 7, ground := Go.Ground.phase }, { on := 8, ground := Go.Ground.phase }, { on := 9, ground := Go.Ground.phase }, { on := 10, ground := Go.Ground.phase }, { on := 11, ground := Go.Ground.phase }, { on := 12, ground := Go.Ground.phase }, { on := 13, ground := Go.Ground.phase }, { on := 14, ground := Go.Ground.phase }], guard := none } : Oper)) (v := ?_) rfl (by kernel_rfl) (by kernel_rfl) (by kernel_rfl) (fun _ _ _ h => h) (Or.inl ⟨by rfl, ?_⟩) (by assumption) ?_
                                    rotate_left
                                    · ((intro w hSw; (try dsimp only at hSw); go_simp) <;> with_reducible rfl)
                                    try simp only [Act.put, List.setIfInBounds_toArray, List.set_cons_zero, List.set_cons_succ]
                                    refine wpAnyH_done (by kernel_rfl) ?_ _
                                    have HO288 := Aside0.mk (by have h_ := Kd.R_lower HY.out B9.out.size; rw [← TT.out] at h_; exact h_)
                                    have HB := Aside0.mk (below_step B9.out HB9.out)
                                    go_wp2
                                    go_roundg k2
                                    case measure => have := HK1.out; have := HK2.out; omega
                                    case rel => exact ⟨(t286), (wrap64 (x4_1 + 1)), (by first | rfl | (simp; done) | (simp [*]; done)), H', ⟨by have := HK1.out; have := HK2.out; omega⟩, ⟨by (with_reducible repeat (first | apply Kd.R_alloc | apply Kd.R_drewN | apply Kd.R_drew)); exact Kd.R_mono HO288.out (fun _ hk => trivial)⟩, ⟨by repeat (first | (with_reducible first | exact HB.out | apply below_alloc | apply pw_below_drewN | apply below_drew1) | exact HB.out)⟩⟩
                          case e0_9q2 =>
                            (refine Kd.R_lit_step Kd.string (w0 := W9) W9.heap.size 9 ?hg (N := 53) ?hdq2 (xs := [(rdOf ByteArray.empty l0 x4_1)]) (inner := [.string (rdOf ByteArray.empty l0 x4_1)]) (ok := fun _ => True) (okp := fun _ => False) ?hrq2 ?hpq2 (fun _ h => h.elim) trivial HB9.out HB9.out.size (by simp) ?_; (case hdq2 => rfl); (case hg => rfl); (case hrq2 => first | (go_simp; done) | (go_simp; rfl)); (case hpq2 => exact (Reps.one (show Kd.M Kd.string _ _ _ (rdOf ByteArray.empty l0 x4_1) [.string (rdOf ByteArray.empty l0 x4_1)] from rfl) (Reps.none _ _))); intro vx w53 hx_ hb hg_ hn_; obtain ⟨Ax, cx, rfl⟩ := Kd.R_slice hx_; have HX := Aside0.mk hx_; have HB9' := Aside0.mk hb; clear hx_ hb HB9; have HB9 := HB9'; clear HB9' hg_ hn_)
                            refine hK.out _ _ (by (try dsimp only); exact (HB9.out.cell LT.out).trans hx9) (fun hHeld2 => ?_)
                            clear hK K hHeld
                            have hHeld := hHeld2
                            clear hHeld2
                            try simp only [Act.put, List.setIfInBounds_toArray, List.set_cons_zero, List.set_cons_succ]
                            refine wpAnyH_ready (rs := [0]) (by kernel_rfl) (by simp) (AllReadyH.cons (o := ({ dst := some 44, op := Go.Op.buildSlice 22 0 #[], type := 22, pos := "ref.go:29", after := #[], guard := none } : Oper)) rfl (fun K hK => ?e1_0q2) AllReadyH.nil)
                            case e1_0q2 =>
                              (refine Kd.R_lit_step Kd.string (w0 := W9) W9.heap.size 9 ?hg (N := 44) ?hdq2 (xs := ([] : List ByteArray)) (inner := []) (ok := fun _ => True) (okp := fun _ => False) ?hrq2 ?hpq2 (fun _ h => h.elim) trivial HB9.out HB9.out.size (by simp) ?_; (case hdq2 => rfl); (case hg => rfl); (case hrq2 => first | (go_simp; done) | (go_simp; rfl)); (case hpq2 => exact (Reps.none _ _)); intro vy w44 hy hb hg_ hn_; have HY := Aside0.mk hy; have HB9' := Aside0.mk hb; obtain ⟨by_, hby, hbl⟩ := hn_; have HX' := Aside0.mk (Kd.R_mono (Kd.R_grown (Kd.R_bound HX.out) hg_ (fun _ _ h => by cases h)) (ok' := fun k_ => some k_ ≠ vy.ownBlock) (fun k_ hk => by have h1_ := hk.2.2.1; intro he; rw [hby] at he; have h2_ := Option.some.inj he; omega)); clear HX; have HX := HX'; clear HX' hby hbl; clear hy hb HB9; have HB9 := HB9'; clear HB9' hg_)
                              refine hK.out _ _ (by (try dsimp only); exact (HB9.out.cell LT.out).trans hx9) (fun hHeld2 => ?_)
                              clear hK K hHeld
                              have hHeld := hHeld2
                              clear hHeld2
                              try simp only [Act.put, List.setIfInBounds_toArray, List.set_cons_zero, List.set_cons_succ]
                              refine wpAnyH_ready (rs := [4]) (by kernel_rfl) (by simp) (AllReadyH.cons (o := ({ dst := some 48, op := Go.Op.call { callee := Go.Callee.builtin Go.Builtin.append, args := #[Go.Operand.tmp 44, Go.Operand.tmp 47], argTypes := #[22, 22] }, type := 22, pos := "ref.go:29", after := #[{ on := 0, ground := Go.Ground.data }, { on := 3, ground := Go.Ground.data }], guard := none } : Oper)) rfl (fun K hK => ?e2_4q2) AllReadyH.nil)
                              case e2_4q2 =>
                                (refine Kd.R_append_rows_step Kd.string (w0 := W9) W9.heap.size ?hwq2 (.tmp 44) (.tmp 47) 22 9 (.string ⟨#[]⟩) 16 rfl Try.underlying22 info9 rfl (by decide) (by omega) vy ([] : List ByteArray) (x3_1.take x5_2.toNat) (some ad276) x5_2.toNat co17 (fun _ => True) (fun _ => False) ?hsq2 ?hxq2 ?aOq2 ?aRq2 (fun _ _ h => h) (fun _ h => h.elim) ?aFq2 ?aBq2 ?aSq2 ?aLq2 ?_; (case hwq2 => rfl); (case hsq2 => rfl); (case hxq2 => rfl); (case aRq2 => exact (Kd.C_below CA.out HB9.out)); (case aBq2 => exact HB9.out); (case aFq2 => exact (fun _ _ => trivial)); (case aOq2 => exact HY.out); (case aSq2 => exact HB9.out.size); (case aLq2 => have h_ := KK.out; simp only [List.length_take, List.length_append, List.length_cons, List.length_nil]; omega); intro vy4 wz_ hz_ hb hg_ hn_; rw [List.nil_append] at hz_; have HX' := Aside0.mk (Kd.R_grown HX.out hg_ (fun _ hk => hk)); clear HX; have HX := HX'; clear HX'; have HY' := Aside0.mk hz_; have HB9' := Aside0.mk hb; clear hz_ hb HB9 HY; have HB9 := HB9'; have HY := HY'; clear HB9' HY' hg_ hn_)
                                refine hK.out _ _ (by (try dsimp only); exact (HB9.out.cell LT.out).trans hx9) (fun hHeld2 => ?_)
                                clear hK K hHeld
                                have hHeld := hHeld2
                                clear hHeld2
                                try simp only [Act.put, List.setIfInBounds_toArray, List.set_cons_zero, List.set_cons_succ]
                                refine wpAnyH_ready (rs := [10]) (by kernel_rfl) (by simp) (AllReadyH.cons (o := ({ dst := some 54, op := Go.Op.call { callee := Go.Callee.builtin Go.Builtin.append, args := #[Go.Operand.tmp 48, Go.Operand.tmp 53], argTypes := #[22, 22] }, type := 22, pos := "ref.go:29", after := #[{ on := 4, ground := Go.Ground.data }, { on := 9, ground := Go.Ground.data }, { on := 4, ground := Go.Ground.chain }], guard := none } : Oper)) rfl (fun K hK => ?e3_10q2) AllReadyH.nil)
                                case e3_10q2 =>
                                  (refine Kd.R_append_rows_step Kd.string (w0 := W9) W9.heap.size ?hwq2 (.tmp 48) (.tmp 53) 22 9 (.string ⟨#[]⟩) 16 rfl Try.underlying22 info9 rfl (by decide) (by omega) vy4 (x3_1.take x5_2.toNat) [(rdOf ByteArray.empty l0 x4_1)] Ax ([(rdOf ByteArray.empty l0 x4_1)] : List ByteArray).length cx (fun _ => True) (fun _ => False) ?hsq2 ?hxq2 ?aOq2 ?aRq2 (fun _ _ h => h) (fun _ h => h.elim) ?aFq2 ?aBq2 ?aSq2 ?aLq2 ?_; (case hwq2 => rfl); (case hsq2 => rfl); (case hxq2 => rfl); (case aRq2 => exact (Kd.R_reads' HX.out).2.2); (case aBq2 => exact HB9.out); (case aFq2 => exact (fun _ _ => trivial)); (case aOq2 => exact HY.out); (case aSq2 => exact HB9.out.size); (case aLq2 => have h_ := KK.out; simp only [List.length_take, List.length_append, List.length_cons, List.length_nil]; omega); intro vy10 wz_ hz_ hb hg_ hn_; have HY' := Aside0.mk hz_; have HB9' := Aside0.mk hb; clear hz_ hb HB9 HY; have HB9 := HB9'; have HY := HY'; clear HB9' HY' hg_ hn_)
                                  refine hK.out _ _ (by (try dsimp only); exact (HB9.out.cell LT.out).trans hx9) (fun hHeld2 => ?_)
                                  clear hK K hHeld
                                  have hHeld := hHeld2
                                  clear hHeld2
                                  try simp only [Act.put, List.setIfInBounds_toArray, List.set_cons_zero, List.set_cons_succ]
                                  refine wpAnyH_ready (rs := [14]) (by kernel_rfl) (by simp) (AllReadyH.cons (o := ({ dst := some 58, op := Go.Op.call { callee := Go.Callee.builtin Go.Builtin.append, args := #[Go.Operand.tmp 54, Go.Operand.tmp 57], argTypes := #[22, 22] }, type := 22, pos := "ref.go:29", after := #[{ on := 10, ground := Go.Ground.data }, { on := 13, ground := Go.Ground.data }, { on := 10, ground := Go.Ground.chain }], guard := none } : Oper)) rfl (fun K hK => ?e4_14q2) AllReadyH.nil)
                                  case e4_14q2 =>
                                    (refine Kd.R_append_rows_step Kd.string (w0 := W9) W9.heap.size ?hwq2 (.tmp 54) (.tmp 57) 22 9 (.string ⟨#[]⟩) 16 rfl Try.underlying22 info9 rfl (by decide) (by omega) vy10 ((x3_1.take x5_2.toNat) ++ [(rdOf ByteArray.empty l0 x4_1)]) (x3_1.drop x5_2.toNat) AB (x3_1.length - x5_2.toNat) (co17 - x5_2.toNat) (fun _ => True) (fun _ => False) ?hsq2 ?hxq2 ?aOq2 ?aRq2 (fun _ _ h => h) (fun _ h => h.elim) ?aFq2 ?aBq2 ?aSq2 ?aLq2 ?_; (case hwq2 => rfl); (case hsq2 => rfl); (case hxq2 => rfl); (case aRq2 => exact (Kd.C_below CB.out HB9.out)); (case aBq2 => exact HB9.out); (case aFq2 => exact (fun _ _ => trivial)); (case aOq2 => exact HY.out); (case aSq2 => exact HB9.out.size); (case aLq2 => have h_ := KK.out; simp only [List.length_take, List.length_append, List.length_cons, List.length_nil]; omega); intro vy14 wz_ hz_ hb hg_ hn_; have HY' := Aside0.mk hz_; have HB9' := Aside0.mk hb; clear hz_ hb HB9 HY; have HB9 := HB9'; have HY := HY'; clear HB9' HY' hg_ hn_)
                                    refine hK.out _ _ (by (try dsimp only); exact (HB9.out.cell LT.out).trans hx9) (fun hHeld2 => ?_)
                                    clear hK K hHeld
                                    have hHeld := hHeld2
                                    clear hHeld2
                                    try simp only [Act.put, List.setIfInBounds_toArray, List.set_cons_zero, List.set_cons_succ]
                                    refine wpAnyH_take (i := 15) (oi := ({ dst := some 3, op := Go.Op.assign (Go.Operand.tmp 58), type := 22, pos := "ref.go:29", after := #[{ on := 14, ground := Go.Ground.data }, { on := 14, ground := Go.Ground.chain }, { on := 0, ground := Go.Ground.phase }, { on := 1, ground := Go.Ground.phase }, { on := 2, ground := Go.Ground.phase }, { on := 3, ground := Go.Ground.phase }, { on := 4, ground := Go.Ground.phase }, { on := 5, ground := Go.Ground.phase }, { on := 6, ground := Go.Ground.phase }, { on := 7, ground := Go.Ground.phase }, { on := 8, ground := Go.Ground.phase }, { on := 9, ground := Go.Ground.phase }, { on := 10, ground := Go.Ground.phase }, { on := 11, ground := Go.Ground.phase }, { on := 12, ground := Go.Ground.phase }, { on := 13, ground := Go.Ground.phase }, { on := 14, ground := Go.Ground.phase }], guard := none } : Oper)) (v := ?_) rfl (by kernel_rfl) (by kernel_rfl) (by kernel_rfl) (fun _ _ _ h => h) (Or.inl ⟨by rfl, ?_⟩) (by assumption) ?_
                                    rotate_left
                                    · ((intro w hSw; (try dsimp only at hSw); go_simp) <;> with_reducible rfl)
                                    try simp only [Act.put, List.setIfInBounds_toArray, List.set_cons_zero, List.set_cons_succ]
                                    refine wpAnyH_done (by kernel_rfl) ?_ _
                                    have HO288 := Aside0.mk (by have h_ := Kd.R_lower HY.out B9.out.size; rw [← TT.out] at h_; exact h_)
                                    have HB := Aside0.mk (below_step B9.out HB9.out)
                                    go_wp2
                                    go_roundg k2
                                    case measure => have := HK1.out; have := HK2.out; omega
                                    case rel => exact ⟨(t286), (wrap64 (x4_1 + 1)), (by first | rfl | (simp; done) | (simp [*]; done)), H', ⟨by have := HK1.out; have := HK2.out; omega⟩, ⟨by (with_reducible repeat (first | apply Kd.R_alloc | apply Kd.R_drewN | apply Kd.R_drew)); exact Kd.R_mono HO288.out (fun _ hk => trivial)⟩, ⟨by repeat (first | (with_reducible first | exact HB.out | apply below_alloc | apply pw_below_drewN | apply below_drew1) | exact HB.out)⟩⟩
                  · rw [if_neg c6] at H
                    exact absurd H (by simp)
                · rw [if_neg c5] at H
                  exact absurd H (by simp)
              · rw [if_neg c4] at H
                exact absurd H (by simp)
            · rw [if_neg c3] at H
              have c3b0 : decide (x5_2 < (x3_1.length : Int)) = false := decide_eq_false c3
              clear c3
              by_cases c19 : x5_2 = (x3_1.length : Int)
              · rw [if_pos c19] at H
                have c19b0 : (x5_2 == (x3_1.length : Int)) = true := beq_iff_eq.mpr c19
                have c19b1 : (x5_2 != (x3_1.length : Int)) = false := bne_eq_false_iff_eq.mpr c19
                clear c19
                by_cases c20 : 0 ≤ x4_1
                · rw [if_pos c20] at H
                  have c20b0 : decide (0 ≤ x4_1) = true := decide_eq_true c20
                  clear c20
                  by_cases c21 : x4_1 < (l0.length : Int)
                  · rw [if_pos c21] at H
                    have c21b0 : decide (x4_1 < (l0.length : Int)) = true := decide_eq_true c21
                    clear c21
                    replace H := Option.bind_eq_some_iff.mp H
                    obtain ⟨t290, A220, H⟩ := H
                    replace H : (touchstoneref11_Sorted.l0 k2 l0 t290 (wrap64 (x4_1 + 1))) = some r := H
                    have A22 := Aside0.mk A220
                    clear A220
                    have H' := Aside0.mk H
                    clear H
                    obtain ⟨Ao23, co23, eo23⟩ := Kd.R_slice HO_3.out
                    subst eo23
                    have p289 : 0 ≤ (x4_1 : Int) := of_decide_eq_true (by first | (with_reducible assumption) | assumption)
                    have q289 : x4_1 < (l0.length : Int) := of_decide_eq_true (by first | (with_reducible assumption) | assumption)
                    obtain ⟨ad289, e289, hx289_0⟩ := Kd.at_string HR0.out x4_1 p289 q289
                    cases e289
                    replace hx289_0 := (HB.out.cell (World.block_lt_of_cell? w _ hx289_0)).trans hx289_0
                    replace p289 := eq_true p289
                    replace q289 := eq_true q289
                    go_wp2
                    repeat (go_quiet (fail); try go_wp2)
                    obtain ⟨hk0, hk1, hk2, ht⟩ := ins11_some A22.out
                    obtain ⟨i0, hi0, hi1⟩ := Option.map_eq_some_iff.1 info9
                    have hs1 : i0.size = 1 := by simp only [Prod.mk.injEq] at hi1; exact hi1.2.1
                    have hcp := (Kd.R_reads' HO_3.out).2.1
                    have hcutA := cut_to (P := Try.prog) 22 9 .i64 Try.underlying22 hi0 Ao23 x3_1.length co23 x5_2 hk0 hk1 hcp
                    have hcutB := cut_from (P := Try.prog) 22 9 .i64 Try.underlying22 hi0 1 hs1 Ao23 x3_1.length co23 x5_2 hk0 hk1
                    refine (fun (h_ : ∀ W9 : World, W9.cell? (ad289.add x4_1.toNat) = some (.string (rdOf ByteArray.empty l0 x4_1)) → Kd.R Kd.string 9 W9 w.heap.size (fun _ => True) (.slice Ao23 x3_1.length co23) x3_1 → Below w.heap.size w W9 → Code.wp Try.prog _ _ _ W9) => h_ _ ?c1_q3 ?c2_q3 ?c3_q3) ?cont_q3
                    case c1_q3 => exact hx289_0
                    case c2_q3 => exact (by (with_reducible repeat (first | apply Kd.R_alloc | apply Kd.R_drewN | apply Kd.R_drew)); exact HO_3.out)
                    case c3_q3 => exact (by repeat (first | (with_reducible first | exact HB.out | apply below_alloc | apply pw_below_drewN | apply below_drew1) | exact HB.out))
                    intro W9 hx9 hO9 hB9
                    have hCA : Kd.C Kd.string W9 Ao23 x5_2.toNat (x3_1.take x5_2.toNat) := by have h_ := Kd.C_take (Kd.R_reads' hO9).2.2 (m := x5_2.toNat) (by omega); rwa [List.length_take, Nat.min_eq_left (by omega)] at h_
                    have hCB : Kd.C Kd.string W9 (if co23 = x5_2.toNat then Ao23 else (Ao23 : Option Addr).map (·.add (x5_2.toNat * 1))) (x3_1.length - x5_2.toNat) (x3_1.drop x5_2.toNat) := by have h_ := Kd.C_drop (Kd.R_reads' hO9).2.2 (m := x5_2.toNat) (c := co23) (by omega) hcp; rwa [List.length_drop] at h_
                    obtain ⟨AB, hAB⟩ : ∃ z : Option Addr, z = (if co23 = x5_2.toNat then Ao23 else (Ao23 : Option Addr).map (·.add (x5_2.toNat * 1))) := ⟨_, rfl⟩
                    rw [← hAB] at hcutB hCB
                    clear hAB
                    have hlt9 := World.block_lt_of_cell? W9 _ hx9
                    have CA := Aside0.mk hCA
                    have CB := Aside0.mk hCB
                    have B9 := Aside0.mk hB9
                    have LT := Aside0.mk hlt9
                    have TT := Aside0.mk ht
                    have KK := Aside0.mk (And.intro hk0 (And.intro hk1 hk2))
                    have HB9 : Aside0 (Below W9.heap.size W9 W9.drew) := ⟨by repeat (first | exact Below.refl _ _ | apply below_drew1)⟩
                    clear hCA hCB hO9 hB9 hlt9 ht hk0 hk1 hk2 hcp
                    refine wp_region_held_drew (S := (fun wz => wz.cell? (ad289.add x4_1.toNat) = some (.string (rdOf ByteArray.empty l0 x4_1)))) (by kernel_rfl) (by (try dsimp only); exact hx9) (fun hHeld => ?_)
                    refine wpAnyH_take (i := 1) (oi := ({ dst := some 45, op := Go.Op.move (Go.Operand.tmp 3), type := 22, pos := "ref.go:29", after := #[], guard := none } : Oper)) (v := ?_) rfl (by kernel_rfl) (by kernel_rfl) (by kernel_rfl) (fun _ _ _ h => h) (Or.inl ⟨by rfl, ?_⟩) (by assumption) ?_
                    rotate_left
                    · ((intro w hSw; (try dsimp only at hSw); go_simp) <;> with_reducible rfl)
                    try simp only [Act.put, List.setIfInBounds_toArray, List.set_cons_zero, List.set_cons_succ]
                    refine wpAnyH_take (i := 2) (oi := ({ dst := some 46, op := Go.Op.move (Go.Operand.tmp 5), type := 3, pos := "ref.go:29", after := #[], guard := none } : Oper)) (v := ?_) rfl (by kernel_rfl) (by kernel_rfl) (by kernel_rfl) (fun _ _ _ h => h) (Or.inl ⟨by rfl, ?_⟩) (by assumption) ?_
                    rotate_left
                    · ((intro w hSw; (try dsimp only at hSw); go_simp) <;> with_reducible rfl)
                    try simp only [Act.put, List.setIfInBounds_toArray, List.set_cons_zero, List.set_cons_succ]
                    refine wpAnyH_take (i := 3) (oi := ({ dst := some 47, op := Go.Op.slice 22 (Go.Operand.tmp 45) none (some (Go.Operand.tmp 46)) none, type := 22, pos := "ref.go:29", after := #[{ on := 1, ground := Go.Ground.data }, { on := 2, ground := Go.Ground.data }], guard := none } : Oper)) (v := ?_) rfl (by kernel_rfl) (by kernel_rfl) (by kernel_rfl) (fun _ _ _ h => h) (Or.inl ⟨by rfl, ?_⟩) (by assumption) ?_
                    rotate_left
                    · ((intro w hSw; (try dsimp only at hSw); go_simp) <;> with_reducible rfl)
                    try simp only [Act.put, List.setIfInBounds_toArray, List.set_cons_zero, List.set_cons_succ]
                    refine wpAnyH_take (i := 5) (oi := ({ dst := some 49, op := Go.Op.move (Go.Operand.tmp 0), type := 22, pos := "ref.go:29", after := #[], guard := none } : Oper)) (v := ?_) rfl (by kernel_rfl) (by kernel_rfl) (by kernel_rfl) (fun _ _ _ h => h) (Or.inl ⟨by rfl, ?_⟩) (by assumption) ?_
                    rotate_left
                    · ((intro w hSw; (try dsimp only at hSw); go_simp) <;> with_reducible rfl)
                    try simp only [Act.put, List.setIfInBounds_toArray, List.set_cons_zero, List.set_cons_succ]
                    refine wpAnyH_take (i := 6) (oi := ({ dst := some 50, op := Go.Op.move (Go.Operand.tmp 4), type := 3, pos := "ref.go:29", after := #[], guard := none } : Oper)) (v := ?_) rfl (by kernel_rfl) (by kernel_rfl) (by kernel_rfl) (fun _ _ _ h => h) (Or.inl ⟨by rfl, ?_⟩) (by assumption) ?_
                    rotate_left
                    · ((intro w hSw; (try dsimp only at hSw); go_simp) <;> with_reducible rfl)
                    try simp only [Act.put, List.setIfInBounds_toArray, List.set_cons_zero, List.set_cons_succ]
                    refine wpAnyH_take (i := 7) (oi := ({ dst := some 51, op := Go.Op.indexAddr 22 (Go.Operand.tmp 49) (Go.Operand.tmp 50), type := 0, pos := "ref.go:29", after := #[{ on := 5, ground := Go.Ground.data }, { on := 6, ground := Go.Ground.data }], guard := none } : Oper)) (v := ?_) rfl (by kernel_rfl) (by kernel_rfl) (by kernel_rfl) (fun _ _ _ h => h) (Or.inl ⟨by rfl, ?_⟩) (by assumption) ?_
                    rotate_left
                    · ((intro w hSw; (try dsimp only at hSw); go_simp) <;> with_reducible rfl)
                    try simp only [Act.put, List.setIfInBounds_toArray, List.set_cons_zero, List.set_cons_succ]
                    refine wpAnyH_take (i := 8) (oi := ({ dst := some 52, op := Go.Op.load 9 (Go.Operand.tmp 51), type := 9, pos := "ref.go:29", after := #[{ on := 7, ground := Go.Ground.data }], guard := none } : Oper)) (v := ?_) rfl (by kernel_rfl) (by kernel_rfl) (by kernel_rfl) (fun _ _ _ h => h) (Or.inl ⟨by rfl, ?_⟩) (by assumption) ?_
                    rotate_left
                    · ((intro w hSw; (try dsimp only at hSw); go_simp) <;> with_reducible rfl)
                    try simp only [Act.put, List.setIfInBounds_toArray, List.set_cons_zero, List.set_cons_succ]
                    refine wpAnyH_take (i := 11) (oi := ({ dst := some 55, op := Go.Op.move (Go.Operand.tmp 3), type := 22, pos := "ref.go:29", after := #[], guard := none } : Oper)) (v := ?_) rfl (by kernel_rfl) (by kernel_rfl) (by kernel_rfl) (fun _ _ _ h => h) (Or.inl ⟨by rfl, ?_⟩) (by assumption) ?_
                    rotate_left
                    · ((intro w hSw; (try dsimp only at hSw); go_simp) <;> with_reducible rfl)
                    try simp only [Act.put, List.setIfInBounds_toArray, List.set_cons_zero, List.set_cons_succ]
                    refine wpAnyH_take (i := 12) (oi := ({ dst := some 56, op := Go.Op.move (Go.Operand.tmp 5), type := 3, pos := "ref.go:29", after := #[], guard := none } : Oper)) (v := ?_) rfl (by kernel_rfl) (by kernel_rfl) (by kernel_rfl) (fun _ _ _ h => h) (Or.inl ⟨by rfl, ?_⟩) (by assumption) ?_
                    rotate_left
                    · ((intro w hSw; (try dsimp only at hSw); go_simp) <;> with_reducible rfl)
                    try simp only [Act.put, List.setIfInBounds_toArray, List.set_cons_zero, List.set_cons_succ]
                    refine wpAnyH_take (i := 13) (oi := ({ dst := some 57, op := Go.Op.slice 22 (Go.Operand.tmp 55) (some (Go.Operand.tmp 56)) none none, type := 22, pos := "ref.go:29", after := #[{ on := 11, ground := Go.Ground.data }, { on := 12, ground := Go.Ground.data }], guard := none } : Oper)) (v := ?_) rfl (by kernel_rfl) (by kernel_rfl) (by kernel_rfl) (fun _ _ _ h => h) (Or.inl ⟨by rfl, ?_⟩) (by assumption) ?_
                    rotate_left
                    · ((intro w hSw; (try dsimp only at hSw); go_simp) <;> with_reducible rfl)
                    try simp only [Act.put, List.setIfInBounds_toArray, List.set_cons_zero, List.set_cons_succ]
                    refine wpAnyH_ready (rs := [0, 9]) (by kernel_rfl) (by simp) (AllReadyH.cons (o := ({ dst := some 44, op := Go.Op.buildSlice 22 0 #[], type := 22, pos := "ref.go:29", after := #[], guard := none } : Oper)) rfl (fun K hK => ?e0_0q3) (AllReadyH.cons (o := ({ dst := some 53, op := Go.Op.buildSlice 22 1 #[(0, Go.Operand.tmp 52)], type := 22, pos := "ref.go:29", after := #[{ on := 8, ground := Go.Ground.data }], guard := none } : Oper)) rfl (fun K hK => ?e0_9q3) AllReadyH.nil))
                    case e0_0q3 =>
                      (refine Kd.R_lit_step Kd.string (w0 := W9) W9.heap.size 9 ?hg (N := 44) ?hdq3 (xs := ([] : List ByteArray)) (inner := []) (ok := fun _ => True) (okp := fun _ => False) ?hrq3 ?hpq3 (fun _ h => h.elim) trivial HB9.out HB9.out.size (by simp) ?_; (case hdq3 => rfl); (case hg => rfl); (case hrq3 => first | (go_simp; done) | (go_simp; rfl)); (case hpq3 => exact (Reps.none _ _)); intro vy w44 hy hb hg_ hn_; have HY := Aside0.mk hy; have HB9' := Aside0.mk hb; clear hn_; clear hy hb HB9; have HB9 := HB9'; clear HB9' hg_)
                      refine hK.out _ _ (by (try dsimp only); exact (HB9.out.cell LT.out).trans hx9) (fun hHeld2 => ?_)
                      clear hK K hHeld
                      have hHeld := hHeld2
                      clear hHeld2
                      try simp only [Act.put, List.setIfInBounds_toArray, List.set_cons_zero, List.set_cons_succ]
                      refine wpAnyH_ready (rs := [4, 9]) (by kernel_rfl) (by simp) (AllReadyH.cons (o := ({ dst := some 48, op := Go.Op.call { callee := Go.Callee.builtin Go.Builtin.append, args := #[Go.Operand.tmp 44, Go.Operand.tmp 47], argTypes := #[22, 22] }, type := 22, pos := "ref.go:29", after := #[{ on := 0, ground := Go.Ground.data }, { on := 3, ground := Go.Ground.data }], guard := none } : Oper)) rfl (fun K hK => ?e1_4q3) (AllReadyH.cons (o := ({ dst := some 53, op := Go.Op.buildSlice 22 1 #[(0, Go.Operand.tmp 52)], type := 22, pos := "ref.go:29", after := #[{ on := 8, ground := Go.Ground.data }], guard := none } : Oper)) rfl (fun K hK => ?e1_9q3) AllReadyH.nil))
                      case e1_4q3 =>
                        (refine Kd.R_append_rows_step Kd.string (w0 := W9) W9.heap.size ?hwq3 (.tmp 44) (.tmp 47) 22 9 (.string ⟨#[]⟩) 16 rfl Try.underlying22 info9 rfl (by decide) (by omega) vy ([] : List ByteArray) (x3_1.take x5_2.toNat) Ao23 x5_2.toNat co23 (fun _ => True) (fun _ => False) ?hsq3 ?hxq3 ?aOq3 ?aRq3 (fun _ _ h => h) (fun _ h => h.elim) ?aFq3 ?aBq3 ?aSq3 ?aLq3 ?_; (case hwq3 => rfl); (case hsq3 => rfl); (case hxq3 => rfl); (case aRq3 => exact (Kd.C_below CA.out HB9.out)); (case aBq3 => exact HB9.out); (case aFq3 => exact (fun _ _ => trivial)); (case aOq3 => exact HY.out); (case aSq3 => exact HB9.out.size); (case aLq3 => have h_ := KK.out; simp only [List.length_take, List.length_append, List.length_cons, List.length_nil]; omega); intro vy4 wz_ hz_ hb hg_ hn_; rw [List.nil_append] at hz_; have HY' := Aside0.mk hz_; have HB9' := Aside0.mk hb; clear hz_ hb HB9 HY; have HB9 := HB9'; have HY := HY'; clear HB9' HY' hg_ hn_)
                        refine hK.out _ _ (by (try dsimp only); exact (HB9.out.cell LT.out).trans hx9) (fun hHeld2 => ?_)
                        clear hK K hHeld
                        have hHeld := hHeld2
                        clear hHeld2
                        try simp only [Act.put, List.setIfInBounds_toArray, List.set_cons_zero, List.set_cons_succ]
                        refine wpAnyH_ready (rs := [9]) (by kernel_rfl) (by simp) (AllReadyH.cons (o := ({ dst := some 53, op := Go.Op.buildSlice 22 1 #[(0, Go.Operand.tmp 52)], type := 22, pos := "ref.go:29", after := #[{ on := 8, ground := Go.Ground.data }], guard := none } : Oper)) rfl (fun K hK => ?e2_9q3) AllReadyH.nil)
                        case e2_9q3 =>
                          (refine Kd.R_lit_step Kd.string (w0 := W9) W9.heap.size 9 ?hg (N := 53) ?hdq3 (xs := [(rdOf ByteArray.empty l0 x4_1)]) (inner := [.string (rdOf ByteArray.empty l0 x4_1)]) (ok := fun k_ => some k_ ≠ vy4.ownBlock) (okp := fun _ => False) ?hrq3 ?hpq3 (fun _ h => h.elim) (Kd.R_ne_new HY.out 0) HB9.out HB9.out.size (by simp) ?_; (case hdq3 => rfl); (case hg => rfl); (case hrq3 => first | (go_simp; done) | (go_simp; rfl)); (case hpq3 => exact (Reps.one (show Kd.M Kd.string _ _ _ (rdOf ByteArray.empty l0 x4_1) [.string (rdOf ByteArray.empty l0 x4_1)] from rfl) (Reps.none _ _))); intro vx w53 hx_ hb hg_ hn_; obtain ⟨Ax, cx, rfl⟩ := Kd.R_slice hx_; have HX := Aside0.mk hx_; have HB9' := Aside0.mk hb; have HY' := Aside0.mk (Kd.R_grown HY.out hg_ (fun _ _ h => by cases h)); clear HY; have HY := HY'; clear HY'; clear hx_ hb HB9; have HB9 := HB9'; clear HB9' hg_ hn_)
                          refine hK.out _ _ (by (try dsimp only); exact (HB9.out.cell LT.out).trans hx9) (fun hHeld2 => ?_)
                          clear hK K hHeld
                          have hHeld := hHeld2
                          clear hHeld2
                          try simp only [Act.put, List.setIfInBounds_toArray, List.set_cons_zero, List.set_cons_succ]
                          refine wpAnyH_ready (rs := [10]) (by kernel_rfl) (by simp) (AllReadyH.cons (o := ({ dst := some 54, op := Go.Op.call { callee := Go.Callee.builtin Go.Builtin.append, args := #[Go.Operand.tmp 48, Go.Operand.tmp 53], argTypes := #[22, 22] }, type := 22, pos := "ref.go:29", after := #[{ on := 4, ground := Go.Ground.data }, { on := 9, ground := Go.Ground.data }, { on := 4, ground := Go.Ground.chain }], guard := none } : Oper)) rfl (fun K hK => ?e3_10q3) AllReadyH.nil)
                          case e3_10q3 =>
                            (refine Kd.R_append_rows_step Kd.string (w0 := W9) W9.heap.size ?hwq3 (.tmp 48) (.tmp 53) 22 9 (.string ⟨#[]⟩) 16 rfl Try.underlying22 info9 rfl (by decide) (by omega) vy4 (x3_1.take x5_2.toNat) [(rdOf ByteArray.empty l0 x4_1)] Ax ([(rdOf ByteArray.empty l0 x4_1)] : List ByteArray).length cx (fun _ => True) (fun _ => False) ?hsq3 ?hxq3 ?aOq3 ?aRq3 (fun _ _ h => h) (fun _ h => h.elim) ?aFq3 ?aBq3 ?aSq3 ?aLq3 ?_; (case hwq3 => rfl); (case hsq3 => rfl); (case hxq3 => rfl); (case aRq3 => exact (Kd.R_reads' HX.out).2.2); (case aBq3 => exact HB9.out); (case aFq3 => exact (fun _ _ => trivial)); (case aOq3 => exact HY.out); (case aSq3 => exact HB9.out.size); (case aLq3 => have h_ := KK.out; simp only [List.length_take, List.length_append, List.length_cons, List.length_nil]; omega); intro vy10 wz_ hz_ hb hg_ hn_; have HY' := Aside0.mk hz_; have HB9' := Aside0.mk hb; clear hz_ hb HB9 HY; have HB9 := HB9'; have HY := HY'; clear HB9' HY' hg_ hn_)
                            refine hK.out _ _ (by (try dsimp only); exact (HB9.out.cell LT.out).trans hx9) (fun hHeld2 => ?_)
                            clear hK K hHeld
                            have hHeld := hHeld2
                            clear hHeld2
                            try simp only [Act.put, List.setIfInBounds_toArray, List.set_cons_zero, List.set_cons_succ]
                            refine wpAnyH_ready (rs := [14]) (by kernel_rfl) (by simp) (AllReadyH.cons (o := ({ dst := some 58, op := Go.Op.call { callee := Go.Callee.builtin Go.Builtin.append, args := #[Go.Operand.tmp 54, Go.Operand.tmp 57], argTypes := #[22, 22] }, type := 22, pos := "ref.go:29", after := #[{ on := 10, ground := Go.Ground.data }, { on := 13, ground := Go.Ground.data }, { on := 10, ground := Go.Ground.chain }], guard := none } : Oper)) rfl (fun K hK => ?e4_14q3) AllReadyH.nil)
                            case e4_14q3 =>
                              (refine Kd.R_append_rows_step Kd.string (w0 := W9) W9.heap.size ?hwq3 (.tmp 54) (.tmp 57) 22 9 (.string ⟨#[]⟩) 16 rfl Try.underlying22 info9 rfl (by decide) (by omega) vy10 ((x3_1.take x5_2.toNat) ++ [(rdOf ByteArray.empty l0 x4_1)]) (x3_1.drop x5_2.toNat) AB (x3_1.length - x5_2.toNat) (co23 - x5_2.toNat) (fun _ => True) (fun _ => False) ?hsq3 ?hxq3 ?aOq3 ?aRq3 (fun _ _ h => h) (fun _ h => h.elim) ?aFq3 ?aBq3 ?aSq3 ?aLq3 ?_; (case hwq3 => rfl); (case hsq3 => rfl); (case hxq3 => rfl); (case aRq3 => exact (Kd.C_below CB.out HB9.out)); (case aBq3 => exact HB9.out); (case aFq3 => exact (fun _ _ => trivial)); (case aOq3 => exact HY.out); (case aSq3 => exact HB9.out.size); (case aLq3 => have h_ := KK.out; simp only [List.length_take, List.length_append, List.length_cons, List.length_nil]; omega); intro vy14 wz_ hz_ hb hg_ hn_; have HY' := Aside0.mk hz_; have HB9' := Aside0.mk hb; clear hz_ hb HB9 HY; have HB9 := HB9'; have HY := HY'; clear HB9' HY' hg_ hn_)
                              refine hK.out _ _ (by (try dsimp only); exact (HB9.out.cell LT.out).trans hx9) (fun hHeld2 => ?_)
                              clear hK K hHeld
                              have hHeld := hHeld2
                              clear hHeld2
                              try simp only [Act.put, List.setIfInBounds_toArray, List.set_cons_zero, List.set_cons_succ]
                              refine wpAnyH_take (i := 15) (oi := ({ dst := some 3, op := Go.Op.assign (Go.Operand.tmp 58), type := 22, pos := "ref.go:29", after := #[{ on := 14, ground := Go.Ground.data }, { on := 14, ground := Go.Ground.chain }, { on := 0, ground := Go.Ground.phase }, { on := 1, ground := Go.Ground.phase }, { on := 2, ground := Go.Ground.phase }, { on := 3, ground := Go.Ground.phase }, { on := 4, ground := Go.Ground.phase }, { on := 5, ground := Go.Ground.phase }, { on := 6, ground := Go.Ground.phase }, { on := 7, ground := Go.Ground.phase }, { on := 8, ground := Go.Ground.phase }, { on := 9, ground := Go.Ground.phase }, { on := 10, ground := Go.Ground.phase }, { on := 11, ground := Go.Ground.phase }, { on := 12, ground := Go.Ground.phase }, { on := 13, ground := Go.Ground.phase }, { on := 14, ground := Go.Ground.phase }], guard := none } : Oper)) (v := ?_) rfl (by kernel_rfl) (by kernel_rfl) (by kernel_rfl) (fun _ _ _ h => h) (Or.inl ⟨by rfl, ?_⟩) (by assumption) ?_
                              rotate_left
                              · ((intro w hSw; (try dsimp only at hSw); go_simp) <;> with_reducible rfl)
                              try simp only [Act.put, List.setIfInBounds_toArray, List.set_cons_zero, List.set_cons_succ]
                              refine wpAnyH_done (by kernel_rfl) ?_ _
                              have HO292 := Aside0.mk (by have h_ := Kd.R_lower HY.out B9.out.size; rw [← TT.out] at h_; exact h_)
                              have HB := Aside0.mk (below_step B9.out HB9.out)
                              go_wp2
                              go_roundg k2
                              case measure => have := HK1.out; have := HK2.out; omega
                              case rel => exact ⟨(t290), (wrap64 (x4_1 + 1)), (by first | rfl | (simp; done) | (simp [*]; done)), H', ⟨by have := HK1.out; have := HK2.out; omega⟩, ⟨by (with_reducible repeat (first | apply Kd.R_alloc | apply Kd.R_drewN | apply Kd.R_drew)); exact Kd.R_mono HO292.out (fun _ hk => trivial)⟩, ⟨by repeat (first | (with_reducible first | exact HB.out | apply below_alloc | apply pw_below_drewN | apply below_drew1) | exact HB.out)⟩⟩
                      case e1_9q3 =>
                        (refine Kd.R_lit_step Kd.string (w0 := W9) W9.heap.size 9 ?hg (N := 53) ?hdq3 (xs := [(rdOf ByteArray.empty l0 x4_1)]) (inner := [.string (rdOf ByteArray.empty l0 x4_1)]) (ok := fun k_ => some k_ ≠ vy.ownBlock) (okp := fun _ => False) ?hrq3 ?hpq3 (fun _ h => h.elim) (Kd.R_ne_new HY.out 0) HB9.out HB9.out.size (by simp) ?_; (case hdq3 => rfl); (case hg => rfl); (case hrq3 => first | (go_simp; done) | (go_simp; rfl)); (case hpq3 => exact (Reps.one (show Kd.M Kd.string _ _ _ (rdOf ByteArray.empty l0 x4_1) [.string (rdOf ByteArray.empty l0 x4_1)] from rfl) (Reps.none _ _))); intro vx w53 hx_ hb hg_ hn_; obtain ⟨Ax, cx, rfl⟩ := Kd.R_slice hx_; have HX := Aside0.mk hx_; have HB9' := Aside0.mk hb; have HY' := Aside0.mk (Kd.R_grown HY.out hg_ (fun _ _ h => by cases h)); clear HY; have HY := HY'; clear HY'; clear hx_ hb HB9; have HB9 := HB9'; clear HB9' hg_ hn_)
                        refine hK.out _ _ (by (try dsimp only); exact (HB9.out.cell LT.out).trans hx9) (fun hHeld2 => ?_)
                        clear hK K hHeld
                        have hHeld := hHeld2
                        clear hHeld2
                        try simp only [Act.put, List.setIfInBounds_toArray, List.set_cons_zero, List.set_cons_succ]
                        refine wpAnyH_ready (rs := [4]) (by kernel_rfl) (by simp) (AllReadyH.cons (o := ({ dst := some 48, op := Go.Op.call { callee := Go.Callee.builtin Go.Builtin.append, args := #[Go.Operand.tmp 44, Go.Operand.tmp 47], argTypes := #[22, 22] }, type := 22, pos := "ref.go:29", after := #[{ on := 0, ground := Go.Ground.data }, { on := 3, ground := Go.Ground.data }], guard := none } : Oper)) rfl (fun K hK => ?e2_4q3) AllReadyH.nil)
                        case e2_4q3 =>
                          (refine Kd.R_append_rows_step Kd.string (w0 := W9) W9.heap.size ?hwq3 (.tmp 44) (.tmp 47) 22 9 (.string ⟨#[]⟩) 16 rfl Try.underlying22 info9 rfl (by decide) (by omega) vy ([] : List ByteArray) (x3_1.take x5_2.toNat) Ao23 x5_2.toNat co23 (fun _ => True) (fun _ => False) ?hsq3 ?hxq3 ?aOq3 ?aRq3 (fun _ _ h => h) (fun _ h => h.elim) ?aFq3 ?aBq3 ?aSq3 ?aLq3 ?_; (case hwq3 => rfl); (case hsq3 => rfl); (case hxq3 => rfl); (case aRq3 => exact (Kd.C_below CA.out HB9.out)); (case aBq3 => exact HB9.out); (case aFq3 => exact (fun _ _ => trivial)); (case aOq3 => exact HY.out); (case aSq3 => exact HB9.out.size); (case aLq3 => have h_ := KK.out; simp only [List.length_take, List.length_append, List.length_cons, List.length_nil]; omega); intro vy4 wz_ hz_ hb hg_ hn_; rw [List.nil_append] at hz_; have HX' := Aside0.mk (Kd.R_grown HX.out hg_ (fun _ hk => hk)); clear HX; have HX := HX'; clear HX'; have HY' := Aside0.mk hz_; have HB9' := Aside0.mk hb; clear hz_ hb HB9 HY; have HB9 := HB9'; have HY := HY'; clear HB9' HY' hg_ hn_)
                          refine hK.out _ _ (by (try dsimp only); exact (HB9.out.cell LT.out).trans hx9) (fun hHeld2 => ?_)
                          clear hK K hHeld
                          have hHeld := hHeld2
                          clear hHeld2
                          try simp only [Act.put, List.setIfInBounds_toArray, List.set_cons_zero, List.set_cons_succ]
                          refine wpAnyH_ready (rs := [10]) (by kernel_rfl) (by simp) (AllReadyH.cons (o := ({ dst := some 54, op := Go.Op.call { callee := Go.Callee.builtin Go.Builtin.append, args := #[Go.Operand.tmp 48, Go.Operand.tmp 53], argTypes := #[22, 22] }, type := 22, pos := "ref.go:29", after := #[{ on := 4, ground := Go.Ground.data }, { on := 9, ground := Go.Ground.data }, { on := 4, ground := Go.Ground.chain }], guard := none } : Oper)) rfl (fun K hK => ?e3_10q3) AllReadyH.nil)
                          case e3_10q3 =>
                            (refine Kd.R_append_rows_step Kd.string (w0 := W9) W9.heap.size ?hwq3 (.tmp 48) (.tmp 53) 22 9 (.string ⟨#[]⟩) 16 rfl Try.underlying22 info9 rfl (by decide) (by omega) vy4 (x3_1.take x5_2.toNat) [(rdOf ByteArray.empty l0 x4_1)] Ax ([(rdOf ByteArray.empty l0 x4_1)] : List ByteArray).length cx (fun _ => True) (fun _ => False) ?hsq3 ?hxq3 ?aOq3 ?aRq3 (fun _ _ h => h) (fun _ h => h.elim) ?aFq3 ?aBq3 ?aSq3 ?aLq3 ?_; (case hwq3 => rfl); (case hsq3 => rfl); (case hxq3 => rfl); (case aRq3 => exact (Kd.R_reads' HX.out).2.2); (case aBq3 => exact HB9.out); (case aFq3 => exact (fun _ _ => trivial)); (case aOq3 => exact HY.out); (case aSq3 => exact HB9.out.size); (case aLq3 => have h_ := KK.out; simp only [List.length_take, List.length_append, List.length_cons, List.length_nil]; omega); intro vy10 wz_ hz_ hb hg_ hn_; have HY' := Aside0.mk hz_; have HB9' := Aside0.mk hb; clear hz_ hb HB9 HY; have HB9 := HB9'; have HY := HY'; clear HB9' HY' hg_ hn_)
                            refine hK.out _ _ (by (try dsimp only); exact (HB9.out.cell LT.out).trans hx9) (fun hHeld2 => ?_)
                            clear hK K hHeld
                            have hHeld := hHeld2
                            clear hHeld2
                            try simp only [Act.put, List.setIfInBounds_toArray, List.set_cons_zero, List.set_cons_succ]
                            refine wpAnyH_ready (rs := [14]) (by kernel_rfl) (by simp) (AllReadyH.cons (o := ({ dst := some 58, op := Go.Op.call { callee := Go.Callee.builtin Go.Builtin.append, args := #[Go.Operand.tmp 54, Go.Operand.tmp 57], argTypes := #[22, 22] }, type := 22, pos := "ref.go:29", after := #[{ on := 10, ground := Go.Ground.data }, { on := 13, ground := Go.Ground.data }, { on := 10, ground := Go.Ground.chain }], guard := none } : Oper)) rfl (fun K hK => ?e4_14q3) AllReadyH.nil)
                            case e4_14q3 =>
                              (refine Kd.R_append_rows_step Kd.string (w0 := W9) W9.heap.size ?hwq3 (.tmp 54) (.tmp 57) 22 9 (.string ⟨#[]⟩) 16 rfl Try.underlying22 info9 rfl (by decide) (by omega) vy10 ((x3_1.take x5_2.toNat) ++ [(rdOf ByteArray.empty l0 x4_1)]) (x3_1.drop x5_2.toNat) AB (x3_1.length - x5_2.toNat) (co23 - x5_2.toNat) (fun _ => True) (fun _ => False) ?hsq3 ?hxq3 ?aOq3 ?aRq3 (fun _ _ h => h) (fun _ h => h.elim) ?aFq3 ?aBq3 ?aSq3 ?aLq3 ?_; (case hwq3 => rfl); (case hsq3 => rfl); (case hxq3 => rfl); (case aRq3 => exact (Kd.C_below CB.out HB9.out)); (case aBq3 => exact HB9.out); (case aFq3 => exact (fun _ _ => trivial)); (case aOq3 => exact HY.out); (case aSq3 => exact HB9.out.size); (case aLq3 => have h_ := KK.out; simp only [List.length_take, List.length_append, List.length_cons, List.length_nil]; omega); intro vy14 wz_ hz_ hb hg_ hn_; have HY' := Aside0.mk hz_; have HB9' := Aside0.mk hb; clear hz_ hb HB9 HY; have HB9 := HB9'; have HY := HY'; clear HB9' HY' hg_ hn_)
                              refine hK.out _ _ (by (try dsimp only); exact (HB9.out.cell LT.out).trans hx9) (fun hHeld2 => ?_)
                              clear hK K hHeld
                              have hHeld := hHeld2
                              clear hHeld2
                              try simp only [Act.put, List.setIfInBounds_toArray, List.set_cons_zero, List.set_cons_succ]
                              refine wpAnyH_take (i := 15) (oi := ({ dst := some 3, op := Go.Op.assign (Go.Operand.tmp 58), type := 22, pos := "ref.go:29", after := #[{ on := 14, ground := Go.Ground.data }, { on := 14, ground := Go.Ground.chain }, { on := 0, ground := Go.Ground.phase }, { on := 1, ground := Go.Ground.phase }, { on := 2, ground := Go.Ground.phase }, { on := 3, ground := Go.Ground.phase }, { on := 4, ground := Go.Ground.phase }, { on := 5, ground := Go.Ground.phase }, { on := 6, ground := Go.Ground.phase }, { on := 7, ground := Go.Ground.phase }, { on := 8, ground := Go.Ground.phase }, { on := 9, ground := Go.Ground.phase }, { on := 10, ground := Go.Ground.phase }, { on := 11, ground := Go.Ground.phase }, { on := 12, ground := Go.Ground.phase }, { on := 13, ground := Go.Ground.phase }, { on := 14, ground := Go.Ground.phase }], guard := none } : Oper)) (v := ?_) rfl (by kernel_rfl) (by kernel_rfl) (by kernel_rfl) (fun _ _ _ h => h) (Or.inl ⟨by rfl, ?_⟩) (by assumption) ?_
                              rotate_left
                              · ((intro w hSw; (try dsimp only at hSw); go_simp) <;> with_reducible rfl)
                              try simp only [Act.put, List.setIfInBounds_toArray, List.set_cons_zero, List.set_cons_succ]
                              refine wpAnyH_done (by kernel_rfl) ?_ _
                              have HO292 := Aside0.mk (by have h_ := Kd.R_lower HY.out B9.out.size; rw [← TT.out] at h_; exact h_)
                              have HB := Aside0.mk (below_step B9.out HB9.out)
                              go_wp2
                              go_roundg k2
                              case measure => have := HK1.out; have := HK2.out; omega
                              case rel => exact ⟨(t290), (wrap64 (x4_1 + 1)), (by first | rfl | (simp; done) | (simp [*]; done)), H', ⟨by have := HK1.out; have := HK2.out; omega⟩, ⟨by (with_reducible repeat (first | apply Kd.R_alloc | apply Kd.R_drewN | apply Kd.R_drew)); exact Kd.R_mono HO292.out (fun _ hk => trivial)⟩, ⟨by repeat (first | (with_reducible first | exact HB.out | apply below_alloc | apply pw_below_drewN | apply below_drew1) | exact HB.out)⟩⟩
                    case e0_9q3 =>
                      (refine Kd.R_lit_step Kd.string (w0 := W9) W9.heap.size 9 ?hg (N := 53) ?hdq3 (xs := [(rdOf ByteArray.empty l0 x4_1)]) (inner := [.string (rdOf ByteArray.empty l0 x4_1)]) (ok := fun _ => True) (okp := fun _ => False) ?hrq3 ?hpq3 (fun _ h => h.elim) trivial HB9.out HB9.out.size (by simp) ?_; (case hdq3 => rfl); (case hg => rfl); (case hrq3 => first | (go_simp; done) | (go_simp; rfl)); (case hpq3 => exact (Reps.one (show Kd.M Kd.string _ _ _ (rdOf ByteArray.empty l0 x4_1) [.string (rdOf ByteArray.empty l0 x4_1)] from rfl) (Reps.none _ _))); intro vx w53 hx_ hb hg_ hn_; obtain ⟨Ax, cx, rfl⟩ := Kd.R_slice hx_; have HX := Aside0.mk hx_; have HB9' := Aside0.mk hb; clear hx_ hb HB9; have HB9 := HB9'; clear HB9' hg_ hn_)
                      refine hK.out _ _ (by (try dsimp only); exact (HB9.out.cell LT.out).trans hx9) (fun hHeld2 => ?_)
                      clear hK K hHeld
                      have hHeld := hHeld2
                      clear hHeld2
                      try simp only [Act.put, List.setIfInBounds_toArray, List.set_cons_zero, List.set_cons_succ]
                      refine wpAnyH_ready (rs := [0]) (by kernel_rfl) (by simp) (AllReadyH.cons (o := ({ dst := some 44, op := Go.Op.buildSlice 22 0 #[], type := 22, pos := "ref.go:29", after := #[], guard := none } : Oper)) rfl (fun K hK => ?e1_0q3) AllReadyH.nil)
                      case e1_0q3 =>
                        (refine Kd.R_lit_step Kd.string (w0 := W9) W9.heap.size 9 ?hg (N := 44) ?hdq3 (xs := ([] : List ByteArray)) (inner := []) (ok := fun _ => True) (okp := fun _ => False) ?hrq3 ?hpq3 (fun _ h => h.elim) trivial HB9.out HB9.out.size (by simp) ?_; (case hdq3 => rfl); (case hg => rfl); (case hrq3 => first | (go_simp; done) | (go_simp; rfl)); (case hpq3 => exact (Reps.none _ _)); intro vy w44 hy hb hg_ hn_; have HY := Aside0.mk hy; have HB9' := Aside0.mk hb; obtain ⟨by_, hby, hbl⟩ := hn_; have HX' := Aside0.mk (Kd.R_mono (Kd.R_grown (Kd.R_bound HX.out) hg_ (fun _ _ h => by cases h)) (ok' := fun k_ => some k_ ≠ vy.ownBlock) (fun k_ hk => by have h1_ := hk.2.2.1; intro he; rw [hby] at he; have h2_ := Option.some.inj he; omega)); clear HX; have HX := HX'; clear HX' hby hbl; clear hy hb HB9; have HB9 := HB9'; clear HB9' hg_)
                        refine hK.out _ _ (by (try dsimp only); exact (HB9.out.cell LT.out).trans hx9) (fun hHeld2 => ?_)
                        clear hK K hHeld
                        have hHeld := hHeld2
                        clear hHeld2
                        try simp only [Act.put, List.setIfInBounds_toArray, List.set_cons_zero, List.set_cons_succ]
                        refine wpAnyH_ready (rs := [4]) (by kernel_rfl) (by simp) (AllReadyH.cons (o := ({ dst := some 48, op := Go.Op.call { callee := Go.Callee.builtin Go.Builtin.append, args := #[Go.Operand.tmp 44, Go.Operand.tmp 47], argTypes := #[22, 22] }, type := 22, pos := "ref.go:29", after := #[{ on := 0, ground := Go.Ground.data }, { on := 3, ground := Go.Ground.data }], guard := none } : Oper)) rfl (fun K hK => ?e2_4q3) AllReadyH.nil)
                        case e2_4q3 =>
                          (refine Kd.R_append_rows_step Kd.string (w0 := W9) W9.heap.size ?hwq3 (.tmp 44) (.tmp 47) 22 9 (.string ⟨#[]⟩) 16 rfl Try.underlying22 info9 rfl (by decide) (by omega) vy ([] : List ByteArray) (x3_1.take x5_2.toNat) Ao23 x5_2.toNat co23 (fun _ => True) (fun _ => False) ?hsq3 ?hxq3 ?aOq3 ?aRq3 (fun _ _ h => h) (fun _ h => h.elim) ?aFq3 ?aBq3 ?aSq3 ?aLq3 ?_; (case hwq3 => rfl); (case hsq3 => rfl); (case hxq3 => rfl); (case aRq3 => exact (Kd.C_below CA.out HB9.out)); (case aBq3 => exact HB9.out); (case aFq3 => exact (fun _ _ => trivial)); (case aOq3 => exact HY.out); (case aSq3 => exact HB9.out.size); (case aLq3 => have h_ := KK.out; simp only [List.length_take, List.length_append, List.length_cons, List.length_nil]; omega); intro vy4 wz_ hz_ hb hg_ hn_; rw [List.nil_append] at hz_; have HX' := Aside0.mk (Kd.R_grown HX.out hg_ (fun _ hk => hk)); clear HX; have HX := HX'; clear HX'; have HY' := Aside0.mk hz_; have HB9' := Aside0.mk hb; clear hz_ hb HB9 HY; have HB9 := HB9'; have HY := HY'; clear HB9' HY' hg_ hn_)
                          refine hK.out _ _ (by (try dsimp only); exact (HB9.out.cell LT.out).trans hx9) (fun hHeld2 => ?_)
                          clear hK K hHeld
                          have hHeld := hHeld2
                          clear hHeld2
                          try simp only [Act.put, List.setIfInBounds_toArray, List.set_cons_zero, List.set_cons_succ]
                          refine wpAnyH_ready (rs := [10]) (by kernel_rfl) (by simp) (AllReadyH.cons (o := ({ dst := some 54, op := Go.Op.call { callee := Go.Callee.builtin Go.Builtin.append, args := #[Go.Operand.tmp 48, Go.Operand.tmp 53], argTypes := #[22, 22] }, type := 22, pos := "ref.go:29", after := #[{ on := 4, ground := Go.Ground.data }, { on := 9, ground := Go.Ground.data }, { on := 4, ground := Go.Ground.chain }], guard := none } : Oper)) rfl (fun K hK => ?e3_10q3) AllReadyH.nil)
                          case e3_10q3 =>
                            (refine Kd.R_append_rows_step Kd.string (w0 := W9) W9.heap.size ?hwq3 (.tmp 48) (.tmp 53) 22 9 (.string ⟨#[]⟩) 16 rfl Try.underlying22 info9 rfl (by decide) (by omega) vy4 (x3_1.take x5_2.toNat) [(rdOf ByteArray.empty l0 x4_1)] Ax ([(rdOf ByteArray.empty l0 x4_1)] : List ByteArray).length cx (fun _ => True) (fun _ => False) ?hsq3 ?hxq3 ?aOq3 ?aRq3 (fun _ _ h => h) (fun _ h => h.elim) ?aFq3 ?aBq3 ?aSq3 ?aLq3 ?_; (case hwq3 => rfl); (case hsq3 => rfl); (case hxq3 => rfl); (case aRq3 => exact (Kd.R_reads' HX.out).2.2); (case aBq3 => exact HB9.out); (case aFq3 => exact (fun _ _ => trivial)); (case aOq3 => exact HY.out); (case aSq3 => exact HB9.out.size); (case aLq3 => have h_ := KK.out; simp only [List.length_take, List.length_append, List.length_cons, List.length_nil]; omega); intro vy10 wz_ hz_ hb hg_ hn_; have HY' := Aside0.mk hz_; have HB9' := Aside0.mk hb; clear hz_ hb HB9 HY; have HB9 := HB9'; have HY := HY'; clear HB9' HY' hg_ hn_)
                            refine hK.out _ _ (by (try dsimp only); exact (HB9.out.cell LT.out).trans hx9) (fun hHeld2 => ?_)
                            clear hK K hHeld
                            have hHeld := hHeld2
                            clear hHeld2
                            try simp only [Act.put, List.setIfInBounds_toArray, List.set_cons_zero, List.set_cons_succ]
                            refine wpAnyH_ready (rs := [14]) (by kernel_rfl) (by simp) (AllReadyH.cons (o := ({ dst := some 58, op := Go.Op.call { callee := Go.Callee.builtin Go.Builtin.append, args := #[Go.Operand.tmp 54, Go.Operand.tmp 57], argTypes := #[22, 22] }, type := 22, pos := "ref.go:29", after := #[{ on := 10, ground := Go.Ground.data }, { on := 13, ground := Go.Ground.data }, { on := 10, ground := Go.Ground.chain }], guard := none } : Oper)) rfl (fun K hK => ?e4_14q3) AllReadyH.nil)
                            case e4_14q3 =>
                              (refine Kd.R_append_rows_step Kd.string (w0 := W9) W9.heap.size ?hwq3 (.tmp 54) (.tmp 57) 22 9 (.string ⟨#[]⟩) 16 rfl Try.underlying22 info9 rfl (by decide) (by omega) vy10 ((x3_1.take x5_2.toNat) ++ [(rdOf ByteArray.empty l0 x4_1)]) (x3_1.drop x5_2.toNat) AB (x3_1.length - x5_2.toNat) (co23 - x5_2.toNat) (fun _ => True) (fun _ => False) ?hsq3 ?hxq3 ?aOq3 ?aRq3 (fun _ _ h => h) (fun _ h => h.elim) ?aFq3 ?aBq3 ?aSq3 ?aLq3 ?_; (case hwq3 => rfl); (case hsq3 => rfl); (case hxq3 => rfl); (case aRq3 => exact (Kd.C_below CB.out HB9.out)); (case aBq3 => exact HB9.out); (case aFq3 => exact (fun _ _ => trivial)); (case aOq3 => exact HY.out); (case aSq3 => exact HB9.out.size); (case aLq3 => have h_ := KK.out; simp only [List.length_take, List.length_append, List.length_cons, List.length_nil]; omega); intro vy14 wz_ hz_ hb hg_ hn_; have HY' := Aside0.mk hz_; have HB9' := Aside0.mk hb; clear hz_ hb HB9 HY; have HB9 := HB9'; have HY := HY'; clear HB9' HY' hg_ hn_)
                              refine hK.out _ _ (by (try dsimp only); exact (HB9.out.cell LT.out).trans hx9) (fun hHeld2 => ?_)
                              clear hK K hHeld
                              have hHeld := hHeld2
                              clear hHeld2
                              try simp only [Act.put, List.setIfInBounds_toArray, List.set_cons_zero, List.set_cons_succ]
                              refine wpAnyH_take (i := 15) (oi := ({ dst := some 3, op := Go.Op.assign (Go.Operand.tmp 58), type := 22, pos := "ref.go:29", after := #[{ on := 14, ground := Go.Ground.data }, { on := 14, ground := Go.Ground.chain }, { on := 0, ground := Go.Ground.phase }, { on := 1, ground := Go.Ground.phase }, { on := 2, ground := Go.Ground.phase }, { on := 3, ground := Go.Ground.phase }, { on := 4, ground := Go.Ground.phase }, { on := 5, ground := Go.Ground.phase }, { on := 6, ground := Go.Ground.phase }, { on := 7, ground := Go.Ground.phase }, { on := 8, ground := Go.Ground.phase }, { on := 9, ground := Go.Ground.phase }, { on := 10, ground := Go.Ground.phase }, { on := 11, ground := Go.Ground.phase }, { on := 12, ground := Go.Ground.phase }, { on := 13, ground := Go.Ground.phase }, { on := 14, ground := Go.Ground.phase }], guard := none } : Oper)) (v := ?_) rfl (by kernel_rfl) (by kernel_rfl) (by kernel_rfl) (fun _ _ _ h => h) (Or.inl ⟨by rfl, ?_⟩) (by assumption) ?_
                              rotate_left
                              · ((intro w hSw; (try dsimp only at hSw); go_simp) <;> with_reducible rfl)
                              try simp only [Act.put, List.setIfInBounds_toArray, List.set_cons_zero, List.set_cons_succ]
                              refine wpAnyH_done (by kernel_rfl) ?_ _
                              have HO292 := Aside0.mk (by have h_ := Kd.R_lower HY.out B9.out.size; rw [← TT.out] at h_; exact h_)
                              have HB := Aside0.mk (below_step B9.out HB9.out)
                              go_wp2
                              go_roundg k2
                              case measure => have := HK1.out; have := HK2.out; omega
                              case rel => exact ⟨(t290), (wrap64 (x4_1 + 1)), (by first | rfl | (simp; done) | (simp [*]; done)), H', ⟨by have := HK1.out; have := HK2.out; omega⟩, ⟨by (with_reducible repeat (first | apply Kd.R_alloc | apply Kd.R_drewN | apply Kd.R_drew)); exact Kd.R_mono HO292.out (fun _ hk => trivial)⟩, ⟨by repeat (first | (with_reducible first | exact HB.out | apply below_alloc | apply pw_below_drewN | apply below_drew1) | exact HB.out)⟩⟩
                  · rw [if_neg c21] at H
                    exact absurd H (by simp)
                · rw [if_neg c20] at H
                  exact absurd H (by simp)
              · rw [if_neg c19] at H
                have c19b0 : (x5_2 == (x3_1.length : Int)) = false := beq_eq_false_iff_ne.mpr c19
                have c19b1 : (x5_2 != (x3_1.length : Int)) = true := bne_iff_ne.mpr c19
                by_cases c25 : 0 ≤ x5_2
                · rw [if_pos c25] at H
                  exact absurd H (by simp)
                · rw [if_neg c25] at H
                  exact absurd H (by simp)
      · rw [if_neg c2] at H
        have c2b0 : decide (x4_1 < (l0.length : Int)) = false := decide_eq_false c2
        clear c2
        obtain rfl := Option.some.inj H
        go_wp2
        repeat (go_quiet (fail); try go_wp2)
        go_ret
        exact ⟨_, by first | rfl | (simp [errW_none, errW_some] <;> rfl) | (simp [*, errW_none, errW_some] <;> rfl), by (with_reducible repeat (first | apply Kd.R_alloc | apply Kd.R_drewN | apply Kd.R_drew)); exact HO_3.out, by repeat (first | (with_reducible first | exact HB.out | apply below_alloc | apply pw_below_drewN | apply below_drew1) | exact HB.out)⟩

end Go.Proofs.Ytkbeeiijodojkaa.QN
