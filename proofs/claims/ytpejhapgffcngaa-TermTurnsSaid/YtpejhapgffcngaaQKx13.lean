/- Words and walks of this claim. -/
import Derived.Test.YtpejhapgffcngaaXShort
import Derived.Test.YtpejhapgffcngaaQKApart
import Derived.Test.YtpejhapgffcngaaQKx12
namespace Go.Proofs.Ytpejhapgffcngaa.QK
open Go.RowKit Go.Proofs.YtpejhapgffcngaaW.PrintWords Go.Proofs.YtpejhapgffcngaaW.PrintLast Go.Proofs.YtpejhapgffcngaaW.PrintMore
attribute [local go_sem] max2_int min2_int max_two min_two max_three min_three max_four min_four
set_option linter.unusedVariables false
set_option linter.unusedSimpArgs false
mutual
def touchstoneref4_whole.j0 : Nat → Int → Int → Bool → Int → Int → List (S76) → Option (Bool)
 | 0, _, _, _, _, _, _ => none
 | k + 1, x1, x2, x18, x330000, x330001, x330002 => if x18 = true then (some false) else (if x330000 = 4 then (if x330001 < 0 then (touchstoneref4_whole.j1 k x1 x2 true x330000 x330001 x330002) else (if x330001 ≥ x1 then (touchstoneref4_whole.j1 k x1 x2 true x330000 x330001 x330002) else (touchstoneref4_whole.j1 k x1 x2 false x330000 x330001 x330002))) else (touchstoneref4_whole.j1 k x1 x2 (x330001 != 0) x330000 x330001 x330002))
def touchstoneref4_whole.j1 : Nat → Int → Int → Bool → Int → Int → List (S76) → Option (Bool)
 | 0, _, _, _, _, _, _ => none
 | k + 1, x1, x2, x42, x330000, x330001, x330002 => if x42 = true then (some false) else (touchstoneref4_whole.l0 k x1 x2 0 x330000 x330001 x330002)
def touchstoneref4_whole.l0 : Nat → Int → Int → Int → Int → Int → List (S76) → Option (Bool)
 | 0, _, _, _, _, _, _ => none
 | k + 1, x1, x2, x7, x330000, x330001, x330002 => if x7 < (x330002.length : Int) then (if 0 ≤ x7 then ((touchstoneref4_whole.f k ((rd_T76 x330002 x7).f0) ((rd_T76 x330002 x7).f1) ((rd_T76 x330002 x7).f2) x1 (wrap64 (x2 + 1))).bind fun t332 => (if t332 = true then (touchstoneref4_whole.l0 k x1 x2 (wrap64 (x7 + 1)) x330000 x330001 x330002) else (some false))) else (none)) else (some true)
def touchstoneref4_whole.f : Nat → Int → Int → List (S76) → Int → Int → Option (Bool)
 | 0, _, _, _, _, _ => none
 | k + 1, a0_0, a0_1, l0_2, a1, a2 => if a2 > 32 then (touchstoneref4_whole.j0 k a1 a2 true a0_0 a0_1 l0_2) else ((touchstoneref4_args.f k a0_0).bind fun t330 => (touchstoneref4_whole.j0 k a1 a2 (t330 != (l0_2.length : Int)) a0_0 a0_1 l0_2))
end
set_option maxHeartbeats 8000000 in
set_option maxRecDepth 100000 in
theorem touchstoneref4_whole.calls (k : Nat) : ∀ (a0_0 : Int) (a0_1 : Int) (A0_2 : Option Addr) (c0_2 : Nat) (l0_2 : List (S76)) (a1 : Int) (a2 : Int) (r : Bool) (w : World) (hr0_2 : Kd.C k76 w A0_2 l0_2.length l0_2) (hc0_2 : l0_2.length ≤ c0_2) (h : touchstoneref4_whole.f k a0_0 a0_1 l0_2 a1 a2 = some r),
  Calls Try.prog 124 #[.agg #[.int .i64 a0_0, .int .i64 a0_1, .slice A0_2 l0_2.length c0_2], .int .i64 a1, .int .i64 a2] w fun e w' => e = .returned (.bool r) ∧ Below w.heap.size w w' := by
 induction k using Nat.strongRecOn with
 | _ k ih =>
 intro a0_0 a0_1 A0_2 c0_2 l0_2 a1 a2 r w hr0_2 hc0_2 h
 cases k with
 | zero => exact absurd h (by simp [touchstoneref4_whole.f])
 | succ k =>
 simp only [touchstoneref4_whole.f] at h
 have hu76 := Try.underlying76
 have HR0_2 := aS hr0_2
 have HC0_2 := aS hc0_2
 clear hr0_2 hc0_2
 have HB := aS (Below.refl w.heap.size w)
 have H : (if a2 > 32 then (touchstoneref4_whole.j0 k a1 a2 true a0_0 a0_1 l0_2) else ((touchstoneref4_args.f k a0_0).bind fun t330 => (touchstoneref4_whole.j0 k a1 a2 (t330 != (l0_2.length : Int)) a0_0 a0_1 l0_2))) = some r := h
 clear h
 have HC4 := aS H
 clear H
 go_enter Try.func124, Try.ntmps124
 go_upto_region 1 with (first | ((with_reducible refine gate_dst (N := 3) rfl ?_); (try (refine gate_guard (by rfl) ?_; dsimp only)); refine bx (N := 3) (t := 76) #[.int .i64 a0_0, .int .i64 a0_1, .slice A0_2 l0_2.length c0_2] ?_; intro gb329 hg w5 hbox hb; have BK329 := aS (hbox); have GW329 := Gz hg HB; have GE329 := Gz hg HB; replace HB := Hs HB hb; clear hb hbox hg))
 repeat (go_quiet (first | ((with_reducible refine gate_dst (N := 3) rfl ?_); (try (refine gate_guard (by rfl) ?_; dsimp only)); refine bx (N := 3) (t := 76) #[.int .i64 a0_0, .int .i64 a0_1, .slice A0_2 l0_2.length c0_2] ?_; intro gb329 hg w5 hbox hb; have BK329 := aS (hbox); have GW329 := Gz hg HB; have GE329 := Gz hg HB; replace HB := Hs HB hb; clear hb hbox hg)); go_upto_region 1 with (first | ((with_reducible refine gate_dst (N := 3) rfl ?_); (try (refine gate_guard (by rfl) ?_; dsimp only)); refine bx (N := 3) (t := 76) #[.int .i64 a0_0, .int .i64 a0_1, .slice A0_2 l0_2.length c0_2] ?_; intro gb329 hg w5 hbox hb; have BK329 := aS (hbox); have GW329 := Gz hg HB; have GE329 := Gz hg HB; replace HB := Hs HB hb; clear hb hbox hg)))
 (try simp only [Act.put, List.setIfInBounds_toArray, List.set_cons_zero, List.set_cons_succ])
 go_cut [18] (fun v18 wc => ∃ (kq : Nat) (x18_3 : Bool), v18 = .bool x18_3 ∧ Aside0 (touchstoneref4_whole.j0 kq a1 a2 x18_3 a0_0 a0_1 l0_2 = some r) ∧ Aside0 (kq ≤ k) ∧ Aside0 (wc.heap[gb329]? = some (.cells #[.int .i64 a0_0, .int .i64 a0_1, (.slice A0_2 l0_2.length c0_2)] 76 (0, 0))) ∧ Aside0 (Below w.heap.size w wc))
 case first =>
  have H := HC4.out
  clear HC4
  by_cases c6 : a2 > 32
  ·rw [if_pos c6] at H
   have c6b0 : decide (32 < a2) = true := decide_eq_true c6
   clear c6
   (first | rw [c6b0] | (simp only [i64_w, i32_w]; rw [c6b0]) | skip)
   have H' := aS H
   clear H
   go_wp2
   repeat (go_quiet (fail); try go_wp2)
   go_meet
   case rel => exact ⟨_, (true), br, H', ⟨by first | omega | exact Nat.le_refl _⟩, ⟨bk BK329.out⟩, ⟨hbk HB⟩⟩
  rw [if_neg c6] at H
  have c6b0 : decide (32 < a2) = false := decide_eq_false c6
  clear c6
  (first | rw [c6b0] | (simp only [i64_w, i32_w]; rw [c6b0]) | skip)
  replace H := Option.bind_eq_some_iff.mp H
  obtain ⟨t330, A70, H⟩ := H
  try dsimp only at H
  have A7 := aS A70
  clear A70
  have H' := aS H
  clear H
  obtain ⟨hcz8_0, hcz8_1, hcz8_2⟩ := cl3 BK329
  obtain ⟨hfz8_0, hfz8_1, hfz8_2⟩ := fz3 BK329
  go_wp2_with (first | (go_at_call 143; (with_reducible refine (touchstoneref4_args.calls k a0_0 t330 _ A7.out).mono ?_); rintro e w' ⟨rfl, ⟨nd, rfl⟩⟩; (try first | exact ⟨rfl, _, World.drewN_drewN _ _ _⟩ | exact ⟨rfl, _, Eq.trans (World.drewN_drewN _ _ _) (congrArg (World.drewN _) (Nat.add_assoc _ _ _))⟩)))
  repeat (go_quiet (first | (go_at_call 143; (with_reducible refine (touchstoneref4_args.calls k a0_0 t330 _ A7.out).mono ?_); rintro e w' ⟨rfl, ⟨nd, rfl⟩⟩; (try first | exact ⟨rfl, _, World.drewN_drewN _ _ _⟩ | exact ⟨rfl, _, Eq.trans (World.drewN_drewN _ _ _) (congrArg (World.drewN _) (Nat.add_assoc _ _ _))⟩))); try go_wp2_with (first | (go_at_call 143; (with_reducible refine (touchstoneref4_args.calls k a0_0 t330 _ A7.out).mono ?_); rintro e w' ⟨rfl, ⟨nd, rfl⟩⟩; (try first | exact ⟨rfl, _, World.drewN_drewN _ _ _⟩ | exact ⟨rfl, _, Eq.trans (World.drewN_drewN _ _ _) (congrArg (World.drewN _) (Nat.add_assoc _ _ _))⟩))))
  go_meet
  case rel => exact ⟨_, ((t330 != (l0_2.length : Int))), br, H', ⟨by first | omega | exact Nat.le_refl _⟩, ⟨bk BK329.out⟩, ⟨hbk HB⟩⟩
 case rest =>
  clear HC4
  try clear c1
  try clear p2
  try clear c6
  try clear c6b0
  try clear hcz8_0 hcz8_1 hcz8_2
  try clear hfz8_0 hfz8_1 hfz8_2
  obtain ⟨kq, x18_3, rfl, HA, HJ3, BK329, HB⟩ := hcut
  cases kq with
  | zero => exact absurd HA.out (by simp [touchstoneref4_whole.j0])
  | succ kj3 =>
   have H := HA.out
   clear HA
   simp only [touchstoneref4_whole.j0] at H
   by_cases c9 : x18_3 = true
   ·subst c9
    have H1 : (some false) = some r := by rw [if_pos rfl] at H; exact H
    clear H
    have H := H1
    clear H1
    obtain rfl := Option.some.inj H
    go_wp2
    repeat (go_quiet (fail); try go_wp2)
    go_ret
    exact ⟨by first | rfl | (simp [errW_none, errW_some] <;> rfl) | (simp [*, errW_none, errW_some] <;> rfl), hbk HB⟩
   replace c9 := Bool.eq_false_iff.mpr c9
   subst c9
   have H1 : (if a0_0 = 4 then (if a0_1 < 0 then (touchstoneref4_whole.j1 kj3 a1 a2 true a0_0 a0_1 l0_2) else (if a0_1 ≥ a1 then (touchstoneref4_whole.j1 kj3 a1 a2 true a0_0 a0_1 l0_2) else (touchstoneref4_whole.j1 kj3 a1 a2 false a0_0 a0_1 l0_2))) else (touchstoneref4_whole.j1 kj3 a1 a2 (a0_1 != 0) a0_0 a0_1 l0_2)) = some r := by rw [if_neg (show ¬ (false = true) by decide)] at H; exact H
   clear H
   have H := H1
   clear H1
   have HC10 := aS H
   clear H
   go_upto_region 3 with (fail)
   repeat (go_quiet (fail); go_upto_region 3 with (fail))
   go_cut [42] (fun v42 wc => ∃ (kq : Nat) (x42_9 : Bool), v42 = .bool x42_9 ∧ Aside0 (touchstoneref4_whole.j1 kq a1 a2 x42_9 a0_0 a0_1 l0_2 = some r) ∧ Aside0 (kq ≤ kj3) ∧ Aside0 (wc.heap[gb329]? = some (.cells #[.int .i64 a0_0, .int .i64 a0_1, (.slice A0_2 l0_2.length c0_2)] 76 (0, 0))) ∧ Aside0 (Below w.heap.size w wc))
   case first =>
    have H := HC10.out
    clear HC10
    by_cases c11 : a0_0 = 4
    rotate_left
    ·rw [if_neg c11] at H
     have c11b0 : (a0_0 == 4) = false := beq_eq_false_iff_ne.mpr c11
     have c11b1 : (a0_0 != 4) = true := bne_iff_ne.mpr c11
     (first | rw [c11b0] | (simp only [i64_w, i32_w]; rw [c11b0]) | skip)
     have H' := aS H
     clear H
     obtain ⟨hcz17_0, hcz17_1, hcz17_2⟩ := cl3 BK329
     obtain ⟨hfz17_0, hfz17_1, hfz17_2⟩ := fz3 BK329
     go_wp2
     repeat (go_quiet (fail); try go_wp2)
     go_meet
     case rel => exact ⟨_, ((a0_1 != 0)), br, H', ⟨by have := HJ3.out; first | omega | exact Nat.le_refl _⟩, ⟨bk BK329.out⟩, ⟨hbk HB⟩⟩
    rw [if_pos c11] at H
    have c11b0 : (a0_0 == 4) = true := beq_iff_eq.mpr c11
    have c11b1 : (a0_0 != 4) = false := bne_eq_false_iff_eq.mpr c11
    clear c11
    (first | rw [c11b0] | (simp only [i64_w, i32_w]; rw [c11b0]) | skip)
    by_cases c12 : a0_1 < 0
    ·rw [if_pos c12] at H
     have c12b0 : decide (a0_1 < 0) = true := decide_eq_true c12
     clear c12
     have H' := aS H
     clear H
     obtain ⟨hcz13_0, hcz13_1, hcz13_2⟩ := cl3 BK329
     obtain ⟨hfz13_0, hfz13_1, hfz13_2⟩ := fz3 BK329
     go_wp2
     repeat (go_quiet (fail); try go_wp2)
     go_meet
     case rel => exact ⟨_, (true), br, H', ⟨by have := HJ3.out; first | omega | exact Nat.le_refl _⟩, ⟨bk BK329.out⟩, ⟨hbk HB⟩⟩
    rw [if_neg c12] at H
    have c12b0 : decide (a0_1 < 0) = false := decide_eq_false c12
    clear c12
    by_cases c14 : a0_1 ≥ a1
    ·rw [if_pos c14] at H
     have c14b0 : decide (a1 ≤ a0_1) = true := decide_eq_true c14
     clear c14
     have H' := aS H
     clear H
     obtain ⟨hcz15_0, hcz15_1, hcz15_2⟩ := cl3 BK329
     obtain ⟨hfz15_0, hfz15_1, hfz15_2⟩ := fz3 BK329
     go_wp2
     repeat (go_quiet (fail); try go_wp2)
     go_meet
     case rel => exact ⟨_, (true), br, H', ⟨by have := HJ3.out; first | omega | exact Nat.le_refl _⟩, ⟨bk BK329.out⟩, ⟨hbk HB⟩⟩
    rw [if_neg c14] at H
    have c14b0 : decide (a1 ≤ a0_1) = false := decide_eq_false c14
    clear c14
    have H' := aS H
    clear H
    obtain ⟨hcz16_0, hcz16_1, hcz16_2⟩ := cl3 BK329
    obtain ⟨hfz16_0, hfz16_1, hfz16_2⟩ := fz3 BK329
    go_wp2
    repeat (go_quiet (fail); try go_wp2)
    go_meet
    case rel => exact ⟨_, (false), br, H', ⟨by have := HJ3.out; first | omega | exact Nat.le_refl _⟩, ⟨bk BK329.out⟩, ⟨hbk HB⟩⟩
   case rest =>
    clear HC10
    try clear c1
    try clear p2
    try clear c6
    try clear c6b0
    try clear c9
    try clear c11
    try clear c11b0
    try clear c11b1
    try clear c12
    try clear c12b0
    try clear c14
    try clear c14b0
    try clear hcz13_0 hcz13_1 hcz13_2
    try clear hcz15_0 hcz15_1 hcz15_2
    try clear hcz16_0 hcz16_1 hcz16_2
    try clear hcz17_0 hcz17_1 hcz17_2
    try clear hcz8_0 hcz8_1 hcz8_2
    try clear hfz13_0 hfz13_1 hfz13_2
    try clear hfz15_0 hfz15_1 hfz15_2
    try clear hfz16_0 hfz16_1 hfz16_2
    try clear hfz17_0 hfz17_1 hfz17_2
    try clear hfz8_0 hfz8_1 hfz8_2
    try clear p2
    obtain ⟨kq, x42_9, rfl, HA, HJ9, BK329, HB⟩ := hcut
    cases kq with
    | zero => exact absurd HA.out (by simp [touchstoneref4_whole.j1])
    | succ kj9 =>
     have H := HA.out
     clear HA
     simp only [touchstoneref4_whole.j1] at H
     by_cases c18 : x42_9 = true
     ·subst c18
      have H1 : (some false) = some r := by rw [if_pos rfl] at H; exact H
      clear H
      have H := H1
      clear H1
      obtain rfl := Option.some.inj H
      go_wp2
      repeat (go_quiet (fail); try go_wp2)
      go_ret
      exact ⟨by first | rfl | (simp [errW_none, errW_some] <;> rfl) | (simp [*, errW_none, errW_some] <;> rfl), hbk HB⟩
     replace c18 := Bool.eq_false_iff.mpr c18
     subst c18
     have H1 : (touchstoneref4_whole.l0 kj9 a1 a2 0 a0_0 a0_1 l0_2) = some r := by rw [if_neg (show ¬ (false = true) by decide)] at H; exact H
     clear H
     have H := H1
     clear H1
     have H' := aS H
     clear H
     go_wp2
     repeat (go_quiet (fail); try go_wp2)
     go_loopg [7] kj9 (fun kq v7 w' => ∃ (x7_3 : Int), v7 = .int .i64 x7_3 ∧ Aside0 (touchstoneref4_whole.l0 kq a1 a2 x7_3 a0_0 a0_1 l0_2 = some r) ∧ Aside0 (kq ≤ kj9) ∧ Aside0 (w'.heap[gb329]? = some (.cells #[.int .i64 a0_0, .int .i64 a0_1, (.slice A0_2 l0_2.length c0_2)] 76 (0, 0))) ∧ Aside0 (Below w.heap.size w w'))
     case atStart => exact ⟨(0), br, H', ⟨Nat.le_refl _⟩, ⟨bk BK329.out⟩, ⟨hbk HB⟩⟩
     case round =>
      clear H'
      try clear c1
      try clear p2
      try clear c6
      try clear c6b0
      try clear c9
      try clear c11
      try clear c11b0
      try clear c11b1
      try clear c12
      try clear c12b0
      try clear c14
      try clear c14b0
      try clear c18
      try clear hcz13_0 hcz13_1 hcz13_2
      try clear hcz15_0 hcz15_1 hcz15_2
      try clear hcz16_0 hcz16_1 hcz16_2
      try clear hcz17_0 hcz17_1 hcz17_2
      try clear hcz8_0 hcz8_1 hcz8_2
      try clear hfz13_0 hfz13_1 hfz13_2
      try clear hfz15_0 hfz15_1 hfz15_2
      try clear hfz16_0 hfz16_1 hfz16_2
      try clear hfz17_0 hfz17_1 hfz17_2
      try clear hfz8_0 hfz8_1 hfz8_2
      try clear p2
      obtain ⟨x7_3, rfl, HA, HK3, BK329, HB⟩ := hrel
      cases gk with
      | zero => exact absurd HA.out (by simp [touchstoneref4_whole.l0])
      | succ k3 =>
       have H := HA.out
       clear HA
       simp only [touchstoneref4_whole.l0] at H
       by_cases c19 : x7_3 < (l0_2.length : Int)
       rotate_left
       ·rw [if_neg c19] at H
        have c19b0 : decide (x7_3 < (l0_2.length : Int)) = false := decide_eq_false c19
        clear c19
        obtain rfl := Option.some.inj H
        obtain ⟨hcz27_0, hcz27_1, hcz27_2⟩ := cl3 BK329
        obtain ⟨hfz27_0, hfz27_1, hfz27_2⟩ := fz3 BK329
        go_wp2
        repeat (go_quiet (fail); try go_wp2)
        go_ret
        exact ⟨by first | rfl | (simp [errW_none, errW_some] <;> rfl) | (simp [*, errW_none, errW_some] <;> rfl), hbk HB⟩
       rw [if_pos c19] at H
       have c19b0 : decide (x7_3 < (l0_2.length : Int)) = true := decide_eq_true c19
       clear c19
       by_cases c20 : 0 ≤ x7_3
       rotate_left
       ·rw [if_neg c20] at H
        exact absurd H (by simp)
       rw [if_pos c20] at H
       have c20b0 : decide (0 ≤ x7_3) = true := decide_eq_true c20
       clear c20
       replace H := Option.bind_eq_some_iff.mp H
       obtain ⟨t332, A210, H⟩ := H
       try dsimp only at H
       have A21 := aS A210
       clear A210
       by_cases c22 : t332 = true
       rotate_left
       ·replace c22 := Bool.eq_false_iff.mpr c22
        subst c22
        have H1 : (some false) = some r := by rw [if_neg (show ¬ (false = true) by decide)] at H; exact H
        clear H
        have H := H1
        clear H1
        obtain rfl := Option.some.inj H
        obtain ⟨hcz25_0, hcz25_1, hcz25_2⟩ := cl3 BK329
        obtain ⟨hfz25_0, hfz25_1, hfz25_2⟩ := fz3 BK329
        have p331 : 0 ≤ (x7_3 : Int) := of_decide_eq_true ba
        have q331 : x7_3 < (l0_2.length : Int) := of_decide_eq_true ba
        obtain ⟨ad331, A331_2, c331_2, e331, hx331_0, hx331_1, hx331_2, hl331_2, hi331_2⟩ := at_T76 HR0_2.out x7_3 p331 q331
        cases e331
        replace hx331_0 := (hc HB hx331_0 :)
        replace hx331_1 := (hc HB hx331_1 :)
        replace hx331_2 := (hc HB hx331_2 :)
        have HR331_2 := aS hi331_2
        have HC331_2 := aS hl331_2
        clear hi331_2 hl331_2
        replace p331 := eq_true p331
        replace q331 := eq_true q331
        go_wp2_with (first | (go_at_call 124; (with_reducible refine (ih k3 (by have := HJ3.out; have := HJ9.out; have := HK3.out; omega) ((rd_T76 l0_2 x7_3).f0) ((rd_T76 l0_2 x7_3).f1) _ _ ((rd_T76 l0_2 x7_3).f2) a1 (wrap64 (a2 + 1)) false _ ?side1 ?side2 A21.out).mono ?_); (case side1 => exact cr (Kd.C_below HR331_2.out HB.out)); (case side2 => exact HC331_2.out); rintro e w26 ⟨rfl, hb⟩; replace BK329 := Bk BK329 hb; replace HB := Hs HB hb; (try clear hb); (try clear hb2); (try clear hk); (try clear hi)))
        repeat (go_quiet (first | (go_at_call 124; (with_reducible refine (ih k3 (by have := HJ3.out; have := HJ9.out; have := HK3.out; omega) ((rd_T76 l0_2 x7_3).f0) ((rd_T76 l0_2 x7_3).f1) _ _ ((rd_T76 l0_2 x7_3).f2) a1 (wrap64 (a2 + 1)) false _ ?side1 ?side2 A21.out).mono ?_); (case side1 => exact cr (Kd.C_below HR331_2.out HB.out)); (case side2 => exact HC331_2.out); rintro e w26 ⟨rfl, hb⟩; replace BK329 := Bk BK329 hb; replace HB := Hs HB hb; (try clear hb); (try clear hb2); (try clear hk); (try clear hi))); try go_wp2_with (first | (go_at_call 124; (with_reducible refine (ih k3 (by have := HJ3.out; have := HJ9.out; have := HK3.out; omega) ((rd_T76 l0_2 x7_3).f0) ((rd_T76 l0_2 x7_3).f1) _ _ ((rd_T76 l0_2 x7_3).f2) a1 (wrap64 (a2 + 1)) false _ ?side1 ?side2 A21.out).mono ?_); (case side1 => exact cr (Kd.C_below HR331_2.out HB.out)); (case side2 => exact HC331_2.out); rintro e w26 ⟨rfl, hb⟩; replace BK329 := Bk BK329 hb; replace HB := Hs HB hb; (try clear hb); (try clear hb2); (try clear hk); (try clear hi))))
        go_ret
        exact ⟨by first | rfl | (simp [errW_none, errW_some] <;> rfl) | (simp [*, errW_none, errW_some] <;> rfl), hbk HB⟩
       subst c22
       have H1 : (touchstoneref4_whole.l0 k3 a1 a2 (wrap64 (x7_3 + 1)) a0_0 a0_1 l0_2) = some r := by rw [if_pos rfl] at H; exact H
       clear H
       have H := H1
       clear H1
       have H' := aS H
       clear H
       obtain ⟨hcz23_0, hcz23_1, hcz23_2⟩ := cl3 BK329
       obtain ⟨hfz23_0, hfz23_1, hfz23_2⟩ := fz3 BK329
       have p331 : 0 ≤ (x7_3 : Int) := of_decide_eq_true ba
       have q331 : x7_3 < (l0_2.length : Int) := of_decide_eq_true ba
       obtain ⟨ad331, A331_2, c331_2, e331, hx331_0, hx331_1, hx331_2, hl331_2, hi331_2⟩ := at_T76 HR0_2.out x7_3 p331 q331
       cases e331
       replace hx331_0 := (hc HB hx331_0 :)
       replace hx331_1 := (hc HB hx331_1 :)
       replace hx331_2 := (hc HB hx331_2 :)
       have HR331_2 := aS hi331_2
       have HC331_2 := aS hl331_2
       clear hi331_2 hl331_2
       replace p331 := eq_true p331
       replace q331 := eq_true q331
       go_wp2_with (first | (go_at_call 124; (with_reducible refine (ih k3 (by have := HJ3.out; have := HJ9.out; have := HK3.out; omega) ((rd_T76 l0_2 x7_3).f0) ((rd_T76 l0_2 x7_3).f1) _ _ ((rd_T76 l0_2 x7_3).f2) a1 (wrap64 (a2 + 1)) true _ ?side1 ?side2 A21.out).mono ?_); (case side1 => exact cr (Kd.C_below HR331_2.out HB.out)); (case side2 => exact HC331_2.out); rintro e w24 ⟨rfl, hb⟩; replace BK329 := Bk BK329 hb; replace HB := Hs HB hb; (try clear hb); (try clear hb2); (try clear hk); (try clear hi)))
       repeat (go_quiet (first | (go_at_call 124; (with_reducible refine (ih k3 (by have := HJ3.out; have := HJ9.out; have := HK3.out; omega) ((rd_T76 l0_2 x7_3).f0) ((rd_T76 l0_2 x7_3).f1) _ _ ((rd_T76 l0_2 x7_3).f2) a1 (wrap64 (a2 + 1)) true _ ?side1 ?side2 A21.out).mono ?_); (case side1 => exact cr (Kd.C_below HR331_2.out HB.out)); (case side2 => exact HC331_2.out); rintro e w24 ⟨rfl, hb⟩; replace BK329 := Bk BK329 hb; replace HB := Hs HB hb; (try clear hb); (try clear hb2); (try clear hk); (try clear hi))); try go_wp2_with (first | (go_at_call 124; (with_reducible refine (ih k3 (by have := HJ3.out; have := HJ9.out; have := HK3.out; omega) ((rd_T76 l0_2 x7_3).f0) ((rd_T76 l0_2 x7_3).f1) _ _ ((rd_T76 l0_2 x7_3).f2) a1 (wrap64 (a2 + 1)) true _ ?side1 ?side2 A21.out).mono ?_); (case side1 => exact cr (Kd.C_below HR331_2.out HB.out)); (case side2 => exact HC331_2.out); rintro e w24 ⟨rfl, hb⟩; replace BK329 := Bk BK329 hb; replace HB := Hs HB hb; (try clear hb); (try clear hb2); (try clear hk); (try clear hi))))
       go_roundg k3
       case measure => have := HJ3.out; have := HJ9.out; have := HK3.out; omega
       case rel => exact ⟨(wrap64 (x7_3 + 1)), br, H', ⟨by have := HJ3.out; have := HJ9.out; have := HK3.out; omega⟩, ⟨bk BK329.out⟩, ⟨hbk HB⟩⟩
def touchstoneref4_May.f (k : Nat) (a0_0 : Int) (a0_1 : Int) (l0_2 : List (S76)) (a1 : Int) : Option (Bool) := (touchstoneref4_Parts.f k a0_0 a0_1 l0_2 64).bind fun t334 => (if t334 ≤ 64 then ((touchstoneref4_whole.f k a0_0 a0_1 l0_2 (mn (mx a1 0) 4) 1).bind fun t335 => (some t335)) else (some false))
set_option maxHeartbeats 8000000 in
set_option maxRecDepth 100000 in
theorem touchstoneref4_May.calls (k : Nat) (a0_0 : Int) (a0_1 : Int) (A0_2 : Option Addr) (c0_2 : Nat) (l0_2 : List (S76)) (a1 : Int) (r : Bool) (w : World) (hr0_2 : Kd.C k76 w A0_2 l0_2.length l0_2) (hc0_2 : l0_2.length ≤ c0_2) (h : touchstoneref4_May.f k a0_0 a0_1 l0_2 a1 = some r) :
  Calls Try.prog 99 #[.agg #[.int .i64 a0_0, .int .i64 a0_1, .slice A0_2 l0_2.length c0_2], .int .i64 a1] w fun e w' => e = .returned (.bool r) ∧ Below w.heap.size w w' := by
 have hu76 := Try.underlying76
 have HR0_2 := aS hr0_2
 have HC0_2 := aS hc0_2
 clear hr0_2 hc0_2
 have HB := aS (Below.refl w.heap.size w)
 have H : ((touchstoneref4_Parts.f k a0_0 a0_1 l0_2 64).bind fun t334 => (if t334 ≤ 64 then ((touchstoneref4_whole.f k a0_0 a0_1 l0_2 (mn (mx a1 0) 4) 1).bind fun t335 => (some t335)) else (some false))) = some r := h
 clear h
 replace H := Option.bind_eq_some_iff.mp H
 obtain ⟨t334, A30, H⟩ := H
 try dsimp only at H
 have A3 := aS A30
 clear A30
 by_cases c4 : t334 ≤ 64
 rotate_left
 ·rw [if_neg c4] at H
  have c4b0 : decide (t334 ≤ 64) = false := decide_eq_false c4
  clear c4
  obtain rfl := Option.some.inj H
  go_enter Try.func99, Try.ntmps99
  go_wp2_with (first | ((with_reducible refine gate_dst (N := 2) rfl ?_); (try (refine gate_guard (by rfl) ?_; dsimp only)); refine bx (N := 2) (t := 76) #[.int .i64 a0_0, .int .i64 a0_1, .slice A0_2 l0_2.length c0_2] ?_; intro gb333 hg w13 hbox hb; have BK333 := aS (hbox); have GW333 := Gz hg HB; have GE333 := Gz hg HB; replace HB := Hs HB hb; clear hb hbox hg; obtain ⟨hcz14_0, hcz14_1, hcz14_2⟩ := cl3 BK333; obtain ⟨hfz14_0, hfz14_1, hfz14_2⟩ := fz3 BK333) | ((with_reducible refine gate_callee (f := 123) rfl ?_); refine goesL_ (some 6) rfl rfl Try.func123 (by kernel_rfl) rfl #[.agg #[.int .i64 a0_0, .int .i64 a0_1, .slice A0_2 l0_2.length c0_2], .int .i64 64] rfl bl ?_; (with_reducible refine (touchstoneref4_Parts.calls k a0_0 a0_1 _ _ l0_2 64 t334 _ ?side1 ?side2 A3.out).mono ?_); (case side1 => exact cr (Kd.C_below HR0_2.out HB.out)); (case side2 => exact HC0_2.out); rintro e w15 ⟨rfl, hb⟩; refine ⟨_, rfl, ?_⟩; replace BK333 := Bk BK333 hb; replace HB := Hs HB hb; (try clear hb); (try clear hb2); (try clear hk); (try clear hi)))
  go_ret
  exact ⟨by first | rfl | (simp [errW_none, errW_some] <;> rfl) | (simp [*, errW_none, errW_some] <;> rfl), hbk HB⟩
 rw [if_pos c4] at H
 have c4b0 : decide (t334 ≤ 64) = true := decide_eq_true c4
 clear c4
 obtain ⟨ji5, hji5⟩ : ∃ j_ : Int, (mx a1 0) = j_ := ⟨_, rfl⟩
 replace H : ((touchstoneref4_whole.f k a0_0 a0_1 l0_2 (mn (ji5) 4) 1).bind fun t335 => (some t335)) = some r := by first | (rw [hji5] at H; exact H) | (simp only [hji5] at H ⊢; exact H)
 (try rw [hji5] at A3)
 (try (have hji5l : 0 ≤ ji5 := by (rw [← hji5]; unfold mx; (repeat' split) <;> omega)))
 (try (have hji5m : 0 ≤ ji5 := by omega))
 have hji5_ : (if a1 < 0 then 0 else a1) = ji5 := hji5
 obtain ⟨ji6, hji6⟩ : ∃ j_ : Int, (mn (ji5) 4) = j_ := ⟨_, rfl⟩
 replace H : ((touchstoneref4_whole.f k a0_0 a0_1 l0_2 (ji6) 1).bind fun t335 => (some t335)) = some r := by first | (rw [hji6] at H; exact H) | (simp only [hji6] at H ⊢; exact H)
 (try rw [hji6] at A3)
 have hji6_ : (if 4 < (ji5) then 4 else (ji5)) = ji6 := hji6
 replace H := Option.bind_eq_some_iff.mp H
 obtain ⟨t335, A70, H⟩ := H
 try dsimp only at H
 have A7 := aS A70
 clear A70
 obtain rfl := Option.some.inj H
 go_enter Try.func99, Try.ntmps99
 go_wp2_with (first | ((with_reducible refine gate_dst (N := 2) rfl ?_); (try (refine gate_guard (by rfl) ?_; dsimp only)); refine bx (N := 2) (t := 76) #[.int .i64 a0_0, .int .i64 a0_1, .slice A0_2 l0_2.length c0_2] ?_; intro gb333 hg w8 hbox hb; have BK333 := aS (hbox); have GW333 := Gz hg HB; have GE333 := Gz hg HB; replace HB := Hs HB hb; clear hb hbox hg; obtain ⟨hcz9_0, hcz9_1, hcz9_2⟩ := cl3 BK333; obtain ⟨hfz9_0, hfz9_1, hfz9_2⟩ := fz3 BK333) | ((with_reducible refine gate_callee (f := 123) rfl ?_); refine goesL_ (some 6) rfl rfl Try.func123 (by kernel_rfl) rfl #[.agg #[.int .i64 a0_0, .int .i64 a0_1, .slice A0_2 l0_2.length c0_2], .int .i64 64] rfl bl ?_; (with_reducible refine (touchstoneref4_Parts.calls k a0_0 a0_1 _ _ l0_2 64 t334 _ ?side1 ?side2 A3.out).mono ?_); (case side1 => exact cr (Kd.C_below HR0_2.out HB.out)); (case side2 => exact HC0_2.out); rintro e w10 ⟨rfl, hb⟩; refine ⟨_, rfl, ?_⟩; replace BK333 := Bk BK333 hb; replace HB := Hs HB hb; (try clear hb); (try clear hb2); (try clear hk); (try clear hi); obtain ⟨hcz11_0, hcz11_1, hcz11_2⟩ := cl3 BK333; obtain ⟨hfz11_0, hfz11_1, hfz11_2⟩ := fz3 BK333) | (go_at_call 124; (with_reducible refine (touchstoneref4_whole.calls k a0_0 a0_1 _ _ l0_2 ji6 1 t335 _ ?side1 ?side2 A7.out).mono ?_); (case side1 => exact cr (Kd.C_below HR0_2.out HB.out)); (case side2 => exact HC0_2.out); rintro e w12 ⟨rfl, hb⟩; replace BK333 := Bk BK333 hb; replace HB := Hs HB hb; (try clear hb); (try clear hb2); (try clear hk); (try clear hi)))
 go_ret
 exact ⟨by first | rfl | (simp [errW_none, errW_some] <;> rfl) | (simp only [← hji5, ← hji6]; first | rfl | (simp [errW_none, errW_some] <;> rfl)) | (simp [*, errW_none, errW_some] <;> rfl), hbk HB⟩
def touchstonelaw5_lightLevels.l0 : Nat → List (S76) → Int → Option (Bool)
 | 0, _, _ => none
 | k + 1, x0, x3 => if x3 < (x0.length : Int) then (if 0 ≤ x3 then ((touchstoneref4_May.f k ((rd_T76 x0 x3).f0) ((rd_T76 x0 x3).f1) ((rd_T76 x0 x3).f2) 4).bind fun t337 => (if t337 = true then (touchstonelaw5_lightLevels.l0 k x0 (wrap64 (x3 + 1))) else (some false))) else (none)) else (some true)
def touchstonelaw5_lightLevels.f (k : Nat) (l0 : List (S76)) : Option (Bool) := touchstonelaw5_lightLevels.l0 k l0 0
set_option maxHeartbeats 8000000 in
set_option maxRecDepth 100000 in
theorem touchstonelaw5_lightLevels.calls (k : Nat) (A0 : Option Addr) (c0 : Nat) (l0 : List (S76)) (r : Bool) (w : World) (hr0 : Kd.C k76 w A0 l0.length l0) (hc0 : l0.length ≤ c0) (h : touchstonelaw5_lightLevels.f k l0 = some r) :
  Calls Try.prog 50 #[.slice A0 l0.length c0] w fun e w' => e = .returned (.bool r) ∧ Below w.heap.size w w' := by
 have hu76 := Try.underlying76
 have HR0 := aS hr0
 have HC0 := aS hc0
 clear hr0 hc0
 have HB := aS (Below.refl w.heap.size w)
 have H : (touchstonelaw5_lightLevels.l0 k l0 0) = some r := h
 clear h
 have H' := aS H
 clear H
 go_enter Try.func50, Try.ntmps50
 go_wp2
 go_loopg [3] k (fun kq v3 w' => ∃ (x3_1 : Int), v3 = .int .i64 x3_1 ∧ Aside0 (touchstonelaw5_lightLevels.l0 kq l0 x3_1 = some r) ∧ Aside0 (kq ≤ k) ∧ Aside0 (Below w.heap.size w w'))
 case atStart => exact ⟨(0), br, H', ⟨Nat.le_refl _⟩, ⟨hbk HB⟩⟩
 case round =>
  clear H'
  obtain ⟨x3_1, rfl, HA, HK1, HB⟩ := hrel
  cases gk with
  | zero => exact absurd HA.out (by simp [touchstonelaw5_lightLevels.l0])
  | succ k1 =>
   have H := HA.out
   clear HA
   simp only [touchstonelaw5_lightLevels.l0] at H
   by_cases c2 : x3_1 < (l0.length : Int)
   rotate_left
   ·rw [if_neg c2] at H
    have c2b0 : decide (x3_1 < (l0.length : Int)) = false := decide_eq_false c2
    clear c2
    obtain rfl := Option.some.inj H
    go_wp2
    go_ret
    exact ⟨by first | rfl | (simp [errW_none, errW_some] <;> rfl) | (simp [*, errW_none, errW_some] <;> rfl), hbk HB⟩
   rw [if_pos c2] at H
   have c2b0 : decide (x3_1 < (l0.length : Int)) = true := decide_eq_true c2
   clear c2
   by_cases c3 : 0 ≤ x3_1
   rotate_left
   ·rw [if_neg c3] at H
    exact absurd H (by simp)
   rw [if_pos c3] at H
   have c3b0 : decide (0 ≤ x3_1) = true := decide_eq_true c3
   clear c3
   replace H := Option.bind_eq_some_iff.mp H
   obtain ⟨t337, A40, H⟩ := H
   try dsimp only at H
   have A4 := aS A40
   clear A40
   by_cases c5 : t337 = true
   ·subst c5
    have H1 : (touchstonelaw5_lightLevels.l0 k1 l0 (wrap64 (x3_1 + 1))) = some r := by rw [if_pos rfl] at H; exact H
    clear H
    have H := H1
    clear H1
    have H' := aS H
    clear H
    have p336 : 0 ≤ (x3_1 : Int) := of_decide_eq_true ba
    have q336 : x3_1 < (l0.length : Int) := of_decide_eq_true ba
    obtain ⟨ad336, A336_2, c336_2, e336, hx336_0, hx336_1, hx336_2, hl336_2, hi336_2⟩ := at_T76 HR0.out x3_1 p336 q336
    cases e336
    replace hx336_0 := (hc HB hx336_0 :)
    replace hx336_1 := (hc HB hx336_1 :)
    replace hx336_2 := (hc HB hx336_2 :)
    have HR336_2 := aS hi336_2
    have HC336_2 := aS hl336_2
    clear hi336_2 hl336_2
    replace p336 := eq_true p336
    replace q336 := eq_true q336
    go_wp2_with (first | ((with_reducible refine gate_callee (f := 99) rfl ?_); refine goesL_ (some 14) rfl rfl Try.func99 (by kernel_rfl) rfl #[.agg #[.int .i64 ((rd_T76 l0 x3_1).f0), .int .i64 ((rd_T76 l0 x3_1).f1), .slice A336_2 ((rd_T76 l0 x3_1).f2).length c336_2], .int .i64 4] rfl bl ?_; (with_reducible refine (touchstoneref4_May.calls k1 ((rd_T76 l0 x3_1).f0) ((rd_T76 l0 x3_1).f1) _ _ ((rd_T76 l0 x3_1).f2) 4 true _ ?side1 ?side2 A4.out).mono ?_); (case side1 => exact cr (Kd.C_below HR336_2.out HB.out)); (case side2 => exact HC336_2.out); rintro e w6 ⟨rfl, hb⟩; refine ⟨_, rfl, ?_⟩; replace HB := Hs HB hb; (try clear hb); (try clear hb2); (try clear hk); (try clear hi)))
    go_roundg k1
    case measure => have := HK1.out; omega
    case rel => exact ⟨(wrap64 (x3_1 + 1)), br, H', ⟨by have := HK1.out; omega⟩, ⟨hbk HB⟩⟩
   replace c5 := Bool.eq_false_iff.mpr c5
   subst c5
   have H1 : (some false) = some r := by rw [if_neg (show ¬ (false = true) by decide)] at H; exact H
   clear H
   have H := H1
   clear H1
   obtain rfl := Option.some.inj H
   have p336 : 0 ≤ (x3_1 : Int) := of_decide_eq_true ba
   have q336 : x3_1 < (l0.length : Int) := of_decide_eq_true ba
   obtain ⟨ad336, A336_2, c336_2, e336, hx336_0, hx336_1, hx336_2, hl336_2, hi336_2⟩ := at_T76 HR0.out x3_1 p336 q336
   cases e336
   replace hx336_0 := (hc HB hx336_0 :)
   replace hx336_1 := (hc HB hx336_1 :)
   replace hx336_2 := (hc HB hx336_2 :)
   have HR336_2 := aS hi336_2
   have HC336_2 := aS hl336_2
   clear hi336_2 hl336_2
   replace p336 := eq_true p336
   replace q336 := eq_true q336
   go_wp2_with (first | ((with_reducible refine gate_callee (f := 99) rfl ?_); refine goesL_ (some 14) rfl rfl Try.func99 (by kernel_rfl) rfl #[.agg #[.int .i64 ((rd_T76 l0 x3_1).f0), .int .i64 ((rd_T76 l0 x3_1).f1), .slice A336_2 ((rd_T76 l0 x3_1).f2).length c336_2], .int .i64 4] rfl bl ?_; (with_reducible refine (touchstoneref4_May.calls k1 ((rd_T76 l0 x3_1).f0) ((rd_T76 l0 x3_1).f1) _ _ ((rd_T76 l0 x3_1).f2) 4 false _ ?side1 ?side2 A4.out).mono ?_); (case side1 => exact cr (Kd.C_below HR336_2.out HB.out)); (case side2 => exact HC336_2.out); rintro e w7 ⟨rfl, hb⟩; refine ⟨_, rfl, ?_⟩; replace HB := Hs HB hb; (try clear hb); (try clear hb2); (try clear hk); (try clear hi)))
   go_ret
   exact ⟨by first | rfl | (simp [errW_none, errW_some] <;> rfl) | (simp [*, errW_none, errW_some] <;> rfl), hbk HB⟩
end Go.Proofs.Ytpejhapgffcngaa.QK

