/- Words and walks of this claim. -/
import Derived.Test.YtpejhapgffcngaaXShort
import Derived.Test.YtpejhapgffcngaaQKLMay
import Derived.Test.YtpejhapgffcngaaQKApart
import Derived.Test.YtpejhapgffcngaaQKx8
namespace Go.Proofs.Ytpejhapgffcngaa.QK
open Go.RowKit Go.Proofs.YtpejhapgffcngaaW.PrintWords Go.Proofs.YtpejhapgffcngaaW.PrintLast Go.Proofs.YtpejhapgffcngaaW.PrintMore
attribute [local go_sem] max2_int min2_int max_two min_two max_three min_three max_four min_four
set_option linter.unusedVariables false
set_option linter.unusedSimpArgs false
mutual
def term_scoped.j0 : Nat → Int → Int → Int → Bool → Int → Int → ByteArray → List (S76) → List (S27) → Option (Int)
 | 0, _, _, _, _, _, _, _, _, _ => none
 | k + 1, x1, x2, x3, x14, x267000, x267001, x267002, x267003, x267004 => if x14 = true then (some 8) else (if (x267003.length : Int) > 4 then (some 7) else (term_scoped.l0 k x1 x2 x3 x267003 (x267003.length : Int) 0 x267000 x267001 x267002 x267003 x267004))
def term_scoped.l0 : Nat → Int → Int → Int → List (S76) → Int → Int → Int → Int → ByteArray → List (S76) → List (S27) → Option (Int)
 | 0, _, _, _, _, _, _, _, _, _, _, _ => none
 | k + 1, x1, x2, x3, x38, x39, x40, x267000, x267001, x267002, x267003, x267004 => if x40 < x39 then (if 0 ≤ x40 then (if x40 < (x38.length : Int) then ((level_May.f k ((rd_T76 x38 x40).f0) ((rd_T76 x38 x40).f1) ((rd_T76 x38 x40).f2) x3).bind fun t269 => (if t269 = true then (term_scoped.l0 k x1 x2 x3 x38 x39 (wrap64 (x40 + 1)) x267000 x267001 x267002 x267003 x267004) else (some 7))) else (none)) else (none)) else (if x267000 = 2 then (if x267002.toList = ([] : List UInt8) then (term_scoped.j2 k x1 x2 x3 true x267000 x267001 x267002 x267003 x267004) else (term_scoped.j2 k x1 x2 x3 (decide ((x267002.size : Int) > 24)) x267000 x267001 x267002 x267003 x267004)) else (term_scoped.j2 k x1 x2 x3 false x267000 x267001 x267002 x267003 x267004))
def term_scoped.j2 : Nat → Int → Int → Int → Bool → Int → Int → ByteArray → List (S76) → List (S27) → Option (Int)
 | 0, _, _, _, _, _, _, _, _, _ => none
 | k + 1, x1, x2, x3, x62, x267000, x267001, x267002, x267003, x267004 => if x62 = true then (some 9) else (term_scoped.l1 k x1 x2 x3 x267004 (x267004.length : Int) 0 x267000 x267001 x267002 x267003 x267004)
def term_scoped.l1 : Nat → Int → Int → Int → List (S27) → Int → Int → Int → Int → ByteArray → List (S76) → List (S27) → Option (Int)
 | 0, _, _, _, _, _, _, _, _, _, _, _ => none
 | k + 1, x1, x2, x3, x64, x65, x66, x267000, x267001, x267002, x267003, x267004 => if x66 < x65 then (if 0 ≤ x66 then (if x66 < (x64.length : Int) then ((term_binds.f x267000 x66).bind fun t272 => ((term_scoped.f k ((rd_T27 x64 x66).f0) ((rd_T27 x64 x66).f1) ((rd_T27 x64 x66).f2) ((rd_T27 x64 x66).f3) ((rd_T27 x64 x66).f4) x1 (wrap64 (x2 + t272)) x3).bind fun t273 => (if t273 = 0 then (term_scoped.l1 k x1 x2 x3 x64 x65 (wrap64 (x66 + 1)) x267000 x267001 x267002 x267003 x267004) else (some t273)))) else (none)) else (none)) else (some 0)
def term_scoped.f : Nat → Int → Int → ByteArray → List (S76) → List (S27) → Int → Int → Int → Option (Int)
 | 0, _, _, _, _, _, _, _, _ => none
 | k + 1, a0_0, a0_1, a0_2, l0_3, l0_4, a1, a2, a3 => if a0_0 = 0 then (if (wrap64 (a0_1 - a2)) ≥ a1 then (term_scoped.j0 k a1 a2 a3 (decide (a0_1 ≥ a2)) a0_0 a0_1 a0_2 l0_3 l0_4) else (term_scoped.j0 k a1 a2 a3 false a0_0 a0_1 a0_2 l0_3 l0_4)) else (term_scoped.j0 k a1 a2 a3 false a0_0 a0_1 a0_2 l0_3 l0_4)
end
def term_scoped.T16 : Bool × List (List Nat × List Nat) := (true, [([], []), ([], []), ([], []), ([], []), ([3], [3]), ([], []), ([4, 5], [4, 5]), ([2, 6], [2, 6]), ([], []), ([0, 1, 7, 8, 6], [0, 1, 7, 8]), ([9, 9, 0, 1, 2, 3, 4, 5, 6, 7, 8, 9], [9])])
def term_scoped.B16 : List Nat := [0, 0, 0, 0, 8, 0, 56, 124, 0, 511, 1023]
theorem term_scoped.tab16 : rtab .any (opsOf Try.f98 16) = term_scoped.T16 := by kernel_rfl
theorem term_scoped.bits16 : waitsOk term_scoped.T16.2 term_scoped.B16 = true := by kernel_rfl
set_option maxHeartbeats 8000000 in
set_option maxRecDepth 100000 in
theorem term_scoped.calls (k : Nat) : ∀ (a0_0 : Int) (a0_1 : Int) (a0_2 : ByteArray) (A0_3 : Option Addr) (c0_3 : Nat) (l0_3 : List (S76)) (A0_4 : Option Addr) (c0_4 : Nat) (l0_4 : List (S27)) (a1 : Int) (a2 : Int) (a3 : Int) (r : Int) (w : World) (hr0_3 : Kd.C k76 w A0_3 l0_3.length l0_3) (hc0_3 : l0_3.length ≤ c0_3) (hr0_4 : Kd.C k27 w A0_4 l0_4.length l0_4) (hc0_4 : l0_4.length ≤ c0_4) (h : term_scoped.f k a0_0 a0_1 a0_2 l0_3 l0_4 a1 a2 a3 = some r),
  Calls Try.prog 98 #[.agg #[.int .i64 a0_0, .int .i64 a0_1, .string a0_2, .slice A0_3 l0_3.length c0_3, .slice A0_4 l0_4.length c0_4], .int .i64 a1, .int .i64 a2, .int .i64 a3] w fun e w' => e = .returned (.int .i64 r) ∧ Below w.heap.size w w' := by
 induction k using Nat.strongRecOn with
 | _ k ih =>
 intro a0_0 a0_1 a0_2 A0_3 c0_3 l0_3 A0_4 c0_4 l0_4 a1 a2 a3 r w hr0_3 hc0_3 hr0_4 hc0_4 h
 cases k with
 | zero => exact absurd h (by simp [term_scoped.f])
 | succ k =>
 simp only [term_scoped.f] at h
 have hu27 := Try.underlying27
 have hu76 := Try.underlying76
 have HR0_3 := aS hr0_3
 have HC0_3 := aS hc0_3
 clear hr0_3 hc0_3
 have HR0_4 := aS hr0_4
 have HC0_4 := aS hc0_4
 clear hr0_4 hc0_4
 have HB := aS (Below.refl w.heap.size w)
 have H : (if a0_0 = 0 then (if (wrap64 (a0_1 - a2)) ≥ a1 then (term_scoped.j0 k a1 a2 a3 (decide (a0_1 ≥ a2)) a0_0 a0_1 a0_2 l0_3 l0_4) else (term_scoped.j0 k a1 a2 a3 false a0_0 a0_1 a0_2 l0_3 l0_4)) else (term_scoped.j0 k a1 a2 a3 false a0_0 a0_1 a0_2 l0_3 l0_4)) = some r := h
 clear h
 have HC5 := aS H
 clear H
 go_enter Try.func98, Try.ntmps98
 go_upto_region 1 with (first | ((with_reducible refine gate_dst (N := 4) rfl ?_); (try (refine gate_guard (by rfl) ?_; dsimp only)); refine bx (N := 4) (t := 27) #[.int .i64 a0_0, .int .i64 a0_1, .string a0_2, .slice A0_3 l0_3.length c0_3, .slice A0_4 l0_4.length c0_4] ?_; intro gb266 hg w6 hbox hb; have BK266 := aS (hbox); have GW266 := Gz hg HB; have GE266 := Gz hg HB; replace HB := Hs HB hb; clear hb hbox hg))
 (try simp only [Act.put, List.setIfInBounds_toArray, List.set_cons_zero, List.set_cons_succ])
 go_cut [14] (fun v14 wc => ∃ (kq : Nat) (x14_4 : Bool), v14 = .bool x14_4 ∧ Aside0 (term_scoped.j0 kq a1 a2 a3 x14_4 a0_0 a0_1 a0_2 l0_3 l0_4 = some r) ∧ Aside0 (kq ≤ k) ∧ Aside0 (wc.heap[gb266]? = some (.cells #[.int .i64 a0_0, .int .i64 a0_1, .string a0_2, (.slice A0_3 l0_3.length c0_3), (.slice A0_4 l0_4.length c0_4)] 27 (0, 0))) ∧ Aside0 (Below w.heap.size w wc))
 case first =>
  have H := HC5.out
  clear HC5
  by_cases c7 : a0_0 = 0
  rotate_left
  ·rw [if_neg c7] at H
   have c7b0 : (a0_0 == 0) = false := beq_eq_false_iff_ne.mpr c7
   have c7b1 : (a0_0 != 0) = true := bne_iff_ne.mpr c7
   (first | rw [c7b0] | (simp only [i64_w, i32_w]; rw [c7b0]) | skip)
   have H' := aS H
   clear H
   obtain ⟨hcz11_0, hcz11_1, hcz11_2, hcz11_3, hcz11_4⟩ := cl5 BK266
   obtain ⟨hfz11_0, hfz11_1, hfz11_2, hfz11_3, hfz11_4⟩ := fz5 BK266
   go_wp2
   go_meet
   case rel => exact ⟨_, (false), br, H', ⟨by first | omega | exact Nat.le_refl _⟩, ⟨bk BK266.out⟩, ⟨hbk HB⟩⟩
  rw [if_pos c7] at H
  have c7b0 : (a0_0 == 0) = true := beq_iff_eq.mpr c7
  have c7b1 : (a0_0 != 0) = false := bne_eq_false_iff_eq.mpr c7
  clear c7
  (first | rw [c7b0] | (simp only [i64_w, i32_w]; rw [c7b0]) | skip)
  by_cases c8 : (wrap64 (a0_1 - a2)) ≥ a1
  rotate_left
  ·rw [if_neg c8] at H
   have c8b0 : decide (a1 ≤ (wrap64 (a0_1 - a2))) = false := decide_eq_false c8
   clear c8
   have H' := aS H
   clear H
   obtain ⟨hcz10_0, hcz10_1, hcz10_2, hcz10_3, hcz10_4⟩ := cl5 BK266
   obtain ⟨hfz10_0, hfz10_1, hfz10_2, hfz10_3, hfz10_4⟩ := fz5 BK266
   go_wp2
   go_meet
   case rel => exact ⟨_, (false), br, H', ⟨by first | omega | exact Nat.le_refl _⟩, ⟨bk BK266.out⟩, ⟨hbk HB⟩⟩
  rw [if_pos c8] at H
  have c8b0 : decide (a1 ≤ (wrap64 (a0_1 - a2))) = true := decide_eq_true c8
  clear c8
  have H' := aS H
  clear H
  obtain ⟨hcz9_0, hcz9_1, hcz9_2, hcz9_3, hcz9_4⟩ := cl5 BK266
  obtain ⟨hfz9_0, hfz9_1, hfz9_2, hfz9_3, hfz9_4⟩ := fz5 BK266
  go_wp2
  go_meet
  case rel => exact ⟨_, (decide (a0_1 ≥ a2)), br, H', ⟨by first | omega | exact Nat.le_refl _⟩, ⟨bk BK266.out⟩, ⟨hbk HB⟩⟩
 case rest =>
  clear HC5
  try clear p2
  try clear p6
  try clear c7
  try clear c7b0
  try clear c7b1
  try clear c8
  try clear c8b0
  try clear c9
  try clear hcz10_0 hcz10_1 hcz10_2 hcz10_3 hcz10_4
  try clear hcz11_0 hcz11_1 hcz11_2 hcz11_3 hcz11_4
  try clear hcz9_0 hcz9_1 hcz9_2 hcz9_3 hcz9_4
  try clear hfz10_0 hfz10_1 hfz10_2 hfz10_3 hfz10_4
  try clear hfz11_0 hfz11_1 hfz11_2 hfz11_3 hfz11_4
  try clear hfz9_0 hfz9_1 hfz9_2 hfz9_3 hfz9_4
  obtain ⟨kq, x14_4, rfl, HA, HJ4, BK266, HB⟩ := hcut
  cases kq with
  | zero => exact absurd HA.out (by simp [term_scoped.j0])
  | succ kj4 =>
   have H := HA.out
   clear HA
   simp only [term_scoped.j0] at H
   by_cases c12 : x14_4 = true
   ·subst c12
    have H1 : (some 8) = some r := by rw [if_pos rfl] at H; exact H
    clear H
    have H := H1
    clear H1
    obtain rfl := Option.some.inj H
    go_wp2
    go_ret
    exact ⟨by first | rfl | (simp [errW_none, errW_some] <;> rfl) | (simp [*, errW_none, errW_some] <;> rfl), hbk HB⟩
   replace c12 := Bool.eq_false_iff.mpr c12
   subst c12
   have H1 : (if (l0_3.length : Int) > 4 then (some 7) else (term_scoped.l0 kj4 a1 a2 a3 l0_3 (l0_3.length : Int) 0 a0_0 a0_1 a0_2 l0_3 l0_4)) = some r := by rw [if_neg (show ¬ (false = true) by decide)] at H; exact H
   clear H
   have H := H1
   clear H1
   by_cases c13 : (l0_3.length : Int) > 4
   ·rw [if_pos c13] at H
    have c13b0 : decide (4 < (l0_3.length : Int)) = true := decide_eq_true c13
    have c13b1 : decide (4 < l0_3.length) = true := decide_eq_true (by omega)
    clear c13
    obtain rfl := Option.some.inj H
    obtain ⟨hcz14_0, hcz14_1, hcz14_2, hcz14_3, hcz14_4⟩ := cl5 BK266
    obtain ⟨hfz14_0, hfz14_1, hfz14_2, hfz14_3, hfz14_4⟩ := fz5 BK266
    go_wp2
    go_ret
    exact ⟨by first | rfl | (simp [errW_none, errW_some] <;> rfl) | (simp [*, errW_none, errW_some] <;> rfl), hbk HB⟩
   rw [if_neg c13] at H
   have c13b0 : decide (4 < (l0_3.length : Int)) = false := decide_eq_false c13
   have c13b1 : decide (4 < l0_3.length) = false := decide_eq_false (by omega)
   clear c13
   have H' := aS H
   clear H
   obtain ⟨hcz15_0, hcz15_1, hcz15_2, hcz15_3, hcz15_4⟩ := cl5 BK266
   obtain ⟨hfz15_0, hfz15_1, hfz15_2, hfz15_3, hfz15_4⟩ := fz5 BK266
   go_wp2
   go_loopg [40] kj4 (fun kq v40 w' => ∃ (x40_2 : Int), v40 = .int .i64 x40_2 ∧ Aside0 (term_scoped.l0 kq a1 a2 a3 l0_3 (l0_3.length : Int) x40_2 a0_0 a0_1 a0_2 l0_3 l0_4 = some r) ∧ Aside0 (kq ≤ kj4) ∧ Aside0 (w'.heap[gb266]? = some (.cells #[.int .i64 a0_0, .int .i64 a0_1, .string a0_2, (.slice A0_3 l0_3.length c0_3), (.slice A0_4 l0_4.length c0_4)] 27 (0, 0))) ∧ Aside0 (Below w.heap.size w w'))
   case atStart => exact ⟨(0), br, H', ⟨Nat.le_refl _⟩, ⟨bk BK266.out⟩, ⟨hbk HB⟩⟩
   case round =>
    clear H'
    try clear c1
    try clear p2
    try clear p6
    try clear c7
    try clear c7b0
    try clear c7b1
    try clear c8
    try clear c8b0
    try clear c9
    try clear c12
    try clear c13
    try clear c13b0
    try clear c13b1
    try clear hcz10_0 hcz10_1 hcz10_2 hcz10_3 hcz10_4
    try clear hcz11_0 hcz11_1 hcz11_2 hcz11_3 hcz11_4
    try clear hcz14_0 hcz14_1 hcz14_2 hcz14_3 hcz14_4
    try clear hcz15_0 hcz15_1 hcz15_2 hcz15_3 hcz15_4
    try clear hcz9_0 hcz9_1 hcz9_2 hcz9_3 hcz9_4
    try clear hfz10_0 hfz10_1 hfz10_2 hfz10_3 hfz10_4
    try clear hfz11_0 hfz11_1 hfz11_2 hfz11_3 hfz11_4
    try clear hfz14_0 hfz14_1 hfz14_2 hfz14_3 hfz14_4
    try clear hfz15_0 hfz15_1 hfz15_2 hfz15_3 hfz15_4
    try clear hfz9_0 hfz9_1 hfz9_2 hfz9_3 hfz9_4
    try clear p2
    try clear p6
    obtain ⟨x40_2, rfl, HA, HK2, BK266, HB⟩ := hrel
    cases gk with
    | zero => exact absurd HA.out (by simp [term_scoped.l0])
    | succ k2 =>
     have H := HA.out
     clear HA
     simp only [term_scoped.l0] at H
     by_cases c16 : x40_2 < (l0_3.length : Int)
     ·rw [if_pos c16] at H
      have c16b0 : decide (x40_2 < (l0_3.length : Int)) = true := decide_eq_true c16
      clear c16
      by_cases c17 : 0 ≤ x40_2
      rotate_left
      ·rw [if_neg c17] at H
       exact absurd H (by simp)
      rw [if_pos c17] at H
      have c17b0 : decide (0 ≤ x40_2) = true := decide_eq_true c17
      clear c17
      by_cases c18 : x40_2 < (l0_3.length : Int)
      rotate_left
      ·rw [if_neg c18] at H
       exact absurd H (by simp)
      rw [if_pos c18] at H
      have c18b0 : decide (x40_2 < (l0_3.length : Int)) = true := decide_eq_true c18
      clear c18
      replace H := Option.bind_eq_some_iff.mp H
      obtain ⟨t269, A190, H⟩ := H
      try dsimp only at H
      have A19 := aS A190
      clear A190
      by_cases c20 : t269 = true
      rotate_left
      ·replace c20 := Bool.eq_false_iff.mpr c20
       subst c20
       have H1 : (some 7) = some r := by rw [if_neg (show ¬ (false = true) by decide)] at H; exact H
       clear H
       have H := H1
       clear H1
       obtain rfl := Option.some.inj H
       have p267 : 0 ≤ (x40_2 : Int) := of_decide_eq_true ba
       have q267 : x40_2 < (l0_3.length : Int) := of_decide_eq_true ba
       obtain ⟨ad267, A267_2, c267_2, e267, hx267_0, hx267_1, hx267_2, hl267_2, hi267_2⟩ := at_T76 HR0_3.out x40_2 p267 q267
       cases e267
       replace hx267_0 := (hc HB hx267_0 :)
       replace hx267_1 := (hc HB hx267_1 :)
       replace hx267_2 := (hc HB hx267_2 :)
       have HR267_2 := aS hi267_2
       have HC267_2 := aS hl267_2
       clear hi267_2 hl267_2
       replace p267 := eq_true p267
       replace q267 := eq_true q267
       go_wp2_with (first | ((with_reducible refine gate_dst (N := 10) rfl ?_); (try (refine gate_guard (by rfl) ?_; dsimp only)); refine bx (N := 10) (t := 76) #[.int .i64 0, .int .i64 0, .slice none 0 0] ?_; intro gb268 hg w25 hbox hb; have BK268 := aS (hbox); have GW268 := Gz hg HB; have GE268 := Gz hg HB; replace HB := Hs HB hb; have NB266_268 := aS ((by rw [hg]; exact Nat.ne_of_lt (blk_lt (bkw BK266)) : gb266 ≠ gb268)); have NB268_266 := aS ((by rw [hg]; exact Nat.ne_of_gt (blk_lt (bkw BK266)) : gb268 ≠ gb266)); replace BK266 := Bk BK266 hb; clear hb hbox hg; have hnb26 := NB268_266.out; have hnc26 := NB266_268.out; obtain ⟨hcz27_0, hcz27_1, hcz27_2⟩ := cl3 BK268; obtain ⟨hfz27_0, hfz27_1, hfz27_2⟩ := fz3 BK268) | ((with_reducible refine gate_callee (f := 122) rfl ?_); refine goesL_ (some 46) rfl rfl Try.func122 (by kernel_rfl) rfl #[.agg #[.int .i64 ((rd_T76 l0_3 x40_2).f0), .int .i64 ((rd_T76 l0_3 x40_2).f1), .slice A267_2 ((rd_T76 l0_3 x40_2).f2).length c267_2], .int .i64 a3] rfl bl ?_; (with_reducible refine (level_May.calls k2 ((rd_T76 l0_3 x40_2).f0) ((rd_T76 l0_3 x40_2).f1) _ _ ((rd_T76 l0_3 x40_2).f2) a3 false _ ?side1 ?side2 A19.out).mono ?_); (case side1 => exact Kd.C_below HR267_2.out (hbk HB)); (case side2 => exact HC267_2.out); rintro e w28 ⟨rfl, hb⟩; refine ⟨_, rfl, ?_⟩; replace BK266 := aS (blk_below (g := gb266) (o := .cells #[.int .i64 a0_0, .int .i64 a0_1, .string a0_2, .slice (some ad267) l0_3.length c0_3, .slice A0_4 l0_4.length c0_4] 27 (0, 0)) (bf3 BK266.out NB266_268.out) hb); replace BK268 := aS (blk_below (g := gb268) (o := .cells #[.int .i64 ((rd_T76 l0_3 x40_2).f0), .int .i64 ((rd_T76 l0_3 x40_2).f1), .slice A267_2 ((rd_T76 l0_3 x40_2).f2).length c267_2] 76 (0, 0)) (bp3 BK268.out) hb); replace HB := Hs HB hb; (try clear hb); (try clear hb2); (try clear hk); (try clear hi)))
       go_ret
       exact ⟨by first | rfl | (simp [errW_none, errW_some] <;> rfl) | (simp [*, errW_none, errW_some] <;> rfl), hbk HB⟩
      subst c20
      have H1 : (term_scoped.l0 k2 a1 a2 a3 l0_3 (l0_3.length : Int) (wrap64 (x40_2 + 1)) a0_0 a0_1 a0_2 l0_3 l0_4) = some r := by rw [if_pos rfl] at H; exact H
      clear H
      have H := H1
      clear H1
      have H' := aS H
      clear H
      have p267 : 0 ≤ (x40_2 : Int) := of_decide_eq_true ba
      have q267 : x40_2 < (l0_3.length : Int) := of_decide_eq_true ba
      obtain ⟨ad267, A267_2, c267_2, e267, hx267_0, hx267_1, hx267_2, hl267_2, hi267_2⟩ := at_T76 HR0_3.out x40_2 p267 q267
      cases e267
      replace hx267_0 := (hc HB hx267_0 :)
      replace hx267_1 := (hc HB hx267_1 :)
      replace hx267_2 := (hc HB hx267_2 :)
      have HR267_2 := aS hi267_2
      have HC267_2 := aS hl267_2
      clear hi267_2 hl267_2
      replace p267 := eq_true p267
      replace q267 := eq_true q267
      go_wp2_with (first | ((with_reducible refine gate_dst (N := 10) rfl ?_); (try (refine gate_guard (by rfl) ?_; dsimp only)); refine bx (N := 10) (t := 76) #[.int .i64 0, .int .i64 0, .slice none 0 0] ?_; intro gb268 hg w21 hbox hb; have BK268 := aS (hbox); have GW268 := Gz hg HB; have GE268 := Gz hg HB; replace HB := Hs HB hb; have NB266_268 := aS ((by rw [hg]; exact Nat.ne_of_lt (blk_lt (bkw BK266)) : gb266 ≠ gb268)); have NB268_266 := aS ((by rw [hg]; exact Nat.ne_of_gt (blk_lt (bkw BK266)) : gb268 ≠ gb266)); replace BK266 := Bk BK266 hb; clear hb hbox hg; have hnb22 := NB268_266.out; have hnc22 := NB266_268.out; obtain ⟨hcz23_0, hcz23_1, hcz23_2⟩ := cl3 BK268; obtain ⟨hfz23_0, hfz23_1, hfz23_2⟩ := fz3 BK268) | ((with_reducible refine gate_callee (f := 122) rfl ?_); refine goesL_ (some 46) rfl rfl Try.func122 (by kernel_rfl) rfl #[.agg #[.int .i64 ((rd_T76 l0_3 x40_2).f0), .int .i64 ((rd_T76 l0_3 x40_2).f1), .slice A267_2 ((rd_T76 l0_3 x40_2).f2).length c267_2], .int .i64 a3] rfl bl ?_; (with_reducible refine (level_May.calls k2 ((rd_T76 l0_3 x40_2).f0) ((rd_T76 l0_3 x40_2).f1) _ _ ((rd_T76 l0_3 x40_2).f2) a3 true _ ?side1 ?side2 A19.out).mono ?_); (case side1 => exact Kd.C_below HR267_2.out (hbk HB)); (case side2 => exact HC267_2.out); rintro e w24 ⟨rfl, hb⟩; refine ⟨_, rfl, ?_⟩; replace BK266 := aS (blk_below (g := gb266) (o := .cells #[.int .i64 a0_0, .int .i64 a0_1, .string a0_2, .slice (some ad267) l0_3.length c0_3, .slice A0_4 l0_4.length c0_4] 27 (0, 0)) (bf3 BK266.out NB266_268.out) hb); replace BK268 := aS (blk_below (g := gb268) (o := .cells #[.int .i64 ((rd_T76 l0_3 x40_2).f0), .int .i64 ((rd_T76 l0_3 x40_2).f1), .slice A267_2 ((rd_T76 l0_3 x40_2).f2).length c267_2] 76 (0, 0)) (bp3 BK268.out) hb); replace HB := Hs HB hb; (try clear hb); (try clear hb2); (try clear hk); (try clear hi)))
      go_roundg k2
      case measure => have := HJ4.out; have := HK2.out; omega
      case rel => exact ⟨(wrap64 (x40_2 + 1)), br, H', ⟨by have := HJ4.out; have := HK2.out; omega⟩, ⟨bk BK266.out⟩, ⟨hbk HB⟩⟩
     rw [if_neg c16] at H
     have c16b0 : decide (x40_2 < (l0_3.length : Int)) = false := decide_eq_false c16
     clear c16
     have HC29 := aS H
     clear H
     go_upto_region 11 with (fail)
     go_cut [62] (fun v62 wc => ∃ (kq : Nat) (x62_28 : Bool), v62 = .bool x62_28 ∧ Aside0 (term_scoped.j2 kq a1 a2 a3 x62_28 a0_0 a0_1 a0_2 l0_3 l0_4 = some r) ∧ Aside0 (kq ≤ k2) ∧ Aside0 (wc.heap[gb266]? = some (.cells #[.int .i64 a0_0, .int .i64 a0_1, .string a0_2, (.slice A0_3 l0_3.length c0_3), (.slice A0_4 l0_4.length c0_4)] 27 (0, 0))) ∧ Aside0 (Below w.heap.size w wc))
     case first =>
      have H := HC29.out
      clear HC29
      by_cases c30 : a0_0 = 2
      rotate_left
      ·rw [if_neg c30] at H
       have c30b0 : (a0_0 == 2) = false := beq_eq_false_iff_ne.mpr c30
       have c30b1 : (a0_0 != 2) = true := bne_iff_ne.mpr c30
       (first | rw [c30b0] | (simp only [i64_w, i32_w]; rw [c30b0]) | skip)
       have H' := aS H
       clear H
       obtain ⟨hcz34_0, hcz34_1, hcz34_2, hcz34_3, hcz34_4⟩ := cl5 BK266
       obtain ⟨hfz34_0, hfz34_1, hfz34_2, hfz34_3, hfz34_4⟩ := fz5 BK266
       go_wp2
       go_meet
       case rel => exact ⟨_, (false), br, H', ⟨by have := HJ4.out; have := HK2.out; first | omega | exact Nat.le_refl _⟩, ⟨bk BK266.out⟩, ⟨hbk HB⟩⟩
      rw [if_pos c30] at H
      have c30b0 : (a0_0 == 2) = true := beq_iff_eq.mpr c30
      have c30b1 : (a0_0 != 2) = false := bne_eq_false_iff_eq.mpr c30
      clear c30
      (first | rw [c30b0] | (simp only [i64_w, i32_w]; rw [c30b0]) | skip)
      by_cases c31 : a0_2.toList = ([] : List UInt8)
      ·rw [if_pos c31] at H
       have c31b0 : (a0_2.toList == ([] : List UInt8)) = true := beq_iff_eq.mpr c31
       have c31b1 : (a0_2.toList != ([] : List UInt8)) = false := bne_eq_false_iff_eq.mpr c31
       clear c31
       have H' := aS H
       clear H
       obtain ⟨hcz32_0, hcz32_1, hcz32_2, hcz32_3, hcz32_4⟩ := cl5 BK266
       obtain ⟨hfz32_0, hfz32_1, hfz32_2, hfz32_3, hfz32_4⟩ := fz5 BK266
       go_wp2
       go_meet
       case rel => exact ⟨_, (true), br, H', ⟨by have := HJ4.out; have := HK2.out; first | omega | exact Nat.le_refl _⟩, ⟨bk BK266.out⟩, ⟨hbk HB⟩⟩
      rw [if_neg c31] at H
      have c31b0 : (a0_2.toList == ([] : List UInt8)) = false := beq_eq_false_iff_ne.mpr c31
      have c31b1 : (a0_2.toList != ([] : List UInt8)) = true := bne_iff_ne.mpr c31
      have H' := aS H
      clear H
      obtain ⟨hcz33_0, hcz33_1, hcz33_2, hcz33_3, hcz33_4⟩ := cl5 BK266
      obtain ⟨hfz33_0, hfz33_1, hfz33_2, hfz33_3, hfz33_4⟩ := fz5 BK266
      go_wp2
      go_meet
      case rel => exact ⟨_, (decide ((a0_2.size : Int) > 24)), br, H', ⟨by have := HJ4.out; have := HK2.out; first | omega | exact Nat.le_refl _⟩, ⟨bk BK266.out⟩, ⟨hbk HB⟩⟩
     case rest =>
      clear HC29
      try clear c1
      try clear c2
      try clear p2
      try clear q2
      try clear hx2
      try clear c3
      try clear p6
      try clear c7
      try clear c7b0
      try clear c7b1
      try clear c8
      try clear c8b0
      try clear c9
      try clear c12
      try clear c13
      try clear c13b0
      try clear c13b1
      try clear c16
      try clear c16b0
      try clear c17
      try clear c17b0
      try clear c18
      try clear c18b0
      try clear c20
      try clear c22
      try clear c26
      try clear p26
      try clear q26
      try clear hx26
      try clear c30
      try clear c30b0
      try clear c30b1
      try clear c31
      try clear c31b0
      try clear c31b1
      try clear hcz10_0 hcz10_1 hcz10_2 hcz10_3 hcz10_4
      try clear hcz11_0 hcz11_1 hcz11_2 hcz11_3 hcz11_4
      try clear hcz14_0 hcz14_1 hcz14_2 hcz14_3 hcz14_4
      try clear hcz15_0 hcz15_1 hcz15_2 hcz15_3 hcz15_4
      try clear hcz23_0 hcz23_1 hcz23_2
      try clear hcz27_0 hcz27_1 hcz27_2
      try clear hcz32_0 hcz32_1 hcz32_2 hcz32_3 hcz32_4
      try clear hcz33_0 hcz33_1 hcz33_2 hcz33_3 hcz33_4
      try clear hcz34_0 hcz34_1 hcz34_2 hcz34_3 hcz34_4
      try clear hcz9_0 hcz9_1 hcz9_2 hcz9_3 hcz9_4
      try clear hfz10_0 hfz10_1 hfz10_2 hfz10_3 hfz10_4
      try clear hfz11_0 hfz11_1 hfz11_2 hfz11_3 hfz11_4
      try clear hfz14_0 hfz14_1 hfz14_2 hfz14_3 hfz14_4
      try clear hfz15_0 hfz15_1 hfz15_2 hfz15_3 hfz15_4
      try clear hfz23_0 hfz23_1 hfz23_2
      try clear hfz27_0 hfz27_1 hfz27_2
      try clear hfz32_0 hfz32_1 hfz32_2 hfz32_3 hfz32_4
      try clear hfz33_0 hfz33_1 hfz33_2 hfz33_3 hfz33_4
      try clear hfz34_0 hfz34_1 hfz34_2 hfz34_3 hfz34_4
      try clear hfz9_0 hfz9_1 hfz9_2 hfz9_3 hfz9_4
      try clear hx267_0 hx267_1 hx267_2
      try clear p2
      try clear p267
      try clear p6
      try clear q267
      obtain ⟨kq, x62_28, rfl, HA, HJ28, BK266, HB⟩ := hcut
      cases kq with
      | zero => exact absurd HA.out (by simp [term_scoped.j2])
      | succ kj28 =>
       have H := HA.out
       clear HA
       simp only [term_scoped.j2] at H
       by_cases c35 : x62_28 = true
       ·subst c35
        have H1 : (some 9) = some r := by rw [if_pos rfl] at H; exact H
        clear H
        have H := H1
        clear H1
        obtain rfl := Option.some.inj H
        go_wp2
        go_ret
        exact ⟨by first | rfl | (simp [errW_none, errW_some] <;> rfl) | (simp [*, errW_none, errW_some] <;> rfl), hbk HB⟩
       replace c35 := Bool.eq_false_iff.mpr c35
       subst c35
       have H1 : (term_scoped.l1 kj28 a1 a2 a3 l0_4 (l0_4.length : Int) 0 a0_0 a0_1 a0_2 l0_3 l0_4) = some r := by rw [if_neg (show ¬ (false = true) by decide)] at H; exact H
       clear H
       have H := H1
       clear H1
       have H' := aS H
       clear H
       obtain ⟨hcz36_0, hcz36_1, hcz36_2, hcz36_3, hcz36_4⟩ := cl5 BK266
       obtain ⟨hfz36_0, hfz36_1, hfz36_2, hfz36_3, hfz36_4⟩ := fz5 BK266
       go_wp2
       go_loopg [66] kj28 (fun kq v66 w' => ∃ (x66_4 : Int), v66 = .int .i64 x66_4 ∧ Aside0 (term_scoped.l1 kq a1 a2 a3 l0_4 (l0_4.length : Int) x66_4 a0_0 a0_1 a0_2 l0_3 l0_4 = some r) ∧ Aside0 (kq ≤ kj28) ∧ Aside0 (w'.heap[gb266]? = some (.cells #[.int .i64 a0_0, .int .i64 a0_1, .string a0_2, (.slice A0_3 l0_3.length c0_3), (.slice A0_4 l0_4.length c0_4)] 27 (0, 0))) ∧ Aside0 (Below w.heap.size w w'))
       case atStart => exact ⟨(0), br, H', ⟨Nat.le_refl _⟩, ⟨bk BK266.out⟩, ⟨hbk HB⟩⟩
       case round =>
        clear H'
        try clear c1
        try clear c2
        try clear p2
        try clear q2
        try clear hx2
        try clear c3
        try clear p6
        try clear c7
        try clear c7b0
        try clear c7b1
        try clear c8
        try clear c8b0
        try clear c9
        try clear c12
        try clear c13
        try clear c13b0
        try clear c13b1
        try clear c16
        try clear c16b0
        try clear c17
        try clear c17b0
        try clear c18
        try clear c18b0
        try clear c20
        try clear c22
        try clear c26
        try clear p26
        try clear q26
        try clear hx26
        try clear c30
        try clear c30b0
        try clear c30b1
        try clear c31
        try clear c31b0
        try clear c31b1
        try clear c35
        try clear hcz10_0 hcz10_1 hcz10_2 hcz10_3 hcz10_4
        try clear hcz11_0 hcz11_1 hcz11_2 hcz11_3 hcz11_4
        try clear hcz14_0 hcz14_1 hcz14_2 hcz14_3 hcz14_4
        try clear hcz15_0 hcz15_1 hcz15_2 hcz15_3 hcz15_4
        try clear hcz23_0 hcz23_1 hcz23_2
        try clear hcz27_0 hcz27_1 hcz27_2
        try clear hcz32_0 hcz32_1 hcz32_2 hcz32_3 hcz32_4
        try clear hcz33_0 hcz33_1 hcz33_2 hcz33_3 hcz33_4
        try clear hcz34_0 hcz34_1 hcz34_2 hcz34_3 hcz34_4
        try clear hcz36_0 hcz36_1 hcz36_2 hcz36_3 hcz36_4
        try clear hcz9_0 hcz9_1 hcz9_2 hcz9_3 hcz9_4
        try clear hfz10_0 hfz10_1 hfz10_2 hfz10_3 hfz10_4
        try clear hfz11_0 hfz11_1 hfz11_2 hfz11_3 hfz11_4
        try clear hfz14_0 hfz14_1 hfz14_2 hfz14_3 hfz14_4
        try clear hfz15_0 hfz15_1 hfz15_2 hfz15_3 hfz15_4
        try clear hfz23_0 hfz23_1 hfz23_2
        try clear hfz27_0 hfz27_1 hfz27_2
        try clear hfz32_0 hfz32_1 hfz32_2 hfz32_3 hfz32_4
        try clear hfz33_0 hfz33_1 hfz33_2 hfz33_3 hfz33_4
        try clear hfz34_0 hfz34_1 hfz34_2 hfz34_3 hfz34_4
        try clear hfz36_0 hfz36_1 hfz36_2 hfz36_3 hfz36_4
        try clear hfz9_0 hfz9_1 hfz9_2 hfz9_3 hfz9_4
        try clear hx267_0 hx267_1 hx267_2
        try clear p2
        try clear p26
        try clear p267
        try clear p6
        try clear q2
        try clear q26
        try clear q267
        obtain ⟨x66_4, rfl, HA, HK4, BK266, HB⟩ := hrel
        cases gk with
        | zero => exact absurd HA.out (by simp [term_scoped.l1])
        | succ k4 =>
         have H := HA.out
         clear HA
         simp only [term_scoped.l1] at H
         by_cases c37 : x66_4 < (l0_4.length : Int)
         rotate_left
         ·rw [if_neg c37] at H
          have c37b0 : decide (x66_4 < (l0_4.length : Int)) = false := decide_eq_false c37
          clear c37
          obtain rfl := Option.some.inj H
          go_wp2
          go_ret
          exact ⟨by first | rfl | (simp [errW_none, errW_some] <;> rfl) | (simp [*, errW_none, errW_some] <;> rfl), hbk HB⟩
         rw [if_pos c37] at H
         have c37b0 : decide (x66_4 < (l0_4.length : Int)) = true := decide_eq_true c37
         clear c37
         by_cases c38 : 0 ≤ x66_4
         rotate_left
         ·rw [if_neg c38] at H
          exact absurd H (by simp)
         rw [if_pos c38] at H
         have c38b0 : decide (0 ≤ x66_4) = true := decide_eq_true c38
         clear c38
         by_cases c39 : x66_4 < (l0_4.length : Int)
         rotate_left
         ·rw [if_neg c39] at H
          exact absurd H (by simp)
         rw [if_pos c39] at H
         have c39b0 : decide (x66_4 < (l0_4.length : Int)) = true := decide_eq_true c39
         clear c39
         replace H := Option.bind_eq_some_iff.mp H
         obtain ⟨t272, A400, H⟩ := H
         try dsimp only at H
         have A40 := aS A400
         clear A400
         replace H := Option.bind_eq_some_iff.mp H
         obtain ⟨t273, A410, H⟩ := H
         try dsimp only at H
         have A41 := aS A410
         clear A410
         by_cases c42 : t273 = 0
         rotate_left
         ·rw [if_neg c42] at H
          have c42b0 : (t273 == 0) = false := beq_eq_false_iff_ne.mpr c42
          have c42b1 : (t273 != 0) = true := bne_iff_ne.mpr c42
          obtain rfl := Option.some.inj H
          have p270 : 0 ≤ (x66_4 : Int) := of_decide_eq_true ba
          have q270 : x66_4 < (l0_4.length : Int) := of_decide_eq_true ba
          obtain ⟨ad270, A270_3, c270_3, A270_4, c270_4, e270, hx270_0, hx270_1, hx270_2, hx270_3, hx270_4, hl270_3, hi270_3, hl270_4, hi270_4⟩ := at_T27 HR0_4.out x66_4 p270 q270
          cases e270
          replace hx270_0 := (hc HB hx270_0 :)
          replace hx270_1 := (hc HB hx270_1 :)
          replace hx270_2 := (hc HB hx270_2 :)
          replace hx270_3 := (hc HB hx270_3 :)
          replace hx270_4 := (hc HB hx270_4 :)
          have HR270_3 := aS hi270_3
          have HC270_3 := aS hl270_3
          clear hi270_3 hl270_3
          have HR270_4 := aS hi270_4
          have HC270_4 := aS hl270_4
          clear hi270_4 hl270_4
          replace p270 := eq_true p270
          replace q270 := eq_true q270
          try go_wp2_with (first | ((with_reducible refine gate_dst (N := 12) rfl ?_); (try (refine gate_guard (by rfl) ?_; dsimp only)); refine bx (N := 12) (t := 27) #[.int .i64 0, .int .i64 0, .string (⟨#[]⟩ : ByteArray), .slice none 0 0, .slice none 0 0] ?_; intro gb271 hg w49 hbox hb; have BK271 := aS (hbox); have GW271 := Gz hg HB; have GE271 := Gz hg HB; replace HB := Hs HB hb; have NB266_271 := aS ((by rw [hg]; exact Nat.ne_of_lt (blk_lt (bkw BK266)) : gb266 ≠ gb271)); have NB271_266 := aS ((by rw [hg]; exact Nat.ne_of_gt (blk_lt (bkw BK266)) : gb271 ≠ gb266)); replace BK266 := Bk BK266 hb; clear hb hbox hg; have hnb50 := NB271_266.out; have hnc50 := NB266_271.out; obtain ⟨hcz51_0, hcz51_1, hcz51_2, hcz51_3, hcz51_4⟩ := cl5 BK271; obtain ⟨hfz51_0, hfz51_1, hfz51_2, hfz51_3, hfz51_4⟩ := fz5 BK271))
          have n0_ : Aside0 ((((((w49.setCell ⟨gb271, 0, none⟩ (.int .i64 ((rd_T27 l0_4 x66_4).f0))).setCell ⟨gb271, 1, none⟩ (.int .i64 ((rd_T27 l0_4 x66_4).f1))).setCell ⟨gb271, 2, none⟩ (.string ((rd_T27 l0_4 x66_4).f2))).setCell ⟨gb271, 3, none⟩ (.slice A270_3 ((rd_T27 l0_4 x66_4).f3).length c270_3)).setCell ⟨gb271, 4, none⟩ (.slice A270_4 ((rd_T27 l0_4 x66_4).f4).length c270_4)).heap[gb266]? = some (.cells #[.int .i64 a0_0, .int .i64 a0_1, .string a0_2, .slice A0_3 l0_3.length c0_3, .slice (some ad270) l0_4.length c0_4] 27 (0, 0))) := ⟨bf5 BK266.out NB266_271.out⟩
          have n1_ : Aside0 ((((((w49.setCell ⟨gb271, 0, none⟩ (.int .i64 ((rd_T27 l0_4 x66_4).f0))).setCell ⟨gb271, 1, none⟩ (.int .i64 ((rd_T27 l0_4 x66_4).f1))).setCell ⟨gb271, 2, none⟩ (.string ((rd_T27 l0_4 x66_4).f2))).setCell ⟨gb271, 3, none⟩ (.slice A270_3 ((rd_T27 l0_4 x66_4).f3).length c270_3)).setCell ⟨gb271, 4, none⟩ (.slice A270_4 ((rd_T27 l0_4 x66_4).f4).length c270_4)).heap[gb271]? = some (.cells #[.int .i64 ((rd_T27 l0_4 x66_4).f0), .int .i64 ((rd_T27 l0_4 x66_4).f1), .string ((rd_T27 l0_4 x66_4).f2), .slice A270_3 ((rd_T27 l0_4 x66_4).f3).length c270_3, .slice A270_4 ((rd_T27 l0_4 x66_4).f4).length c270_4] 27 (0, 0))) := ⟨bp5 BK271.out⟩
          have n2_ : Aside0 (Below w.heap.size w (((((w49.setCell ⟨gb271, 0, none⟩ (.int .i64 ((rd_T27 l0_4 x66_4).f0))).setCell ⟨gb271, 1, none⟩ (.int .i64 ((rd_T27 l0_4 x66_4).f1))).setCell ⟨gb271, 2, none⟩ (.string ((rd_T27 l0_4 x66_4).f2))).setCell ⟨gb271, 3, none⟩ (.slice A270_3 ((rd_T27 l0_4 x66_4).f3).length c270_3)).setCell ⟨gb271, 4, none⟩ (.slice A270_4 ((rd_T27 l0_4 x66_4).f4).length c270_4))) := ⟨hbk HB⟩
          (try clear BK266)
          (try clear BK271)
          (try clear HB)
          generalize (((((w49.setCell ⟨gb271, 0, none⟩ (.int .i64 ((rd_T27 l0_4 x66_4).f0))).setCell ⟨gb271, 1, none⟩ (.int .i64 ((rd_T27 l0_4 x66_4).f1))).setCell ⟨gb271, 2, none⟩ (.string ((rd_T27 l0_4 x66_4).f2))).setCell ⟨gb271, 3, none⟩ (.slice A270_3 ((rd_T27 l0_4 x66_4).f3).length c270_3)).setCell ⟨gb271, 4, none⟩ (.slice A270_4 ((rd_T27 l0_4 x66_4).f4).length c270_4)) = w52 at n0_ n1_ n2_ ⊢
          have BK266 := n0_
          have BK271 := n1_
          have HB := n2_
          clear n0_ n1_ n2_
          replace BK266 := aS (blk_drew BK266.out)
          replace BK271 := aS (blk_drew BK271.out)
          replace HB := aS (below_drew1 HB.out)
          refine start_ (n := 11) (S := fun w' => w'.cell? ⟨gb271, 0, none⟩ = some (.int .i64 ((rd_T27 l0_4 x66_4).f0)) ∧ w'.cell? ⟨gb271, 1, none⟩ = some (.int .i64 ((rd_T27 l0_4 x66_4).f1)) ∧ w'.cell? ⟨gb271, 2, none⟩ = some (.string ((rd_T27 l0_4 x66_4).f2)) ∧ w'.cell? ⟨gb271, 3, none⟩ = some (.slice A270_3 ((rd_T27 l0_4 x66_4).f3).length c270_3) ∧ w'.cell? ⟨gb271, 4, none⟩ = some (.slice A270_4 ((rd_T27 l0_4 x66_4).f4).length c270_4) ∧ w'.cell? ⟨gb266, 0, none⟩ = some (.int .i64 a0_0) ∧ w'.cell? ⟨gb266, 1, none⟩ = some (.int .i64 a0_1) ∧ w'.cell? ⟨gb266, 2, none⟩ = some (.string a0_2) ∧ w'.cell? ⟨gb266, 3, none⟩ = some (.slice A0_3 l0_3.length c0_3) ∧ w'.cell? ⟨gb266, 4, none⟩ = some (.slice (some ad270) l0_4.length c0_4)) (ds := []) #[false, false, false, false, false, false, false, false, false, false, false] (by kernel_rfl) rfl rfl ⟨cz BK271 0, cz BK271 1, cz BK271 2, cz BK271 3, cz BK271 4, cz BK266 0, cz BK266 1, cz BK266 2, cz BK266 3, cz BK266 4⟩ (fun hHeld => ?_); refine with_tabW term_scoped.tab16 term_scoped.bits16 (fun HT_ HW_ => ?_)
          generalize w52.drew = w53 at BK266 BK271 HB hHeld ⊢
          refine pu 1 72 (bA 11 2) HT_ rfl rfl ?_
          refine pu 2 73 (bA 11 6) HT_ rfl rfl ?_
          refine pu 3 74 (bA 11 14) HT_ rfl rfl ?_
          refine pu 5 76 (bA 11 46) HT_ rfl rfl ?_
          refine pu 8 79 (bA 11 302) HT_ rfl rfl ?_
          refine ta 0 71 (bA 11 303) HT_ HW_ rfl rfl hHeld ?_
          refine ta 4 75 (bA 11 319) HT_ HW_ rfl rfl hHeld ?_
          refine one_ (i := 6) (N := some 77) (bA 11 383) rfl rfl (one_of HT_.out (by kernel_rfl)) (by decide) (fun K hK => ?_)
          refine goes_ Try.func118 (by kernel_rfl) rfl #[.int .i64 a0_0, .int .i64 x66_4] (by rfl) rfl rfl bl ?_
          with_reducible refine (term_binds.calls a0_0 x66_4 t272 _ A40.out).mono ?_
          rintro e w' ⟨rfl, ⟨nd, rfl⟩⟩
          refine ⟨_, rfl, ?_⟩
          refine hK.out _ _ ⟨cz BK271 0, cz BK271 1, cz BK271 2, cz BK271 3, cz BK271 4, cz BK266 0, cz BK266 1, cz BK266 2, cz BK266 3, cz BK266 4⟩ (fun hHeld => ?_)
          clear hK K
          refine norm_ ap ?_
          refine pu 7 78 (bA 11 511) HT_ rfl rfl ?_
          refine one_ (i := 9) (N := some 80) (bA 11 1023) rfl rfl (one_of HT_.out (by kernel_rfl)) (by decide) (fun K hK => ?_)
          refine goes_ Try.func98 (by kernel_rfl) rfl #[.agg #[.int .i64 ((rd_T27 l0_4 x66_4).f0), .int .i64 ((rd_T27 l0_4 x66_4).f1), .string ((rd_T27 l0_4 x66_4).f2), .slice A270_3 ((rd_T27 l0_4 x66_4).f3).length c270_3, .slice A270_4 ((rd_T27 l0_4 x66_4).f4).length c270_4], .int .i64 a1, .int .i64 (wrap64 (a2 + t272)), .int .i64 a3] (by rfl) rfl rfl bl ?_
          with_reducible refine (ih k4 (by have := HJ4.out; have := HK2.out; have := HJ28.out; have := HK4.out; omega) ((rd_T27 l0_4 x66_4).f0) ((rd_T27 l0_4 x66_4).f1) ((rd_T27 l0_4 x66_4).f2) _ _ ((rd_T27 l0_4 x66_4).f3) _ _ ((rd_T27 l0_4 x66_4).f4) a1 (wrap64 (a2 + t272)) a3 t273 _ ?side1 ?side2 ?side3 ?side4 A41.out).mono ?_
          (case side1 => exact cr (Kd.C_below HR270_3.out (hbk HB)))
          (case side2 => exact HC270_3.out)
          (case side3 => exact cr (Kd.C_below HR270_4.out (hbk HB)))
          (case side4 => exact HC270_4.out)
          rintro e w54 ⟨rfl, hb⟩
          refine ⟨_, rfl, ?_⟩
          replace BK266 := Bk BK266 hb
          replace BK271 := Bk BK271 hb
          replace HB := Hs HB hb
          (try clear hb)
          (try clear hb2)
          (try clear hk)
          (try clear hi)
          refine hK.out _ _ ⟨cz BK271 0, cz BK271 1, cz BK271 2, cz BK271 3, cz BK271 4, cz BK266 0, cz BK266 1, cz BK266 2, cz BK266 3, cz BK266 4⟩ (fun hHeld => ?_)
          clear hK K
          refine norm_ ap ?_
          refine pu 10 13 (bA 11 2047) HT_ rfl rfl ?_
          refine done_ (done_of HT_.out (by kernel_rfl)) ?_
          try go_wp2
          go_ret
          exact ⟨by first | rfl | (simp [errW_none, errW_some] <;> rfl) | (simp [*, errW_none, errW_some] <;> rfl), hbk HB⟩
         rw [if_pos c42] at H
         have c42b0 : (t273 == 0) = true := beq_iff_eq.mpr c42
         have c42b1 : (t273 != 0) = false := bne_eq_false_iff_eq.mpr c42
         clear c42
         have H' := aS H
         clear H
         have p270 : 0 ≤ (x66_4 : Int) := of_decide_eq_true ba
         have q270 : x66_4 < (l0_4.length : Int) := of_decide_eq_true ba
         obtain ⟨ad270, A270_3, c270_3, A270_4, c270_4, e270, hx270_0, hx270_1, hx270_2, hx270_3, hx270_4, hl270_3, hi270_3, hl270_4, hi270_4⟩ := at_T27 HR0_4.out x66_4 p270 q270
         cases e270
         replace hx270_0 := (hc HB hx270_0 :)
         replace hx270_1 := (hc HB hx270_1 :)
         replace hx270_2 := (hc HB hx270_2 :)
         replace hx270_3 := (hc HB hx270_3 :)
         replace hx270_4 := (hc HB hx270_4 :)
         have HR270_3 := aS hi270_3
         have HC270_3 := aS hl270_3
         clear hi270_3 hl270_3
         have HR270_4 := aS hi270_4
         have HC270_4 := aS hl270_4
         clear hi270_4 hl270_4
         replace p270 := eq_true p270
         replace q270 := eq_true q270
         try go_wp2_with (first | ((with_reducible refine gate_dst (N := 12) rfl ?_); (try (refine gate_guard (by rfl) ?_; dsimp only)); refine bx (N := 12) (t := 27) #[.int .i64 0, .int .i64 0, .string (⟨#[]⟩ : ByteArray), .slice none 0 0, .slice none 0 0] ?_; intro gb271 hg w43 hbox hb; have BK271 := aS (hbox); have GW271 := Gz hg HB; have GE271 := Gz hg HB; replace HB := Hs HB hb; have NB266_271 := aS ((by rw [hg]; exact Nat.ne_of_lt (blk_lt (bkw BK266)) : gb266 ≠ gb271)); have NB271_266 := aS ((by rw [hg]; exact Nat.ne_of_gt (blk_lt (bkw BK266)) : gb271 ≠ gb266)); replace BK266 := Bk BK266 hb; clear hb hbox hg; have hnb44 := NB271_266.out; have hnc44 := NB266_271.out; obtain ⟨hcz45_0, hcz45_1, hcz45_2, hcz45_3, hcz45_4⟩ := cl5 BK271; obtain ⟨hfz45_0, hfz45_1, hfz45_2, hfz45_3, hfz45_4⟩ := fz5 BK271))
         have n0_ : Aside0 ((((((w43.setCell ⟨gb271, 0, none⟩ (.int .i64 ((rd_T27 l0_4 x66_4).f0))).setCell ⟨gb271, 1, none⟩ (.int .i64 ((rd_T27 l0_4 x66_4).f1))).setCell ⟨gb271, 2, none⟩ (.string ((rd_T27 l0_4 x66_4).f2))).setCell ⟨gb271, 3, none⟩ (.slice A270_3 ((rd_T27 l0_4 x66_4).f3).length c270_3)).setCell ⟨gb271, 4, none⟩ (.slice A270_4 ((rd_T27 l0_4 x66_4).f4).length c270_4)).heap[gb266]? = some (.cells #[.int .i64 a0_0, .int .i64 a0_1, .string a0_2, .slice A0_3 l0_3.length c0_3, .slice (some ad270) l0_4.length c0_4] 27 (0, 0))) := ⟨bf5 BK266.out NB266_271.out⟩
         have n1_ : Aside0 ((((((w43.setCell ⟨gb271, 0, none⟩ (.int .i64 ((rd_T27 l0_4 x66_4).f0))).setCell ⟨gb271, 1, none⟩ (.int .i64 ((rd_T27 l0_4 x66_4).f1))).setCell ⟨gb271, 2, none⟩ (.string ((rd_T27 l0_4 x66_4).f2))).setCell ⟨gb271, 3, none⟩ (.slice A270_3 ((rd_T27 l0_4 x66_4).f3).length c270_3)).setCell ⟨gb271, 4, none⟩ (.slice A270_4 ((rd_T27 l0_4 x66_4).f4).length c270_4)).heap[gb271]? = some (.cells #[.int .i64 ((rd_T27 l0_4 x66_4).f0), .int .i64 ((rd_T27 l0_4 x66_4).f1), .string ((rd_T27 l0_4 x66_4).f2), .slice A270_3 ((rd_T27 l0_4 x66_4).f3).length c270_3, .slice A270_4 ((rd_T27 l0_4 x66_4).f4).length c270_4] 27 (0, 0))) := ⟨bp5 BK271.out⟩
         have n2_ : Aside0 (Below w.heap.size w (((((w43.setCell ⟨gb271, 0, none⟩ (.int .i64 ((rd_T27 l0_4 x66_4).f0))).setCell ⟨gb271, 1, none⟩ (.int .i64 ((rd_T27 l0_4 x66_4).f1))).setCell ⟨gb271, 2, none⟩ (.string ((rd_T27 l0_4 x66_4).f2))).setCell ⟨gb271, 3, none⟩ (.slice A270_3 ((rd_T27 l0_4 x66_4).f3).length c270_3)).setCell ⟨gb271, 4, none⟩ (.slice A270_4 ((rd_T27 l0_4 x66_4).f4).length c270_4))) := ⟨hbk HB⟩
         (try clear BK266)
         (try clear BK271)
         (try clear HB)
         generalize (((((w43.setCell ⟨gb271, 0, none⟩ (.int .i64 ((rd_T27 l0_4 x66_4).f0))).setCell ⟨gb271, 1, none⟩ (.int .i64 ((rd_T27 l0_4 x66_4).f1))).setCell ⟨gb271, 2, none⟩ (.string ((rd_T27 l0_4 x66_4).f2))).setCell ⟨gb271, 3, none⟩ (.slice A270_3 ((rd_T27 l0_4 x66_4).f3).length c270_3)).setCell ⟨gb271, 4, none⟩ (.slice A270_4 ((rd_T27 l0_4 x66_4).f4).length c270_4)) = w46 at n0_ n1_ n2_ ⊢
         have BK266 := n0_
         have BK271 := n1_
         have HB := n2_
         clear n0_ n1_ n2_
         replace BK266 := aS (blk_drew BK266.out)
         replace BK271 := aS (blk_drew BK271.out)
         replace HB := aS (below_drew1 HB.out)
         refine start_ (n := 11) (S := fun w' => w'.cell? ⟨gb271, 0, none⟩ = some (.int .i64 ((rd_T27 l0_4 x66_4).f0)) ∧ w'.cell? ⟨gb271, 1, none⟩ = some (.int .i64 ((rd_T27 l0_4 x66_4).f1)) ∧ w'.cell? ⟨gb271, 2, none⟩ = some (.string ((rd_T27 l0_4 x66_4).f2)) ∧ w'.cell? ⟨gb271, 3, none⟩ = some (.slice A270_3 ((rd_T27 l0_4 x66_4).f3).length c270_3) ∧ w'.cell? ⟨gb271, 4, none⟩ = some (.slice A270_4 ((rd_T27 l0_4 x66_4).f4).length c270_4) ∧ w'.cell? ⟨gb266, 0, none⟩ = some (.int .i64 a0_0) ∧ w'.cell? ⟨gb266, 1, none⟩ = some (.int .i64 a0_1) ∧ w'.cell? ⟨gb266, 2, none⟩ = some (.string a0_2) ∧ w'.cell? ⟨gb266, 3, none⟩ = some (.slice A0_3 l0_3.length c0_3) ∧ w'.cell? ⟨gb266, 4, none⟩ = some (.slice (some ad270) l0_4.length c0_4)) (ds := []) #[false, false, false, false, false, false, false, false, false, false, false] (by kernel_rfl) rfl rfl ⟨cz BK271 0, cz BK271 1, cz BK271 2, cz BK271 3, cz BK271 4, cz BK266 0, cz BK266 1, cz BK266 2, cz BK266 3, cz BK266 4⟩ (fun hHeld => ?_); refine with_tabW term_scoped.tab16 term_scoped.bits16 (fun HT_ HW_ => ?_)
         generalize w46.drew = w47 at BK266 BK271 HB hHeld ⊢
         refine pu 1 72 (bA 11 2) HT_ rfl rfl ?_
         refine pu 2 73 (bA 11 6) HT_ rfl rfl ?_
         refine pu 3 74 (bA 11 14) HT_ rfl rfl ?_
         refine pu 5 76 (bA 11 46) HT_ rfl rfl ?_
         refine pu 8 79 (bA 11 302) HT_ rfl rfl ?_
         refine ta 0 71 (bA 11 303) HT_ HW_ rfl rfl hHeld ?_
         refine ta 4 75 (bA 11 319) HT_ HW_ rfl rfl hHeld ?_
         refine one_ (i := 6) (N := some 77) (bA 11 383) rfl rfl (one_of HT_.out (by kernel_rfl)) (by decide) (fun K hK => ?_)
         refine goes_ Try.func118 (by kernel_rfl) rfl #[.int .i64 a0_0, .int .i64 x66_4] (by rfl) rfl rfl bl ?_
         with_reducible refine (term_binds.calls a0_0 x66_4 t272 _ A40.out).mono ?_
         rintro e w' ⟨rfl, ⟨nd, rfl⟩⟩
         refine ⟨_, rfl, ?_⟩
         refine hK.out _ _ ⟨cz BK271 0, cz BK271 1, cz BK271 2, cz BK271 3, cz BK271 4, cz BK266 0, cz BK266 1, cz BK266 2, cz BK266 3, cz BK266 4⟩ (fun hHeld => ?_)
         clear hK K
         refine norm_ ap ?_
         refine pu 7 78 (bA 11 511) HT_ rfl rfl ?_
         refine one_ (i := 9) (N := some 80) (bA 11 1023) rfl rfl (one_of HT_.out (by kernel_rfl)) (by decide) (fun K hK => ?_)
         refine goes_ Try.func98 (by kernel_rfl) rfl #[.agg #[.int .i64 ((rd_T27 l0_4 x66_4).f0), .int .i64 ((rd_T27 l0_4 x66_4).f1), .string ((rd_T27 l0_4 x66_4).f2), .slice A270_3 ((rd_T27 l0_4 x66_4).f3).length c270_3, .slice A270_4 ((rd_T27 l0_4 x66_4).f4).length c270_4], .int .i64 a1, .int .i64 (wrap64 (a2 + t272)), .int .i64 a3] (by rfl) rfl rfl bl ?_
         with_reducible refine (ih k4 (by have := HJ4.out; have := HK2.out; have := HJ28.out; have := HK4.out; omega) ((rd_T27 l0_4 x66_4).f0) ((rd_T27 l0_4 x66_4).f1) ((rd_T27 l0_4 x66_4).f2) _ _ ((rd_T27 l0_4 x66_4).f3) _ _ ((rd_T27 l0_4 x66_4).f4) a1 (wrap64 (a2 + t272)) a3 t273 _ ?side1 ?side2 ?side3 ?side4 A41.out).mono ?_
         (case side1 => exact cr (Kd.C_below HR270_3.out (hbk HB)))
         (case side2 => exact HC270_3.out)
         (case side3 => exact cr (Kd.C_below HR270_4.out (hbk HB)))
         (case side4 => exact HC270_4.out)
         rintro e w48 ⟨rfl, hb⟩
         refine ⟨_, rfl, ?_⟩
         replace BK266 := Bk BK266 hb
         replace BK271 := Bk BK271 hb
         replace HB := Hs HB hb
         (try clear hb)
         (try clear hb2)
         (try clear hk)
         (try clear hi)
         refine hK.out _ _ ⟨cz BK271 0, cz BK271 1, cz BK271 2, cz BK271 3, cz BK271 4, cz BK266 0, cz BK266 1, cz BK266 2, cz BK266 3, cz BK266 4⟩ (fun hHeld => ?_)
         clear hK K
         refine norm_ ap ?_
         refine pu 10 13 (bA 11 2047) HT_ rfl rfl ?_
         refine done_ (done_of HT_.out (by kernel_rfl)) ?_
         try go_wp2
         go_roundg k4
         case measure => have := HJ4.out; have := HK2.out; have := HJ28.out; have := HK4.out; omega
         case rel => exact ⟨(wrap64 (x66_4 + 1)), br, H', ⟨by have := HJ4.out; have := HK2.out; have := HJ28.out; have := HK4.out; omega⟩, ⟨bk BK266.out⟩, ⟨hbk HB⟩⟩
end Go.Proofs.Ytpejhapgffcngaa.QK

