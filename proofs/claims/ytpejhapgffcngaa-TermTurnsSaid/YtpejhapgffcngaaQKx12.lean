/- Words and walks of this claim. -/
import Derived.Test.YtpejhapgffcngaaXShort
import Derived.Test.YtpejhapgffcngaaQKPart
import Derived.Test.YtpejhapgffcngaaQKApart
namespace Go.Proofs.Ytpejhapgffcngaa.QK
open Go.RowKit Go.Proofs.YtpejhapgffcngaaW.PrintWords Go.Proofs.YtpejhapgffcngaaW.PrintLast Go.Proofs.YtpejhapgffcngaaW.PrintMore
attribute [local go_sem] max2_int min2_int max_two min_two max_three min_three max_four min_four
set_option linter.unusedVariables false
set_option linter.unusedSimpArgs false
mutual
def touchstoneref5_Whole.j0 : Nat → Int → Bool → Int → Int → ByteArray → List (S76) → List (S27) → Option (Int × Bool)
 | 0, _, _, _, _, _, _, _ => none
 | k + 1, x1, x17, x319000, x319001, x319002, x319003, x319004 => if x17 = true then (some ((-1), false)) else (touchstoneref5_Whole.l0 k x1 0 x319000 x319001 x319002 x319003 x319004)
def touchstoneref5_Whole.l0 : Nat → Int → Int → Int → Int → ByteArray → List (S76) → List (S27) → Option (Int × Bool)
 | 0, _, _, _, _, _, _, _ => none
 | k + 1, x1, x6, x319000, x319001, x319002, x319003, x319004 => if x6 < (x319004.length : Int) then (if 0 ≤ x6 then ((touchstoneref5_Whole.f k ((rd_T27 x319004 x6).f0) ((rd_T27 x319004 x6).f1) ((rd_T27 x319004 x6).f2) ((rd_T27 x319004 x6).f3) ((rd_T27 x319004 x6).f4) x1).bind fun bt321 => (if bt321.2 = true then (touchstoneref5_Whole.l0 k bt321.1 (wrap64 (x6 + 1)) x319000 x319001 x319002 x319003 x319004) else (some ((-1), false)))) else (none)) else (some (x1, true))
def touchstoneref5_Whole.f : Nat → Int → Int → ByteArray → List (S76) → List (S27) → Int → Option (Int × Bool)
 | 0, _, _, _, _, _, _ => none
 | k + 1, a0_0, a0_1, a0_2, l0_3, l0_4, a1 => if (wrap64 (a1 - 1)) < 0 then (touchstoneref5_Whole.j0 k (wrap64 (a1 - 1)) true a0_0 a0_1 a0_2 l0_3 l0_4) else ((touchstoneref5_part.f a0_0 a0_1 a0_2 l0_3 l0_4).bind fun t319 => (touchstoneref5_Whole.j0 k (wrap64 (a1 - 1)) (!t319) a0_0 a0_1 a0_2 l0_3 l0_4))
end
set_option maxHeartbeats 8000000 in
set_option maxRecDepth 100000 in
theorem touchstoneref5_Whole.calls (k : Nat) : ∀ (a0_0 : Int) (a0_1 : Int) (a0_2 : ByteArray) (A0_3 : Option Addr) (c0_3 : Nat) (l0_3 : List (S76)) (A0_4 : Option Addr) (c0_4 : Nat) (l0_4 : List (S27)) (a1 : Int) (r1 : Int) (r2 : Bool) (w : World) (hr0_3 : Kd.C k76 w A0_3 l0_3.length l0_3) (hc0_3 : l0_3.length ≤ c0_3) (hr0_4 : Kd.C k27 w A0_4 l0_4.length l0_4) (hc0_4 : l0_4.length ≤ c0_4) (h : touchstoneref5_Whole.f k a0_0 a0_1 a0_2 l0_3 l0_4 a1 = some (r1, r2)),
  Calls Try.prog 86 #[.agg #[.int .i64 a0_0, .int .i64 a0_1, .string a0_2, .slice A0_3 l0_3.length c0_3, .slice A0_4 l0_4.length c0_4], .int .i64 a1] w fun e w' => e = .returned (.tuple #[.int .i64 r1, .bool r2]) ∧ Below w.heap.size w w' := by
 induction k using Nat.strongRecOn with
 | _ k ih =>
 intro a0_0 a0_1 a0_2 A0_3 c0_3 l0_3 A0_4 c0_4 l0_4 a1 r1 r2 w hr0_3 hc0_3 hr0_4 hc0_4 h
 cases k with
 | zero => exact absurd h (by simp [touchstoneref5_Whole.f])
 | succ k =>
 simp only [touchstoneref5_Whole.f] at h
 have hu27 := Try.underlying27
 have HR0_3 := aS hr0_3
 have HC0_3 := aS hc0_3
 clear hr0_3 hc0_3
 have HR0_4 := aS hr0_4
 have HC0_4 := aS hc0_4
 clear hr0_4 hc0_4
 have HB := aS (Below.refl w.heap.size w)
 have H : (if (wrap64 (a1 - 1)) < 0 then (touchstoneref5_Whole.j0 k (wrap64 (a1 - 1)) true a0_0 a0_1 a0_2 l0_3 l0_4) else ((touchstoneref5_part.f a0_0 a0_1 a0_2 l0_3 l0_4).bind fun t319 => (touchstoneref5_Whole.j0 k (wrap64 (a1 - 1)) (!t319) a0_0 a0_1 a0_2 l0_3 l0_4))) = some (r1, r2) := h
 clear h
 have HC3 := aS H
 clear H
 go_enter Try.func86, Try.ntmps86
 go_upto_region 2 with (first | ((with_reducible refine gate_dst (N := 2) rfl ?_); refine bx (N := 2) (t := 27) #[.int .i64 a0_0, .int .i64 a0_1, .string a0_2, .slice A0_3 l0_3.length c0_3, .slice A0_4 l0_4.length c0_4] ?_; intro gb318 hg w4 hbox hb; have BK318 := aS (hbox); have GW318 := Gz hg HB; have GE318 := Gz hg HB; replace HB := Hs HB hb; clear hb hbox hg))
 (try simp only [Act.put, List.setIfInBounds_toArray, List.set_cons_zero, List.set_cons_succ])
 go_cut [17] (fun v17 wc => ∃ (kq : Nat) (x17_2 : Bool), v17 = .bool x17_2 ∧ Aside0 (touchstoneref5_Whole.j0 kq (wrap64 (a1 - 1)) x17_2 a0_0 a0_1 a0_2 l0_3 l0_4 = some (r1, r2)) ∧ Aside0 (kq ≤ k) ∧ Aside0 (wc.heap[gb318]? = some (.cells #[.int .i64 a0_0, .int .i64 a0_1, .string a0_2, (.slice A0_3 l0_3.length c0_3), (.slice A0_4 l0_4.length c0_4)] 27 (0, 0))) ∧ Aside0 (Below w.heap.size w wc))
 case first =>
  have H := HC3.out
  clear HC3
  by_cases c5 : (wrap64 (a1 - 1)) < 0
  ·rw [if_pos c5] at H
   have c5b0 : decide ((wrap64 (a1 - 1)) < 0) = true := decide_eq_true c5
   clear c5
   (first | rw [c5b0] | (simp only [i64_w, i32_w]; rw [c5b0]) | skip)
   have H' := aS H
   clear H
   go_wp2
   go_meet
   case rel => exact ⟨_, (true), br, H', ⟨by first | omega | exact Nat.le_refl _⟩, ⟨bk BK318.out⟩, ⟨hbk HB⟩⟩
  rw [if_neg c5] at H
  have c5b0 : decide ((wrap64 (a1 - 1)) < 0) = false := decide_eq_false c5
  clear c5
  (first | rw [c5b0] | (simp only [i64_w, i32_w]; rw [c5b0]) | skip)
  replace H := Option.bind_eq_some_iff.mp H
  obtain ⟨t319, A60, H⟩ := H
  try dsimp only at H
  have A6 := aS A60
  clear A60
  have H' := aS H
  clear H
  obtain ⟨hcz7_0, hcz7_1, hcz7_2, hcz7_3, hcz7_4⟩ := cl5 BK318
  obtain ⟨hfz7_0, hfz7_1, hfz7_2, hfz7_3, hfz7_4⟩ := fz5 BK318
  go_wp2_with (first | (go_at_call 117; (with_reducible refine (touchstoneref5_part.calls a0_0 a0_1 a0_2 _ _ l0_3 _ _ l0_4 t319 _ ?side1 ?side2 ?side3 ?side4 A6.out).mono ?_); (case side1 => exact cr (Kd.C_below HR0_3.out HB.out)); (case side2 => exact HC0_3.out); (case side3 => exact cr (Kd.C_below HR0_4.out HB.out)); (case side4 => exact HC0_4.out); rintro e w8 ⟨rfl, hb⟩; replace BK318 := Bk BK318 hb; replace HB := Hs HB hb; (try clear hb); (try clear hb2); (try clear hk); (try clear hi)))
  go_meet
  case rel => exact ⟨_, (!t319), br, H', ⟨by first | omega | exact Nat.le_refl _⟩, ⟨bk BK318.out⟩, ⟨hbk HB⟩⟩
 case rest =>
  clear HC3
  try clear p2
  try clear c5
  try clear c5b0
  try clear p6
  try clear c8
  try clear hcz7_0 hcz7_1 hcz7_2 hcz7_3 hcz7_4
  try clear hfz7_0 hfz7_1 hfz7_2 hfz7_3 hfz7_4
  obtain ⟨kq, x17_2, rfl, HA, HJ2, BK318, HB⟩ := hcut
  cases kq with
  | zero => exact absurd HA.out (by simp [touchstoneref5_Whole.j0])
  | succ kj2 =>
   have H := HA.out
   clear HA
   simp only [touchstoneref5_Whole.j0] at H
   by_cases c9 : x17_2 = true
   ·subst c9
    have H1 : (some ((-1), false)) = some (r1, r2) := by rw [if_pos rfl] at H; exact H
    clear H
    have H := H1
    clear H1
    simp only [Option.some.injEq, Prod.mk.injEq] at H
    obtain ⟨rfl, rfl⟩ := H
    go_wp2
    go_ret2
    exact ⟨by first | rfl | (simp [errW_none, errW_some] <;> rfl) | (simp [*, errW_none, errW_some] <;> rfl), hbk HB⟩
   replace c9 := Bool.eq_false_iff.mpr c9
   subst c9
   have H1 : (touchstoneref5_Whole.l0 kj2 (wrap64 (a1 - 1)) 0 a0_0 a0_1 a0_2 l0_3 l0_4) = some (r1, r2) := by rw [if_neg (show ¬ (false = true) by decide)] at H; exact H
   clear H
   have H := H1
   clear H1
   have H' := aS H
   clear H
   go_wp2
   go_loopg [1, 6] kj2 (fun kq v1 v6 w' => ∃ (x1_2 : Int) (x6_2 : Int), v1 = .int .i64 x1_2 ∧ v6 = .int .i64 x6_2 ∧ Aside0 (touchstoneref5_Whole.l0 kq x1_2 x6_2 a0_0 a0_1 a0_2 l0_3 l0_4 = some (r1, r2)) ∧ Aside0 (kq ≤ kj2) ∧ Aside0 (w'.heap[gb318]? = some (.cells #[.int .i64 a0_0, .int .i64 a0_1, .string a0_2, (.slice A0_3 l0_3.length c0_3), (.slice A0_4 l0_4.length c0_4)] 27 (0, 0))) ∧ Aside0 (Below w.heap.size w w'))
   case atStart => exact ⟨((wrap64 (a1 - 1))), (0), br, br, H', ⟨Nat.le_refl _⟩, ⟨bk BK318.out⟩, ⟨hbk HB⟩⟩
   case round =>
    clear H'
    try clear p2
    try clear c5
    try clear c5b0
    try clear p6
    try clear c8
    try clear c9
    try clear hcz7_0 hcz7_1 hcz7_2 hcz7_3 hcz7_4
    try clear hfz7_0 hfz7_1 hfz7_2 hfz7_3 hfz7_4
    try clear p2
    try clear p6
    obtain ⟨x1_2, x6_2, rfl, rfl, HA, HK2, BK318, HB⟩ := hrel
    cases gk with
    | zero => exact absurd HA.out (by simp [touchstoneref5_Whole.l0])
    | succ k2 =>
     have H := HA.out
     clear HA
     simp only [touchstoneref5_Whole.l0] at H
     by_cases c10 : x6_2 < (l0_4.length : Int)
     rotate_left
     ·rw [if_neg c10] at H
      have c10b0 : decide (x6_2 < (l0_4.length : Int)) = false := decide_eq_false c10
      clear c10
      simp only [Option.some.injEq, Prod.mk.injEq] at H
      obtain ⟨rfl, rfl⟩ := H
      obtain ⟨hcz18_0, hcz18_1, hcz18_2, hcz18_3, hcz18_4⟩ := cl5 BK318
      obtain ⟨hfz18_0, hfz18_1, hfz18_2, hfz18_3, hfz18_4⟩ := fz5 BK318
      go_wp2
      go_ret2
      exact ⟨by first | rfl | (simp [errW_none, errW_some] <;> rfl) | (simp [*, errW_none, errW_some] <;> rfl), hbk HB⟩
     rw [if_pos c10] at H
     have c10b0 : decide (x6_2 < (l0_4.length : Int)) = true := decide_eq_true c10
     clear c10
     by_cases c11 : 0 ≤ x6_2
     rotate_left
     ·rw [if_neg c11] at H
      exact absurd H (by simp)
     rw [if_pos c11] at H
     have c11b0 : decide (0 ≤ x6_2) = true := decide_eq_true c11
     clear c11
     replace H := Option.bind_eq_some_iff.mp H
     obtain ⟨⟨t321, t322⟩, A120, H⟩ := H
     try dsimp only at H
     have A12 := aS A120
     clear A120
     by_cases c13 : t322 = true
     rotate_left
     ·replace c13 := Bool.eq_false_iff.mpr c13
      subst c13
      have H1 : (some ((-1), false)) = some (r1, r2) := by rw [if_neg (show ¬ (false = true) by decide)] at H; exact H
      clear H
      have H := H1
      clear H1
      simp only [Option.some.injEq, Prod.mk.injEq] at H
      obtain ⟨rfl, rfl⟩ := H
      obtain ⟨hcz16_0, hcz16_1, hcz16_2, hcz16_3, hcz16_4⟩ := cl5 BK318
      obtain ⟨hfz16_0, hfz16_1, hfz16_2, hfz16_3, hfz16_4⟩ := fz5 BK318
      have p320 : 0 ≤ (x6_2 : Int) := of_decide_eq_true ba
      have q320 : x6_2 < (l0_4.length : Int) := of_decide_eq_true ba
      obtain ⟨ad320, A320_3, c320_3, A320_4, c320_4, e320, hx320_0, hx320_1, hx320_2, hx320_3, hx320_4, hl320_3, hi320_3, hl320_4, hi320_4⟩ := at_T27 HR0_4.out x6_2 p320 q320
      cases e320
      replace hx320_0 := (hc HB hx320_0 :)
      replace hx320_1 := (hc HB hx320_1 :)
      replace hx320_2 := (hc HB hx320_2 :)
      replace hx320_3 := (hc HB hx320_3 :)
      replace hx320_4 := (hc HB hx320_4 :)
      have HR320_3 := aS hi320_3
      have HC320_3 := aS hl320_3
      clear hi320_3 hl320_3
      have HR320_4 := aS hi320_4
      have HC320_4 := aS hl320_4
      clear hi320_4 hl320_4
      replace p320 := eq_true p320
      replace q320 := eq_true q320
      go_wp2_with (first | ((with_reducible refine gate_callee (f := 86) rfl ?_); refine goesL_ (some 32) rfl rfl Try.func86 (by kernel_rfl) rfl #[.agg #[.int .i64 ((rd_T27 l0_4 x6_2).f0), .int .i64 ((rd_T27 l0_4 x6_2).f1), .string ((rd_T27 l0_4 x6_2).f2), .slice A320_3 ((rd_T27 l0_4 x6_2).f3).length c320_3, .slice A320_4 ((rd_T27 l0_4 x6_2).f4).length c320_4], .int .i64 x1_2] rfl bl ?_; (with_reducible refine (ih k2 (by have := HJ2.out; have := HK2.out; omega) ((rd_T27 l0_4 x6_2).f0) ((rd_T27 l0_4 x6_2).f1) ((rd_T27 l0_4 x6_2).f2) _ _ ((rd_T27 l0_4 x6_2).f3) _ _ ((rd_T27 l0_4 x6_2).f4) x1_2 t321 false _ ?side1 ?side2 ?side3 ?side4 A12.out).mono ?_); (case side1 => exact cr (Kd.C_below HR320_3.out HB.out)); (case side2 => exact HC320_3.out); (case side3 => exact cr (Kd.C_below HR320_4.out HB.out)); (case side4 => exact HC320_4.out); rintro e w17 ⟨rfl, hb⟩; refine ⟨_, rfl, ?_⟩; replace BK318 := Bk BK318 hb; replace HB := Hs HB hb; (try clear hb); (try clear hb2); (try clear hk); (try clear hi)))
      go_ret2
      exact ⟨by first | rfl | (simp [errW_none, errW_some] <;> rfl) | (simp [*, errW_none, errW_some] <;> rfl), hbk HB⟩
     subst c13
     have H1 : (touchstoneref5_Whole.l0 k2 t321 (wrap64 (x6_2 + 1)) a0_0 a0_1 a0_2 l0_3 l0_4) = some (r1, r2) := by rw [if_pos rfl] at H; exact H
     clear H
     have H := H1
     clear H1
     have H' := aS H
     clear H
     obtain ⟨hcz14_0, hcz14_1, hcz14_2, hcz14_3, hcz14_4⟩ := cl5 BK318
     obtain ⟨hfz14_0, hfz14_1, hfz14_2, hfz14_3, hfz14_4⟩ := fz5 BK318
     have p320 : 0 ≤ (x6_2 : Int) := of_decide_eq_true ba
     have q320 : x6_2 < (l0_4.length : Int) := of_decide_eq_true ba
     obtain ⟨ad320, A320_3, c320_3, A320_4, c320_4, e320, hx320_0, hx320_1, hx320_2, hx320_3, hx320_4, hl320_3, hi320_3, hl320_4, hi320_4⟩ := at_T27 HR0_4.out x6_2 p320 q320
     cases e320
     replace hx320_0 := (hc HB hx320_0 :)
     replace hx320_1 := (hc HB hx320_1 :)
     replace hx320_2 := (hc HB hx320_2 :)
     replace hx320_3 := (hc HB hx320_3 :)
     replace hx320_4 := (hc HB hx320_4 :)
     have HR320_3 := aS hi320_3
     have HC320_3 := aS hl320_3
     clear hi320_3 hl320_3
     have HR320_4 := aS hi320_4
     have HC320_4 := aS hl320_4
     clear hi320_4 hl320_4
     replace p320 := eq_true p320
     replace q320 := eq_true q320
     go_wp2_with (first | ((with_reducible refine gate_callee (f := 86) rfl ?_); refine goesL_ (some 32) rfl rfl Try.func86 (by kernel_rfl) rfl #[.agg #[.int .i64 ((rd_T27 l0_4 x6_2).f0), .int .i64 ((rd_T27 l0_4 x6_2).f1), .string ((rd_T27 l0_4 x6_2).f2), .slice A320_3 ((rd_T27 l0_4 x6_2).f3).length c320_3, .slice A320_4 ((rd_T27 l0_4 x6_2).f4).length c320_4], .int .i64 x1_2] rfl bl ?_; (with_reducible refine (ih k2 (by have := HJ2.out; have := HK2.out; omega) ((rd_T27 l0_4 x6_2).f0) ((rd_T27 l0_4 x6_2).f1) ((rd_T27 l0_4 x6_2).f2) _ _ ((rd_T27 l0_4 x6_2).f3) _ _ ((rd_T27 l0_4 x6_2).f4) x1_2 t321 true _ ?side1 ?side2 ?side3 ?side4 A12.out).mono ?_); (case side1 => exact cr (Kd.C_below HR320_3.out HB.out)); (case side2 => exact HC320_3.out); (case side3 => exact cr (Kd.C_below HR320_4.out HB.out)); (case side4 => exact HC320_4.out); rintro e w15 ⟨rfl, hb⟩; refine ⟨_, rfl, ?_⟩; replace BK318 := Bk BK318 hb; replace HB := Hs HB hb; (try clear hb); (try clear hb2); (try clear hk); (try clear hi)))
     go_roundg k2
     case measure => have := HJ2.out; have := HK2.out; omega
     case rel => exact ⟨(t321), (wrap64 (x6_2 + 1)), br, br, H', ⟨by have := HJ2.out; have := HK2.out; omega⟩, ⟨bk BK318.out⟩, ⟨hbk HB⟩⟩
def touchstonelaw5_Light.f (k : Nat) (a0_0 : Int) (a0_1 : Int) (a0_2 : ByteArray) (l0_3 : List (S76)) (l0_4 : List (S27)) (a1 : Int) : Option (Bool) := (touchstoneref5_Whole.f k a0_0 a0_1 a0_2 l0_3 l0_4 a1).bind fun bt324 => (some bt324.2)
set_option maxHeartbeats 8000000 in
set_option maxRecDepth 100000 in
theorem touchstonelaw5_Light.calls (k : Nat) (a0_0 : Int) (a0_1 : Int) (a0_2 : ByteArray) (A0_3 : Option Addr) (c0_3 : Nat) (l0_3 : List (S76)) (A0_4 : Option Addr) (c0_4 : Nat) (l0_4 : List (S27)) (a1 : Int) (r : Bool) (w : World) (hr0_3 : Kd.C k76 w A0_3 l0_3.length l0_3) (hc0_3 : l0_3.length ≤ c0_3) (hr0_4 : Kd.C k27 w A0_4 l0_4.length l0_4) (hc0_4 : l0_4.length ≤ c0_4) (h : touchstonelaw5_Light.f k a0_0 a0_1 a0_2 l0_3 l0_4 a1 = some r) :
  Calls Try.prog 39 #[.agg #[.int .i64 a0_0, .int .i64 a0_1, .string a0_2, .slice A0_3 l0_3.length c0_3, .slice A0_4 l0_4.length c0_4], .int .i64 a1] w fun e w' => e = .returned (.bool r) ∧ Below w.heap.size w w' := by
 have hu27 := Try.underlying27
 have HR0_3 := aS hr0_3
 have HC0_3 := aS hc0_3
 clear hr0_3 hc0_3
 have HR0_4 := aS hr0_4
 have HC0_4 := aS hc0_4
 clear hr0_4 hc0_4
 have HB := aS (Below.refl w.heap.size w)
 have H : ((touchstoneref5_Whole.f k a0_0 a0_1 a0_2 l0_3 l0_4 a1).bind fun bt324 => (some bt324.2)) = some r := h
 clear h
 replace H := Option.bind_eq_some_iff.mp H
 obtain ⟨⟨t324, t325⟩, A30, H⟩ := H
 try dsimp only at H
 have A3 := aS A30
 clear A30
 obtain rfl := Option.some.inj H
 go_enter Try.func39, Try.ntmps39
 go_wp2_with (first | ((with_reducible refine gate_dst (N := 2) rfl ?_); refine bx (N := 2) (t := 27) #[.int .i64 a0_0, .int .i64 a0_1, .string a0_2, .slice A0_3 l0_3.length c0_3, .slice A0_4 l0_4.length c0_4] ?_; intro gb323 hg w4 hbox hb; have BK323 := aS (hbox); have GW323 := Gz hg HB; have GE323 := Gz hg HB; replace HB := Hs HB hb; clear hb hbox hg; obtain ⟨hcz5_0, hcz5_1, hcz5_2, hcz5_3, hcz5_4⟩ := cl5 BK323; obtain ⟨hfz5_0, hfz5_1, hfz5_2, hfz5_3, hfz5_4⟩ := fz5 BK323) | ((with_reducible refine gate_callee (f := 86) rfl ?_); refine goesL_ (some 10) rfl rfl Try.func86 (by kernel_rfl) rfl #[.agg #[.int .i64 a0_0, .int .i64 a0_1, .string a0_2, .slice A0_3 l0_3.length c0_3, .slice A0_4 l0_4.length c0_4], .int .i64 a1] rfl bl ?_; (with_reducible refine (touchstoneref5_Whole.calls k a0_0 a0_1 a0_2 _ _ l0_3 _ _ l0_4 a1 t324 t325 _ ?side1 ?side2 ?side3 ?side4 A3.out).mono ?_); (case side1 => exact cr (Kd.C_below HR0_3.out HB.out)); (case side2 => exact HC0_3.out); (case side3 => exact cr (Kd.C_below HR0_4.out HB.out)); (case side4 => exact HC0_4.out); rintro e w6 ⟨rfl, hb⟩; refine ⟨_, rfl, ?_⟩; replace BK323 := Bk BK323 hb; replace HB := Hs HB hb; (try clear hb); (try clear hb2); (try clear hk); (try clear hi)))
 go_ret
 exact ⟨by first | rfl | (simp [errW_none, errW_some] <;> rfl) | (simp [*, errW_none, errW_some] <;> rfl), hbk HB⟩
mutual
def touchstoneref4_Parts.l0 : Nat → Int → Int → Int → Int → Int → List (S76) → Option (Int)
 | 0, _, _, _, _, _, _ => none
 | k + 1, x1, x5, x6, x327000, x327001, x327002 => if x6 < (x327002.length : Int) then (if x5 ≤ x1 then (if 0 ≤ x6 then ((touchstoneref4_Parts.f k ((rd_T76 x327002 x6).f0) ((rd_T76 x327002 x6).f1) ((rd_T76 x327002 x6).f2) (wrap64 (x1 - x5))).bind fun t328 => (touchstoneref4_Parts.l0 k x1 (wrap64 (x5 + t328)) (wrap64 (x6 + 1)) x327000 x327001 x327002)) else (none)) else (some (mn x5 (wrap64 (x1 + 1))))) else (some (mn x5 (wrap64 (x1 + 1))))
def touchstoneref4_Parts.f : Nat → Int → Int → List (S76) → Int → Option (Int)
 | 0, _, _, _, _ => none
 | k + 1, a0_0, a0_1, l0_2, a1 => touchstoneref4_Parts.l0 k a1 1 0 a0_0 a0_1 l0_2
end
set_option maxHeartbeats 8000000 in
set_option maxRecDepth 100000 in
theorem touchstoneref4_Parts.calls (k : Nat) : ∀ (a0_0 : Int) (a0_1 : Int) (A0_2 : Option Addr) (c0_2 : Nat) (l0_2 : List (S76)) (a1 : Int) (r : Int) (w : World) (hr0_2 : Kd.C k76 w A0_2 l0_2.length l0_2) (hc0_2 : l0_2.length ≤ c0_2) (h : touchstoneref4_Parts.f k a0_0 a0_1 l0_2 a1 = some r),
  Calls Try.prog 123 #[.agg #[.int .i64 a0_0, .int .i64 a0_1, .slice A0_2 l0_2.length c0_2], .int .i64 a1] w fun e w' => e = .returned (.int .i64 r) ∧ Below w.heap.size w w' := by
 induction k using Nat.strongRecOn with
 | _ k ih =>
 intro a0_0 a0_1 A0_2 c0_2 l0_2 a1 r w hr0_2 hc0_2 h
 cases k with
 | zero => exact absurd h (by simp [touchstoneref4_Parts.f])
 | succ k =>
 simp only [touchstoneref4_Parts.f] at h
 have hu76 := Try.underlying76
 have HR0_2 := aS hr0_2
 have HC0_2 := aS hc0_2
 clear hr0_2 hc0_2
 have HB := aS (Below.refl w.heap.size w)
 have H : (touchstoneref4_Parts.l0 k a1 1 0 a0_0 a0_1 l0_2) = some r := h
 clear h
 have H' := aS H
 clear H
 go_enter Try.func123, Try.ntmps123
 go_wp2_with (first | ((with_reducible refine gate_dst (N := 2) rfl ?_); refine bx (N := 2) (t := 76) #[.int .i64 a0_0, .int .i64 a0_1, .slice A0_2 l0_2.length c0_2] ?_; intro gb326 hg w3 hbox hb; have BK326 := aS (hbox); have GW326 := Gz hg HB; have GE326 := Gz hg HB; replace HB := Hs HB hb; clear hb hbox hg))
 go_loopg [5, 6] k (fun kq v5 v6 w' => ∃ (x5_1 : Int) (x6_1 : Int), v5 = .int .i64 x5_1 ∧ v6 = .int .i64 x6_1 ∧ Aside0 (touchstoneref4_Parts.l0 kq a1 x5_1 x6_1 a0_0 a0_1 l0_2 = some r) ∧ Aside0 (kq ≤ k) ∧ Aside0 (w'.heap[gb326]? = some (.cells #[.int .i64 a0_0, .int .i64 a0_1, (.slice A0_2 l0_2.length c0_2)] 76 (0, 0))) ∧ Aside0 (Below w.heap.size w w'))
 case atStart => exact ⟨(1), (0), br, br, H', ⟨Nat.le_refl _⟩, ⟨bk BK326.out⟩, ⟨hbk HB⟩⟩
 case round =>
  clear H'
  try clear c1
  try clear p2
  obtain ⟨x5_1, x6_1, rfl, rfl, HA, HK1, BK326, HB⟩ := hrel
  cases gk with
  | zero => exact absurd HA.out (by simp [touchstoneref4_Parts.l0])
  | succ k1 =>
   have H := HA.out
   clear HA
   simp only [touchstoneref4_Parts.l0] at H
   by_cases c4 : x6_1 < (l0_2.length : Int)
   rotate_left
   ·rw [if_neg c4] at H
    have c4b0 : decide (x6_1 < (l0_2.length : Int)) = false := decide_eq_false c4
    clear c4
    obtain ⟨ji12, hji12⟩ : ∃ j_ : Int, (mn x5_1 (wrap64 (a1 + 1))) = j_ := ⟨_, rfl⟩
    replace H : (some ji12) = some r := by first | (rw [hji12] at H; exact H) | (simp only [hji12] at H ⊢; exact H)
    have hji12_ : (if (wrap64 (a1 + 1)) < x5_1 then (wrap64 (a1 + 1)) else x5_1) = ji12 := hji12
    obtain rfl := Option.some.inj H
    obtain ⟨hcz13_0, hcz13_1, hcz13_2⟩ := cl3 BK326
    obtain ⟨hfz13_0, hfz13_1, hfz13_2⟩ := fz3 BK326
    go_wp2
    go_ret
    exact ⟨by first | rfl | (simp [errW_none, errW_some] <;> rfl) | (simp only [← hji12]; first | rfl | (simp [errW_none, errW_some] <;> rfl)) | (simp [*, errW_none, errW_some] <;> rfl), hbk HB⟩
   rw [if_pos c4] at H
   have c4b0 : decide (x6_1 < (l0_2.length : Int)) = true := decide_eq_true c4
   clear c4
   by_cases c5 : x5_1 ≤ a1
   rotate_left
   ·rw [if_neg c5] at H
    have c5b0 : decide (x5_1 ≤ a1) = false := decide_eq_false c5
    clear c5
    obtain ⟨ji10, hji10⟩ : ∃ j_ : Int, (mn x5_1 (wrap64 (a1 + 1))) = j_ := ⟨_, rfl⟩
    replace H : (some ji10) = some r := by first | (rw [hji10] at H; exact H) | (simp only [hji10] at H ⊢; exact H)
    have hji10_ : (if (wrap64 (a1 + 1)) < x5_1 then (wrap64 (a1 + 1)) else x5_1) = ji10 := hji10
    obtain rfl := Option.some.inj H
    obtain ⟨hcz11_0, hcz11_1, hcz11_2⟩ := cl3 BK326
    obtain ⟨hfz11_0, hfz11_1, hfz11_2⟩ := fz3 BK326
    go_wp2
    go_ret
    exact ⟨by first | rfl | (simp [errW_none, errW_some] <;> rfl) | (simp only [← hji10]; first | rfl | (simp [errW_none, errW_some] <;> rfl)) | (simp [*, errW_none, errW_some] <;> rfl), hbk HB⟩
   rw [if_pos c5] at H
   have c5b0 : decide (x5_1 ≤ a1) = true := decide_eq_true c5
   clear c5
   by_cases c6 : 0 ≤ x6_1
   rotate_left
   ·rw [if_neg c6] at H
    exact absurd H (by simp)
   rw [if_pos c6] at H
   have c6b0 : decide (0 ≤ x6_1) = true := decide_eq_true c6
   clear c6
   replace H := Option.bind_eq_some_iff.mp H
   obtain ⟨t328, A70, H⟩ := H
   try dsimp only at H
   have A7 := aS A70
   clear A70
   have H' := aS H
   clear H
   obtain ⟨hcz8_0, hcz8_1, hcz8_2⟩ := cl3 BK326
   obtain ⟨hfz8_0, hfz8_1, hfz8_2⟩ := fz3 BK326
   have p327 : 0 ≤ (x6_1 : Int) := of_decide_eq_true ba
   have q327 : x6_1 < (l0_2.length : Int) := of_decide_eq_true ba
   obtain ⟨ad327, A327_2, c327_2, e327, hx327_0, hx327_1, hx327_2, hl327_2, hi327_2⟩ := at_T76 HR0_2.out x6_1 p327 q327
   cases e327
   replace hx327_0 := (hc HB hx327_0 :)
   replace hx327_1 := (hc HB hx327_1 :)
   replace hx327_2 := (hc HB hx327_2 :)
   have HR327_2 := aS hi327_2
   have HC327_2 := aS hl327_2
   clear hi327_2 hl327_2
   replace p327 := eq_true p327
   replace q327 := eq_true q327
   go_wp2_with (first | ((with_reducible refine gate_callee (f := 123) rfl ?_); refine goesL_ (some 28) rfl rfl Try.func123 (by kernel_rfl) rfl #[.agg #[.int .i64 ((rd_T76 l0_2 x6_1).f0), .int .i64 ((rd_T76 l0_2 x6_1).f1), .slice A327_2 ((rd_T76 l0_2 x6_1).f2).length c327_2], .int .i64 (wrap64 (a1 - x5_1))] rfl bl ?_; (with_reducible refine (ih k1 (by have := HK1.out; omega) ((rd_T76 l0_2 x6_1).f0) ((rd_T76 l0_2 x6_1).f1) _ _ ((rd_T76 l0_2 x6_1).f2) (wrap64 (a1 - x5_1)) t328 _ ?side1 ?side2 A7.out).mono ?_); (case side1 => exact cr (Kd.C_below HR327_2.out HB.out)); (case side2 => exact HC327_2.out); rintro e w9 ⟨rfl, hb⟩; refine ⟨_, rfl, ?_⟩; replace BK326 := Bk BK326 hb; replace HB := Hs HB hb; (try clear hb); (try clear hb2); (try clear hk); (try clear hi)))
   go_roundg k1
   case measure => have := HK1.out; omega
   case rel => exact ⟨(wrap64 (x5_1 + t328)), (wrap64 (x6_1 + 1)), br, br, H', ⟨by have := HK1.out; omega⟩, ⟨bk BK326.out⟩, ⟨hbk HB⟩⟩
def touchstoneref4_args.j0 : Nat → Int → Bool → Option (Int)
 | 0, _, _ => none
 | k + 1, x3, x4 => if x4 = true then (some 0) else (if x3 = 1 then (some 1) else (if x3 = 2 then (some 2) else (if x3 = 3 then (some 2) else (some (-1)))))
def touchstoneref4_args.f (k : Nat) (a0 : Int) : Option (Int) := if a0 = 0 then (touchstoneref4_args.j0 k a0 (a0 == 0)) else (touchstoneref4_args.j0 k a0 (a0 == 4))
set_option maxHeartbeats 8000000 in
set_option maxRecDepth 100000 in
theorem touchstoneref4_args.calls (k : Nat) (a0 : Int) (r : Int) (w : World) (h : touchstoneref4_args.f k a0 = some r) :
  Calls Try.prog 143 #[.int .i64 a0] w fun e w' => e = .returned (.int .i64 r) ∧ Drawn0 w w' := by
 have H : (if a0 = 0 then (touchstoneref4_args.j0 k a0 (a0 == 0)) else (touchstoneref4_args.j0 k a0 (a0 == 4))) = some r := h
 clear h
 have HC2 := aS H
 clear H
 go_enter Try.func143, Try.ntmps143
 go_upto_if 4 with (fail)
 go_cut [4] (fun v4 wc => ∃ (kq : Nat) (x4_1 : Bool), v4 = .bool x4_1 ∧ Aside0 (touchstoneref4_args.j0 kq a0 x4_1 = some r) ∧ Aside0 (kq ≤ k) ∧ Drawn0 w wc)
 case first =>
  have H := HC2.out
  clear HC2
  by_cases c3 : a0 = 0
  rotate_left
  ·rw [if_neg c3] at H
   have c3b0 : (a0 == 0) = false := beq_eq_false_iff_ne.mpr c3
   have c3b1 : (a0 != 0) = true := bne_iff_ne.mpr c3
   (first | rw [c3b0] | (simp only [i64_w, i32_w]; rw [c3b0]) | skip)
   have H' := aS H
   clear H
   go_wp2
   go_meet
   case rel => exact ⟨_, ((a0 == 4)), br, H', ⟨by first | omega | exact Nat.le_refl _⟩, by repeat (first | exact Drawn0.refl _ | apply Drawn0.step)⟩
  rw [if_pos c3] at H
  have c3b0 : (a0 == 0) = true := beq_iff_eq.mpr c3
  have c3b1 : (a0 != 0) = false := bne_eq_false_iff_eq.mpr c3
  clear c3
  (first | rw [c3b0] | (simp only [i64_w, i32_w]; rw [c3b0]) | skip)
  have H' := aS H
  clear H
  go_wp2
  go_meet
  case rel => exact ⟨_, ((a0 == 0)), br, H', ⟨by first | omega | exact Nat.le_refl _⟩, by repeat (first | exact Drawn0.refl _ | apply Drawn0.step)⟩
 case rest =>
  clear HC2
  try clear c1
  try clear p2
  try clear c3
  try clear c3b0
  try clear c3b1
  obtain ⟨kq, x4_1, rfl, HA, HJ1, ⟨mc1, rfl⟩⟩ := hcut
  cases kq with
  | zero => exact absurd HA.out (by simp [touchstoneref4_args.j0])
  | succ kj1 =>
   have H := HA.out
   clear HA
   simp only [touchstoneref4_args.j0] at H
   by_cases c4 : x4_1 = true
   ·subst c4
    have H1 : (some 0) = some r := by rw [if_pos rfl] at H; exact H
    clear H
    have H := H1
    clear H1
    obtain rfl := Option.some.inj H
    go_wp2
    go_ret
    exact ⟨by first | rfl | (simp; done) | (simp [*]; done), by repeat (first | exact Drawn0.refl _ | apply Drawn0.step)⟩
   replace c4 := Bool.eq_false_iff.mpr c4
   subst c4
   have H1 : (if a0 = 1 then (some 1) else (if a0 = 2 then (some 2) else (if a0 = 3 then (some 2) else (some (-1))))) = some r := by rw [if_neg (show ¬ (false = true) by decide)] at H; exact H
   clear H
   have H := H1
   clear H1
   by_cases c5 : a0 = 1
   ·rw [if_pos c5] at H
    have c5b0 : (a0 == 1) = true := beq_iff_eq.mpr c5
    have c5b1 : (a0 != 1) = false := bne_eq_false_iff_eq.mpr c5
    clear c5
    obtain rfl := Option.some.inj H
    go_wp2
    go_ret
    exact ⟨by first | rfl | (simp; done) | (simp [*]; done), by repeat (first | exact Drawn0.refl _ | apply Drawn0.step)⟩
   rw [if_neg c5] at H
   have c5b0 : (a0 == 1) = false := beq_eq_false_iff_ne.mpr c5
   have c5b1 : (a0 != 1) = true := bne_iff_ne.mpr c5
   by_cases c6 : a0 = 2
   ·rw [if_pos c6] at H
    have c6b0 : (a0 == 2) = true := beq_iff_eq.mpr c6
    have c6b1 : (a0 != 2) = false := bne_eq_false_iff_eq.mpr c6
    clear c6
    obtain rfl := Option.some.inj H
    go_wp2
    go_ret
    exact ⟨by first | rfl | (simp; done) | (simp [*]; done), by repeat (first | exact Drawn0.refl _ | apply Drawn0.step)⟩
   rw [if_neg c6] at H
   have c6b0 : (a0 == 2) = false := beq_eq_false_iff_ne.mpr c6
   have c6b1 : (a0 != 2) = true := bne_iff_ne.mpr c6
   by_cases c7 : a0 = 3
   rotate_left
   ·rw [if_neg c7] at H
    have c7b0 : (a0 == 3) = false := beq_eq_false_iff_ne.mpr c7
    have c7b1 : (a0 != 3) = true := bne_iff_ne.mpr c7
    obtain rfl := Option.some.inj H
    go_wp2
    go_ret
    exact ⟨by first | rfl | (simp; done) | (simp [*]; done), by repeat (first | exact Drawn0.refl _ | apply Drawn0.step)⟩
   rw [if_pos c7] at H
   have c7b0 : (a0 == 3) = true := beq_iff_eq.mpr c7
   have c7b1 : (a0 != 3) = false := bne_eq_false_iff_eq.mpr c7
   clear c7
   obtain rfl := Option.some.inj H
   go_wp2
   go_ret
   exact ⟨by first | rfl | (simp; done) | (simp [*]; done), by repeat (first | exact Drawn0.refl _ | apply Drawn0.step)⟩
end Go.Proofs.Ytpejhapgffcngaa.QK

