/- Words and walks of this claim. -/
import Derived.Test.YtpejhapgffcngaaXShort
import Derived.Test.YtpejhapgffcngaaQKApart
import Derived.Test.YtpejhapgffcngaaQKx8
import Derived.Test.YtpejhapgffcngaaQKx13
namespace Go.Proofs.Ytpejhapgffcngaa.QK
open Go.RowKit Go.Proofs.YtpejhapgffcngaaW.PrintWords Go.Proofs.YtpejhapgffcngaaW.PrintLast Go.Proofs.YtpejhapgffcngaaW.PrintMore
attribute [local go_sem] max2_int min2_int max_two min_two max_three min_three max_four min_four
set_option linter.unusedVariables false
set_option linter.unusedSimpArgs false
mutual
def touchstonelaw5_termLevels.l0 : Nat → Int → Int → Int → ByteArray → List (S76) → List (S27) → Option (Bool)
 | 0, _, _, _, _, _, _ => none
 | k + 1, x3, x339000, x339001, x339002, x339003, x339004 => if x3 < (x339004.length : Int) then (if 0 ≤ x3 then ((touchstonelaw5_termLevels.f k ((rd_T27 x339004 x3).f0) ((rd_T27 x339004 x3).f1) ((rd_T27 x339004 x3).f2) ((rd_T27 x339004 x3).f3) ((rd_T27 x339004 x3).f4)).bind fun t341 => (if t341 = true then (touchstonelaw5_termLevels.l0 k (wrap64 (x3 + 1)) x339000 x339001 x339002 x339003 x339004) else (some false))) else (none)) else (some true)
def touchstonelaw5_termLevels.f : Nat → Int → Int → ByteArray → List (S76) → List (S27) → Option (Bool)
 | 0, _, _, _, _, _ => none
 | k + 1, a0_0, a0_1, a0_2, l0_3, l0_4 => (touchstonelaw5_lightLevels.f k l0_3).bind fun t339 => (if t339 = true then (touchstonelaw5_termLevels.l0 k 0 a0_0 a0_1 a0_2 l0_3 l0_4) else (some false))
end
set_option maxHeartbeats 8000000 in
set_option maxRecDepth 100000 in
theorem touchstonelaw5_termLevels.calls (k : Nat) : ∀ (a0_0 : Int) (a0_1 : Int) (a0_2 : ByteArray) (A0_3 : Option Addr) (c0_3 : Nat) (l0_3 : List (S76)) (A0_4 : Option Addr) (c0_4 : Nat) (l0_4 : List (S27)) (r : Bool) (w : World) (hr0_3 : Kd.C k76 w A0_3 l0_3.length l0_3) (hc0_3 : l0_3.length ≤ c0_3) (hr0_4 : Kd.C k27 w A0_4 l0_4.length l0_4) (hc0_4 : l0_4.length ≤ c0_4) (h : touchstonelaw5_termLevels.f k a0_0 a0_1 a0_2 l0_3 l0_4 = some r),
  Calls Try.prog 51 #[.agg #[.int .i64 a0_0, .int .i64 a0_1, .string a0_2, .slice A0_3 l0_3.length c0_3, .slice A0_4 l0_4.length c0_4]] w fun e w' => e = .returned (.bool r) ∧ Below w.heap.size w w' := by
 induction k using Nat.strongRecOn with
 | _ k ih =>
 intro a0_0 a0_1 a0_2 A0_3 c0_3 l0_3 A0_4 c0_4 l0_4 r w hr0_3 hc0_3 hr0_4 hc0_4 h
 cases k with
 | zero => exact absurd h (by simp [touchstonelaw5_termLevels.f])
 | succ k =>
 simp only [touchstonelaw5_termLevels.f] at h
 have hu27 := Try.underlying27
 have HR0_3 := aS hr0_3
 have HC0_3 := aS hc0_3
 clear hr0_3 hc0_3
 have HR0_4 := aS hr0_4
 have HC0_4 := aS hc0_4
 clear hr0_4 hc0_4
 have HB := aS (Below.refl w.heap.size w)
 have H : ((touchstonelaw5_lightLevels.f k l0_3).bind fun t339 => (if t339 = true then (touchstonelaw5_termLevels.l0 k 0 a0_0 a0_1 a0_2 l0_3 l0_4) else (some false))) = some r := h
 clear h
 replace H := Option.bind_eq_some_iff.mp H
 obtain ⟨t339, A20, H⟩ := H
 try dsimp only at H
 have A2 := aS A20
 clear A20
 by_cases c3 : t339 = true
 rotate_left
 ·replace c3 := Bool.eq_false_iff.mpr c3
  subst c3
  have H1 : (some false) = some r := by rw [if_neg (show ¬ (false = true) by decide)] at H; exact H
  clear H
  have H := H1
  clear H1
  obtain rfl := Option.some.inj H
  go_enter Try.func51, Try.ntmps51
  go_wp2_with (first | ((with_reducible refine gate_dst (N := 1) rfl ?_); refine bx (N := 1) (t := 27) #[.int .i64 a0_0, .int .i64 a0_1, .string a0_2, .slice A0_3 l0_3.length c0_3, .slice A0_4 l0_4.length c0_4] ?_; intro gb338 hg w16 hbox hb; have BK338 := aS (hbox); have GW338 := Gz hg HB; have GE338 := Gz hg HB; replace HB := Hs HB hb; clear hb hbox hg; obtain ⟨hcz17_0, hcz17_1, hcz17_2, hcz17_3, hcz17_4⟩ := cl5 BK338; obtain ⟨hfz17_0, hfz17_1, hfz17_2, hfz17_3, hfz17_4⟩ := fz5 BK338) | ((with_reducible refine gate_callee (f := 50) rfl ?_); refine goesL_ (some 6) rfl rfl Try.func50 (by kernel_rfl) rfl #[.slice A0_3 l0_3.length c0_3] rfl bl ?_; (with_reducible refine (touchstonelaw5_lightLevels.calls k _ _ l0_3 false _ ?side1 ?side2 A2.out).mono ?_); (case side1 => exact cr (Kd.C_below HR0_3.out HB.out)); (case side2 => exact HC0_3.out); rintro e w18 ⟨rfl, hb⟩; refine ⟨_, rfl, ?_⟩; replace BK338 := Bk BK338 hb; replace HB := Hs HB hb; (try clear hb); (try clear hb2); (try clear hk); (try clear hi)))
  go_ret
  exact ⟨by first | rfl | (simp [errW_none, errW_some] <;> rfl) | (simp [*, errW_none, errW_some] <;> rfl), hbk HB⟩
 subst c3
 have H1 : (touchstonelaw5_termLevels.l0 k 0 a0_0 a0_1 a0_2 l0_3 l0_4) = some r := by rw [if_pos rfl] at H; exact H
 clear H
 have H := H1
 clear H1
 have H' := aS H
 clear H
 go_enter Try.func51, Try.ntmps51
 go_wp2_with (first | ((with_reducible refine gate_dst (N := 1) rfl ?_); refine bx (N := 1) (t := 27) #[.int .i64 a0_0, .int .i64 a0_1, .string a0_2, .slice A0_3 l0_3.length c0_3, .slice A0_4 l0_4.length c0_4] ?_; intro gb338 hg w4 hbox hb; have BK338 := aS (hbox); have GW338 := Gz hg HB; have GE338 := Gz hg HB; replace HB := Hs HB hb; clear hb hbox hg; obtain ⟨hcz5_0, hcz5_1, hcz5_2, hcz5_3, hcz5_4⟩ := cl5 BK338; obtain ⟨hfz5_0, hfz5_1, hfz5_2, hfz5_3, hfz5_4⟩ := fz5 BK338) | ((with_reducible refine gate_callee (f := 50) rfl ?_); refine goesL_ (some 6) rfl rfl Try.func50 (by kernel_rfl) rfl #[.slice A0_3 l0_3.length c0_3] rfl bl ?_; (with_reducible refine (touchstonelaw5_lightLevels.calls k _ _ l0_3 true _ ?side1 ?side2 A2.out).mono ?_); (case side1 => exact cr (Kd.C_below HR0_3.out HB.out)); (case side2 => exact HC0_3.out); rintro e w6 ⟨rfl, hb⟩; refine ⟨_, rfl, ?_⟩; replace BK338 := Bk BK338 hb; replace HB := Hs HB hb; (try clear hb); (try clear hb2); (try clear hk); (try clear hi)))
 go_loopg [3] k (fun kq v3 w' => ∃ (x3_1 : Int), v3 = .int .i64 x3_1 ∧ Aside0 (touchstonelaw5_termLevels.l0 kq x3_1 a0_0 a0_1 a0_2 l0_3 l0_4 = some r) ∧ Aside0 (kq ≤ k) ∧ Aside0 (w'.heap[gb338]? = some (.cells #[.int .i64 a0_0, .int .i64 a0_1, .string a0_2, (.slice A0_3 l0_3.length c0_3), (.slice A0_4 l0_4.length c0_4)] 27 (0, 0))) ∧ Aside0 (Below w.heap.size w w'))
 case atStart => exact ⟨(0), br, H', ⟨Nat.le_refl _⟩, ⟨bk BK338.out⟩, ⟨hbk HB⟩⟩
 case round =>
  clear H'
  try clear p2
  try clear c3
  try clear c5
  try clear hcz5_0 hcz5_1 hcz5_2 hcz5_3 hcz5_4
  try clear hfz5_0 hfz5_1 hfz5_2 hfz5_3 hfz5_4
  obtain ⟨x3_1, rfl, HA, HK1, BK338, HB⟩ := hrel
  cases gk with
  | zero => exact absurd HA.out (by simp [touchstonelaw5_termLevels.l0])
  | succ k1 =>
   have H := HA.out
   clear HA
   simp only [touchstonelaw5_termLevels.l0] at H
   by_cases c7 : x3_1 < (l0_4.length : Int)
   rotate_left
   ·rw [if_neg c7] at H
    have c7b0 : decide (x3_1 < (l0_4.length : Int)) = false := decide_eq_false c7
    clear c7
    obtain rfl := Option.some.inj H
    obtain ⟨hcz15_0, hcz15_1, hcz15_2, hcz15_3, hcz15_4⟩ := cl5 BK338
    obtain ⟨hfz15_0, hfz15_1, hfz15_2, hfz15_3, hfz15_4⟩ := fz5 BK338
    go_wp2
    go_ret
    exact ⟨by first | rfl | (simp [errW_none, errW_some] <;> rfl) | (simp [*, errW_none, errW_some] <;> rfl), hbk HB⟩
   rw [if_pos c7] at H
   have c7b0 : decide (x3_1 < (l0_4.length : Int)) = true := decide_eq_true c7
   clear c7
   by_cases c8 : 0 ≤ x3_1
   rotate_left
   ·rw [if_neg c8] at H
    exact absurd H (by simp)
   rw [if_pos c8] at H
   have c8b0 : decide (0 ≤ x3_1) = true := decide_eq_true c8
   clear c8
   replace H := Option.bind_eq_some_iff.mp H
   obtain ⟨t341, A90, H⟩ := H
   try dsimp only at H
   have A9 := aS A90
   clear A90
   by_cases c10 : t341 = true
   rotate_left
   ·replace c10 := Bool.eq_false_iff.mpr c10
    subst c10
    have H1 : (some false) = some r := by rw [if_neg (show ¬ (false = true) by decide)] at H; exact H
    clear H
    have H := H1
    clear H1
    obtain rfl := Option.some.inj H
    obtain ⟨hcz13_0, hcz13_1, hcz13_2, hcz13_3, hcz13_4⟩ := cl5 BK338
    obtain ⟨hfz13_0, hfz13_1, hfz13_2, hfz13_3, hfz13_4⟩ := fz5 BK338
    have p340 : 0 ≤ (x3_1 : Int) := of_decide_eq_true ba
    have q340 : x3_1 < (l0_4.length : Int) := of_decide_eq_true ba
    obtain ⟨ad340, A340_3, c340_3, A340_4, c340_4, e340, hx340_0, hx340_1, hx340_2, hx340_3, hx340_4, hl340_3, hi340_3, hl340_4, hi340_4⟩ := at_T27 HR0_4.out x3_1 p340 q340
    cases e340
    replace hx340_0 := (hc HB hx340_0 :)
    replace hx340_1 := (hc HB hx340_1 :)
    replace hx340_2 := (hc HB hx340_2 :)
    replace hx340_3 := (hc HB hx340_3 :)
    replace hx340_4 := (hc HB hx340_4 :)
    have HR340_3 := aS hi340_3
    have HC340_3 := aS hl340_3
    clear hi340_3 hl340_3
    have HR340_4 := aS hi340_4
    have HC340_4 := aS hl340_4
    clear hi340_4 hl340_4
    replace p340 := eq_true p340
    replace q340 := eq_true q340
    go_wp2_with (first | ((with_reducible refine gate_callee (f := 51) rfl ?_); refine goesL_ (some 20) rfl rfl Try.func51 (by kernel_rfl) rfl #[.agg #[.int .i64 ((rd_T27 l0_4 x3_1).f0), .int .i64 ((rd_T27 l0_4 x3_1).f1), .string ((rd_T27 l0_4 x3_1).f2), .slice A340_3 ((rd_T27 l0_4 x3_1).f3).length c340_3, .slice A340_4 ((rd_T27 l0_4 x3_1).f4).length c340_4]] rfl bl ?_; (with_reducible refine (ih k1 (by have := HK1.out; omega) ((rd_T27 l0_4 x3_1).f0) ((rd_T27 l0_4 x3_1).f1) ((rd_T27 l0_4 x3_1).f2) _ _ ((rd_T27 l0_4 x3_1).f3) _ _ ((rd_T27 l0_4 x3_1).f4) false _ ?side1 ?side2 ?side3 ?side4 A9.out).mono ?_); (case side1 => exact cr (Kd.C_below HR340_3.out HB.out)); (case side2 => exact HC340_3.out); (case side3 => exact cr (Kd.C_below HR340_4.out HB.out)); (case side4 => exact HC340_4.out); rintro e w14 ⟨rfl, hb⟩; refine ⟨_, rfl, ?_⟩; replace BK338 := Bk BK338 hb; replace HB := Hs HB hb; (try clear hb); (try clear hb2); (try clear hk); (try clear hi)))
    go_ret
    exact ⟨by first | rfl | (simp [errW_none, errW_some] <;> rfl) | (simp [*, errW_none, errW_some] <;> rfl), hbk HB⟩
   subst c10
   have H1 : (touchstonelaw5_termLevels.l0 k1 (wrap64 (x3_1 + 1)) a0_0 a0_1 a0_2 l0_3 l0_4) = some r := by rw [if_pos rfl] at H; exact H
   clear H
   have H := H1
   clear H1
   have H' := aS H
   clear H
   obtain ⟨hcz11_0, hcz11_1, hcz11_2, hcz11_3, hcz11_4⟩ := cl5 BK338
   obtain ⟨hfz11_0, hfz11_1, hfz11_2, hfz11_3, hfz11_4⟩ := fz5 BK338
   have p340 : 0 ≤ (x3_1 : Int) := of_decide_eq_true ba
   have q340 : x3_1 < (l0_4.length : Int) := of_decide_eq_true ba
   obtain ⟨ad340, A340_3, c340_3, A340_4, c340_4, e340, hx340_0, hx340_1, hx340_2, hx340_3, hx340_4, hl340_3, hi340_3, hl340_4, hi340_4⟩ := at_T27 HR0_4.out x3_1 p340 q340
   cases e340
   replace hx340_0 := (hc HB hx340_0 :)
   replace hx340_1 := (hc HB hx340_1 :)
   replace hx340_2 := (hc HB hx340_2 :)
   replace hx340_3 := (hc HB hx340_3 :)
   replace hx340_4 := (hc HB hx340_4 :)
   have HR340_3 := aS hi340_3
   have HC340_3 := aS hl340_3
   clear hi340_3 hl340_3
   have HR340_4 := aS hi340_4
   have HC340_4 := aS hl340_4
   clear hi340_4 hl340_4
   replace p340 := eq_true p340
   replace q340 := eq_true q340
   go_wp2_with (first | ((with_reducible refine gate_callee (f := 51) rfl ?_); refine goesL_ (some 20) rfl rfl Try.func51 (by kernel_rfl) rfl #[.agg #[.int .i64 ((rd_T27 l0_4 x3_1).f0), .int .i64 ((rd_T27 l0_4 x3_1).f1), .string ((rd_T27 l0_4 x3_1).f2), .slice A340_3 ((rd_T27 l0_4 x3_1).f3).length c340_3, .slice A340_4 ((rd_T27 l0_4 x3_1).f4).length c340_4]] rfl bl ?_; (with_reducible refine (ih k1 (by have := HK1.out; omega) ((rd_T27 l0_4 x3_1).f0) ((rd_T27 l0_4 x3_1).f1) ((rd_T27 l0_4 x3_1).f2) _ _ ((rd_T27 l0_4 x3_1).f3) _ _ ((rd_T27 l0_4 x3_1).f4) true _ ?side1 ?side2 ?side3 ?side4 A9.out).mono ?_); (case side1 => exact cr (Kd.C_below HR340_3.out HB.out)); (case side2 => exact HC340_3.out); (case side3 => exact cr (Kd.C_below HR340_4.out HB.out)); (case side4 => exact HC340_4.out); rintro e w12 ⟨rfl, hb⟩; refine ⟨_, rfl, ?_⟩; replace BK338 := Bk BK338 hb; replace HB := Hs HB hb; (try clear hb); (try clear hb2); (try clear hk); (try clear hi)))
   go_roundg k1
   case measure => have := HK1.out; omega
   case rel => exact ⟨(wrap64 (x3_1 + 1)), br, H', ⟨by have := HK1.out; omega⟩, ⟨bk BK338.out⟩, ⟨hbk HB⟩⟩
mutual
def term_Levels.l0 : Nat → List (S76) → List (S27) → List (S27) → Int → Int → Int → Int → ByteArray → List (S76) → List (S27) → Option (Int × Int × ByteArray × (List (S76)) × (List (S27)))
 | 0, _, _, _, _, _, _, _, _, _, _ => none
 | k + 1, x1, x5, x9, x10, x11, x343000, x343001, x343002, x343003, x343004 => if x11 < x10 then (if 0 ≤ x11 then (if x11 < (x9.length : Int) then ((term_Levels.f k ((rd_T27 x9 x11).f0) ((rd_T27 x9 x11).f1) ((rd_T27 x9 x11).f2) ((rd_T27 x9 x11).f3) ((rd_T27 x9 x11).f4) x1).bind fun bt346 => (if x5.length < 1759218604441 then (term_Levels.l0 k x1 (x5 ++ [(⟨bt346.1, bt346.2.1, bt346.2.2.1, bt346.2.2.2.1, bt346.2.2.2.2⟩ : S27)]) x9 x10 (wrap64 (x11 + 1)) x343000 x343001 x343002 x343003 x343004) else (none))) else (none)) else (none)) else ((term_levels.f k x343003 x1).bind fun t358 => (some (x343000, x343001, x343002, t358, x5)))
def term_Levels.f : Nat → Int → Int → ByteArray → List (S76) → List (S27) → List (S76) → Option (Int × Int × ByteArray × (List (S76)) × (List (S27)))
 | 0, _, _, _, _, _, _ => none
 | k + 1, a0_0, a0_1, a0_2, l0_3, l0_4, l1 => term_Levels.l0 k l1 ([] : List (S27)) l0_4 (l0_4.length : Int) 0 a0_0 a0_1 a0_2 l0_3 l0_4
end
set_option maxHeartbeats 8000000 in
set_option maxRecDepth 100000 in
theorem term_Levels.calls (k : Nat) : ∀ (a0_0 : Int) (a0_1 : Int) (a0_2 : ByteArray) (A0_3 : Option Addr) (c0_3 : Nat) (l0_3 : List (S76)) (A0_4 : Option Addr) (c0_4 : Nat) (l0_4 : List (S27)) (A1 : Option Addr) (c1 : Nat) (l1 : List (S76)) (r1 : Int) (r2 : Int) (r3 : ByteArray) (r4 : List (S76)) (r5 : List (S27)) (w : World) (hr0_3 : Kd.C k76 w A0_3 l0_3.length l0_3) (hc0_3 : l0_3.length ≤ c0_3) (hr0_4 : Kd.C k27 w A0_4 l0_4.length l0_4) (hc0_4 : l0_4.length ≤ c0_4) (hr1 : Kd.C k76 w A1 l1.length l1) (hc1 : l1.length ≤ c1) (h : term_Levels.f k a0_0 a0_1 a0_2 l0_3 l0_4 l1 = some (r1, r2, r3, r4, r5)),
  Calls Try.prog 53 #[.agg #[.int .i64 a0_0, .int .i64 a0_1, .string a0_2, .slice A0_3 l0_3.length c0_3, .slice A0_4 l0_4.length c0_4], .slice A1 l1.length c1] w fun e w' => ∃ v3_ v4_ : Value, e = .returned (.agg #[.int .i64 r1, .int .i64 r2, .string r3, v3_, v4_]) ∧ Kd.R k76 76 w' w.heap.size (fun _ => True) v3_ r4 ∧ Kd.R k27 27 w' w.heap.size (fun k_ => some k_ ≠ (v3_ : Value).ownBlock) v4_ r5 ∧ Below w.heap.size w w' := by
 induction k using Nat.strongRecOn with
 | _ k ih =>
 intro a0_0 a0_1 a0_2 A0_3 c0_3 l0_3 A0_4 c0_4 l0_4 A1 c1 l1 r1 r2 r3 r4 r5 w hr0_3 hc0_3 hr0_4 hc0_4 hr1 hc1 h
 cases k with
 | zero => exact absurd h (by simp [term_Levels.f])
 | succ k =>
 simp only [term_Levels.f] at h
 have hu27 := Try.underlying27
 have HR0_3 := aS hr0_3
 have HC0_3 := aS hc0_3
 clear hr0_3 hc0_3
 have HR0_4 := aS hr0_4
 have HC0_4 := aS hc0_4
 clear hr0_4 hc0_4
 have HR1 := aS hr1
 have HC1 := aS hc1
 clear hr1 hc1
 have HB := aS (Below.refl w.heap.size w)
 have H : (term_Levels.l0 k l1 ([] : List (S27)) l0_4 (l0_4.length : Int) 0 a0_0 a0_1 a0_2 l0_3 l0_4) = some (r1, r2, r3, r4, r5) := h
 clear h
 have H' := aS H
 clear H
 go_enter Try.func53, Try.ntmps53
 go_wp2_with (first | ((with_reducible refine gate_dst (N := 2) rfl ?_); refine bx (N := 2) (t := 27) #[.int .i64 a0_0, .int .i64 a0_1, .string a0_2, .slice A0_3 l0_3.length c0_3, .slice A0_4 l0_4.length c0_4] ?_; intro gb342 hg w3 hbox hb; have BK342 := aS (hbox); have GW342 := Gz hg HB; have GE342 := Gz hg HB; replace HB := Hs HB hb; clear hb hbox hg) | ((with_reducible refine gate_dst (N := 4) rfl ?_); refine bx (N := 4) (t := 27) #[.int .i64 0, .int .i64 0, .string (⟨#[]⟩ : ByteArray), .slice none 0 0, .slice none 0 0] ?_; intro gb343 hg w4 hbox hb; have BK343 := aS (hbox); have GW343 := Gz hg HB; have GE343 := Gz hg HB; replace HB := Hs HB hb; have NB342_343 := aS ((by rw [hg]; exact Nat.ne_of_lt (blk_lt (bkw BK342)) : gb342 ≠ gb343)); have NB343_342 := aS ((by rw [hg]; exact Nat.ne_of_gt (blk_lt (bkw BK342)) : gb343 ≠ gb342)); replace BK342 := Bk BK342 hb; clear hb hbox hg; have hnb5 := NB342_343.out; have hnc5 := NB343_342.out; obtain ⟨hcz6_0, hcz6_1, hcz6_2, hcz6_3, hcz6_4⟩ := cl5 BK342; obtain ⟨hfz6_0, hfz6_1, hfz6_2, hfz6_3, hfz6_4⟩ := fz5 BK342))
 go_loopg [5, 11] k (fun kq v5 v11 w' => ∃ (x5_1 : List (S27)) (x11_1 : Int), v11 = .int .i64 x11_1 ∧ Aside0 (term_Levels.l0 kq l1 x5_1 l0_4 (l0_4.length : Int) x11_1 a0_0 a0_1 a0_2 l0_3 l0_4 = some (r1, r2, r3, r4, r5)) ∧ Aside0 (kq ≤ k) ∧ Aside0 (Kd.R k27 27 w' w.heap.size (fun k_ => k_ ≠ gb342 ∧ k_ ≠ gb343) v5 x5_1) ∧ Aside0 (w'.heap[gb342]? = some (.cells #[.int .i64 a0_0, .int .i64 a0_1, .string a0_2, (.slice A0_3 l0_3.length c0_3), (.slice A0_4 l0_4.length c0_4)] 27 (0, 0))) ∧ Aside0 (w'.heap[gb343]? = some (.cells #[.int .i64 0, .int .i64 0, .string (⟨#[]⟩ : ByteArray), (.slice none 0 0), (.slice none 0 0)] 27 (0, 0))) ∧ Aside0 (Below w.heap.size w w'))
 case atStart => exact ⟨(([] : List (S27))), (0), br, H', ⟨Nat.le_refl _⟩, ⟨by first | exact Kd.R_nil _ _ _ _ _ | exact Kd.N_nil _ _ _ _ _ | exact Kd.V_nil _ _ _ _ _ | exact Kd.Q_nil _ _ _ _ _ | exact Kd.S_nil _ _ _ _ _⟩, ⟨bk BK342.out⟩, ⟨bk BK343.out⟩, ⟨hbk HB⟩⟩
 case round =>
  clear H'
  try clear c1
  try clear p2
  try clear c5
  try clear hcz6_0 hcz6_1 hcz6_2 hcz6_3 hcz6_4
  try clear hfz6_0 hfz6_1 hfz6_2 hfz6_3 hfz6_4
  obtain ⟨x5_1, x11_1, rfl, HA, HK1, HO_5, BK342, BK343, HB⟩ := hrel
  cases gk with
  | zero => exact absurd HA.out (by simp [term_Levels.l0])
  | succ k1 =>
   have H := HA.out
   clear HA
   simp only [term_Levels.l0] at H
   by_cases c7 : x11_1 < (l0_4.length : Int)
   rotate_left
   ·rw [if_neg c7] at H
    have c7b0 : decide (x11_1 < (l0_4.length : Int)) = false := decide_eq_false c7
    clear c7
    replace H := Option.bind_eq_some_iff.mp H
    obtain ⟨t358, A200, H⟩ := H
    try dsimp only at H
    have A20 := aS A200
    clear A200
    simp only [Option.some.injEq, Prod.mk.injEq] at H
    obtain ⟨rfl, rfl, rfl, rfl, rfl⟩ := H
    have hnb21 := NB342_343.out
    have hnc21 := NB343_342.out
    obtain ⟨hcz22_0, hcz22_1, hcz22_2, hcz22_3, hcz22_4⟩ := cl5 BK342
    obtain ⟨hfz22_0, hfz22_1, hfz22_2, hfz22_3, hfz22_4⟩ := fz5 BK342
    go_wp2_with (first | ((with_reducible refine gate_callee (f := 100) rfl ?_); refine goesL_ (some 26) rfl rfl Try.func100 (by kernel_rfl) rfl #[.slice A0_3 l0_3.length c0_3, .slice A1 l1.length c1] rfl bl ?_; (with_reducible refine (term_levels.calls k1 _ _ l0_3 _ _ l1 t358 _ ?side1 ?side2 ?side3 ?side4 A20.out).mono ?_); (case side1 => exact cr (Kd.C_below HR0_3.out HB.out)); (case side2 => exact HC0_3.out); (case side3 => exact cr (Kd.C_below HR1.out HB.out)); (case side4 => exact HC1.out); rintro e w23 ⟨v359, rfl, ho0, hb⟩; refine ⟨_, rfl, ?_⟩; replace HO_5 := aS (Kd.R_elder' (kr_ HO_5.out) (Kd.R_base ho0) hb); have HO360 := aS (Kd.R_lower ho0 (below_size (hbk HB))); replace BK342 := Bk BK342 hb; replace BK343 := Bk BK343 hb; replace HB := Hs HB hb; (try clear hb); (try clear hb2); (try clear hk); (try clear hi); (try clear ho0); obtain ⟨Ao24, co24, eo24⟩ := Kd.R_slice HO_5.out; subst eo24; obtain ⟨hcz25_0, hcz25_1, hcz25_2, hcz25_3, hcz25_4⟩ := cl5 BK342; obtain ⟨hfz25_0, hfz25_1, hfz25_2, hfz25_3, hfz25_4⟩ := fz5 BK342; obtain ⟨Ao26, co26, eo26⟩ := Kd.R_slice HO360.out; subst eo26; obtain ⟨hcz27_0, hcz27_1, hcz27_2, hcz27_3, hcz27_4⟩ := cl5 BK343; obtain ⟨hfz27_0, hfz27_1, hfz27_2, hfz27_3, hfz27_4⟩ := fz5 BK343))
    refine bodyPost_ret (results_cell_row rfl _ _ gb343 27 #[.int .i64 a0_0, .int .i64 a0_1, .string a0_2, .slice Ao26 t358.length co26, .slice Ao24 x5_1.length co24] (0, 0) _ rfl (by (with_reducible repeat (first | refine blk_drewN ?_ _ | refine blk_drew ?_ | refine blk_alloc ?_ _)); refine blk_put (cs := #[.int .i64 a0_0, .int .i64 a0_1, .string a0_2, .slice Ao26 t358.length co26, .slice none 0 0]) ?_ 4 _ rfl; (with_reducible repeat (first | refine blk_drewN ?_ _ | refine blk_drew ?_ | refine blk_alloc ?_ _)); refine blk_put (cs := #[.int .i64 a0_0, .int .i64 a0_1, .string a0_2, .slice none 0 0, .slice none 0 0]) ?_ 3 _ rfl; (with_reducible repeat (first | refine blk_drewN ?_ _ | refine blk_drew ?_ | refine blk_alloc ?_ _)); refine blk_put (cs := #[.int .i64 a0_0, .int .i64 a0_1, .string (⟨#[]⟩ : ByteArray), .slice none 0 0, .slice none 0 0]) ?_ 2 _ rfl; (with_reducible repeat (first | refine blk_drewN ?_ _ | refine blk_drew ?_ | refine blk_alloc ?_ _)); refine blk_put (cs := #[.int .i64 a0_0, .int .i64 0, .string (⟨#[]⟩ : ByteArray), .slice none 0 0, .slice none 0 0]) ?_ 1 _ rfl; (with_reducible repeat (first | refine blk_drewN ?_ _ | refine blk_drew ?_ | refine blk_alloc ?_ _)); refine blk_put (cs := #[.int .i64 0, .int .i64 0, .string (⟨#[]⟩ : ByteArray), .slice none 0 0, .slice none 0 0]) ?_ 0 _ rfl; (with_reducible repeat (first | refine blk_drewN ?_ _ | refine blk_drew ?_ | refine blk_alloc ?_ _)); refine blk_far ?_ NB343_342.out _; (with_reducible repeat (first | refine blk_drewN ?_ _ | refine blk_drew ?_ | refine blk_alloc ?_ _)); refine blk_far ?_ NB343_342.out _; (with_reducible repeat (first | refine blk_drewN ?_ _ | refine blk_drew ?_ | refine blk_alloc ?_ _)); exact BK343.out) Try.underlying27 rfl (by kernel_rfl)) rfl ?_
    exact ⟨_, _, by first | rfl | (simp [errW_none, errW_some] <;> rfl) | (simp [*, errW_none, errW_some] <;> rfl), by (with_reducible repeat (first | apply Kd.R_alloc | apply Kd.R_drewN | apply Kd.R_drew)); exact Kd.R_mono (R5 (g := gb343) (Kd.R_far (p := ⟨gb342, 3, none⟩) (Kd.R_far (p := ⟨gb342, 4, none⟩) (Kd.R_types (Kd.R_types HO360.out BK342.out (by decide)) BK343.out (by decide)) (fun _ hk => hk.1.2) (.slice Ao24 x5_1.length co24)) (fun _ hk => hk.1.2) (.slice Ao26 t358.length co26)) (fun _ hk => hk.2)) (fun _ hk => trivial), by (with_reducible repeat (first | apply Kd.R_alloc | apply Kd.R_drewN | apply Kd.R_drew)); exact Kd.R_mono (R5 (g := gb343) (Kd.R_far (p := ⟨gb342, 3, none⟩) (Kd.R_far (p := ⟨gb342, 4, none⟩) (Kd.R_mono (Kd.R_mono HO_5.out (fun k_ hk => (⟨hk, hk.1.1⟩ : _ ∧ k_ ≠ gb342))) (fun k_ hk => (⟨hk, hk.1.1.2⟩ : _ ∧ k_ ≠ gb343))) (fun _ hk => hk.1.2) (.slice Ao24 x5_1.length co24)) (fun _ hk => hk.1.2) (.slice Ao26 t358.length co26)) (fun _ hk => hk.2)) (fun _ hk => hk.1.1.2), hbk HB⟩
   rw [if_pos c7] at H
   have c7b0 : decide (x11_1 < (l0_4.length : Int)) = true := decide_eq_true c7
   clear c7
   by_cases c8 : 0 ≤ x11_1
   rotate_left
   ·rw [if_neg c8] at H
    exact absurd H (by simp)
   rw [if_pos c8] at H
   have c8b0 : decide (0 ≤ x11_1) = true := decide_eq_true c8
   clear c8
   by_cases c9 : x11_1 < (l0_4.length : Int)
   rotate_left
   ·rw [if_neg c9] at H
    exact absurd H (by simp)
   rw [if_pos c9] at H
   have c9b0 : decide (x11_1 < (l0_4.length : Int)) = true := decide_eq_true c9
   clear c9
   replace H := Option.bind_eq_some_iff.mp H
   obtain ⟨⟨t346, t347, t348, t349, t352⟩, A100, H⟩ := H
   try dsimp only at H
   have A10 := aS A100
   clear A100
   by_cases c11 : x5_1.length < 1759218604441
   rotate_left
   ·rw [if_neg c11] at H
    exact absurd H (by simp)
   rw [if_pos c11] at H
   have LMc11 := aS c11
   clear c11
   obtain ⟨y355, hy355⟩ : ∃ y_ : List (S27), y_ = (x5_1 ++ [(⟨t346, t347, t348, t349, t352⟩ : S27)]) := ⟨_, rfl⟩
   replace H : (term_Levels.l0 k1 l1 y355 l0_4 (l0_4.length : Int) (wrap64 (x11_1 + 1)) a0_0 a0_1 a0_2 l0_3 l0_4) = some (r1, r2, r3, r4, r5) := by first | (rw [hy355]; with_reducible exact H) | (have H2_ := (Option.bind_some _ _).symm.trans H; rw [hy355]; with_reducible exact H2_) | (have H2_ := (Option.bind_some _ _).symm.trans H; with_reducible exact H2_) | with_reducible exact H | (rw [hy355]; exact H) | exact H
   have Ny355 := aS hy355
   clear hy355
   have H' := aS H
   clear H
   have p344 : 0 ≤ (x11_1 : Int) := of_decide_eq_true ba
   have q344 : x11_1 < (l0_4.length : Int) := of_decide_eq_true ba
   obtain ⟨ad344, A344_3, c344_3, A344_4, c344_4, e344, hx344_0, hx344_1, hx344_2, hx344_3, hx344_4, hl344_3, hi344_3, hl344_4, hi344_4⟩ := at_T27 HR0_4.out x11_1 p344 q344
   cases e344
   replace hx344_0 := (hc HB hx344_0 :)
   replace hx344_1 := (hc HB hx344_1 :)
   replace hx344_2 := (hc HB hx344_2 :)
   replace hx344_3 := (hc HB hx344_3 :)
   replace hx344_4 := (hc HB hx344_4 :)
   have HR344_3 := aS hi344_3
   have HC344_3 := aS hl344_3
   clear hi344_3 hl344_3
   have HR344_4 := aS hi344_4
   have HC344_4 := aS hl344_4
   clear hi344_4 hl344_4
   replace p344 := eq_true p344
   replace q344 := eq_true q344
   go_wp2_with (first | ((with_reducible refine gate_dst (N := 7) rfl ?_); refine bx (N := 7) (t := 27) #[.int .i64 0, .int .i64 0, .string (⟨#[]⟩ : ByteArray), .slice none 0 0, .slice none 0 0] ?_; intro gb345 hg w12 hbox hb; replace HO_5 := aS (Kd.R_below (Kd.R_elderB (kr_ HO_5.out) gb345 (Nat.le_of_eq hg.symm)) hb); have BK345 := aS (hbox); have GW345 := Gz hg HB; have GE345 := Gz hg HB; replace HB := Hs HB hb; have NB342_345 := aS ((by rw [hg]; exact Nat.ne_of_lt (blk_lt (bkw BK342)) : gb342 ≠ gb345)); have NB345_342 := aS ((by rw [hg]; exact Nat.ne_of_gt (blk_lt (bkw BK342)) : gb345 ≠ gb342)); replace BK342 := Bk BK342 hb; have NB343_345 := aS ((by rw [hg]; exact Nat.ne_of_lt (blk_lt (bkw BK343)) : gb343 ≠ gb345)); have NB345_343 := aS ((by rw [hg]; exact Nat.ne_of_gt (blk_lt (bkw BK343)) : gb345 ≠ gb343)); replace BK343 := Bk BK343 hb; clear hb hbox hg; have hnb13 := NB345_342.out; have hnc13 := NB342_345.out; have hnb14 := NB345_343.out; have hnc14 := NB343_345.out; obtain ⟨hcz15_0, hcz15_1, hcz15_2, hcz15_3, hcz15_4⟩ := cl5 BK345; obtain ⟨hfz15_0, hfz15_1, hfz15_2, hfz15_3, hfz15_4⟩ := fz5 BK345) | ((with_reducible refine gate_callee (f := 53) rfl ?_); refine goesL_ (some 18) rfl rfl Try.func53 (by kernel_rfl) rfl #[.agg #[.int .i64 ((rd_T27 l0_4 x11_1).f0), .int .i64 ((rd_T27 l0_4 x11_1).f1), .string ((rd_T27 l0_4 x11_1).f2), .slice A344_3 ((rd_T27 l0_4 x11_1).f3).length c344_3, .slice A344_4 ((rd_T27 l0_4 x11_1).f4).length c344_4], .slice A1 l1.length c1] rfl bl ?_; (with_reducible refine (ih k1 (by have := HK1.out; omega) ((rd_T27 l0_4 x11_1).f0) ((rd_T27 l0_4 x11_1).f1) ((rd_T27 l0_4 x11_1).f2) _ _ ((rd_T27 l0_4 x11_1).f3) _ _ ((rd_T27 l0_4 x11_1).f4) _ _ l1 t346 t347 t348 t349 t352 _ ?side1 ?side2 ?side3 ?side4 ?side5 ?side6 A10.out).mono ?_); (case side1 => exact Kd.C_below HR344_3.out (hbk HB)); (case side2 => exact HC344_3.out); (case side3 => exact Kd.C_below HR344_4.out (hbk HB)); (case side4 => exact HC344_4.out); (case side5 => exact Kd.C_below HR1.out (hbk HB)); (case side6 => exact HC1.out); rintro e w16 ⟨v350, v353, rfl, ho0, ho1, hb⟩; refine ⟨_, rfl, ?_⟩; have HO351 := aS (Kd.R_lower ho0 (below_size (hbk HB))); have HO354 := aS (Kd.R_lower (Kd.R_newB (Kd.R_newB (Kd.R_newB (Kd.R_new' ho1 (Kd.R_lt (by (with_reducible repeat (first | apply Kd.R_alloc | apply Kd.R_drewN | apply Kd.R_drew)); exact (Kd.R_mono (R5 (g := gb345) (Kd.R_mono HO_5.out (fun k_ hk => (⟨hk, hk.2⟩ : _ ∧ k_ ≠ gb345))) (fun _ hk => hk.2)) (fun _ h_ => h_.1))))) (g := gb342) (o := .cells #[.int .i64 a0_0, .int .i64 a0_1, .string a0_2, .slice A0_3 l0_3.length c0_3, .slice (some ad344) l0_4.length c0_4] 27 (0, 0)) (bf5 BK342.out NB342_345.out)) (g := gb343) (o := .cells #[.int .i64 0, .int .i64 0, .string (⟨#[]⟩ : ByteArray), .slice none 0 0, .slice none 0 0] 27 (0, 0)) (bf5 BK343.out NB343_345.out)) (g := gb345) (o := .cells #[.int .i64 ((rd_T27 l0_4 x11_1).f0), .int .i64 ((rd_T27 l0_4 x11_1).f1), .string ((rd_T27 l0_4 x11_1).f2), .slice A344_3 ((rd_T27 l0_4 x11_1).f3).length c344_3, .slice A344_4 ((rd_T27 l0_4 x11_1).f4).length c344_4] 27 (0, 0)) (bp5 BK345.out)) (below_size (hbk HB))); replace HO_5 := aS (Kd.R_mono (Kd.R_told (Kd.R_told (Kd.R_old (by (with_reducible repeat (first | apply Kd.R_alloc | apply Kd.R_drewN | apply Kd.R_drew)); exact (Kd.R_mono (R5 (g := gb345) (Kd.R_mono HO_5.out (fun k_ hk => (⟨hk, hk.2⟩ : _ ∧ k_ ≠ gb345))) (fun _ hk => hk.2)) (fun _ h_ => h_.1))) hb) (Kd.R_base ho0)) (Kd.R_base ho1)) (fun _ h_ => h_.1)); replace BK342 := aS (blk_below (g := gb342) (o := .cells #[.int .i64 a0_0, .int .i64 a0_1, .string a0_2, .slice A0_3 l0_3.length c0_3, .slice (some ad344) l0_4.length c0_4] 27 (0, 0)) (bf5 BK342.out NB342_345.out) hb); replace BK343 := aS (blk_below (g := gb343) (o := .cells #[.int .i64 0, .int .i64 0, .string (⟨#[]⟩ : ByteArray), .slice none 0 0, .slice none 0 0] 27 (0, 0)) (bf5 BK343.out NB343_345.out) hb); replace BK345 := aS (blk_below (g := gb345) (o := .cells #[.int .i64 ((rd_T27 l0_4 x11_1).f0), .int .i64 ((rd_T27 l0_4 x11_1).f1), .string ((rd_T27 l0_4 x11_1).f2), .slice A344_3 ((rd_T27 l0_4 x11_1).f3).length c344_3, .slice A344_4 ((rd_T27 l0_4 x11_1).f4).length c344_4] 27 (0, 0)) (bp5 BK345.out) hb); replace HB := Hs HB hb; (try clear hb); (try clear hb2); (try clear hk); (try clear hi); (try clear ho0); (try clear ho1); obtain ⟨Ao18, co18, eo18⟩ := Kd.R_slice HO351.out; subst eo18; obtain ⟨Ao19, co19, eo19⟩ := Kd.R_slice HO354.out; subst eo19) | ((with_reducible refine gate_builtin (b := .append) (xs := #[.tmp 15, .tmp 19]) rfl ?_); at_builtin; refine Kd.R_append k27 (w0 := w) w.heap.size rfl (.tmp 15) (.tmp 19) 23 27 (.agg #[(.int .i64 0), (.int .i64 0), (.string ⟨#[]⟩), (.slice none 0 0), (.slice none 0 0)]) 80 rfl Try.underlying23 info27 rfl (by decide) (by omega) u5 x5_1 (⟨t346, t347, t348, t349, t352⟩ : S27) [.int .i64 t346, .int .i64 t347, .string t348, .slice Ao18 t349.length co18, .slice Ao19 t352.length co19] (fun k_ => k_ ≠ gb342 ∧ k_ ≠ gb343 ∧ k_ ≠ gb345) (fun k_ => ((fun k_ => k_ ≠ gb342 ∧ k_ ≠ gb343 ∧ k_ ≠ gb345)) k_ ∧ some k_ ≠ (u5 : Value).ownBlock) rfl rfl ?aP (fun _ hk => hk) ?aF ?aO ?aB ?aS ?aL ?_; (case aP => exact k27_mkM _ _ _ (⟨t346, t347, t348, t349, t352⟩ : S27) (Kd.R_mono (Kd.R_types (Kd.R_types (Kd.R_types (Kd.R_apart' (HO351.out) (Kd.R_typed HO_5.out) (by decide)) BK342.out (by decide)) BK343.out (by decide)) BK345.out (by decide)) (fun k_ hk => ⟨⟨hk.1.1.2, ⟨hk.1.2, hk.2⟩⟩, hk.1.1.1.2⟩)) (Kd.R_mono (HO354.out) (fun k_ hk => ⟨⟨hk.1.1.2, ⟨hk.1.2, hk.2⟩⟩, hk.1.1.1.2⟩))); (case aB => exact (hbk HB)); (case aF => exact (fun k_ hk => ⟨Kd.freshB (bkw BK342) k_ hk, Kd.freshB (bkw BK343) k_ hk, Kd.freshB (bkw BK345) k_ hk⟩)); (case aO => exact (by (with_reducible repeat (first | apply Kd.R_alloc | apply Kd.R_drewN | apply Kd.R_drew)); exact Kd.R_mono HO_5.out (fun _ hk => ⟨hk.1.1.1.1, ⟨hk.1.1.1.2, hk.1.1.2⟩⟩))); (case aS => exact (below_size (hbk HB))); (case aL => have := LMc11.out; omega); intro v356 w17 ho hb hg hat; rw [← Ny355.out] at ho; replace BK342 := aS (blk_grown (bkw BK342) hg (Kd.R_away HO_5.out (fun _ hk => hk.1.1.1.1))); replace BK343 := aS (blk_grown (bkw BK343) hg (Kd.R_away HO_5.out (fun _ hk => hk.1.1.1.2))); replace BK345 := aS (blk_grown (bkw BK345) hg (Kd.R_away HO_5.out (fun _ hk => hk.1.1.2))); replace HB := aS (hb); have HO357 := aS (ho); clear HO_5 HO351 HO354; clear ho hb hg hat))
   go_roundg k1
   case measure => have := HK1.out; omega
   case rel => exact ⟨(y355), (wrap64 (x11_1 + 1)), br, H', ⟨by have := HK1.out; omega⟩, ⟨by (with_reducible repeat (first | apply Kd.R_alloc | apply Kd.R_drewN | apply Kd.R_drew)); exact Kd.R_mono HO357.out (fun _ hk => ⟨hk.1, hk.2.1⟩)⟩, ⟨bk BK342.out⟩, ⟨bk BK343.out⟩, ⟨hbk HB⟩⟩
end Go.Proofs.Ytpejhapgffcngaa.QK

