/- term.Depth. -/
import Derived.Test.YtpejhapgffcngaaXShort
import Derived.Test.YtpejhapgffcngaaQKApart
namespace Go.Proofs.Ytpejhapgffcngaa.QK
open Go.RowKit Go.Proofs.YtpejhapgffcngaaW.PrintWords Go.Proofs.YtpejhapgffcngaaW.PrintLast Go.Proofs.YtpejhapgffcngaaW.PrintMore
theorem max2_mx (k k' : IntKind) (x y : Int) : Builtin.max2 (.int k x) (.int k' y) = pure (.int k (mx x y)) := max2_int k k' x y
attribute [local go_sem] max2_mx min2_int max_two min_two max_three min_three max_four min_four
set_option linter.unusedVariables false
set_option linter.unusedSimpArgs false
mutual
def term_Depth.l0 : Nat → Int → Int → List (S27) → Int → Int → Option (Int)
 | 0, _, _, _, _, _ => none
 | k + 1, x1, x5, x13, x14, x15 => if x15 < x14 then (if 0 ≤ x15 then (if x15 < (x13.length : Int) then ((term_Depth.f k ((rd_T27 x13 x15).f0) ((rd_T27 x13 x15).f1) ((rd_T27 x13 x15).f2) ((rd_T27 x13 x15).f3) ((rd_T27 x13 x15).f4) (wrap64 (x1 - 1))).bind fun t156 => (if (mx x5 (wrap64 (1 + t156))) > x1 then (some (mx x5 (wrap64 (1 + t156)))) else (term_Depth.l0 k x1 (mx x5 (wrap64 (1 + t156))) x13 x14 (wrap64 (x15 + 1))))) else (none)) else (none)) else (some x5)
def term_Depth.f : Nat → Int → Int → ByteArray → List (S76) → List (S27) → Int → Option (Int)
 | 0, _, _, _, _, _, _ => none
 | k + 1, a0_0, a0_1, a0_2, l0_3, l0_4, a1 => if (mx a1 0) = 0 then (some 1) else (term_Depth.l0 k (mx a1 0) 1 l0_4 (l0_4.length : Int) 0)
end
set_option maxHeartbeats 8000000 in
set_option maxRecDepth 100000 in
theorem term_Depth.calls (k : Nat) : ∀ (a0_0 : Int) (a0_1 : Int) (a0_2 : ByteArray) (A0_3 : Option Addr) (c0_3 : Nat) (l0_3 : List (S76)) (A0_4 : Option Addr) (c0_4 : Nat) (l0_4 : List (S27)) (a1 : Int) (r : Int) (w : World) (hr0_3 : Kd.C k76 w A0_3 l0_3.length l0_3) (hc0_3 : l0_3.length ≤ c0_3) (hr0_4 : Kd.C k27 w A0_4 l0_4.length l0_4) (hc0_4 : l0_4.length ≤ c0_4) (h : term_Depth.f k a0_0 a0_1 a0_2 l0_3 l0_4 a1 = some r),
  Calls Try.prog 47 #[.agg #[.int .i64 a0_0, .int .i64 a0_1, .string a0_2, .slice A0_3 l0_3.length c0_3, .slice A0_4 l0_4.length c0_4], .int .i64 a1] w fun e w' => e = .returned (.int .i64 r) ∧ Below w.heap.size w w' := by
 induction k using Nat.strongRecOn with
 | _ k ih =>
 intro a0_0 a0_1 a0_2 A0_3 c0_3 l0_3 A0_4 c0_4 l0_4 a1 r w hr0_3 hc0_3 hr0_4 hc0_4 h
 cases k with
 | zero => exact absurd h (by simp [term_Depth.f])
 | succ k =>
 simp only [term_Depth.f] at h
 have hu27 := Try.underlying27
 have HR0_3 := aS hr0_3
 have HC0_3 := aS hc0_3
 clear hr0_3 hc0_3
 have HR0_4 := aS hr0_4
 have HC0_4 := aS hc0_4
 clear hr0_4 hc0_4
 have HB := aS (Below.refl w.heap.size w)
 have H : (if (mx a1 0) = 0 then (some 1) else (term_Depth.l0 k (mx a1 0) 1 l0_4 (l0_4.length : Int) 0)) = some r := h
 clear h
 obtain ⟨ji3, hji3⟩ : ∃ j_ : Int, (mx a1 0) = j_ := ⟨_, rfl⟩
 replace H : (if (ji3) = 0 then (some 1) else (term_Depth.l0 k ji3 1 l0_4 (l0_4.length : Int) 0)) = some r := by first | (rw [hji3] at H; exact H) | (simp only [hji3] at H ⊢; exact H)
 (try (have hji3l : 0 ≤ ji3 := by (rw [← hji3]; unfold mx; (repeat' split) <;> omega)))
 (try (have hji3m : 0 ≤ ji3 := by omega))
 
 by_cases c4 : (ji3) = 0
 ·rw [if_pos c4] at H
  have c4b0 : ((ji3) == 0) = true := beq_iff_eq.mpr c4
  have c4b1 : ((ji3) != 0) = false := bne_eq_false_iff_eq.mpr c4
  clear c4
  obtain rfl := Option.some.inj H
  go_enter Try.func47, Try.ntmps47
  go_wp2_with (first | ((with_reducible refine gate_dst (N := 2) rfl ?_); refine bx (N := 2) (t := 27) #[.int .i64 a0_0, .int .i64 a0_1, .string a0_2, .slice A0_3 l0_3.length c0_3, .slice A0_4 l0_4.length c0_4] ?_; intro gb153 hg w5 hbox hb; have BK153 := aS (hbox); have GW153 := Gz hg HB; have GE153 := Gz hg HB; replace HB := Hs HB hb; clear hb hbox hg))
  go_ret
  exact ⟨by first | rfl | (simp [errW_none, errW_some] <;> rfl) | (simp only [← hji3]; first | rfl | (simp [errW_none, errW_some] <;> rfl)) | (simp [*, errW_none, errW_some] <;> rfl), hbk HB⟩
 rw [if_neg c4] at H
 have c4b0 : ((ji3) == 0) = false := beq_eq_false_iff_ne.mpr c4
 have c4b1 : ((ji3) != 0) = true := bne_iff_ne.mpr c4
 have H' := aS H
 clear H
 go_enter Try.func47, Try.ntmps47
 go_wp2_with (first | ((with_reducible refine gate_dst (N := 2) rfl ?_); refine bx (N := 2) (t := 27) #[.int .i64 a0_0, .int .i64 a0_1, .string a0_2, .slice A0_3 l0_3.length c0_3, .slice A0_4 l0_4.length c0_4] ?_; intro gb153 hg w6 hbox hb; have BK153 := aS (hbox); have GW153 := Gz hg HB; have GE153 := Gz hg HB; replace HB := Hs HB hb; clear hb hbox hg; obtain ⟨hcz7_0, hcz7_1, hcz7_2, hcz7_3, hcz7_4⟩ := cl5 BK153; obtain ⟨hfz7_0, hfz7_1, hfz7_2, hfz7_3, hfz7_4⟩ := fz5 BK153))
 go_loopg [5, 15] k (fun kq v5 v15 w' => ∃ (x5_1 : Int) (x15_1 : Int), v5 = .int .i64 x5_1 ∧ v15 = .int .i64 x15_1 ∧ Aside0 (term_Depth.l0 kq ji3 x5_1 l0_4 (l0_4.length : Int) x15_1 = some r) ∧ Aside0 (kq ≤ k) ∧ Aside0 (w'.heap[gb153]? = some (.cells #[.int .i64 a0_0, .int .i64 a0_1, .string a0_2, (.slice A0_3 l0_3.length c0_3), (.slice A0_4 l0_4.length c0_4)] 27 (0, 0))) ∧ Aside0 (Below w.heap.size w w'))
 case atStart => exact ⟨(1), (0), br, br, H', ⟨Nat.le_refl _⟩, ⟨bk BK153.out⟩, ⟨hbk HB⟩⟩
 case round =>
  clear H'
  try clear p2
  try clear c4
  try clear c4b0
  try clear c4b1
  try clear hcz7_0 hcz7_1 hcz7_2 hcz7_3 hcz7_4
  try clear hfz7_0 hfz7_1 hfz7_2 hfz7_3 hfz7_4
  obtain ⟨x5_1, x15_1, rfl, rfl, HA, HK1, BK153, HB⟩ := hrel
  cases gk with
  | zero => exact absurd HA.out (by simp [term_Depth.l0])
  | succ k1 =>
   have H := HA.out
   clear HA
   simp only [term_Depth.l0] at H
   by_cases c8 : x15_1 < (l0_4.length : Int)
   rotate_left
   ·rw [if_neg c8] at H
    have c8b0 : decide (x15_1 < (l0_4.length : Int)) = false := decide_eq_false c8
    clear c8
    obtain rfl := Option.some.inj H
    go_wp2
    go_ret
    exact ⟨by first | rfl | (simp [errW_none, errW_some] <;> rfl) | (simp only [← hji3]; first | rfl | (simp [errW_none, errW_some] <;> rfl)) | (simp [*, errW_none, errW_some] <;> rfl), hbk HB⟩
   rw [if_pos c8] at H
   have c8b0 : decide (x15_1 < (l0_4.length : Int)) = true := decide_eq_true c8
   clear c8
   by_cases c9 : 0 ≤ x15_1
   rotate_left
   ·rw [if_neg c9] at H
    exact absurd H (by simp)
   rw [if_pos c9] at H
   have c9b0 : decide (0 ≤ x15_1) = true := decide_eq_true c9
   clear c9
   by_cases c10 : x15_1 < (l0_4.length : Int)
   rotate_left
   ·rw [if_neg c10] at H
    exact absurd H (by simp)
   rw [if_pos c10] at H
   have c10b0 : decide (x15_1 < (l0_4.length : Int)) = true := decide_eq_true c10
   clear c10
   replace H := Option.bind_eq_some_iff.mp H
   obtain ⟨t156, A110, H⟩ := H
   try dsimp only at H
   have A11 := aS A110
   clear A110
   obtain ⟨ji12, hji12⟩ : ∃ j_ : Int, (mx x5_1 (wrap64 (1 + t156))) = j_ := ⟨_, rfl⟩
   replace H : (if (ji12) > ji3 then (some ji12) else (term_Depth.l0 k1 ji3 ji12 l0_4 (l0_4.length : Int) (wrap64 (x15_1 + 1)))) = some r := by first | (rw [hji12] at H; exact H) | (simp only [hji12] at H ⊢; exact H)
   (try rw [hji12] at A11)
   have hji12_ : (if x5_1 < (wrap64 (1 + t156)) then (wrap64 (1 + t156)) else x5_1) = ji12 := hji12
   by_cases c13 : (ji12) > ji3
   ·rw [if_pos c13] at H
    have c13b0 : decide (ji3 < (ji12)) = true := decide_eq_true c13
    clear c13
    obtain rfl := Option.some.inj H
    have p154 : 0 ≤ (x15_1 : Int) := of_decide_eq_true ba
    have q154 : x15_1 < (l0_4.length : Int) := of_decide_eq_true ba
    obtain ⟨ad154, A154_3, c154_3, A154_4, c154_4, e154, hx154_0, hx154_1, hx154_2, hx154_3, hx154_4, hl154_3, hi154_3, hl154_4, hi154_4⟩ := at_T27 HR0_4.out x15_1 p154 q154
    cases e154
    replace hx154_0 := (hc HB hx154_0 :)
    replace hx154_1 := (hc HB hx154_1 :)
    replace hx154_2 := (hc HB hx154_2 :)
    replace hx154_3 := (hc HB hx154_3 :)
    replace hx154_4 := (hc HB hx154_4 :)
    have HR154_3 := aS hi154_3
    have HC154_3 := aS hl154_3
    clear hi154_3 hl154_3
    have HR154_4 := aS hi154_4
    have HC154_4 := aS hl154_4
    clear hi154_4 hl154_4
    replace p154 := eq_true p154
    replace q154 := eq_true q154
    go_wp2_with (first | ((with_reducible refine gate_dst (N := 7) rfl ?_); refine bx (N := 7) (t := 27) #[.int .i64 0, .int .i64 0, .string (⟨#[]⟩ : ByteArray), .slice none 0 0, .slice none 0 0] ?_; intro gb155 hg w14 hbox hb; have BK155 := aS (hbox); have GW155 := Gz hg HB; have GE155 := Gz hg HB; replace HB := Hs HB hb; have NB153_155 := aS ((by rw [hg]; exact Nat.ne_of_lt (blk_lt (bkw BK153)) : gb153 ≠ gb155)); have NB155_153 := aS ((by rw [hg]; exact Nat.ne_of_gt (blk_lt (bkw BK153)) : gb155 ≠ gb153)); replace BK153 := Bk BK153 hb; clear hb hbox hg; have hnb15 := NB155_153.out; have hnc15 := NB153_155.out; obtain ⟨hcz16_0, hcz16_1, hcz16_2, hcz16_3, hcz16_4⟩ := cl5 BK155; obtain ⟨hfz16_0, hfz16_1, hfz16_2, hfz16_3, hfz16_4⟩ := fz5 BK155) | ((with_reducible refine gate_callee (f := 47) rfl ?_); refine goesL_ (some 23) rfl rfl Try.func47 (by kernel_rfl) rfl #[.agg #[.int .i64 ((rd_T27 l0_4 x15_1).f0), .int .i64 ((rd_T27 l0_4 x15_1).f1), .string ((rd_T27 l0_4 x15_1).f2), .slice A154_3 ((rd_T27 l0_4 x15_1).f3).length c154_3, .slice A154_4 ((rd_T27 l0_4 x15_1).f4).length c154_4], .int .i64 (wrap64 (ji3 - 1))] rfl (by (try simp only [List.map_toArray, List.map_cons, List.map_nil]); first | done | (simp only [hji3]; rfl) | rfl | (simp only [List.length_drop, List.length_take]; rfl)) ?_; (with_reducible refine (ih k1 (by have := HK1.out; omega) ((rd_T27 l0_4 x15_1).f0) ((rd_T27 l0_4 x15_1).f1) ((rd_T27 l0_4 x15_1).f2) _ _ ((rd_T27 l0_4 x15_1).f3) _ _ ((rd_T27 l0_4 x15_1).f4) (wrap64 (ji3 - 1)) t156 _ ?side1 ?side2 ?side3 ?side4 A11.out).mono ?_); (case side1 => exact Kd.C_below HR154_3.out (hbk HB)); (case side2 => exact HC154_3.out); (case side3 => exact Kd.C_below HR154_4.out (hbk HB)); (case side4 => exact HC154_4.out); rintro e w17 ⟨rfl, hb⟩; refine ⟨_, rfl, ?_⟩; replace BK153 := aS (blk_below (g := gb153) (o := .cells #[.int .i64 a0_0, .int .i64 a0_1, .string a0_2, .slice A0_3 l0_3.length c0_3, .slice (some ad154) l0_4.length c0_4] 27 (0, 0)) (bf5 BK153.out NB153_155.out) hb); replace BK155 := aS (blk_below (g := gb155) (o := .cells #[.int .i64 ((rd_T27 l0_4 x15_1).f0), .int .i64 ((rd_T27 l0_4 x15_1).f1), .string ((rd_T27 l0_4 x15_1).f2), .slice A154_3 ((rd_T27 l0_4 x15_1).f3).length c154_3, .slice A154_4 ((rd_T27 l0_4 x15_1).f4).length c154_4] 27 (0, 0)) (bp5 BK155.out) hb); replace HB := Hs HB hb; (try clear hb); (try clear hb2); (try clear hk); (try clear hi)))
    go_ret
    exact ⟨by first | rfl | (simp [errW_none, errW_some] <;> rfl) | (simp only [← hji3, ← hji12]; first | rfl | (simp [errW_none, errW_some] <;> rfl)) | (simp [*, errW_none, errW_some] <;> rfl), hbk HB⟩
   rw [if_neg c13] at H
   have c13b0 : decide (ji3 < (ji12)) = false := decide_eq_false c13
   clear c13
   have H' := aS H
   clear H
   have p154 : 0 ≤ (x15_1 : Int) := of_decide_eq_true ba
   have q154 : x15_1 < (l0_4.length : Int) := of_decide_eq_true ba
   obtain ⟨ad154, A154_3, c154_3, A154_4, c154_4, e154, hx154_0, hx154_1, hx154_2, hx154_3, hx154_4, hl154_3, hi154_3, hl154_4, hi154_4⟩ := at_T27 HR0_4.out x15_1 p154 q154
   cases e154
   replace hx154_0 := (hc HB hx154_0 :)
   replace hx154_1 := (hc HB hx154_1 :)
   replace hx154_2 := (hc HB hx154_2 :)
   replace hx154_3 := (hc HB hx154_3 :)
   replace hx154_4 := (hc HB hx154_4 :)
   have HR154_3 := aS hi154_3
   have HC154_3 := aS hl154_3
   clear hi154_3 hl154_3
   have HR154_4 := aS hi154_4
   have HC154_4 := aS hl154_4
   clear hi154_4 hl154_4
   replace p154 := eq_true p154
   replace q154 := eq_true q154
   go_wp2_with (first | ((with_reducible refine gate_dst (N := 7) rfl ?_); refine bx (N := 7) (t := 27) #[.int .i64 0, .int .i64 0, .string (⟨#[]⟩ : ByteArray), .slice none 0 0, .slice none 0 0] ?_; intro gb155 hg w18 hbox hb; have BK155 := aS (hbox); have GW155 := Gz hg HB; have GE155 := Gz hg HB; replace HB := Hs HB hb; have NB153_155 := aS ((by rw [hg]; exact Nat.ne_of_lt (blk_lt (bkw BK153)) : gb153 ≠ gb155)); have NB155_153 := aS ((by rw [hg]; exact Nat.ne_of_gt (blk_lt (bkw BK153)) : gb155 ≠ gb153)); replace BK153 := Bk BK153 hb; clear hb hbox hg; have hnb19 := NB155_153.out; have hnc19 := NB153_155.out; obtain ⟨hcz20_0, hcz20_1, hcz20_2, hcz20_3, hcz20_4⟩ := cl5 BK155; obtain ⟨hfz20_0, hfz20_1, hfz20_2, hfz20_3, hfz20_4⟩ := fz5 BK155) | ((with_reducible refine gate_callee (f := 47) rfl ?_); refine goesL_ (some 23) rfl rfl Try.func47 (by kernel_rfl) rfl #[.agg #[.int .i64 ((rd_T27 l0_4 x15_1).f0), .int .i64 ((rd_T27 l0_4 x15_1).f1), .string ((rd_T27 l0_4 x15_1).f2), .slice A154_3 ((rd_T27 l0_4 x15_1).f3).length c154_3, .slice A154_4 ((rd_T27 l0_4 x15_1).f4).length c154_4], .int .i64 (wrap64 (ji3 - 1))] rfl (by (try simp only [List.map_toArray, List.map_cons, List.map_nil]); first | done | (simp only [hji3]; rfl) | rfl | (simp only [List.length_drop, List.length_take]; rfl)) ?_; (with_reducible refine (ih k1 (by have := HK1.out; omega) ((rd_T27 l0_4 x15_1).f0) ((rd_T27 l0_4 x15_1).f1) ((rd_T27 l0_4 x15_1).f2) _ _ ((rd_T27 l0_4 x15_1).f3) _ _ ((rd_T27 l0_4 x15_1).f4) (wrap64 (ji3 - 1)) t156 _ ?side1 ?side2 ?side3 ?side4 A11.out).mono ?_); (case side1 => exact Kd.C_below HR154_3.out (hbk HB)); (case side2 => exact HC154_3.out); (case side3 => exact Kd.C_below HR154_4.out (hbk HB)); (case side4 => exact HC154_4.out); rintro e w21 ⟨rfl, hb⟩; refine ⟨_, rfl, ?_⟩; replace BK153 := aS (blk_below (g := gb153) (o := .cells #[.int .i64 a0_0, .int .i64 a0_1, .string a0_2, .slice A0_3 l0_3.length c0_3, .slice (some ad154) l0_4.length c0_4] 27 (0, 0)) (bf5 BK153.out NB153_155.out) hb); replace BK155 := aS (blk_below (g := gb155) (o := .cells #[.int .i64 ((rd_T27 l0_4 x15_1).f0), .int .i64 ((rd_T27 l0_4 x15_1).f1), .string ((rd_T27 l0_4 x15_1).f2), .slice A154_3 ((rd_T27 l0_4 x15_1).f3).length c154_3, .slice A154_4 ((rd_T27 l0_4 x15_1).f4).length c154_4] 27 (0, 0)) (bp5 BK155.out) hb); replace HB := Hs HB hb; (try clear hb); (try clear hb2); (try clear hk); (try clear hi)))
   go_roundg k1
   case measure => have := HK1.out; omega
   case rel => exact ⟨(ji12), (wrap64 (x15_1 + 1)), (by first | rfl | (simp; done) | (simp only [← hji12] <;> (first | rfl | simp)) | (simp [*]; done)), br, H', ⟨by have := HK1.out; omega⟩, ⟨bk BK153.out⟩, ⟨hbk HB⟩⟩
end Go.Proofs.Ytpejhapgffcngaa.QK

