/- Words and walks of this claim. -/
import Derived.Test.YtpejhapgffcngaaXShort
import Derived.Test.YtpejhapgffcngaaQKApart
import Derived.Test.YtpejhapgffcngaaQKx8
namespace Go.Proofs.Ytpejhapgffcngaa.QK
open Go.RowKit Go.Proofs.YtpejhapgffcngaaW.PrintWords Go.Proofs.YtpejhapgffcngaaW.PrintLast Go.Proofs.YtpejhapgffcngaaW.PrintMore
attribute [local go_sem] max2_int min2_int max_two min_two max_three min_three max_four min_four
set_option linter.unusedVariables false
set_option linter.unusedSimpArgs false
mutual
def term_uses.l0 : Nat → Int → List (S27) → Int → Int → Int → Int → ByteArray → List (S76) → List (S27) → Option (Bool)
 | 0, _, _, _, _, _, _, _, _, _ => none
 | k + 1, x1, x15, x16, x17, x258000, x258001, x258002, x258003, x258004 => if x17 < x16 then (if 0 ≤ x17 then (if x17 < (x15.length : Int) then ((term_binds.f x258000 x17).bind fun t260 => ((term_uses.f k ((rd_T27 x15 x17).f0) ((rd_T27 x15 x17).f1) ((rd_T27 x15 x17).f2) ((rd_T27 x15 x17).f3) ((rd_T27 x15 x17).f4) (wrap64 (x1 + t260))).bind fun t261 => (if t261 = true then (some true) else (term_uses.l0 k x1 x15 x16 (wrap64 (x17 + 1)) x258000 x258001 x258002 x258003 x258004)))) else (none)) else (none)) else (some false)
def term_uses.f : Nat → Int → Int → ByteArray → List (S76) → List (S27) → Int → Option (Bool)
 | 0, _, _, _, _, _, _ => none
 | k + 1, a0_0, a0_1, a0_2, l0_3, l0_4, a1 => if a0_0 = 0 then (some (a0_1 == a1)) else (term_uses.l0 k a1 l0_4 (l0_4.length : Int) 0 a0_0 a0_1 a0_2 l0_3 l0_4)
end
def term_uses.T6 : Bool × List (List Nat × List Nat) := (true, [([], []), ([], []), ([], []), ([2], [2]), ([], []), ([3, 4], [3, 4]), ([1, 5], [1, 5]), ([0, 6, 5], [0, 6])])
def term_uses.B6 : List Nat := [0, 0, 0, 4, 0, 28, 62, 127]
theorem term_uses.tab6 : rtab .any (opsOf Try.f92 6) = term_uses.T6 := by kernel_rfl
theorem term_uses.bits6 : waitsOk term_uses.T6.2 term_uses.B6 = true := by kernel_rfl
set_option maxHeartbeats 8000000 in
set_option maxRecDepth 100000 in
theorem term_uses.calls (k : Nat) : ∀ (a0_0 : Int) (a0_1 : Int) (a0_2 : ByteArray) (A0_3 : Option Addr) (c0_3 : Nat) (l0_3 : List (S76)) (A0_4 : Option Addr) (c0_4 : Nat) (l0_4 : List (S27)) (a1 : Int) (r : Bool) (w : World) (hr0_3 : Kd.C k76 w A0_3 l0_3.length l0_3) (hc0_3 : l0_3.length ≤ c0_3) (hr0_4 : Kd.C k27 w A0_4 l0_4.length l0_4) (hc0_4 : l0_4.length ≤ c0_4) (h : term_uses.f k a0_0 a0_1 a0_2 l0_3 l0_4 a1 = some r),
  Calls Try.prog 92 #[.agg #[.int .i64 a0_0, .int .i64 a0_1, .string a0_2, .slice A0_3 l0_3.length c0_3, .slice A0_4 l0_4.length c0_4], .int .i64 a1] w fun e w' => e = .returned (.bool r) ∧ Below w.heap.size w w' := by
 induction k using Nat.strongRecOn with
 | _ k ih =>
 intro a0_0 a0_1 a0_2 A0_3 c0_3 l0_3 A0_4 c0_4 l0_4 a1 r w hr0_3 hc0_3 hr0_4 hc0_4 h
 cases k with
 | zero => exact absurd h (by simp [term_uses.f])
 | succ k =>
 simp only [term_uses.f] at h
 have hu27 := Try.underlying27
 have HR0_3 := aS hr0_3
 have HC0_3 := aS hc0_3
 clear hr0_3 hc0_3
 have HR0_4 := aS hr0_4
 have HC0_4 := aS hc0_4
 clear hr0_4 hc0_4
 have HB := aS (Below.refl w.heap.size w)
 have H : (if a0_0 = 0 then (some (a0_1 == a1)) else (term_uses.l0 k a1 l0_4 (l0_4.length : Int) 0 a0_0 a0_1 a0_2 l0_3 l0_4)) = some r := h
 clear h
 by_cases c3 : a0_0 = 0
 ·rw [if_pos c3] at H
  have c3b0 : (a0_0 == 0) = true := beq_iff_eq.mpr c3
  have c3b1 : (a0_0 != 0) = false := bne_eq_false_iff_eq.mpr c3
  clear c3
  obtain rfl := Option.some.inj H
  go_enter Try.func92, Try.ntmps92
  go_wp2_with (first | ((with_reducible refine gate_dst (N := 2) rfl ?_); refine bx (N := 2) (t := 27) #[.int .i64 a0_0, .int .i64 a0_1, .string a0_2, .slice A0_3 l0_3.length c0_3, .slice A0_4 l0_4.length c0_4] ?_; intro gb257 hg w4 hbox hb; have BK257 := aS (hbox); have GW257 := Gz hg HB; have GE257 := Gz hg HB; replace HB := Hs HB hb; clear hb hbox hg; obtain ⟨hcz5_0, hcz5_1, hcz5_2, hcz5_3, hcz5_4⟩ := cl5 BK257; obtain ⟨hfz5_0, hfz5_1, hfz5_2, hfz5_3, hfz5_4⟩ := fz5 BK257))
  go_ret
  exact ⟨by first | rfl | (simp [errW_none, errW_some] <;> rfl) | (simp [*, errW_none, errW_some] <;> rfl), hbk HB⟩
 rw [if_neg c3] at H
 have c3b0 : (a0_0 == 0) = false := beq_eq_false_iff_ne.mpr c3
 have c3b1 : (a0_0 != 0) = true := bne_iff_ne.mpr c3
 have H' := aS H
 clear H
 go_enter Try.func92, Try.ntmps92
 go_wp2_with (first | ((with_reducible refine gate_dst (N := 2) rfl ?_); refine bx (N := 2) (t := 27) #[.int .i64 a0_0, .int .i64 a0_1, .string a0_2, .slice A0_3 l0_3.length c0_3, .slice A0_4 l0_4.length c0_4] ?_; intro gb257 hg w6 hbox hb; have BK257 := aS (hbox); have GW257 := Gz hg HB; have GE257 := Gz hg HB; replace HB := Hs HB hb; clear hb hbox hg; obtain ⟨hcz7_0, hcz7_1, hcz7_2, hcz7_3, hcz7_4⟩ := cl5 BK257; obtain ⟨hfz7_0, hfz7_1, hfz7_2, hfz7_3, hfz7_4⟩ := fz5 BK257))
 go_loopg [17] k (fun kq v17 w' => ∃ (x17_1 : Int), v17 = .int .i64 x17_1 ∧ Aside0 (term_uses.l0 kq a1 l0_4 (l0_4.length : Int) x17_1 a0_0 a0_1 a0_2 l0_3 l0_4 = some r) ∧ Aside0 (kq ≤ k) ∧ Aside0 (w'.heap[gb257]? = some (.cells #[.int .i64 a0_0, .int .i64 a0_1, .string a0_2, (.slice A0_3 l0_3.length c0_3), (.slice A0_4 l0_4.length c0_4)] 27 (0, 0))) ∧ Aside0 (Below w.heap.size w w'))
 case atStart => exact ⟨(0), br, H', ⟨Nat.le_refl _⟩, ⟨bk BK257.out⟩, ⟨hbk HB⟩⟩
 case round =>
  clear H'
  try clear p2
  try clear c3
  try clear c3b0
  try clear c3b1
  try clear hcz5_0 hcz5_1 hcz5_2 hcz5_3 hcz5_4
  try clear hcz7_0 hcz7_1 hcz7_2 hcz7_3 hcz7_4
  try clear hfz5_0 hfz5_1 hfz5_2 hfz5_3 hfz5_4
  try clear hfz7_0 hfz7_1 hfz7_2 hfz7_3 hfz7_4
  obtain ⟨x17_1, rfl, HA, HK1, BK257, HB⟩ := hrel
  cases gk with
  | zero => exact absurd HA.out (by simp [term_uses.l0])
  | succ k1 =>
   have H := HA.out
   clear HA
   simp only [term_uses.l0] at H
   by_cases c8 : x17_1 < (l0_4.length : Int)
   rotate_left
   ·rw [if_neg c8] at H
    have c8b0 : decide (x17_1 < (l0_4.length : Int)) = false := decide_eq_false c8
    clear c8
    obtain rfl := Option.some.inj H
    go_wp2
    go_ret
    exact ⟨by first | rfl | (simp [errW_none, errW_some] <;> rfl) | (simp [*, errW_none, errW_some] <;> rfl), hbk HB⟩
   rw [if_pos c8] at H
   have c8b0 : decide (x17_1 < (l0_4.length : Int)) = true := decide_eq_true c8
   clear c8
   by_cases c9 : 0 ≤ x17_1
   rotate_left
   ·rw [if_neg c9] at H
    exact absurd H (by simp)
   rw [if_pos c9] at H
   have c9b0 : decide (0 ≤ x17_1) = true := decide_eq_true c9
   clear c9
   by_cases c10 : x17_1 < (l0_4.length : Int)
   rotate_left
   ·rw [if_neg c10] at H
    exact absurd H (by simp)
   rw [if_pos c10] at H
   have c10b0 : decide (x17_1 < (l0_4.length : Int)) = true := decide_eq_true c10
   clear c10
   replace H := Option.bind_eq_some_iff.mp H
   obtain ⟨t260, A110, H⟩ := H
   try dsimp only at H
   have A11 := aS A110
   clear A110
   replace H := Option.bind_eq_some_iff.mp H
   obtain ⟨t261, A120, H⟩ := H
   try dsimp only at H
   have A12 := aS A120
   clear A120
   by_cases c13 : t261 = true
   ·subst c13
    have H1 : (some true) = some r := by rw [if_pos rfl] at H; exact H
    clear H
    have H := H1
    clear H1
    obtain rfl := Option.some.inj H
    have p258 : 0 ≤ (x17_1 : Int) := of_decide_eq_true ba
    have q258 : x17_1 < (l0_4.length : Int) := of_decide_eq_true ba
    obtain ⟨ad258, A258_3, c258_3, A258_4, c258_4, e258, hx258_0, hx258_1, hx258_2, hx258_3, hx258_4, hl258_3, hi258_3, hl258_4, hi258_4⟩ := at_T27 HR0_4.out x17_1 p258 q258
    cases e258
    replace hx258_0 := (hc HB hx258_0 :)
    replace hx258_1 := (hc HB hx258_1 :)
    replace hx258_2 := (hc HB hx258_2 :)
    replace hx258_3 := (hc HB hx258_3 :)
    replace hx258_4 := (hc HB hx258_4 :)
    have HR258_3 := aS hi258_3
    have HC258_3 := aS hl258_3
    clear hi258_3 hl258_3
    have HR258_4 := aS hi258_4
    have HC258_4 := aS hl258_4
    clear hi258_4 hl258_4
    replace p258 := eq_true p258
    replace q258 := eq_true q258
    try go_wp2_with (first | ((with_reducible refine gate_dst (N := 6) rfl ?_); refine bx (N := 6) (t := 27) #[.int .i64 0, .int .i64 0, .string (⟨#[]⟩ : ByteArray), .slice none 0 0, .slice none 0 0] ?_; intro gb259 hg w14 hbox hb; have BK259 := aS (hbox); have GW259 := Gz hg HB; have GE259 := Gz hg HB; replace HB := Hs HB hb; have NB257_259 := aS ((by rw [hg]; exact Nat.ne_of_lt (blk_lt (bkw BK257)) : gb257 ≠ gb259)); have NB259_257 := aS ((by rw [hg]; exact Nat.ne_of_gt (blk_lt (bkw BK257)) : gb259 ≠ gb257)); replace BK257 := Bk BK257 hb; clear hb hbox hg; have hnb15 := NB259_257.out; have hnc15 := NB257_259.out; obtain ⟨hcz16_0, hcz16_1, hcz16_2, hcz16_3, hcz16_4⟩ := cl5 BK259; obtain ⟨hfz16_0, hfz16_1, hfz16_2, hfz16_3, hfz16_4⟩ := fz5 BK259))
    have n0_ : Aside0 ((((((w14.setCell ⟨gb259, 0, none⟩ (.int .i64 ((rd_T27 l0_4 x17_1).f0))).setCell ⟨gb259, 1, none⟩ (.int .i64 ((rd_T27 l0_4 x17_1).f1))).setCell ⟨gb259, 2, none⟩ (.string ((rd_T27 l0_4 x17_1).f2))).setCell ⟨gb259, 3, none⟩ (.slice A258_3 ((rd_T27 l0_4 x17_1).f3).length c258_3)).setCell ⟨gb259, 4, none⟩ (.slice A258_4 ((rd_T27 l0_4 x17_1).f4).length c258_4)).heap[gb257]? = some (.cells #[.int .i64 a0_0, .int .i64 a0_1, .string a0_2, .slice A0_3 l0_3.length c0_3, .slice (some ad258) l0_4.length c0_4] 27 (0, 0))) := ⟨bf5 BK257.out NB257_259.out⟩
    have n1_ : Aside0 ((((((w14.setCell ⟨gb259, 0, none⟩ (.int .i64 ((rd_T27 l0_4 x17_1).f0))).setCell ⟨gb259, 1, none⟩ (.int .i64 ((rd_T27 l0_4 x17_1).f1))).setCell ⟨gb259, 2, none⟩ (.string ((rd_T27 l0_4 x17_1).f2))).setCell ⟨gb259, 3, none⟩ (.slice A258_3 ((rd_T27 l0_4 x17_1).f3).length c258_3)).setCell ⟨gb259, 4, none⟩ (.slice A258_4 ((rd_T27 l0_4 x17_1).f4).length c258_4)).heap[gb259]? = some (.cells #[.int .i64 ((rd_T27 l0_4 x17_1).f0), .int .i64 ((rd_T27 l0_4 x17_1).f1), .string ((rd_T27 l0_4 x17_1).f2), .slice A258_3 ((rd_T27 l0_4 x17_1).f3).length c258_3, .slice A258_4 ((rd_T27 l0_4 x17_1).f4).length c258_4] 27 (0, 0))) := ⟨bp5 BK259.out⟩
    have n2_ : Aside0 (Below w.heap.size w (((((w14.setCell ⟨gb259, 0, none⟩ (.int .i64 ((rd_T27 l0_4 x17_1).f0))).setCell ⟨gb259, 1, none⟩ (.int .i64 ((rd_T27 l0_4 x17_1).f1))).setCell ⟨gb259, 2, none⟩ (.string ((rd_T27 l0_4 x17_1).f2))).setCell ⟨gb259, 3, none⟩ (.slice A258_3 ((rd_T27 l0_4 x17_1).f3).length c258_3)).setCell ⟨gb259, 4, none⟩ (.slice A258_4 ((rd_T27 l0_4 x17_1).f4).length c258_4))) := ⟨hbk HB⟩
    (try clear BK257)
    (try clear BK259)
    (try clear HB)
    generalize (((((w14.setCell ⟨gb259, 0, none⟩ (.int .i64 ((rd_T27 l0_4 x17_1).f0))).setCell ⟨gb259, 1, none⟩ (.int .i64 ((rd_T27 l0_4 x17_1).f1))).setCell ⟨gb259, 2, none⟩ (.string ((rd_T27 l0_4 x17_1).f2))).setCell ⟨gb259, 3, none⟩ (.slice A258_3 ((rd_T27 l0_4 x17_1).f3).length c258_3)).setCell ⟨gb259, 4, none⟩ (.slice A258_4 ((rd_T27 l0_4 x17_1).f4).length c258_4)) = w17 at n0_ n1_ n2_ ⊢
    have BK257 := n0_
    have BK259 := n1_
    have HB := n2_
    clear n0_ n1_ n2_
    replace BK257 := aS (blk_drew BK257.out)
    replace BK259 := aS (blk_drew BK259.out)
    replace HB := aS (below_drew1 HB.out)
    refine start_ (n := 8) (S := fun w' => w'.cell? ⟨gb259, 0, none⟩ = some (.int .i64 ((rd_T27 l0_4 x17_1).f0)) ∧ w'.cell? ⟨gb259, 1, none⟩ = some (.int .i64 ((rd_T27 l0_4 x17_1).f1)) ∧ w'.cell? ⟨gb259, 2, none⟩ = some (.string ((rd_T27 l0_4 x17_1).f2)) ∧ w'.cell? ⟨gb259, 3, none⟩ = some (.slice A258_3 ((rd_T27 l0_4 x17_1).f3).length c258_3) ∧ w'.cell? ⟨gb259, 4, none⟩ = some (.slice A258_4 ((rd_T27 l0_4 x17_1).f4).length c258_4) ∧ w'.cell? ⟨gb257, 0, none⟩ = some (.int .i64 a0_0) ∧ w'.cell? ⟨gb257, 1, none⟩ = some (.int .i64 a0_1) ∧ w'.cell? ⟨gb257, 2, none⟩ = some (.string a0_2) ∧ w'.cell? ⟨gb257, 3, none⟩ = some (.slice A0_3 l0_3.length c0_3) ∧ w'.cell? ⟨gb257, 4, none⟩ = some (.slice (some ad258) l0_4.length c0_4)) (ds := []) #[false, false, false, false, false, false, false, false] (by kernel_rfl) rfl rfl ⟨cz BK259 0, cz BK259 1, cz BK259 2, cz BK259 3, cz BK259 4, cz BK257 0, cz BK257 1, cz BK257 2, cz BK257 3, cz BK257 4⟩ (fun hHeld => ?_); refine with_tabW term_uses.tab6 term_uses.bits6 (fun HT_ HW_ => ?_)
    generalize w17.drew = w18 at BK257 BK259 HB hHeld ⊢
    refine pu 1 23 (bA 8 2) HT_ rfl rfl ?_
    refine pu 2 24 (bA 8 6) HT_ rfl rfl ?_
    refine pu 4 26 (bA 8 22) HT_ rfl rfl ?_
    refine ta 0 22 (bA 8 23) HT_ HW_ rfl rfl hHeld ?_
    refine ta 3 25 (bA 8 31) HT_ HW_ rfl rfl hHeld ?_
    refine one_ (i := 5) (N := some 27) (bA 8 63) rfl rfl (one_of HT_.out (by kernel_rfl)) (by decide) (fun K hK => ?_)
    refine goes_ Try.func118 (by kernel_rfl) rfl #[.int .i64 a0_0, .int .i64 x17_1] (by rfl) rfl rfl bl ?_
    with_reducible refine (term_binds.calls a0_0 x17_1 t260 _ A11.out).mono ?_
    rintro e w' ⟨rfl, ⟨nd, rfl⟩⟩
    refine ⟨_, rfl, ?_⟩
    refine hK.out _ _ ⟨cz BK259 0, cz BK259 1, cz BK259 2, cz BK259 3, cz BK259 4, cz BK257 0, cz BK257 1, cz BK257 2, cz BK257 3, cz BK257 4⟩ (fun hHeld => ?_)
    clear hK K
    refine norm_ ap ?_
    refine pu 6 28 (bA 8 127) HT_ rfl rfl ?_
    refine one_ (i := 7) (N := some 29) (bA 8 255) rfl rfl (one_of HT_.out (by kernel_rfl)) (by decide) (fun K hK => ?_)
    refine goes_ Try.func92 (by kernel_rfl) rfl #[.agg #[.int .i64 ((rd_T27 l0_4 x17_1).f0), .int .i64 ((rd_T27 l0_4 x17_1).f1), .string ((rd_T27 l0_4 x17_1).f2), .slice A258_3 ((rd_T27 l0_4 x17_1).f3).length c258_3, .slice A258_4 ((rd_T27 l0_4 x17_1).f4).length c258_4], .int .i64 (wrap64 (a1 + t260))] (by rfl) rfl rfl bl ?_
    with_reducible refine (ih k1 (by have := HK1.out; omega) ((rd_T27 l0_4 x17_1).f0) ((rd_T27 l0_4 x17_1).f1) ((rd_T27 l0_4 x17_1).f2) _ _ ((rd_T27 l0_4 x17_1).f3) _ _ ((rd_T27 l0_4 x17_1).f4) (wrap64 (a1 + t260)) true _ ?side1 ?side2 ?side3 ?side4 A12.out).mono ?_
    (case side1 => exact cr (Kd.C_below HR258_3.out (hbk HB)))
    (case side2 => exact HC258_3.out)
    (case side3 => exact cr (Kd.C_below HR258_4.out (hbk HB)))
    (case side4 => exact HC258_4.out)
    rintro e w19 ⟨rfl, hb⟩
    refine ⟨_, rfl, ?_⟩
    replace BK257 := Bk BK257 hb
    replace BK259 := Bk BK259 hb
    replace HB := Hs HB hb
    (try clear hb)
    (try clear hb2)
    (try clear hk)
    (try clear hi)
    refine hK.out _ _ ⟨cz BK259 0, cz BK259 1, cz BK259 2, cz BK259 3, cz BK259 4, cz BK257 0, cz BK257 1, cz BK257 2, cz BK257 3, cz BK257 4⟩ (fun hHeld => ?_)
    clear hK K
    refine norm_ ap ?_
    refine done_ (done_of HT_.out (by kernel_rfl)) ?_
    try go_wp2
    go_ret
    exact ⟨by first | rfl | (simp [errW_none, errW_some] <;> rfl) | (simp [*, errW_none, errW_some] <;> rfl), hbk HB⟩
   replace c13 := Bool.eq_false_iff.mpr c13
   subst c13
   have H1 : (term_uses.l0 k1 a1 l0_4 (l0_4.length : Int) (wrap64 (x17_1 + 1)) a0_0 a0_1 a0_2 l0_3 l0_4) = some r := by rw [if_neg (show ¬ (false = true) by decide)] at H; exact H
   clear H
   have H := H1
   clear H1
   have H' := aS H
   clear H
   have p258 : 0 ≤ (x17_1 : Int) := of_decide_eq_true ba
   have q258 : x17_1 < (l0_4.length : Int) := of_decide_eq_true ba
   obtain ⟨ad258, A258_3, c258_3, A258_4, c258_4, e258, hx258_0, hx258_1, hx258_2, hx258_3, hx258_4, hl258_3, hi258_3, hl258_4, hi258_4⟩ := at_T27 HR0_4.out x17_1 p258 q258
   cases e258
   replace hx258_0 := (hc HB hx258_0 :)
   replace hx258_1 := (hc HB hx258_1 :)
   replace hx258_2 := (hc HB hx258_2 :)
   replace hx258_3 := (hc HB hx258_3 :)
   replace hx258_4 := (hc HB hx258_4 :)
   have HR258_3 := aS hi258_3
   have HC258_3 := aS hl258_3
   clear hi258_3 hl258_3
   have HR258_4 := aS hi258_4
   have HC258_4 := aS hl258_4
   clear hi258_4 hl258_4
   replace p258 := eq_true p258
   replace q258 := eq_true q258
   try go_wp2_with (first | ((with_reducible refine gate_dst (N := 6) rfl ?_); refine bx (N := 6) (t := 27) #[.int .i64 0, .int .i64 0, .string (⟨#[]⟩ : ByteArray), .slice none 0 0, .slice none 0 0] ?_; intro gb259 hg w20 hbox hb; have BK259 := aS (hbox); have GW259 := Gz hg HB; have GE259 := Gz hg HB; replace HB := Hs HB hb; have NB257_259 := aS ((by rw [hg]; exact Nat.ne_of_lt (blk_lt (bkw BK257)) : gb257 ≠ gb259)); have NB259_257 := aS ((by rw [hg]; exact Nat.ne_of_gt (blk_lt (bkw BK257)) : gb259 ≠ gb257)); replace BK257 := Bk BK257 hb; clear hb hbox hg; have hnb21 := NB259_257.out; have hnc21 := NB257_259.out; obtain ⟨hcz22_0, hcz22_1, hcz22_2, hcz22_3, hcz22_4⟩ := cl5 BK259; obtain ⟨hfz22_0, hfz22_1, hfz22_2, hfz22_3, hfz22_4⟩ := fz5 BK259))
   have n0_ : Aside0 ((((((w20.setCell ⟨gb259, 0, none⟩ (.int .i64 ((rd_T27 l0_4 x17_1).f0))).setCell ⟨gb259, 1, none⟩ (.int .i64 ((rd_T27 l0_4 x17_1).f1))).setCell ⟨gb259, 2, none⟩ (.string ((rd_T27 l0_4 x17_1).f2))).setCell ⟨gb259, 3, none⟩ (.slice A258_3 ((rd_T27 l0_4 x17_1).f3).length c258_3)).setCell ⟨gb259, 4, none⟩ (.slice A258_4 ((rd_T27 l0_4 x17_1).f4).length c258_4)).heap[gb257]? = some (.cells #[.int .i64 a0_0, .int .i64 a0_1, .string a0_2, .slice A0_3 l0_3.length c0_3, .slice (some ad258) l0_4.length c0_4] 27 (0, 0))) := ⟨bf5 BK257.out NB257_259.out⟩
   have n1_ : Aside0 ((((((w20.setCell ⟨gb259, 0, none⟩ (.int .i64 ((rd_T27 l0_4 x17_1).f0))).setCell ⟨gb259, 1, none⟩ (.int .i64 ((rd_T27 l0_4 x17_1).f1))).setCell ⟨gb259, 2, none⟩ (.string ((rd_T27 l0_4 x17_1).f2))).setCell ⟨gb259, 3, none⟩ (.slice A258_3 ((rd_T27 l0_4 x17_1).f3).length c258_3)).setCell ⟨gb259, 4, none⟩ (.slice A258_4 ((rd_T27 l0_4 x17_1).f4).length c258_4)).heap[gb259]? = some (.cells #[.int .i64 ((rd_T27 l0_4 x17_1).f0), .int .i64 ((rd_T27 l0_4 x17_1).f1), .string ((rd_T27 l0_4 x17_1).f2), .slice A258_3 ((rd_T27 l0_4 x17_1).f3).length c258_3, .slice A258_4 ((rd_T27 l0_4 x17_1).f4).length c258_4] 27 (0, 0))) := ⟨bp5 BK259.out⟩
   have n2_ : Aside0 (Below w.heap.size w (((((w20.setCell ⟨gb259, 0, none⟩ (.int .i64 ((rd_T27 l0_4 x17_1).f0))).setCell ⟨gb259, 1, none⟩ (.int .i64 ((rd_T27 l0_4 x17_1).f1))).setCell ⟨gb259, 2, none⟩ (.string ((rd_T27 l0_4 x17_1).f2))).setCell ⟨gb259, 3, none⟩ (.slice A258_3 ((rd_T27 l0_4 x17_1).f3).length c258_3)).setCell ⟨gb259, 4, none⟩ (.slice A258_4 ((rd_T27 l0_4 x17_1).f4).length c258_4))) := ⟨hbk HB⟩
   (try clear BK257)
   (try clear BK259)
   (try clear HB)
   generalize (((((w20.setCell ⟨gb259, 0, none⟩ (.int .i64 ((rd_T27 l0_4 x17_1).f0))).setCell ⟨gb259, 1, none⟩ (.int .i64 ((rd_T27 l0_4 x17_1).f1))).setCell ⟨gb259, 2, none⟩ (.string ((rd_T27 l0_4 x17_1).f2))).setCell ⟨gb259, 3, none⟩ (.slice A258_3 ((rd_T27 l0_4 x17_1).f3).length c258_3)).setCell ⟨gb259, 4, none⟩ (.slice A258_4 ((rd_T27 l0_4 x17_1).f4).length c258_4)) = w23 at n0_ n1_ n2_ ⊢
   have BK257 := n0_
   have BK259 := n1_
   have HB := n2_
   clear n0_ n1_ n2_
   replace BK257 := aS (blk_drew BK257.out)
   replace BK259 := aS (blk_drew BK259.out)
   replace HB := aS (below_drew1 HB.out)
   refine start_ (n := 8) (S := fun w' => w'.cell? ⟨gb259, 0, none⟩ = some (.int .i64 ((rd_T27 l0_4 x17_1).f0)) ∧ w'.cell? ⟨gb259, 1, none⟩ = some (.int .i64 ((rd_T27 l0_4 x17_1).f1)) ∧ w'.cell? ⟨gb259, 2, none⟩ = some (.string ((rd_T27 l0_4 x17_1).f2)) ∧ w'.cell? ⟨gb259, 3, none⟩ = some (.slice A258_3 ((rd_T27 l0_4 x17_1).f3).length c258_3) ∧ w'.cell? ⟨gb259, 4, none⟩ = some (.slice A258_4 ((rd_T27 l0_4 x17_1).f4).length c258_4) ∧ w'.cell? ⟨gb257, 0, none⟩ = some (.int .i64 a0_0) ∧ w'.cell? ⟨gb257, 1, none⟩ = some (.int .i64 a0_1) ∧ w'.cell? ⟨gb257, 2, none⟩ = some (.string a0_2) ∧ w'.cell? ⟨gb257, 3, none⟩ = some (.slice A0_3 l0_3.length c0_3) ∧ w'.cell? ⟨gb257, 4, none⟩ = some (.slice (some ad258) l0_4.length c0_4)) (ds := []) #[false, false, false, false, false, false, false, false] (by kernel_rfl) rfl rfl ⟨cz BK259 0, cz BK259 1, cz BK259 2, cz BK259 3, cz BK259 4, cz BK257 0, cz BK257 1, cz BK257 2, cz BK257 3, cz BK257 4⟩ (fun hHeld => ?_); refine with_tabW term_uses.tab6 term_uses.bits6 (fun HT_ HW_ => ?_)
   generalize w23.drew = w24 at BK257 BK259 HB hHeld ⊢
   refine pu 1 23 (bA 8 2) HT_ rfl rfl ?_
   refine pu 2 24 (bA 8 6) HT_ rfl rfl ?_
   refine pu 4 26 (bA 8 22) HT_ rfl rfl ?_
   refine ta 0 22 (bA 8 23) HT_ HW_ rfl rfl hHeld ?_
   refine ta 3 25 (bA 8 31) HT_ HW_ rfl rfl hHeld ?_
   refine one_ (i := 5) (N := some 27) (bA 8 63) rfl rfl (one_of HT_.out (by kernel_rfl)) (by decide) (fun K hK => ?_)
   refine goes_ Try.func118 (by kernel_rfl) rfl #[.int .i64 a0_0, .int .i64 x17_1] (by rfl) rfl rfl bl ?_
   with_reducible refine (term_binds.calls a0_0 x17_1 t260 _ A11.out).mono ?_
   rintro e w' ⟨rfl, ⟨nd, rfl⟩⟩
   refine ⟨_, rfl, ?_⟩
   refine hK.out _ _ ⟨cz BK259 0, cz BK259 1, cz BK259 2, cz BK259 3, cz BK259 4, cz BK257 0, cz BK257 1, cz BK257 2, cz BK257 3, cz BK257 4⟩ (fun hHeld => ?_)
   clear hK K
   refine norm_ ap ?_
   refine pu 6 28 (bA 8 127) HT_ rfl rfl ?_
   refine one_ (i := 7) (N := some 29) (bA 8 255) rfl rfl (one_of HT_.out (by kernel_rfl)) (by decide) (fun K hK => ?_)
   refine goes_ Try.func92 (by kernel_rfl) rfl #[.agg #[.int .i64 ((rd_T27 l0_4 x17_1).f0), .int .i64 ((rd_T27 l0_4 x17_1).f1), .string ((rd_T27 l0_4 x17_1).f2), .slice A258_3 ((rd_T27 l0_4 x17_1).f3).length c258_3, .slice A258_4 ((rd_T27 l0_4 x17_1).f4).length c258_4], .int .i64 (wrap64 (a1 + t260))] (by rfl) rfl rfl bl ?_
   with_reducible refine (ih k1 (by have := HK1.out; omega) ((rd_T27 l0_4 x17_1).f0) ((rd_T27 l0_4 x17_1).f1) ((rd_T27 l0_4 x17_1).f2) _ _ ((rd_T27 l0_4 x17_1).f3) _ _ ((rd_T27 l0_4 x17_1).f4) (wrap64 (a1 + t260)) false _ ?side1 ?side2 ?side3 ?side4 A12.out).mono ?_
   (case side1 => exact cr (Kd.C_below HR258_3.out (hbk HB)))
   (case side2 => exact HC258_3.out)
   (case side3 => exact cr (Kd.C_below HR258_4.out (hbk HB)))
   (case side4 => exact HC258_4.out)
   rintro e w25 ⟨rfl, hb⟩
   refine ⟨_, rfl, ?_⟩
   replace BK257 := Bk BK257 hb
   replace BK259 := Bk BK259 hb
   replace HB := Hs HB hb
   (try clear hb)
   (try clear hb2)
   (try clear hk)
   (try clear hi)
   refine hK.out _ _ ⟨cz BK259 0, cz BK259 1, cz BK259 2, cz BK259 3, cz BK259 4, cz BK257 0, cz BK257 1, cz BK257 2, cz BK257 3, cz BK257 4⟩ (fun hHeld => ?_)
   clear hK K
   refine norm_ ap ?_
   refine done_ (done_of HT_.out (by kernel_rfl)) ?_
   try go_wp2
   go_roundg k1
   case measure => have := HK1.out; omega
   case rel => exact ⟨(wrap64 (x17_1 + 1)), br, H', ⟨by have := HK1.out; omega⟩, ⟨bk BK257.out⟩, ⟨hbk HB⟩⟩
def term_Uses.f (k : Nat) (a0_0 : Int) (a0_1 : Int) (a0_2 : ByteArray) (l0_3 : List (S76)) (l0_4 : List (S27)) (a1 : Int) : Option (Bool) := if a1 ≥ 0 then ((term_uses.f k a0_0 a0_1 a0_2 l0_3 l0_4 a1).bind fun t263 => (some t263)) else (some false)
set_option maxHeartbeats 8000000 in
set_option maxRecDepth 100000 in
theorem term_Uses.calls (k : Nat) (a0_0 : Int) (a0_1 : Int) (a0_2 : ByteArray) (A0_3 : Option Addr) (c0_3 : Nat) (l0_3 : List (S76)) (A0_4 : Option Addr) (c0_4 : Nat) (l0_4 : List (S27)) (a1 : Int) (r : Bool) (w : World) (hr0_3 : Kd.C k76 w A0_3 l0_3.length l0_3) (hc0_3 : l0_3.length ≤ c0_3) (hr0_4 : Kd.C k27 w A0_4 l0_4.length l0_4) (hc0_4 : l0_4.length ≤ c0_4) (h : term_Uses.f k a0_0 a0_1 a0_2 l0_3 l0_4 a1 = some r) :
  Calls Try.prog 43 #[.agg #[.int .i64 a0_0, .int .i64 a0_1, .string a0_2, .slice A0_3 l0_3.length c0_3, .slice A0_4 l0_4.length c0_4], .int .i64 a1] w fun e w' => e = .returned (.bool r) ∧ Below w.heap.size w w' := by
 have hu27 := Try.underlying27
 have HR0_3 := aS hr0_3
 have HC0_3 := aS hc0_3
 clear hr0_3 hc0_3
 have HR0_4 := aS hr0_4
 have HC0_4 := aS hc0_4
 clear hr0_4 hc0_4
 have HB := aS (Below.refl w.heap.size w)
 have H : (if a1 ≥ 0 then ((term_uses.f k a0_0 a0_1 a0_2 l0_3 l0_4 a1).bind fun t263 => (some t263)) else (some false)) = some r := h
 clear h
 by_cases c3 : a1 ≥ 0
 rotate_left
 ·rw [if_neg c3] at H
  have c3b0 : decide (0 ≤ a1) = false := decide_eq_false c3
  clear c3
  obtain rfl := Option.some.inj H
  go_enter Try.func43, Try.ntmps43
  go_wp2_with (first | ((with_reducible refine gate_dst (N := 2) rfl ?_); refine bx (N := 2) (t := 27) #[.int .i64 a0_0, .int .i64 a0_1, .string a0_2, .slice A0_3 l0_3.length c0_3, .slice A0_4 l0_4.length c0_4] ?_; intro gb262 hg w8 hbox hb; have BK262 := aS (hbox); have GW262 := Gz hg HB; have GE262 := Gz hg HB; replace HB := Hs HB hb; clear hb hbox hg))
  go_ret
  exact ⟨by first | rfl | (simp [errW_none, errW_some] <;> rfl) | (simp [*, errW_none, errW_some] <;> rfl), hbk HB⟩
 rw [if_pos c3] at H
 have c3b0 : decide (0 ≤ a1) = true := decide_eq_true c3
 clear c3
 replace H := Option.bind_eq_some_iff.mp H
 obtain ⟨t263, A40, H⟩ := H
 try dsimp only at H
 have A4 := aS A40
 clear A40
 obtain rfl := Option.some.inj H
 go_enter Try.func43, Try.ntmps43
 go_wp2_with (first | ((with_reducible refine gate_dst (N := 2) rfl ?_); refine bx (N := 2) (t := 27) #[.int .i64 a0_0, .int .i64 a0_1, .string a0_2, .slice A0_3 l0_3.length c0_3, .slice A0_4 l0_4.length c0_4] ?_; intro gb262 hg w5 hbox hb; have BK262 := aS (hbox); have GW262 := Gz hg HB; have GE262 := Gz hg HB; replace HB := Hs HB hb; clear hb hbox hg; obtain ⟨hcz6_0, hcz6_1, hcz6_2, hcz6_3, hcz6_4⟩ := cl5 BK262; obtain ⟨hfz6_0, hfz6_1, hfz6_2, hfz6_3, hfz6_4⟩ := fz5 BK262) | (go_at_call 92; (with_reducible refine (term_uses.calls k a0_0 a0_1 a0_2 _ _ l0_3 _ _ l0_4 a1 t263 _ ?side1 ?side2 ?side3 ?side4 A4.out).mono ?_); (case side1 => exact cr (Kd.C_below HR0_3.out HB.out)); (case side2 => exact HC0_3.out); (case side3 => exact cr (Kd.C_below HR0_4.out HB.out)); (case side4 => exact HC0_4.out); rintro e w7 ⟨rfl, hb⟩; replace BK262 := Bk BK262 hb; replace HB := Hs HB hb; (try clear hb); (try clear hb2); (try clear hk); (try clear hi)))
 go_ret
 exact ⟨by first | rfl | (simp [errW_none, errW_some] <;> rfl) | (simp [*, errW_none, errW_some] <;> rfl), hbk HB⟩
mutual
def term_args.j0 : Nat → Int → Bool → Option (Int)
 | 0, _, _ => none
 | k + 1, x3, x4 => if x4 = true then (some 0) else (if x3 = 3 then (term_args.j1 k x3 (x3 == 3)) else (if x3 = 4 then (term_args.j1 k x3 (x3 == 4)) else (term_args.j1 k x3 (x3 == 5))))
def term_args.j1 : Nat → Int → Bool → Option (Int)
 | 0, _, _ => none
 | k + 1, x3, x8 => if x8 = true then (some 2) else (if x3 = 6 then (some 3) else (some (-1)))
end
def term_args.f (k : Nat) (a0 : Int) : Option (Int) := if a0 = 0 then (term_args.j0 k a0 (a0 == 0)) else (if a0 = 1 then (term_args.j0 k a0 (a0 == 1)) else (term_args.j0 k a0 (a0 == 2)))
set_option maxHeartbeats 8000000 in
set_option maxRecDepth 100000 in
theorem term_args.calls (k : Nat) (a0 : Int) (r : Int) (w : World) (h : term_args.f k a0 = some r) :
  Calls Try.prog 163 #[.int .i64 a0] w fun e w' => e = .returned (.int .i64 r) ∧ Drawn0 w w' := by
 have H : (if a0 = 0 then (term_args.j0 k a0 (a0 == 0)) else (if a0 = 1 then (term_args.j0 k a0 (a0 == 1)) else (term_args.j0 k a0 (a0 == 2)))) = some r := h
 clear h
 have HC2 := aS H
 clear H
 go_enter Try.func163, Try.ntmps163
 go_upto_if 4 with (fail)
 go_cut [4] (fun v4 wc => ∃ (kq : Nat) (x4_1 : Bool), v4 = .bool x4_1 ∧ Aside0 (term_args.j0 kq a0 x4_1 = some r) ∧ Aside0 (kq ≤ k) ∧ Drawn0 w wc)
 case first =>
  have H := HC2.out
  clear HC2
  by_cases c3 : a0 = 0
  ·rw [if_pos c3] at H
   have c3b0 : (a0 == 0) = true := beq_iff_eq.mpr c3
   have c3b1 : (a0 != 0) = false := bne_eq_false_iff_eq.mpr c3
   clear c3
   (first | rw [c3b0] | (simp only [i64_w, i32_w]; rw [c3b0]) | skip)
   have H' := aS H
   clear H
   go_wp2
   go_meet
   case rel => exact ⟨_, ((a0 == 0)), br, H', ⟨by first | omega | exact Nat.le_refl _⟩, by repeat (first | exact Drawn0.refl _ | apply Drawn0.step)⟩
  rw [if_neg c3] at H
  have c3b0 : (a0 == 0) = false := beq_eq_false_iff_ne.mpr c3
  have c3b1 : (a0 != 0) = true := bne_iff_ne.mpr c3
  (first | rw [c3b0] | (simp only [i64_w, i32_w]; rw [c3b0]) | skip)
  by_cases c4 : a0 = 1
  rotate_left
  ·rw [if_neg c4] at H
   have c4b0 : (a0 == 1) = false := beq_eq_false_iff_ne.mpr c4
   have c4b1 : (a0 != 1) = true := bne_iff_ne.mpr c4
   have H' := aS H
   clear H
   go_wp2
   go_meet
   case rel => exact ⟨_, ((a0 == 2)), br, H', ⟨by first | omega | exact Nat.le_refl _⟩, by repeat (first | exact Drawn0.refl _ | apply Drawn0.step)⟩
  rw [if_pos c4] at H
  have c4b0 : (a0 == 1) = true := beq_iff_eq.mpr c4
  have c4b1 : (a0 != 1) = false := bne_eq_false_iff_eq.mpr c4
  clear c4
  have H' := aS H
  clear H
  go_wp2
  go_meet
  case rel => exact ⟨_, ((a0 == 1)), br, H', ⟨by first | omega | exact Nat.le_refl _⟩, by repeat (first | exact Drawn0.refl _ | apply Drawn0.step)⟩
 case rest =>
  clear HC2
  try clear c1
  try clear p2
  try clear c3
  try clear c3b0
  try clear c3b1
  try clear c4
  try clear c4b0
  try clear c4b1
  obtain ⟨kq, x4_1, rfl, HA, HJ1, ⟨mc1, rfl⟩⟩ := hcut
  cases kq with
  | zero => exact absurd HA.out (by simp [term_args.j0])
  | succ kj1 =>
   have H := HA.out
   clear HA
   simp only [term_args.j0] at H
   by_cases c5 : x4_1 = true
   ·subst c5
    have H1 : (some 0) = some r := by rw [if_pos rfl] at H; exact H
    clear H
    have H := H1
    clear H1
    obtain rfl := Option.some.inj H
    go_wp2
    go_ret
    exact ⟨by first | rfl | (simp; done) | (simp [*]; done), by repeat (first | exact Drawn0.refl _ | apply Drawn0.step)⟩
   replace c5 := Bool.eq_false_iff.mpr c5
   subst c5
   have H1 : (if a0 = 3 then (term_args.j1 kj1 a0 (a0 == 3)) else (if a0 = 4 then (term_args.j1 kj1 a0 (a0 == 4)) else (term_args.j1 kj1 a0 (a0 == 5)))) = some r := by rw [if_neg (show ¬ (false = true) by decide)] at H; exact H
   clear H
   have H := H1
   clear H1
   have HC6 := aS H
   clear H
   go_upto_if 8 with (fail)
   go_cut [8] (fun v8 wc => ∃ (kq : Nat) (x8_5 : Bool), v8 = .bool x8_5 ∧ Aside0 (term_args.j1 kq a0 x8_5 = some r) ∧ Aside0 (kq ≤ kj1) ∧ Drawn0 w wc)
   case first =>
    have H := HC6.out
    clear HC6
    by_cases c7 : a0 = 3
    ·rw [if_pos c7] at H
     have c7b0 : (a0 == 3) = true := beq_iff_eq.mpr c7
     have c7b1 : (a0 != 3) = false := bne_eq_false_iff_eq.mpr c7
     clear c7
     (first | rw [c7b0] | (simp only [i64_w, i32_w]; rw [c7b0]) | skip)
     have H' := aS H
     clear H
     go_wp2
     go_meet
     case rel => exact ⟨_, ((a0 == 3)), br, H', ⟨by have := HJ1.out; first | omega | exact Nat.le_refl _⟩, by repeat (first | exact Drawn0.refl _ | apply Drawn0.step)⟩
    rw [if_neg c7] at H
    have c7b0 : (a0 == 3) = false := beq_eq_false_iff_ne.mpr c7
    have c7b1 : (a0 != 3) = true := bne_iff_ne.mpr c7
    (first | rw [c7b0] | (simp only [i64_w, i32_w]; rw [c7b0]) | skip)
    by_cases c8 : a0 = 4
    rotate_left
    ·rw [if_neg c8] at H
     have c8b0 : (a0 == 4) = false := beq_eq_false_iff_ne.mpr c8
     have c8b1 : (a0 != 4) = true := bne_iff_ne.mpr c8
     have H' := aS H
     clear H
     go_wp2
     go_meet
     case rel => exact ⟨_, ((a0 == 5)), br, H', ⟨by have := HJ1.out; first | omega | exact Nat.le_refl _⟩, by repeat (first | exact Drawn0.refl _ | apply Drawn0.step)⟩
    rw [if_pos c8] at H
    have c8b0 : (a0 == 4) = true := beq_iff_eq.mpr c8
    have c8b1 : (a0 != 4) = false := bne_eq_false_iff_eq.mpr c8
    clear c8
    have H' := aS H
    clear H
    go_wp2
    go_meet
    case rel => exact ⟨_, ((a0 == 4)), br, H', ⟨by have := HJ1.out; first | omega | exact Nat.le_refl _⟩, by repeat (first | exact Drawn0.refl _ | apply Drawn0.step)⟩
   case rest =>
    clear HC6
    try clear c1
    try clear p2
    try clear c3
    try clear c3b0
    try clear c3b1
    try clear c4
    try clear c4b0
    try clear c4b1
    try clear c5
    try clear c7
    try clear c7b0
    try clear c7b1
    try clear c8
    try clear c8b0
    try clear c8b1
    try clear p2
    obtain ⟨kq, x8_5, rfl, HA, HJ5, ⟨mc5, rfl⟩⟩ := hcut
    cases kq with
    | zero => exact absurd HA.out (by simp [term_args.j1])
    | succ kj5 =>
     have H := HA.out
     clear HA
     simp only [term_args.j1] at H
     by_cases c9 : x8_5 = true
     ·subst c9
      have H1 : (some 2) = some r := by rw [if_pos rfl] at H; exact H
      clear H
      have H := H1
      clear H1
      obtain rfl := Option.some.inj H
      go_wp2
      go_ret
      exact ⟨by first | rfl | (simp; done) | (simp [*]; done), by repeat (first | exact Drawn0.refl _ | apply Drawn0.step)⟩
     replace c9 := Bool.eq_false_iff.mpr c9
     subst c9
     have H1 : (if a0 = 6 then (some 3) else (some (-1))) = some r := by rw [if_neg (show ¬ (false = true) by decide)] at H; exact H
     clear H
     have H := H1
     clear H1
     by_cases c10 : a0 = 6
     rotate_left
     ·rw [if_neg c10] at H
      have c10b0 : (a0 == 6) = false := beq_eq_false_iff_ne.mpr c10
      have c10b1 : (a0 != 6) = true := bne_iff_ne.mpr c10
      obtain rfl := Option.some.inj H
      go_wp2
      go_ret
      exact ⟨by first | rfl | (simp; done) | (simp [*]; done), by repeat (first | exact Drawn0.refl _ | apply Drawn0.step)⟩
     rw [if_pos c10] at H
     have c10b0 : (a0 == 6) = true := beq_iff_eq.mpr c10
     have c10b1 : (a0 != 6) = false := bne_eq_false_iff_eq.mpr c10
     clear c10
     obtain rfl := Option.some.inj H
     go_wp2
     go_ret
     exact ⟨by first | rfl | (simp; done) | (simp [*]; done), by repeat (first | exact Drawn0.refl _ | apply Drawn0.step)⟩
def level_args.j0 : Nat → Int → Bool → Option (Int)
 | 0, _, _ => none
 | k + 1, x3, x4 => if x4 = true then (some 0) else (if x3 = 1 then (some 1) else (if x3 = 2 then (some 2) else (if x3 = 3 then (some 2) else (some (-1)))))
def level_args.f (k : Nat) (a0 : Int) : Option (Int) := if a0 = 0 then (level_args.j0 k a0 (a0 == 0)) else (level_args.j0 k a0 (a0 == 4))
set_option maxHeartbeats 8000000 in
set_option maxRecDepth 100000 in
theorem level_args.calls (k : Nat) (a0 : Int) (r : Int) (w : World) (h : level_args.f k a0 = some r) :
  Calls Try.prog 164 #[.int .i64 a0] w fun e w' => e = .returned (.int .i64 r) ∧ Drawn0 w w' := by
 have H : (if a0 = 0 then (level_args.j0 k a0 (a0 == 0)) else (level_args.j0 k a0 (a0 == 4))) = some r := h
 clear h
 have HC2 := aS H
 clear H
 go_enter Try.func164, Try.ntmps164
 go_upto_if 4 with (fail)
 go_cut [4] (fun v4 wc => ∃ (kq : Nat) (x4_1 : Bool), v4 = .bool x4_1 ∧ Aside0 (level_args.j0 kq a0 x4_1 = some r) ∧ Aside0 (kq ≤ k) ∧ Drawn0 w wc)
 case first =>
  have H := HC2.out
  clear HC2
  by_cases c3 : a0 = 0
  rotate_left
  ·rw [if_neg c3] at H
   have c3b0 : (a0 == 0) = false := beq_eq_false_iff_ne.mpr c3
   have c3b1 : (a0 != 0) = true := bne_iff_ne.mpr c3
   (first | rw [c3b0] | (simp only [i64_w, i32_w]; rw [c3b0]) | skip)
   have H' := aS H
   clear H
   go_wp2
   go_meet
   case rel => exact ⟨_, ((a0 == 4)), br, H', ⟨by first | omega | exact Nat.le_refl _⟩, by repeat (first | exact Drawn0.refl _ | apply Drawn0.step)⟩
  rw [if_pos c3] at H
  have c3b0 : (a0 == 0) = true := beq_iff_eq.mpr c3
  have c3b1 : (a0 != 0) = false := bne_eq_false_iff_eq.mpr c3
  clear c3
  (first | rw [c3b0] | (simp only [i64_w, i32_w]; rw [c3b0]) | skip)
  have H' := aS H
  clear H
  go_wp2
  go_meet
  case rel => exact ⟨_, ((a0 == 0)), br, H', ⟨by first | omega | exact Nat.le_refl _⟩, by repeat (first | exact Drawn0.refl _ | apply Drawn0.step)⟩
 case rest =>
  clear HC2
  try clear c1
  try clear p2
  try clear c3
  try clear c3b0
  try clear c3b1
  obtain ⟨kq, x4_1, rfl, HA, HJ1, ⟨mc1, rfl⟩⟩ := hcut
  cases kq with
  | zero => exact absurd HA.out (by simp [level_args.j0])
  | succ kj1 =>
   have H := HA.out
   clear HA
   simp only [level_args.j0] at H
   by_cases c4 : x4_1 = true
   ·subst c4
    have H1 : (some 0) = some r := by rw [if_pos rfl] at H; exact H
    clear H
    have H := H1
    clear H1
    obtain rfl := Option.some.inj H
    go_wp2
    go_ret
    exact ⟨by first | rfl | (simp; done) | (simp [*]; done), by repeat (first | exact Drawn0.refl _ | apply Drawn0.step)⟩
   replace c4 := Bool.eq_false_iff.mpr c4
   subst c4
   have H1 : (if a0 = 1 then (some 1) else (if a0 = 2 then (some 2) else (if a0 = 3 then (some 2) else (some (-1))))) = some r := by rw [if_neg (show ¬ (false = true) by decide)] at H; exact H
   clear H
   have H := H1
   clear H1
   by_cases c5 : a0 = 1
   ·rw [if_pos c5] at H
    have c5b0 : (a0 == 1) = true := beq_iff_eq.mpr c5
    have c5b1 : (a0 != 1) = false := bne_eq_false_iff_eq.mpr c5
    clear c5
    obtain rfl := Option.some.inj H
    go_wp2
    go_ret
    exact ⟨by first | rfl | (simp; done) | (simp [*]; done), by repeat (first | exact Drawn0.refl _ | apply Drawn0.step)⟩
   rw [if_neg c5] at H
   have c5b0 : (a0 == 1) = false := beq_eq_false_iff_ne.mpr c5
   have c5b1 : (a0 != 1) = true := bne_iff_ne.mpr c5
   by_cases c6 : a0 = 2
   ·rw [if_pos c6] at H
    have c6b0 : (a0 == 2) = true := beq_iff_eq.mpr c6
    have c6b1 : (a0 != 2) = false := bne_eq_false_iff_eq.mpr c6
    clear c6
    obtain rfl := Option.some.inj H
    go_wp2
    go_ret
    exact ⟨by first | rfl | (simp; done) | (simp [*]; done), by repeat (first | exact Drawn0.refl _ | apply Drawn0.step)⟩
   rw [if_neg c6] at H
   have c6b0 : (a0 == 2) = false := beq_eq_false_iff_ne.mpr c6
   have c6b1 : (a0 != 2) = true := bne_iff_ne.mpr c6
   by_cases c7 : a0 = 3
   rotate_left
   ·rw [if_neg c7] at H
    have c7b0 : (a0 == 3) = false := beq_eq_false_iff_ne.mpr c7
    have c7b1 : (a0 != 3) = true := bne_iff_ne.mpr c7
    obtain rfl := Option.some.inj H
    go_wp2
    go_ret
    exact ⟨by first | rfl | (simp; done) | (simp [*]; done), by repeat (first | exact Drawn0.refl _ | apply Drawn0.step)⟩
   rw [if_pos c7] at H
   have c7b0 : (a0 == 3) = true := beq_iff_eq.mpr c7
   have c7b1 : (a0 != 3) = false := bne_eq_false_iff_eq.mpr c7
   clear c7
   obtain rfl := Option.some.inj H
   go_wp2
   go_ret
   exact ⟨by first | rfl | (simp; done) | (simp [*]; done), by repeat (first | exact Drawn0.refl _ | apply Drawn0.step)⟩
end Go.Proofs.Ytpejhapgffcngaa.QK

