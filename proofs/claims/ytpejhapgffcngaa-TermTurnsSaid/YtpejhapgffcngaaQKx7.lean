/- Words and walks of this claim. -/
import Derived.Test.YtpejhapgffcngaaXShort
import Derived.Test.YtpejhapgffcngaaQKApart
import Derived.Test.YtpejhapgffcngaaQKx4
import Derived.Test.YtpejhapgffcngaaQKx6
namespace Go.Proofs.Ytpejhapgffcngaa.QK
open Go.RowKit Go.Proofs.YtpejhapgffcngaaW.PrintWords Go.Proofs.YtpejhapgffcngaaW.PrintLast Go.Proofs.YtpejhapgffcngaaW.PrintMore
attribute [local go_sem] max2_int min2_int max_two min_two max_three min_three max_four min_four
set_option linter.unusedVariables false
set_option linter.unusedSimpArgs false
mutual
def touchstoneref5_put.j0 : Nat → Int → Int → Int → ByteArray → List (S76) → List (S27) → Int → Int → ByteArray → List (S76) → List (S27) → Option (Int × Int × ByteArray × (List (S76)) × (List (S27)))
 | 0, _, _, _, _, _, _, _, _, _, _, _ => none
 | k + 1, x2, x182000, x182001, x182002, x182003, x182004, x183000, x183001, x183002, x183003, x183004 => (touchstoneref5_leaf.f k x182000 x182001 x182002 x182003 x182004).bind fun bt193 => (touchstoneref5_put.l0 k x2 0 x182000 x182001 x182002 x182003 x182004 x183000 x183001 x183002 x183003 x183004 bt193.1 bt193.2.1 bt193.2.2.1 bt193.2.2.2.1 bt193.2.2.2.2)
def touchstoneref5_put.l0 : Nat → Int → Int → Int → Int → ByteArray → List (S76) → List (S27) → Int → Int → ByteArray → List (S76) → List (S27) → Int → Int → ByteArray → List (S76) → List (S27) → Option (Int × Int × ByteArray × (List (S76)) × (List (S27)))
 | 0, _, _, _, _, _, _, _, _, _, _, _, _, _, _, _, _, _ => none
 | k + 1, x2, x8, x182000, x182001, x182002, x182003, x182004, x183000, x183001, x183002, x183003, x183004, x203000, x203001, x203002, x203003, x203004 => if x8 < (x182004.length : Int) then (if 0 ≤ x8 then ((touchstoneref5_Binds.f x182000 x8).bind fun t204 => ((touchstoneref5_put.f k ((rd_T27 x182004 x8).f0) ((rd_T27 x182004 x8).f1) ((rd_T27 x182004 x8).f2) ((rd_T27 x182004 x8).f3) ((rd_T27 x182004 x8).f4) x183000 x183001 x183002 x183003 x183004 (wrap64 (x2 + t204))).bind fun bt205 => (if x203004.length < 1759218604441 then (touchstoneref5_put.l0 k x2 (wrap64 (x8 + 1)) x182000 x182001 x182002 x182003 x182004 x183000 x183001 x183002 x183003 x183004 x203000 x203001 x203002 x203003 (x203004 ++ [(⟨bt205.1, bt205.2.1, bt205.2.2.1, bt205.2.2.2.1, bt205.2.2.2.2⟩ : S27)])) else (none)))) else (none)) else (some (x203000, x203001, x203002, x203003, x203004))
def touchstoneref5_put.f : Nat → Int → Int → ByteArray → List (S76) → List (S27) → Int → Int → ByteArray → List (S76) → List (S27) → Int → Option (Int × Int × ByteArray × (List (S76)) × (List (S27)))
 | 0, _, _, _, _, _, _, _, _, _, _, _ => none
 | k + 1, a0_0, a0_1, a0_2, l0_3, l0_4, a1_0, a1_1, a1_2, l1_3, l1_4, a2 => if a0_0 = 0 then (if a0_1 = a2 then ((touchstoneref5_Lift.f k a1_0 a1_1 a1_2 l1_3 l1_4 a2 0).bind fun bt184 => (some (bt184.1, bt184.2.1, bt184.2.2.1, bt184.2.2.2.1, bt184.2.2.2.2))) else (if a0_1 > a2 then (some (0, wrap64 (a0_1 - 1), (⟨#[]⟩ : ByteArray), ([] : List (S76)), ([] : List (S27)))) else (touchstoneref5_put.j0 k a2 a0_0 a0_1 a0_2 l0_3 l0_4 a1_0 a1_1 a1_2 l1_3 l1_4))) else (touchstoneref5_put.j0 k a2 a0_0 a0_1 a0_2 l0_3 l0_4 a1_0 a1_1 a1_2 l1_3 l1_4)
end
def touchstoneref5_put.T10 : Bool × List (List Nat × List Nat) := (true, [([], []), ([0], [0]), ([], []), ([2], [2]), ([], []), ([3, 4], [3, 4]), ([5], [5]), ([], []), ([], []), ([], []), ([9], [9]), ([], []), ([10, 11], [10, 11]), ([8, 12], [8, 12]), ([6, 7, 13, 12], [6, 7, 13]), ([14], [14]), ([1, 15, 14], [1, 15]), ([0, 1, 2, 3, 4, 5, 6, 7, 8, 9, 10, 11, 12, 13, 14, 15, 16], []), ([17, 16, 16, 0, 1, 2, 3, 4, 5, 6, 7, 8, 9, 10, 11, 12, 13, 14, 15, 16], [16, 17])])
def touchstoneref5_put.B10 : List Nat := [0, 1, 0, 4, 0, 28, 60, 0, 0, 0, 512, 0, 3584, 7936, 16380, 32764, 65535, 131071, 262143]
theorem touchstoneref5_put.tab10 : rtab .any (opsOf Try.f78 10) = touchstoneref5_put.T10 := by kernel_rfl
theorem touchstoneref5_put.bits10 : waitsOk touchstoneref5_put.T10.2 touchstoneref5_put.B10 = true := by kernel_rfl
set_option maxHeartbeats 8000000 in
set_option maxRecDepth 100000 in
theorem touchstoneref5_put.calls (k : Nat) : ∀ (a0_0 : Int) (a0_1 : Int) (a0_2 : ByteArray) (A0_3 : Option Addr) (c0_3 : Nat) (l0_3 : List (S76)) (A0_4 : Option Addr) (c0_4 : Nat) (l0_4 : List (S27)) (a1_0 : Int) (a1_1 : Int) (a1_2 : ByteArray) (A1_3 : Option Addr) (c1_3 : Nat) (l1_3 : List (S76)) (A1_4 : Option Addr) (c1_4 : Nat) (l1_4 : List (S27)) (a2 : Int) (r1 : Int) (r2 : Int) (r3 : ByteArray) (r4 : List (S76)) (r5 : List (S27)) (w : World) (hr0_3 : Kd.C k76 w A0_3 l0_3.length l0_3) (hc0_3 : l0_3.length ≤ c0_3) (hr0_4 : Kd.C k27 w A0_4 l0_4.length l0_4) (hc0_4 : l0_4.length ≤ c0_4) (hr1_3 : Kd.C k76 w A1_3 l1_3.length l1_3) (hc1_3 : l1_3.length ≤ c1_3) (hr1_4 : Kd.C k27 w A1_4 l1_4.length l1_4) (hc1_4 : l1_4.length ≤ c1_4) (h : touchstoneref5_put.f k a0_0 a0_1 a0_2 l0_3 l0_4 a1_0 a1_1 a1_2 l1_3 l1_4 a2 = some (r1, r2, r3, r4, r5)),
  Calls Try.prog 78 #[.agg #[.int .i64 a0_0, .int .i64 a0_1, .string a0_2, .slice A0_3 l0_3.length c0_3, .slice A0_4 l0_4.length c0_4], .agg #[.int .i64 a1_0, .int .i64 a1_1, .string a1_2, .slice A1_3 l1_3.length c1_3, .slice A1_4 l1_4.length c1_4], .int .i64 a2] w fun e w' => ∃ v3_ v4_ : Value, e = .returned (.agg #[.int .i64 r1, .int .i64 r2, .string r3, v3_, v4_]) ∧ Kd.R k76 76 w' w.heap.size (fun _ => True) v3_ r4 ∧ Kd.R k27 27 w' w.heap.size (fun k_ => some k_ ≠ (v3_ : Value).ownBlock) v4_ r5 ∧ Below w.heap.size w w' := by
 induction k using Nat.strongRecOn with
 | _ k ih =>
 intro a0_0 a0_1 a0_2 A0_3 c0_3 l0_3 A0_4 c0_4 l0_4 a1_0 a1_1 a1_2 A1_3 c1_3 l1_3 A1_4 c1_4 l1_4 a2 r1 r2 r3 r4 r5 w hr0_3 hc0_3 hr0_4 hc0_4 hr1_3 hc1_3 hr1_4 hc1_4 h
 cases k with
 | zero => exact absurd h (by simp [touchstoneref5_put.f])
 | succ k =>
 simp only [touchstoneref5_put.f] at h
 have hu27 := Try.underlying27
 have HR0_3 := aS hr0_3
 have HC0_3 := aS hc0_3
 clear hr0_3 hc0_3
 have HR0_4 := aS hr0_4
 have HC0_4 := aS hc0_4
 clear hr0_4 hc0_4
 have HR1_3 := aS hr1_3
 have HC1_3 := aS hc1_3
 clear hr1_3 hc1_3
 have HR1_4 := aS hr1_4
 have HC1_4 := aS hc1_4
 clear hr1_4 hc1_4
 have HB := aS (Below.refl w.heap.size w)
 have H : (if a0_0 = 0 then (if a0_1 = a2 then ((touchstoneref5_Lift.f k a1_0 a1_1 a1_2 l1_3 l1_4 a2 0).bind fun bt184 => (some (bt184.1, bt184.2.1, bt184.2.2.1, bt184.2.2.2.1, bt184.2.2.2.2))) else (if a0_1 > a2 then (some (0, wrap64 (a0_1 - 1), (⟨#[]⟩ : ByteArray), ([] : List (S76)), ([] : List (S27)))) else (touchstoneref5_put.j0 k a2 a0_0 a0_1 a0_2 l0_3 l0_4 a1_0 a1_1 a1_2 l1_3 l1_4))) else (touchstoneref5_put.j0 k a2 a0_0 a0_1 a0_2 l0_3 l0_4 a1_0 a1_1 a1_2 l1_3 l1_4)) = some (r1, r2, r3, r4, r5) := h
 clear h
 have HC4 := aS H
 clear H
 go_enter Try.func78, Try.ntmps78
 go_upto_if 11 with (first | ((with_reducible refine gate_dst (N := 3) rfl ?_); refine bx (N := 3) (t := 27) #[.int .i64 a0_0, .int .i64 a0_1, .string a0_2, .slice A0_3 l0_3.length c0_3, .slice A0_4 l0_4.length c0_4] ?_; intro gb181 hg w5 hbox hb; have BK181 := aS (hbox); have GW181 := Gz hg HB; have GE181 := Gz hg HB; replace HB := Hs HB hb; clear hb hbox hg) | ((with_reducible refine gate_dst (N := 4) rfl ?_); refine bx (N := 4) (t := 27) #[.int .i64 a1_0, .int .i64 a1_1, .string a1_2, .slice A1_3 l1_3.length c1_3, .slice A1_4 l1_4.length c1_4] ?_; intro gb182 hg w6 hbox hb; have BK182 := aS (hbox); have GW182 := Gz hg HB; have GE182 := Gz hg HB; replace HB := Hs HB hb; have NB181_182 := aS ((by rw [hg]; exact Nat.ne_of_lt (blk_lt (bkw BK181)) : gb181 ≠ gb182)); have NB182_181 := aS ((by rw [hg]; exact Nat.ne_of_gt (blk_lt (bkw BK181)) : gb182 ≠ gb181)); replace BK181 := Bk BK181 hb; clear hb hbox hg) | ((with_reducible refine gate_dst (N := 6) rfl ?_); refine bx (N := 6) (t := 27) #[.int .i64 0, .int .i64 0, .string (⟨#[]⟩ : ByteArray), .slice none 0 0, .slice none 0 0] ?_; intro gb183 hg w7 hbox hb; have BK183 := aS (hbox); have GW183 := Gz hg HB; have GE183 := Gz hg HB; replace HB := Hs HB hb; have NB181_183 := aS ((by rw [hg]; exact Nat.ne_of_lt (blk_lt (bkw BK181)) : gb181 ≠ gb183)); have NB183_181 := aS ((by rw [hg]; exact Nat.ne_of_gt (blk_lt (bkw BK181)) : gb183 ≠ gb181)); replace BK181 := Bk BK181 hb; have NB182_183 := aS ((by rw [hg]; exact Nat.ne_of_lt (blk_lt (bkw BK182)) : gb182 ≠ gb183)); have NB183_182 := aS ((by rw [hg]; exact Nat.ne_of_gt (blk_lt (bkw BK182)) : gb183 ≠ gb182)); replace BK182 := Bk BK182 hb; clear hb hbox hg; have hnb8 := NB181_182.out; have hnc8 := NB182_181.out; have hnb9 := NB181_183.out; have hnc9 := NB183_181.out; obtain ⟨hcz10_0, hcz10_1, hcz10_2, hcz10_3, hcz10_4⟩ := cl5 BK181; obtain ⟨hfz10_0, hfz10_1, hfz10_2, hfz10_3, hfz10_4⟩ := fz5 BK181))
 (try simp only [Act.put, List.setIfInBounds_toArray, List.set_cons_zero, List.set_cons_succ])
 go_cut [] (fun wc => ∃ (kq : Nat) (x184000_3 : Int) (x184001_3 : Int) (x184002_3 : ByteArray), Aside0 (touchstoneref5_put.j0 kq a2 a0_0 a0_1 a0_2 l0_3 l0_4 a1_0 a1_1 a1_2 l1_3 l1_4 = some (r1, r2, r3, r4, r5)) ∧ Aside0 (kq ≤ k) ∧ Aside0 (wc.heap[gb181]? = some (.cells #[.int .i64 a0_0, .int .i64 a0_1, .string a0_2, (.slice A0_3 l0_3.length c0_3), (.slice A0_4 l0_4.length c0_4)] 27 (0, 0))) ∧ Aside0 (wc.heap[gb182]? = some (.cells #[.int .i64 a1_0, .int .i64 a1_1, .string a1_2, (.slice A1_3 l1_3.length c1_3), (.slice A1_4 l1_4.length c1_4)] 27 (0, 0))) ∧ Aside0 (wc.heap[gb183]? = some (.cells #[.int .i64 x184000_3, .int .i64 x184001_3, .string x184002_3, (.slice none 0 0), (.slice none 0 0)] 27 (0, 0))) ∧ Aside0 (Below w.heap.size w wc))
 case first =>
  have H := HC4.out
  clear HC4
  by_cases c11 : a0_0 = 0
  rotate_left
  ·rw [if_neg c11] at H
   have c11b0 : (a0_0 == 0) = false := beq_eq_false_iff_ne.mpr c11
   have c11b1 : (a0_0 != 0) = true := bne_iff_ne.mpr c11
   (first | rw [c11b0] | (simp only [i64_w, i32_w]; rw [c11b0]) | skip)
   have H' := aS H
   clear H
   go_wp2
   go_meet
   case rel => exact ⟨_, (0), (0), ((⟨#[]⟩ : ByteArray)), H', ⟨by first | omega | exact Nat.le_refl _⟩, ⟨bk BK181.out⟩, ⟨bk BK182.out⟩, ⟨bk BK183.out⟩, ⟨hbk HB⟩⟩
  rw [if_pos c11] at H
  have c11b0 : (a0_0 == 0) = true := beq_iff_eq.mpr c11
  have c11b1 : (a0_0 != 0) = false := bne_eq_false_iff_eq.mpr c11
  clear c11
  (first | rw [c11b0] | (simp only [i64_w, i32_w]; rw [c11b0]) | skip)
  by_cases c12 : a0_1 = a2
  rotate_left
  ·rw [if_neg c12] at H
   have c12b0 : (a0_1 == a2) = false := beq_eq_false_iff_ne.mpr c12
   have c12b1 : (a0_1 != a2) = true := bne_iff_ne.mpr c12
   by_cases c23 : a0_1 > a2
   rotate_left
   ·rw [if_neg c23] at H
    have c23b0 : decide (a2 < a0_1) = false := decide_eq_false c23
    clear c23
    have H' := aS H
    clear H
    have hnb29 := NB181_182.out
    have hnc29 := NB182_181.out
    have hnb30 := NB181_183.out
    have hnc30 := NB183_181.out
    obtain ⟨hcz31_0, hcz31_1, hcz31_2, hcz31_3, hcz31_4⟩ := cl5 BK181
    obtain ⟨hfz31_0, hfz31_1, hfz31_2, hfz31_3, hfz31_4⟩ := fz5 BK181
    go_wp2
    go_meet
    case rel => exact ⟨_, (0), (0), ((⟨#[]⟩ : ByteArray)), H', ⟨by first | omega | exact Nat.le_refl _⟩, ⟨bk BK181.out⟩, ⟨bk BK182.out⟩, ⟨bk BK183.out⟩, ⟨hbk HB⟩⟩
   rw [if_pos c23] at H
   have c23b0 : decide (a2 < a0_1) = true := decide_eq_true c23
   clear c23
   simp only [Option.some.injEq, Prod.mk.injEq] at H
   obtain ⟨rfl, rfl, rfl, rfl, rfl⟩ := H
   have hnb24 := NB181_182.out
   have hnc24 := NB182_181.out
   have hnb25 := NB181_183.out
   have hnc25 := NB183_181.out
   obtain ⟨hcz26_0, hcz26_1, hcz26_2, hcz26_3, hcz26_4⟩ := cl5 BK181
   obtain ⟨hfz26_0, hfz26_1, hfz26_2, hfz26_3, hfz26_4⟩ := fz5 BK181
   have hnb27 := NB183_182.out
   have hnc27 := NB182_183.out
   obtain ⟨hcz28_0, hcz28_1, hcz28_2, hcz28_3, hcz28_4⟩ := cl5 BK183
   obtain ⟨hfz28_0, hfz28_1, hfz28_2, hfz28_3, hfz28_4⟩ := fz5 BK183
   go_wp2
   refine bodyPost_ret (results_cell_row rfl _ _ gb183 27 #[.int .i64 0, .int .i64 (wrap64 (a0_1 - 1)), .string (⟨#[]⟩ : ByteArray), .slice none 0 0, .slice none 0 0] (0, 0) _ rfl (bp5 BK183.out) Try.underlying27 rfl (by kernel_rfl)) rfl ?_
   exact ⟨_, _, by first | rfl | (simp [errW_none, errW_some] <;> rfl) | (simp [*, errW_none, errW_some] <;> rfl), by first | exact Kd.R_nil _ _ _ _ _ | exact Kd.N_nil _ _ _ _ _ | exact Kd.V_nil _ _ _ _ _ | exact Kd.Q_nil _ _ _ _ _ | exact Kd.S_nil _ _ _ _ _, by first | exact Kd.R_nil _ _ _ _ _ | exact Kd.N_nil _ _ _ _ _ | exact Kd.V_nil _ _ _ _ _ | exact Kd.Q_nil _ _ _ _ _ | exact Kd.S_nil _ _ _ _ _, hbk HB⟩
  rw [if_pos c12] at H
  have c12b0 : (a0_1 == a2) = true := beq_iff_eq.mpr c12
  have c12b1 : (a0_1 != a2) = false := bne_eq_false_iff_eq.mpr c12
  clear c12
  replace H := Option.bind_eq_some_iff.mp H
  obtain ⟨⟨t184, t185, t186, t187, t190⟩, A130, H⟩ := H
  try dsimp only at H
  have A13 := aS A130
  clear A130
  simp only [Option.some.injEq, Prod.mk.injEq] at H
  obtain ⟨rfl, rfl, rfl, rfl, rfl⟩ := H
  have hnb14 := NB181_182.out
  have hnc14 := NB182_181.out
  have hnb15 := NB181_183.out
  have hnc15 := NB183_181.out
  obtain ⟨hcz16_0, hcz16_1, hcz16_2, hcz16_3, hcz16_4⟩ := cl5 BK181
  obtain ⟨hfz16_0, hfz16_1, hfz16_2, hfz16_3, hfz16_4⟩ := fz5 BK181
  have hnb17 := NB182_183.out
  have hnc17 := NB183_182.out
  obtain ⟨hcz18_0, hcz18_1, hcz18_2, hcz18_3, hcz18_4⟩ := cl5 BK182
  obtain ⟨hfz18_0, hfz18_1, hfz18_2, hfz18_3, hfz18_4⟩ := fz5 BK182
  go_wp2_with (first | ((with_reducible refine gate_callee (f := 29) rfl ?_); refine goesL_ (some 19) rfl rfl Try.func29 (by kernel_rfl) rfl #[.agg #[.int .i64 a1_0, .int .i64 a1_1, .string a1_2, .slice A1_3 l1_3.length c1_3, .slice A1_4 l1_4.length c1_4], .int .i64 a2, .int .i64 0] rfl bl ?_; (with_reducible refine (touchstoneref5_Lift.calls k a1_0 a1_1 a1_2 _ _ l1_3 _ _ l1_4 a2 0 t184 t185 t186 t187 t190 _ ?side1 ?side2 ?side3 ?side4 A13.out).mono ?_); (case side1 => exact cr (Kd.C_below HR1_3.out HB.out)); (case side2 => exact HC1_3.out); (case side3 => exact cr (Kd.C_below HR1_4.out HB.out)); (case side4 => exact HC1_4.out); rintro e w19 ⟨v188, v191, rfl, ho0, ho1, hb⟩; refine ⟨_, rfl, ?_⟩; have HO189 := aS (Kd.R_lower ho0 (below_size (hbk HB))); have HO192 := aS (Kd.R_lower (Kd.R_newB (Kd.R_newB (Kd.R_newB ho1 (bkw BK181)) (bkw BK182)) (bkw BK183)) (below_size (hbk HB))); replace BK181 := Bk BK181 hb; replace BK182 := Bk BK182 hb; replace BK183 := Bk BK183 hb; replace HB := Hs HB hb; (try clear hb); (try clear hb2); (try clear hk); (try clear hi); (try clear ho0); (try clear ho1); obtain ⟨hcz20_0, hcz20_1, hcz20_2, hcz20_3, hcz20_4⟩ := cl5 BK183; obtain ⟨hfz20_0, hfz20_1, hfz20_2, hfz20_3, hfz20_4⟩ := fz5 BK183; obtain ⟨Ao21, co21, eo21⟩ := Kd.R_slice HO189.out; subst eo21; obtain ⟨Ao22, co22, eo22⟩ := Kd.R_slice HO192.out; subst eo22))
  refine bodyPost_ret (results_cell_row rfl _ _ gb183 27 #[.int .i64 t184, .int .i64 t185, .string t186, .slice Ao21 t187.length co21, .slice Ao22 t190.length co22] (0, 0) _ rfl (bp5 BK183.out) Try.underlying27 rfl (by kernel_rfl)) rfl ?_
  exact ⟨_, _, by first | rfl | (simp [errW_none, errW_some] <;> rfl) | (simp [*, errW_none, errW_some] <;> rfl), by (with_reducible repeat (first | apply Kd.R_alloc | apply Kd.R_drewN | apply Kd.R_drew)); exact Kd.R_mono (R5 (g := gb183) (Kd.R_types HO189.out BK183.out (by decide)) (fun _ hk => hk.2)) (fun _ hk => trivial), by (with_reducible repeat (first | apply Kd.R_alloc | apply Kd.R_drewN | apply Kd.R_drew)); exact Kd.R_mono (R5 (g := gb183) (Kd.R_mono HO192.out (fun k_ hk => (⟨hk, hk.2⟩ : _ ∧ k_ ≠ gb183))) (fun _ hk => hk.2)) (fun _ hk => hk.1.1.1.1), hbk HB⟩
 case rest =>
  clear HC4
  try clear c1
  try clear c2
  try clear p2
  try clear c3
  try clear p6
  try clear c7
  try clear c8
  try clear c9
  try clear c11
  try clear c11b0
  try clear c11b1
  try clear c12
  try clear c12b0
  try clear c12b1
  try clear c14
  try clear c15
  try clear c17
  try clear c23
  try clear c23b0
  try clear c24
  try clear c25
  try clear c27
  try clear c29
  try clear c30
  try clear hcz10_0 hcz10_1 hcz10_2 hcz10_3 hcz10_4
  try clear hcz16_0 hcz16_1 hcz16_2 hcz16_3 hcz16_4
  try clear hcz18_0 hcz18_1 hcz18_2 hcz18_3 hcz18_4
  try clear hcz20_0 hcz20_1 hcz20_2 hcz20_3 hcz20_4
  try clear hcz26_0 hcz26_1 hcz26_2 hcz26_3 hcz26_4
  try clear hcz28_0 hcz28_1 hcz28_2 hcz28_3 hcz28_4
  try clear hcz31_0 hcz31_1 hcz31_2 hcz31_3 hcz31_4
  try clear hfz10_0 hfz10_1 hfz10_2 hfz10_3 hfz10_4
  try clear hfz16_0 hfz16_1 hfz16_2 hfz16_3 hfz16_4
  try clear hfz18_0 hfz18_1 hfz18_2 hfz18_3 hfz18_4
  try clear hfz20_0 hfz20_1 hfz20_2 hfz20_3 hfz20_4
  try clear hfz26_0 hfz26_1 hfz26_2 hfz26_3 hfz26_4
  try clear hfz28_0 hfz28_1 hfz28_2 hfz28_3 hfz28_4
  try clear hfz31_0 hfz31_1 hfz31_2 hfz31_3 hfz31_4
  obtain ⟨kq, x184000_3, x184001_3, x184002_3, HA, HJ3, BK181, BK182, BK183, HB⟩ := hcut
  cases kq with
  | zero => exact absurd HA.out (by simp [touchstoneref5_put.j0])
  | succ kj3 =>
   have H := HA.out
   clear HA
   simp only [touchstoneref5_put.j0] at H
   replace H := Option.bind_eq_some_iff.mp H
   obtain ⟨⟨t193, t194, t195, t196, t199⟩, A320, H⟩ := H
   try dsimp only at H
   have A32 := aS A320
   clear A320
   have H' := aS H
   clear H
   have hnb33 := NB181_182.out
   have hnc33 := NB182_181.out
   have hnb34 := NB181_183.out
   have hnc34 := NB183_181.out
   obtain ⟨hcz35_0, hcz35_1, hcz35_2, hcz35_3, hcz35_4⟩ := cl5 BK181
   obtain ⟨hfz35_0, hfz35_1, hfz35_2, hfz35_3, hfz35_4⟩ := fz5 BK181
   go_wp2_with (first | ((with_reducible refine gate_callee (f := 101) rfl ?_); refine goesL_ (some 30) rfl rfl Try.func101 (by kernel_rfl) rfl #[.agg #[.int .i64 a0_0, .int .i64 a0_1, .string a0_2, .slice A0_3 l0_3.length c0_3, .slice A0_4 l0_4.length c0_4]] rfl bl ?_; (with_reducible refine (touchstoneref5_leaf.calls kj3 a0_0 a0_1 a0_2 _ _ l0_3 _ _ l0_4 t193 t194 t195 t196 t199 _ ?side1 ?side2 ?side3 ?side4 A32.out).mono ?_); (case side1 => exact cr (Kd.C_below HR0_3.out HB.out)); (case side2 => exact HC0_3.out); (case side3 => exact cr (Kd.C_below HR0_4.out HB.out)); (case side4 => exact HC0_4.out); rintro e w36 ⟨v197, v200, rfl, ho0, ho1, hb⟩; refine ⟨_, rfl, ?_⟩; have HO198 := aS (Kd.R_lower ho0 (below_size (hbk HB))); have HO201 := aS (Kd.R_lower (Kd.R_newB (Kd.R_newB (Kd.R_newB ho1 (bkw BK181)) (bkw BK182)) (bkw BK183)) (below_size (hbk HB))); replace BK181 := Bk BK181 hb; replace BK182 := Bk BK182 hb; replace BK183 := Bk BK183 hb; replace HB := Hs HB hb; (try clear hb); (try clear hb2); (try clear hk); (try clear hi); (try clear ho0); (try clear ho1)) | ((with_reducible refine gate_dst (N := 7) rfl ?_); refine bx (N := 7) (t := 27) #[.int .i64 0, .int .i64 0, .string (⟨#[]⟩ : ByteArray), .slice none 0 0, .slice none 0 0] ?_; intro gb202 hg w37 hbox hb; replace HO198 := aS (Kd.R_below (kr_ HO198.out) hb); replace HO201 := aS (Kd.R_below (Kd.R_elderB (kr_ HO201.out) gb202 (Nat.le_of_eq hg.symm)) hb); have BK202 := aS (hbox); have GW202 := Gz hg HB; have GE202 := Gz hg HB; replace HB := Hs HB hb; have NB181_202 := aS ((by rw [hg]; exact Nat.ne_of_lt (blk_lt (bkw BK181)) : gb181 ≠ gb202)); have NB202_181 := aS ((by rw [hg]; exact Nat.ne_of_gt (blk_lt (bkw BK181)) : gb202 ≠ gb181)); replace BK181 := Bk BK181 hb; have NB182_202 := aS ((by rw [hg]; exact Nat.ne_of_lt (blk_lt (bkw BK182)) : gb182 ≠ gb202)); have NB202_182 := aS ((by rw [hg]; exact Nat.ne_of_gt (blk_lt (bkw BK182)) : gb202 ≠ gb182)); replace BK182 := Bk BK182 hb; have NB183_202 := aS ((by rw [hg]; exact Nat.ne_of_lt (blk_lt (bkw BK183)) : gb183 ≠ gb202)); have NB202_183 := aS ((by rw [hg]; exact Nat.ne_of_gt (blk_lt (bkw BK183)) : gb202 ≠ gb183)); replace BK183 := Bk BK183 hb; clear hb hbox hg; have hnb38 := NB202_181.out; have hnc38 := NB181_202.out; have hnb39 := NB202_182.out; have hnc39 := NB182_202.out; have hnb40 := NB202_183.out; have hnc40 := NB183_202.out; obtain ⟨hcz41_0, hcz41_1, hcz41_2, hcz41_3, hcz41_4⟩ := cl5 BK202; obtain ⟨hfz41_0, hfz41_1, hfz41_2, hfz41_3, hfz41_4⟩ := fz5 BK202; obtain ⟨Ao42, co42, eo42⟩ := Kd.R_slice HO198.out; subst eo42; obtain ⟨Ao43, co43, eo43⟩ := Kd.R_slice HO201.out; subst eo43))
   go_loopg [8] kj3 (fun kq v8 w' => ∃ (x8_2 : Int) (x203004_2 : List (S27)) (u203004 : Value), v8 = .int .i64 x8_2 ∧ Aside0 (touchstoneref5_put.l0 kq a2 x8_2 a0_0 a0_1 a0_2 l0_3 l0_4 a1_0 a1_1 a1_2 l1_3 l1_4 t193 t194 t195 t196 x203004_2 = some (r1, r2, r3, r4, r5)) ∧ Aside0 (kq ≤ kj3) ∧ Aside0 (Kd.R k76 76 w' w.heap.size (fun _ => True) (.slice Ao42 t196.length co42) t196) ∧ Aside0 (Kd.R k27 27 w' w.heap.size (fun k_ => some k_ ≠ ((.slice Ao42 t196.length co42) : Value).ownBlock ∧ k_ ≠ gb181 ∧ k_ ≠ gb182 ∧ k_ ≠ gb183 ∧ k_ ≠ gb202) u203004 x203004_2) ∧ Aside0 (w'.heap[gb181]? = some (.cells #[.int .i64 a0_0, .int .i64 a0_1, .string a0_2, (.slice A0_3 l0_3.length c0_3), (.slice A0_4 l0_4.length c0_4)] 27 (0, 0))) ∧ Aside0 (w'.heap[gb182]? = some (.cells #[.int .i64 a1_0, .int .i64 a1_1, .string a1_2, (.slice A1_3 l1_3.length c1_3), (.slice A1_4 l1_4.length c1_4)] 27 (0, 0))) ∧ Aside0 (w'.heap[gb183]? = some (.cells #[.int .i64 x184000_3, .int .i64 x184001_3, .string x184002_3, (.slice none 0 0), (.slice none 0 0)] 27 (0, 0))) ∧ Aside0 (w'.heap[gb202]? = some (.cells #[.int .i64 t193, .int .i64 t194, .string t195, (.slice Ao42 t196.length co42), u203004] 27 (0, 0))) ∧ Aside0 (Below w.heap.size w w'))
   case atStart => exact ⟨(0), (t199), (.slice Ao43 t199.length co43), br, H', ⟨Nat.le_refl _⟩, ⟨by (with_reducible repeat (first | apply Kd.R_alloc | apply Kd.R_drewN | apply Kd.R_drew)); exact Kd.R_mono (R5 (g := gb202) (Kd.R_types HO198.out BK202.out (by decide)) (fun _ hk => hk.2)) (fun _ hk => trivial)⟩, ⟨by (with_reducible repeat (first | apply Kd.R_alloc | apply Kd.R_drewN | apply Kd.R_drew)); exact Kd.R_mono (R5 (g := gb202) (Kd.R_mono HO201.out (fun k_ hk => (⟨hk, hk.2⟩ : _ ∧ k_ ≠ gb202))) (fun _ hk => hk.2)) (fun _ hk => ⟨hk.1.1.1.1.1, ⟨hk.1.1.1.1.2, ⟨hk.1.1.1.2, ⟨hk.1.1.2, hk.1.2⟩⟩⟩⟩)⟩, ⟨bf5 BK181.out NB181_202.out⟩, ⟨bf5 BK182.out NB182_202.out⟩, ⟨bf5 BK183.out NB183_202.out⟩, ⟨bp5 BK202.out⟩, ⟨hbk HB⟩⟩
   case round =>
    clear H'
    try clear c1
    try clear c2
    try clear p2
    try clear c3
    try clear c4
    try clear p6
    try clear c7
    try clear c8
    try clear c9
    try clear c10
    try clear c11
    try clear c11b0
    try clear c11b1
    try clear c12
    try clear c12b0
    try clear c12b1
    try clear c14
    try clear c15
    try clear c17
    try clear c23
    try clear c23b0
    try clear c24
    try clear c25
    try clear c27
    try clear c29
    try clear c30
    try clear c33
    try clear c34
    try clear c38
    try clear c39
    try clear c40
    try clear hcz10_0 hcz10_1 hcz10_2 hcz10_3 hcz10_4
    try clear hcz16_0 hcz16_1 hcz16_2 hcz16_3 hcz16_4
    try clear hcz18_0 hcz18_1 hcz18_2 hcz18_3 hcz18_4
    try clear hcz20_0 hcz20_1 hcz20_2 hcz20_3 hcz20_4
    try clear hcz26_0 hcz26_1 hcz26_2 hcz26_3 hcz26_4
    try clear hcz28_0 hcz28_1 hcz28_2 hcz28_3 hcz28_4
    try clear hcz31_0 hcz31_1 hcz31_2 hcz31_3 hcz31_4
    try clear hcz35_0 hcz35_1 hcz35_2 hcz35_3 hcz35_4
    try clear hcz41_0 hcz41_1 hcz41_2 hcz41_3 hcz41_4
    try clear hfz10_0 hfz10_1 hfz10_2 hfz10_3 hfz10_4
    try clear hfz16_0 hfz16_1 hfz16_2 hfz16_3 hfz16_4
    try clear hfz18_0 hfz18_1 hfz18_2 hfz18_3 hfz18_4
    try clear hfz20_0 hfz20_1 hfz20_2 hfz20_3 hfz20_4
    try clear hfz26_0 hfz26_1 hfz26_2 hfz26_3 hfz26_4
    try clear hfz28_0 hfz28_1 hfz28_2 hfz28_3 hfz28_4
    try clear hfz31_0 hfz31_1 hfz31_2 hfz31_3 hfz31_4
    try clear hfz35_0 hfz35_1 hfz35_2 hfz35_3 hfz35_4
    try clear hfz41_0 hfz41_1 hfz41_2 hfz41_3 hfz41_4
    try clear p2
    try clear p6
    obtain ⟨x8_2, x203004_2, u203004, rfl, HA, HK2, HO_203003, HO_203004, BK181, BK182, BK183, BK202, HB⟩ := hrel
    cases gk with
    | zero => exact absurd HA.out (by simp [touchstoneref5_put.l0])
    | succ k2 =>
     have H := HA.out
     clear HA
     simp only [touchstoneref5_put.l0] at H
     by_cases c44 : x8_2 < (l0_4.length : Int)
     rotate_left
     ·rw [if_neg c44] at H
      have c44b0 : decide (x8_2 < (l0_4.length : Int)) = false := decide_eq_false c44
      clear c44
      simp only [Option.some.injEq, Prod.mk.injEq] at H
      obtain ⟨rfl, rfl, rfl, rfl, rfl⟩ := H
      have hnb60 := NB181_182.out
      have hnc60 := NB182_181.out
      have hnb61 := NB181_183.out
      have hnc61 := NB183_181.out
      have hnb62 := NB181_202.out
      have hnc62 := NB202_181.out
      obtain ⟨hcz63_0, hcz63_1, hcz63_2, hcz63_3, hcz63_4⟩ := cl5 BK181
      obtain ⟨hfz63_0, hfz63_1, hfz63_2, hfz63_3, hfz63_4⟩ := fz5 BK181
      have hnb64 := NB202_182.out
      have hnc64 := NB182_202.out
      have hnb65 := NB202_183.out
      have hnc65 := NB183_202.out
      obtain ⟨hcz66_0, hcz66_1, hcz66_2, hcz66_3, hcz66_4⟩ := cl5 BK202
      obtain ⟨hfz66_0, hfz66_1, hfz66_2, hfz66_3, hfz66_4⟩ := fz5 BK202
      have hnb67 := NB183_182.out
      have hnc67 := NB182_183.out
      obtain ⟨hcz68_0, hcz68_1, hcz68_2, hcz68_3, hcz68_4⟩ := cl5 BK183
      obtain ⟨hfz68_0, hfz68_1, hfz68_2, hfz68_3, hfz68_4⟩ := fz5 BK183
      obtain ⟨Ao69, co69, eo69⟩ := Kd.R_slice HO_203004.out
      subst eo69
      go_wp2
      refine bodyPost_ret (results_cell_row rfl _ _ gb183 27 #[.int .i64 t193, .int .i64 t194, .string t195, .slice Ao42 t196.length co42, .slice Ao69 x203004_2.length co69] (0, 0) _ rfl (bp5 BK183.out) Try.underlying27 rfl (by kernel_rfl)) rfl ?_
      exact ⟨_, _, by first | rfl | (simp [errW_none, errW_some] <;> rfl) | (simp [*, errW_none, errW_some] <;> rfl), by (with_reducible repeat (first | apply Kd.R_alloc | apply Kd.R_drewN | apply Kd.R_drew)); exact Kd.R_mono (R5 (g := gb183) (Kd.R_types HO_203003.out BK183.out (by decide)) (fun _ hk => hk.2)) (fun _ hk => trivial), by (with_reducible repeat (first | apply Kd.R_alloc | apply Kd.R_drewN | apply Kd.R_drew)); exact Kd.R_mono (R5 (g := gb183) (Kd.R_mono HO_203004.out (fun k_ hk => (⟨hk, hk.2.2.2.1⟩ : _ ∧ k_ ≠ gb183))) (fun _ hk => hk.2)) (fun _ hk => hk.1.1), hbk HB⟩
     rw [if_pos c44] at H
     have c44b0 : decide (x8_2 < (l0_4.length : Int)) = true := decide_eq_true c44
     clear c44
     by_cases c45 : 0 ≤ x8_2
     rotate_left
     ·rw [if_neg c45] at H
      exact absurd H (by simp)
     rw [if_pos c45] at H
     have c45b0 : decide (0 ≤ x8_2) = true := decide_eq_true c45
     clear c45
     replace H := Option.bind_eq_some_iff.mp H
     obtain ⟨t204, A460, H⟩ := H
     try dsimp only at H
     have A46 := aS A460
     clear A460
     replace H := Option.bind_eq_some_iff.mp H
     obtain ⟨⟨t205, t206, t207, t208, t211⟩, A470, H⟩ := H
     try dsimp only at H
     have A47 := aS A470
     clear A470
     by_cases c48 : x203004_2.length < 1759218604441
     rotate_left
     ·rw [if_neg c48] at H
      exact absurd H (by simp)
     rw [if_pos c48] at H
     have LMc48 := aS c48
     clear c48
     obtain ⟨y214, hy214⟩ : ∃ y_ : List (S27), y_ = (x203004_2 ++ [(⟨t205, t206, t207, t208, t211⟩ : S27)]) := ⟨_, rfl⟩
     replace H : (touchstoneref5_put.l0 k2 a2 (wrap64 (x8_2 + 1)) a0_0 a0_1 a0_2 l0_3 l0_4 a1_0 a1_1 a1_2 l1_3 l1_4 t193 t194 t195 t196 y214) = some (r1, r2, r3, r4, r5) := by first | (rw [hy214]; with_reducible exact H) | (have H2_ := (Option.bind_some _ _).symm.trans H; rw [hy214]; with_reducible exact H2_) | (have H2_ := (Option.bind_some _ _).symm.trans H; with_reducible exact H2_) | with_reducible exact H | (rw [hy214]; exact H) | exact H
     have Ny214 := aS hy214
     clear hy214
     have H' := aS H
     clear H
     have hnb49 := NB181_182.out
     have hnc49 := NB182_181.out
     have hnb50 := NB181_183.out
     have hnc50 := NB183_181.out
     have hnb51 := NB181_202.out
     have hnc51 := NB202_181.out
     obtain ⟨hcz52_0, hcz52_1, hcz52_2, hcz52_3, hcz52_4⟩ := cl5 BK181
     obtain ⟨hfz52_0, hfz52_1, hfz52_2, hfz52_3, hfz52_4⟩ := fz5 BK181
     try go_wp2
     replace HO_203003 := aS (Kd.R_drew HO_203003.out)
     replace HO_203004 := aS (Kd.R_drew HO_203004.out)
     replace BK181 := aS (blk_drew BK181.out)
     replace BK182 := aS (blk_drew BK182.out)
     replace BK183 := aS (blk_drew BK183.out)
     replace BK202 := aS (blk_drew BK202.out)
     replace HB := aS (below_drew1 HB.out)
     have p203 : 0 ≤ (x8_2 : Int) := of_decide_eq_true ba
     have q203 : x8_2 < (l0_4.length : Int) := of_decide_eq_true ba
     obtain ⟨ad203, A203_3, c203_3, A203_4, c203_4, e203, hx203_0, hx203_1, hx203_2, hx203_3, hx203_4, hl203_3, hi203_3, hl203_4, hi203_4⟩ := at_T27 HR0_4.out x8_2 p203 q203
     have hw203_4 := hx203_4
     have hw203_3 := hx203_3
     have hw203_2 := hx203_2
     have hw203_1 := hx203_1
     have hw203_0 := hx203_0
     cases e203
     replace hx203_0 := (hc HB hx203_0 :)
     replace hx203_1 := (hc HB hx203_1 :)
     replace hx203_2 := (hc HB hx203_2 :)
     replace hx203_3 := (hc HB hx203_3 :)
     replace hx203_4 := (hc HB hx203_4 :)
     have HR203_3 := aS hi203_3
     have HC203_3 := aS hl203_3
     clear hi203_3 hl203_3
     have HR203_4 := aS hi203_4
     have HC203_4 := aS hl203_4
     clear hi203_4 hl203_4
     replace p203 := eq_true p203
     replace q203 := eq_true q203
     refine start_ (n := 19) (S := fun w' => w'.cell? ⟨gb202, 0, none⟩ = some (.int .i64 t193) ∧ w'.cell? ⟨gb202, 1, none⟩ = some (.int .i64 t194) ∧ w'.cell? ⟨gb202, 2, none⟩ = some (.string t195) ∧ w'.cell? ⟨gb202, 3, none⟩ = some (.slice Ao42 t196.length co42) ∧ w'.cell? ⟨gb202, 4, none⟩ = some (u203004) ∧ w'.cell? ⟨gb181, 0, none⟩ = some (.int .i64 a0_0) ∧ w'.cell? ⟨gb181, 1, none⟩ = some (.int .i64 a0_1) ∧ w'.cell? ⟨gb181, 2, none⟩ = some (.string a0_2) ∧ w'.cell? ⟨gb181, 3, none⟩ = some (.slice A0_3 l0_3.length c0_3) ∧ w'.cell? ⟨gb181, 4, none⟩ = some (.slice (some ad203) l0_4.length c0_4) ∧ w'.cell? ⟨gb182, 0, none⟩ = some (.int .i64 a1_0) ∧ w'.cell? ⟨gb182, 1, none⟩ = some (.int .i64 a1_1) ∧ w'.cell? ⟨gb182, 2, none⟩ = some (.string a1_2) ∧ w'.cell? ⟨gb182, 3, none⟩ = some (.slice A1_3 l1_3.length c1_3) ∧ w'.cell? ⟨gb182, 4, none⟩ = some (.slice A1_4 l1_4.length c1_4) ∧ w'.cell? (ad203.add ((x8_2).toNat * 5)) = some (.int .i64 ((rd_T27 l0_4 x8_2).f0)) ∧ w'.cell? ⟨(ad203.add ((x8_2).toNat * 5)).block, (ad203.add ((x8_2).toNat * 5)).off + 1, none⟩ = some (.int .i64 ((rd_T27 l0_4 x8_2).f1)) ∧ w'.cell? ⟨(ad203.add ((x8_2).toNat * 5)).block, (ad203.add ((x8_2).toNat * 5)).off + 2, none⟩ = some (.string ((rd_T27 l0_4 x8_2).f2)) ∧ w'.cell? ⟨(ad203.add ((x8_2).toNat * 5)).block, (ad203.add ((x8_2).toNat * 5)).off + 3, none⟩ = some (.slice A203_3 ((rd_T27 l0_4 x8_2).f3).length c203_3) ∧ w'.cell? ⟨(ad203.add ((x8_2).toNat * 5)).block, (ad203.add ((x8_2).toNat * 5)).off + 4, none⟩ = some (.slice A203_4 ((rd_T27 l0_4 x8_2).f4).length c203_4)) (ds := [18]) #[false, false, false, false, false, false, false, false, false, false, false, false, false, false, false, false, false, false, false] (by kernel_rfl) rfl rfl ⟨cz BK202 0, cz BK202 1, cz BK202 2, cz BK202 3, cz BK202 4, cz BK181 0, cz BK181 1, cz BK181 2, cz BK181 3, cz BK181 4, cz BK182 0, cz BK182 1, cz BK182 2, cz BK182 3, cz BK182 4, (hc HB hw203_0 :), (hc HB hw203_1 :), (hc HB hw203_2 :), (hc HB hw203_3 :), (hc HB hw203_4 :)⟩ (fun hHeld => ?_); refine with_tabW touchstoneref5_put.tab10 touchstoneref5_put.bits10 (fun HT_ HW_ => ?_)
     generalize wr.drew = w53 at HO_203003 HO_203004 BK181 BK182 BK183 BK202 HB HR203_3 HR203_4 hx203_0 hx203_1 hx203_2 hx203_3 hx203_4 hHeld ⊢
     refine pu 0 38 (bA 19 1) HT_ rfl rfl ?_
     refine pu 2 40 (bA 19 5) HT_ rfl rfl ?_
     refine pu 4 42 (bA 19 21) HT_ rfl rfl ?_
     refine pu 8 46 (bA 19 277) HT_ rfl rfl ?_
     refine pu 9 47 (bA 19 789) HT_ rfl rfl ?_
     refine pu 11 49 (bA 19 2837) HT_ rfl rfl ?_
     refine ta 1 39 (bA 19 2839) HT_ HW_ rfl rfl hHeld ?_
     refine ta 3 41 (bA 19 2847) HT_ HW_ rfl rfl hHeld ?_
     refine pu 5 43 (bA 19 2879) HT_ rfl rfl ?_
     refine ta 6 44 (bA 19 2943) HT_ HW_ rfl rfl hHeld ?_
     refine ta 7 45 (bA 19 3071) HT_ HW_ rfl rfl hHeld ?_
     refine ta 10 48 (bA 19 4095) HT_ HW_ rfl rfl hHeld ?_
     refine one_ (i := 12) (N := some 50) (bA 19 8191) rfl rfl (one_of HT_.out (by kernel_rfl)) (by decide) (fun K hK => ?_)
     refine goes_ Try.func107 (by kernel_rfl) rfl #[.int .i64 a0_0, .int .i64 x8_2] (by rfl) rfl rfl bl ?_
     with_reducible refine (touchstoneref5_Binds.calls a0_0 x8_2 t204 _ A46.out).mono ?_
     rintro e w' ⟨rfl, ⟨nd, rfl⟩⟩
     refine ⟨_, rfl, ?_⟩
     refine hK.out _ _ ⟨cz BK202 0, cz BK202 1, cz BK202 2, cz BK202 3, cz BK202 4, cz BK181 0, cz BK181 1, cz BK181 2, cz BK181 3, cz BK181 4, cz BK182 0, cz BK182 1, cz BK182 2, cz BK182 3, cz BK182 4, (hc HB hw203_0 :), (hc HB hw203_1 :), (hc HB hw203_2 :), (hc HB hw203_3 :), (hc HB hw203_4 :)⟩ (fun hHeld => ?_)
     clear hK K
     refine norm_ ap ?_
     refine pu 13 51 (bA 19 16383) HT_ rfl rfl ?_
     refine one_ (i := 14) (N := some 52) (bA 19 32767) rfl rfl (one_of HT_.out (by kernel_rfl)) (by decide) (fun K hK => ?_)
     refine goes_ Try.func78 (by kernel_rfl) rfl #[.agg #[.int .i64 ((rd_T27 l0_4 x8_2).f0), .int .i64 ((rd_T27 l0_4 x8_2).f1), .string ((rd_T27 l0_4 x8_2).f2), .slice A203_3 ((rd_T27 l0_4 x8_2).f3).length c203_3, .slice A203_4 ((rd_T27 l0_4 x8_2).f4).length c203_4], .agg #[.int .i64 a1_0, .int .i64 a1_1, .string a1_2, .slice A1_3 l1_3.length c1_3, .slice A1_4 l1_4.length c1_4], .int .i64 (wrap64 (a2 + t204))] (by rfl) rfl rfl bl ?_
     with_reducible refine (ih k2 (by have := HJ3.out; have := HK2.out; omega) ((rd_T27 l0_4 x8_2).f0) ((rd_T27 l0_4 x8_2).f1) ((rd_T27 l0_4 x8_2).f2) _ _ ((rd_T27 l0_4 x8_2).f3) _ _ ((rd_T27 l0_4 x8_2).f4) a1_0 a1_1 a1_2 _ _ l1_3 _ _ l1_4 (wrap64 (a2 + t204)) t205 t206 t207 t208 t211 _ ?side1 ?side2 ?side3 ?side4 ?side5 ?side6 ?side7 ?side8 A47.out).mono ?_
     (case side1 => exact cr (Kd.C_below HR203_3.out (hbk HB)))
     (case side2 => exact HC203_3.out)
     (case side3 => exact cr (Kd.C_below HR203_4.out (hbk HB)))
     (case side4 => exact HC203_4.out)
     (case side5 => exact cr (Kd.C_below HR1_3.out (hbk HB)))
     (case side6 => exact HC1_3.out)
     (case side7 => exact cr (Kd.C_below HR1_4.out (hbk HB)))
     (case side8 => exact HC1_4.out)
     rintro e w54 ⟨v209, v212, rfl, ho0, ho1, hb⟩
     refine ⟨_, rfl, ?_⟩
     have HO210 := aS (Kd.R_lower (Kd.R_new' ho0 (Kd.R_lt (kr_ HO_203003.out))) (below_size (hbk HB)))
     have HO213 := aS (Kd.R_lower (Kd.R_newB (Kd.R_newB (Kd.R_newB (Kd.R_newB (Kd.R_new' (Kd.R_new' ho1 (Kd.R_lt (kr_ HO_203003.out))) (Kd.R_lt (kr_ HO_203004.out))) (bkw BK181)) (bkw BK182)) (bkw BK183)) (bkw BK202)) (below_size (hbk HB)))
     replace HO_203003 := aS (Kd.R_elder' (kr_ HO_203003.out) (Kd.R_base ho0) hb)
     replace HO_203004 := aS (Kd.R_mono (Kd.R_told (Kd.R_told (Kd.R_old (kr_ HO_203004.out) hb) (Kd.R_base ho0)) (Kd.R_base ho1)) (fun _ h_ => h_.1))
     replace BK181 := Bk BK181 hb
     replace BK182 := Bk BK182 hb
     replace BK183 := Bk BK183 hb
     replace BK202 := Bk BK202 hb
     replace HB := Hs HB hb
     (try clear hb)
     (try clear hb2)
     (try clear hk)
     (try clear hi)
     (try clear ho0)
     (try clear ho1)
     obtain ⟨Ao56, co56, eo56⟩ := Kd.R_slice HO210.out
     (first | subst eo56 | (injection eo56 with f1_ f2_ f3_; have f4_ := f1_.symm; have f5_ := f3_.symm; clear f1_ f2_ f3_; subst f4_; subst f5_))
     obtain ⟨Ao57, co57, eo57⟩ := Kd.R_slice HO213.out
     (first | subst eo57 | (injection eo57 with f1_ f2_ f3_; have f4_ := f1_.symm; have f5_ := f3_.symm; clear f1_ f2_ f3_; subst f4_; subst f5_))
     refine hK.out _ _ ⟨cz BK202 0, cz BK202 1, cz BK202 2, cz BK202 3, cz BK202 4, cz BK181 0, cz BK181 1, cz BK181 2, cz BK181 3, cz BK181 4, cz BK182 0, cz BK182 1, cz BK182 2, cz BK182 3, cz BK182 4, (hc HB hw203_0 :), (hc HB hw203_1 :), (hc HB hw203_2 :), (hc HB hw203_3 :), (hc HB hw203_4 :)⟩ (fun hHeld => ?_)
     clear hK K
     refine norm_ ap ?_
     refine one_ (i := 15) (N := some 53) (bA 19 65535) rfl rfl (one_of HT_.out (by kernel_rfl)) (by decide) (fun K hK => ?_)
     refine value_ (w1 := ?_) (v := ?_) (by rfl) rfl ?_ ?_
     rotate_left 2
     ·go_simp
      constructor
      ·rfl
      ·rfl
     refine hK.out _ _ ⟨(blk_cell (blk_alloc BK202.out _) 0).trans rfl, (blk_cell (blk_alloc BK202.out _) 1).trans rfl, (blk_cell (blk_alloc BK202.out _) 2).trans rfl, (blk_cell (blk_alloc BK202.out _) 3).trans rfl, (blk_cell (blk_alloc BK202.out _) 4).trans rfl, (blk_cell (blk_alloc BK181.out _) 0).trans rfl, (blk_cell (blk_alloc BK181.out _) 1).trans rfl, (blk_cell (blk_alloc BK181.out _) 2).trans rfl, (blk_cell (blk_alloc BK181.out _) 3).trans rfl, (blk_cell (blk_alloc BK181.out _) 4).trans rfl, (blk_cell (blk_alloc BK182.out _) 0).trans rfl, (blk_cell (blk_alloc BK182.out _) 1).trans rfl, (blk_cell (blk_alloc BK182.out _) 2).trans rfl, (blk_cell (blk_alloc BK182.out _) 3).trans rfl, (blk_cell (blk_alloc BK182.out _) 4).trans rfl, (World.cell?_alloc_lt _ _ _ (World.block_lt_of_cell? _ _ ((hc HB hw203_0 :)))).trans ((hc HB hw203_0 :)), (World.cell?_alloc_lt _ _ _ (World.block_lt_of_cell? _ _ ((hc HB hw203_1 :)))).trans ((hc HB hw203_1 :)), (World.cell?_alloc_lt _ _ _ (World.block_lt_of_cell? _ _ ((hc HB hw203_2 :)))).trans ((hc HB hw203_2 :)), (World.cell?_alloc_lt _ _ _ (World.block_lt_of_cell? _ _ ((hc HB hw203_3 :)))).trans ((hc HB hw203_3 :)), (World.cell?_alloc_lt _ _ _ (World.block_lt_of_cell? _ _ ((hc HB hw203_4 :)))).trans ((hc HB hw203_4 :))⟩ (fun hHeld => ?_)
     clear hK K
     refine norm_ ap ?_
     refine one_ (i := 16) (N := some 54) (bA 19 131071) rfl rfl (one_of HT_.out (by kernel_rfl)) (by decide) (fun K hK => ?_)
     refine Kd.R_append_step k27 (w0 := w) w.heap.size (by rfl) (.tmp 39) (.tmp 53) 23 27 (.agg #[(.int .i64 0), (.int .i64 0), (.string ⟨#[]⟩), (.slice none 0 0), (.slice none 0 0)]) 80 rfl Try.underlying23 info27 rfl (by decide) (by omega) u203004 x203004_2 (⟨t205, t206, t207, t208, t211⟩ : S27) [.int .i64 t205, .int .i64 t206, .string t207, .slice Ao56 t208.length co56, .slice Ao57 t211.length co57] (fun k_ => some k_ ≠ (.slice Ao42 t196.length co42 : Value).ownBlock ∧ k_ ≠ gb181 ∧ k_ ≠ gb182 ∧ k_ ≠ gb183 ∧ k_ ≠ gb202) (fun k_ => ((fun k_ => some k_ ≠ (.slice Ao42 t196.length co42 : Value).ownBlock ∧ k_ ≠ gb181 ∧ k_ ≠ gb182 ∧ k_ ≠ gb183 ∧ k_ ≠ gb202)) k_ ∧ some k_ ≠ (u203004 : Value).ownBlock) rfl rfl ?aP (fun _ hk => hk) ?aF ?aO ?aB ?aS ?aL ?_
     (case aP => exact k27_mkM _ _ _ (⟨t205, t206, t207, t208, t211⟩ : S27) (Kd.R_mono (Kd.R_types (Kd.R_types (Kd.R_types (Kd.R_types (Kd.R_apart' (HO210.out) (Kd.R_typed HO_203004.out) (by decide)) BK181.out (by decide)) BK182.out (by decide)) BK183.out (by decide)) BK202.out (by decide)) (fun k_ hk => ⟨⟨hk.1.1.1.1.1.2, ⟨hk.1.1.1.2, ⟨hk.1.1.2, ⟨hk.1.2, hk.2⟩⟩⟩⟩, hk.1.1.1.1.2⟩)) (Kd.R_mono (HO213.out) (fun k_ hk => ⟨⟨hk.1.1.1.1.1.2, ⟨hk.1.1.1.2, ⟨hk.1.1.2, ⟨hk.1.2, hk.2⟩⟩⟩⟩, hk.1.1.1.1.2⟩)))
     (case aB => exact (hbk HB))
     (case aF => exact (fun k_ hk => ⟨Kd.fresh' (Kd.R_lt (kr_ HO_203003.out)) k_ hk, Kd.freshB (bkw BK181) k_ hk, Kd.freshB (bkw BK182) k_ hk, Kd.freshB (bkw BK183) k_ hk, Kd.freshB (bkw BK202) k_ hk⟩))
     (case aO => exact (by (with_reducible repeat (first | apply Kd.R_alloc | apply Kd.R_drewN | apply Kd.R_drew)); exact Kd.R_mono HO_203004.out (fun _ hk => ⟨hk.1.1.1, ⟨hk.1.1.2.1, ⟨hk.1.1.2.2.1, ⟨hk.1.1.2.2.2.1, hk.1.1.2.2.2.2⟩⟩⟩⟩)))
     (case aS => exact (below_size (hbk HB)))
     (case aL => have := LMc48.out; omega)
     intro v215 w55 ho hb hg hat
     rw [← Ny214.out] at ho
     replace HO_203003 := aS (Kd.R_over' (kr_ HO_203003.out) (Kd.R_typed (kr_ HO_203004.out)) (by decide) hg)
     replace BK181 := aS (blk_grown (bkw BK181) hg (Kd.R_away HO_203004.out (fun _ hk => hk.1.1.2.1)))
     replace BK182 := aS (blk_grown (bkw BK182) hg (Kd.R_away HO_203004.out (fun _ hk => hk.1.1.2.2.1)))
     replace BK183 := aS (blk_grown (bkw BK183) hg (Kd.R_away HO_203004.out (fun _ hk => hk.1.1.2.2.2.1)))
     replace BK202 := aS (blk_grown (bkw BK202) hg (Kd.R_away HO_203004.out (fun _ hk => hk.1.1.2.2.2.2)))
     replace HB := aS (hb)
     have HO216 := aS (ho)
     clear HO_203004 HO210 HO213
     clear ho hb hg hat
     obtain ⟨Ao58, co58, eo58⟩ := Kd.R_slice HO216.out
     (first | subst eo58 | (injection eo58 with f1_ f2_ f3_; have f4_ := f1_.symm; have f5_ := f3_.symm; clear f1_ f2_ f3_; subst f4_; subst f5_))
     refine hK.out _ _ ⟨cz BK202 0, cz BK202 1, cz BK202 2, cz BK202 3, cz BK202 4, cz BK181 0, cz BK181 1, cz BK181 2, cz BK181 3, cz BK181 4, cz BK182 0, cz BK182 1, cz BK182 2, cz BK182 3, cz BK182 4, (hc HB hw203_0 :), (hc HB hw203_1 :), (hc HB hw203_2 :), (hc HB hw203_3 :), (hc HB hw203_4 :)⟩ (fun hHeld => ?_)
     clear hK K
     refine norm_ ap ?_
     refine pu 17 55 (bA 19 262143) HT_ rfl rfl ?_
     refine last_ (i := 18) (N := none) (bA 19 524287) rfl rfl (one_of HT_.out (by kernel_rfl)) (by decide) (fun K hK => ?_)
     have hs59 : w55.cell? ⟨gb202, 4, none⟩ = some (u203004) := cz BK202 4
     have hfs59 := blk_frozen BK202.out 4
     have hns59_0 := NB181_202.out
     have hns59_1 := NB182_202.out
     have hns59_2 := NB183_202.out
     have hms59_0 := NB202_181.out
     have hms59_1 := NB202_182.out
     have hms59_2 := NB202_183.out
     refine skip_ (w1 := ?_) (by rfl) rfl ?_ ?_
     rotate_left
     ·go_simp
      rfl
     refine hK.out _ _ ?_
     clear hK K
     refine done_ (done_of HT_.out (by kernel_rfl)) ?_
     try go_wp2
     go_roundg k2
     case measure => have := HJ3.out; have := HK2.out; omega
     case rel => exact ⟨(wrap64 (x8_2 + 1)), (y214), (.slice Ao58 y214.length co58), br, H', ⟨by have := HJ3.out; have := HK2.out; omega⟩, ⟨by (with_reducible repeat (first | apply Kd.R_alloc | apply Kd.R_drewN | apply Kd.R_drew)); exact Kd.R_mono (Kd.R_far (p := ⟨gb202, 4, none⟩) (Kd.R_types HO_203003.out BK202.out (by decide)) (fun _ hk => hk.2) (.slice Ao58 y214.length co58)) (fun _ hk => trivial)⟩, ⟨by (with_reducible repeat (first | apply Kd.R_alloc | apply Kd.R_drewN | apply Kd.R_drew)); exact Kd.R_mono (Kd.R_far (p := ⟨gb202, 4, none⟩) (Kd.R_mono HO216.out (fun k_ hk => (⟨hk, hk.2.2.2.2⟩ : _ ∧ k_ ≠ gb202))) (fun _ hk => hk.2) (.slice Ao58 y214.length co58)) (fun _ hk => ⟨hk.1.1, ⟨hk.1.2.1, ⟨hk.1.2.2.1, ⟨hk.1.2.2.2.1, hk.1.2.2.2.2⟩⟩⟩⟩)⟩, ⟨by (with_reducible repeat (first | refine blk_drewN ?_ _ | refine blk_drew ?_ | refine blk_alloc ?_ _)); refine blk_far ?_ NB181_202.out _; (with_reducible repeat (first | refine blk_drewN ?_ _ | refine blk_drew ?_ | refine blk_alloc ?_ _)); exact BK181.out⟩, ⟨by (with_reducible repeat (first | refine blk_drewN ?_ _ | refine blk_drew ?_ | refine blk_alloc ?_ _)); refine blk_far ?_ NB182_202.out _; (with_reducible repeat (first | refine blk_drewN ?_ _ | refine blk_drew ?_ | refine blk_alloc ?_ _)); exact BK182.out⟩, ⟨by (with_reducible repeat (first | refine blk_drewN ?_ _ | refine blk_drew ?_ | refine blk_alloc ?_ _)); refine blk_far ?_ NB183_202.out _; (with_reducible repeat (first | refine blk_drewN ?_ _ | refine blk_drew ?_ | refine blk_alloc ?_ _)); exact BK183.out⟩, ⟨by (with_reducible repeat (first | refine blk_drewN ?_ _ | refine blk_drew ?_ | refine blk_alloc ?_ _)); refine blk_put (cs := #[.int .i64 t193, .int .i64 t194, .string t195, .slice Ao42 t196.length co42, u203004]) ?_ 4 _ rfl; (with_reducible repeat (first | refine blk_drewN ?_ _ | refine blk_drew ?_ | refine blk_alloc ?_ _)); exact BK202.out⟩, ⟨hbk HB⟩⟩
end Go.Proofs.Ytpejhapgffcngaa.QK

