/- Words and walks of this claim. -/
import Derived.Test.YtpejhapgffcngaaXShort
import Derived.Test.YtpejhapgffcngaaQKApart
import Derived.Test.YtpejhapgffcngaaQKx1
namespace Go.Proofs.Ytpejhapgffcngaa.QK
open Go.RowKit Go.Proofs.YtpejhapgffcngaaW.PrintWords Go.Proofs.YtpejhapgffcngaaW.PrintLast Go.Proofs.YtpejhapgffcngaaW.PrintMore
attribute [local go_sem] max2_int min2_int max_two min_two max_three min_three max_four min_four
set_option linter.unusedVariables false
set_option linter.unusedSimpArgs false
mutual
def touchstoneref5_Equal.j0 : Nat → Bool → Int → Int → ByteArray → List (S76) → List (S27) → Int → Int → ByteArray → List (S76) → List (S27) → Option (Bool)
 | 0, _, _, _, _, _, _, _, _, _, _, _ => none
 | k + 1, x43, x107000, x107001, x107002, x107003, x107004, x108000, x108001, x108002, x108003, x108004 => if x43 = true then (some false) else (touchstoneref5_Equal.l0 k 0 x107000 x107001 x107002 x107003 x107004 x108000 x108001 x108002 x108003 x108004)
def touchstoneref5_Equal.l0 : Nat → Int → Int → Int → ByteArray → List (S76) → List (S27) → Int → Int → ByteArray → List (S76) → List (S27) → Option (Bool)
 | 0, _, _, _, _, _, _, _, _, _, _, _ => none
 | k + 1, x5, x107000, x107001, x107002, x107003, x107004, x108000, x108001, x108002, x108003, x108004 => if x5 < (x107003.length : Int) then (if 0 ≤ x5 then (if x5 < (x108003.length : Int) then ((touchstoneref4_Equal.f k ((rd_T76 x107003 x5).f0) ((rd_T76 x107003 x5).f1) ((rd_T76 x107003 x5).f2) ((rd_T76 x108003 x5).f0) ((rd_T76 x108003 x5).f1) ((rd_T76 x108003 x5).f2)).bind fun t110 => (if t110 = true then (touchstoneref5_Equal.l0 k (wrap64 (x5 + 1)) x107000 x107001 x107002 x107003 x107004 x108000 x108001 x108002 x108003 x108004) else (some false))) else (none)) else (none)) else (touchstoneref5_Equal.l1 k 0 x107000 x107001 x107002 x107003 x107004 x108000 x108001 x108002 x108003 x108004)
def touchstoneref5_Equal.l1 : Nat → Int → Int → Int → ByteArray → List (S76) → List (S27) → Int → Int → ByteArray → List (S76) → List (S27) → Option (Bool)
 | 0, _, _, _, _, _, _, _, _, _, _, _ => none
 | k + 1, x6, x107000, x107001, x107002, x107003, x107004, x108000, x108001, x108002, x108003, x108004 => if x6 < (x107004.length : Int) then (if 0 ≤ x6 then (if x6 < (x108004.length : Int) then ((touchstoneref5_Equal.f k ((rd_T27 x107004 x6).f0) ((rd_T27 x107004 x6).f1) ((rd_T27 x107004 x6).f2) ((rd_T27 x107004 x6).f3) ((rd_T27 x107004 x6).f4) ((rd_T27 x108004 x6).f0) ((rd_T27 x108004 x6).f1) ((rd_T27 x108004 x6).f2) ((rd_T27 x108004 x6).f3) ((rd_T27 x108004 x6).f4)).bind fun t113 => (if t113 = true then (touchstoneref5_Equal.l1 k (wrap64 (x6 + 1)) x107000 x107001 x107002 x107003 x107004 x108000 x108001 x108002 x108003 x108004) else (some false))) else (none)) else (none)) else (some true)
def touchstoneref5_Equal.f : Nat → Int → Int → ByteArray → List (S76) → List (S27) → Int → Int → ByteArray → List (S76) → List (S27) → Option (Bool)
 | 0, _, _, _, _, _, _, _, _, _, _ => none
 | k + 1, a0_0, a0_1, a0_2, l0_3, l0_4, a1_0, a1_1, a1_2, l1_3, l1_4 => if a0_0 = a1_0 then (if a0_1 = a1_1 then (if a0_2.toList = a1_2.toList then (if (l0_3.length : Int) = (l1_3.length : Int) then (touchstoneref5_Equal.j0 k ((l0_4.length : Int) != (l1_4.length : Int)) a0_0 a0_1 a0_2 l0_3 l0_4 a1_0 a1_1 a1_2 l1_3 l1_4) else (touchstoneref5_Equal.j0 k true a0_0 a0_1 a0_2 l0_3 l0_4 a1_0 a1_1 a1_2 l1_3 l1_4)) else (touchstoneref5_Equal.j0 k true a0_0 a0_1 a0_2 l0_3 l0_4 a1_0 a1_1 a1_2 l1_3 l1_4)) else (touchstoneref5_Equal.j0 k true a0_0 a0_1 a0_2 l0_3 l0_4 a1_0 a1_1 a1_2 l1_3 l1_4)) else (touchstoneref5_Equal.j0 k true a0_0 a0_1 a0_2 l0_3 l0_4 a1_0 a1_1 a1_2 l1_3 l1_4)
end
def touchstoneref5_Equal.T6 : Bool × List (List Nat × List Nat) := (true, [([], []), ([0], [0]), ([], []), ([1, 2], [1, 2]), ([3], [3]), ([], []), ([5], [5]), ([], []), ([6, 7], [6, 7]), ([8], [8]), ([4, 9], [4, 9]), ([10], [10])])
def touchstoneref5_Equal.B6 : List Nat := [0, 1, 0, 7, 15, 0, 32, 0, 224, 480, 1023, 2047]
theorem touchstoneref5_Equal.tab6 : rtab .any (opsOf Try.f23 6) = touchstoneref5_Equal.T6 := by kernel_rfl
theorem touchstoneref5_Equal.bits6 : waitsOk touchstoneref5_Equal.T6.2 touchstoneref5_Equal.B6 = true := by kernel_rfl
def touchstoneref5_Equal.T11 : Bool × List (List Nat × List Nat) := (true, [([], []), ([0], [0]), ([], []), ([1, 2], [1, 2]), ([3], [3]), ([], []), ([5], [5]), ([], []), ([6, 7], [6, 7]), ([8], [8]), ([4, 9], [4, 9]), ([10], [10])])
def touchstoneref5_Equal.B11 : List Nat := [0, 1, 0, 7, 15, 0, 32, 0, 224, 480, 1023, 2047]
theorem touchstoneref5_Equal.tab11 : rtab .any (opsOf Try.f23 11) = touchstoneref5_Equal.T11 := by kernel_rfl
theorem touchstoneref5_Equal.bits11 : waitsOk touchstoneref5_Equal.T11.2 touchstoneref5_Equal.B11 = true := by kernel_rfl
set_option maxHeartbeats 8000000 in
set_option maxRecDepth 100000 in
theorem touchstoneref5_Equal.calls (k : Nat) : ∀ (a0_0 : Int) (a0_1 : Int) (a0_2 : ByteArray) (A0_3 : Option Addr) (c0_3 : Nat) (l0_3 : List (S76)) (A0_4 : Option Addr) (c0_4 : Nat) (l0_4 : List (S27)) (a1_0 : Int) (a1_1 : Int) (a1_2 : ByteArray) (A1_3 : Option Addr) (c1_3 : Nat) (l1_3 : List (S76)) (A1_4 : Option Addr) (c1_4 : Nat) (l1_4 : List (S27)) (r : Bool) (w : World) (hr0_3 : Kd.C k76 w A0_3 l0_3.length l0_3) (hc0_3 : l0_3.length ≤ c0_3) (hr0_4 : Kd.C k27 w A0_4 l0_4.length l0_4) (hc0_4 : l0_4.length ≤ c0_4) (hr1_3 : Kd.C k76 w A1_3 l1_3.length l1_3) (hc1_3 : l1_3.length ≤ c1_3) (hr1_4 : Kd.C k27 w A1_4 l1_4.length l1_4) (hc1_4 : l1_4.length ≤ c1_4) (h : touchstoneref5_Equal.f k a0_0 a0_1 a0_2 l0_3 l0_4 a1_0 a1_1 a1_2 l1_3 l1_4 = some r),
  Calls Try.prog 23 #[.agg #[.int .i64 a0_0, .int .i64 a0_1, .string a0_2, .slice A0_3 l0_3.length c0_3, .slice A0_4 l0_4.length c0_4], .agg #[.int .i64 a1_0, .int .i64 a1_1, .string a1_2, .slice A1_3 l1_3.length c1_3, .slice A1_4 l1_4.length c1_4]] w fun e w' => e = .returned (.bool r) ∧ Below w.heap.size w w' := by
 induction k using Nat.strongRecOn with
 | _ k ih =>
 intro a0_0 a0_1 a0_2 A0_3 c0_3 l0_3 A0_4 c0_4 l0_4 a1_0 a1_1 a1_2 A1_3 c1_3 l1_3 A1_4 c1_4 l1_4 r w hr0_3 hc0_3 hr0_4 hc0_4 hr1_3 hc1_3 hr1_4 hc1_4 h
 cases k with
 | zero => exact absurd h (by simp [touchstoneref5_Equal.f])
 | succ k =>
 simp only [touchstoneref5_Equal.f] at h
 have hu27 := Try.underlying27
 have hu76 := Try.underlying76
 have HR0_3 := aS hr0_3
 have HC0_3 := aS hc0_3
 clear hr0_3 hc0_3
 have HR0_4 := aS hr0_4
 have HC0_4 := aS hc0_4
 clear hr0_4 hc0_4
 have HR1_3 := aS hr1_3
 have HC1_3 := aS hc1_3
 clear hr1_3 hc1_3
 have HR1_4 := aS hr1_4
 have HC1_4 := aS hc1_4
 clear hr1_4 hc1_4
 have HB := aS (Below.refl w.heap.size w)
 have H : (if a0_0 = a1_0 then (if a0_1 = a1_1 then (if a0_2.toList = a1_2.toList then (if (l0_3.length : Int) = (l1_3.length : Int) then (touchstoneref5_Equal.j0 k ((l0_4.length : Int) != (l1_4.length : Int)) a0_0 a0_1 a0_2 l0_3 l0_4 a1_0 a1_1 a1_2 l1_3 l1_4) else (touchstoneref5_Equal.j0 k true a0_0 a0_1 a0_2 l0_3 l0_4 a1_0 a1_1 a1_2 l1_3 l1_4)) else (touchstoneref5_Equal.j0 k true a0_0 a0_1 a0_2 l0_3 l0_4 a1_0 a1_1 a1_2 l1_3 l1_4)) else (touchstoneref5_Equal.j0 k true a0_0 a0_1 a0_2 l0_3 l0_4 a1_0 a1_1 a1_2 l1_3 l1_4)) else (touchstoneref5_Equal.j0 k true a0_0 a0_1 a0_2 l0_3 l0_4 a1_0 a1_1 a1_2 l1_3 l1_4)) = some r := h
 clear h
 have HC3 := aS H
 clear H
 go_enter Try.func23, Try.ntmps23
 go_upto_region 1 with (first | ((with_reducible refine gate_dst (N := 2) rfl ?_); (try (refine gate_guard (by rfl) ?_; dsimp only)); refine bx (N := 2) (t := 27) #[.int .i64 a0_0, .int .i64 a0_1, .string a0_2, .slice A0_3 l0_3.length c0_3, .slice A0_4 l0_4.length c0_4] ?_; intro gb106 hg w4 hbox hb; have BK106 := aS (hbox); have GW106 := Gz hg HB; have GE106 := Gz hg HB; replace HB := Hs HB hb; clear hb hbox hg) | ((with_reducible refine gate_dst (N := 3) rfl ?_); (try (refine gate_guard (by rfl) ?_; dsimp only)); refine bx (N := 3) (t := 27) #[.int .i64 a1_0, .int .i64 a1_1, .string a1_2, .slice A1_3 l1_3.length c1_3, .slice A1_4 l1_4.length c1_4] ?_; intro gb107 hg w5 hbox hb; have BK107 := aS (hbox); have GW107 := Gz hg HB; have GE107 := Gz hg HB; replace HB := Hs HB hb; have NB106_107 := aS ((by rw [hg]; exact Nat.ne_of_lt (blk_lt (bkw BK106)) : gb106 ≠ gb107)); have NB107_106 := aS ((by rw [hg]; exact Nat.ne_of_gt (blk_lt (bkw BK106)) : gb107 ≠ gb106)); replace BK106 := Bk BK106 hb; clear hb hbox hg))
 (try simp only [Act.put, List.setIfInBounds_toArray, List.set_cons_zero, List.set_cons_succ])
 go_cut [43] (fun v43 wc => ∃ (kq : Nat) (x43_2 : Bool), v43 = .bool x43_2 ∧ Aside0 (touchstoneref5_Equal.j0 kq x43_2 a0_0 a0_1 a0_2 l0_3 l0_4 a1_0 a1_1 a1_2 l1_3 l1_4 = some r) ∧ Aside0 (kq ≤ k) ∧ Aside0 (wc.heap[gb106]? = some (.cells #[.int .i64 a0_0, .int .i64 a0_1, .string a0_2, (.slice A0_3 l0_3.length c0_3), (.slice A0_4 l0_4.length c0_4)] 27 (0, 0))) ∧ Aside0 (wc.heap[gb107]? = some (.cells #[.int .i64 a1_0, .int .i64 a1_1, .string a1_2, (.slice A1_3 l1_3.length c1_3), (.slice A1_4 l1_4.length c1_4)] 27 (0, 0))) ∧ Aside0 (Below w.heap.size w wc))
 case first =>
  have H := HC3.out
  clear HC3
  by_cases c6 : a0_0 = a1_0
  rotate_left
  ·rw [if_neg c6] at H
   have c6b0 : (a0_0 == a1_0) = false := beq_eq_false_iff_ne.mpr c6
   have c6b1 : (a0_0 != a1_0) = true := bne_iff_ne.mpr c6
   (first | rw [c6b0] | (simp only [i64_w, i32_w]; rw [c6b0]) | skip)
   have H' := aS H
   clear H
   have hnb22 := NB106_107.out
   have hnc22 := NB107_106.out
   obtain ⟨hcz23_0, hcz23_1, hcz23_2, hcz23_3, hcz23_4⟩ := cl5 BK106
   obtain ⟨hfz23_0, hfz23_1, hfz23_2, hfz23_3, hfz23_4⟩ := fz5 BK106
   obtain ⟨hcz24_0, hcz24_1, hcz24_2, hcz24_3, hcz24_4⟩ := cl5 BK107
   obtain ⟨hfz24_0, hfz24_1, hfz24_2, hfz24_3, hfz24_4⟩ := fz5 BK107
   go_wp2
   go_meet
   case rel => exact ⟨_, (true), br, H', ⟨by first | omega | exact Nat.le_refl _⟩, ⟨bk BK106.out⟩, ⟨bk BK107.out⟩, ⟨hbk HB⟩⟩
  rw [if_pos c6] at H
  have c6b0 : (a0_0 == a1_0) = true := beq_iff_eq.mpr c6
  have c6b1 : (a0_0 != a1_0) = false := bne_eq_false_iff_eq.mpr c6
  clear c6
  (first | rw [c6b0] | (simp only [i64_w, i32_w]; rw [c6b0]) | skip)
  by_cases c7 : a0_1 = a1_1
  rotate_left
  ·rw [if_neg c7] at H
   have c7b0 : (a0_1 == a1_1) = false := beq_eq_false_iff_ne.mpr c7
   have c7b1 : (a0_1 != a1_1) = true := bne_iff_ne.mpr c7
   have H' := aS H
   clear H
   have hnb19 := NB106_107.out
   have hnc19 := NB107_106.out
   obtain ⟨hcz20_0, hcz20_1, hcz20_2, hcz20_3, hcz20_4⟩ := cl5 BK106
   obtain ⟨hfz20_0, hfz20_1, hfz20_2, hfz20_3, hfz20_4⟩ := fz5 BK106
   obtain ⟨hcz21_0, hcz21_1, hcz21_2, hcz21_3, hcz21_4⟩ := cl5 BK107
   obtain ⟨hfz21_0, hfz21_1, hfz21_2, hfz21_3, hfz21_4⟩ := fz5 BK107
   go_wp2
   go_meet
   case rel => exact ⟨_, (true), br, H', ⟨by first | omega | exact Nat.le_refl _⟩, ⟨bk BK106.out⟩, ⟨bk BK107.out⟩, ⟨hbk HB⟩⟩
  rw [if_pos c7] at H
  have c7b0 : (a0_1 == a1_1) = true := beq_iff_eq.mpr c7
  have c7b1 : (a0_1 != a1_1) = false := bne_eq_false_iff_eq.mpr c7
  clear c7
  by_cases c8 : a0_2.toList = a1_2.toList
  rotate_left
  ·rw [if_neg c8] at H
   have c8b0 : (a0_2.toList == a1_2.toList) = false := beq_eq_false_iff_ne.mpr c8
   have c8b1 : (a0_2.toList != a1_2.toList) = true := bne_iff_ne.mpr c8
   have H' := aS H
   clear H
   have hnb16 := NB106_107.out
   have hnc16 := NB107_106.out
   obtain ⟨hcz17_0, hcz17_1, hcz17_2, hcz17_3, hcz17_4⟩ := cl5 BK106
   obtain ⟨hfz17_0, hfz17_1, hfz17_2, hfz17_3, hfz17_4⟩ := fz5 BK106
   obtain ⟨hcz18_0, hcz18_1, hcz18_2, hcz18_3, hcz18_4⟩ := cl5 BK107
   obtain ⟨hfz18_0, hfz18_1, hfz18_2, hfz18_3, hfz18_4⟩ := fz5 BK107
   go_wp2
   go_meet
   case rel => exact ⟨_, (true), br, H', ⟨by first | omega | exact Nat.le_refl _⟩, ⟨bk BK106.out⟩, ⟨bk BK107.out⟩, ⟨hbk HB⟩⟩
  rw [if_pos c8] at H
  have c8b0 : (a0_2.toList == a1_2.toList) = true := beq_iff_eq.mpr c8
  have c8b1 : (a0_2.toList != a1_2.toList) = false := bne_eq_false_iff_eq.mpr c8
  clear c8
  by_cases c9 : (l0_3.length : Int) = (l1_3.length : Int)
  rotate_left
  ·rw [if_neg c9] at H
   have c9b0 : ((l0_3.length : Int) == (l1_3.length : Int)) = false := beq_eq_false_iff_ne.mpr c9
   have c9b1 : ((l0_3.length : Int) != (l1_3.length : Int)) = true := bne_iff_ne.mpr c9
   have c9b2 : (l0_3.length == l1_3.length) = false := by first | simpa using c9 | (simp at c9 ⊢; omega)
   have H' := aS H
   clear H
   have hnb13 := NB106_107.out
   have hnc13 := NB107_106.out
   obtain ⟨hcz14_0, hcz14_1, hcz14_2, hcz14_3, hcz14_4⟩ := cl5 BK106
   obtain ⟨hfz14_0, hfz14_1, hfz14_2, hfz14_3, hfz14_4⟩ := fz5 BK106
   obtain ⟨hcz15_0, hcz15_1, hcz15_2, hcz15_3, hcz15_4⟩ := cl5 BK107
   obtain ⟨hfz15_0, hfz15_1, hfz15_2, hfz15_3, hfz15_4⟩ := fz5 BK107
   go_wp2
   go_meet
   case rel => exact ⟨_, (true), br, H', ⟨by first | omega | exact Nat.le_refl _⟩, ⟨bk BK106.out⟩, ⟨bk BK107.out⟩, ⟨hbk HB⟩⟩
  rw [if_pos c9] at H
  have c9b0 : ((l0_3.length : Int) == (l1_3.length : Int)) = true := beq_iff_eq.mpr c9
  have c9b1 : ((l0_3.length : Int) != (l1_3.length : Int)) = false := bne_eq_false_iff_eq.mpr c9
  have c9b2 : (l0_3.length == l1_3.length) = true := by first | simpa using c9 | (simp at c9 ⊢; omega)
  clear c9
  have H' := aS H
  clear H
  have hnb10 := NB106_107.out
  have hnc10 := NB107_106.out
  obtain ⟨hcz11_0, hcz11_1, hcz11_2, hcz11_3, hcz11_4⟩ := cl5 BK106
  obtain ⟨hfz11_0, hfz11_1, hfz11_2, hfz11_3, hfz11_4⟩ := fz5 BK106
  obtain ⟨hcz12_0, hcz12_1, hcz12_2, hcz12_3, hcz12_4⟩ := cl5 BK107
  obtain ⟨hfz12_0, hfz12_1, hfz12_2, hfz12_3, hfz12_4⟩ := fz5 BK107
  go_wp2
  go_meet
  case rel => exact ⟨_, (((l0_4.length : Int) != (l1_4.length : Int))), br, H', ⟨by first | omega | exact Nat.le_refl _⟩, ⟨bk BK106.out⟩, ⟨bk BK107.out⟩, ⟨hbk HB⟩⟩
 case rest =>
  clear HC3
  try clear c1
  try clear c2
  try clear p2
  try clear c6
  try clear c6b0
  try clear c6b1
  try clear c7
  try clear c7b0
  try clear c7b1
  try clear c8
  try clear c8b0
  try clear c8b1
  try clear c9
  try clear c9b0
  try clear c9b1
  try clear c9b2
  try clear c10
  try clear c13
  try clear c16
  try clear c19
  try clear c22
  try clear c23
  try clear hcz11_0 hcz11_1 hcz11_2 hcz11_3 hcz11_4
  try clear hcz12_0 hcz12_1 hcz12_2 hcz12_3 hcz12_4
  try clear hcz14_0 hcz14_1 hcz14_2 hcz14_3 hcz14_4
  try clear hcz15_0 hcz15_1 hcz15_2 hcz15_3 hcz15_4
  try clear hcz17_0 hcz17_1 hcz17_2 hcz17_3 hcz17_4
  try clear hcz18_0 hcz18_1 hcz18_2 hcz18_3 hcz18_4
  try clear hcz20_0 hcz20_1 hcz20_2 hcz20_3 hcz20_4
  try clear hcz21_0 hcz21_1 hcz21_2 hcz21_3 hcz21_4
  try clear hcz23_0 hcz23_1 hcz23_2 hcz23_3 hcz23_4
  try clear hcz24_0 hcz24_1 hcz24_2 hcz24_3 hcz24_4
  try clear hfz11_0 hfz11_1 hfz11_2 hfz11_3 hfz11_4
  try clear hfz12_0 hfz12_1 hfz12_2 hfz12_3 hfz12_4
  try clear hfz14_0 hfz14_1 hfz14_2 hfz14_3 hfz14_4
  try clear hfz15_0 hfz15_1 hfz15_2 hfz15_3 hfz15_4
  try clear hfz17_0 hfz17_1 hfz17_2 hfz17_3 hfz17_4
  try clear hfz18_0 hfz18_1 hfz18_2 hfz18_3 hfz18_4
  try clear hfz20_0 hfz20_1 hfz20_2 hfz20_3 hfz20_4
  try clear hfz21_0 hfz21_1 hfz21_2 hfz21_3 hfz21_4
  try clear hfz23_0 hfz23_1 hfz23_2 hfz23_3 hfz23_4
  try clear hfz24_0 hfz24_1 hfz24_2 hfz24_3 hfz24_4
  obtain ⟨kq, x43_2, rfl, HA, HJ2, BK106, BK107, HB⟩ := hcut
  cases kq with
  | zero => exact absurd HA.out (by simp [touchstoneref5_Equal.j0])
  | succ kj2 =>
   have H := HA.out
   clear HA
   simp only [touchstoneref5_Equal.j0] at H
   by_cases c25 : x43_2 = true
   ·subst c25
    have H1 : (some false) = some r := by rw [if_pos rfl] at H; exact H
    clear H
    have H := H1
    clear H1
    obtain rfl := Option.some.inj H
    go_wp2
    go_ret
    exact ⟨by first | rfl | (simp [errW_none, errW_some] <;> rfl) | (simp [*, errW_none, errW_some] <;> rfl), hbk HB⟩
   replace c25 := Bool.eq_false_iff.mpr c25
   subst c25
   have H1 : (touchstoneref5_Equal.l0 kj2 0 a0_0 a0_1 a0_2 l0_3 l0_4 a1_0 a1_1 a1_2 l1_3 l1_4) = some r := by rw [if_neg (show ¬ (false = true) by decide)] at H; exact H
   clear H
   have H := H1
   clear H1
   have H' := aS H
   clear H
   go_wp2
   go_loopg [5] kj2 (fun kq v5 w' => ∃ (x5_2 : Int), v5 = .int .i64 x5_2 ∧ Aside0 (touchstoneref5_Equal.l0 kq x5_2 a0_0 a0_1 a0_2 l0_3 l0_4 a1_0 a1_1 a1_2 l1_3 l1_4 = some r) ∧ Aside0 (kq ≤ kj2) ∧ Aside0 (w'.heap[gb106]? = some (.cells #[.int .i64 a0_0, .int .i64 a0_1, .string a0_2, (.slice A0_3 l0_3.length c0_3), (.slice A0_4 l0_4.length c0_4)] 27 (0, 0))) ∧ Aside0 (w'.heap[gb107]? = some (.cells #[.int .i64 a1_0, .int .i64 a1_1, .string a1_2, (.slice A1_3 l1_3.length c1_3), (.slice A1_4 l1_4.length c1_4)] 27 (0, 0))) ∧ Aside0 (Below w.heap.size w w'))
   case atStart => exact ⟨(0), br, H', ⟨Nat.le_refl _⟩, ⟨bk BK106.out⟩, ⟨bk BK107.out⟩, ⟨hbk HB⟩⟩
   case round =>
    clear H'
    try clear c1
    try clear c2
    try clear p2
    try clear c6
    try clear c6b0
    try clear c6b1
    try clear c7
    try clear c7b0
    try clear c7b1
    try clear c8
    try clear c8b0
    try clear c8b1
    try clear c9
    try clear c9b0
    try clear c9b1
    try clear c9b2
    try clear c10
    try clear c13
    try clear c16
    try clear c19
    try clear c22
    try clear c23
    try clear c25
    try clear hcz11_0 hcz11_1 hcz11_2 hcz11_3 hcz11_4
    try clear hcz12_0 hcz12_1 hcz12_2 hcz12_3 hcz12_4
    try clear hcz14_0 hcz14_1 hcz14_2 hcz14_3 hcz14_4
    try clear hcz15_0 hcz15_1 hcz15_2 hcz15_3 hcz15_4
    try clear hcz17_0 hcz17_1 hcz17_2 hcz17_3 hcz17_4
    try clear hcz18_0 hcz18_1 hcz18_2 hcz18_3 hcz18_4
    try clear hcz20_0 hcz20_1 hcz20_2 hcz20_3 hcz20_4
    try clear hcz21_0 hcz21_1 hcz21_2 hcz21_3 hcz21_4
    try clear hcz23_0 hcz23_1 hcz23_2 hcz23_3 hcz23_4
    try clear hcz24_0 hcz24_1 hcz24_2 hcz24_3 hcz24_4
    try clear hfz11_0 hfz11_1 hfz11_2 hfz11_3 hfz11_4
    try clear hfz12_0 hfz12_1 hfz12_2 hfz12_3 hfz12_4
    try clear hfz14_0 hfz14_1 hfz14_2 hfz14_3 hfz14_4
    try clear hfz15_0 hfz15_1 hfz15_2 hfz15_3 hfz15_4
    try clear hfz17_0 hfz17_1 hfz17_2 hfz17_3 hfz17_4
    try clear hfz18_0 hfz18_1 hfz18_2 hfz18_3 hfz18_4
    try clear hfz20_0 hfz20_1 hfz20_2 hfz20_3 hfz20_4
    try clear hfz21_0 hfz21_1 hfz21_2 hfz21_3 hfz21_4
    try clear hfz23_0 hfz23_1 hfz23_2 hfz23_3 hfz23_4
    try clear hfz24_0 hfz24_1 hfz24_2 hfz24_3 hfz24_4
    try clear p2
    obtain ⟨x5_2, rfl, HA, HK2, BK106, BK107, HB⟩ := hrel
    cases gk with
    | zero => exact absurd HA.out (by simp [touchstoneref5_Equal.l0])
    | succ k2 =>
     have H := HA.out
     clear HA
     simp only [touchstoneref5_Equal.l0] at H
     by_cases c26 : x5_2 < (l0_3.length : Int)
     ·rw [if_pos c26] at H
      have c26b0 : decide (x5_2 < (l0_3.length : Int)) = true := decide_eq_true c26
      clear c26
      by_cases c27 : 0 ≤ x5_2
      rotate_left
      ·rw [if_neg c27] at H
       exact absurd H (by simp)
      rw [if_pos c27] at H
      have c27b0 : decide (0 ≤ x5_2) = true := decide_eq_true c27
      clear c27
      by_cases c28 : x5_2 < (l1_3.length : Int)
      rotate_left
      ·rw [if_neg c28] at H
       exact absurd H (by simp)
      rw [if_pos c28] at H
      have c28b0 : decide (x5_2 < (l1_3.length : Int)) = true := decide_eq_true c28
      clear c28
      replace H := Option.bind_eq_some_iff.mp H
      obtain ⟨t110, A290, H⟩ := H
      try dsimp only at H
      have A29 := aS A290
      clear A290
      by_cases c30 : t110 = true
      rotate_left
      ·replace c30 := Bool.eq_false_iff.mpr c30
       subst c30
       have H1 : (some false) = some r := by rw [if_neg (show ¬ (false = true) by decide)] at H; exact H
       clear H
       have H := H1
       clear H1
       obtain rfl := Option.some.inj H
       have hnb35 := NB106_107.out
       have hnc35 := NB107_106.out
       obtain ⟨hcz36_0, hcz36_1, hcz36_2, hcz36_3, hcz36_4⟩ := cl5 BK106
       obtain ⟨hfz36_0, hfz36_1, hfz36_2, hfz36_3, hfz36_4⟩ := fz5 BK106
       try go_wp2
       replace BK106 := aS (blk_drew BK106.out)
       replace BK107 := aS (blk_drew BK107.out)
       replace HB := aS (below_drew1 HB.out)
       have p108 : 0 ≤ (x5_2 : Int) := of_decide_eq_true ba
       have q108 : x5_2 < (l0_3.length : Int) := of_decide_eq_true ba
       obtain ⟨ad108, A108_2, c108_2, e108, hx108_0, hx108_1, hx108_2, hl108_2, hi108_2⟩ := at_T76 HR0_3.out x5_2 p108 q108
       have hw108_2 := hx108_2
       have hw108_1 := hx108_1
       have hw108_0 := hx108_0
       cases e108
       replace hx108_0 := (hc HB hx108_0 :)
       replace hx108_1 := (hc HB hx108_1 :)
       replace hx108_2 := (hc HB hx108_2 :)
       have HR108_2 := aS hi108_2
       have HC108_2 := aS hl108_2
       clear hi108_2 hl108_2
       replace p108 := eq_true p108
       replace q108 := eq_true q108
       have p109 : 0 ≤ (x5_2 : Int) := of_decide_eq_true ba
       have q109 : x5_2 < (l1_3.length : Int) := of_decide_eq_true ba
       obtain ⟨ad109, A109_2, c109_2, e109, hx109_0, hx109_1, hx109_2, hl109_2, hi109_2⟩ := at_T76 HR1_3.out x5_2 p109 q109
       have hw109_2 := hx109_2
       have hw109_1 := hx109_1
       have hw109_0 := hx109_0
       cases e109
       replace hx109_0 := (hc HB hx109_0 :)
       replace hx109_1 := (hc HB hx109_1 :)
       replace hx109_2 := (hc HB hx109_2 :)
       have HR109_2 := aS hi109_2
       have HC109_2 := aS hl109_2
       clear hi109_2 hl109_2
       replace p109 := eq_true p109
       replace q109 := eq_true q109
       refine start_ (n := 12) (S := fun w' => w'.cell? ⟨gb106, 0, none⟩ = some (.int .i64 a0_0) ∧ w'.cell? ⟨gb106, 1, none⟩ = some (.int .i64 a0_1) ∧ w'.cell? ⟨gb106, 2, none⟩ = some (.string a0_2) ∧ w'.cell? ⟨gb106, 3, none⟩ = some (.slice (some ad108) l0_3.length c0_3) ∧ w'.cell? ⟨gb106, 4, none⟩ = some (.slice A0_4 l0_4.length c0_4) ∧ w'.cell? ⟨gb107, 0, none⟩ = some (.int .i64 a1_0) ∧ w'.cell? ⟨gb107, 1, none⟩ = some (.int .i64 a1_1) ∧ w'.cell? ⟨gb107, 2, none⟩ = some (.string a1_2) ∧ w'.cell? ⟨gb107, 3, none⟩ = some (.slice (some ad109) l1_3.length c1_3) ∧ w'.cell? ⟨gb107, 4, none⟩ = some (.slice A1_4 l1_4.length c1_4) ∧ w'.cell? (ad108.add ((x5_2).toNat * 3)) = some (.int .i64 ((rd_T76 l0_3 x5_2).f0)) ∧ w'.cell? ⟨(ad108.add ((x5_2).toNat * 3)).block, (ad108.add ((x5_2).toNat * 3)).off + 1, none⟩ = some (.int .i64 ((rd_T76 l0_3 x5_2).f1)) ∧ w'.cell? ⟨(ad108.add ((x5_2).toNat * 3)).block, (ad108.add ((x5_2).toNat * 3)).off + 2, none⟩ = some (.slice A108_2 ((rd_T76 l0_3 x5_2).f2).length c108_2) ∧ w'.cell? (ad109.add ((x5_2).toNat * 3)) = some (.int .i64 ((rd_T76 l1_3 x5_2).f0)) ∧ w'.cell? ⟨(ad109.add ((x5_2).toNat * 3)).block, (ad109.add ((x5_2).toNat * 3)).off + 1, none⟩ = some (.int .i64 ((rd_T76 l1_3 x5_2).f1)) ∧ w'.cell? ⟨(ad109.add ((x5_2).toNat * 3)).block, (ad109.add ((x5_2).toNat * 3)).off + 2, none⟩ = some (.slice A109_2 ((rd_T76 l1_3 x5_2).f2).length c109_2)) (ds := []) #[false, false, false, false, false, false, false, false, false, false, false, false] (by kernel_rfl) rfl rfl ⟨cz BK106 0, cz BK106 1, cz BK106 2, cz BK106 3, cz BK106 4, cz BK107 0, cz BK107 1, cz BK107 2, cz BK107 3, cz BK107 4, (hc HB hw108_0 :), (hc HB hw108_1 :), (hc HB hw108_2 :), (hc HB hw109_0 :), (hc HB hw109_1 :), (hc HB hw109_2 :)⟩ (fun hHeld => ?_); refine with_tabW touchstoneref5_Equal.tab6 touchstoneref5_Equal.bits6 (fun HT_ HW_ => ?_)
       generalize wr.drew = w37 at BK106 BK107 HB HR108_2 HR109_2 hx108_0 hx108_1 hx108_2 hx109_0 hx109_1 hx109_2 hHeld ⊢
       refine pu 0 51 (bA 12 1) HT_ rfl rfl ?_
       refine pu 2 53 (bA 12 5) HT_ rfl rfl ?_
       refine pu 5 56 (bA 12 37) HT_ rfl rfl ?_
       refine pu 7 58 (bA 12 165) HT_ rfl rfl ?_
       refine ta 1 52 (bA 12 167) HT_ HW_ rfl rfl hHeld ?_
       refine pu 3 54 (bA 12 175) HT_ rfl rfl ?_
       refine ta 4 55 (bA 12 191) HT_ HW_ rfl rfl hHeld ?_
       refine ta 6 57 (bA 12 255) HT_ HW_ rfl rfl hHeld ?_
       refine pu 8 59 (bA 12 511) HT_ rfl rfl ?_
       refine ta 9 60 (bA 12 1023) HT_ HW_ rfl rfl hHeld ?_
       refine one_ (i := 10) (N := some 61) (bA 12 2047) rfl rfl (one_of HT_.out (by kernel_rfl)) (by decide) (fun K hK => ?_)
       refine goes_ Try.func75 (by kernel_rfl) rfl #[.agg #[.int .i64 ((rd_T76 l0_3 x5_2).f0), .int .i64 ((rd_T76 l0_3 x5_2).f1), .slice A108_2 ((rd_T76 l0_3 x5_2).f2).length c108_2], .agg #[.int .i64 ((rd_T76 l1_3 x5_2).f0), .int .i64 ((rd_T76 l1_3 x5_2).f1), .slice A109_2 ((rd_T76 l1_3 x5_2).f2).length c109_2]] (by rfl) rfl rfl bl ?_
       with_reducible refine (touchstoneref4_Equal.calls k2 ((rd_T76 l0_3 x5_2).f0) ((rd_T76 l0_3 x5_2).f1) _ _ ((rd_T76 l0_3 x5_2).f2) ((rd_T76 l1_3 x5_2).f0) ((rd_T76 l1_3 x5_2).f1) _ _ ((rd_T76 l1_3 x5_2).f2) false _ ?side1 ?side2 ?side3 ?side4 A29.out).mono ?_
       (case side1 => exact cr (Kd.C_below HR108_2.out HB.out))
       (case side2 => exact HC108_2.out)
       (case side3 => exact cr (Kd.C_below HR109_2.out HB.out))
       (case side4 => exact HC109_2.out)
       rintro e w38 ⟨rfl, hb⟩
       refine ⟨_, rfl, ?_⟩
       replace BK106 := Bk BK106 hb
       replace BK107 := Bk BK107 hb
       replace HB := Hs HB hb
       (try clear hb)
       (try clear hb2)
       (try clear hk)
       (try clear hi)
       refine hK.out _ _ ⟨cz BK106 0, cz BK106 1, cz BK106 2, cz BK106 3, cz BK106 4, cz BK107 0, cz BK107 1, cz BK107 2, cz BK107 3, cz BK107 4, (hc HB hw108_0 :), (hc HB hw108_1 :), (hc HB hw108_2 :), (hc HB hw109_0 :), (hc HB hw109_1 :), (hc HB hw109_2 :)⟩ (fun hHeld => ?_)
       clear hK K
       refine norm_ ap ?_
       refine pu 11 62 (bA 12 4095) HT_ rfl rfl ?_
       refine done_ (done_of HT_.out (by kernel_rfl)) ?_
       try go_wp2
       go_ret
       exact ⟨by first | rfl | (simp [errW_none, errW_some] <;> rfl) | (simp [*, errW_none, errW_some] <;> rfl), hbk HB⟩
      subst c30
      have H1 : (touchstoneref5_Equal.l0 k2 (wrap64 (x5_2 + 1)) a0_0 a0_1 a0_2 l0_3 l0_4 a1_0 a1_1 a1_2 l1_3 l1_4) = some r := by rw [if_pos rfl] at H; exact H
      clear H
      have H := H1
      clear H1
      have H' := aS H
      clear H
      have hnb31 := NB106_107.out
      have hnc31 := NB107_106.out
      obtain ⟨hcz32_0, hcz32_1, hcz32_2, hcz32_3, hcz32_4⟩ := cl5 BK106
      obtain ⟨hfz32_0, hfz32_1, hfz32_2, hfz32_3, hfz32_4⟩ := fz5 BK106
      try go_wp2
      replace BK106 := aS (blk_drew BK106.out)
      replace BK107 := aS (blk_drew BK107.out)
      replace HB := aS (below_drew1 HB.out)
      have p108 : 0 ≤ (x5_2 : Int) := of_decide_eq_true ba
      have q108 : x5_2 < (l0_3.length : Int) := of_decide_eq_true ba
      obtain ⟨ad108, A108_2, c108_2, e108, hx108_0, hx108_1, hx108_2, hl108_2, hi108_2⟩ := at_T76 HR0_3.out x5_2 p108 q108
      have hw108_2 := hx108_2
      have hw108_1 := hx108_1
      have hw108_0 := hx108_0
      cases e108
      replace hx108_0 := (hc HB hx108_0 :)
      replace hx108_1 := (hc HB hx108_1 :)
      replace hx108_2 := (hc HB hx108_2 :)
      have HR108_2 := aS hi108_2
      have HC108_2 := aS hl108_2
      clear hi108_2 hl108_2
      replace p108 := eq_true p108
      replace q108 := eq_true q108
      have p109 : 0 ≤ (x5_2 : Int) := of_decide_eq_true ba
      have q109 : x5_2 < (l1_3.length : Int) := of_decide_eq_true ba
      obtain ⟨ad109, A109_2, c109_2, e109, hx109_0, hx109_1, hx109_2, hl109_2, hi109_2⟩ := at_T76 HR1_3.out x5_2 p109 q109
      have hw109_2 := hx109_2
      have hw109_1 := hx109_1
      have hw109_0 := hx109_0
      cases e109
      replace hx109_0 := (hc HB hx109_0 :)
      replace hx109_1 := (hc HB hx109_1 :)
      replace hx109_2 := (hc HB hx109_2 :)
      have HR109_2 := aS hi109_2
      have HC109_2 := aS hl109_2
      clear hi109_2 hl109_2
      replace p109 := eq_true p109
      replace q109 := eq_true q109
      refine start_ (n := 12) (S := fun w' => w'.cell? ⟨gb106, 0, none⟩ = some (.int .i64 a0_0) ∧ w'.cell? ⟨gb106, 1, none⟩ = some (.int .i64 a0_1) ∧ w'.cell? ⟨gb106, 2, none⟩ = some (.string a0_2) ∧ w'.cell? ⟨gb106, 3, none⟩ = some (.slice (some ad108) l0_3.length c0_3) ∧ w'.cell? ⟨gb106, 4, none⟩ = some (.slice A0_4 l0_4.length c0_4) ∧ w'.cell? ⟨gb107, 0, none⟩ = some (.int .i64 a1_0) ∧ w'.cell? ⟨gb107, 1, none⟩ = some (.int .i64 a1_1) ∧ w'.cell? ⟨gb107, 2, none⟩ = some (.string a1_2) ∧ w'.cell? ⟨gb107, 3, none⟩ = some (.slice (some ad109) l1_3.length c1_3) ∧ w'.cell? ⟨gb107, 4, none⟩ = some (.slice A1_4 l1_4.length c1_4) ∧ w'.cell? (ad108.add ((x5_2).toNat * 3)) = some (.int .i64 ((rd_T76 l0_3 x5_2).f0)) ∧ w'.cell? ⟨(ad108.add ((x5_2).toNat * 3)).block, (ad108.add ((x5_2).toNat * 3)).off + 1, none⟩ = some (.int .i64 ((rd_T76 l0_3 x5_2).f1)) ∧ w'.cell? ⟨(ad108.add ((x5_2).toNat * 3)).block, (ad108.add ((x5_2).toNat * 3)).off + 2, none⟩ = some (.slice A108_2 ((rd_T76 l0_3 x5_2).f2).length c108_2) ∧ w'.cell? (ad109.add ((x5_2).toNat * 3)) = some (.int .i64 ((rd_T76 l1_3 x5_2).f0)) ∧ w'.cell? ⟨(ad109.add ((x5_2).toNat * 3)).block, (ad109.add ((x5_2).toNat * 3)).off + 1, none⟩ = some (.int .i64 ((rd_T76 l1_3 x5_2).f1)) ∧ w'.cell? ⟨(ad109.add ((x5_2).toNat * 3)).block, (ad109.add ((x5_2).toNat * 3)).off + 2, none⟩ = some (.slice A109_2 ((rd_T76 l1_3 x5_2).f2).length c109_2)) (ds := []) #[false, false, false, false, false, false, false, false, false, false, false, false] (by kernel_rfl) rfl rfl ⟨cz BK106 0, cz BK106 1, cz BK106 2, cz BK106 3, cz BK106 4, cz BK107 0, cz BK107 1, cz BK107 2, cz BK107 3, cz BK107 4, (hc HB hw108_0 :), (hc HB hw108_1 :), (hc HB hw108_2 :), (hc HB hw109_0 :), (hc HB hw109_1 :), (hc HB hw109_2 :)⟩ (fun hHeld => ?_); refine with_tabW touchstoneref5_Equal.tab6 touchstoneref5_Equal.bits6 (fun HT_ HW_ => ?_)
      generalize wr.drew = w33 at BK106 BK107 HB HR108_2 HR109_2 hx108_0 hx108_1 hx108_2 hx109_0 hx109_1 hx109_2 hHeld ⊢
      refine pu 0 51 (bA 12 1) HT_ rfl rfl ?_
      refine pu 2 53 (bA 12 5) HT_ rfl rfl ?_
      refine pu 5 56 (bA 12 37) HT_ rfl rfl ?_
      refine pu 7 58 (bA 12 165) HT_ rfl rfl ?_
      refine ta 1 52 (bA 12 167) HT_ HW_ rfl rfl hHeld ?_
      refine pu 3 54 (bA 12 175) HT_ rfl rfl ?_
      refine ta 4 55 (bA 12 191) HT_ HW_ rfl rfl hHeld ?_
      refine ta 6 57 (bA 12 255) HT_ HW_ rfl rfl hHeld ?_
      refine pu 8 59 (bA 12 511) HT_ rfl rfl ?_
      refine ta 9 60 (bA 12 1023) HT_ HW_ rfl rfl hHeld ?_
      refine one_ (i := 10) (N := some 61) (bA 12 2047) rfl rfl (one_of HT_.out (by kernel_rfl)) (by decide) (fun K hK => ?_)
      refine goes_ Try.func75 (by kernel_rfl) rfl #[.agg #[.int .i64 ((rd_T76 l0_3 x5_2).f0), .int .i64 ((rd_T76 l0_3 x5_2).f1), .slice A108_2 ((rd_T76 l0_3 x5_2).f2).length c108_2], .agg #[.int .i64 ((rd_T76 l1_3 x5_2).f0), .int .i64 ((rd_T76 l1_3 x5_2).f1), .slice A109_2 ((rd_T76 l1_3 x5_2).f2).length c109_2]] (by rfl) rfl rfl bl ?_
      with_reducible refine (touchstoneref4_Equal.calls k2 ((rd_T76 l0_3 x5_2).f0) ((rd_T76 l0_3 x5_2).f1) _ _ ((rd_T76 l0_3 x5_2).f2) ((rd_T76 l1_3 x5_2).f0) ((rd_T76 l1_3 x5_2).f1) _ _ ((rd_T76 l1_3 x5_2).f2) true _ ?side1 ?side2 ?side3 ?side4 A29.out).mono ?_
      (case side1 => exact cr (Kd.C_below HR108_2.out HB.out))
      (case side2 => exact HC108_2.out)
      (case side3 => exact cr (Kd.C_below HR109_2.out HB.out))
      (case side4 => exact HC109_2.out)
      rintro e w34 ⟨rfl, hb⟩
      refine ⟨_, rfl, ?_⟩
      replace BK106 := Bk BK106 hb
      replace BK107 := Bk BK107 hb
      replace HB := Hs HB hb
      (try clear hb)
      (try clear hb2)
      (try clear hk)
      (try clear hi)
      refine hK.out _ _ ⟨cz BK106 0, cz BK106 1, cz BK106 2, cz BK106 3, cz BK106 4, cz BK107 0, cz BK107 1, cz BK107 2, cz BK107 3, cz BK107 4, (hc HB hw108_0 :), (hc HB hw108_1 :), (hc HB hw108_2 :), (hc HB hw109_0 :), (hc HB hw109_1 :), (hc HB hw109_2 :)⟩ (fun hHeld => ?_)
      clear hK K
      refine norm_ ap ?_
      refine pu 11 62 (bA 12 4095) HT_ rfl rfl ?_
      refine done_ (done_of HT_.out (by kernel_rfl)) ?_
      try go_wp2
      go_roundg k2
      case measure => have := HJ2.out; have := HK2.out; omega
      case rel => exact ⟨(wrap64 (x5_2 + 1)), br, H', ⟨by have := HJ2.out; have := HK2.out; omega⟩, ⟨bk BK106.out⟩, ⟨bk BK107.out⟩, ⟨hbk HB⟩⟩
     rw [if_neg c26] at H
     have c26b0 : decide (x5_2 < (l0_3.length : Int)) = false := decide_eq_false c26
     clear c26
     have H' := aS H
     clear H
     have hnb39 := NB106_107.out
     have hnc39 := NB107_106.out
     obtain ⟨hcz40_0, hcz40_1, hcz40_2, hcz40_3, hcz40_4⟩ := cl5 BK106
     obtain ⟨hfz40_0, hfz40_1, hfz40_2, hfz40_3, hfz40_4⟩ := fz5 BK106
     go_wp2
     go_loopg [6] k2 (fun kq v6 w' => ∃ (x6_3 : Int), v6 = .int .i64 x6_3 ∧ Aside0 (touchstoneref5_Equal.l1 kq x6_3 a0_0 a0_1 a0_2 l0_3 l0_4 a1_0 a1_1 a1_2 l1_3 l1_4 = some r) ∧ Aside0 (kq ≤ k2) ∧ Aside0 (w'.heap[gb106]? = some (.cells #[.int .i64 a0_0, .int .i64 a0_1, .string a0_2, (.slice A0_3 l0_3.length c0_3), (.slice A0_4 l0_4.length c0_4)] 27 (0, 0))) ∧ Aside0 (w'.heap[gb107]? = some (.cells #[.int .i64 a1_0, .int .i64 a1_1, .string a1_2, (.slice A1_3 l1_3.length c1_3), (.slice A1_4 l1_4.length c1_4)] 27 (0, 0))) ∧ Aside0 (Below w.heap.size w w'))
     case atStart => exact ⟨(0), br, H', ⟨Nat.le_refl _⟩, ⟨bk BK106.out⟩, ⟨bk BK107.out⟩, ⟨hbk HB⟩⟩
     case round =>
      clear H'
      try clear c1
      try clear p1
      try clear q1
      try clear hx1
      try clear c2
      try clear p2
      try clear c3
      try clear c6
      try clear c6b0
      try clear c6b1
      try clear p6
      try clear c7
      try clear c7b0
      try clear c7b1
      try clear c8
      try clear c8b0
      try clear c8b1
      try clear c9
      try clear c9b0
      try clear c9b1
      try clear c9b2
      try clear c10
      try clear p10
      try clear q10
      try clear hx10
      try clear c13
      try clear c16
      try clear c19
      try clear c22
      try clear c23
      try clear c25
      try clear c26
      try clear c26b0
      try clear c27
      try clear c27b0
      try clear c28
      try clear c28b0
      try clear c30
      try clear c31
      try clear c35
      try clear c39
      try clear hcz11_0 hcz11_1 hcz11_2 hcz11_3 hcz11_4
      try clear hcz12_0 hcz12_1 hcz12_2 hcz12_3 hcz12_4
      try clear hcz14_0 hcz14_1 hcz14_2 hcz14_3 hcz14_4
      try clear hcz15_0 hcz15_1 hcz15_2 hcz15_3 hcz15_4
      try clear hcz17_0 hcz17_1 hcz17_2 hcz17_3 hcz17_4
      try clear hcz18_0 hcz18_1 hcz18_2 hcz18_3 hcz18_4
      try clear hcz20_0 hcz20_1 hcz20_2 hcz20_3 hcz20_4
      try clear hcz21_0 hcz21_1 hcz21_2 hcz21_3 hcz21_4
      try clear hcz23_0 hcz23_1 hcz23_2 hcz23_3 hcz23_4
      try clear hcz24_0 hcz24_1 hcz24_2 hcz24_3 hcz24_4
      try clear hcz32_0 hcz32_1 hcz32_2 hcz32_3 hcz32_4
      try clear hcz36_0 hcz36_1 hcz36_2 hcz36_3 hcz36_4
      try clear hcz40_0 hcz40_1 hcz40_2 hcz40_3 hcz40_4
      try clear hfz11_0 hfz11_1 hfz11_2 hfz11_3 hfz11_4
      try clear hfz12_0 hfz12_1 hfz12_2 hfz12_3 hfz12_4
      try clear hfz14_0 hfz14_1 hfz14_2 hfz14_3 hfz14_4
      try clear hfz15_0 hfz15_1 hfz15_2 hfz15_3 hfz15_4
      try clear hfz17_0 hfz17_1 hfz17_2 hfz17_3 hfz17_4
      try clear hfz18_0 hfz18_1 hfz18_2 hfz18_3 hfz18_4
      try clear hfz20_0 hfz20_1 hfz20_2 hfz20_3 hfz20_4
      try clear hfz21_0 hfz21_1 hfz21_2 hfz21_3 hfz21_4
      try clear hfz23_0 hfz23_1 hfz23_2 hfz23_3 hfz23_4
      try clear hfz24_0 hfz24_1 hfz24_2 hfz24_3 hfz24_4
      try clear hfz32_0 hfz32_1 hfz32_2 hfz32_3 hfz32_4
      try clear hfz36_0 hfz36_1 hfz36_2 hfz36_3 hfz36_4
      try clear hfz40_0 hfz40_1 hfz40_2 hfz40_3 hfz40_4
      try clear hx108_0 hx108_1 hx108_2
      try clear hx109_0 hx109_1 hx109_2
      try clear p108
      try clear p109
      try clear p2
      try clear q108
      try clear q109
      obtain ⟨x6_3, rfl, HA, HK3, BK106, BK107, HB⟩ := hrel
      cases gk with
      | zero => exact absurd HA.out (by simp [touchstoneref5_Equal.l1])
      | succ k3 =>
       have H := HA.out
       clear HA
       simp only [touchstoneref5_Equal.l1] at H
       by_cases c41 : x6_3 < (l0_4.length : Int)
       rotate_left
       ·rw [if_neg c41] at H
        have c41b0 : decide (x6_3 < (l0_4.length : Int)) = false := decide_eq_false c41
        clear c41
        obtain rfl := Option.some.inj H
        have hnb54 := NB106_107.out
        have hnc54 := NB107_106.out
        obtain ⟨hcz55_0, hcz55_1, hcz55_2, hcz55_3, hcz55_4⟩ := cl5 BK106
        obtain ⟨hfz55_0, hfz55_1, hfz55_2, hfz55_3, hfz55_4⟩ := fz5 BK106
        go_wp2
        go_ret
        exact ⟨by first | rfl | (simp [errW_none, errW_some] <;> rfl) | (simp [*, errW_none, errW_some] <;> rfl), hbk HB⟩
       rw [if_pos c41] at H
       have c41b0 : decide (x6_3 < (l0_4.length : Int)) = true := decide_eq_true c41
       clear c41
       by_cases c42 : 0 ≤ x6_3
       rotate_left
       ·rw [if_neg c42] at H
        exact absurd H (by simp)
       rw [if_pos c42] at H
       have c42b0 : decide (0 ≤ x6_3) = true := decide_eq_true c42
       clear c42
       by_cases c43 : x6_3 < (l1_4.length : Int)
       rotate_left
       ·rw [if_neg c43] at H
        exact absurd H (by simp)
       rw [if_pos c43] at H
       have c43b0 : decide (x6_3 < (l1_4.length : Int)) = true := decide_eq_true c43
       clear c43
       replace H := Option.bind_eq_some_iff.mp H
       obtain ⟨t113, A440, H⟩ := H
       try dsimp only at H
       have A44 := aS A440
       clear A440
       by_cases c45 : t113 = true
       rotate_left
       ·replace c45 := Bool.eq_false_iff.mpr c45
        subst c45
        have H1 : (some false) = some r := by rw [if_neg (show ¬ (false = true) by decide)] at H; exact H
        clear H
        have H := H1
        clear H1
        obtain rfl := Option.some.inj H
        have hnb50 := NB106_107.out
        have hnc50 := NB107_106.out
        obtain ⟨hcz51_0, hcz51_1, hcz51_2, hcz51_3, hcz51_4⟩ := cl5 BK106
        obtain ⟨hfz51_0, hfz51_1, hfz51_2, hfz51_3, hfz51_4⟩ := fz5 BK106
        try go_wp2
        replace BK106 := aS (blk_drew BK106.out)
        replace BK107 := aS (blk_drew BK107.out)
        replace HB := aS (below_drew1 HB.out)
        have p111 : 0 ≤ (x6_3 : Int) := of_decide_eq_true ba
        have q111 : x6_3 < (l0_4.length : Int) := of_decide_eq_true ba
        obtain ⟨ad111, A111_3, c111_3, A111_4, c111_4, e111, hx111_0, hx111_1, hx111_2, hx111_3, hx111_4, hl111_3, hi111_3, hl111_4, hi111_4⟩ := at_T27 HR0_4.out x6_3 p111 q111
        have hw111_4 := hx111_4
        have hw111_3 := hx111_3
        have hw111_2 := hx111_2
        have hw111_1 := hx111_1
        have hw111_0 := hx111_0
        cases e111
        replace hx111_0 := (hc HB hx111_0 :)
        replace hx111_1 := (hc HB hx111_1 :)
        replace hx111_2 := (hc HB hx111_2 :)
        replace hx111_3 := (hc HB hx111_3 :)
        replace hx111_4 := (hc HB hx111_4 :)
        have HR111_3 := aS hi111_3
        have HC111_3 := aS hl111_3
        clear hi111_3 hl111_3
        have HR111_4 := aS hi111_4
        have HC111_4 := aS hl111_4
        clear hi111_4 hl111_4
        replace p111 := eq_true p111
        replace q111 := eq_true q111
        have p112 : 0 ≤ (x6_3 : Int) := of_decide_eq_true ba
        have q112 : x6_3 < (l1_4.length : Int) := of_decide_eq_true ba
        obtain ⟨ad112, A112_3, c112_3, A112_4, c112_4, e112, hx112_0, hx112_1, hx112_2, hx112_3, hx112_4, hl112_3, hi112_3, hl112_4, hi112_4⟩ := at_T27 HR1_4.out x6_3 p112 q112
        have hw112_4 := hx112_4
        have hw112_3 := hx112_3
        have hw112_2 := hx112_2
        have hw112_1 := hx112_1
        have hw112_0 := hx112_0
        cases e112
        replace hx112_0 := (hc HB hx112_0 :)
        replace hx112_1 := (hc HB hx112_1 :)
        replace hx112_2 := (hc HB hx112_2 :)
        replace hx112_3 := (hc HB hx112_3 :)
        replace hx112_4 := (hc HB hx112_4 :)
        have HR112_3 := aS hi112_3
        have HC112_3 := aS hl112_3
        clear hi112_3 hl112_3
        have HR112_4 := aS hi112_4
        have HC112_4 := aS hl112_4
        clear hi112_4 hl112_4
        replace p112 := eq_true p112
        replace q112 := eq_true q112
        refine start_ (n := 12) (S := fun w' => w'.cell? ⟨gb106, 0, none⟩ = some (.int .i64 a0_0) ∧ w'.cell? ⟨gb106, 1, none⟩ = some (.int .i64 a0_1) ∧ w'.cell? ⟨gb106, 2, none⟩ = some (.string a0_2) ∧ w'.cell? ⟨gb106, 3, none⟩ = some (.slice A0_3 l0_3.length c0_3) ∧ w'.cell? ⟨gb106, 4, none⟩ = some (.slice (some ad111) l0_4.length c0_4) ∧ w'.cell? ⟨gb107, 0, none⟩ = some (.int .i64 a1_0) ∧ w'.cell? ⟨gb107, 1, none⟩ = some (.int .i64 a1_1) ∧ w'.cell? ⟨gb107, 2, none⟩ = some (.string a1_2) ∧ w'.cell? ⟨gb107, 3, none⟩ = some (.slice A1_3 l1_3.length c1_3) ∧ w'.cell? ⟨gb107, 4, none⟩ = some (.slice (some ad112) l1_4.length c1_4) ∧ w'.cell? (ad111.add ((x6_3).toNat * 5)) = some (.int .i64 ((rd_T27 l0_4 x6_3).f0)) ∧ w'.cell? ⟨(ad111.add ((x6_3).toNat * 5)).block, (ad111.add ((x6_3).toNat * 5)).off + 1, none⟩ = some (.int .i64 ((rd_T27 l0_4 x6_3).f1)) ∧ w'.cell? ⟨(ad111.add ((x6_3).toNat * 5)).block, (ad111.add ((x6_3).toNat * 5)).off + 2, none⟩ = some (.string ((rd_T27 l0_4 x6_3).f2)) ∧ w'.cell? ⟨(ad111.add ((x6_3).toNat * 5)).block, (ad111.add ((x6_3).toNat * 5)).off + 3, none⟩ = some (.slice A111_3 ((rd_T27 l0_4 x6_3).f3).length c111_3) ∧ w'.cell? ⟨(ad111.add ((x6_3).toNat * 5)).block, (ad111.add ((x6_3).toNat * 5)).off + 4, none⟩ = some (.slice A111_4 ((rd_T27 l0_4 x6_3).f4).length c111_4) ∧ w'.cell? (ad112.add ((x6_3).toNat * 5)) = some (.int .i64 ((rd_T27 l1_4 x6_3).f0)) ∧ w'.cell? ⟨(ad112.add ((x6_3).toNat * 5)).block, (ad112.add ((x6_3).toNat * 5)).off + 1, none⟩ = some (.int .i64 ((rd_T27 l1_4 x6_3).f1)) ∧ w'.cell? ⟨(ad112.add ((x6_3).toNat * 5)).block, (ad112.add ((x6_3).toNat * 5)).off + 2, none⟩ = some (.string ((rd_T27 l1_4 x6_3).f2)) ∧ w'.cell? ⟨(ad112.add ((x6_3).toNat * 5)).block, (ad112.add ((x6_3).toNat * 5)).off + 3, none⟩ = some (.slice A112_3 ((rd_T27 l1_4 x6_3).f3).length c112_3) ∧ w'.cell? ⟨(ad112.add ((x6_3).toNat * 5)).block, (ad112.add ((x6_3).toNat * 5)).off + 4, none⟩ = some (.slice A112_4 ((rd_T27 l1_4 x6_3).f4).length c112_4)) (ds := []) #[false, false, false, false, false, false, false, false, false, false, false, false] (by kernel_rfl) rfl rfl ⟨cz BK106 0, cz BK106 1, cz BK106 2, cz BK106 3, cz BK106 4, cz BK107 0, cz BK107 1, cz BK107 2, cz BK107 3, cz BK107 4, (hc HB hw111_0 :), (hc HB hw111_1 :), (hc HB hw111_2 :), (hc HB hw111_3 :), (hc HB hw111_4 :), (hc HB hw112_0 :), (hc HB hw112_1 :), (hc HB hw112_2 :), (hc HB hw112_3 :), (hc HB hw112_4 :)⟩ (fun hHeld => ?_); refine with_tabW touchstoneref5_Equal.tab11 touchstoneref5_Equal.bits11 (fun HT_ HW_ => ?_)
        generalize wr.drew = w52 at BK106 BK107 HB HR111_3 HR111_4 HR112_3 HR112_4 hx111_0 hx111_1 hx111_2 hx111_3 hx111_4 hx112_0 hx112_1 hx112_2 hx112_3 hx112_4 hHeld ⊢
        refine pu 0 70 (bA 12 1) HT_ rfl rfl ?_
        refine pu 2 72 (bA 12 5) HT_ rfl rfl ?_
        refine pu 5 75 (bA 12 37) HT_ rfl rfl ?_
        refine pu 7 77 (bA 12 165) HT_ rfl rfl ?_
        refine ta 1 71 (bA 12 167) HT_ HW_ rfl rfl hHeld ?_
        refine pu 3 73 (bA 12 175) HT_ rfl rfl ?_
        refine ta 4 74 (bA 12 191) HT_ HW_ rfl rfl hHeld ?_
        refine ta 6 76 (bA 12 255) HT_ HW_ rfl rfl hHeld ?_
        refine pu 8 78 (bA 12 511) HT_ rfl rfl ?_
        refine ta 9 79 (bA 12 1023) HT_ HW_ rfl rfl hHeld ?_
        refine one_ (i := 10) (N := some 80) (bA 12 2047) rfl rfl (one_of HT_.out (by kernel_rfl)) (by decide) (fun K hK => ?_)
        refine goes_ Try.func23 (by kernel_rfl) rfl #[.agg #[.int .i64 ((rd_T27 l0_4 x6_3).f0), .int .i64 ((rd_T27 l0_4 x6_3).f1), .string ((rd_T27 l0_4 x6_3).f2), .slice A111_3 ((rd_T27 l0_4 x6_3).f3).length c111_3, .slice A111_4 ((rd_T27 l0_4 x6_3).f4).length c111_4], .agg #[.int .i64 ((rd_T27 l1_4 x6_3).f0), .int .i64 ((rd_T27 l1_4 x6_3).f1), .string ((rd_T27 l1_4 x6_3).f2), .slice A112_3 ((rd_T27 l1_4 x6_3).f3).length c112_3, .slice A112_4 ((rd_T27 l1_4 x6_3).f4).length c112_4]] (by rfl) rfl rfl bl ?_
        with_reducible refine (ih k3 (by have := HJ2.out; have := HK2.out; have := HK3.out; omega) ((rd_T27 l0_4 x6_3).f0) ((rd_T27 l0_4 x6_3).f1) ((rd_T27 l0_4 x6_3).f2) _ _ ((rd_T27 l0_4 x6_3).f3) _ _ ((rd_T27 l0_4 x6_3).f4) ((rd_T27 l1_4 x6_3).f0) ((rd_T27 l1_4 x6_3).f1) ((rd_T27 l1_4 x6_3).f2) _ _ ((rd_T27 l1_4 x6_3).f3) _ _ ((rd_T27 l1_4 x6_3).f4) false _ ?side1 ?side2 ?side3 ?side4 ?side5 ?side6 ?side7 ?side8 A44.out).mono ?_
        (case side1 => exact cr (Kd.C_below HR111_3.out HB.out))
        (case side2 => exact HC111_3.out)
        (case side3 => exact cr (Kd.C_below HR111_4.out HB.out))
        (case side4 => exact HC111_4.out)
        (case side5 => exact cr (Kd.C_below HR112_3.out HB.out))
        (case side6 => exact HC112_3.out)
        (case side7 => exact cr (Kd.C_below HR112_4.out HB.out))
        (case side8 => exact HC112_4.out)
        rintro e w53 ⟨rfl, hb⟩
        refine ⟨_, rfl, ?_⟩
        replace BK106 := Bk BK106 hb
        replace BK107 := Bk BK107 hb
        replace HB := Hs HB hb
        (try clear hb)
        (try clear hb2)
        (try clear hk)
        (try clear hi)
        refine hK.out _ _ ⟨cz BK106 0, cz BK106 1, cz BK106 2, cz BK106 3, cz BK106 4, cz BK107 0, cz BK107 1, cz BK107 2, cz BK107 3, cz BK107 4, (hc HB hw111_0 :), (hc HB hw111_1 :), (hc HB hw111_2 :), (hc HB hw111_3 :), (hc HB hw111_4 :), (hc HB hw112_0 :), (hc HB hw112_1 :), (hc HB hw112_2 :), (hc HB hw112_3 :), (hc HB hw112_4 :)⟩ (fun hHeld => ?_)
        clear hK K
        refine norm_ ap ?_
        refine pu 11 81 (bA 12 4095) HT_ rfl rfl ?_
        refine done_ (done_of HT_.out (by kernel_rfl)) ?_
        try go_wp2
        go_ret
        exact ⟨by first | rfl | (simp [errW_none, errW_some] <;> rfl) | (simp [*, errW_none, errW_some] <;> rfl), hbk HB⟩
       subst c45
       have H1 : (touchstoneref5_Equal.l1 k3 (wrap64 (x6_3 + 1)) a0_0 a0_1 a0_2 l0_3 l0_4 a1_0 a1_1 a1_2 l1_3 l1_4) = some r := by rw [if_pos rfl] at H; exact H
       clear H
       have H := H1
       clear H1
       have H' := aS H
       clear H
       have hnb46 := NB106_107.out
       have hnc46 := NB107_106.out
       obtain ⟨hcz47_0, hcz47_1, hcz47_2, hcz47_3, hcz47_4⟩ := cl5 BK106
       obtain ⟨hfz47_0, hfz47_1, hfz47_2, hfz47_3, hfz47_4⟩ := fz5 BK106
       try go_wp2
       replace BK106 := aS (blk_drew BK106.out)
       replace BK107 := aS (blk_drew BK107.out)
       replace HB := aS (below_drew1 HB.out)
       have p111 : 0 ≤ (x6_3 : Int) := of_decide_eq_true ba
       have q111 : x6_3 < (l0_4.length : Int) := of_decide_eq_true ba
       obtain ⟨ad111, A111_3, c111_3, A111_4, c111_4, e111, hx111_0, hx111_1, hx111_2, hx111_3, hx111_4, hl111_3, hi111_3, hl111_4, hi111_4⟩ := at_T27 HR0_4.out x6_3 p111 q111
       have hw111_4 := hx111_4
       have hw111_3 := hx111_3
       have hw111_2 := hx111_2
       have hw111_1 := hx111_1
       have hw111_0 := hx111_0
       cases e111
       replace hx111_0 := (hc HB hx111_0 :)
       replace hx111_1 := (hc HB hx111_1 :)
       replace hx111_2 := (hc HB hx111_2 :)
       replace hx111_3 := (hc HB hx111_3 :)
       replace hx111_4 := (hc HB hx111_4 :)
       have HR111_3 := aS hi111_3
       have HC111_3 := aS hl111_3
       clear hi111_3 hl111_3
       have HR111_4 := aS hi111_4
       have HC111_4 := aS hl111_4
       clear hi111_4 hl111_4
       replace p111 := eq_true p111
       replace q111 := eq_true q111
       have p112 : 0 ≤ (x6_3 : Int) := of_decide_eq_true ba
       have q112 : x6_3 < (l1_4.length : Int) := of_decide_eq_true ba
       obtain ⟨ad112, A112_3, c112_3, A112_4, c112_4, e112, hx112_0, hx112_1, hx112_2, hx112_3, hx112_4, hl112_3, hi112_3, hl112_4, hi112_4⟩ := at_T27 HR1_4.out x6_3 p112 q112
       have hw112_4 := hx112_4
       have hw112_3 := hx112_3
       have hw112_2 := hx112_2
       have hw112_1 := hx112_1
       have hw112_0 := hx112_0
       cases e112
       replace hx112_0 := (hc HB hx112_0 :)
       replace hx112_1 := (hc HB hx112_1 :)
       replace hx112_2 := (hc HB hx112_2 :)
       replace hx112_3 := (hc HB hx112_3 :)
       replace hx112_4 := (hc HB hx112_4 :)
       have HR112_3 := aS hi112_3
       have HC112_3 := aS hl112_3
       clear hi112_3 hl112_3
       have HR112_4 := aS hi112_4
       have HC112_4 := aS hl112_4
       clear hi112_4 hl112_4
       replace p112 := eq_true p112
       replace q112 := eq_true q112
       refine start_ (n := 12) (S := fun w' => w'.cell? ⟨gb106, 0, none⟩ = some (.int .i64 a0_0) ∧ w'.cell? ⟨gb106, 1, none⟩ = some (.int .i64 a0_1) ∧ w'.cell? ⟨gb106, 2, none⟩ = some (.string a0_2) ∧ w'.cell? ⟨gb106, 3, none⟩ = some (.slice A0_3 l0_3.length c0_3) ∧ w'.cell? ⟨gb106, 4, none⟩ = some (.slice (some ad111) l0_4.length c0_4) ∧ w'.cell? ⟨gb107, 0, none⟩ = some (.int .i64 a1_0) ∧ w'.cell? ⟨gb107, 1, none⟩ = some (.int .i64 a1_1) ∧ w'.cell? ⟨gb107, 2, none⟩ = some (.string a1_2) ∧ w'.cell? ⟨gb107, 3, none⟩ = some (.slice A1_3 l1_3.length c1_3) ∧ w'.cell? ⟨gb107, 4, none⟩ = some (.slice (some ad112) l1_4.length c1_4) ∧ w'.cell? (ad111.add ((x6_3).toNat * 5)) = some (.int .i64 ((rd_T27 l0_4 x6_3).f0)) ∧ w'.cell? ⟨(ad111.add ((x6_3).toNat * 5)).block, (ad111.add ((x6_3).toNat * 5)).off + 1, none⟩ = some (.int .i64 ((rd_T27 l0_4 x6_3).f1)) ∧ w'.cell? ⟨(ad111.add ((x6_3).toNat * 5)).block, (ad111.add ((x6_3).toNat * 5)).off + 2, none⟩ = some (.string ((rd_T27 l0_4 x6_3).f2)) ∧ w'.cell? ⟨(ad111.add ((x6_3).toNat * 5)).block, (ad111.add ((x6_3).toNat * 5)).off + 3, none⟩ = some (.slice A111_3 ((rd_T27 l0_4 x6_3).f3).length c111_3) ∧ w'.cell? ⟨(ad111.add ((x6_3).toNat * 5)).block, (ad111.add ((x6_3).toNat * 5)).off + 4, none⟩ = some (.slice A111_4 ((rd_T27 l0_4 x6_3).f4).length c111_4) ∧ w'.cell? (ad112.add ((x6_3).toNat * 5)) = some (.int .i64 ((rd_T27 l1_4 x6_3).f0)) ∧ w'.cell? ⟨(ad112.add ((x6_3).toNat * 5)).block, (ad112.add ((x6_3).toNat * 5)).off + 1, none⟩ = some (.int .i64 ((rd_T27 l1_4 x6_3).f1)) ∧ w'.cell? ⟨(ad112.add ((x6_3).toNat * 5)).block, (ad112.add ((x6_3).toNat * 5)).off + 2, none⟩ = some (.string ((rd_T27 l1_4 x6_3).f2)) ∧ w'.cell? ⟨(ad112.add ((x6_3).toNat * 5)).block, (ad112.add ((x6_3).toNat * 5)).off + 3, none⟩ = some (.slice A112_3 ((rd_T27 l1_4 x6_3).f3).length c112_3) ∧ w'.cell? ⟨(ad112.add ((x6_3).toNat * 5)).block, (ad112.add ((x6_3).toNat * 5)).off + 4, none⟩ = some (.slice A112_4 ((rd_T27 l1_4 x6_3).f4).length c112_4)) (ds := []) #[false, false, false, false, false, false, false, false, false, false, false, false] (by kernel_rfl) rfl rfl ⟨cz BK106 0, cz BK106 1, cz BK106 2, cz BK106 3, cz BK106 4, cz BK107 0, cz BK107 1, cz BK107 2, cz BK107 3, cz BK107 4, (hc HB hw111_0 :), (hc HB hw111_1 :), (hc HB hw111_2 :), (hc HB hw111_3 :), (hc HB hw111_4 :), (hc HB hw112_0 :), (hc HB hw112_1 :), (hc HB hw112_2 :), (hc HB hw112_3 :), (hc HB hw112_4 :)⟩ (fun hHeld => ?_); refine with_tabW touchstoneref5_Equal.tab11 touchstoneref5_Equal.bits11 (fun HT_ HW_ => ?_)
       generalize wr.drew = w48 at BK106 BK107 HB HR111_3 HR111_4 HR112_3 HR112_4 hx111_0 hx111_1 hx111_2 hx111_3 hx111_4 hx112_0 hx112_1 hx112_2 hx112_3 hx112_4 hHeld ⊢
       refine pu 0 70 (bA 12 1) HT_ rfl rfl ?_
       refine pu 2 72 (bA 12 5) HT_ rfl rfl ?_
       refine pu 5 75 (bA 12 37) HT_ rfl rfl ?_
       refine pu 7 77 (bA 12 165) HT_ rfl rfl ?_
       refine ta 1 71 (bA 12 167) HT_ HW_ rfl rfl hHeld ?_
       refine pu 3 73 (bA 12 175) HT_ rfl rfl ?_
       refine ta 4 74 (bA 12 191) HT_ HW_ rfl rfl hHeld ?_
       refine ta 6 76 (bA 12 255) HT_ HW_ rfl rfl hHeld ?_
       refine pu 8 78 (bA 12 511) HT_ rfl rfl ?_
       refine ta 9 79 (bA 12 1023) HT_ HW_ rfl rfl hHeld ?_
       refine one_ (i := 10) (N := some 80) (bA 12 2047) rfl rfl (one_of HT_.out (by kernel_rfl)) (by decide) (fun K hK => ?_)
       refine goes_ Try.func23 (by kernel_rfl) rfl #[.agg #[.int .i64 ((rd_T27 l0_4 x6_3).f0), .int .i64 ((rd_T27 l0_4 x6_3).f1), .string ((rd_T27 l0_4 x6_3).f2), .slice A111_3 ((rd_T27 l0_4 x6_3).f3).length c111_3, .slice A111_4 ((rd_T27 l0_4 x6_3).f4).length c111_4], .agg #[.int .i64 ((rd_T27 l1_4 x6_3).f0), .int .i64 ((rd_T27 l1_4 x6_3).f1), .string ((rd_T27 l1_4 x6_3).f2), .slice A112_3 ((rd_T27 l1_4 x6_3).f3).length c112_3, .slice A112_4 ((rd_T27 l1_4 x6_3).f4).length c112_4]] (by rfl) rfl rfl bl ?_
       with_reducible refine (ih k3 (by have := HJ2.out; have := HK2.out; have := HK3.out; omega) ((rd_T27 l0_4 x6_3).f0) ((rd_T27 l0_4 x6_3).f1) ((rd_T27 l0_4 x6_3).f2) _ _ ((rd_T27 l0_4 x6_3).f3) _ _ ((rd_T27 l0_4 x6_3).f4) ((rd_T27 l1_4 x6_3).f0) ((rd_T27 l1_4 x6_3).f1) ((rd_T27 l1_4 x6_3).f2) _ _ ((rd_T27 l1_4 x6_3).f3) _ _ ((rd_T27 l1_4 x6_3).f4) true _ ?side1 ?side2 ?side3 ?side4 ?side5 ?side6 ?side7 ?side8 A44.out).mono ?_
       (case side1 => exact cr (Kd.C_below HR111_3.out HB.out))
       (case side2 => exact HC111_3.out)
       (case side3 => exact cr (Kd.C_below HR111_4.out HB.out))
       (case side4 => exact HC111_4.out)
       (case side5 => exact cr (Kd.C_below HR112_3.out HB.out))
       (case side6 => exact HC112_3.out)
       (case side7 => exact cr (Kd.C_below HR112_4.out HB.out))
       (case side8 => exact HC112_4.out)
       rintro e w49 ⟨rfl, hb⟩
       refine ⟨_, rfl, ?_⟩
       replace BK106 := Bk BK106 hb
       replace BK107 := Bk BK107 hb
       replace HB := Hs HB hb
       (try clear hb)
       (try clear hb2)
       (try clear hk)
       (try clear hi)
       refine hK.out _ _ ⟨cz BK106 0, cz BK106 1, cz BK106 2, cz BK106 3, cz BK106 4, cz BK107 0, cz BK107 1, cz BK107 2, cz BK107 3, cz BK107 4, (hc HB hw111_0 :), (hc HB hw111_1 :), (hc HB hw111_2 :), (hc HB hw111_3 :), (hc HB hw111_4 :), (hc HB hw112_0 :), (hc HB hw112_1 :), (hc HB hw112_2 :), (hc HB hw112_3 :), (hc HB hw112_4 :)⟩ (fun hHeld => ?_)
       clear hK K
       refine norm_ ap ?_
       refine pu 11 81 (bA 12 4095) HT_ rfl rfl ?_
       refine done_ (done_of HT_.out (by kernel_rfl)) ?_
       try go_wp2
       go_roundg k3
       case measure => have := HJ2.out; have := HK2.out; have := HK3.out; omega
       case rel => exact ⟨(wrap64 (x6_3 + 1)), br, H', ⟨by have := HJ2.out; have := HK2.out; have := HK3.out; omega⟩, ⟨bk BK106.out⟩, ⟨bk BK107.out⟩, ⟨hbk HB⟩⟩
end Go.Proofs.Ytpejhapgffcngaa.QK

