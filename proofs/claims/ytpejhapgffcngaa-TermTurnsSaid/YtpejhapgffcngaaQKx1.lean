/- Words and walks of this claim. -/
import Derived.Test.YtpejhapgffcngaaXShort
import Derived.Test.YtpejhapgffcngaaQKApart
namespace Go.Proofs.Ytpejhapgffcngaa.QK
open Go.RowKit Go.Proofs.YtpejhapgffcngaaW.PrintWords Go.Proofs.YtpejhapgffcngaaW.PrintLast Go.Proofs.YtpejhapgffcngaaW.PrintMore
attribute [local go_sem] max2_int min2_int max_two min_two max_three min_three max_four min_four
set_option linter.unusedVariables false
set_option linter.unusedSimpArgs false
mutual
def touchstoneref4_Equal.j0 : Nat → Bool → Int → Int → List (S76) → Int → Int → List (S76) → Option (Bool)
 | 0, _, _, _, _, _, _, _ => none
 | k + 1, x26, x102000, x102001, x102002, x103000, x103001, x103002 => if x26 = true then (some false) else (touchstoneref4_Equal.l0 k 0 x102000 x102001 x102002 x103000 x103001 x103002)
def touchstoneref4_Equal.l0 : Nat → Int → Int → Int → List (S76) → Int → Int → List (S76) → Option (Bool)
 | 0, _, _, _, _, _, _, _ => none
 | k + 1, x5, x102000, x102001, x102002, x103000, x103001, x103002 => if x5 < (x102002.length : Int) then (if 0 ≤ x5 then (if x5 < (x103002.length : Int) then ((touchstoneref4_Equal.f k ((rd_T76 x102002 x5).f0) ((rd_T76 x102002 x5).f1) ((rd_T76 x102002 x5).f2) ((rd_T76 x103002 x5).f0) ((rd_T76 x103002 x5).f1) ((rd_T76 x103002 x5).f2)).bind fun t105 => (if t105 = true then (touchstoneref4_Equal.l0 k (wrap64 (x5 + 1)) x102000 x102001 x102002 x103000 x103001 x103002) else (some false))) else (none)) else (none)) else (some true)
def touchstoneref4_Equal.f : Nat → Int → Int → List (S76) → Int → Int → List (S76) → Option (Bool)
 | 0, _, _, _, _, _, _ => none
 | k + 1, a0_0, a0_1, l0_2, a1_0, a1_1, l1_2 => if a0_0 = a1_0 then (if a0_1 = a1_1 then (touchstoneref4_Equal.j0 k ((l0_2.length : Int) != (l1_2.length : Int)) a0_0 a0_1 l0_2 a1_0 a1_1 l1_2) else (touchstoneref4_Equal.j0 k true a0_0 a0_1 l0_2 a1_0 a1_1 l1_2)) else (touchstoneref4_Equal.j0 k true a0_0 a0_1 l0_2 a1_0 a1_1 l1_2)
end
def touchstoneref4_Equal.T6 : Bool × List (List Nat × List Nat) := (true, [([], []), ([0], [0]), ([], []), ([1, 2], [1, 2]), ([3], [3]), ([], []), ([5], [5]), ([], []), ([6, 7], [6, 7]), ([8], [8]), ([4, 9], [4, 9]), ([10], [10])])
def touchstoneref4_Equal.B6 : List Nat := [0, 1, 0, 7, 15, 0, 32, 0, 224, 480, 1023, 2047]
theorem touchstoneref4_Equal.tab6 : rtab .any (opsOf Try.f75 6) = touchstoneref4_Equal.T6 := by kernel_rfl
theorem touchstoneref4_Equal.bits6 : waitsOk touchstoneref4_Equal.T6.2 touchstoneref4_Equal.B6 = true := by kernel_rfl
set_option maxHeartbeats 8000000 in
set_option maxRecDepth 100000 in
theorem touchstoneref4_Equal.calls (k : Nat) : ∀ (a0_0 : Int) (a0_1 : Int) (A0_2 : Option Addr) (c0_2 : Nat) (l0_2 : List (S76)) (a1_0 : Int) (a1_1 : Int) (A1_2 : Option Addr) (c1_2 : Nat) (l1_2 : List (S76)) (r : Bool) (w : World) (hr0_2 : Kd.C k76 w A0_2 l0_2.length l0_2) (hc0_2 : l0_2.length ≤ c0_2) (hr1_2 : Kd.C k76 w A1_2 l1_2.length l1_2) (hc1_2 : l1_2.length ≤ c1_2) (h : touchstoneref4_Equal.f k a0_0 a0_1 l0_2 a1_0 a1_1 l1_2 = some r),
  Calls Try.prog 75 #[.agg #[.int .i64 a0_0, .int .i64 a0_1, .slice A0_2 l0_2.length c0_2], .agg #[.int .i64 a1_0, .int .i64 a1_1, .slice A1_2 l1_2.length c1_2]] w fun e w' => e = .returned (.bool r) ∧ Below w.heap.size w w' := by
 induction k using Nat.strongRecOn with
 | _ k ih =>
 intro a0_0 a0_1 A0_2 c0_2 l0_2 a1_0 a1_1 A1_2 c1_2 l1_2 r w hr0_2 hc0_2 hr1_2 hc1_2 h
 cases k with
 | zero => exact absurd h (by simp [touchstoneref4_Equal.f])
 | succ k =>
 simp only [touchstoneref4_Equal.f] at h
 have hu76 := Try.underlying76
 have HR0_2 := aS hr0_2
 have HC0_2 := aS hc0_2
 clear hr0_2 hc0_2
 have HR1_2 := aS hr1_2
 have HC1_2 := aS hc1_2
 clear hr1_2 hc1_2
 have HB := aS (Below.refl w.heap.size w)
 have H : (if a0_0 = a1_0 then (if a0_1 = a1_1 then (touchstoneref4_Equal.j0 k ((l0_2.length : Int) != (l1_2.length : Int)) a0_0 a0_1 l0_2 a1_0 a1_1 l1_2) else (touchstoneref4_Equal.j0 k true a0_0 a0_1 l0_2 a1_0 a1_1 l1_2)) else (touchstoneref4_Equal.j0 k true a0_0 a0_1 l0_2 a1_0 a1_1 l1_2)) = some r := h
 clear h
 have HC3 := aS H
 clear H
 go_enter Try.func75, Try.ntmps75
 go_upto_region 1 with (first | ((with_reducible refine gate_dst (N := 2) rfl ?_); (try (refine gate_guard (by rfl) ?_; dsimp only)); refine bx (N := 2) (t := 76) #[.int .i64 a0_0, .int .i64 a0_1, .slice A0_2 l0_2.length c0_2] ?_; intro gb101 hg w4 hbox hb; have BK101 := aS (hbox); have GW101 := Gz hg HB; have GE101 := Gz hg HB; replace HB := Hs HB hb; clear hb hbox hg) | ((with_reducible refine gate_dst (N := 3) rfl ?_); (try (refine gate_guard (by rfl) ?_; dsimp only)); refine bx (N := 3) (t := 76) #[.int .i64 a1_0, .int .i64 a1_1, .slice A1_2 l1_2.length c1_2] ?_; intro gb102 hg w5 hbox hb; have BK102 := aS (hbox); have GW102 := Gz hg HB; have GE102 := Gz hg HB; replace HB := Hs HB hb; have NB101_102 := aS ((by rw [hg]; exact Nat.ne_of_lt (blk_lt (bkw BK101)) : gb101 ≠ gb102)); have NB102_101 := aS ((by rw [hg]; exact Nat.ne_of_gt (blk_lt (bkw BK101)) : gb102 ≠ gb101)); replace BK101 := Bk BK101 hb; clear hb hbox hg))
 (try simp only [Act.put, List.setIfInBounds_toArray, List.set_cons_zero, List.set_cons_succ])
 go_cut [26] (fun v26 wc => ∃ (kq : Nat) (x26_2 : Bool), v26 = .bool x26_2 ∧ Aside0 (touchstoneref4_Equal.j0 kq x26_2 a0_0 a0_1 l0_2 a1_0 a1_1 l1_2 = some r) ∧ Aside0 (kq ≤ k) ∧ Aside0 (wc.heap[gb101]? = some (.cells #[.int .i64 a0_0, .int .i64 a0_1, (.slice A0_2 l0_2.length c0_2)] 76 (0, 0))) ∧ Aside0 (wc.heap[gb102]? = some (.cells #[.int .i64 a1_0, .int .i64 a1_1, (.slice A1_2 l1_2.length c1_2)] 76 (0, 0))) ∧ Aside0 (Below w.heap.size w wc))
 case first =>
  have H := HC3.out
  clear HC3
  by_cases c6 : a0_0 = a1_0
  rotate_left
  ·rw [if_neg c6] at H
   have c6b0 : (a0_0 == a1_0) = false := beq_eq_false_iff_ne.mpr c6
   have c6b1 : (a0_0 != a1_0) = true := bne_iff_ne.mpr c6
   (first | rw [c6b0] | (simp only [i64_w, i32_w]; rw [c6b0]) | skip)
   have H' := aS H
   clear H
   have hnb14 := NB101_102.out
   have hnc14 := NB102_101.out
   obtain ⟨hcz15_0, hcz15_1, hcz15_2⟩ := cl3 BK101
   obtain ⟨hfz15_0, hfz15_1, hfz15_2⟩ := fz3 BK101
   obtain ⟨hcz16_0, hcz16_1, hcz16_2⟩ := cl3 BK102
   obtain ⟨hfz16_0, hfz16_1, hfz16_2⟩ := fz3 BK102
   go_wp2
   go_meet
   case rel => exact ⟨_, (true), br, H', ⟨by first | omega | exact Nat.le_refl _⟩, ⟨bk BK101.out⟩, ⟨bk BK102.out⟩, ⟨hbk HB⟩⟩
  rw [if_pos c6] at H
  have c6b0 : (a0_0 == a1_0) = true := beq_iff_eq.mpr c6
  have c6b1 : (a0_0 != a1_0) = false := bne_eq_false_iff_eq.mpr c6
  clear c6
  (first | rw [c6b0] | (simp only [i64_w, i32_w]; rw [c6b0]) | skip)
  by_cases c7 : a0_1 = a1_1
  rotate_left
  ·rw [if_neg c7] at H
   have c7b0 : (a0_1 == a1_1) = false := beq_eq_false_iff_ne.mpr c7
   have c7b1 : (a0_1 != a1_1) = true := bne_iff_ne.mpr c7
   have H' := aS H
   clear H
   have hnb11 := NB101_102.out
   have hnc11 := NB102_101.out
   obtain ⟨hcz12_0, hcz12_1, hcz12_2⟩ := cl3 BK101
   obtain ⟨hfz12_0, hfz12_1, hfz12_2⟩ := fz3 BK101
   obtain ⟨hcz13_0, hcz13_1, hcz13_2⟩ := cl3 BK102
   obtain ⟨hfz13_0, hfz13_1, hfz13_2⟩ := fz3 BK102
   go_wp2
   go_meet
   case rel => exact ⟨_, (true), br, H', ⟨by first | omega | exact Nat.le_refl _⟩, ⟨bk BK101.out⟩, ⟨bk BK102.out⟩, ⟨hbk HB⟩⟩
  rw [if_pos c7] at H
  have c7b0 : (a0_1 == a1_1) = true := beq_iff_eq.mpr c7
  have c7b1 : (a0_1 != a1_1) = false := bne_eq_false_iff_eq.mpr c7
  clear c7
  have H' := aS H
  clear H
  have hnb8 := NB101_102.out
  have hnc8 := NB102_101.out
  obtain ⟨hcz9_0, hcz9_1, hcz9_2⟩ := cl3 BK101
  obtain ⟨hfz9_0, hfz9_1, hfz9_2⟩ := fz3 BK101
  obtain ⟨hcz10_0, hcz10_1, hcz10_2⟩ := cl3 BK102
  obtain ⟨hfz10_0, hfz10_1, hfz10_2⟩ := fz3 BK102
  go_wp2
  go_meet
  case rel => exact ⟨_, (((l0_2.length : Int) != (l1_2.length : Int))), br, H', ⟨by first | omega | exact Nat.le_refl _⟩, ⟨bk BK101.out⟩, ⟨bk BK102.out⟩, ⟨hbk HB⟩⟩
 case rest =>
  clear HC3
  try clear c1
  try clear p2
  try clear c6
  try clear c6b0
  try clear c6b1
  try clear c7
  try clear c7b0
  try clear c7b1
  try clear c8
  try clear c11
  try clear c14
  try clear hcz10_0 hcz10_1 hcz10_2
  try clear hcz12_0 hcz12_1 hcz12_2
  try clear hcz13_0 hcz13_1 hcz13_2
  try clear hcz15_0 hcz15_1 hcz15_2
  try clear hcz16_0 hcz16_1 hcz16_2
  try clear hcz9_0 hcz9_1 hcz9_2
  try clear hfz10_0 hfz10_1 hfz10_2
  try clear hfz12_0 hfz12_1 hfz12_2
  try clear hfz13_0 hfz13_1 hfz13_2
  try clear hfz15_0 hfz15_1 hfz15_2
  try clear hfz16_0 hfz16_1 hfz16_2
  try clear hfz9_0 hfz9_1 hfz9_2
  obtain ⟨kq, x26_2, rfl, HA, HJ2, BK101, BK102, HB⟩ := hcut
  cases kq with
  | zero => exact absurd HA.out (by simp [touchstoneref4_Equal.j0])
  | succ kj2 =>
   have H := HA.out
   clear HA
   simp only [touchstoneref4_Equal.j0] at H
   by_cases c17 : x26_2 = true
   ·subst c17
    have H1 : (some false) = some r := by rw [if_pos rfl] at H; exact H
    clear H
    have H := H1
    clear H1
    obtain rfl := Option.some.inj H
    go_wp2
    go_ret
    exact ⟨by first | rfl | (simp [errW_none, errW_some] <;> rfl) | (simp [*, errW_none, errW_some] <;> rfl), hbk HB⟩
   replace c17 := Bool.eq_false_iff.mpr c17
   subst c17
   have H1 : (touchstoneref4_Equal.l0 kj2 0 a0_0 a0_1 l0_2 a1_0 a1_1 l1_2) = some r := by rw [if_neg (show ¬ (false = true) by decide)] at H; exact H
   clear H
   have H := H1
   clear H1
   have H' := aS H
   clear H
   go_wp2
   go_loopg [5] kj2 (fun kq v5 w' => ∃ (x5_2 : Int), v5 = .int .i64 x5_2 ∧ Aside0 (touchstoneref4_Equal.l0 kq x5_2 a0_0 a0_1 l0_2 a1_0 a1_1 l1_2 = some r) ∧ Aside0 (kq ≤ kj2) ∧ Aside0 (w'.heap[gb101]? = some (.cells #[.int .i64 a0_0, .int .i64 a0_1, (.slice A0_2 l0_2.length c0_2)] 76 (0, 0))) ∧ Aside0 (w'.heap[gb102]? = some (.cells #[.int .i64 a1_0, .int .i64 a1_1, (.slice A1_2 l1_2.length c1_2)] 76 (0, 0))) ∧ Aside0 (Below w.heap.size w w'))
   case atStart => exact ⟨(0), br, H', ⟨Nat.le_refl _⟩, ⟨bk BK101.out⟩, ⟨bk BK102.out⟩, ⟨hbk HB⟩⟩
   case round =>
    clear H'
    try clear c1
    try clear p2
    try clear c6
    try clear c6b0
    try clear c6b1
    try clear c7
    try clear c7b0
    try clear c7b1
    try clear c8
    try clear c11
    try clear c14
    try clear c17
    try clear hcz10_0 hcz10_1 hcz10_2
    try clear hcz12_0 hcz12_1 hcz12_2
    try clear hcz13_0 hcz13_1 hcz13_2
    try clear hcz15_0 hcz15_1 hcz15_2
    try clear hcz16_0 hcz16_1 hcz16_2
    try clear hcz9_0 hcz9_1 hcz9_2
    try clear hfz10_0 hfz10_1 hfz10_2
    try clear hfz12_0 hfz12_1 hfz12_2
    try clear hfz13_0 hfz13_1 hfz13_2
    try clear hfz15_0 hfz15_1 hfz15_2
    try clear hfz16_0 hfz16_1 hfz16_2
    try clear hfz9_0 hfz9_1 hfz9_2
    try clear p2
    obtain ⟨x5_2, rfl, HA, HK2, BK101, BK102, HB⟩ := hrel
    cases gk with
    | zero => exact absurd HA.out (by simp [touchstoneref4_Equal.l0])
    | succ k2 =>
     have H := HA.out
     clear HA
     simp only [touchstoneref4_Equal.l0] at H
     by_cases c18 : x5_2 < (l0_2.length : Int)
     rotate_left
     ·rw [if_neg c18] at H
      have c18b0 : decide (x5_2 < (l0_2.length : Int)) = false := decide_eq_false c18
      clear c18
      obtain rfl := Option.some.inj H
      have hnb31 := NB101_102.out
      have hnc31 := NB102_101.out
      obtain ⟨hcz32_0, hcz32_1, hcz32_2⟩ := cl3 BK101
      obtain ⟨hfz32_0, hfz32_1, hfz32_2⟩ := fz3 BK101
      go_wp2
      go_ret
      exact ⟨by first | rfl | (simp [errW_none, errW_some] <;> rfl) | (simp [*, errW_none, errW_some] <;> rfl), hbk HB⟩
     rw [if_pos c18] at H
     have c18b0 : decide (x5_2 < (l0_2.length : Int)) = true := decide_eq_true c18
     clear c18
     by_cases c19 : 0 ≤ x5_2
     rotate_left
     ·rw [if_neg c19] at H
      exact absurd H (by simp)
     rw [if_pos c19] at H
     have c19b0 : decide (0 ≤ x5_2) = true := decide_eq_true c19
     clear c19
     by_cases c20 : x5_2 < (l1_2.length : Int)
     rotate_left
     ·rw [if_neg c20] at H
      exact absurd H (by simp)
     rw [if_pos c20] at H
     have c20b0 : decide (x5_2 < (l1_2.length : Int)) = true := decide_eq_true c20
     clear c20
     replace H := Option.bind_eq_some_iff.mp H
     obtain ⟨t105, A210, H⟩ := H
     try dsimp only at H
     have A21 := aS A210
     clear A210
     by_cases c22 : t105 = true
     rotate_left
     ·replace c22 := Bool.eq_false_iff.mpr c22
      subst c22
      have H1 : (some false) = some r := by rw [if_neg (show ¬ (false = true) by decide)] at H; exact H
      clear H
      have H := H1
      clear H1
      obtain rfl := Option.some.inj H
      have hnb27 := NB101_102.out
      have hnc27 := NB102_101.out
      obtain ⟨hcz28_0, hcz28_1, hcz28_2⟩ := cl3 BK101
      obtain ⟨hfz28_0, hfz28_1, hfz28_2⟩ := fz3 BK101
      try go_wp2
      replace BK101 := aS (blk_drew BK101.out)
      replace BK102 := aS (blk_drew BK102.out)
      replace HB := aS (below_drew1 HB.out)
      have p103 : 0 ≤ (x5_2 : Int) := of_decide_eq_true ba
      have q103 : x5_2 < (l0_2.length : Int) := of_decide_eq_true ba
      obtain ⟨ad103, A103_2, c103_2, e103, hx103_0, hx103_1, hx103_2, hl103_2, hi103_2⟩ := at_T76 HR0_2.out x5_2 p103 q103
      have hw103_2 := hx103_2
      have hw103_1 := hx103_1
      have hw103_0 := hx103_0
      cases e103
      replace hx103_0 := (hc HB hx103_0 :)
      replace hx103_1 := (hc HB hx103_1 :)
      replace hx103_2 := (hc HB hx103_2 :)
      have HR103_2 := aS hi103_2
      have HC103_2 := aS hl103_2
      clear hi103_2 hl103_2
      replace p103 := eq_true p103
      replace q103 := eq_true q103
      have p104 : 0 ≤ (x5_2 : Int) := of_decide_eq_true ba
      have q104 : x5_2 < (l1_2.length : Int) := of_decide_eq_true ba
      obtain ⟨ad104, A104_2, c104_2, e104, hx104_0, hx104_1, hx104_2, hl104_2, hi104_2⟩ := at_T76 HR1_2.out x5_2 p104 q104
      have hw104_2 := hx104_2
      have hw104_1 := hx104_1
      have hw104_0 := hx104_0
      cases e104
      replace hx104_0 := (hc HB hx104_0 :)
      replace hx104_1 := (hc HB hx104_1 :)
      replace hx104_2 := (hc HB hx104_2 :)
      have HR104_2 := aS hi104_2
      have HC104_2 := aS hl104_2
      clear hi104_2 hl104_2
      replace p104 := eq_true p104
      replace q104 := eq_true q104
      refine start_ (n := 12) (S := fun w' => w'.cell? ⟨gb101, 0, none⟩ = some (.int .i64 a0_0) ∧ w'.cell? ⟨gb101, 1, none⟩ = some (.int .i64 a0_1) ∧ w'.cell? ⟨gb101, 2, none⟩ = some (.slice (some ad103) l0_2.length c0_2) ∧ w'.cell? ⟨gb102, 0, none⟩ = some (.int .i64 a1_0) ∧ w'.cell? ⟨gb102, 1, none⟩ = some (.int .i64 a1_1) ∧ w'.cell? ⟨gb102, 2, none⟩ = some (.slice (some ad104) l1_2.length c1_2) ∧ w'.cell? (ad103.add ((x5_2).toNat * 3)) = some (.int .i64 ((rd_T76 l0_2 x5_2).f0)) ∧ w'.cell? ⟨(ad103.add ((x5_2).toNat * 3)).block, (ad103.add ((x5_2).toNat * 3)).off + 1, none⟩ = some (.int .i64 ((rd_T76 l0_2 x5_2).f1)) ∧ w'.cell? ⟨(ad103.add ((x5_2).toNat * 3)).block, (ad103.add ((x5_2).toNat * 3)).off + 2, none⟩ = some (.slice A103_2 ((rd_T76 l0_2 x5_2).f2).length c103_2) ∧ w'.cell? (ad104.add ((x5_2).toNat * 3)) = some (.int .i64 ((rd_T76 l1_2 x5_2).f0)) ∧ w'.cell? ⟨(ad104.add ((x5_2).toNat * 3)).block, (ad104.add ((x5_2).toNat * 3)).off + 1, none⟩ = some (.int .i64 ((rd_T76 l1_2 x5_2).f1)) ∧ w'.cell? ⟨(ad104.add ((x5_2).toNat * 3)).block, (ad104.add ((x5_2).toNat * 3)).off + 2, none⟩ = some (.slice A104_2 ((rd_T76 l1_2 x5_2).f2).length c104_2)) (ds := []) #[false, false, false, false, false, false, false, false, false, false, false, false] (by kernel_rfl) rfl rfl ⟨cz BK101 0, cz BK101 1, cz BK101 2, cz BK102 0, cz BK102 1, cz BK102 2, (hc HB hw103_0 :), (hc HB hw103_1 :), (hc HB hw103_2 :), (hc HB hw104_0 :), (hc HB hw104_1 :), (hc HB hw104_2 :)⟩ (fun hHeld => ?_); refine with_tabW touchstoneref4_Equal.tab6 touchstoneref4_Equal.bits6 (fun HT_ HW_ => ?_)
      generalize wr.drew = w29 at BK101 BK102 HB HR103_2 HR104_2 hx103_0 hx103_1 hx103_2 hx104_0 hx104_1 hx104_2 hHeld ⊢
      refine pu 0 34 (bA 12 1) HT_ rfl rfl ?_
      refine pu 2 36 (bA 12 5) HT_ rfl rfl ?_
      refine pu 5 39 (bA 12 37) HT_ rfl rfl ?_
      refine pu 7 41 (bA 12 165) HT_ rfl rfl ?_
      refine ta 1 35 (bA 12 167) HT_ HW_ rfl rfl hHeld ?_
      refine pu 3 37 (bA 12 175) HT_ rfl rfl ?_
      refine ta 4 38 (bA 12 191) HT_ HW_ rfl rfl hHeld ?_
      refine ta 6 40 (bA 12 255) HT_ HW_ rfl rfl hHeld ?_
      refine pu 8 42 (bA 12 511) HT_ rfl rfl ?_
      refine ta 9 43 (bA 12 1023) HT_ HW_ rfl rfl hHeld ?_
      refine one_ (i := 10) (N := some 44) (bA 12 2047) rfl rfl (one_of HT_.out (by kernel_rfl)) (by decide) (fun K hK => ?_)
      refine goes_ Try.func75 (by kernel_rfl) rfl #[.agg #[.int .i64 ((rd_T76 l0_2 x5_2).f0), .int .i64 ((rd_T76 l0_2 x5_2).f1), .slice A103_2 ((rd_T76 l0_2 x5_2).f2).length c103_2], .agg #[.int .i64 ((rd_T76 l1_2 x5_2).f0), .int .i64 ((rd_T76 l1_2 x5_2).f1), .slice A104_2 ((rd_T76 l1_2 x5_2).f2).length c104_2]] (by rfl) rfl rfl bl ?_
      with_reducible refine (ih k2 (by have := HJ2.out; have := HK2.out; omega) ((rd_T76 l0_2 x5_2).f0) ((rd_T76 l0_2 x5_2).f1) _ _ ((rd_T76 l0_2 x5_2).f2) ((rd_T76 l1_2 x5_2).f0) ((rd_T76 l1_2 x5_2).f1) _ _ ((rd_T76 l1_2 x5_2).f2) false _ ?side1 ?side2 ?side3 ?side4 A21.out).mono ?_
      (case side1 => exact cr (Kd.C_below HR103_2.out HB.out))
      (case side2 => exact HC103_2.out)
      (case side3 => exact cr (Kd.C_below HR104_2.out HB.out))
      (case side4 => exact HC104_2.out)
      rintro e w30 ⟨rfl, hb⟩
      refine ⟨_, rfl, ?_⟩
      replace BK101 := Bk BK101 hb
      replace BK102 := Bk BK102 hb
      replace HB := Hs HB hb
      (try clear hb)
      (try clear hb2)
      (try clear hk)
      (try clear hi)
      refine hK.out _ _ ⟨cz BK101 0, cz BK101 1, cz BK101 2, cz BK102 0, cz BK102 1, cz BK102 2, (hc HB hw103_0 :), (hc HB hw103_1 :), (hc HB hw103_2 :), (hc HB hw104_0 :), (hc HB hw104_1 :), (hc HB hw104_2 :)⟩ (fun hHeld => ?_)
      clear hK K
      refine norm_ ap ?_
      refine pu 11 45 (bA 12 4095) HT_ rfl rfl ?_
      refine done_ (done_of HT_.out (by kernel_rfl)) ?_
      try go_wp2
      go_ret
      exact ⟨by first | rfl | (simp [errW_none, errW_some] <;> rfl) | (simp [*, errW_none, errW_some] <;> rfl), hbk HB⟩
     subst c22
     have H1 : (touchstoneref4_Equal.l0 k2 (wrap64 (x5_2 + 1)) a0_0 a0_1 l0_2 a1_0 a1_1 l1_2) = some r := by rw [if_pos rfl] at H; exact H
     clear H
     have H := H1
     clear H1
     have H' := aS H
     clear H
     have hnb23 := NB101_102.out
     have hnc23 := NB102_101.out
     obtain ⟨hcz24_0, hcz24_1, hcz24_2⟩ := cl3 BK101
     obtain ⟨hfz24_0, hfz24_1, hfz24_2⟩ := fz3 BK101
     try go_wp2
     replace BK101 := aS (blk_drew BK101.out)
     replace BK102 := aS (blk_drew BK102.out)
     replace HB := aS (below_drew1 HB.out)
     have p103 : 0 ≤ (x5_2 : Int) := of_decide_eq_true ba
     have q103 : x5_2 < (l0_2.length : Int) := of_decide_eq_true ba
     obtain ⟨ad103, A103_2, c103_2, e103, hx103_0, hx103_1, hx103_2, hl103_2, hi103_2⟩ := at_T76 HR0_2.out x5_2 p103 q103
     have hw103_2 := hx103_2
     have hw103_1 := hx103_1
     have hw103_0 := hx103_0
     cases e103
     replace hx103_0 := (hc HB hx103_0 :)
     replace hx103_1 := (hc HB hx103_1 :)
     replace hx103_2 := (hc HB hx103_2 :)
     have HR103_2 := aS hi103_2
     have HC103_2 := aS hl103_2
     clear hi103_2 hl103_2
     replace p103 := eq_true p103
     replace q103 := eq_true q103
     have p104 : 0 ≤ (x5_2 : Int) := of_decide_eq_true ba
     have q104 : x5_2 < (l1_2.length : Int) := of_decide_eq_true ba
     obtain ⟨ad104, A104_2, c104_2, e104, hx104_0, hx104_1, hx104_2, hl104_2, hi104_2⟩ := at_T76 HR1_2.out x5_2 p104 q104
     have hw104_2 := hx104_2
     have hw104_1 := hx104_1
     have hw104_0 := hx104_0
     cases e104
     replace hx104_0 := (hc HB hx104_0 :)
     replace hx104_1 := (hc HB hx104_1 :)
     replace hx104_2 := (hc HB hx104_2 :)
     have HR104_2 := aS hi104_2
     have HC104_2 := aS hl104_2
     clear hi104_2 hl104_2
     replace p104 := eq_true p104
     replace q104 := eq_true q104
     refine start_ (n := 12) (S := fun w' => w'.cell? ⟨gb101, 0, none⟩ = some (.int .i64 a0_0) ∧ w'.cell? ⟨gb101, 1, none⟩ = some (.int .i64 a0_1) ∧ w'.cell? ⟨gb101, 2, none⟩ = some (.slice (some ad103) l0_2.length c0_2) ∧ w'.cell? ⟨gb102, 0, none⟩ = some (.int .i64 a1_0) ∧ w'.cell? ⟨gb102, 1, none⟩ = some (.int .i64 a1_1) ∧ w'.cell? ⟨gb102, 2, none⟩ = some (.slice (some ad104) l1_2.length c1_2) ∧ w'.cell? (ad103.add ((x5_2).toNat * 3)) = some (.int .i64 ((rd_T76 l0_2 x5_2).f0)) ∧ w'.cell? ⟨(ad103.add ((x5_2).toNat * 3)).block, (ad103.add ((x5_2).toNat * 3)).off + 1, none⟩ = some (.int .i64 ((rd_T76 l0_2 x5_2).f1)) ∧ w'.cell? ⟨(ad103.add ((x5_2).toNat * 3)).block, (ad103.add ((x5_2).toNat * 3)).off + 2, none⟩ = some (.slice A103_2 ((rd_T76 l0_2 x5_2).f2).length c103_2) ∧ w'.cell? (ad104.add ((x5_2).toNat * 3)) = some (.int .i64 ((rd_T76 l1_2 x5_2).f0)) ∧ w'.cell? ⟨(ad104.add ((x5_2).toNat * 3)).block, (ad104.add ((x5_2).toNat * 3)).off + 1, none⟩ = some (.int .i64 ((rd_T76 l1_2 x5_2).f1)) ∧ w'.cell? ⟨(ad104.add ((x5_2).toNat * 3)).block, (ad104.add ((x5_2).toNat * 3)).off + 2, none⟩ = some (.slice A104_2 ((rd_T76 l1_2 x5_2).f2).length c104_2)) (ds := []) #[false, false, false, false, false, false, false, false, false, false, false, false] (by kernel_rfl) rfl rfl ⟨cz BK101 0, cz BK101 1, cz BK101 2, cz BK102 0, cz BK102 1, cz BK102 2, (hc HB hw103_0 :), (hc HB hw103_1 :), (hc HB hw103_2 :), (hc HB hw104_0 :), (hc HB hw104_1 :), (hc HB hw104_2 :)⟩ (fun hHeld => ?_); refine with_tabW touchstoneref4_Equal.tab6 touchstoneref4_Equal.bits6 (fun HT_ HW_ => ?_)
     generalize wr.drew = w25 at BK101 BK102 HB HR103_2 HR104_2 hx103_0 hx103_1 hx103_2 hx104_0 hx104_1 hx104_2 hHeld ⊢
     refine pu 0 34 (bA 12 1) HT_ rfl rfl ?_
     refine pu 2 36 (bA 12 5) HT_ rfl rfl ?_
     refine pu 5 39 (bA 12 37) HT_ rfl rfl ?_
     refine pu 7 41 (bA 12 165) HT_ rfl rfl ?_
     refine ta 1 35 (bA 12 167) HT_ HW_ rfl rfl hHeld ?_
     refine pu 3 37 (bA 12 175) HT_ rfl rfl ?_
     refine ta 4 38 (bA 12 191) HT_ HW_ rfl rfl hHeld ?_
     refine ta 6 40 (bA 12 255) HT_ HW_ rfl rfl hHeld ?_
     refine pu 8 42 (bA 12 511) HT_ rfl rfl ?_
     refine ta 9 43 (bA 12 1023) HT_ HW_ rfl rfl hHeld ?_
     refine one_ (i := 10) (N := some 44) (bA 12 2047) rfl rfl (one_of HT_.out (by kernel_rfl)) (by decide) (fun K hK => ?_)
     refine goes_ Try.func75 (by kernel_rfl) rfl #[.agg #[.int .i64 ((rd_T76 l0_2 x5_2).f0), .int .i64 ((rd_T76 l0_2 x5_2).f1), .slice A103_2 ((rd_T76 l0_2 x5_2).f2).length c103_2], .agg #[.int .i64 ((rd_T76 l1_2 x5_2).f0), .int .i64 ((rd_T76 l1_2 x5_2).f1), .slice A104_2 ((rd_T76 l1_2 x5_2).f2).length c104_2]] (by rfl) rfl rfl bl ?_
     with_reducible refine (ih k2 (by have := HJ2.out; have := HK2.out; omega) ((rd_T76 l0_2 x5_2).f0) ((rd_T76 l0_2 x5_2).f1) _ _ ((rd_T76 l0_2 x5_2).f2) ((rd_T76 l1_2 x5_2).f0) ((rd_T76 l1_2 x5_2).f1) _ _ ((rd_T76 l1_2 x5_2).f2) true _ ?side1 ?side2 ?side3 ?side4 A21.out).mono ?_
     (case side1 => exact cr (Kd.C_below HR103_2.out HB.out))
     (case side2 => exact HC103_2.out)
     (case side3 => exact cr (Kd.C_below HR104_2.out HB.out))
     (case side4 => exact HC104_2.out)
     rintro e w26 ⟨rfl, hb⟩
     refine ⟨_, rfl, ?_⟩
     replace BK101 := Bk BK101 hb
     replace BK102 := Bk BK102 hb
     replace HB := Hs HB hb
     (try clear hb)
     (try clear hb2)
     (try clear hk)
     (try clear hi)
     refine hK.out _ _ ⟨cz BK101 0, cz BK101 1, cz BK101 2, cz BK102 0, cz BK102 1, cz BK102 2, (hc HB hw103_0 :), (hc HB hw103_1 :), (hc HB hw103_2 :), (hc HB hw104_0 :), (hc HB hw104_1 :), (hc HB hw104_2 :)⟩ (fun hHeld => ?_)
     clear hK K
     refine norm_ ap ?_
     refine pu 11 45 (bA 12 4095) HT_ rfl rfl ?_
     refine done_ (done_of HT_.out (by kernel_rfl)) ?_
     try go_wp2
     go_roundg k2
     case measure => have := HJ2.out; have := HK2.out; omega
     case rel => exact ⟨(wrap64 (x5_2 + 1)), br, H', ⟨by have := HJ2.out; have := HK2.out; omega⟩, ⟨bk BK101.out⟩, ⟨bk BK102.out⟩, ⟨hbk HB⟩⟩
end Go.Proofs.Ytpejhapgffcngaa.QK

