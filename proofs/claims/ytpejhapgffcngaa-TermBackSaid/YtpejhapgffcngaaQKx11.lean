/- Words and walks of this claim. -/
import Derived.Test.YtpejhapgffcngaaXShort
import Derived.Test.YtpejhapgffcngaaQKBegun
import Derived.Test.YtpejhapgffcngaaQKPut
import Derived.Test.YtpejhapgffcngaaQKLift
import Derived.Test.YtpejhapgffcngaaQKx0
import Derived.Test.YtpejhapgffcngaaQKx2
import Derived.Test.YtpejhapgffcngaaQKx4
import Derived.Test.YtpejhapgffcngaaQKx9
import Derived.Test.YtpejhapgffcngaaQKx10
namespace Go.Proofs.Ytpejhapgffcngaa.QK
open Go.RowKit Go.Proofs.YtpejhapgffcngaaW.PrintWords Go.Proofs.YtpejhapgffcngaaW.PrintLast Go.Proofs.YtpejhapgffcngaaW.PrintMore
attribute [local go_sem] max2_int min2_int max_two min_two max_three min_three max_four min_four
set_option linter.unusedVariables false
set_option linter.unusedSimpArgs false
def touchstonelaw5_TermBack.j0 : Nat → Int → Int → Int → Bool → Int → Int → ByteArray → List (S76) → List (S27) → Int → Int → ByteArray → List (S76) → List (S27) → Option (Bool)
 | 0, _, _, _, _, _, _, _, _, _, _, _, _, _, _ => none
 | k + 1, x2, x3, x4, x29, x271000, x271001, x271002, x271003, x271004, x272000, x272001, x272002, x272003, x272004 => if x29 = true then (some true) else ((term_Lift.f k x271000 x271001 x271002 x271003 x271004 1 0).bind fun bt276 => ((term_Lift.f k x271000 x271001 x271002 x271003 x271004 (wrap64 (Int.tmod x2 9)) (wrap64 (Int.tmod x4 9))).bind fun bt286 => ((term_Lift.f k bt286.1 bt286.2.1 bt286.2.2.1 bt286.2.2.2.1 bt286.2.2.2.2 (wrap64 (Int.tmod x3 9)) (wrap64 (Int.tmod x4 9))).bind fun bt295 => ((term_Put.f k bt276.1 bt276.2.1 bt276.2.2.1 bt276.2.2.2.1 bt276.2.2.2.2 x272000 x272001 x272002 x272003 x272004).bind fun bt305 => ((touchstoneref5_Equal.f k bt305.1 bt305.2.1 bt305.2.2.1 bt305.2.2.2.1 bt305.2.2.2.2 x271000 x271001 x271002 x271003 x271004).bind fun t314 => (if t314 = true then ((term_Lift.f k x271000 x271001 x271002 x271003 x271004 (wrap64 ((wrap64 (Int.tmod x2 9)) + (wrap64 (Int.tmod x3 9)))) (wrap64 (Int.tmod x4 9))).bind fun bt315 => ((touchstoneref5_Equal.f k bt295.1 bt295.2.1 bt295.2.2.1 bt295.2.2.2.1 bt295.2.2.2.2 bt315.1 bt315.2.1 bt315.2.2.1 bt315.2.2.2.1 bt315.2.2.2.2).bind fun t324 => (if t324 = true then ((term_Uses.f k bt276.1 bt276.2.1 bt276.2.2.1 bt276.2.2.2.1 bt276.2.2.2.2 0).bind fun t325 => (if t325 = true then (none) else ((term_Uses.f k bt276.1 bt276.2.1 bt276.2.2.1 bt276.2.2.2.1 bt276.2.2.2.2 (wrap64 ((wrap64 (Int.tmod x4 9)) + 1))).bind fun t326 => ((term_Uses.f k x271000 x271001 x271002 x271003 x271004 (wrap64 (Int.tmod x4 9))).bind fun t327 => (if (t326 == t327) = true then ((term_Lift.f k x271000 x271001 x271002 x271003 x271004 0 (wrap64 (Int.tmod x4 9))).bind fun bt328 => ((touchstoneref5_Equal.f k bt328.1 bt328.2.1 bt328.2.2.1 bt328.2.2.2.1 bt328.2.2.2.2 x271000 x271001 x271002 x271003 x271004).bind fun t337 => (some t337))) else (none)))))) else (none)))) else (none)))))))
def touchstonelaw5_TermBack.f (k : Nat) (a0_0 : Int) (a0_1 : Int) (a0_2 : ByteArray) (l0_3 : List (S76)) (l0_4 : List (S27)) (a1_0 : Int) (a1_1 : Int) (a1_2 : ByteArray) (l1_3 : List (S76)) (l1_4 : List (S27)) (a2 : Int) (a3 : Int) (a4 : Int) : Option (Bool) := (touchstonelaw5_begun.f k).bind fun t272 => (if t272 = true then ((touchstonelaw5_Light.f k a0_0 a0_1 a0_2 l0_3 l0_4 500).bind fun t273 => (if t273 = true then ((touchstonelaw5_Light.f k a1_0 a1_1 a1_2 l1_3 l1_4 100).bind fun t274 => (if t274 = true then ((touchstonelaw5_far.f k a0_0 a0_1 a0_2 l0_3 l0_4).bind fun t275 => (touchstonelaw5_TermBack.j0 k a2 a3 a4 t275 a0_0 a0_1 a0_2 l0_3 l0_4 a1_0 a1_1 a1_2 l1_3 l1_4)) else (touchstonelaw5_TermBack.j0 k a2 a3 a4 true a0_0 a0_1 a0_2 l0_3 l0_4 a1_0 a1_1 a1_2 l1_3 l1_4))) else (touchstonelaw5_TermBack.j0 k a2 a3 a4 true a0_0 a0_1 a0_2 l0_3 l0_4 a1_0 a1_1 a1_2 l1_3 l1_4))) else (none))
theorem touchstonelaw5_TermBack.mono_l : ∀ k, (∀ y0 y1 y2 y3 y4 y5 y6 y7 y8 y9 y10 y11 y12 y13, LeO (touchstonelaw5_TermBack.j0 k y0 y1 y2 y3 y4 y5 y6 y7 y8 y9 y10 y11 y12 y13) (touchstonelaw5_TermBack.j0 (k + 1) y0 y1 y2 y3 y4 y5 y6 y7 y8 y9 y10 y11 y12 y13))
 | 0 => fun _ _ _ _ _ _ _ _ _ _ _ _ _ _ r h => by simp [touchstonelaw5_TermBack.j0] at h
 | k + 1 => by
  have ih0 := touchstonelaw5_TermBack.mono_l k
  ·intro y0 y1 y2 y3 y4 y5 y6 y7 y8 y9 y10 y11 y12 y13
   unfold touchstonelaw5_TermBack.j0
   repeat' first
   | (with_reducible exact ih0 _ _ _ _ _ _ _ _ _ _ _ _ _ _)
   | (with_reducible exact term_Lift.mono _ _ _ _ _ _ _ _)
   | (with_reducible exact term_Put.mono _ _ _ _ _ _ _ _ _ _ _)
   | (with_reducible exact term_Uses.mono _ _ _ _ _ _ _)
   | (with_reducible exact touchstonelaw5_Light.mono _ _ _ _ _ _ _)
   | (with_reducible exact touchstonelaw5_begun.mono _)
   | (with_reducible exact touchstonelaw5_far.mono _ _ _ _ _ _)
   | (with_reducible exact touchstoneref5_Equal.mono _ _ _ _ _ _ _ _ _ _ _)
   | (with_reducible exact LeO.refl _)
   | (with_reducible exact LeO.none _)
   | (with_reducible refine LeO.ite ?_ ?_)
   | (with_reducible refine LeO.bind ?_ (fun _ => ?_))
   | exact ih0 _ _ _ _ _ _ _ _ _ _ _ _ _ _
   | exact term_Lift.mono _ _ _ _ _ _ _ _
   | exact term_Put.mono _ _ _ _ _ _ _ _ _ _ _
   | exact term_Uses.mono _ _ _ _ _ _ _
   | exact touchstonelaw5_Light.mono _ _ _ _ _ _ _
   | exact touchstonelaw5_begun.mono _
   | exact touchstonelaw5_far.mono _ _ _ _ _ _
   | exact touchstoneref5_Equal.mono _ _ _ _ _ _ _ _ _ _ _
   | exact LeO.none _
   | refine LeO.ite ?_ ?_
   | refine LeO.bind ?_ (fun _ => ?_)
theorem touchstonelaw5_TermBack.mono : ∀ a0 a1 a2 a3 a4 a5 a6 a7 a8 a9 a10 a11 a12 k, LeO (touchstonelaw5_TermBack.f k a0 a1 a2 a3 a4 a5 a6 a7 a8 a9 a10 a11 a12) (touchstonelaw5_TermBack.f (k + 1) a0 a1 a2 a3 a4 a5 a6 a7 a8 a9 a10 a11 a12) := by
 intro a0 a1 a2 a3 a4 a5 a6 a7 a8 a9 a10 a11 a12 k
 have ih0 := touchstonelaw5_TermBack.mono_l k
 unfold touchstonelaw5_TermBack.f
 repeat' first
   | (with_reducible exact ih0 _ _ _ _ _ _ _ _ _ _ _ _ _ _)
   | (with_reducible exact term_Lift.mono _ _ _ _ _ _ _ _)
   | (with_reducible exact term_Put.mono _ _ _ _ _ _ _ _ _ _ _)
   | (with_reducible exact term_Uses.mono _ _ _ _ _ _ _)
   | (with_reducible exact touchstonelaw5_Light.mono _ _ _ _ _ _ _)
   | (with_reducible exact touchstonelaw5_begun.mono _)
   | (with_reducible exact touchstonelaw5_far.mono _ _ _ _ _ _)
   | (with_reducible exact touchstoneref5_Equal.mono _ _ _ _ _ _ _ _ _ _ _)
   | (with_reducible exact LeO.refl _)
   | (with_reducible exact LeO.none _)
   | (with_reducible refine LeO.ite ?_ ?_)
   | (with_reducible refine LeO.bind ?_ (fun _ => ?_))
   | exact ih0 _ _ _ _ _ _ _ _ _ _ _ _ _ _
   | exact term_Lift.mono _ _ _ _ _ _ _ _
   | exact term_Put.mono _ _ _ _ _ _ _ _ _ _ _
   | exact term_Uses.mono _ _ _ _ _ _ _
   | exact touchstonelaw5_Light.mono _ _ _ _ _ _ _
   | exact touchstonelaw5_begun.mono _
   | exact touchstonelaw5_far.mono _ _ _ _ _ _
   | exact touchstoneref5_Equal.mono _ _ _ _ _ _ _ _ _ _ _
   | exact LeO.none _
   | refine LeO.ite ?_ ?_
   | refine LeO.bind ?_ (fun _ => ?_)
def touchstonelaw5_TermBack.T8 : Bool × List (List Nat × List Nat) := (true, [([], []), ([], []), ([0, 1], [0, 1]), ([], []), ([2, 3, 2], [2, 3]), ([4, 4], [4]), ([5], [5]), ([5], [5]), ([5], [5]), ([5], [5]), ([8, 9, 5], [5, 8, 9]), ([5], [5]), ([7, 10, 11, 5, 5], [5, 7, 10, 11]), ([6, 12, 12, 5], [5, 6, 12]), ([5, 13], [5, 13]), ([14, 13], [14]), ([15], [15]), ([16, 15, 15], [15, 16]), ([17, 15], [15, 17]), ([15, 18], [15, 18]), ([19, 17], [19]), ([20], [20]), ([20], [20]), ([22, 20], [20, 22]), ([21, 23, 20, 20], [20, 21, 23]), ([20], [20]), ([20], [20]), ([25, 26, 24, 20], [20, 25, 26]), ([24, 27, 20], [20, 24, 27]), ([20, 28], [20, 28]), ([29, 27], [29]), ([30], [30]), ([30], [30]), ([31, 32, 30, 30], [30, 31, 32]), ([30], [30]), ([33, 34, 33, 30], [30, 33, 34]), ([30, 35], [30, 35]), ([36, 35, 0, 1, 2, 3, 4, 5, 6, 7, 8, 9, 10, 11, 12, 13, 14, 15, 16, 17, 18, 19, 20, 21, 22, 23, 24, 25, 26, 27, 28, 29, 30, 31, 32, 33, 34, 35, 36], [36])])
def touchstonelaw5_TermBack.B8 : List Nat := [0, 0, 3, 0, 15, 31, 63, 63, 63, 63, 831, 63, 4031, 8191, 16383, 32767, 65535, 131071, 262143, 524287, 1048575, 2097151, 2097151, 6291455, 16777215, 2097151, 2097151, 134217727, 268435455, 536870911, 1073741823, 2147483647, 2147483647, 8589934591, 2147483647, 34359738367, 68719476735, 137438953471]
theorem touchstonelaw5_TermBack.tab8 : rtab .any (opsOf Try.f8 8) = touchstonelaw5_TermBack.T8 := by kernel_rfl
theorem touchstonelaw5_TermBack.bits8 : waitsOk touchstonelaw5_TermBack.T8.2 touchstonelaw5_TermBack.B8 = true := by kernel_rfl
set_option maxHeartbeats 8000000 in
set_option maxRecDepth 100000 in
theorem touchstonelaw5_TermBack.calls (k : Nat) (a0_0 : Int) (a0_1 : Int) (a0_2 : ByteArray) (A0_3 : Option Addr) (c0_3 : Nat) (l0_3 : List (S76)) (A0_4 : Option Addr) (c0_4 : Nat) (l0_4 : List (S27)) (a1_0 : Int) (a1_1 : Int) (a1_2 : ByteArray) (A1_3 : Option Addr) (c1_3 : Nat) (l1_3 : List (S76)) (A1_4 : Option Addr) (c1_4 : Nat) (l1_4 : List (S27)) (a2 : Int) (a3 : Int) (a4 : Int) (r : Bool) (w : World) (hr0_3 : Kd.C k76 w A0_3 l0_3.length l0_3) (hc0_3 : l0_3.length ≤ c0_3) (hr0_4 : Kd.C k27 w A0_4 l0_4.length l0_4) (hc0_4 : l0_4.length ≤ c0_4) (hr1_3 : Kd.C k76 w A1_3 l1_3.length l1_3) (hc1_3 : l1_3.length ≤ c1_3) (hr1_4 : Kd.C k27 w A1_4 l1_4.length l1_4) (hc1_4 : l1_4.length ≤ c1_4) (h : touchstonelaw5_TermBack.f k a0_0 a0_1 a0_2 l0_3 l0_4 a1_0 a1_1 a1_2 l1_3 l1_4 a2 a3 a4 = some r) :
  Calls Try.prog 8 #[.agg #[.int .i64 a0_0, .int .i64 a0_1, .string a0_2, .slice A0_3 l0_3.length c0_3, .slice A0_4 l0_4.length c0_4], .agg #[.int .i64 a1_0, .int .i64 a1_1, .string a1_2, .slice A1_3 l1_3.length c1_3, .slice A1_4 l1_4.length c1_4], .int .u8 a2, .int .u8 a3, .int .u8 a4] w fun e w' => e = .returned (.bool r) ∧ Below w.heap.size w w' := by
 have hu27 := Try.underlying27
 have HR0_3 := aS hr0_3
 have HC0_3 := aS hc0_3
 clear hr0_3 hc0_3
 have HR0_4 := aS hr0_4
 have HC0_4 := aS hc0_4
 clear hr0_4 hc0_4
 have HR1_3 := aS hr1_3
 have HC1_3 := aS hc1_3
 clear hr1_3 hc1_3
 have HR1_4 := aS hr1_4
 have HC1_4 := aS hc1_4
 clear hr1_4 hc1_4
 have HB := aS (Below.refl w.heap.size w)
 have H : ((touchstonelaw5_begun.f k).bind fun t272 => (if t272 = true then ((touchstonelaw5_Light.f k a0_0 a0_1 a0_2 l0_3 l0_4 500).bind fun t273 => (if t273 = true then ((touchstonelaw5_Light.f k a1_0 a1_1 a1_2 l1_3 l1_4 100).bind fun t274 => (if t274 = true then ((touchstonelaw5_far.f k a0_0 a0_1 a0_2 l0_3 l0_4).bind fun t275 => (touchstonelaw5_TermBack.j0 k a2 a3 a4 t275 a0_0 a0_1 a0_2 l0_3 l0_4 a1_0 a1_1 a1_2 l1_3 l1_4)) else (touchstonelaw5_TermBack.j0 k a2 a3 a4 true a0_0 a0_1 a0_2 l0_3 l0_4 a1_0 a1_1 a1_2 l1_3 l1_4))) else (touchstonelaw5_TermBack.j0 k a2 a3 a4 true a0_0 a0_1 a0_2 l0_3 l0_4 a1_0 a1_1 a1_2 l1_3 l1_4))) else (none))) = some r := h
 clear h
 replace H := Option.bind_eq_some_iff.mp H
 obtain ⟨t272, A60, H⟩ := H
 replace H : (if t272 = true then ((touchstonelaw5_Light.f k a0_0 a0_1 a0_2 l0_3 l0_4 500).bind fun t273 => (if t273 = true then ((touchstonelaw5_Light.f k a1_0 a1_1 a1_2 l1_3 l1_4 100).bind fun t274 => (if t274 = true then ((touchstonelaw5_far.f k a0_0 a0_1 a0_2 l0_3 l0_4).bind fun t275 => (touchstonelaw5_TermBack.j0 k a2 a3 a4 t275 a0_0 a0_1 a0_2 l0_3 l0_4 a1_0 a1_1 a1_2 l1_3 l1_4)) else (touchstonelaw5_TermBack.j0 k a2 a3 a4 true a0_0 a0_1 a0_2 l0_3 l0_4 a1_0 a1_1 a1_2 l1_3 l1_4))) else (touchstonelaw5_TermBack.j0 k a2 a3 a4 true a0_0 a0_1 a0_2 l0_3 l0_4 a1_0 a1_1 a1_2 l1_3 l1_4))) else (none)) = some r := H
 have A6 := aS A60
 clear A60
 by_cases c7 : t272 = true
 rotate_left
 ·replace c7 := Bool.eq_false_iff.mpr c7
  subst c7
  have H1 : (none) = some r := by rw [if_neg (show ¬ (false = true) by decide)] at H; exact H
  clear H
  have H := H1
  clear H1
  exact absurd H (by simp)
 subst c7
 have H1 : ((touchstonelaw5_Light.f k a0_0 a0_1 a0_2 l0_3 l0_4 500).bind fun t273 => (if t273 = true then ((touchstonelaw5_Light.f k a1_0 a1_1 a1_2 l1_3 l1_4 100).bind fun t274 => (if t274 = true then ((touchstonelaw5_far.f k a0_0 a0_1 a0_2 l0_3 l0_4).bind fun t275 => (touchstonelaw5_TermBack.j0 k a2 a3 a4 t275 a0_0 a0_1 a0_2 l0_3 l0_4 a1_0 a1_1 a1_2 l1_3 l1_4)) else (touchstonelaw5_TermBack.j0 k a2 a3 a4 true a0_0 a0_1 a0_2 l0_3 l0_4 a1_0 a1_1 a1_2 l1_3 l1_4))) else (touchstonelaw5_TermBack.j0 k a2 a3 a4 true a0_0 a0_1 a0_2 l0_3 l0_4 a1_0 a1_1 a1_2 l1_3 l1_4))) = some r := by rw [if_pos rfl] at H; exact H
 clear H
 have H := H1
 clear H1
 have HC8 := aS H
 clear H
 go_enter Try.func8, Try.ntmps8
 go_upto_region 3 with (first | ((with_reducible refine gate_dst (N := 5) rfl ?_); refine box_event ?hg (N := 5) ?hd (cs := #[.int .i64 a0_0, .int .i64 a0_1, .string a0_2, .slice A0_3 l0_3.length c0_3, .slice A0_4 l0_4.length c0_4]) (t := 27) ?hr ?_; (case hd => rfl); (case hg => rfl); (case hr => first | (go_simp; done) | (go_simp; rfl)); intro gb270 hg w9 hbox hb; have BK270 := aS (hbox); have GW270 := aS ((by rw [hg]; exact (below_size (hbk HB)) : w.heap.size ≤ gb270)); have GE270 := aS ((by rw [hg]; exact (below_size (hbk HB)) : w.heap.size ≤ gb270)); replace HB := Hs HB hb; clear hb hbox hg) | ((with_reducible refine gate_dst (N := 6) rfl ?_); refine box_event ?hg (N := 6) ?hd (cs := #[.int .i64 a1_0, .int .i64 a1_1, .string a1_2, .slice A1_3 l1_3.length c1_3, .slice A1_4 l1_4.length c1_4]) (t := 27) ?hr ?_; (case hd => rfl); (case hg => rfl); (case hr => first | (go_simp; done) | (go_simp; rfl)); intro gb271 hg w10 hbox hb; have BK271 := aS (hbox); have GW271 := aS ((by rw [hg]; exact (below_size (hbk HB)) : w.heap.size ≤ gb271)); have GE271 := aS ((by rw [hg]; exact (below_size (hbk HB)) : w.heap.size ≤ gb271)); replace HB := Hs HB hb; have NB270_271 := aS ((by rw [hg]; exact Nat.ne_of_lt (blk_lt (bkw BK270)) : gb270 ≠ gb271)); have NB271_270 := aS ((by rw [hg]; exact Nat.ne_of_gt (blk_lt (bkw BK270)) : gb271 ≠ gb270)); replace BK270 := Bk BK270 hb; clear hb hbox hg) | ((with_reducible refine gate_callee (f := 38) rfl ?_); refine goesL_ (some 16) rfl rfl Try.func38 (by kernel_rfl) rfl #[] rfl bl ?_; (with_reducible refine (touchstonelaw5_begun.calls k  true _ A6.out).mono ?_); rintro e w11 ⟨rfl, hb⟩; refine ⟨_, rfl, ?_⟩; replace BK270 := Bk BK270 hb; replace BK271 := Bk BK271 hb; replace HB := Hs HB hb; (try clear hb); (try clear hb2); (try clear hk); (try clear hi)))
 (try simp only [Act.put, List.setIfInBounds_toArray, List.set_cons_zero, List.set_cons_succ])
 go_cut [29] (fun v29 wc => ∃ (kq : Nat) (x29_7 : Bool), v29 = .bool x29_7 ∧ Aside0 (touchstonelaw5_TermBack.j0 kq a2 a3 a4 x29_7 a0_0 a0_1 a0_2 l0_3 l0_4 a1_0 a1_1 a1_2 l1_3 l1_4 = some r) ∧ Aside0 (kq ≤ k) ∧ Aside0 (wc.heap[gb270]? = some (.cells #[.int .i64 a0_0, .int .i64 a0_1, .string a0_2, (.slice A0_3 l0_3.length c0_3), (.slice A0_4 l0_4.length c0_4)] 27 (0, 0))) ∧ Aside0 (wc.heap[gb271]? = some (.cells #[.int .i64 a1_0, .int .i64 a1_1, .string a1_2, (.slice A1_3 l1_3.length c1_3), (.slice A1_4 l1_4.length c1_4)] 27 (0, 0))) ∧ Aside0 (Below w.heap.size w wc))
 case first =>
  have H := HC8.out
  clear HC8
  replace H := Option.bind_eq_some_iff.mp H
  obtain ⟨t273, A120, H⟩ := H
  replace H : (if t273 = true then ((touchstonelaw5_Light.f k a1_0 a1_1 a1_2 l1_3 l1_4 100).bind fun t274 => (if t274 = true then ((touchstonelaw5_far.f k a0_0 a0_1 a0_2 l0_3 l0_4).bind fun t275 => (touchstonelaw5_TermBack.j0 k a2 a3 a4 t275 a0_0 a0_1 a0_2 l0_3 l0_4 a1_0 a1_1 a1_2 l1_3 l1_4)) else (touchstonelaw5_TermBack.j0 k a2 a3 a4 true a0_0 a0_1 a0_2 l0_3 l0_4 a1_0 a1_1 a1_2 l1_3 l1_4))) else (touchstonelaw5_TermBack.j0 k a2 a3 a4 true a0_0 a0_1 a0_2 l0_3 l0_4 a1_0 a1_1 a1_2 l1_3 l1_4)) = some r := H
  have A12 := aS A120
  clear A120
  by_cases c13 : t273 = true
  rotate_left
  ·replace c13 := Bool.eq_false_iff.mpr c13
   subst c13
   have H1 : (touchstonelaw5_TermBack.j0 k a2 a3 a4 true a0_0 a0_1 a0_2 l0_3 l0_4 a1_0 a1_1 a1_2 l1_3 l1_4) = some r := by rw [if_neg (show ¬ (false = true) by decide)] at H; exact H
   clear H
   have H := H1
   clear H1
   have H' := aS H
   clear H
   have hnb29 := NB270_271.out
   have hnc29 := NB271_270.out
   obtain ⟨hcz30_0, hcz30_1, hcz30_2, hcz30_3, hcz30_4⟩ := cl5 BK270
   obtain ⟨hfz30_0, hfz30_1, hfz30_2, hfz30_3, hfz30_4⟩ := fz5 BK270
   go_wp2_with (first | ((with_reducible refine gate_callee (f := 39) rfl ?_); refine goesL_ (some 19) rfl rfl Try.func39 (by kernel_rfl) rfl #[.agg #[.int .i64 a0_0, .int .i64 a0_1, .string a0_2, .slice A0_3 l0_3.length c0_3, .slice A0_4 l0_4.length c0_4], .int .i64 500] rfl bl ?_; (with_reducible refine (touchstonelaw5_Light.calls k a0_0 a0_1 a0_2 _ _ l0_3 _ _ l0_4 500 false _ ?side1 ?side2 ?side3 ?side4 A12.out).mono ?_); (case side1 => exact cr (Kd.C_below HR0_3.out HB.out)); (case side2 => exact HC0_3.out); (case side3 => exact cr (Kd.C_below HR0_4.out HB.out)); (case side4 => exact HC0_4.out); rintro e w31 ⟨rfl, hb⟩; refine ⟨_, rfl, ?_⟩; replace BK270 := Bk BK270 hb; replace BK271 := Bk BK271 hb; replace HB := Hs HB hb; (try clear hb); (try clear hb2); (try clear hk); (try clear hi)))
   go_meet
   case rel => exact ⟨_, (true), br, H', ⟨by first | omega | exact Nat.le_refl _⟩, ⟨bk BK270.out⟩, ⟨bk BK271.out⟩, ⟨hbk HB⟩⟩
  subst c13
  have H1 : ((touchstonelaw5_Light.f k a1_0 a1_1 a1_2 l1_3 l1_4 100).bind fun t274 => (if t274 = true then ((touchstonelaw5_far.f k a0_0 a0_1 a0_2 l0_3 l0_4).bind fun t275 => (touchstonelaw5_TermBack.j0 k a2 a3 a4 t275 a0_0 a0_1 a0_2 l0_3 l0_4 a1_0 a1_1 a1_2 l1_3 l1_4)) else (touchstonelaw5_TermBack.j0 k a2 a3 a4 true a0_0 a0_1 a0_2 l0_3 l0_4 a1_0 a1_1 a1_2 l1_3 l1_4))) = some r := by rw [if_pos rfl] at H; exact H
  clear H
  have H := H1
  clear H1
  replace H := Option.bind_eq_some_iff.mp H
  obtain ⟨t274, A140, H⟩ := H
  replace H : (if t274 = true then ((touchstonelaw5_far.f k a0_0 a0_1 a0_2 l0_3 l0_4).bind fun t275 => (touchstonelaw5_TermBack.j0 k a2 a3 a4 t275 a0_0 a0_1 a0_2 l0_3 l0_4 a1_0 a1_1 a1_2 l1_3 l1_4)) else (touchstonelaw5_TermBack.j0 k a2 a3 a4 true a0_0 a0_1 a0_2 l0_3 l0_4 a1_0 a1_1 a1_2 l1_3 l1_4)) = some r := H
  have A14 := aS A140
  clear A140
  by_cases c15 : t274 = true
  rotate_left
  ·replace c15 := Bool.eq_false_iff.mpr c15
   subst c15
   have H1 : (touchstonelaw5_TermBack.j0 k a2 a3 a4 true a0_0 a0_1 a0_2 l0_3 l0_4 a1_0 a1_1 a1_2 l1_3 l1_4) = some r := by rw [if_neg (show ¬ (false = true) by decide)] at H; exact H
   clear H
   have H := H1
   clear H1
   have H' := aS H
   clear H
   have hnb24 := NB270_271.out
   have hnc24 := NB271_270.out
   obtain ⟨hcz25_0, hcz25_1, hcz25_2, hcz25_3, hcz25_4⟩ := cl5 BK270
   obtain ⟨hfz25_0, hfz25_1, hfz25_2, hfz25_3, hfz25_4⟩ := fz5 BK270
   go_wp2_with (first | ((with_reducible refine gate_callee (f := 39) rfl ?_); refine goesL_ (some 19) rfl rfl Try.func39 (by kernel_rfl) rfl #[.agg #[.int .i64 a0_0, .int .i64 a0_1, .string a0_2, .slice A0_3 l0_3.length c0_3, .slice A0_4 l0_4.length c0_4], .int .i64 500] rfl bl ?_; (with_reducible refine (touchstonelaw5_Light.calls k a0_0 a0_1 a0_2 _ _ l0_3 _ _ l0_4 500 true _ ?side1 ?side2 ?side3 ?side4 A12.out).mono ?_); (case side1 => exact cr (Kd.C_below HR0_3.out HB.out)); (case side2 => exact HC0_3.out); (case side3 => exact cr (Kd.C_below HR0_4.out HB.out)); (case side4 => exact HC0_4.out); rintro e w26 ⟨rfl, hb⟩; refine ⟨_, rfl, ?_⟩; replace BK270 := Bk BK270 hb; replace BK271 := Bk BK271 hb; replace HB := Hs HB hb; (try clear hb); (try clear hb2); (try clear hk); (try clear hi); obtain ⟨hcz27_0, hcz27_1, hcz27_2, hcz27_3, hcz27_4⟩ := cl5 BK271; obtain ⟨hfz27_0, hfz27_1, hfz27_2, hfz27_3, hfz27_4⟩ := fz5 BK271) | (go_at_call 39; (with_reducible refine (touchstonelaw5_Light.calls k a1_0 a1_1 a1_2 _ _ l1_3 _ _ l1_4 100 false _ ?side1 ?side2 ?side3 ?side4 A14.out).mono ?_); (case side1 => exact cr (Kd.C_below HR1_3.out HB.out)); (case side2 => exact HC1_3.out); (case side3 => exact cr (Kd.C_below HR1_4.out HB.out)); (case side4 => exact HC1_4.out); rintro e w28 ⟨rfl, hb⟩; replace BK270 := Bk BK270 hb; replace BK271 := Bk BK271 hb; replace HB := Hs HB hb; (try clear hb); (try clear hb2); (try clear hk); (try clear hi)))
   go_meet
   case rel => exact ⟨_, (true), br, H', ⟨by first | omega | exact Nat.le_refl _⟩, ⟨bk BK270.out⟩, ⟨bk BK271.out⟩, ⟨hbk HB⟩⟩
  subst c15
  have H1 : ((touchstonelaw5_far.f k a0_0 a0_1 a0_2 l0_3 l0_4).bind fun t275 => (touchstonelaw5_TermBack.j0 k a2 a3 a4 t275 a0_0 a0_1 a0_2 l0_3 l0_4 a1_0 a1_1 a1_2 l1_3 l1_4)) = some r := by rw [if_pos rfl] at H; exact H
  clear H
  have H := H1
  clear H1
  replace H := Option.bind_eq_some_iff.mp H
  obtain ⟨t275, A160, H⟩ := H
  replace H : (touchstonelaw5_TermBack.j0 k a2 a3 a4 t275 a0_0 a0_1 a0_2 l0_3 l0_4 a1_0 a1_1 a1_2 l1_3 l1_4) = some r := H
  have A16 := aS A160
  clear A160
  have H' := aS H
  clear H
  have hnb17 := NB270_271.out
  have hnc17 := NB271_270.out
  obtain ⟨hcz18_0, hcz18_1, hcz18_2, hcz18_3, hcz18_4⟩ := cl5 BK270
  obtain ⟨hfz18_0, hfz18_1, hfz18_2, hfz18_3, hfz18_4⟩ := fz5 BK270
  go_wp2_with (first | ((with_reducible refine gate_callee (f := 39) rfl ?_); refine goesL_ (some 19) rfl rfl Try.func39 (by kernel_rfl) rfl #[.agg #[.int .i64 a0_0, .int .i64 a0_1, .string a0_2, .slice A0_3 l0_3.length c0_3, .slice A0_4 l0_4.length c0_4], .int .i64 500] rfl bl ?_; (with_reducible refine (touchstonelaw5_Light.calls k a0_0 a0_1 a0_2 _ _ l0_3 _ _ l0_4 500 true _ ?side1 ?side2 ?side3 ?side4 A12.out).mono ?_); (case side1 => exact cr (Kd.C_below HR0_3.out HB.out)); (case side2 => exact HC0_3.out); (case side3 => exact cr (Kd.C_below HR0_4.out HB.out)); (case side4 => exact HC0_4.out); rintro e w19 ⟨rfl, hb⟩; refine ⟨_, rfl, ?_⟩; replace BK270 := Bk BK270 hb; replace BK271 := Bk BK271 hb; replace HB := Hs HB hb; (try clear hb); (try clear hb2); (try clear hk); (try clear hi); obtain ⟨hcz20_0, hcz20_1, hcz20_2, hcz20_3, hcz20_4⟩ := cl5 BK271; obtain ⟨hfz20_0, hfz20_1, hfz20_2, hfz20_3, hfz20_4⟩ := fz5 BK271) | (go_at_call 39; (with_reducible refine (touchstonelaw5_Light.calls k a1_0 a1_1 a1_2 _ _ l1_3 _ _ l1_4 100 true _ ?side1 ?side2 ?side3 ?side4 A14.out).mono ?_); (case side1 => exact cr (Kd.C_below HR1_3.out HB.out)); (case side2 => exact HC1_3.out); (case side3 => exact cr (Kd.C_below HR1_4.out HB.out)); (case side4 => exact HC1_4.out); rintro e w21 ⟨rfl, hb⟩; replace BK270 := Bk BK270 hb; replace BK271 := Bk BK271 hb; replace HB := Hs HB hb; (try clear hb); (try clear hb2); (try clear hk); (try clear hi); obtain ⟨hcz22_0, hcz22_1, hcz22_2, hcz22_3, hcz22_4⟩ := cl5 BK270; obtain ⟨hfz22_0, hfz22_1, hfz22_2, hfz22_3, hfz22_4⟩ := fz5 BK270) | (go_at_call 40; (with_reducible refine (touchstonelaw5_far.calls k a0_0 a0_1 a0_2 _ _ l0_3 _ _ l0_4 t275 _ ?side1 ?side2 ?side3 ?side4 A16.out).mono ?_); (case side1 => exact cr (Kd.C_below HR0_3.out HB.out)); (case side2 => exact HC0_3.out); (case side3 => exact cr (Kd.C_below HR0_4.out HB.out)); (case side4 => exact HC0_4.out); rintro e w23 ⟨rfl, hb⟩; replace BK270 := Bk BK270 hb; replace BK271 := Bk BK271 hb; replace HB := Hs HB hb; (try clear hb); (try clear hb2); (try clear hk); (try clear hi)))
  go_meet
  case rel => exact ⟨_, (t275), br, H', ⟨by first | omega | exact Nat.le_refl _⟩, ⟨bk BK270.out⟩, ⟨bk BK271.out⟩, ⟨hbk HB⟩⟩
 case rest =>
  clear HC8
  try clear c1
  try clear c2
  try clear p2
  try clear c3
  try clear c7
  try clear c8
  try clear c13
  try clear c15
  try clear c17
  try clear c24
  try clear c29
  try clear hcz18_0
  try clear hcz18_1
  try clear hcz18_2
  try clear hcz18_3
  try clear hcz18_4
  try clear hcz20_0
  try clear hcz20_1
  try clear hcz20_2
  try clear hcz20_3
  try clear hcz20_4
  try clear hcz22_0
  try clear hcz22_1
  try clear hcz22_2
  try clear hcz22_3
  try clear hcz22_4
  try clear hcz25_0
  try clear hcz25_1
  try clear hcz25_2
  try clear hcz25_3
  try clear hcz25_4
  try clear hcz27_0
  try clear hcz27_1
  try clear hcz27_2
  try clear hcz27_3
  try clear hcz27_4
  try clear hcz30_0
  try clear hcz30_1
  try clear hcz30_2
  try clear hcz30_3
  try clear hcz30_4
  try clear hfz18_0
  try clear hfz18_1
  try clear hfz18_2
  try clear hfz18_3
  try clear hfz18_4
  try clear hfz20_0
  try clear hfz20_1
  try clear hfz20_2
  try clear hfz20_3
  try clear hfz20_4
  try clear hfz22_0
  try clear hfz22_1
  try clear hfz22_2
  try clear hfz22_3
  try clear hfz22_4
  try clear hfz25_0
  try clear hfz25_1
  try clear hfz25_2
  try clear hfz25_3
  try clear hfz25_4
  try clear hfz27_0
  try clear hfz27_1
  try clear hfz27_2
  try clear hfz27_3
  try clear hfz27_4
  try clear hfz30_0
  try clear hfz30_1
  try clear hfz30_2
  try clear hfz30_3
  try clear hfz30_4
  obtain ⟨kq, x29_7, rfl, HA, HJ7, BK270, BK271, HB⟩ := hcut
  cases kq with
  | zero => exact absurd HA.out (by simp [touchstonelaw5_TermBack.j0])
  | succ kj7 =>
   have H := HA.out
   clear HA
   simp only [touchstonelaw5_TermBack.j0] at H
   by_cases c32 : x29_7 = true
   ·subst c32
    have H1 : (some true) = some r := by rw [if_pos rfl] at H; exact H
    clear H
    have H := H1
    clear H1
    obtain rfl := Option.some.inj H
    go_wp2
    go_ret
    exact ⟨by first | rfl | (simp [errW_none, errW_some] <;> rfl) | (simp [*, errW_none, errW_some] <;> rfl), hbk HB⟩
   replace c32 := Bool.eq_false_iff.mpr c32
   subst c32
   have H1 : ((term_Lift.f kj7 a0_0 a0_1 a0_2 l0_3 l0_4 1 0).bind fun bt276 => ((term_Lift.f kj7 a0_0 a0_1 a0_2 l0_3 l0_4 (wrap64 (Int.tmod a2 9)) (wrap64 (Int.tmod a4 9))).bind fun bt286 => ((term_Lift.f kj7 bt286.1 bt286.2.1 bt286.2.2.1 bt286.2.2.2.1 bt286.2.2.2.2 (wrap64 (Int.tmod a3 9)) (wrap64 (Int.tmod a4 9))).bind fun bt295 => ((term_Put.f kj7 bt276.1 bt276.2.1 bt276.2.2.1 bt276.2.2.2.1 bt276.2.2.2.2 a1_0 a1_1 a1_2 l1_3 l1_4).bind fun bt305 => ((touchstoneref5_Equal.f kj7 bt305.1 bt305.2.1 bt305.2.2.1 bt305.2.2.2.1 bt305.2.2.2.2 a0_0 a0_1 a0_2 l0_3 l0_4).bind fun t314 => (if t314 = true then ((term_Lift.f kj7 a0_0 a0_1 a0_2 l0_3 l0_4 (wrap64 ((wrap64 (Int.tmod a2 9)) + (wrap64 (Int.tmod a3 9)))) (wrap64 (Int.tmod a4 9))).bind fun bt315 => ((touchstoneref5_Equal.f kj7 bt295.1 bt295.2.1 bt295.2.2.1 bt295.2.2.2.1 bt295.2.2.2.2 bt315.1 bt315.2.1 bt315.2.2.1 bt315.2.2.2.1 bt315.2.2.2.2).bind fun t324 => (if t324 = true then ((term_Uses.f kj7 bt276.1 bt276.2.1 bt276.2.2.1 bt276.2.2.2.1 bt276.2.2.2.2 0).bind fun t325 => (if t325 = true then (none) else ((term_Uses.f kj7 bt276.1 bt276.2.1 bt276.2.2.1 bt276.2.2.2.1 bt276.2.2.2.2 (wrap64 ((wrap64 (Int.tmod a4 9)) + 1))).bind fun t326 => ((term_Uses.f kj7 a0_0 a0_1 a0_2 l0_3 l0_4 (wrap64 (Int.tmod a4 9))).bind fun t327 => (if (t326 == t327) = true then ((term_Lift.f kj7 a0_0 a0_1 a0_2 l0_3 l0_4 0 (wrap64 (Int.tmod a4 9))).bind fun bt328 => ((touchstoneref5_Equal.f kj7 bt328.1 bt328.2.1 bt328.2.2.1 bt328.2.2.2.1 bt328.2.2.2.2 a0_0 a0_1 a0_2 l0_3 l0_4).bind fun t337 => (some t337))) else (none)))))) else (none)))) else (none))))))) = some r := by rw [if_neg (show ¬ (false = true) by decide)] at H; exact H
   clear H
   have H := H1
   clear H1
   replace H := Option.bind_eq_some_iff.mp H
   obtain ⟨⟨t276, t277, t278, t279, t282⟩, A330, H⟩ := H
   replace H : ((term_Lift.f kj7 a0_0 a0_1 a0_2 l0_3 l0_4 (wrap64 (Int.tmod a2 9)) (wrap64 (Int.tmod a4 9))).bind fun bt286 => ((term_Lift.f kj7 bt286.1 bt286.2.1 bt286.2.2.1 bt286.2.2.2.1 bt286.2.2.2.2 (wrap64 (Int.tmod a3 9)) (wrap64 (Int.tmod a4 9))).bind fun bt295 => ((term_Put.f kj7 t276 t277 t278 t279 t282 a1_0 a1_1 a1_2 l1_3 l1_4).bind fun bt305 => ((touchstoneref5_Equal.f kj7 bt305.1 bt305.2.1 bt305.2.2.1 bt305.2.2.2.1 bt305.2.2.2.2 a0_0 a0_1 a0_2 l0_3 l0_4).bind fun t314 => (if t314 = true then ((term_Lift.f kj7 a0_0 a0_1 a0_2 l0_3 l0_4 (wrap64 ((wrap64 (Int.tmod a2 9)) + (wrap64 (Int.tmod a3 9)))) (wrap64 (Int.tmod a4 9))).bind fun bt315 => ((touchstoneref5_Equal.f kj7 bt295.1 bt295.2.1 bt295.2.2.1 bt295.2.2.2.1 bt295.2.2.2.2 bt315.1 bt315.2.1 bt315.2.2.1 bt315.2.2.2.1 bt315.2.2.2.2).bind fun t324 => (if t324 = true then ((term_Uses.f kj7 t276 t277 t278 t279 t282 0).bind fun t325 => (if t325 = true then (none) else ((term_Uses.f kj7 t276 t277 t278 t279 t282 (wrap64 ((wrap64 (Int.tmod a4 9)) + 1))).bind fun t326 => ((term_Uses.f kj7 a0_0 a0_1 a0_2 l0_3 l0_4 (wrap64 (Int.tmod a4 9))).bind fun t327 => (if (t326 == t327) = true then ((term_Lift.f kj7 a0_0 a0_1 a0_2 l0_3 l0_4 0 (wrap64 (Int.tmod a4 9))).bind fun bt328 => ((touchstoneref5_Equal.f kj7 bt328.1 bt328.2.1 bt328.2.2.1 bt328.2.2.2.1 bt328.2.2.2.2 a0_0 a0_1 a0_2 l0_3 l0_4).bind fun t337 => (some t337))) else (none)))))) else (none)))) else (none)))))) = some r := H
   have A33 := aS A330
   clear A330
   replace H := Option.bind_eq_some_iff.mp H
   obtain ⟨⟨t286, t287, t288, t289, t292⟩, A340, H⟩ := H
   replace H : ((term_Lift.f kj7 t286 t287 t288 t289 t292 (wrap64 (Int.tmod a3 9)) (wrap64 (Int.tmod a4 9))).bind fun bt295 => ((term_Put.f kj7 t276 t277 t278 t279 t282 a1_0 a1_1 a1_2 l1_3 l1_4).bind fun bt305 => ((touchstoneref5_Equal.f kj7 bt305.1 bt305.2.1 bt305.2.2.1 bt305.2.2.2.1 bt305.2.2.2.2 a0_0 a0_1 a0_2 l0_3 l0_4).bind fun t314 => (if t314 = true then ((term_Lift.f kj7 a0_0 a0_1 a0_2 l0_3 l0_4 (wrap64 ((wrap64 (Int.tmod a2 9)) + (wrap64 (Int.tmod a3 9)))) (wrap64 (Int.tmod a4 9))).bind fun bt315 => ((touchstoneref5_Equal.f kj7 bt295.1 bt295.2.1 bt295.2.2.1 bt295.2.2.2.1 bt295.2.2.2.2 bt315.1 bt315.2.1 bt315.2.2.1 bt315.2.2.2.1 bt315.2.2.2.2).bind fun t324 => (if t324 = true then ((term_Uses.f kj7 t276 t277 t278 t279 t282 0).bind fun t325 => (if t325 = true then (none) else ((term_Uses.f kj7 t276 t277 t278 t279 t282 (wrap64 ((wrap64 (Int.tmod a4 9)) + 1))).bind fun t326 => ((term_Uses.f kj7 a0_0 a0_1 a0_2 l0_3 l0_4 (wrap64 (Int.tmod a4 9))).bind fun t327 => (if (t326 == t327) = true then ((term_Lift.f kj7 a0_0 a0_1 a0_2 l0_3 l0_4 0 (wrap64 (Int.tmod a4 9))).bind fun bt328 => ((touchstoneref5_Equal.f kj7 bt328.1 bt328.2.1 bt328.2.2.1 bt328.2.2.2.1 bt328.2.2.2.2 a0_0 a0_1 a0_2 l0_3 l0_4).bind fun t337 => (some t337))) else (none)))))) else (none)))) else (none))))) = some r := H
   have A34 := aS A340
   clear A340
   replace H := Option.bind_eq_some_iff.mp H
   obtain ⟨⟨t295, t296, t297, t298, t301⟩, A350, H⟩ := H
   replace H : ((term_Put.f kj7 t276 t277 t278 t279 t282 a1_0 a1_1 a1_2 l1_3 l1_4).bind fun bt305 => ((touchstoneref5_Equal.f kj7 bt305.1 bt305.2.1 bt305.2.2.1 bt305.2.2.2.1 bt305.2.2.2.2 a0_0 a0_1 a0_2 l0_3 l0_4).bind fun t314 => (if t314 = true then ((term_Lift.f kj7 a0_0 a0_1 a0_2 l0_3 l0_4 (wrap64 ((wrap64 (Int.tmod a2 9)) + (wrap64 (Int.tmod a3 9)))) (wrap64 (Int.tmod a4 9))).bind fun bt315 => ((touchstoneref5_Equal.f kj7 t295 t296 t297 t298 t301 bt315.1 bt315.2.1 bt315.2.2.1 bt315.2.2.2.1 bt315.2.2.2.2).bind fun t324 => (if t324 = true then ((term_Uses.f kj7 t276 t277 t278 t279 t282 0).bind fun t325 => (if t325 = true then (none) else ((term_Uses.f kj7 t276 t277 t278 t279 t282 (wrap64 ((wrap64 (Int.tmod a4 9)) + 1))).bind fun t326 => ((term_Uses.f kj7 a0_0 a0_1 a0_2 l0_3 l0_4 (wrap64 (Int.tmod a4 9))).bind fun t327 => (if (t326 == t327) = true then ((term_Lift.f kj7 a0_0 a0_1 a0_2 l0_3 l0_4 0 (wrap64 (Int.tmod a4 9))).bind fun bt328 => ((touchstoneref5_Equal.f kj7 bt328.1 bt328.2.1 bt328.2.2.1 bt328.2.2.2.1 bt328.2.2.2.2 a0_0 a0_1 a0_2 l0_3 l0_4).bind fun t337 => (some t337))) else (none)))))) else (none)))) else (none)))) = some r := H
   have A35 := aS A350
   clear A350
   replace H := Option.bind_eq_some_iff.mp H
   obtain ⟨⟨t305, t306, t307, t308, t311⟩, A360, H⟩ := H
   replace H : ((touchstoneref5_Equal.f kj7 t305 t306 t307 t308 t311 a0_0 a0_1 a0_2 l0_3 l0_4).bind fun t314 => (if t314 = true then ((term_Lift.f kj7 a0_0 a0_1 a0_2 l0_3 l0_4 (wrap64 ((wrap64 (Int.tmod a2 9)) + (wrap64 (Int.tmod a3 9)))) (wrap64 (Int.tmod a4 9))).bind fun bt315 => ((touchstoneref5_Equal.f kj7 t295 t296 t297 t298 t301 bt315.1 bt315.2.1 bt315.2.2.1 bt315.2.2.2.1 bt315.2.2.2.2).bind fun t324 => (if t324 = true then ((term_Uses.f kj7 t276 t277 t278 t279 t282 0).bind fun t325 => (if t325 = true then (none) else ((term_Uses.f kj7 t276 t277 t278 t279 t282 (wrap64 ((wrap64 (Int.tmod a4 9)) + 1))).bind fun t326 => ((term_Uses.f kj7 a0_0 a0_1 a0_2 l0_3 l0_4 (wrap64 (Int.tmod a4 9))).bind fun t327 => (if (t326 == t327) = true then ((term_Lift.f kj7 a0_0 a0_1 a0_2 l0_3 l0_4 0 (wrap64 (Int.tmod a4 9))).bind fun bt328 => ((touchstoneref5_Equal.f kj7 bt328.1 bt328.2.1 bt328.2.2.1 bt328.2.2.2.1 bt328.2.2.2.2 a0_0 a0_1 a0_2 l0_3 l0_4).bind fun t337 => (some t337))) else (none)))))) else (none)))) else (none))) = some r := H
   have A36 := aS A360
   clear A360
   replace H := Option.bind_eq_some_iff.mp H
   obtain ⟨t314, A370, H⟩ := H
   replace H : (if t314 = true then ((term_Lift.f kj7 a0_0 a0_1 a0_2 l0_3 l0_4 (wrap64 ((wrap64 (Int.tmod a2 9)) + (wrap64 (Int.tmod a3 9)))) (wrap64 (Int.tmod a4 9))).bind fun bt315 => ((touchstoneref5_Equal.f kj7 t295 t296 t297 t298 t301 bt315.1 bt315.2.1 bt315.2.2.1 bt315.2.2.2.1 bt315.2.2.2.2).bind fun t324 => (if t324 = true then ((term_Uses.f kj7 t276 t277 t278 t279 t282 0).bind fun t325 => (if t325 = true then (none) else ((term_Uses.f kj7 t276 t277 t278 t279 t282 (wrap64 ((wrap64 (Int.tmod a4 9)) + 1))).bind fun t326 => ((term_Uses.f kj7 a0_0 a0_1 a0_2 l0_3 l0_4 (wrap64 (Int.tmod a4 9))).bind fun t327 => (if (t326 == t327) = true then ((term_Lift.f kj7 a0_0 a0_1 a0_2 l0_3 l0_4 0 (wrap64 (Int.tmod a4 9))).bind fun bt328 => ((touchstoneref5_Equal.f kj7 bt328.1 bt328.2.1 bt328.2.2.1 bt328.2.2.2.1 bt328.2.2.2.2 a0_0 a0_1 a0_2 l0_3 l0_4).bind fun t337 => (some t337))) else (none)))))) else (none)))) else (none)) = some r := H
   have A37 := aS A370
   clear A370
   by_cases c38 : t314 = true
   rotate_left
   ·replace c38 := Bool.eq_false_iff.mpr c38
    subst c38
    have H1 : (none) = some r := by rw [if_neg (show ¬ (false = true) by decide)] at H; exact H
    clear H
    have H := H1
    clear H1
    exact absurd H (by simp)
   subst c38
   have H1 : ((term_Lift.f kj7 a0_0 a0_1 a0_2 l0_3 l0_4 (wrap64 ((wrap64 (Int.tmod a2 9)) + (wrap64 (Int.tmod a3 9)))) (wrap64 (Int.tmod a4 9))).bind fun bt315 => ((touchstoneref5_Equal.f kj7 t295 t296 t297 t298 t301 bt315.1 bt315.2.1 bt315.2.2.1 bt315.2.2.2.1 bt315.2.2.2.2).bind fun t324 => (if t324 = true then ((term_Uses.f kj7 t276 t277 t278 t279 t282 0).bind fun t325 => (if t325 = true then (none) else ((term_Uses.f kj7 t276 t277 t278 t279 t282 (wrap64 ((wrap64 (Int.tmod a4 9)) + 1))).bind fun t326 => ((term_Uses.f kj7 a0_0 a0_1 a0_2 l0_3 l0_4 (wrap64 (Int.tmod a4 9))).bind fun t327 => (if (t326 == t327) = true then ((term_Lift.f kj7 a0_0 a0_1 a0_2 l0_3 l0_4 0 (wrap64 (Int.tmod a4 9))).bind fun bt328 => ((touchstoneref5_Equal.f kj7 bt328.1 bt328.2.1 bt328.2.2.1 bt328.2.2.2.1 bt328.2.2.2.2 a0_0 a0_1 a0_2 l0_3 l0_4).bind fun t337 => (some t337))) else (none)))))) else (none)))) = some r := by rw [if_pos rfl] at H; exact H
   clear H
   have H := H1
   clear H1
   replace H := Option.bind_eq_some_iff.mp H
   obtain ⟨⟨t315, t316, t317, t318, t321⟩, A390, H⟩ := H
   replace H : ((touchstoneref5_Equal.f kj7 t295 t296 t297 t298 t301 t315 t316 t317 t318 t321).bind fun t324 => (if t324 = true then ((term_Uses.f kj7 t276 t277 t278 t279 t282 0).bind fun t325 => (if t325 = true then (none) else ((term_Uses.f kj7 t276 t277 t278 t279 t282 (wrap64 ((wrap64 (Int.tmod a4 9)) + 1))).bind fun t326 => ((term_Uses.f kj7 a0_0 a0_1 a0_2 l0_3 l0_4 (wrap64 (Int.tmod a4 9))).bind fun t327 => (if (t326 == t327) = true then ((term_Lift.f kj7 a0_0 a0_1 a0_2 l0_3 l0_4 0 (wrap64 (Int.tmod a4 9))).bind fun bt328 => ((touchstoneref5_Equal.f kj7 bt328.1 bt328.2.1 bt328.2.2.1 bt328.2.2.2.1 bt328.2.2.2.2 a0_0 a0_1 a0_2 l0_3 l0_4).bind fun t337 => (some t337))) else (none)))))) else (none))) = some r := H
   have A39 := aS A390
   clear A390
   replace H := Option.bind_eq_some_iff.mp H
   obtain ⟨t324, A400, H⟩ := H
   replace H : (if t324 = true then ((term_Uses.f kj7 t276 t277 t278 t279 t282 0).bind fun t325 => (if t325 = true then (none) else ((term_Uses.f kj7 t276 t277 t278 t279 t282 (wrap64 ((wrap64 (Int.tmod a4 9)) + 1))).bind fun t326 => ((term_Uses.f kj7 a0_0 a0_1 a0_2 l0_3 l0_4 (wrap64 (Int.tmod a4 9))).bind fun t327 => (if (t326 == t327) = true then ((term_Lift.f kj7 a0_0 a0_1 a0_2 l0_3 l0_4 0 (wrap64 (Int.tmod a4 9))).bind fun bt328 => ((touchstoneref5_Equal.f kj7 bt328.1 bt328.2.1 bt328.2.2.1 bt328.2.2.2.1 bt328.2.2.2.2 a0_0 a0_1 a0_2 l0_3 l0_4).bind fun t337 => (some t337))) else (none)))))) else (none)) = some r := H
   have A40 := aS A400
   clear A400
   by_cases c41 : t324 = true
   rotate_left
   ·replace c41 := Bool.eq_false_iff.mpr c41
    subst c41
    have H1 : (none) = some r := by rw [if_neg (show ¬ (false = true) by decide)] at H; exact H
    clear H
    have H := H1
    clear H1
    exact absurd H (by simp)
   subst c41
   have H1 : ((term_Uses.f kj7 t276 t277 t278 t279 t282 0).bind fun t325 => (if t325 = true then (none) else ((term_Uses.f kj7 t276 t277 t278 t279 t282 (wrap64 ((wrap64 (Int.tmod a4 9)) + 1))).bind fun t326 => ((term_Uses.f kj7 a0_0 a0_1 a0_2 l0_3 l0_4 (wrap64 (Int.tmod a4 9))).bind fun t327 => (if (t326 == t327) = true then ((term_Lift.f kj7 a0_0 a0_1 a0_2 l0_3 l0_4 0 (wrap64 (Int.tmod a4 9))).bind fun bt328 => ((touchstoneref5_Equal.f kj7 bt328.1 bt328.2.1 bt328.2.2.1 bt328.2.2.2.1 bt328.2.2.2.2 a0_0 a0_1 a0_2 l0_3 l0_4).bind fun t337 => (some t337))) else (none)))))) = some r := by rw [if_pos rfl] at H; exact H
   clear H
   have H := H1
   clear H1
   replace H := Option.bind_eq_some_iff.mp H
   obtain ⟨t325, A420, H⟩ := H
   replace H : (if t325 = true then (none) else ((term_Uses.f kj7 t276 t277 t278 t279 t282 (wrap64 ((wrap64 (Int.tmod a4 9)) + 1))).bind fun t326 => ((term_Uses.f kj7 a0_0 a0_1 a0_2 l0_3 l0_4 (wrap64 (Int.tmod a4 9))).bind fun t327 => (if (t326 == t327) = true then ((term_Lift.f kj7 a0_0 a0_1 a0_2 l0_3 l0_4 0 (wrap64 (Int.tmod a4 9))).bind fun bt328 => ((touchstoneref5_Equal.f kj7 bt328.1 bt328.2.1 bt328.2.2.1 bt328.2.2.2.1 bt328.2.2.2.2 a0_0 a0_1 a0_2 l0_3 l0_4).bind fun t337 => (some t337))) else (none))))) = some r := H
   have A42 := aS A420
   clear A420
   by_cases c43 : t325 = true
   ·subst c43
    have H1 : (none) = some r := by rw [if_pos rfl] at H; exact H
    clear H
    have H := H1
    clear H1
    exact absurd H (by simp)
   replace c43 := Bool.eq_false_iff.mpr c43
   subst c43
   have H1 : ((term_Uses.f kj7 t276 t277 t278 t279 t282 (wrap64 ((wrap64 (Int.tmod a4 9)) + 1))).bind fun t326 => ((term_Uses.f kj7 a0_0 a0_1 a0_2 l0_3 l0_4 (wrap64 (Int.tmod a4 9))).bind fun t327 => (if (t326 == t327) = true then ((term_Lift.f kj7 a0_0 a0_1 a0_2 l0_3 l0_4 0 (wrap64 (Int.tmod a4 9))).bind fun bt328 => ((touchstoneref5_Equal.f kj7 bt328.1 bt328.2.1 bt328.2.2.1 bt328.2.2.2.1 bt328.2.2.2.2 a0_0 a0_1 a0_2 l0_3 l0_4).bind fun t337 => (some t337))) else (none)))) = some r := by rw [if_neg (show ¬ (false = true) by decide)] at H; exact H
   clear H
   have H := H1
   clear H1
   replace H := Option.bind_eq_some_iff.mp H
   obtain ⟨t326, A440, H⟩ := H
   replace H : ((term_Uses.f kj7 a0_0 a0_1 a0_2 l0_3 l0_4 (wrap64 (Int.tmod a4 9))).bind fun t327 => (if (t326 == t327) = true then ((term_Lift.f kj7 a0_0 a0_1 a0_2 l0_3 l0_4 0 (wrap64 (Int.tmod a4 9))).bind fun bt328 => ((touchstoneref5_Equal.f kj7 bt328.1 bt328.2.1 bt328.2.2.1 bt328.2.2.2.1 bt328.2.2.2.2 a0_0 a0_1 a0_2 l0_3 l0_4).bind fun t337 => (some t337))) else (none))) = some r := H
   have A44 := aS A440
   clear A440
   replace H := Option.bind_eq_some_iff.mp H
   obtain ⟨t327, A450, H⟩ := H
   replace H : (if (t326 == t327) = true then ((term_Lift.f kj7 a0_0 a0_1 a0_2 l0_3 l0_4 0 (wrap64 (Int.tmod a4 9))).bind fun bt328 => ((touchstoneref5_Equal.f kj7 bt328.1 bt328.2.1 bt328.2.2.1 bt328.2.2.2.1 bt328.2.2.2.2 a0_0 a0_1 a0_2 l0_3 l0_4).bind fun t337 => (some t337))) else (none)) = some r := H
   have A45 := aS A450
   clear A450
   by_cases c46 : (t326 == t327) = true
   rotate_left
   ·rw [if_neg c46] at H
    exact absurd H (by simp)
   rw [if_pos c46] at H
   have c46b0 : (t326 == t327) = true := c46
   (try (have c46b1 : decide (t326 = t327) = true := by simpa using c46))
   (try (have c46b2 : (t326 == t327) = true := by simpa using c46))
   clear c46
   replace H := Option.bind_eq_some_iff.mp H
   obtain ⟨⟨t328, t329, t330, t331, t334⟩, A470, H⟩ := H
   replace H : ((touchstoneref5_Equal.f kj7 t328 t329 t330 t331 t334 a0_0 a0_1 a0_2 l0_3 l0_4).bind fun t337 => (some t337)) = some r := H
   have A47 := aS A470
   clear A470
   replace H := Option.bind_eq_some_iff.mp H
   obtain ⟨t337, A480, H⟩ := H
   replace H : (some t337) = some r := H
   have A48 := aS A480
   clear A480
   obtain rfl := Option.some.inj H
   have hnb49 := NB270_271.out
   have hnc49 := NB271_270.out
   obtain ⟨hcz50_0, hcz50_1, hcz50_2, hcz50_3, hcz50_4⟩ := cl5 BK270
   obtain ⟨hfz50_0, hfz50_1, hfz50_2, hfz50_3, hfz50_4⟩ := fz5 BK270
   try go_wp2_with (first | ((with_reducible refine gate_callee (f := 41) rfl ?_); refine goesL_ (some 40) rfl rfl Try.func41 (by kernel_rfl) rfl #[.agg #[.int .i64 a0_0, .int .i64 a0_1, .string a0_2, .slice A0_3 l0_3.length c0_3, .slice A0_4 l0_4.length c0_4], .int .i64 1, .int .i64 0] rfl bl ?_; (with_reducible refine (term_Lift.calls kj7 a0_0 a0_1 a0_2 _ _ l0_3 _ _ l0_4 1 0 t276 t277 t278 t279 t282 _ ?side1 ?side2 ?side3 ?side4 A33.out).mono ?_); (case side1 => exact cr (Kd.C_below HR0_3.out HB.out)); (case side2 => exact HC0_3.out); (case side3 => exact cr (Kd.C_below HR0_4.out HB.out)); (case side4 => exact HC0_4.out); rintro e w51 ⟨v280, v283, rfl, ho0, ho1, hb⟩; refine ⟨_, rfl, ?_⟩; have HO281 := aS (Kd.R_lower ho0 (below_size (hbk HB))); have HO284 := aS (Kd.R_lower (Kd.R_newB (Kd.R_newB ho1 (bkw BK270)) (bkw BK271)) (below_size (hbk HB))); replace BK270 := Bk BK270 hb; replace BK271 := Bk BK271 hb; replace HB := Hs HB hb; (try clear hb); (try clear hb2); (try clear hk); (try clear hi); (try clear ho0); (try clear ho1)) | ((with_reducible refine gate_dst (N := 14) rfl ?_); refine box_event ?hg (N := 14) ?hd (cs := #[.int .i64 0, .int .i64 0, .string (⟨#[]⟩ : ByteArray), .slice none 0 0, .slice none 0 0]) (t := 27) ?hr ?_; (case hd => rfl); (case hg => rfl); (case hr => first | (go_simp; done) | (go_simp; rfl)); intro gb285 hg w52 hbox hb; replace HO281 := aS (Kd.R_below (kr_ HO281.out) hb); replace HO284 := aS (Kd.R_below (Kd.R_elderB (kr_ HO284.out) gb285 (Nat.le_of_eq hg.symm)) hb); have BK285 := aS (hbox); have GW285 := aS ((by rw [hg]; exact (below_size (hbk HB)) : w.heap.size ≤ gb285)); have GE285 := aS ((by rw [hg]; exact (below_size (hbk HB)) : w.heap.size ≤ gb285)); replace HB := Hs HB hb; have NB270_285 := aS ((by rw [hg]; exact Nat.ne_of_lt (blk_lt (bkw BK270)) : gb270 ≠ gb285)); have NB285_270 := aS ((by rw [hg]; exact Nat.ne_of_gt (blk_lt (bkw BK270)) : gb285 ≠ gb270)); replace BK270 := Bk BK270 hb; have NB271_285 := aS ((by rw [hg]; exact Nat.ne_of_lt (blk_lt (bkw BK271)) : gb271 ≠ gb285)); have NB285_271 := aS ((by rw [hg]; exact Nat.ne_of_gt (blk_lt (bkw BK271)) : gb285 ≠ gb271)); replace BK271 := Bk BK271 hb; clear hb hbox hg; have hnb53 := NB285_270.out; have hnc53 := NB270_285.out; have hnb54 := NB285_271.out; have hnc54 := NB271_285.out; obtain ⟨hcz55_0, hcz55_1, hcz55_2, hcz55_3, hcz55_4⟩ := cl5 BK285; obtain ⟨hfz55_0, hfz55_1, hfz55_2, hfz55_3, hfz55_4⟩ := fz5 BK285; obtain ⟨Ao56, co56, eo56⟩ := Kd.R_slice HO281.out; subst eo56; obtain ⟨Ao57, co57, eo57⟩ := Kd.R_slice HO284.out; subst eo57; obtain ⟨hcz58_0, hcz58_1, hcz58_2, hcz58_3, hcz58_4⟩ := cl5 BK270; obtain ⟨hfz58_0, hfz58_1, hfz58_2, hfz58_3, hfz58_4⟩ := fz5 BK270) | ((with_reducible refine gate_callee (f := 41) rfl ?_); refine goesL_ (some 44) rfl rfl Try.func41 (by kernel_rfl) rfl #[.agg #[.int .i64 a0_0, .int .i64 a0_1, .string a0_2, .slice A0_3 l0_3.length c0_3, .slice A0_4 l0_4.length c0_4], .int .i64 (wrap64 (Int.tmod a2 9)), .int .i64 (wrap64 (Int.tmod a4 9))] rfl bl ?_; (with_reducible refine (term_Lift.calls kj7 a0_0 a0_1 a0_2 _ _ l0_3 _ _ l0_4 (wrap64 (Int.tmod a2 9)) (wrap64 (Int.tmod a4 9)) t286 t287 t288 t289 t292 _ ?side1 ?side2 ?side3 ?side4 A34.out).mono ?_); (case side1 => exact Kd.C_below HR0_3.out (hbk HB)); (case side2 => exact HC0_3.out); (case side3 => exact Kd.C_below HR0_4.out (hbk HB)); (case side4 => exact HC0_4.out); rintro e w59 ⟨v290, v293, rfl, ho0, ho1, hb⟩; refine ⟨_, rfl, ?_⟩; have HO291 := aS (Kd.R_lower (Kd.R_new' ho0 (Kd.R_lt (by (with_reducible repeat (first | apply Kd.R_alloc | apply Kd.R_drewN | apply Kd.R_drew)); exact (Kd.R_mono (Kd.R_far (p := ⟨gb285, 4, none⟩) (Kd.R_far (p := ⟨gb285, 3, none⟩) (Kd.R_far (p := ⟨gb285, 2, none⟩) (Kd.R_far (p := ⟨gb285, 1, none⟩) (Kd.R_far (p := ⟨gb285, 0, none⟩) (Kd.R_types HO281.out BK285.out (by decide)) (fun _ hk => hk.2) (.int .i64 t276)) (fun _ hk => hk.2) (.int .i64 t277)) (fun _ hk => hk.2) (.string t278)) (fun _ hk => hk.2) (.slice Ao56 t279.length co56)) (fun _ hk => hk.2) (.slice Ao57 t282.length co57)) (fun _ h_ => h_.1))))) (below_size (hbk HB))); have HO294 := aS (Kd.R_lower (Kd.R_newB (Kd.R_newB (Kd.R_newB (Kd.R_new' (Kd.R_new' ho1 (Kd.R_lt (by (with_reducible repeat (first | apply Kd.R_alloc | apply Kd.R_drewN | apply Kd.R_drew)); exact (Kd.R_mono (Kd.R_far (p := ⟨gb285, 4, none⟩) (Kd.R_far (p := ⟨gb285, 3, none⟩) (Kd.R_far (p := ⟨gb285, 2, none⟩) (Kd.R_far (p := ⟨gb285, 1, none⟩) (Kd.R_far (p := ⟨gb285, 0, none⟩) (Kd.R_types HO281.out BK285.out (by decide)) (fun _ hk => hk.2) (.int .i64 t276)) (fun _ hk => hk.2) (.int .i64 t277)) (fun _ hk => hk.2) (.string t278)) (fun _ hk => hk.2) (.slice Ao56 t279.length co56)) (fun _ hk => hk.2) (.slice Ao57 t282.length co57)) (fun _ h_ => h_.1))))) (Kd.R_lt (by (with_reducible repeat (first | apply Kd.R_alloc | apply Kd.R_drewN | apply Kd.R_drew)); exact (Kd.R_mono (Kd.R_far (p := ⟨gb285, 4, none⟩) (Kd.R_far (p := ⟨gb285, 3, none⟩) (Kd.R_far (p := ⟨gb285, 2, none⟩) (Kd.R_far (p := ⟨gb285, 1, none⟩) (Kd.R_far (p := ⟨gb285, 0, none⟩) (Kd.R_mono HO284.out (fun k_ hk => (⟨hk, hk.2⟩ : _ ∧ k_ ≠ gb285))) (fun _ hk => hk.2) (.int .i64 t276)) (fun _ hk => hk.2) (.int .i64 t277)) (fun _ hk => hk.2) (.string t278)) (fun _ hk => hk.2) (.slice Ao56 t279.length co56)) (fun _ hk => hk.2) (.slice Ao57 t282.length co57)) (fun _ h_ => h_.1))))) (g := gb270) (o := .cells #[.int .i64 a0_0, .int .i64 a0_1, .string a0_2, .slice A0_3 l0_3.length c0_3, .slice A0_4 l0_4.length c0_4] 27 (0, 0)) (by (with_reducible repeat (first | refine blk_drewN ?_ _ | refine blk_drew ?_ | refine blk_alloc ?_ _)); refine blk_far ?_ NB270_285.out _; (with_reducible repeat (first | refine blk_drewN ?_ _ | refine blk_drew ?_ | refine blk_alloc ?_ _)); refine blk_far ?_ NB270_285.out _; (with_reducible repeat (first | refine blk_drewN ?_ _ | refine blk_drew ?_ | refine blk_alloc ?_ _)); refine blk_far ?_ NB270_285.out _; (with_reducible repeat (first | refine blk_drewN ?_ _ | refine blk_drew ?_ | refine blk_alloc ?_ _)); refine blk_far ?_ NB270_285.out _; (with_reducible repeat (first | refine blk_drewN ?_ _ | refine blk_drew ?_ | refine blk_alloc ?_ _)); refine blk_far ?_ NB270_285.out _; (with_reducible repeat (first | refine blk_drewN ?_ _ | refine blk_drew ?_ | refine blk_alloc ?_ _)); exact BK270.out)) (g := gb271) (o := .cells #[.int .i64 a1_0, .int .i64 a1_1, .string a1_2, .slice A1_3 l1_3.length c1_3, .slice A1_4 l1_4.length c1_4] 27 (0, 0)) (by (with_reducible repeat (first | refine blk_drewN ?_ _ | refine blk_drew ?_ | refine blk_alloc ?_ _)); refine blk_far ?_ NB271_285.out _; (with_reducible repeat (first | refine blk_drewN ?_ _ | refine blk_drew ?_ | refine blk_alloc ?_ _)); refine blk_far ?_ NB271_285.out _; (with_reducible repeat (first | refine blk_drewN ?_ _ | refine blk_drew ?_ | refine blk_alloc ?_ _)); refine blk_far ?_ NB271_285.out _; (with_reducible repeat (first | refine blk_drewN ?_ _ | refine blk_drew ?_ | refine blk_alloc ?_ _)); refine blk_far ?_ NB271_285.out _; (with_reducible repeat (first | refine blk_drewN ?_ _ | refine blk_drew ?_ | refine blk_alloc ?_ _)); refine blk_far ?_ NB271_285.out _; (with_reducible repeat (first | refine blk_drewN ?_ _ | refine blk_drew ?_ | refine blk_alloc ?_ _)); exact BK271.out)) (g := gb285) (o := .cells #[.int .i64 t276, .int .i64 t277, .string t278, .slice Ao56 t279.length co56, .slice Ao57 t282.length co57] 27 (0, 0)) (by (with_reducible repeat (first | refine blk_drewN ?_ _ | refine blk_drew ?_ | refine blk_alloc ?_ _)); refine blk_put (cs := #[.int .i64 t276, .int .i64 t277, .string t278, .slice Ao56 t279.length co56, .slice none 0 0]) ?_ 4 _ rfl; (with_reducible repeat (first | refine blk_drewN ?_ _ | refine blk_drew ?_ | refine blk_alloc ?_ _)); refine blk_put (cs := #[.int .i64 t276, .int .i64 t277, .string t278, .slice none 0 0, .slice none 0 0]) ?_ 3 _ rfl; (with_reducible repeat (first | refine blk_drewN ?_ _ | refine blk_drew ?_ | refine blk_alloc ?_ _)); refine blk_put (cs := #[.int .i64 t276, .int .i64 t277, .string (⟨#[]⟩ : ByteArray), .slice none 0 0, .slice none 0 0]) ?_ 2 _ rfl; (with_reducible repeat (first | refine blk_drewN ?_ _ | refine blk_drew ?_ | refine blk_alloc ?_ _)); refine blk_put (cs := #[.int .i64 t276, .int .i64 0, .string (⟨#[]⟩ : ByteArray), .slice none 0 0, .slice none 0 0]) ?_ 1 _ rfl; (with_reducible repeat (first | refine blk_drewN ?_ _ | refine blk_drew ?_ | refine blk_alloc ?_ _)); refine blk_put (cs := #[.int .i64 0, .int .i64 0, .string (⟨#[]⟩ : ByteArray), .slice none 0 0, .slice none 0 0]) ?_ 0 _ rfl; (with_reducible repeat (first | refine blk_drewN ?_ _ | refine blk_drew ?_ | refine blk_alloc ?_ _)); exact BK285.out)) (below_size (hbk HB))); replace HO281 := aS (Kd.R_elder' (by (with_reducible repeat (first | apply Kd.R_alloc | apply Kd.R_drewN | apply Kd.R_drew)); exact (Kd.R_mono (Kd.R_far (p := ⟨gb285, 4, none⟩) (Kd.R_far (p := ⟨gb285, 3, none⟩) (Kd.R_far (p := ⟨gb285, 2, none⟩) (Kd.R_far (p := ⟨gb285, 1, none⟩) (Kd.R_far (p := ⟨gb285, 0, none⟩) (Kd.R_types HO281.out BK285.out (by decide)) (fun _ hk => hk.2) (.int .i64 t276)) (fun _ hk => hk.2) (.int .i64 t277)) (fun _ hk => hk.2) (.string t278)) (fun _ hk => hk.2) (.slice Ao56 t279.length co56)) (fun _ hk => hk.2) (.slice Ao57 t282.length co57)) (fun _ h_ => h_.1))) (Kd.R_base ho0) hb); replace HO284 := aS (Kd.R_mono (Kd.R_told (Kd.R_told (Kd.R_old (by (with_reducible repeat (first | apply Kd.R_alloc | apply Kd.R_drewN | apply Kd.R_drew)); exact (Kd.R_mono (Kd.R_far (p := ⟨gb285, 4, none⟩) (Kd.R_far (p := ⟨gb285, 3, none⟩) (Kd.R_far (p := ⟨gb285, 2, none⟩) (Kd.R_far (p := ⟨gb285, 1, none⟩) (Kd.R_far (p := ⟨gb285, 0, none⟩) (Kd.R_mono HO284.out (fun k_ hk => (⟨hk, hk.2⟩ : _ ∧ k_ ≠ gb285))) (fun _ hk => hk.2) (.int .i64 t276)) (fun _ hk => hk.2) (.int .i64 t277)) (fun _ hk => hk.2) (.string t278)) (fun _ hk => hk.2) (.slice Ao56 t279.length co56)) (fun _ hk => hk.2) (.slice Ao57 t282.length co57)) (fun _ h_ => h_.1))) hb) (Kd.R_base ho0)) (Kd.R_base ho1)) (fun _ h_ => h_.1)); replace BK270 := aS (blk_below (g := gb270) (o := .cells #[.int .i64 a0_0, .int .i64 a0_1, .string a0_2, .slice A0_3 l0_3.length c0_3, .slice A0_4 l0_4.length c0_4] 27 (0, 0)) (by (with_reducible repeat (first | refine blk_drewN ?_ _ | refine blk_drew ?_ | refine blk_alloc ?_ _)); refine blk_far ?_ NB270_285.out _; (with_reducible repeat (first | refine blk_drewN ?_ _ | refine blk_drew ?_ | refine blk_alloc ?_ _)); refine blk_far ?_ NB270_285.out _; (with_reducible repeat (first | refine blk_drewN ?_ _ | refine blk_drew ?_ | refine blk_alloc ?_ _)); refine blk_far ?_ NB270_285.out _; (with_reducible repeat (first | refine blk_drewN ?_ _ | refine blk_drew ?_ | refine blk_alloc ?_ _)); refine blk_far ?_ NB270_285.out _; (with_reducible repeat (first | refine blk_drewN ?_ _ | refine blk_drew ?_ | refine blk_alloc ?_ _)); refine blk_far ?_ NB270_285.out _; (with_reducible repeat (first | refine blk_drewN ?_ _ | refine blk_drew ?_ | refine blk_alloc ?_ _)); exact BK270.out) hb); replace BK271 := aS (blk_below (g := gb271) (o := .cells #[.int .i64 a1_0, .int .i64 a1_1, .string a1_2, .slice A1_3 l1_3.length c1_3, .slice A1_4 l1_4.length c1_4] 27 (0, 0)) (by (with_reducible repeat (first | refine blk_drewN ?_ _ | refine blk_drew ?_ | refine blk_alloc ?_ _)); refine blk_far ?_ NB271_285.out _; (with_reducible repeat (first | refine blk_drewN ?_ _ | refine blk_drew ?_ | refine blk_alloc ?_ _)); refine blk_far ?_ NB271_285.out _; (with_reducible repeat (first | refine blk_drewN ?_ _ | refine blk_drew ?_ | refine blk_alloc ?_ _)); refine blk_far ?_ NB271_285.out _; (with_reducible repeat (first | refine blk_drewN ?_ _ | refine blk_drew ?_ | refine blk_alloc ?_ _)); refine blk_far ?_ NB271_285.out _; (with_reducible repeat (first | refine blk_drewN ?_ _ | refine blk_drew ?_ | refine blk_alloc ?_ _)); refine blk_far ?_ NB271_285.out _; (with_reducible repeat (first | refine blk_drewN ?_ _ | refine blk_drew ?_ | refine blk_alloc ?_ _)); exact BK271.out) hb); replace BK285 := aS (blk_below (g := gb285) (o := .cells #[.int .i64 t276, .int .i64 t277, .string t278, .slice Ao56 t279.length co56, .slice Ao57 t282.length co57] 27 (0, 0)) (by (with_reducible repeat (first | refine blk_drewN ?_ _ | refine blk_drew ?_ | refine blk_alloc ?_ _)); refine blk_put (cs := #[.int .i64 t276, .int .i64 t277, .string t278, .slice Ao56 t279.length co56, .slice none 0 0]) ?_ 4 _ rfl; (with_reducible repeat (first | refine blk_drewN ?_ _ | refine blk_drew ?_ | refine blk_alloc ?_ _)); refine blk_put (cs := #[.int .i64 t276, .int .i64 t277, .string t278, .slice none 0 0, .slice none 0 0]) ?_ 3 _ rfl; (with_reducible repeat (first | refine blk_drewN ?_ _ | refine blk_drew ?_ | refine blk_alloc ?_ _)); refine blk_put (cs := #[.int .i64 t276, .int .i64 t277, .string (⟨#[]⟩ : ByteArray), .slice none 0 0, .slice none 0 0]) ?_ 2 _ rfl; (with_reducible repeat (first | refine blk_drewN ?_ _ | refine blk_drew ?_ | refine blk_alloc ?_ _)); refine blk_put (cs := #[.int .i64 t276, .int .i64 0, .string (⟨#[]⟩ : ByteArray), .slice none 0 0, .slice none 0 0]) ?_ 1 _ rfl; (with_reducible repeat (first | refine blk_drewN ?_ _ | refine blk_drew ?_ | refine blk_alloc ?_ _)); refine blk_put (cs := #[.int .i64 0, .int .i64 0, .string (⟨#[]⟩ : ByteArray), .slice none 0 0, .slice none 0 0]) ?_ 0 _ rfl; (with_reducible repeat (first | refine blk_drewN ?_ _ | refine blk_drew ?_ | refine blk_alloc ?_ _)); exact BK285.out) hb); replace HB := Hs HB hb; (try clear hb); (try clear hb2); (try clear hk); (try clear hi); (try clear ho0); (try clear ho1); obtain ⟨Ao60, co60, eo60⟩ := Kd.R_slice HO291.out; subst eo60; obtain ⟨Ao61, co61, eo61⟩ := Kd.R_slice HO294.out; subst eo61) | ((with_reducible refine gate_callee (f := 41) rfl ?_); refine goesL_ (some 47) rfl rfl Try.func41 (by kernel_rfl) rfl #[.agg #[.int .i64 t286, .int .i64 t287, .string t288, .slice Ao60 t289.length co60, .slice Ao61 t292.length co61], .int .i64 (wrap64 (Int.tmod a3 9)), .int .i64 (wrap64 (Int.tmod a4 9))] rfl bl ?_; (with_reducible refine (term_Lift.calls kj7 t286 t287 t288 _ _ t289 _ _ t292 (wrap64 (Int.tmod a3 9)) (wrap64 (Int.tmod a4 9)) t295 t296 t297 t298 t301 _ ?side1 ?side2 ?side3 ?side4 A35.out).mono ?_); (case side1 => exact cr (Kd.R_reads' HO291.out).2.2); (case side2 => exact (Kd.R_reads' HO291.out).2.1); (case side3 => exact cr (Kd.R_reads' HO294.out).2.2); (case side4 => exact (Kd.R_reads' HO294.out).2.1); rintro e w62 ⟨v299, v302, rfl, ho0, ho1, hb⟩; refine ⟨_, rfl, ?_⟩; have HO300 := aS (Kd.R_lower (Kd.R_new' (Kd.R_new' ho0 (Kd.R_lt (kr_ HO281.out))) (Kd.R_lt (kr_ HO291.out))) (below_size (hbk HB))); have HO303 := aS (Kd.R_lower (Kd.R_newB (Kd.R_newB (Kd.R_newB (Kd.R_new' (Kd.R_new' (Kd.R_new' (Kd.R_new' ho1 (Kd.R_lt (kr_ HO281.out))) (Kd.R_lt (kr_ HO284.out))) (Kd.R_lt (kr_ HO291.out))) (Kd.R_lt (kr_ HO294.out))) (bkw BK270)) (bkw BK271)) (bkw BK285)) (below_size (hbk HB))); replace HO281 := aS (Kd.R_elder' (kr_ HO281.out) (Kd.R_base ho0) hb); replace HO284 := aS (Kd.R_mono (Kd.R_told (Kd.R_told (Kd.R_old (kr_ HO284.out) hb) (Kd.R_base ho0)) (Kd.R_base ho1)) (fun _ h_ => h_.1)); replace HO291 := aS (Kd.R_elder' (kr_ HO291.out) (Kd.R_base ho0) hb); replace HO294 := aS (Kd.R_mono (Kd.R_told (Kd.R_told (Kd.R_old (kr_ HO294.out) hb) (Kd.R_base ho0)) (Kd.R_base ho1)) (fun _ h_ => h_.1)); replace BK270 := Bk BK270 hb; replace BK271 := Bk BK271 hb; replace BK285 := Bk BK285 hb; replace HB := Hs HB hb; (try clear hb); (try clear hb2); (try clear hk); (try clear hi); (try clear ho0); (try clear ho1)) | ((with_reducible refine gate_dst (N := 15) rfl ?_); refine box_event ?hg (N := 15) ?hd (cs := #[.int .i64 0, .int .i64 0, .string (⟨#[]⟩ : ByteArray), .slice none 0 0, .slice none 0 0]) (t := 27) ?hr ?_; (case hd => rfl); (case hg => rfl); (case hr => first | (go_simp; done) | (go_simp; rfl)); intro gb304 hg w63 hbox hb; replace HO281 := aS (Kd.R_below (kr_ HO281.out) hb); replace HO284 := aS (Kd.R_below (Kd.R_elderB (kr_ HO284.out) gb304 (Nat.le_of_eq hg.symm)) hb); replace HO291 := aS (Kd.R_below (kr_ HO291.out) hb); replace HO294 := aS (Kd.R_below (Kd.R_elderB (kr_ HO294.out) gb304 (Nat.le_of_eq hg.symm)) hb); replace HO300 := aS (Kd.R_below (kr_ HO300.out) hb); replace HO303 := aS (Kd.R_below (Kd.R_elderB (kr_ HO303.out) gb304 (Nat.le_of_eq hg.symm)) hb); have BK304 := aS (hbox); have GW304 := aS ((by rw [hg]; exact (below_size (hbk HB)) : w.heap.size ≤ gb304)); have GE304 := aS ((by rw [hg]; exact (below_size (hbk HB)) : w.heap.size ≤ gb304)); replace HB := Hs HB hb; have NB270_304 := aS ((by rw [hg]; exact Nat.ne_of_lt (blk_lt (bkw BK270)) : gb270 ≠ gb304)); have NB304_270 := aS ((by rw [hg]; exact Nat.ne_of_gt (blk_lt (bkw BK270)) : gb304 ≠ gb270)); replace BK270 := Bk BK270 hb; have NB271_304 := aS ((by rw [hg]; exact Nat.ne_of_lt (blk_lt (bkw BK271)) : gb271 ≠ gb304)); have NB304_271 := aS ((by rw [hg]; exact Nat.ne_of_gt (blk_lt (bkw BK271)) : gb304 ≠ gb271)); replace BK271 := Bk BK271 hb; have NB285_304 := aS ((by rw [hg]; exact Nat.ne_of_lt (blk_lt (bkw BK285)) : gb285 ≠ gb304)); have NB304_285 := aS ((by rw [hg]; exact Nat.ne_of_gt (blk_lt (bkw BK285)) : gb304 ≠ gb285)); replace BK285 := Bk BK285 hb; clear hb hbox hg; have hnb64 := NB304_270.out; have hnc64 := NB270_304.out; have hnb65 := NB304_271.out; have hnc65 := NB271_304.out; have hnb66 := NB304_285.out; have hnc66 := NB285_304.out; obtain ⟨hcz67_0, hcz67_1, hcz67_2, hcz67_3, hcz67_4⟩ := cl5 BK304; obtain ⟨hfz67_0, hfz67_1, hfz67_2, hfz67_3, hfz67_4⟩ := fz5 BK304; obtain ⟨Ao68, co68, eo68⟩ := Kd.R_slice HO300.out; subst eo68; obtain ⟨Ao69, co69, eo69⟩ := Kd.R_slice HO303.out; subst eo69))
   have n0_ : Aside0 (Kd.R k76 76 (((((w63.setCell ⟨gb304, 0, none⟩ (.int .i64 t295)).setCell ⟨gb304, 1, none⟩ (.int .i64 t296)).setCell ⟨gb304, 2, none⟩ (.string t297)).setCell ⟨gb304, 3, none⟩ (.slice Ao68 t298.length co68)).setCell ⟨gb304, 4, none⟩ (.slice Ao69 t301.length co69)) w.heap.size (fun k_ => some k_ ≠ (.slice Ao60 t289.length co60 : Value).ownBlock ∧ some k_ ≠ (.slice Ao68 t298.length co68 : Value).ownBlock) (.slice Ao56 t279.length co56) t279) := ⟨by (with_reducible repeat (first | apply Kd.R_alloc | apply Kd.R_drewN | apply Kd.R_drew)); exact Kd.R_mono (Kd.R_far (p := ⟨gb304, 4, none⟩) (Kd.R_far (p := ⟨gb304, 3, none⟩) (Kd.R_far (p := ⟨gb304, 2, none⟩) (Kd.R_far (p := ⟨gb304, 1, none⟩) (Kd.R_far (p := ⟨gb304, 0, none⟩) (Kd.R_types HO281.out BK304.out (by decide)) (fun _ hk => hk.2) (.int .i64 t295)) (fun _ hk => hk.2) (.int .i64 t296)) (fun _ hk => hk.2) (.string t297)) (fun _ hk => hk.2) (.slice Ao68 t298.length co68)) (fun _ hk => hk.2) (.slice Ao69 t301.length co69)) (fun _ hk => ⟨hk.1.1.2, hk.1.2⟩)⟩
   have n1_ : Aside0 (Kd.R k27 27 (((((w63.setCell ⟨gb304, 0, none⟩ (.int .i64 t295)).setCell ⟨gb304, 1, none⟩ (.int .i64 t296)).setCell ⟨gb304, 2, none⟩ (.string t297)).setCell ⟨gb304, 3, none⟩ (.slice Ao68 t298.length co68)).setCell ⟨gb304, 4, none⟩ (.slice Ao69 t301.length co69)) w.heap.size (fun k_ => some k_ ≠ (.slice Ao56 t279.length co56 : Value).ownBlock ∧ some k_ ≠ (.slice Ao60 t289.length co60 : Value).ownBlock ∧ some k_ ≠ (.slice Ao61 t292.length co61 : Value).ownBlock ∧ some k_ ≠ (.slice Ao68 t298.length co68 : Value).ownBlock ∧ some k_ ≠ (.slice Ao69 t301.length co69 : Value).ownBlock ∧ k_ ≠ gb270 ∧ k_ ≠ gb271 ∧ k_ ≠ gb285 ∧ k_ ≠ gb304) (.slice Ao57 t282.length co57) t282) := ⟨by (with_reducible repeat (first | apply Kd.R_alloc | apply Kd.R_drewN | apply Kd.R_drew)); exact Kd.R_mono (Kd.R_far (p := ⟨gb304, 4, none⟩) (Kd.R_far (p := ⟨gb304, 3, none⟩) (Kd.R_far (p := ⟨gb304, 2, none⟩) (Kd.R_far (p := ⟨gb304, 1, none⟩) (Kd.R_far (p := ⟨gb304, 0, none⟩) (Kd.R_mono HO284.out (fun k_ hk => (⟨hk, hk.2⟩ : _ ∧ k_ ≠ gb304))) (fun _ hk => hk.2) (.int .i64 t295)) (fun _ hk => hk.2) (.int .i64 t296)) (fun _ hk => hk.2) (.string t297)) (fun _ hk => hk.2) (.slice Ao68 t298.length co68)) (fun _ hk => hk.2) (.slice Ao69 t301.length co69)) (fun _ hk => ⟨hk.1.1.1.1.1.1.1.1.1, ⟨hk.1.1.1.1.1.2, ⟨hk.1.1.1.1.2, ⟨hk.1.1.1.2, ⟨hk.1.1.2, ⟨hk.1.1.1.1.1.1.1.1.2, ⟨hk.1.1.1.1.1.1.1.2, ⟨hk.1.1.1.1.1.1.2, hk.1.2⟩⟩⟩⟩⟩⟩⟩⟩)⟩
   have n2_ : Aside0 (Kd.R k76 76 (((((w63.setCell ⟨gb304, 0, none⟩ (.int .i64 t295)).setCell ⟨gb304, 1, none⟩ (.int .i64 t296)).setCell ⟨gb304, 2, none⟩ (.string t297)).setCell ⟨gb304, 3, none⟩ (.slice Ao68 t298.length co68)).setCell ⟨gb304, 4, none⟩ (.slice Ao69 t301.length co69)) w.heap.size (fun k_ => some k_ ≠ (.slice Ao56 t279.length co56 : Value).ownBlock ∧ some k_ ≠ (.slice Ao68 t298.length co68 : Value).ownBlock) (.slice Ao60 t289.length co60) t289) := ⟨by (with_reducible repeat (first | apply Kd.R_alloc | apply Kd.R_drewN | apply Kd.R_drew)); exact Kd.R_mono (Kd.R_far (p := ⟨gb304, 4, none⟩) (Kd.R_far (p := ⟨gb304, 3, none⟩) (Kd.R_far (p := ⟨gb304, 2, none⟩) (Kd.R_far (p := ⟨gb304, 1, none⟩) (Kd.R_far (p := ⟨gb304, 0, none⟩) (Kd.R_types HO291.out BK304.out (by decide)) (fun _ hk => hk.2) (.int .i64 t295)) (fun _ hk => hk.2) (.int .i64 t296)) (fun _ hk => hk.2) (.string t297)) (fun _ hk => hk.2) (.slice Ao68 t298.length co68)) (fun _ hk => hk.2) (.slice Ao69 t301.length co69)) (fun _ hk => ⟨hk.1.1.2, hk.1.2⟩)⟩
   have n3_ : Aside0 (Kd.R k27 27 (((((w63.setCell ⟨gb304, 0, none⟩ (.int .i64 t295)).setCell ⟨gb304, 1, none⟩ (.int .i64 t296)).setCell ⟨gb304, 2, none⟩ (.string t297)).setCell ⟨gb304, 3, none⟩ (.slice Ao68 t298.length co68)).setCell ⟨gb304, 4, none⟩ (.slice Ao69 t301.length co69)) w.heap.size (fun k_ => some k_ ≠ (.slice Ao56 t279.length co56 : Value).ownBlock ∧ some k_ ≠ (.slice Ao57 t282.length co57 : Value).ownBlock ∧ some k_ ≠ (.slice Ao60 t289.length co60 : Value).ownBlock ∧ some k_ ≠ (.slice Ao68 t298.length co68 : Value).ownBlock ∧ some k_ ≠ (.slice Ao69 t301.length co69 : Value).ownBlock ∧ k_ ≠ gb270 ∧ k_ ≠ gb271 ∧ k_ ≠ gb285 ∧ k_ ≠ gb304) (.slice Ao61 t292.length co61) t292) := ⟨by (with_reducible repeat (first | apply Kd.R_alloc | apply Kd.R_drewN | apply Kd.R_drew)); exact Kd.R_mono (Kd.R_far (p := ⟨gb304, 4, none⟩) (Kd.R_far (p := ⟨gb304, 3, none⟩) (Kd.R_far (p := ⟨gb304, 2, none⟩) (Kd.R_far (p := ⟨gb304, 1, none⟩) (Kd.R_far (p := ⟨gb304, 0, none⟩) (Kd.R_mono HO294.out (fun k_ hk => (⟨hk, hk.2⟩ : _ ∧ k_ ≠ gb304))) (fun _ hk => hk.2) (.int .i64 t295)) (fun _ hk => hk.2) (.int .i64 t296)) (fun _ hk => hk.2) (.string t297)) (fun _ hk => hk.2) (.slice Ao68 t298.length co68)) (fun _ hk => hk.2) (.slice Ao69 t301.length co69)) (fun _ hk => ⟨hk.1.1.1.1.1.1.1.1.2, ⟨hk.1.1.1.1.1.1.1.2, ⟨hk.1.1.1.1.1.1.1.1.1, ⟨hk.1.1.1.2, ⟨hk.1.1.2, ⟨hk.1.1.1.1.1.1.2, ⟨hk.1.1.1.1.1.2, ⟨hk.1.1.1.1.2, hk.1.2⟩⟩⟩⟩⟩⟩⟩⟩)⟩
   have n4_ : Aside0 (Kd.R k76 76 (((((w63.setCell ⟨gb304, 0, none⟩ (.int .i64 t295)).setCell ⟨gb304, 1, none⟩ (.int .i64 t296)).setCell ⟨gb304, 2, none⟩ (.string t297)).setCell ⟨gb304, 3, none⟩ (.slice Ao68 t298.length co68)).setCell ⟨gb304, 4, none⟩ (.slice Ao69 t301.length co69)) w.heap.size (fun k_ => some k_ ≠ (.slice Ao56 t279.length co56 : Value).ownBlock ∧ some k_ ≠ (.slice Ao60 t289.length co60 : Value).ownBlock) (.slice Ao68 t298.length co68) t298) := ⟨by (with_reducible repeat (first | apply Kd.R_alloc | apply Kd.R_drewN | apply Kd.R_drew)); exact Kd.R_mono (Kd.R_far (p := ⟨gb304, 4, none⟩) (Kd.R_far (p := ⟨gb304, 3, none⟩) (Kd.R_far (p := ⟨gb304, 2, none⟩) (Kd.R_far (p := ⟨gb304, 1, none⟩) (Kd.R_far (p := ⟨gb304, 0, none⟩) (Kd.R_types HO300.out BK304.out (by decide)) (fun _ hk => hk.2) (.int .i64 t295)) (fun _ hk => hk.2) (.int .i64 t296)) (fun _ hk => hk.2) (.string t297)) (fun _ hk => hk.2) (.slice Ao68 t298.length co68)) (fun _ hk => hk.2) (.slice Ao69 t301.length co69)) (fun _ hk => ⟨hk.1.1.2, hk.1.2⟩)⟩
   have n5_ : Aside0 (Kd.R k27 27 (((((w63.setCell ⟨gb304, 0, none⟩ (.int .i64 t295)).setCell ⟨gb304, 1, none⟩ (.int .i64 t296)).setCell ⟨gb304, 2, none⟩ (.string t297)).setCell ⟨gb304, 3, none⟩ (.slice Ao68 t298.length co68)).setCell ⟨gb304, 4, none⟩ (.slice Ao69 t301.length co69)) w.heap.size (fun k_ => some k_ ≠ (.slice Ao56 t279.length co56 : Value).ownBlock ∧ some k_ ≠ (.slice Ao57 t282.length co57 : Value).ownBlock ∧ some k_ ≠ (.slice Ao60 t289.length co60 : Value).ownBlock ∧ some k_ ≠ (.slice Ao61 t292.length co61 : Value).ownBlock ∧ some k_ ≠ (.slice Ao68 t298.length co68 : Value).ownBlock ∧ k_ ≠ gb270 ∧ k_ ≠ gb271 ∧ k_ ≠ gb285 ∧ k_ ≠ gb304) (.slice Ao69 t301.length co69) t301) := ⟨by (with_reducible repeat (first | apply Kd.R_alloc | apply Kd.R_drewN | apply Kd.R_drew)); exact Kd.R_mono (Kd.R_far (p := ⟨gb304, 4, none⟩) (Kd.R_far (p := ⟨gb304, 3, none⟩) (Kd.R_far (p := ⟨gb304, 2, none⟩) (Kd.R_far (p := ⟨gb304, 1, none⟩) (Kd.R_far (p := ⟨gb304, 0, none⟩) (Kd.R_mono HO303.out (fun k_ hk => (⟨hk, hk.2⟩ : _ ∧ k_ ≠ gb304))) (fun _ hk => hk.2) (.int .i64 t295)) (fun _ hk => hk.2) (.int .i64 t296)) (fun _ hk => hk.2) (.string t297)) (fun _ hk => hk.2) (.slice Ao68 t298.length co68)) (fun _ hk => hk.2) (.slice Ao69 t301.length co69)) (fun _ hk => ⟨hk.1.1.1.1.1.1.1.1.2, ⟨hk.1.1.1.1.1.1.1.2, ⟨hk.1.1.1.1.1.1.2, ⟨hk.1.1.1.1.1.2, ⟨hk.1.1.1.1.1.1.1.1.1, ⟨hk.1.1.1.1.2, ⟨hk.1.1.1.2, ⟨hk.1.1.2, hk.1.2⟩⟩⟩⟩⟩⟩⟩⟩)⟩
   have n6_ : Aside0 ((((((w63.setCell ⟨gb304, 0, none⟩ (.int .i64 t295)).setCell ⟨gb304, 1, none⟩ (.int .i64 t296)).setCell ⟨gb304, 2, none⟩ (.string t297)).setCell ⟨gb304, 3, none⟩ (.slice Ao68 t298.length co68)).setCell ⟨gb304, 4, none⟩ (.slice Ao69 t301.length co69)).heap[gb270]? = some (.cells #[.int .i64 a0_0, .int .i64 a0_1, .string a0_2, .slice A0_3 l0_3.length c0_3, .slice A0_4 l0_4.length c0_4] 27 (0, 0))) := ⟨by (with_reducible repeat (first | refine blk_drewN ?_ _ | refine blk_drew ?_ | refine blk_alloc ?_ _)); refine blk_far ?_ NB270_304.out _; (with_reducible repeat (first | refine blk_drewN ?_ _ | refine blk_drew ?_ | refine blk_alloc ?_ _)); refine blk_far ?_ NB270_304.out _; (with_reducible repeat (first | refine blk_drewN ?_ _ | refine blk_drew ?_ | refine blk_alloc ?_ _)); refine blk_far ?_ NB270_304.out _; (with_reducible repeat (first | refine blk_drewN ?_ _ | refine blk_drew ?_ | refine blk_alloc ?_ _)); refine blk_far ?_ NB270_304.out _; (with_reducible repeat (first | refine blk_drewN ?_ _ | refine blk_drew ?_ | refine blk_alloc ?_ _)); refine blk_far ?_ NB270_304.out _; (with_reducible repeat (first | refine blk_drewN ?_ _ | refine blk_drew ?_ | refine blk_alloc ?_ _)); exact BK270.out⟩
   have n7_ : Aside0 ((((((w63.setCell ⟨gb304, 0, none⟩ (.int .i64 t295)).setCell ⟨gb304, 1, none⟩ (.int .i64 t296)).setCell ⟨gb304, 2, none⟩ (.string t297)).setCell ⟨gb304, 3, none⟩ (.slice Ao68 t298.length co68)).setCell ⟨gb304, 4, none⟩ (.slice Ao69 t301.length co69)).heap[gb271]? = some (.cells #[.int .i64 a1_0, .int .i64 a1_1, .string a1_2, .slice A1_3 l1_3.length c1_3, .slice A1_4 l1_4.length c1_4] 27 (0, 0))) := ⟨by (with_reducible repeat (first | refine blk_drewN ?_ _ | refine blk_drew ?_ | refine blk_alloc ?_ _)); refine blk_far ?_ NB271_304.out _; (with_reducible repeat (first | refine blk_drewN ?_ _ | refine blk_drew ?_ | refine blk_alloc ?_ _)); refine blk_far ?_ NB271_304.out _; (with_reducible repeat (first | refine blk_drewN ?_ _ | refine blk_drew ?_ | refine blk_alloc ?_ _)); refine blk_far ?_ NB271_304.out _; (with_reducible repeat (first | refine blk_drewN ?_ _ | refine blk_drew ?_ | refine blk_alloc ?_ _)); refine blk_far ?_ NB271_304.out _; (with_reducible repeat (first | refine blk_drewN ?_ _ | refine blk_drew ?_ | refine blk_alloc ?_ _)); refine blk_far ?_ NB271_304.out _; (with_reducible repeat (first | refine blk_drewN ?_ _ | refine blk_drew ?_ | refine blk_alloc ?_ _)); exact BK271.out⟩
   have n8_ : Aside0 ((((((w63.setCell ⟨gb304, 0, none⟩ (.int .i64 t295)).setCell ⟨gb304, 1, none⟩ (.int .i64 t296)).setCell ⟨gb304, 2, none⟩ (.string t297)).setCell ⟨gb304, 3, none⟩ (.slice Ao68 t298.length co68)).setCell ⟨gb304, 4, none⟩ (.slice Ao69 t301.length co69)).heap[gb285]? = some (.cells #[.int .i64 t276, .int .i64 t277, .string t278, .slice Ao56 t279.length co56, .slice Ao57 t282.length co57] 27 (0, 0))) := ⟨by (with_reducible repeat (first | refine blk_drewN ?_ _ | refine blk_drew ?_ | refine blk_alloc ?_ _)); refine blk_far ?_ NB285_304.out _; (with_reducible repeat (first | refine blk_drewN ?_ _ | refine blk_drew ?_ | refine blk_alloc ?_ _)); refine blk_far ?_ NB285_304.out _; (with_reducible repeat (first | refine blk_drewN ?_ _ | refine blk_drew ?_ | refine blk_alloc ?_ _)); refine blk_far ?_ NB285_304.out _; (with_reducible repeat (first | refine blk_drewN ?_ _ | refine blk_drew ?_ | refine blk_alloc ?_ _)); refine blk_far ?_ NB285_304.out _; (with_reducible repeat (first | refine blk_drewN ?_ _ | refine blk_drew ?_ | refine blk_alloc ?_ _)); refine blk_far ?_ NB285_304.out _; (with_reducible repeat (first | refine blk_drewN ?_ _ | refine blk_drew ?_ | refine blk_alloc ?_ _)); exact BK285.out⟩
   have n9_ : Aside0 ((((((w63.setCell ⟨gb304, 0, none⟩ (.int .i64 t295)).setCell ⟨gb304, 1, none⟩ (.int .i64 t296)).setCell ⟨gb304, 2, none⟩ (.string t297)).setCell ⟨gb304, 3, none⟩ (.slice Ao68 t298.length co68)).setCell ⟨gb304, 4, none⟩ (.slice Ao69 t301.length co69)).heap[gb304]? = some (.cells #[.int .i64 t295, .int .i64 t296, .string t297, .slice Ao68 t298.length co68, .slice Ao69 t301.length co69] 27 (0, 0))) := ⟨by (with_reducible repeat (first | refine blk_drewN ?_ _ | refine blk_drew ?_ | refine blk_alloc ?_ _)); refine blk_put (cs := #[.int .i64 t295, .int .i64 t296, .string t297, .slice Ao68 t298.length co68, .slice none 0 0]) ?_ 4 _ rfl; (with_reducible repeat (first | refine blk_drewN ?_ _ | refine blk_drew ?_ | refine blk_alloc ?_ _)); refine blk_put (cs := #[.int .i64 t295, .int .i64 t296, .string t297, .slice none 0 0, .slice none 0 0]) ?_ 3 _ rfl; (with_reducible repeat (first | refine blk_drewN ?_ _ | refine blk_drew ?_ | refine blk_alloc ?_ _)); refine blk_put (cs := #[.int .i64 t295, .int .i64 t296, .string (⟨#[]⟩ : ByteArray), .slice none 0 0, .slice none 0 0]) ?_ 2 _ rfl; (with_reducible repeat (first | refine blk_drewN ?_ _ | refine blk_drew ?_ | refine blk_alloc ?_ _)); refine blk_put (cs := #[.int .i64 t295, .int .i64 0, .string (⟨#[]⟩ : ByteArray), .slice none 0 0, .slice none 0 0]) ?_ 1 _ rfl; (with_reducible repeat (first | refine blk_drewN ?_ _ | refine blk_drew ?_ | refine blk_alloc ?_ _)); refine blk_put (cs := #[.int .i64 0, .int .i64 0, .string (⟨#[]⟩ : ByteArray), .slice none 0 0, .slice none 0 0]) ?_ 0 _ rfl; (with_reducible repeat (first | refine blk_drewN ?_ _ | refine blk_drew ?_ | refine blk_alloc ?_ _)); exact BK304.out⟩
   have n10_ : Aside0 (Below w.heap.size w (((((w63.setCell ⟨gb304, 0, none⟩ (.int .i64 t295)).setCell ⟨gb304, 1, none⟩ (.int .i64 t296)).setCell ⟨gb304, 2, none⟩ (.string t297)).setCell ⟨gb304, 3, none⟩ (.slice Ao68 t298.length co68)).setCell ⟨gb304, 4, none⟩ (.slice Ao69 t301.length co69))) := ⟨hbk HB⟩
   (try clear HO281)
   (try clear HO284)
   (try clear HO291)
   (try clear HO294)
   (try clear HO300)
   (try clear HO303)
   (try clear BK270)
   (try clear BK271)
   (try clear BK285)
   (try clear BK304)
   (try clear HB)
   generalize (((((w63.setCell ⟨gb304, 0, none⟩ (.int .i64 t295)).setCell ⟨gb304, 1, none⟩ (.int .i64 t296)).setCell ⟨gb304, 2, none⟩ (.string t297)).setCell ⟨gb304, 3, none⟩ (.slice Ao68 t298.length co68)).setCell ⟨gb304, 4, none⟩ (.slice Ao69 t301.length co69)) = w70 at n0_ n1_ n2_ n3_ n4_ n5_ n6_ n7_ n8_ n9_ n10_ ⊢
   have HO281 := n0_
   have HO284 := n1_
   have HO291 := n2_
   have HO294 := n3_
   have HO300 := n4_
   have HO303 := n5_
   have BK270 := n6_
   have BK271 := n7_
   have BK285 := n8_
   have BK304 := n9_
   have HB := n10_
   clear n0_ n1_ n2_ n3_ n4_ n5_ n6_ n7_ n8_ n9_ n10_
   replace HO281 := aS (Kd.R_drew HO281.out)
   replace HO284 := aS (Kd.R_drew HO284.out)
   replace HO291 := aS (Kd.R_drew HO291.out)
   replace HO294 := aS (Kd.R_drew HO294.out)
   replace HO300 := aS (Kd.R_drew HO300.out)
   replace HO303 := aS (Kd.R_drew HO303.out)
   replace BK270 := aS (blk_drew BK270.out)
   replace BK271 := aS (blk_drew BK271.out)
   replace BK285 := aS (blk_drew BK285.out)
   replace BK304 := aS (blk_drew BK304.out)
   replace HB := aS (below_drew1 HB.out)
   refine start_ (n := 38) (S := fun w' => w'.cell? ⟨gb285, 0, none⟩ = some (.int .i64 t276) ∧ w'.cell? ⟨gb285, 1, none⟩ = some (.int .i64 t277) ∧ w'.cell? ⟨gb285, 2, none⟩ = some (.string t278) ∧ w'.cell? ⟨gb285, 3, none⟩ = some (.slice Ao56 t279.length co56) ∧ w'.cell? ⟨gb285, 4, none⟩ = some (.slice Ao57 t282.length co57) ∧ w'.cell? ⟨gb271, 0, none⟩ = some (.int .i64 a1_0) ∧ w'.cell? ⟨gb271, 1, none⟩ = some (.int .i64 a1_1) ∧ w'.cell? ⟨gb271, 2, none⟩ = some (.string a1_2) ∧ w'.cell? ⟨gb271, 3, none⟩ = some (.slice A1_3 l1_3.length c1_3) ∧ w'.cell? ⟨gb271, 4, none⟩ = some (.slice A1_4 l1_4.length c1_4) ∧ w'.cell? ⟨gb270, 0, none⟩ = some (.int .i64 a0_0) ∧ w'.cell? ⟨gb270, 1, none⟩ = some (.int .i64 a0_1) ∧ w'.cell? ⟨gb270, 2, none⟩ = some (.string a0_2) ∧ w'.cell? ⟨gb270, 3, none⟩ = some (.slice A0_3 l0_3.length c0_3) ∧ w'.cell? ⟨gb270, 4, none⟩ = some (.slice A0_4 l0_4.length c0_4) ∧ w'.cell? ⟨gb304, 0, none⟩ = some (.int .i64 t295) ∧ w'.cell? ⟨gb304, 1, none⟩ = some (.int .i64 t296) ∧ w'.cell? ⟨gb304, 2, none⟩ = some (.string t297) ∧ w'.cell? ⟨gb304, 3, none⟩ = some (.slice Ao68 t298.length co68) ∧ w'.cell? ⟨gb304, 4, none⟩ = some (.slice Ao69 t301.length co69)) (ds := []) #[false, false, false, false, false, false, false, false, false, false, false, false, false, false, false, false, false, false, false, false, false, false, false, false, false, false, false, false, false, false, false, false, false, false, false, false, false, false] (by kernel_rfl) rfl rfl ⟨(blk_cell BK285.out 0).trans rfl, (blk_cell BK285.out 1).trans rfl, (blk_cell BK285.out 2).trans rfl, (blk_cell BK285.out 3).trans rfl, (blk_cell BK285.out 4).trans rfl, (blk_cell BK271.out 0).trans rfl, (blk_cell BK271.out 1).trans rfl, (blk_cell BK271.out 2).trans rfl, (blk_cell BK271.out 3).trans rfl, (blk_cell BK271.out 4).trans rfl, (blk_cell BK270.out 0).trans rfl, (blk_cell BK270.out 1).trans rfl, (blk_cell BK270.out 2).trans rfl, (blk_cell BK270.out 3).trans rfl, (blk_cell BK270.out 4).trans rfl, (blk_cell BK304.out 0).trans rfl, (blk_cell BK304.out 1).trans rfl, (blk_cell BK304.out 2).trans rfl, (blk_cell BK304.out 3).trans rfl, (blk_cell BK304.out 4).trans rfl⟩ (fun hHeld => ?_); refine with_tabW touchstonelaw5_TermBack.tab8 touchstonelaw5_TermBack.bits8 (fun HT_ HW_ => ?_)
   generalize w70.drew = w71 at HO281 HO284 HO291 HO294 HO300 HO303 BK270 BK271 BK285 BK304 HB hHeld ⊢
   refine take_ (i := 0) (N := some 48) (v := ?_) (a' := ?_) #[true, false, false, false, false, false, false, false, false, false, false, false, false, false, false, false, false, false, false, false, false, false, false, false, false, false, false, false, false, false, false, false, false, false, false, false, false, false] rfl rfl (take_ofW HT_.out HW_.out (by kernel_rfl)) (fun _ _ _ h => h) (Or.inl ⟨by rfl, ?_⟩) hHeld ?_ ?_
   rotate_left
   ·rintro w' ⟨s0, s1, s2, s3, s4, s5, s6, s7, s8, s9, s10, s11, s12, s13, s14, s15, s16, s17, s18, s19⟩
    go_simp
    with_reducible rfl
   rotate_left
   ·simp only [Act.put, List.setIfInBounds_toArray, List.set_cons_zero, List.set_cons_succ, i64_w, i32_w]
    rfl
   refine take_ (i := 1) (N := some 49) (v := ?_) (a' := ?_) #[true, true, false, false, false, false, false, false, false, false, false, false, false, false, false, false, false, false, false, false, false, false, false, false, false, false, false, false, false, false, false, false, false, false, false, false, false, false] rfl rfl (take_ofW HT_.out HW_.out (by kernel_rfl)) (fun _ _ _ h => h) (Or.inl ⟨by rfl, ?_⟩) hHeld ?_ ?_
   rotate_left
   ·rintro w' ⟨s0, s1, s2, s3, s4, s5, s6, s7, s8, s9, s10, s11, s12, s13, s14, s15, s16, s17, s18, s19⟩
    go_simp
    with_reducible rfl
   rotate_left
   ·simp only [Act.put, List.setIfInBounds_toArray, List.set_cons_zero, List.set_cons_succ, i64_w, i32_w]
    rfl
   refine take_ (i := 3) (N := some 51) (v := ?_) (a' := ?_) #[true, true, false, true, false, false, false, false, false, false, false, false, false, false, false, false, false, false, false, false, false, false, false, false, false, false, false, false, false, false, false, false, false, false, false, false, false, false] rfl rfl (take_ofW HT_.out HW_.out (by kernel_rfl)) (fun _ _ _ h => h) (Or.inl ⟨by rfl, ?_⟩) hHeld ?_ ?_
   rotate_left
   ·rintro w' ⟨s0, s1, s2, s3, s4, s5, s6, s7, s8, s9, s10, s11, s12, s13, s14, s15, s16, s17, s18, s19⟩
    go_simp
    with_reducible rfl
   rotate_left
   ·simp only [Act.put, List.setIfInBounds_toArray, List.set_cons_zero, List.set_cons_succ, i64_w, i32_w]
    rfl
   refine one_ (i := 2) (N := some 50) #[true, true, true, true, false, false, false, false, false, false, false, false, false, false, false, false, false, false, false, false, false, false, false, false, false, false, false, false, false, false, false, false, false, false, false, false, false, false] rfl rfl (one_of HT_.out (by kernel_rfl)) (by decide) (fun K hK => ?_)
   refine goes_ Try.func42 (by kernel_rfl) rfl #[.agg #[.int .i64 t276, .int .i64 t277, .string t278, .slice Ao56 t279.length co56, .slice Ao57 t282.length co57], .agg #[.int .i64 a1_0, .int .i64 a1_1, .string a1_2, .slice A1_3 l1_3.length c1_3, .slice A1_4 l1_4.length c1_4]] (by rfl) rfl rfl bl ?_
   with_reducible refine (term_Put.calls kj7 t276 t277 t278 _ _ t279 _ _ t282 a1_0 a1_1 a1_2 _ _ l1_3 _ _ l1_4 t305 t306 t307 t308 t311 _ ?side1 ?side2 ?side3 ?side4 ?side5 ?side6 ?side7 ?side8 A36.out).mono ?_
   (case side1 => exact cr (Kd.R_reads' HO281.out).2.2)
   (case side2 => exact (Kd.R_reads' HO281.out).2.1)
   (case side3 => exact cr (Kd.R_reads' HO284.out).2.2)
   (case side4 => exact (Kd.R_reads' HO284.out).2.1)
   (case side5 => exact cr (Kd.C_below HR1_3.out HB.out))
   (case side6 => exact HC1_3.out)
   (case side7 => exact cr (Kd.C_below HR1_4.out HB.out))
   (case side8 => exact HC1_4.out)
   rintro e w72 ⟨v309, v312, rfl, ho0, ho1, hb⟩
   refine ⟨_, rfl, ?_⟩
   have HO310 := aS (Kd.R_lower (Kd.R_new' (Kd.R_new' (Kd.R_new' ho0 (Kd.R_lt (kr_ HO281.out))) (Kd.R_lt (kr_ HO291.out))) (Kd.R_lt (kr_ HO300.out))) (below_size (hbk HB)))
   have HO313 := aS (Kd.R_lower (Kd.R_newB (Kd.R_newB (Kd.R_newB (Kd.R_newB (Kd.R_new' (Kd.R_new' (Kd.R_new' (Kd.R_new' (Kd.R_new' (Kd.R_new' ho1 (Kd.R_lt (kr_ HO281.out))) (Kd.R_lt (kr_ HO284.out))) (Kd.R_lt (kr_ HO291.out))) (Kd.R_lt (kr_ HO294.out))) (Kd.R_lt (kr_ HO300.out))) (Kd.R_lt (kr_ HO303.out))) (bkw BK270)) (bkw BK271)) (bkw BK285)) (bkw BK304)) (below_size (hbk HB)))
   replace HO281 := aS (Kd.R_elder' (kr_ HO281.out) (Kd.R_base ho0) hb)
   replace HO284 := aS (Kd.R_mono (Kd.R_told (Kd.R_told (Kd.R_old (kr_ HO284.out) hb) (Kd.R_base ho0)) (Kd.R_base ho1)) (fun _ h_ => h_.1))
   replace HO291 := aS (Kd.R_elder' (kr_ HO291.out) (Kd.R_base ho0) hb)
   replace HO294 := aS (Kd.R_mono (Kd.R_told (Kd.R_told (Kd.R_old (kr_ HO294.out) hb) (Kd.R_base ho0)) (Kd.R_base ho1)) (fun _ h_ => h_.1))
   replace HO300 := aS (Kd.R_elder' (kr_ HO300.out) (Kd.R_base ho0) hb)
   replace HO303 := aS (Kd.R_mono (Kd.R_told (Kd.R_told (Kd.R_old (kr_ HO303.out) hb) (Kd.R_base ho0)) (Kd.R_base ho1)) (fun _ h_ => h_.1))
   replace BK270 := Bk BK270 hb
   replace BK271 := Bk BK271 hb
   replace BK285 := Bk BK285 hb
   replace BK304 := Bk BK304 hb
   replace HB := Hs HB hb
   (try clear hb)
   (try clear hb2)
   (try clear hk)
   (try clear hi)
   (try clear ho0)
   (try clear ho1)
   obtain ⟨Ao73, co73, eo73⟩ := Kd.R_slice HO310.out
   (first | subst eo73 | (injection eo73 with f1_ f2_ f3_; have f4_ := f1_.symm; have f5_ := f3_.symm; clear f1_ f2_ f3_; subst f4_; subst f5_))
   obtain ⟨Ao74, co74, eo74⟩ := Kd.R_slice HO313.out
   (first | subst eo74 | (injection eo74 with f1_ f2_ f3_; have f4_ := f1_.symm; have f5_ := f3_.symm; clear f1_ f2_ f3_; subst f4_; subst f5_))
   refine hK.out _ _ ⟨(blk_cell BK285.out 0).trans rfl, (blk_cell BK285.out 1).trans rfl, (blk_cell BK285.out 2).trans rfl, (blk_cell BK285.out 3).trans rfl, (blk_cell BK285.out 4).trans rfl, (blk_cell BK271.out 0).trans rfl, (blk_cell BK271.out 1).trans rfl, (blk_cell BK271.out 2).trans rfl, (blk_cell BK271.out 3).trans rfl, (blk_cell BK271.out 4).trans rfl, (blk_cell BK270.out 0).trans rfl, (blk_cell BK270.out 1).trans rfl, (blk_cell BK270.out 2).trans rfl, (blk_cell BK270.out 3).trans rfl, (blk_cell BK270.out 4).trans rfl, (blk_cell BK304.out 0).trans rfl, (blk_cell BK304.out 1).trans rfl, (blk_cell BK304.out 2).trans rfl, (blk_cell BK304.out 3).trans rfl, (blk_cell BK304.out 4).trans rfl⟩ (fun hHeld => ?_)
   clear hK K
   refine norm_ (a' := ?_) ?_ ?_
   rotate_left
   ·show Act.put _ (some 50) _ = _
    simp only [Act.put, List.setIfInBounds_toArray, List.set_cons_zero, List.set_cons_succ, i64_w, i32_w]
    rfl
   refine one_ (i := 4) (N := some 52) #[true, true, true, true, true, false, false, false, false, false, false, false, false, false, false, false, false, false, false, false, false, false, false, false, false, false, false, false, false, false, false, false, false, false, false, false, false, false] rfl rfl (one_of HT_.out (by kernel_rfl)) (by decide) (fun K hK => ?_)
   refine goes_ Try.func23 (by kernel_rfl) rfl #[.agg #[.int .i64 t305, .int .i64 t306, .string t307, .slice Ao73 t308.length co73, .slice Ao74 t311.length co74], .agg #[.int .i64 a0_0, .int .i64 a0_1, .string a0_2, .slice A0_3 l0_3.length c0_3, .slice A0_4 l0_4.length c0_4]] (by rfl) rfl rfl bl ?_
   with_reducible refine (touchstoneref5_Equal.calls kj7 t305 t306 t307 _ _ t308 _ _ t311 a0_0 a0_1 a0_2 _ _ l0_3 _ _ l0_4 true _ ?side1 ?side2 ?side3 ?side4 ?side5 ?side6 ?side7 ?side8 A37.out).mono ?_
   (case side1 => exact cr (Kd.R_reads' HO310.out).2.2)
   (case side2 => exact (Kd.R_reads' HO310.out).2.1)
   (case side3 => exact cr (Kd.R_reads' HO313.out).2.2)
   (case side4 => exact (Kd.R_reads' HO313.out).2.1)
   (case side5 => exact cr (Kd.C_below HR0_3.out HB.out))
   (case side6 => exact HC0_3.out)
   (case side7 => exact cr (Kd.C_below HR0_4.out HB.out))
   (case side8 => exact HC0_4.out)
   rintro e w75 ⟨rfl, hb⟩
   refine ⟨_, rfl, ?_⟩
   replace HO281 := aS (Kd.R_below (kr_ HO281.out) hb)
   replace HO284 := aS (Kd.R_below (kr_ HO284.out) hb)
   replace HO291 := aS (Kd.R_below (kr_ HO291.out) hb)
   replace HO294 := aS (Kd.R_below (kr_ HO294.out) hb)
   replace HO300 := aS (Kd.R_below (kr_ HO300.out) hb)
   replace HO303 := aS (Kd.R_below (kr_ HO303.out) hb)
   replace HO310 := aS (Kd.R_below (kr_ HO310.out) hb)
   replace HO313 := aS (Kd.R_below (kr_ HO313.out) hb)
   replace BK270 := Bk BK270 hb
   replace BK271 := Bk BK271 hb
   replace BK285 := Bk BK285 hb
   replace BK304 := Bk BK304 hb
   replace HB := Hs HB hb
   (try clear hb)
   (try clear hb2)
   (try clear hk)
   (try clear hi)
   refine hK.out _ _ ⟨(blk_cell BK285.out 0).trans rfl, (blk_cell BK285.out 1).trans rfl, (blk_cell BK285.out 2).trans rfl, (blk_cell BK285.out 3).trans rfl, (blk_cell BK285.out 4).trans rfl, (blk_cell BK271.out 0).trans rfl, (blk_cell BK271.out 1).trans rfl, (blk_cell BK271.out 2).trans rfl, (blk_cell BK271.out 3).trans rfl, (blk_cell BK271.out 4).trans rfl, (blk_cell BK270.out 0).trans rfl, (blk_cell BK270.out 1).trans rfl, (blk_cell BK270.out 2).trans rfl, (blk_cell BK270.out 3).trans rfl, (blk_cell BK270.out 4).trans rfl, (blk_cell BK304.out 0).trans rfl, (blk_cell BK304.out 1).trans rfl, (blk_cell BK304.out 2).trans rfl, (blk_cell BK304.out 3).trans rfl, (blk_cell BK304.out 4).trans rfl⟩ (fun hHeld => ?_)
   clear hK K
   refine norm_ (a' := ?_) ?_ ?_
   rotate_left
   ·show Act.put _ (some 52) _ = _
    simp only [Act.put, List.setIfInBounds_toArray, List.set_cons_zero, List.set_cons_succ, i64_w, i32_w]
    rfl
   refine pure_ (i := 5) (N := some 53) (v := ?_) (a' := ?_) #[true, true, true, true, true, true, false, false, false, false, false, false, false, false, false, false, false, false, false, false, false, false, false, false, false, false, false, false, false, false, false, false, false, false, false, false, false, false] rfl rfl (any_of HT_.out (by kernel_rfl)) (fun _ _ _ h => h) (Or.inl ⟨by rfl, ?_⟩) ?_ ?_
   rotate_left
   ·intro w'
    go_simp
    with_reducible rfl
   rotate_left
   ·simp only [Act.put, List.setIfInBounds_toArray, List.set_cons_zero, List.set_cons_succ, i64_w, i32_w]
    rfl
   refine pure_ (i := 8) (N := some 56) (v := ?_) (a' := ?_) #[true, true, true, true, true, true, false, false, true, false, false, false, false, false, false, false, false, false, false, false, false, false, false, false, false, false, false, false, false, false, false, false, false, false, false, false, false, false] rfl rfl (any_of HT_.out (by kernel_rfl)) (fun _ _ _ h => h) (Or.inl ⟨by rfl, ?_⟩) ?_ ?_
   rotate_left
   ·intro w'
    go_simp
    with_reducible rfl
   rotate_left
   ·simp only [Act.put, List.setIfInBounds_toArray, List.set_cons_zero, List.set_cons_succ, i64_w, i32_w]
    rfl
   refine pure_ (i := 9) (N := some 57) (v := ?_) (a' := ?_) #[true, true, true, true, true, true, false, false, true, true, false, false, false, false, false, false, false, false, false, false, false, false, false, false, false, false, false, false, false, false, false, false, false, false, false, false, false, false] rfl rfl (any_of HT_.out (by kernel_rfl)) (fun _ _ _ h => h) (Or.inl ⟨by rfl, ?_⟩) ?_ ?_
   rotate_left
   ·intro w'
    go_simp
    with_reducible rfl
   rotate_left
   ·simp only [Act.put, List.setIfInBounds_toArray, List.set_cons_zero, List.set_cons_succ, i64_w, i32_w]
    rfl
   refine pure_ (i := 10) (N := some 58) (v := ?_) (a' := ?_) #[true, true, true, true, true, true, false, false, true, true, true, false, false, false, false, false, false, false, false, false, false, false, false, false, false, false, false, false, false, false, false, false, false, false, false, false, false, false] rfl rfl (any_of HT_.out (by kernel_rfl)) (fun _ _ _ h => h) (Or.inl ⟨by rfl, ?_⟩) ?_ ?_
   rotate_left
   ·intro w'
    go_simp
    with_reducible rfl
   rotate_left
   ·simp only [Act.put, List.setIfInBounds_toArray, List.set_cons_zero, List.set_cons_succ, i64_w, i32_w]
    rfl
   refine pure_ (i := 11) (N := some 59) (v := ?_) (a' := ?_) #[true, true, true, true, true, true, false, false, true, true, true, true, false, false, false, false, false, false, false, false, false, false, false, false, false, false, false, false, false, false, false, false, false, false, false, false, false, false] rfl rfl (any_of HT_.out (by kernel_rfl)) (fun _ _ _ h => h) (Or.inl ⟨by rfl, ?_⟩) ?_ ?_
   rotate_left
   ·intro w'
    go_simp
    with_reducible rfl
   rotate_left
   ·simp only [Act.put, List.setIfInBounds_toArray, List.set_cons_zero, List.set_cons_succ, i64_w, i32_w]
    rfl
   refine take_ (i := 6) (N := some 54) (v := ?_) (a' := ?_) #[true, true, true, true, true, true, true, false, true, true, true, true, false, false, false, false, false, false, false, false, false, false, false, false, false, false, false, false, false, false, false, false, false, false, false, false, false, false] rfl rfl (take_ofW HT_.out HW_.out (by kernel_rfl)) (fun _ _ _ h => h) (Or.inl ⟨by rfl, ?_⟩) hHeld ?_ ?_
   rotate_left
   ·rintro w' ⟨s0, s1, s2, s3, s4, s5, s6, s7, s8, s9, s10, s11, s12, s13, s14, s15, s16, s17, s18, s19⟩
    go_simp
    with_reducible rfl
   rotate_left
   ·simp only [Act.put, List.setIfInBounds_toArray, List.set_cons_zero, List.set_cons_succ, i64_w, i32_w]
    rfl
   refine take_ (i := 7) (N := some 55) (v := ?_) (a' := ?_) #[true, true, true, true, true, true, true, true, true, true, true, true, false, false, false, false, false, false, false, false, false, false, false, false, false, false, false, false, false, false, false, false, false, false, false, false, false, false] rfl rfl (take_ofW HT_.out HW_.out (by kernel_rfl)) (fun _ _ _ h => h) (Or.inl ⟨by rfl, ?_⟩) hHeld ?_ ?_
   rotate_left
   ·rintro w' ⟨s0, s1, s2, s3, s4, s5, s6, s7, s8, s9, s10, s11, s12, s13, s14, s15, s16, s17, s18, s19⟩
    go_simp
    with_reducible rfl
   rotate_left
   ·simp only [Act.put, List.setIfInBounds_toArray, List.set_cons_zero, List.set_cons_succ, i64_w, i32_w]
    rfl
   refine one_ (i := 12) (N := some 60) #[true, true, true, true, true, true, true, true, true, true, true, true, true, false, false, false, false, false, false, false, false, false, false, false, false, false, false, false, false, false, false, false, false, false, false, false, false, false] rfl rfl (one_of HT_.out (by kernel_rfl)) (by decide) (fun K hK => ?_)
   refine goes_ Try.func41 (by kernel_rfl) rfl #[.agg #[.int .i64 a0_0, .int .i64 a0_1, .string a0_2, .slice A0_3 l0_3.length c0_3, .slice A0_4 l0_4.length c0_4], .int .i64 (wrap64 ((wrap64 (Int.tmod a2 9)) + (wrap64 (Int.tmod a3 9)))), .int .i64 (wrap64 (Int.tmod a4 9))] (by rfl) rfl rfl bl ?_
   with_reducible refine (term_Lift.calls kj7 a0_0 a0_1 a0_2 _ _ l0_3 _ _ l0_4 (wrap64 ((wrap64 (Int.tmod a2 9)) + (wrap64 (Int.tmod a3 9)))) (wrap64 (Int.tmod a4 9)) t315 t316 t317 t318 t321 _ ?side1 ?side2 ?side3 ?side4 A39.out).mono ?_
   (case side1 => exact cr (Kd.C_below HR0_3.out HB.out))
   (case side2 => exact HC0_3.out)
   (case side3 => exact cr (Kd.C_below HR0_4.out HB.out))
   (case side4 => exact HC0_4.out)
   rintro e w76 ⟨v319, v322, rfl, ho0, ho1, hb⟩
   refine ⟨_, rfl, ?_⟩
   have HO320 := aS (Kd.R_lower (Kd.R_new' (Kd.R_new' (Kd.R_new' (Kd.R_new' ho0 (Kd.R_lt (kr_ HO281.out))) (Kd.R_lt (kr_ HO291.out))) (Kd.R_lt (kr_ HO300.out))) (Kd.R_lt (kr_ HO310.out))) (below_size (hbk HB)))
   have HO323 := aS (Kd.R_lower (Kd.R_newB (Kd.R_newB (Kd.R_newB (Kd.R_newB (Kd.R_new' (Kd.R_new' (Kd.R_new' (Kd.R_new' (Kd.R_new' (Kd.R_new' (Kd.R_new' (Kd.R_new' ho1 (Kd.R_lt (kr_ HO281.out))) (Kd.R_lt (kr_ HO284.out))) (Kd.R_lt (kr_ HO291.out))) (Kd.R_lt (kr_ HO294.out))) (Kd.R_lt (kr_ HO300.out))) (Kd.R_lt (kr_ HO303.out))) (Kd.R_lt (kr_ HO310.out))) (Kd.R_lt (kr_ HO313.out))) (bkw BK270)) (bkw BK271)) (bkw BK285)) (bkw BK304)) (below_size (hbk HB)))
   replace HO281 := aS (Kd.R_elder' (kr_ HO281.out) (Kd.R_base ho0) hb)
   replace HO284 := aS (Kd.R_mono (Kd.R_told (Kd.R_told (Kd.R_old (kr_ HO284.out) hb) (Kd.R_base ho0)) (Kd.R_base ho1)) (fun _ h_ => h_.1))
   replace HO291 := aS (Kd.R_elder' (kr_ HO291.out) (Kd.R_base ho0) hb)
   replace HO294 := aS (Kd.R_mono (Kd.R_told (Kd.R_told (Kd.R_old (kr_ HO294.out) hb) (Kd.R_base ho0)) (Kd.R_base ho1)) (fun _ h_ => h_.1))
   replace HO300 := aS (Kd.R_elder' (kr_ HO300.out) (Kd.R_base ho0) hb)
   replace HO303 := aS (Kd.R_mono (Kd.R_told (Kd.R_told (Kd.R_old (kr_ HO303.out) hb) (Kd.R_base ho0)) (Kd.R_base ho1)) (fun _ h_ => h_.1))
   replace HO310 := aS (Kd.R_elder' (kr_ HO310.out) (Kd.R_base ho0) hb)
   replace HO313 := aS (Kd.R_mono (Kd.R_told (Kd.R_told (Kd.R_old (kr_ HO313.out) hb) (Kd.R_base ho0)) (Kd.R_base ho1)) (fun _ h_ => h_.1))
   replace BK270 := Bk BK270 hb
   replace BK271 := Bk BK271 hb
   replace BK285 := Bk BK285 hb
   replace BK304 := Bk BK304 hb
   replace HB := Hs HB hb
   (try clear hb)
   (try clear hb2)
   (try clear hk)
   (try clear hi)
   (try clear ho0)
   (try clear ho1)
   obtain ⟨Ao77, co77, eo77⟩ := Kd.R_slice HO320.out
   (first | subst eo77 | (injection eo77 with f1_ f2_ f3_; have f4_ := f1_.symm; have f5_ := f3_.symm; clear f1_ f2_ f3_; subst f4_; subst f5_))
   obtain ⟨Ao78, co78, eo78⟩ := Kd.R_slice HO323.out
   (first | subst eo78 | (injection eo78 with f1_ f2_ f3_; have f4_ := f1_.symm; have f5_ := f3_.symm; clear f1_ f2_ f3_; subst f4_; subst f5_))
   refine hK.out _ _ ⟨(blk_cell BK285.out 0).trans rfl, (blk_cell BK285.out 1).trans rfl, (blk_cell BK285.out 2).trans rfl, (blk_cell BK285.out 3).trans rfl, (blk_cell BK285.out 4).trans rfl, (blk_cell BK271.out 0).trans rfl, (blk_cell BK271.out 1).trans rfl, (blk_cell BK271.out 2).trans rfl, (blk_cell BK271.out 3).trans rfl, (blk_cell BK271.out 4).trans rfl, (blk_cell BK270.out 0).trans rfl, (blk_cell BK270.out 1).trans rfl, (blk_cell BK270.out 2).trans rfl, (blk_cell BK270.out 3).trans rfl, (blk_cell BK270.out 4).trans rfl, (blk_cell BK304.out 0).trans rfl, (blk_cell BK304.out 1).trans rfl, (blk_cell BK304.out 2).trans rfl, (blk_cell BK304.out 3).trans rfl, (blk_cell BK304.out 4).trans rfl⟩ (fun hHeld => ?_)
   clear hK K
   refine norm_ (a' := ?_) ?_ ?_
   rotate_left
   ·show Act.put _ (some 60) _ = _
    simp only [Act.put, List.setIfInBounds_toArray, List.set_cons_zero, List.set_cons_succ, i64_w, i32_w]
    rfl
   refine one_ (i := 13) (N := some 61) #[true, true, true, true, true, true, true, true, true, true, true, true, true, true, false, false, false, false, false, false, false, false, false, false, false, false, false, false, false, false, false, false, false, false, false, false, false, false] rfl rfl (one_of HT_.out (by kernel_rfl)) (by decide) (fun K hK => ?_)
   refine goes_ Try.func23 (by kernel_rfl) rfl #[.agg #[.int .i64 t295, .int .i64 t296, .string t297, .slice Ao68 t298.length co68, .slice Ao69 t301.length co69], .agg #[.int .i64 t315, .int .i64 t316, .string t317, .slice Ao77 t318.length co77, .slice Ao78 t321.length co78]] (by rfl) rfl rfl bl ?_
   with_reducible refine (touchstoneref5_Equal.calls kj7 t295 t296 t297 _ _ t298 _ _ t301 t315 t316 t317 _ _ t318 _ _ t321 true _ ?side1 ?side2 ?side3 ?side4 ?side5 ?side6 ?side7 ?side8 A40.out).mono ?_
   (case side1 => exact cr (Kd.R_reads' HO300.out).2.2)
   (case side2 => exact (Kd.R_reads' HO300.out).2.1)
   (case side3 => exact cr (Kd.R_reads' HO303.out).2.2)
   (case side4 => exact (Kd.R_reads' HO303.out).2.1)
   (case side5 => exact cr (Kd.R_reads' HO320.out).2.2)
   (case side6 => exact (Kd.R_reads' HO320.out).2.1)
   (case side7 => exact cr (Kd.R_reads' HO323.out).2.2)
   (case side8 => exact (Kd.R_reads' HO323.out).2.1)
   rintro e w79 ⟨rfl, hb⟩
   refine ⟨_, rfl, ?_⟩
   replace HO281 := aS (Kd.R_below (kr_ HO281.out) hb)
   replace HO284 := aS (Kd.R_below (kr_ HO284.out) hb)
   replace HO291 := aS (Kd.R_below (kr_ HO291.out) hb)
   replace HO294 := aS (Kd.R_below (kr_ HO294.out) hb)
   replace HO300 := aS (Kd.R_below (kr_ HO300.out) hb)
   replace HO303 := aS (Kd.R_below (kr_ HO303.out) hb)
   replace HO310 := aS (Kd.R_below (kr_ HO310.out) hb)
   replace HO313 := aS (Kd.R_below (kr_ HO313.out) hb)
   replace HO320 := aS (Kd.R_below (kr_ HO320.out) hb)
   replace HO323 := aS (Kd.R_below (kr_ HO323.out) hb)
   replace BK270 := Bk BK270 hb
   replace BK271 := Bk BK271 hb
   replace BK285 := Bk BK285 hb
   replace BK304 := Bk BK304 hb
   replace HB := Hs HB hb
   (try clear hb)
   (try clear hb2)
   (try clear hk)
   (try clear hi)
   refine hK.out _ _ ⟨(blk_cell BK285.out 0).trans rfl, (blk_cell BK285.out 1).trans rfl, (blk_cell BK285.out 2).trans rfl, (blk_cell BK285.out 3).trans rfl, (blk_cell BK285.out 4).trans rfl, (blk_cell BK271.out 0).trans rfl, (blk_cell BK271.out 1).trans rfl, (blk_cell BK271.out 2).trans rfl, (blk_cell BK271.out 3).trans rfl, (blk_cell BK271.out 4).trans rfl, (blk_cell BK270.out 0).trans rfl, (blk_cell BK270.out 1).trans rfl, (blk_cell BK270.out 2).trans rfl, (blk_cell BK270.out 3).trans rfl, (blk_cell BK270.out 4).trans rfl, (blk_cell BK304.out 0).trans rfl, (blk_cell BK304.out 1).trans rfl, (blk_cell BK304.out 2).trans rfl, (blk_cell BK304.out 3).trans rfl, (blk_cell BK304.out 4).trans rfl⟩ (fun hHeld => ?_)
   clear hK K
   refine norm_ (a' := ?_) ?_ ?_
   rotate_left
   ·show Act.put _ (some 61) _ = _
    simp only [Act.put, List.setIfInBounds_toArray, List.set_cons_zero, List.set_cons_succ, i64_w, i32_w]
    rfl
   refine pure_ (i := 14) (N := some 62) (v := ?_) (a' := ?_) #[true, true, true, true, true, true, true, true, true, true, true, true, true, true, true, false, false, false, false, false, false, false, false, false, false, false, false, false, false, false, false, false, false, false, false, false, false, false] rfl rfl (any_of HT_.out (by kernel_rfl)) (fun _ _ _ h => h) (Or.inl ⟨by rfl, ?_⟩) ?_ ?_
   rotate_left
   ·intro w'
    go_simp
    with_reducible rfl
   rotate_left
   ·simp only [Act.put, List.setIfInBounds_toArray, List.set_cons_zero, List.set_cons_succ, i64_w, i32_w]
    rfl
   refine pure_ (i := 15) (N := some 63) (v := ?_) (a' := ?_) #[true, true, true, true, true, true, true, true, true, true, true, true, true, true, true, true, false, false, false, false, false, false, false, false, false, false, false, false, false, false, false, false, false, false, false, false, false, false] rfl rfl (any_of HT_.out (by kernel_rfl)) (fun _ _ _ h => h) (Or.inl ⟨by rfl, ?_⟩) ?_ ?_
   rotate_left
   ·intro w'
    go_simp
    with_reducible rfl
   rotate_left
   ·simp only [Act.put, List.setIfInBounds_toArray, List.set_cons_zero, List.set_cons_succ, i64_w, i32_w]
    rfl
   refine take_ (i := 16) (N := some 64) (v := ?_) (a' := ?_) #[true, true, true, true, true, true, true, true, true, true, true, true, true, true, true, true, true, false, false, false, false, false, false, false, false, false, false, false, false, false, false, false, false, false, false, false, false, false] rfl rfl (take_ofW HT_.out HW_.out (by kernel_rfl)) (fun _ _ _ h => h) (Or.inl ⟨by rfl, ?_⟩) hHeld ?_ ?_
   rotate_left
   ·rintro w' ⟨s0, s1, s2, s3, s4, s5, s6, s7, s8, s9, s10, s11, s12, s13, s14, s15, s16, s17, s18, s19⟩
    go_simp
    with_reducible rfl
   rotate_left
   ·simp only [Act.put, List.setIfInBounds_toArray, List.set_cons_zero, List.set_cons_succ, i64_w, i32_w]
    rfl
   refine one_ (i := 17) (N := some 65) #[true, true, true, true, true, true, true, true, true, true, true, true, true, true, true, true, true, true, false, false, false, false, false, false, false, false, false, false, false, false, false, false, false, false, false, false, false, false] rfl rfl (one_of HT_.out (by kernel_rfl)) (by decide) (fun K hK => ?_)
   refine goes_ Try.func43 (by kernel_rfl) rfl #[.agg #[.int .i64 t276, .int .i64 t277, .string t278, .slice Ao56 t279.length co56, .slice Ao57 t282.length co57], .int .i64 0] (by rfl) rfl rfl bl ?_
   with_reducible refine (term_Uses.calls kj7 t276 t277 t278 _ _ t279 _ _ t282 0 false _ ?side1 ?side2 ?side3 ?side4 A42.out).mono ?_
   (case side1 => exact cr (Kd.R_reads' HO281.out).2.2)
   (case side2 => exact (Kd.R_reads' HO281.out).2.1)
   (case side3 => exact cr (Kd.R_reads' HO284.out).2.2)
   (case side4 => exact (Kd.R_reads' HO284.out).2.1)
   rintro e w80 ⟨rfl, hb⟩
   refine ⟨_, rfl, ?_⟩
   replace HO281 := aS (Kd.R_below (kr_ HO281.out) hb)
   replace HO284 := aS (Kd.R_below (kr_ HO284.out) hb)
   replace HO291 := aS (Kd.R_below (kr_ HO291.out) hb)
   replace HO294 := aS (Kd.R_below (kr_ HO294.out) hb)
   replace HO300 := aS (Kd.R_below (kr_ HO300.out) hb)
   replace HO303 := aS (Kd.R_below (kr_ HO303.out) hb)
   replace HO310 := aS (Kd.R_below (kr_ HO310.out) hb)
   replace HO313 := aS (Kd.R_below (kr_ HO313.out) hb)
   replace HO320 := aS (Kd.R_below (kr_ HO320.out) hb)
   replace HO323 := aS (Kd.R_below (kr_ HO323.out) hb)
   replace BK270 := Bk BK270 hb
   replace BK271 := Bk BK271 hb
   replace BK285 := Bk BK285 hb
   replace BK304 := Bk BK304 hb
   replace HB := Hs HB hb
   (try clear hb)
   (try clear hb2)
   (try clear hk)
   (try clear hi)
   refine hK.out _ _ ⟨(blk_cell BK285.out 0).trans rfl, (blk_cell BK285.out 1).trans rfl, (blk_cell BK285.out 2).trans rfl, (blk_cell BK285.out 3).trans rfl, (blk_cell BK285.out 4).trans rfl, (blk_cell BK271.out 0).trans rfl, (blk_cell BK271.out 1).trans rfl, (blk_cell BK271.out 2).trans rfl, (blk_cell BK271.out 3).trans rfl, (blk_cell BK271.out 4).trans rfl, (blk_cell BK270.out 0).trans rfl, (blk_cell BK270.out 1).trans rfl, (blk_cell BK270.out 2).trans rfl, (blk_cell BK270.out 3).trans rfl, (blk_cell BK270.out 4).trans rfl, (blk_cell BK304.out 0).trans rfl, (blk_cell BK304.out 1).trans rfl, (blk_cell BK304.out 2).trans rfl, (blk_cell BK304.out 3).trans rfl, (blk_cell BK304.out 4).trans rfl⟩ (fun hHeld => ?_)
   clear hK K
   refine norm_ (a' := ?_) ?_ ?_
   rotate_left
   ·show Act.put _ (some 65) _ = _
    simp only [Act.put, List.setIfInBounds_toArray, List.set_cons_zero, List.set_cons_succ, i64_w, i32_w]
    rfl
   refine pure_ (i := 18) (N := some 66) (v := ?_) (a' := ?_) #[true, true, true, true, true, true, true, true, true, true, true, true, true, true, true, true, true, true, true, false, false, false, false, false, false, false, false, false, false, false, false, false, false, false, false, false, false, false] rfl rfl (any_of HT_.out (by kernel_rfl)) (fun _ _ _ h => h) (Or.inl ⟨by rfl, ?_⟩) ?_ ?_
   rotate_left
   ·intro w'
    go_simp
    with_reducible rfl
   rotate_left
   ·simp only [Act.put, List.setIfInBounds_toArray, List.set_cons_zero, List.set_cons_succ, i64_w, i32_w]
    rfl
   refine pure_ (i := 19) (N := some 67) (v := ?_) (a' := ?_) #[true, true, true, true, true, true, true, true, true, true, true, true, true, true, true, true, true, true, true, true, false, false, false, false, false, false, false, false, false, false, false, false, false, false, false, false, false, false] rfl rfl (any_of HT_.out (by kernel_rfl)) (fun _ _ _ h => h) (Or.inl ⟨by rfl, ?_⟩) ?_ ?_
   rotate_left
   ·intro w'
    go_simp
    with_reducible rfl
   rotate_left
   ·simp only [Act.put, List.setIfInBounds_toArray, List.set_cons_zero, List.set_cons_succ, i64_w, i32_w]
    rfl
   refine pure_ (i := 20) (N := some 68) (v := ?_) (a' := ?_) #[true, true, true, true, true, true, true, true, true, true, true, true, true, true, true, true, true, true, true, true, true, false, false, false, false, false, false, false, false, false, false, false, false, false, false, false, false, false] rfl rfl (any_of HT_.out (by kernel_rfl)) (fun _ _ _ h => h) (Or.inl ⟨by rfl, ?_⟩) ?_ ?_
   rotate_left
   ·intro w'
    go_simp
    with_reducible rfl
   rotate_left
   ·simp only [Act.put, List.setIfInBounds_toArray, List.set_cons_zero, List.set_cons_succ, i64_w, i32_w]
    rfl
   refine pure_ (i := 22) (N := some 70) (v := ?_) (a' := ?_) #[true, true, true, true, true, true, true, true, true, true, true, true, true, true, true, true, true, true, true, true, true, false, true, false, false, false, false, false, false, false, false, false, false, false, false, false, false, false] rfl rfl (any_of HT_.out (by kernel_rfl)) (fun _ _ _ h => h) (Or.inl ⟨by rfl, ?_⟩) ?_ ?_
   rotate_left
   ·intro w'
    go_simp
    with_reducible rfl
   rotate_left
   ·simp only [Act.put, List.setIfInBounds_toArray, List.set_cons_zero, List.set_cons_succ, i64_w, i32_w]
    rfl
   refine pure_ (i := 23) (N := some 71) (v := ?_) (a' := ?_) #[true, true, true, true, true, true, true, true, true, true, true, true, true, true, true, true, true, true, true, true, true, false, true, true, false, false, false, false, false, false, false, false, false, false, false, false, false, false] rfl rfl (any_of HT_.out (by kernel_rfl)) (fun _ _ _ h => h) (Or.inl ⟨by rfl, ?_⟩) ?_ ?_
   rotate_left
   ·intro w'
    go_simp
    with_reducible rfl
   rotate_left
   ·simp only [Act.put, List.setIfInBounds_toArray, List.set_cons_zero, List.set_cons_succ, i64_w, i32_w]
    rfl
   refine pure_ (i := 26) (N := some 74) (v := ?_) (a' := ?_) #[true, true, true, true, true, true, true, true, true, true, true, true, true, true, true, true, true, true, true, true, true, false, true, true, false, false, true, false, false, false, false, false, false, false, false, false, false, false] rfl rfl (any_of HT_.out (by kernel_rfl)) (fun _ _ _ h => h) (Or.inl ⟨by rfl, ?_⟩) ?_ ?_
   rotate_left
   ·intro w'
    go_simp
    with_reducible rfl
   rotate_left
   ·simp only [Act.put, List.setIfInBounds_toArray, List.set_cons_zero, List.set_cons_succ, i64_w, i32_w]
    rfl
   refine take_ (i := 21) (N := some 69) (v := ?_) (a' := ?_) #[true, true, true, true, true, true, true, true, true, true, true, true, true, true, true, true, true, true, true, true, true, true, true, true, false, false, true, false, false, false, false, false, false, false, false, false, false, false] rfl rfl (take_ofW HT_.out HW_.out (by kernel_rfl)) (fun _ _ _ h => h) (Or.inl ⟨by rfl, ?_⟩) hHeld ?_ ?_
   rotate_left
   ·rintro w' ⟨s0, s1, s2, s3, s4, s5, s6, s7, s8, s9, s10, s11, s12, s13, s14, s15, s16, s17, s18, s19⟩
    go_simp
    with_reducible rfl
   rotate_left
   ·simp only [Act.put, List.setIfInBounds_toArray, List.set_cons_zero, List.set_cons_succ, i64_w, i32_w]
    rfl
   refine take_ (i := 25) (N := some 73) (v := ?_) (a' := ?_) #[true, true, true, true, true, true, true, true, true, true, true, true, true, true, true, true, true, true, true, true, true, true, true, true, false, true, true, false, false, false, false, false, false, false, false, false, false, false] rfl rfl (take_ofW HT_.out HW_.out (by kernel_rfl)) (fun _ _ _ h => h) (Or.inl ⟨by rfl, ?_⟩) hHeld ?_ ?_
   rotate_left
   ·rintro w' ⟨s0, s1, s2, s3, s4, s5, s6, s7, s8, s9, s10, s11, s12, s13, s14, s15, s16, s17, s18, s19⟩
    go_simp
    with_reducible rfl
   rotate_left
   ·simp only [Act.put, List.setIfInBounds_toArray, List.set_cons_zero, List.set_cons_succ, i64_w, i32_w]
    rfl
   refine one_ (i := 24) (N := some 72) #[true, true, true, true, true, true, true, true, true, true, true, true, true, true, true, true, true, true, true, true, true, true, true, true, true, true, true, false, false, false, false, false, false, false, false, false, false, false] rfl rfl (one_of HT_.out (by kernel_rfl)) (by decide) (fun K hK => ?_)
   refine goes_ Try.func43 (by kernel_rfl) rfl #[.agg #[.int .i64 t276, .int .i64 t277, .string t278, .slice Ao56 t279.length co56, .slice Ao57 t282.length co57], .int .i64 (wrap64 ((wrap64 (Int.tmod a4 9)) + 1))] (by rfl) rfl rfl bl ?_
   with_reducible refine (term_Uses.calls kj7 t276 t277 t278 _ _ t279 _ _ t282 (wrap64 ((wrap64 (Int.tmod a4 9)) + 1)) t326 _ ?side1 ?side2 ?side3 ?side4 A44.out).mono ?_
   (case side1 => exact cr (Kd.R_reads' HO281.out).2.2)
   (case side2 => exact (Kd.R_reads' HO281.out).2.1)
   (case side3 => exact cr (Kd.R_reads' HO284.out).2.2)
   (case side4 => exact (Kd.R_reads' HO284.out).2.1)
   rintro e w81 ⟨rfl, hb⟩
   refine ⟨_, rfl, ?_⟩
   replace HO281 := aS (Kd.R_below (kr_ HO281.out) hb)
   replace HO284 := aS (Kd.R_below (kr_ HO284.out) hb)
   replace HO291 := aS (Kd.R_below (kr_ HO291.out) hb)
   replace HO294 := aS (Kd.R_below (kr_ HO294.out) hb)
   replace HO300 := aS (Kd.R_below (kr_ HO300.out) hb)
   replace HO303 := aS (Kd.R_below (kr_ HO303.out) hb)
   replace HO310 := aS (Kd.R_below (kr_ HO310.out) hb)
   replace HO313 := aS (Kd.R_below (kr_ HO313.out) hb)
   replace HO320 := aS (Kd.R_below (kr_ HO320.out) hb)
   replace HO323 := aS (Kd.R_below (kr_ HO323.out) hb)
   replace BK270 := Bk BK270 hb
   replace BK271 := Bk BK271 hb
   replace BK285 := Bk BK285 hb
   replace BK304 := Bk BK304 hb
   replace HB := Hs HB hb
   (try clear hb)
   (try clear hb2)
   (try clear hk)
   (try clear hi)
   refine hK.out _ _ ⟨(blk_cell BK285.out 0).trans rfl, (blk_cell BK285.out 1).trans rfl, (blk_cell BK285.out 2).trans rfl, (blk_cell BK285.out 3).trans rfl, (blk_cell BK285.out 4).trans rfl, (blk_cell BK271.out 0).trans rfl, (blk_cell BK271.out 1).trans rfl, (blk_cell BK271.out 2).trans rfl, (blk_cell BK271.out 3).trans rfl, (blk_cell BK271.out 4).trans rfl, (blk_cell BK270.out 0).trans rfl, (blk_cell BK270.out 1).trans rfl, (blk_cell BK270.out 2).trans rfl, (blk_cell BK270.out 3).trans rfl, (blk_cell BK270.out 4).trans rfl, (blk_cell BK304.out 0).trans rfl, (blk_cell BK304.out 1).trans rfl, (blk_cell BK304.out 2).trans rfl, (blk_cell BK304.out 3).trans rfl, (blk_cell BK304.out 4).trans rfl⟩ (fun hHeld => ?_)
   clear hK K
   refine norm_ (a' := ?_) ?_ ?_
   rotate_left
   ·show Act.put _ (some 72) _ = _
    simp only [Act.put, List.setIfInBounds_toArray, List.set_cons_zero, List.set_cons_succ, i64_w, i32_w]
    rfl
   refine one_ (i := 27) (N := some 75) #[true, true, true, true, true, true, true, true, true, true, true, true, true, true, true, true, true, true, true, true, true, true, true, true, true, true, true, true, false, false, false, false, false, false, false, false, false, false] rfl rfl (one_of HT_.out (by kernel_rfl)) (by decide) (fun K hK => ?_)
   refine goes_ Try.func43 (by kernel_rfl) rfl #[.agg #[.int .i64 a0_0, .int .i64 a0_1, .string a0_2, .slice A0_3 l0_3.length c0_3, .slice A0_4 l0_4.length c0_4], .int .i64 (wrap64 (Int.tmod a4 9))] (by rfl) rfl rfl bl ?_
   with_reducible refine (term_Uses.calls kj7 a0_0 a0_1 a0_2 _ _ l0_3 _ _ l0_4 (wrap64 (Int.tmod a4 9)) t327 _ ?side1 ?side2 ?side3 ?side4 A45.out).mono ?_
   (case side1 => exact cr (Kd.C_below HR0_3.out HB.out))
   (case side2 => exact HC0_3.out)
   (case side3 => exact cr (Kd.C_below HR0_4.out HB.out))
   (case side4 => exact HC0_4.out)
   rintro e w82 ⟨rfl, hb⟩
   refine ⟨_, rfl, ?_⟩
   replace HO281 := aS (Kd.R_below (kr_ HO281.out) hb)
   replace HO284 := aS (Kd.R_below (kr_ HO284.out) hb)
   replace HO291 := aS (Kd.R_below (kr_ HO291.out) hb)
   replace HO294 := aS (Kd.R_below (kr_ HO294.out) hb)
   replace HO300 := aS (Kd.R_below (kr_ HO300.out) hb)
   replace HO303 := aS (Kd.R_below (kr_ HO303.out) hb)
   replace HO310 := aS (Kd.R_below (kr_ HO310.out) hb)
   replace HO313 := aS (Kd.R_below (kr_ HO313.out) hb)
   replace HO320 := aS (Kd.R_below (kr_ HO320.out) hb)
   replace HO323 := aS (Kd.R_below (kr_ HO323.out) hb)
   replace BK270 := Bk BK270 hb
   replace BK271 := Bk BK271 hb
   replace BK285 := Bk BK285 hb
   replace BK304 := Bk BK304 hb
   replace HB := Hs HB hb
   (try clear hb)
   (try clear hb2)
   (try clear hk)
   (try clear hi)
   refine hK.out _ _ ⟨(blk_cell BK285.out 0).trans rfl, (blk_cell BK285.out 1).trans rfl, (blk_cell BK285.out 2).trans rfl, (blk_cell BK285.out 3).trans rfl, (blk_cell BK285.out 4).trans rfl, (blk_cell BK271.out 0).trans rfl, (blk_cell BK271.out 1).trans rfl, (blk_cell BK271.out 2).trans rfl, (blk_cell BK271.out 3).trans rfl, (blk_cell BK271.out 4).trans rfl, (blk_cell BK270.out 0).trans rfl, (blk_cell BK270.out 1).trans rfl, (blk_cell BK270.out 2).trans rfl, (blk_cell BK270.out 3).trans rfl, (blk_cell BK270.out 4).trans rfl, (blk_cell BK304.out 0).trans rfl, (blk_cell BK304.out 1).trans rfl, (blk_cell BK304.out 2).trans rfl, (blk_cell BK304.out 3).trans rfl, (blk_cell BK304.out 4).trans rfl⟩ (fun hHeld => ?_)
   clear hK K
   refine norm_ (a' := ?_) ?_ ?_
   rotate_left
   ·show Act.put _ (some 75) _ = _
    simp only [Act.put, List.setIfInBounds_toArray, List.set_cons_zero, List.set_cons_succ, i64_w, i32_w]
    rfl
   refine pure_ (i := 28) (N := some 76) (v := ?_) (a' := ?_) #[true, true, true, true, true, true, true, true, true, true, true, true, true, true, true, true, true, true, true, true, true, true, true, true, true, true, true, true, true, false, false, false, false, false, false, false, false, false] rfl rfl (any_of HT_.out (by kernel_rfl)) (fun _ _ _ h => h) (Or.inl ⟨by rfl, ?_⟩) ?_ ?_
   rotate_left
   ·intro w'
    go_simp
    with_reducible rfl
   rotate_left
   ·simp only [Act.put, List.setIfInBounds_toArray, List.set_cons_zero, List.set_cons_succ, i64_w, i32_w]
    rfl
   refine pure_ (i := 29) (N := some 77) (v := ?_) (a' := ?_) #[true, true, true, true, true, true, true, true, true, true, true, true, true, true, true, true, true, true, true, true, true, true, true, true, true, true, true, true, true, true, false, false, false, false, false, false, false, false] rfl rfl (any_of HT_.out (by kernel_rfl)) (fun _ _ _ h => h) (Or.inl ⟨by rfl, ?_⟩) ?_ ?_
   rotate_left
   ·intro w'
    go_simp
    with_reducible rfl
   rotate_left
   ·simp only [Act.put, List.setIfInBounds_toArray, List.set_cons_zero, List.set_cons_succ, i64_w, i32_w]
    rfl
   refine pure_ (i := 30) (N := some 78) (v := ?_) (a' := ?_) #[true, true, true, true, true, true, true, true, true, true, true, true, true, true, true, true, true, true, true, true, true, true, true, true, true, true, true, true, true, true, true, false, false, false, false, false, false, false] rfl rfl (any_of HT_.out (by kernel_rfl)) (fun _ _ _ h => h) (Or.inl ⟨by rfl, ?_⟩) ?_ ?_
   rotate_left
   ·intro w'
    go_simp
    with_reducible rfl
   rotate_left
   ·simp only [Act.put, List.setIfInBounds_toArray, List.set_cons_zero, List.set_cons_succ, i64_w, i32_w]
    rfl
   refine pure_ (i := 32) (N := some 80) (v := ?_) (a' := ?_) #[true, true, true, true, true, true, true, true, true, true, true, true, true, true, true, true, true, true, true, true, true, true, true, true, true, true, true, true, true, true, true, false, true, false, false, false, false, false] rfl rfl (any_of HT_.out (by kernel_rfl)) (fun _ _ _ h => h) (Or.inl ⟨by rfl, ?_⟩) ?_ ?_
   rotate_left
   ·intro w'
    go_simp
    with_reducible rfl
   rotate_left
   ·simp only [Act.put, List.setIfInBounds_toArray, List.set_cons_zero, List.set_cons_succ, i64_w, i32_w]
    rfl
   refine take_ (i := 31) (N := some 79) (v := ?_) (a' := ?_) #[true, true, true, true, true, true, true, true, true, true, true, true, true, true, true, true, true, true, true, true, true, true, true, true, true, true, true, true, true, true, true, true, true, false, false, false, false, false] rfl rfl (take_ofW HT_.out HW_.out (by kernel_rfl)) (fun _ _ _ h => h) (Or.inl ⟨by rfl, ?_⟩) hHeld ?_ ?_
   rotate_left
   ·rintro w' ⟨s0, s1, s2, s3, s4, s5, s6, s7, s8, s9, s10, s11, s12, s13, s14, s15, s16, s17, s18, s19⟩
    go_simp
    with_reducible rfl
   rotate_left
   ·simp only [Act.put, List.setIfInBounds_toArray, List.set_cons_zero, List.set_cons_succ, i64_w, i32_w]
    rfl
   refine take_ (i := 34) (N := some 82) (v := ?_) (a' := ?_) #[true, true, true, true, true, true, true, true, true, true, true, true, true, true, true, true, true, true, true, true, true, true, true, true, true, true, true, true, true, true, true, true, true, false, true, false, false, false] rfl rfl (take_ofW HT_.out HW_.out (by kernel_rfl)) (fun _ _ _ h => h) (Or.inl ⟨by rfl, ?_⟩) hHeld ?_ ?_
   rotate_left
   ·rintro w' ⟨s0, s1, s2, s3, s4, s5, s6, s7, s8, s9, s10, s11, s12, s13, s14, s15, s16, s17, s18, s19⟩
    go_simp
    with_reducible rfl
   rotate_left
   ·simp only [Act.put, List.setIfInBounds_toArray, List.set_cons_zero, List.set_cons_succ, i64_w, i32_w]
    rfl
   refine one_ (i := 33) (N := some 81) #[true, true, true, true, true, true, true, true, true, true, true, true, true, true, true, true, true, true, true, true, true, true, true, true, true, true, true, true, true, true, true, true, true, true, true, false, false, false] rfl rfl (one_of HT_.out (by kernel_rfl)) (by decide) (fun K hK => ?_)
   refine goes_ Try.func41 (by kernel_rfl) rfl #[.agg #[.int .i64 a0_0, .int .i64 a0_1, .string a0_2, .slice A0_3 l0_3.length c0_3, .slice A0_4 l0_4.length c0_4], .int .i64 0, .int .i64 (wrap64 (Int.tmod a4 9))] (by rfl) rfl rfl bl ?_
   with_reducible refine (term_Lift.calls kj7 a0_0 a0_1 a0_2 _ _ l0_3 _ _ l0_4 0 (wrap64 (Int.tmod a4 9)) t328 t329 t330 t331 t334 _ ?side1 ?side2 ?side3 ?side4 A47.out).mono ?_
   (case side1 => exact cr (Kd.C_below HR0_3.out HB.out))
   (case side2 => exact HC0_3.out)
   (case side3 => exact cr (Kd.C_below HR0_4.out HB.out))
   (case side4 => exact HC0_4.out)
   rintro e w83 ⟨v332, v335, rfl, ho0, ho1, hb⟩
   refine ⟨_, rfl, ?_⟩
   have HO333 := aS (Kd.R_lower (Kd.R_new' (Kd.R_new' (Kd.R_new' (Kd.R_new' (Kd.R_new' ho0 (Kd.R_lt (kr_ HO281.out))) (Kd.R_lt (kr_ HO291.out))) (Kd.R_lt (kr_ HO300.out))) (Kd.R_lt (kr_ HO310.out))) (Kd.R_lt (kr_ HO320.out))) (below_size (hbk HB)))
   have HO336 := aS (Kd.R_lower (Kd.R_newB (Kd.R_newB (Kd.R_newB (Kd.R_newB (Kd.R_new' (Kd.R_new' (Kd.R_new' (Kd.R_new' (Kd.R_new' (Kd.R_new' (Kd.R_new' (Kd.R_new' (Kd.R_new' (Kd.R_new' ho1 (Kd.R_lt (kr_ HO281.out))) (Kd.R_lt (kr_ HO284.out))) (Kd.R_lt (kr_ HO291.out))) (Kd.R_lt (kr_ HO294.out))) (Kd.R_lt (kr_ HO300.out))) (Kd.R_lt (kr_ HO303.out))) (Kd.R_lt (kr_ HO310.out))) (Kd.R_lt (kr_ HO313.out))) (Kd.R_lt (kr_ HO320.out))) (Kd.R_lt (kr_ HO323.out))) (bkw BK270)) (bkw BK271)) (bkw BK285)) (bkw BK304)) (below_size (hbk HB)))
   replace HO281 := aS (Kd.R_elder' (kr_ HO281.out) (Kd.R_base ho0) hb)
   replace HO284 := aS (Kd.R_mono (Kd.R_told (Kd.R_told (Kd.R_old (kr_ HO284.out) hb) (Kd.R_base ho0)) (Kd.R_base ho1)) (fun _ h_ => h_.1))
   replace HO291 := aS (Kd.R_elder' (kr_ HO291.out) (Kd.R_base ho0) hb)
   replace HO294 := aS (Kd.R_mono (Kd.R_told (Kd.R_told (Kd.R_old (kr_ HO294.out) hb) (Kd.R_base ho0)) (Kd.R_base ho1)) (fun _ h_ => h_.1))
   replace HO300 := aS (Kd.R_elder' (kr_ HO300.out) (Kd.R_base ho0) hb)
   replace HO303 := aS (Kd.R_mono (Kd.R_told (Kd.R_told (Kd.R_old (kr_ HO303.out) hb) (Kd.R_base ho0)) (Kd.R_base ho1)) (fun _ h_ => h_.1))
   replace HO310 := aS (Kd.R_elder' (kr_ HO310.out) (Kd.R_base ho0) hb)
   replace HO313 := aS (Kd.R_mono (Kd.R_told (Kd.R_told (Kd.R_old (kr_ HO313.out) hb) (Kd.R_base ho0)) (Kd.R_base ho1)) (fun _ h_ => h_.1))
   replace HO320 := aS (Kd.R_elder' (kr_ HO320.out) (Kd.R_base ho0) hb)
   replace HO323 := aS (Kd.R_mono (Kd.R_told (Kd.R_told (Kd.R_old (kr_ HO323.out) hb) (Kd.R_base ho0)) (Kd.R_base ho1)) (fun _ h_ => h_.1))
   replace BK270 := Bk BK270 hb
   replace BK271 := Bk BK271 hb
   replace BK285 := Bk BK285 hb
   replace BK304 := Bk BK304 hb
   replace HB := Hs HB hb
   (try clear hb)
   (try clear hb2)
   (try clear hk)
   (try clear hi)
   (try clear ho0)
   (try clear ho1)
   obtain ⟨Ao84, co84, eo84⟩ := Kd.R_slice HO333.out
   (first | subst eo84 | (injection eo84 with f1_ f2_ f3_; have f4_ := f1_.symm; have f5_ := f3_.symm; clear f1_ f2_ f3_; subst f4_; subst f5_))
   obtain ⟨Ao85, co85, eo85⟩ := Kd.R_slice HO336.out
   (first | subst eo85 | (injection eo85 with f1_ f2_ f3_; have f4_ := f1_.symm; have f5_ := f3_.symm; clear f1_ f2_ f3_; subst f4_; subst f5_))
   refine hK.out _ _ ⟨(blk_cell BK285.out 0).trans rfl, (blk_cell BK285.out 1).trans rfl, (blk_cell BK285.out 2).trans rfl, (blk_cell BK285.out 3).trans rfl, (blk_cell BK285.out 4).trans rfl, (blk_cell BK271.out 0).trans rfl, (blk_cell BK271.out 1).trans rfl, (blk_cell BK271.out 2).trans rfl, (blk_cell BK271.out 3).trans rfl, (blk_cell BK271.out 4).trans rfl, (blk_cell BK270.out 0).trans rfl, (blk_cell BK270.out 1).trans rfl, (blk_cell BK270.out 2).trans rfl, (blk_cell BK270.out 3).trans rfl, (blk_cell BK270.out 4).trans rfl, (blk_cell BK304.out 0).trans rfl, (blk_cell BK304.out 1).trans rfl, (blk_cell BK304.out 2).trans rfl, (blk_cell BK304.out 3).trans rfl, (blk_cell BK304.out 4).trans rfl⟩ (fun hHeld => ?_)
   clear hK K
   refine norm_ (a' := ?_) ?_ ?_
   rotate_left
   ·show Act.put _ (some 81) _ = _
    simp only [Act.put, List.setIfInBounds_toArray, List.set_cons_zero, List.set_cons_succ, i64_w, i32_w]
    rfl
   refine one_ (i := 35) (N := some 83) #[true, true, true, true, true, true, true, true, true, true, true, true, true, true, true, true, true, true, true, true, true, true, true, true, true, true, true, true, true, true, true, true, true, true, true, true, false, false] rfl rfl (one_of HT_.out (by kernel_rfl)) (by decide) (fun K hK => ?_)
   refine goes_ Try.func23 (by kernel_rfl) rfl #[.agg #[.int .i64 t328, .int .i64 t329, .string t330, .slice Ao84 t331.length co84, .slice Ao85 t334.length co85], .agg #[.int .i64 a0_0, .int .i64 a0_1, .string a0_2, .slice A0_3 l0_3.length c0_3, .slice A0_4 l0_4.length c0_4]] (by rfl) rfl rfl bl ?_
   with_reducible refine (touchstoneref5_Equal.calls kj7 t328 t329 t330 _ _ t331 _ _ t334 a0_0 a0_1 a0_2 _ _ l0_3 _ _ l0_4 t337 _ ?side1 ?side2 ?side3 ?side4 ?side5 ?side6 ?side7 ?side8 A48.out).mono ?_
   (case side1 => exact cr (Kd.R_reads' HO333.out).2.2)
   (case side2 => exact (Kd.R_reads' HO333.out).2.1)
   (case side3 => exact cr (Kd.R_reads' HO336.out).2.2)
   (case side4 => exact (Kd.R_reads' HO336.out).2.1)
   (case side5 => exact cr (Kd.C_below HR0_3.out HB.out))
   (case side6 => exact HC0_3.out)
   (case side7 => exact cr (Kd.C_below HR0_4.out HB.out))
   (case side8 => exact HC0_4.out)
   rintro e w86 ⟨rfl, hb⟩
   refine ⟨_, rfl, ?_⟩
   replace HO281 := aS (Kd.R_below (kr_ HO281.out) hb)
   replace HO284 := aS (Kd.R_below (kr_ HO284.out) hb)
   replace HO291 := aS (Kd.R_below (kr_ HO291.out) hb)
   replace HO294 := aS (Kd.R_below (kr_ HO294.out) hb)
   replace HO300 := aS (Kd.R_below (kr_ HO300.out) hb)
   replace HO303 := aS (Kd.R_below (kr_ HO303.out) hb)
   replace HO310 := aS (Kd.R_below (kr_ HO310.out) hb)
   replace HO313 := aS (Kd.R_below (kr_ HO313.out) hb)
   replace HO320 := aS (Kd.R_below (kr_ HO320.out) hb)
   replace HO323 := aS (Kd.R_below (kr_ HO323.out) hb)
   replace HO333 := aS (Kd.R_below (kr_ HO333.out) hb)
   replace HO336 := aS (Kd.R_below (kr_ HO336.out) hb)
   replace BK270 := Bk BK270 hb
   replace BK271 := Bk BK271 hb
   replace BK285 := Bk BK285 hb
   replace BK304 := Bk BK304 hb
   replace HB := Hs HB hb
   (try clear hb)
   (try clear hb2)
   (try clear hk)
   (try clear hi)
   refine hK.out _ _ ⟨(blk_cell BK285.out 0).trans rfl, (blk_cell BK285.out 1).trans rfl, (blk_cell BK285.out 2).trans rfl, (blk_cell BK285.out 3).trans rfl, (blk_cell BK285.out 4).trans rfl, (blk_cell BK271.out 0).trans rfl, (blk_cell BK271.out 1).trans rfl, (blk_cell BK271.out 2).trans rfl, (blk_cell BK271.out 3).trans rfl, (blk_cell BK271.out 4).trans rfl, (blk_cell BK270.out 0).trans rfl, (blk_cell BK270.out 1).trans rfl, (blk_cell BK270.out 2).trans rfl, (blk_cell BK270.out 3).trans rfl, (blk_cell BK270.out 4).trans rfl, (blk_cell BK304.out 0).trans rfl, (blk_cell BK304.out 1).trans rfl, (blk_cell BK304.out 2).trans rfl, (blk_cell BK304.out 3).trans rfl, (blk_cell BK304.out 4).trans rfl⟩ (fun hHeld => ?_)
   clear hK K
   refine norm_ (a' := ?_) ?_ ?_
   rotate_left
   ·show Act.put _ (some 83) _ = _
    simp only [Act.put, List.setIfInBounds_toArray, List.set_cons_zero, List.set_cons_succ, i64_w, i32_w]
    rfl
   refine pure_ (i := 36) (N := some 84) (v := ?_) (a' := ?_) #[true, true, true, true, true, true, true, true, true, true, true, true, true, true, true, true, true, true, true, true, true, true, true, true, true, true, true, true, true, true, true, true, true, true, true, true, true, false] rfl rfl (any_of HT_.out (by kernel_rfl)) (fun _ _ _ h => h) (Or.inl ⟨by rfl, ?_⟩) ?_ ?_
   rotate_left
   ·intro w'
    go_simp
    with_reducible rfl
   rotate_left
   ·simp only [Act.put, List.setIfInBounds_toArray, List.set_cons_zero, List.set_cons_succ, i64_w, i32_w]
    rfl
   refine pure_ (i := 37) (N := some 10) (v := ?_) (a' := ?_) #[true, true, true, true, true, true, true, true, true, true, true, true, true, true, true, true, true, true, true, true, true, true, true, true, true, true, true, true, true, true, true, true, true, true, true, true, true, true] rfl rfl (any_of HT_.out (by kernel_rfl)) (fun _ _ _ h => h) (Or.inl ⟨by rfl, ?_⟩) ?_ ?_
   rotate_left
   ·intro w'
    go_simp
    with_reducible rfl
   rotate_left
   ·simp only [Act.put, List.setIfInBounds_toArray, List.set_cons_zero, List.set_cons_succ, i64_w, i32_w]
    rfl
   refine done_ (done_of HT_.out (by kernel_rfl)) ?_
   try go_wp2
   go_ret
   exact ⟨by first | rfl | (simp [errW_none, errW_some] <;> rfl) | (simp [*, errW_none, errW_some] <;> rfl), hbk HB⟩
end Go.Proofs.Ytpejhapgffcngaa.QK

