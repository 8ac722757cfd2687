-- By this session's own printing program: a text of this claim's own.
import Derived.Test.YtpejhapgffcngaaQZx0
import Derived.Test.YtpejhapgffcngaaQZx3
import Derived.Test.YtpejhapgffcngaaQZx4
namespace Go.Proofs.Ytpejhapgffcngaa.QZ
open Go.RowKit Go.Proofs.YtpejhapgffcngaaW.PrintWords Go.Proofs.YtpejhapgffcngaaW.PrintLast Go.Proofs.YtpejhapgffcngaaW.PrintMore
attribute [local go_sem] max2_int min2_int max_two min_two max_three min_three max_four min_four   -- for this text's walks alone
set_option linter.unusedVariables false
set_option linter.unusedSimpArgs false

/-! ### touchstoneref7_reader_term: function 130 -/
mutual
def touchstoneref7_reader_term.j0 : Nat → Int → Int → Bool → ByteArray → Int → Int → Int → Int → Int → Option (Int × Int × ByteArray × (List (S76)) × (List (S27)) × ByteArray × Int × Int × Int × Int × Int)
  | 0, _, _, _, _, _, _, _, _, _ => none
  | k + 1, x1, x5, x52, x1000, x1001, x1002, x1003, x1004, x1005 => if x52 = true then (none) else (if x1004 = 0 then (none) else (if x1 > 100 then (none) else (if x1002 = 0 then ((touchstoneref7_letter.f x5).bind fun t414 => (if t414 = true then ((touchstoneref7_reader_name.f k x1000 x1001 x1002 x1003 (wrap64 (x1004 - 1)) x1005).bind fun bt415 => (some (bt415.1, bt415.2.1, bt415.2.2.1, bt415.2.2.2.1, bt415.2.2.2.2.1, bt415.2.2.2.2.2.1, bt415.2.2.2.2.2.2.1, bt415.2.2.2.2.2.2.2.1, bt415.2.2.2.2.2.2.2.2.1, bt415.2.2.2.2.2.2.2.2.2.1, bt415.2.2.2.2.2.2.2.2.2.2))) else (if x5 = 35 then (none) else (if x5 = 42 then (none) else (if x5 = 40 then (none) else (if x5 = 61 then (none) else ((touchstoneref7_reader_term.f k x1000 (wrap64 (x1001 + 1)) x1002 x1003 (wrap64 (x1004 - 1)) x1005 (wrap64 (x1 + 1))).bind fun bt430 => ((touchstoneref7_reader_must.f k bt430.2.2.2.2.2.1 bt430.2.2.2.2.2.2.1 bt430.2.2.2.2.2.2.2.1 bt430.2.2.2.2.2.2.2.2.1 bt430.2.2.2.2.2.2.2.2.2.1 bt430.2.2.2.2.2.2.2.2.2.2 46).bind fun bt446 => ((touchstoneref7_reader_term.f k bt446.1 bt446.2.1 bt446.2.2.1 bt446.2.2.2.1 bt446.2.2.2.2.1 bt446.2.2.2.2.2 (wrap64 (x1 + 1))).bind fun bt452 => (if x5 = 33 then (some (5, 0, (⟨#[]⟩ : ByteArray), ([] : List (S76)), (([(⟨bt430.1, bt430.2.1, bt430.2.2.1, bt430.2.2.2.1, bt430.2.2.2.2.1⟩ : S27), (⟨bt452.1, bt452.2.1, bt452.2.2.1, bt452.2.2.2.1, bt452.2.2.2.2.1⟩ : S27)] : List (S27))), bt452.2.2.2.2.2.1, bt452.2.2.2.2.2.2.1, bt452.2.2.2.2.2.2.2.1, bt452.2.2.2.2.2.2.2.2.1, bt452.2.2.2.2.2.2.2.2.2.1, bt452.2.2.2.2.2.2.2.2.2.2)) else (none))))))))))) else (none))))
def touchstoneref7_reader_term.f : Nat → ByteArray → Int → Int → Int → Int → Int → Int → Option (Int × Int × ByteArray × (List (S76)) × (List (S27)) × ByteArray × Int × Int × Int × Int × Int)
  | 0, _, _, _, _, _, _, _ => none
  | k + 1, s0_0, s0_1, s0_2, s0_3, s0_4, s0_5, a1 => (touchstoneref7_reader_peek.f k s0_0 s0_1 s0_2 s0_3 s0_4 s0_5).bind fun bt406 => (if bt406.2.2.1 ≥ (bt406.2.1.size : Int) then (touchstoneref7_reader_term.j0 k a1 bt406.1 true bt406.2.1 bt406.2.2.1 bt406.2.2.2.1 bt406.2.2.2.2.1 bt406.2.2.2.2.2.1 bt406.2.2.2.2.2.2) else (if bt406.1 = 35 then (touchstoneref7_reader_term.j0 k a1 bt406.1 false bt406.2.1 bt406.2.2.1 bt406.2.2.2.1 bt406.2.2.2.2.1 bt406.2.2.2.2.2.1 bt406.2.2.2.2.2.2) else (if bt406.1 = 42 then (touchstoneref7_reader_term.j0 k a1 bt406.1 false bt406.2.1 bt406.2.2.1 bt406.2.2.2.1 bt406.2.2.2.2.1 bt406.2.2.2.2.2.1 bt406.2.2.2.2.2.2) else (if bt406.1 = 40 then (touchstoneref7_reader_term.j0 k a1 bt406.1 false bt406.2.1 bt406.2.2.1 bt406.2.2.2.1 bt406.2.2.2.2.1 bt406.2.2.2.2.2.1 bt406.2.2.2.2.2.2) else (if bt406.1 = 92 then (touchstoneref7_reader_term.j0 k a1 bt406.1 false bt406.2.1 bt406.2.2.1 bt406.2.2.2.1 bt406.2.2.2.2.1 bt406.2.2.2.2.2.1 bt406.2.2.2.2.2.2) else (if bt406.1 = 33 then (touchstoneref7_reader_term.j0 k a1 bt406.1 false bt406.2.1 bt406.2.2.1 bt406.2.2.2.1 bt406.2.2.2.2.1 bt406.2.2.2.2.2.1 bt406.2.2.2.2.2.2) else (if bt406.1 = 61 then (touchstoneref7_reader_term.j0 k a1 bt406.1 false bt406.2.1 bt406.2.2.1 bt406.2.2.2.1 bt406.2.2.2.2.1 bt406.2.2.2.2.2.1 bt406.2.2.2.2.2.2) else ((touchstoneref7_letter.f bt406.1).bind fun t413 => (touchstoneref7_reader_term.j0 k a1 bt406.1 (!t413) bt406.2.1 bt406.2.2.1 bt406.2.2.2.1 bt406.2.2.2.2.1 bt406.2.2.2.2.2.1 bt406.2.2.2.2.2.2)))))))))
end
theorem touchstoneref7_reader_term.mono_l : ∀ k, (∀ y0 y1 y2 y3 y4 y5 y6, LeO (touchstoneref7_reader_term.f k y0 y1 y2 y3 y4 y5 y6) (touchstoneref7_reader_term.f (k + 1) y0 y1 y2 y3 y4 y5 y6)) ∧ (∀ y0 y1 y2 y3 y4 y5 y6 y7 y8, LeO (touchstoneref7_reader_term.j0 k y0 y1 y2 y3 y4 y5 y6 y7 y8) (touchstoneref7_reader_term.j0 (k + 1) y0 y1 y2 y3 y4 y5 y6 y7 y8))
  | 0 => ⟨fun _ _ _ _ _ _ _ r h => by simp [touchstoneref7_reader_term.f] at h, fun _ _ _ _ _ _ _ _ _ r h => by simp [touchstoneref7_reader_term.j0] at h⟩
  | k + 1 => by
    obtain ⟨ih0, ih1⟩ := touchstoneref7_reader_term.mono_l k
    refine ⟨?_, ?_⟩
    · intro y0 y1 y2 y3 y4 y5 y6
      unfold touchstoneref7_reader_term.f
      repeat' first
      | (with_reducible exact ih0 _ _ _ _ _ _ _)
      | (with_reducible exact ih1 _ _ _ _ _ _ _ _ _)
      | (with_reducible exact touchstoneref7_reader_must.mono _ _ _ _ _ _ _ _)
      | (with_reducible exact touchstoneref7_reader_name.mono _ _ _ _ _ _ _)
      | (with_reducible exact touchstoneref7_reader_peek.mono _ _ _ _ _ _ _)
      | (with_reducible exact LeO.refl _)
      | (with_reducible exact LeO.none _)
      | (with_reducible refine LeO.ite ?_ ?_)
      | (with_reducible refine LeO.bind ?_ (fun _ => ?_))
      | exact ih0 _ _ _ _ _ _ _
      | exact ih1 _ _ _ _ _ _ _ _ _
      | exact touchstoneref7_reader_must.mono _ _ _ _ _ _ _ _
      | exact touchstoneref7_reader_name.mono _ _ _ _ _ _ _
      | exact touchstoneref7_reader_peek.mono _ _ _ _ _ _ _
      | exact LeO.none _
      | refine LeO.ite ?_ ?_
      | refine LeO.bind ?_ (fun _ => ?_)
    · intro y0 y1 y2 y3 y4 y5 y6 y7 y8
      unfold touchstoneref7_reader_term.j0
      repeat' first
      | (with_reducible exact ih0 _ _ _ _ _ _ _)
      | (with_reducible exact ih1 _ _ _ _ _ _ _ _ _)
      | (with_reducible exact touchstoneref7_reader_must.mono _ _ _ _ _ _ _ _)
      | (with_reducible exact touchstoneref7_reader_name.mono _ _ _ _ _ _ _)
      | (with_reducible exact touchstoneref7_reader_peek.mono _ _ _ _ _ _ _)
      | (with_reducible exact LeO.refl _)
      | (with_reducible exact LeO.none _)
      | (with_reducible refine LeO.ite ?_ ?_)
      | (with_reducible refine LeO.bind ?_ (fun _ => ?_))
      | exact ih0 _ _ _ _ _ _ _
      | exact ih1 _ _ _ _ _ _ _ _ _
      | exact touchstoneref7_reader_must.mono _ _ _ _ _ _ _ _
      | exact touchstoneref7_reader_name.mono _ _ _ _ _ _ _
      | exact touchstoneref7_reader_peek.mono _ _ _ _ _ _ _
      | exact LeO.none _
      | refine LeO.ite ?_ ?_
      | refine LeO.bind ?_ (fun _ => ?_)
theorem touchstoneref7_reader_term.mono : ∀ a0 a1 a2 a3 a4 a5 a6 k, LeO (touchstoneref7_reader_term.f k a0 a1 a2 a3 a4 a5 a6) (touchstoneref7_reader_term.f (k + 1) a0 a1 a2 a3 a4 a5 a6) := by
  intro a0 a1 a2 a3 a4 a5 a6 k
  obtain ⟨ih0, ih1⟩ := touchstoneref7_reader_term.mono_l k
  exact ih0 a0 a1 a2 a3 a4 a5 a6
def touchstoneref7_reader_term.T33 : Bool × List (List Nat × List Nat) := (true, [([], []), ([], []), ([], []), ([2], [2]), ([1, 3], [1, 3]), ([0, 4], [0, 4]), ([5], [5]), ([], []), ([7, 6, 4, 0, 1, 2, 3, 4, 5, 6, 7], [6, 7])])
def touchstoneref7_reader_term.B33 : List Nat := [0, 0, 0, 4, 14, 31, 63, 0, 255]
theorem touchstoneref7_reader_term.tab33 : rtab .any (opsOf Try.f130 33) = touchstoneref7_reader_term.T33 := by kernel_rfl
theorem touchstoneref7_reader_term.bits33 : waitsOk touchstoneref7_reader_term.T33.2 touchstoneref7_reader_term.B33 = true := by kernel_rfl
set_option maxHeartbeats 8000000 in
set_option maxRecDepth 100000 in
theorem touchstoneref7_reader_term.calls (k : Nat) : ∀ (g : Nat) (s0_0 : ByteArray) (s0_1 : Int) (s0_2 : Int) (s0_3 : Int) (s0_4 : Int) (s0_5 : Int) (a1 : Int) (r1 : Int) (r2 : Int) (r3 : ByteArray) (r4 : List (S76)) (r5 : List (S27)) (r6 : ByteArray) (r7 : Int) (r8 : Int) (r9 : Int) (r10 : Int) (r11 : Int) (w0 w : World) (hI : IsS121 w0 w g s0_0 s0_1 s0_2 s0_3 s0_4 s0_5) (hB : Below w0.heap.size w0 w) (h : touchstoneref7_reader_term.f k s0_0 s0_1 s0_2 s0_3 s0_4 s0_5 a1 = some (r1, r2, r3, r4, r5, r6, r7, r8, r9, r10, r11)),
    Calls Try.prog 130 #[.pointer (some ⟨g, 0, none⟩), .int .i64 a1] w fun e w' => ∃ v3_ v4_ : Value, e = .returned (.agg #[.int .i64 r1, .int .i64 r2, .string r3, v3_, v4_]) ∧ Kd.N k76 76 w' w.heap.size (fun k_ => (w.heap.size ≤ k_) ∧ some k_ ≠ (v4_ : Value).ownBlock) v3_ r4 ∧ Kd.N k27 27 w' w.heap.size (fun k_ => (w.heap.size ≤ k_) ∧ some k_ ≠ (v3_ : Value).ownBlock) v4_ r5 ∧ IsS121 w0 w' g r6 r7 r8 r9 r10 r11 ∧ Below w0.heap.size w0 w' ∧ KeepBut w w' g none := by
  induction k using Nat.strongRecOn with
  | _ k ih =>
  intro g s0_0 s0_1 s0_2 s0_3 s0_4 s0_5 a1 r1 r2 r3 r4 r5 r6 r7 r8 r9 r10 r11 w0 w hI hB h
  cases k with
  | zero => exact absurd h (by simp [touchstoneref7_reader_term.f])
  | succ k =>
  simp only [touchstoneref7_reader_term.f] at h
  have hu27 := Try.underlying27
  have HI0 := Aside0.mk hI
  have HK := Aside0.mk (KeepBut.refl w g none)
  have HL := Aside0.mk hB.size
  clear hI
  have HW0 := Aside0.mk hB.size
  have HB := Aside0.mk hB
  clear hB
  have H : ((touchstoneref7_reader_peek.f k s0_0 s0_1 s0_2 s0_3 s0_4 s0_5).bind fun bt406 => (if bt406.2.2.1 ≥ (bt406.2.1.size : Int) then (touchstoneref7_reader_term.j0 k a1 bt406.1 true bt406.2.1 bt406.2.2.1 bt406.2.2.2.1 bt406.2.2.2.2.1 bt406.2.2.2.2.2.1 bt406.2.2.2.2.2.2) else (if bt406.1 = 35 then (touchstoneref7_reader_term.j0 k a1 bt406.1 false bt406.2.1 bt406.2.2.1 bt406.2.2.2.1 bt406.2.2.2.2.1 bt406.2.2.2.2.2.1 bt406.2.2.2.2.2.2) else (if bt406.1 = 42 then (touchstoneref7_reader_term.j0 k a1 bt406.1 false bt406.2.1 bt406.2.2.1 bt406.2.2.2.1 bt406.2.2.2.2.1 bt406.2.2.2.2.2.1 bt406.2.2.2.2.2.2) else (if bt406.1 = 40 then (touchstoneref7_reader_term.j0 k a1 bt406.1 false bt406.2.1 bt406.2.2.1 bt406.2.2.2.1 bt406.2.2.2.2.1 bt406.2.2.2.2.2.1 bt406.2.2.2.2.2.2) else (if bt406.1 = 92 then (touchstoneref7_reader_term.j0 k a1 bt406.1 false bt406.2.1 bt406.2.2.1 bt406.2.2.2.1 bt406.2.2.2.2.1 bt406.2.2.2.2.2.1 bt406.2.2.2.2.2.2) else (if bt406.1 = 33 then (touchstoneref7_reader_term.j0 k a1 bt406.1 false bt406.2.1 bt406.2.2.1 bt406.2.2.2.1 bt406.2.2.2.2.1 bt406.2.2.2.2.2.1 bt406.2.2.2.2.2.2) else (if bt406.1 = 61 then (touchstoneref7_reader_term.j0 k a1 bt406.1 false bt406.2.1 bt406.2.2.1 bt406.2.2.2.1 bt406.2.2.2.2.1 bt406.2.2.2.2.2.1 bt406.2.2.2.2.2.2) else ((touchstoneref7_letter.f bt406.1).bind fun t413 => (touchstoneref7_reader_term.j0 k a1 bt406.1 (!t413) bt406.2.1 bt406.2.2.1 bt406.2.2.2.1 bt406.2.2.2.2.1 bt406.2.2.2.2.2.1 bt406.2.2.2.2.2.2)))))))))) = some (r1, r2, r3, r4, r5, r6, r7, r8, r9, r10, r11) := h
  clear h
  replace H := Option.bind_eq_some_iff.mp H
  obtain ⟨⟨t406, t407, t408, t409, t410, t411, t412⟩, A30, H⟩ := H
  replace H : (if t408 ≥ (t407.size : Int) then (touchstoneref7_reader_term.j0 k a1 t406 true t407 t408 t409 t410 t411 t412) else (if t406 = 35 then (touchstoneref7_reader_term.j0 k a1 t406 false t407 t408 t409 t410 t411 t412) else (if t406 = 42 then (touchstoneref7_reader_term.j0 k a1 t406 false t407 t408 t409 t410 t411 t412) else (if t406 = 40 then (touchstoneref7_reader_term.j0 k a1 t406 false t407 t408 t409 t410 t411 t412) else (if t406 = 92 then (touchstoneref7_reader_term.j0 k a1 t406 false t407 t408 t409 t410 t411 t412) else (if t406 = 33 then (touchstoneref7_reader_term.j0 k a1 t406 false t407 t408 t409 t410 t411 t412) else (if t406 = 61 then (touchstoneref7_reader_term.j0 k a1 t406 false t407 t408 t409 t410 t411 t412) else ((touchstoneref7_letter.f t406).bind fun t413 => (touchstoneref7_reader_term.j0 k a1 t406 (!t413) t407 t408 t409 t410 t411 t412))))))))) = some (r1, r2, r3, r4, r5, r6, r7, r8, r9, r10, r11) := H
  have A3 := Aside0.mk A30
  clear A30
  have HC4 := Aside0.mk H
  clear H
  go_enter Try.func130, Try.ntmps130
  go_upto_region 2 with (first | ((with_reducible refine gate_dst (N := 4) rfl ?_); refine box_event ?hg (N := 4) ?hd (cs := #[.int .i64 0, .int .i64 0, .string (⟨#[]⟩ : ByteArray), .slice none 0 0, .slice none 0 0]) (t := 27) ?hr ?_; (case hd => rfl); (case hg => rfl); (case hr => first | (go_simp; done) | (go_simp; rfl)); intro gb405 hg w5 hbox hb; have n0_ := Aside0.mk (IsS121.below (by repeat (first | (with_reducible first | exact HI0.out | apply IsS121.alloc | apply IsS121.drewN | apply IsS121.drew | apply IsS121.set_0 | apply IsS121.set_1 | apply IsS121.set_2 | apply IsS121.set_3 | apply IsS121.set_4 | apply IsS121.set_5) | exact HI0.out)) hb); have n1_ := Aside0.mk (KeepBut.trans (by repeat (first | (with_reducible first | exact HK.out | apply KeepBut.set_ | apply keep_drewN | apply keep_drew | apply keep_alloc) | exact HK.out)) (KeepBut.of_below hb g none) (.inl rfl)); have n2_ := Aside0.mk (below_step (by repeat (first | (with_reducible first | exact HB.out | apply below_alloc | apply pw_below_drewN | apply below_drew1 | refine below_set ?_ (IsS121.ge HI0.out)) | exact HB.out)) hb); have n3_ := Aside0.mk (hbox); have n4_ := Aside0.mk ((by rw [hg]; exact (keep_size (w := w) (g := g) (row := none) (by repeat (first | (with_reducible first | exact HK.out | apply KeepBut.set_ | apply keep_drewN | apply keep_drew | apply keep_alloc) | exact HK.out))) : w.heap.size ≤ gb405)); have n5_ := Aside0.mk ((Nat.le_trans HW0.out (by rw [hg]; exact (keep_size (w := w) (g := g) (row := none) (by repeat (first | (with_reducible first | exact HK.out | apply KeepBut.set_ | apply keep_drewN | apply keep_drew | apply keep_alloc) | exact HK.out))) : w.heap.size ≤ gb405) : w0.heap.size ≤ gb405)); have n6_ := Aside0.mk ((by rw [hg]; exact Nat.ne_of_lt (IsS121.lt (show IsS121 w0 _ g s0_0 s0_1 s0_2 s0_3 s0_4 s0_5 from by repeat (first | (with_reducible first | exact HI0.out | apply IsS121.alloc | apply IsS121.drewN | apply IsS121.drew | apply IsS121.set_0 | apply IsS121.set_1 | apply IsS121.set_2 | apply IsS121.set_3 | apply IsS121.set_4 | apply IsS121.set_5) | exact HI0.out))) : g ≠ gb405)); have n7_ := Aside0.mk ((by rw [hg]; exact Nat.ne_of_gt (IsS121.lt (show IsS121 w0 _ g s0_0 s0_1 s0_2 s0_3 s0_4 s0_5 from by repeat (first | (with_reducible first | exact HI0.out | apply IsS121.alloc | apply IsS121.drewN | apply IsS121.drew | apply IsS121.set_0 | apply IsS121.set_1 | apply IsS121.set_2 | apply IsS121.set_3 | apply IsS121.set_4 | apply IsS121.set_5) | exact HI0.out))) : gb405 ≠ g)); clear HI0; clear HK; clear HB; have HI0 := n0_; have HK := n1_; have HB := n2_; have BK405 := n3_; have GW405 := n4_; have GE405 := n5_; have NB0_405 := n6_; have NB405_0 := n7_; clear n0_ n1_ n2_ n3_ n4_ n5_ n6_ n7_; clear hb hbox hg) | ((with_reducible refine gate_callee (f := 155) rfl ?_); refine goesL_ (some 13) rfl rfl Try.func155 (by kernel_rfl) rfl #[.pointer (some ⟨g, 0, none⟩)] rfl (by (try simp only [List.map_toArray, List.map_cons, List.map_nil]); first | done | rfl | (simp only [List.length_drop, List.length_take]; rfl)) ?_; (with_reducible refine (touchstoneref7_reader_peek.calls k g s0_0 s0_1 s0_2 s0_3 s0_4 s0_5 t406 t407 t408 t409 t410 t411 t412 w0 _ ?side1 ?side2 A3.out).mono ?_); (case side1 => repeat (first | (with_reducible first | exact HI0.out | apply IsS121.alloc | apply IsS121.drewN | apply IsS121.drew | apply IsS121.set_0 | apply IsS121.set_1 | apply IsS121.set_2 | apply IsS121.set_3 | apply IsS121.set_4 | apply IsS121.set_5 | refine IsS121.far ?_ NB0_405.out _) | exact HI0.out)); (case side2 => repeat (first | (with_reducible first | exact HB.out | apply below_alloc | apply pw_below_drewN | apply below_drew1 | refine below_set ?_ (IsS121.ge HI0.out) | refine below_set ?_ GE405.out) | exact HB.out)); rintro e w6 ⟨rfl, hi, hb, hk⟩; refine ⟨_, rfl, ?_⟩; have n0_ := Aside0.mk (KeepBut.blk hk (g' := gb405) (o := .cells #[.int .i64 0, .int .i64 0, .string (⟨#[]⟩ : ByteArray), .slice none 0 0, .slice none 0 0] 27 (0, 0)) (by (with_reducible repeat (first | refine blk_drewN ?_ _ | refine blk_drew ?_ | refine blk_alloc ?_ _)); exact BK405.out) NB405_0.out (by simp)); have n1_ := Aside0.mk (KeepBut.trans (by repeat (first | (with_reducible first | exact HK.out | apply KeepBut.set_ | apply keep_drewN | apply keep_drew | apply keep_alloc | refine keep_far ?_ GW405.out _) | exact HK.out)) hk (.inl rfl)); have n2_ := Aside0.mk (hb); have n3_ := Aside0.mk (hi); clear BK405; clear HK; clear HB; clear HI0; have BK405 := n0_; have HK := n1_; have HB := n2_; have HI0 := n3_; clear n0_ n1_ n2_ n3_; (try clear hb); (try clear hb2); (try clear hk); (try clear hi)))
  (try simp only [Act.put, List.setIfInBounds_toArray, List.set_cons_zero, List.set_cons_succ])
  go_cut [52] (fun v52 wc => ∃ (kq : Nat) (x52_3 : Bool), v52 = .bool x52_3 ∧ Aside0 (touchstoneref7_reader_term.j0 kq a1 t406 x52_3 t407 t408 t409 t410 t411 t412 = some (r1, r2, r3, r4, r5, r6, r7, r8, r9, r10, r11)) ∧ Aside0 (kq ≤ k) ∧ Aside0 (wc.heap[gb405]? = some (.cells #[.int .i64 0, .int .i64 0, .string (⟨#[]⟩ : ByteArray), (.slice none 0 0), (.slice none 0 0)] 27 (0, 0))) ∧ Aside0 (IsS121 w0 wc g t407 t408 t409 t410 t411 t412) ∧ Aside0 (KeepBut w wc g none) ∧ Aside0 (Below w0.heap.size w0 wc))
  case first =>
    have H := HC4.out
    clear HC4
    by_cases c7 : t408 ≥ (t407.size : Int)
    · rw [if_pos c7] at H
      have c7b0 : decide ((t407.size : Int) ≤ t408) = true := decide_eq_true c7
      clear c7
      (first | rw [c7b0] | (simp only [i64_w, i32_w]; rw [c7b0]) | skip)
      have H' := Aside0.mk H
      clear H
      obtain ⟨HGz8, hgz8⟩ := HI0.out
      have hcz8_0 := cellS121_0 HGz8
      have hcz8_1 := cellS121_1 HGz8
      have hcz8_2 := cellS121_2 HGz8
      have hcz8_3 := cellS121_3 HGz8
      have hcz8_4 := cellS121_4 HGz8
      have hcz8_5 := cellS121_5 HGz8
      have hfz8_0 := blk_frozen HGz8 0
      have hfz8_1 := blk_frozen HGz8 1
      have hfz8_2 := blk_frozen HGz8 2
      have hfz8_3 := blk_frozen HGz8 3
      have hfz8_4 := blk_frozen HGz8 4
      have hfz8_5 := blk_frozen HGz8 5
      clear HGz8 hgz8
      go_wp2
      repeat (go_quiet (fail); try go_wp2)
      go_meet
      case rel => exact ⟨_, (true), (by first | rfl | (simp; done) | (simp [*]; done)), H', ⟨by first | omega | exact Nat.le_refl _⟩, ⟨by (with_reducible repeat (first | refine blk_drewN ?_ _ | refine blk_drew ?_ | refine blk_alloc ?_ _)); exact BK405.out⟩, ⟨by repeat (first | (with_reducible first | exact HI0.out | apply IsS121.alloc | apply IsS121.drewN | apply IsS121.drew | apply IsS121.set_0 | apply IsS121.set_1 | apply IsS121.set_2 | apply IsS121.set_3 | apply IsS121.set_4 | apply IsS121.set_5 | refine IsS121.far ?_ NB0_405.out _) | exact HI0.out)⟩, ⟨by repeat (first | (with_reducible first | exact HK.out | apply KeepBut.set_ | apply keep_drewN | apply keep_drew | apply keep_alloc | refine keep_far ?_ GW405.out _) | exact HK.out)⟩, ⟨by repeat (first | (with_reducible first | exact HB.out | apply below_alloc | apply pw_below_drewN | apply below_drew1 | refine below_set ?_ (IsS121.ge HI0.out) | refine below_set ?_ GE405.out) | exact HB.out)⟩⟩
    · rw [if_neg c7] at H
      have c7b0 : decide ((t407.size : Int) ≤ t408) = false := decide_eq_false c7
      clear c7
      (first | rw [c7b0] | (simp only [i64_w, i32_w]; rw [c7b0]) | skip)
      by_cases c9 : t406 = 35
      · rw [if_pos c9] at H
        have c9b0 : (t406 == 35) = true := beq_iff_eq.mpr c9
        have c9b1 : (t406 != 35) = false := bne_eq_false_iff_eq.mpr c9
        clear c9
        have H' := Aside0.mk H
        clear H
        obtain ⟨HGz10, hgz10⟩ := HI0.out
        have hcz10_0 := cellS121_0 HGz10
        have hcz10_1 := cellS121_1 HGz10
        have hcz10_2 := cellS121_2 HGz10
        have hcz10_3 := cellS121_3 HGz10
        have hcz10_4 := cellS121_4 HGz10
        have hcz10_5 := cellS121_5 HGz10
        have hfz10_0 := blk_frozen HGz10 0
        have hfz10_1 := blk_frozen HGz10 1
        have hfz10_2 := blk_frozen HGz10 2
        have hfz10_3 := blk_frozen HGz10 3
        have hfz10_4 := blk_frozen HGz10 4
        have hfz10_5 := blk_frozen HGz10 5
        clear HGz10 hgz10
        go_wp2
        repeat (go_quiet (fail); try go_wp2)
        go_meet
        case rel => exact ⟨_, (false), (by first | rfl | (simp; done) | (simp [*]; done)), H', ⟨by first | omega | exact Nat.le_refl _⟩, ⟨by (with_reducible repeat (first | refine blk_drewN ?_ _ | refine blk_drew ?_ | refine blk_alloc ?_ _)); exact BK405.out⟩, ⟨by repeat (first | (with_reducible first | exact HI0.out | apply IsS121.alloc | apply IsS121.drewN | apply IsS121.drew | apply IsS121.set_0 | apply IsS121.set_1 | apply IsS121.set_2 | apply IsS121.set_3 | apply IsS121.set_4 | apply IsS121.set_5 | refine IsS121.far ?_ NB0_405.out _) | exact HI0.out)⟩, ⟨by repeat (first | (with_reducible first | exact HK.out | apply KeepBut.set_ | apply keep_drewN | apply keep_drew | apply keep_alloc | refine keep_far ?_ GW405.out _) | exact HK.out)⟩, ⟨by repeat (first | (with_reducible first | exact HB.out | apply below_alloc | apply pw_below_drewN | apply below_drew1 | refine below_set ?_ (IsS121.ge HI0.out) | refine below_set ?_ GE405.out) | exact HB.out)⟩⟩
      · rw [if_neg c9] at H
        have c9b0 : (t406 == 35) = false := beq_eq_false_iff_ne.mpr c9
        have c9b1 : (t406 != 35) = true := bne_iff_ne.mpr c9
        by_cases c11 : t406 = 42
        · rw [if_pos c11] at H
          have c11b0 : (t406 == 42) = true := beq_iff_eq.mpr c11
          have c11b1 : (t406 != 42) = false := bne_eq_false_iff_eq.mpr c11
          clear c11
          have H' := Aside0.mk H
          clear H
          obtain ⟨HGz12, hgz12⟩ := HI0.out
          have hcz12_0 := cellS121_0 HGz12
          have hcz12_1 := cellS121_1 HGz12
          have hcz12_2 := cellS121_2 HGz12
          have hcz12_3 := cellS121_3 HGz12
          have hcz12_4 := cellS121_4 HGz12
          have hcz12_5 := cellS121_5 HGz12
          have hfz12_0 := blk_frozen HGz12 0
          have hfz12_1 := blk_frozen HGz12 1
          have hfz12_2 := blk_frozen HGz12 2
          have hfz12_3 := blk_frozen HGz12 3
          have hfz12_4 := blk_frozen HGz12 4
          have hfz12_5 := blk_frozen HGz12 5
          clear HGz12 hgz12
          go_wp2
          repeat (go_quiet (fail); try go_wp2)
          go_meet
          case rel => exact ⟨_, (false), (by first | rfl | (simp; done) | (simp [*]; done)), H', ⟨by first | omega | exact Nat.le_refl _⟩, ⟨by (with_reducible repeat (first | refine blk_drewN ?_ _ | refine blk_drew ?_ | refine blk_alloc ?_ _)); exact BK405.out⟩, ⟨by repeat (first | (with_reducible first | exact HI0.out | apply IsS121.alloc | apply IsS121.drewN | apply IsS121.drew | apply IsS121.set_0 | apply IsS121.set_1 | apply IsS121.set_2 | apply IsS121.set_3 | apply IsS121.set_4 | apply IsS121.set_5 | refine IsS121.far ?_ NB0_405.out _) | exact HI0.out)⟩, ⟨by repeat (first | (with_reducible first | exact HK.out | apply KeepBut.set_ | apply keep_drewN | apply keep_drew | apply keep_alloc | refine keep_far ?_ GW405.out _) | exact HK.out)⟩, ⟨by repeat (first | (with_reducible first | exact HB.out | apply below_alloc | apply pw_below_drewN | apply below_drew1 | refine below_set ?_ (IsS121.ge HI0.out) | refine below_set ?_ GE405.out) | exact HB.out)⟩⟩
        · rw [if_neg c11] at H
          have c11b0 : (t406 == 42) = false := beq_eq_false_iff_ne.mpr c11
          have c11b1 : (t406 != 42) = true := bne_iff_ne.mpr c11
          by_cases c13 : t406 = 40
          · rw [if_pos c13] at H
            have c13b0 : (t406 == 40) = true := beq_iff_eq.mpr c13
            have c13b1 : (t406 != 40) = false := bne_eq_false_iff_eq.mpr c13
            clear c13
            have H' := Aside0.mk H
            clear H
            obtain ⟨HGz14, hgz14⟩ := HI0.out
            have hcz14_0 := cellS121_0 HGz14
            have hcz14_1 := cellS121_1 HGz14
            have hcz14_2 := cellS121_2 HGz14
            have hcz14_3 := cellS121_3 HGz14
            have hcz14_4 := cellS121_4 HGz14
            have hcz14_5 := cellS121_5 HGz14
            have hfz14_0 := blk_frozen HGz14 0
            have hfz14_1 := blk_frozen HGz14 1
            have hfz14_2 := blk_frozen HGz14 2
            have hfz14_3 := blk_frozen HGz14 3
            have hfz14_4 := blk_frozen HGz14 4
            have hfz14_5 := blk_frozen HGz14 5
            clear HGz14 hgz14
            go_wp2
            repeat (go_quiet (fail); try go_wp2)
            go_meet
            case rel => exact ⟨_, (false), (by first | rfl | (simp; done) | (simp [*]; done)), H', ⟨by first | omega | exact Nat.le_refl _⟩, ⟨by (with_reducible repeat (first | refine blk_drewN ?_ _ | refine blk_drew ?_ | refine blk_alloc ?_ _)); exact BK405.out⟩, ⟨by repeat (first | (with_reducible first | exact HI0.out | apply IsS121.alloc | apply IsS121.drewN | apply IsS121.drew | apply IsS121.set_0 | apply IsS121.set_1 | apply IsS121.set_2 | apply IsS121.set_3 | apply IsS121.set_4 | apply IsS121.set_5 | refine IsS121.far ?_ NB0_405.out _) | exact HI0.out)⟩, ⟨by repeat (first | (with_reducible first | exact HK.out | apply KeepBut.set_ | apply keep_drewN | apply keep_drew | apply keep_alloc | refine keep_far ?_ GW405.out _) | exact HK.out)⟩, ⟨by repeat (first | (with_reducible first | exact HB.out | apply below_alloc | apply pw_below_drewN | apply below_drew1 | refine below_set ?_ (IsS121.ge HI0.out) | refine below_set ?_ GE405.out) | exact HB.out)⟩⟩
          · rw [if_neg c13] at H
            have c13b0 : (t406 == 40) = false := beq_eq_false_iff_ne.mpr c13
            have c13b1 : (t406 != 40) = true := bne_iff_ne.mpr c13
            by_cases c15 : t406 = 92
            · rw [if_pos c15] at H
              have c15b0 : (t406 == 92) = true := beq_iff_eq.mpr c15
              have c15b1 : (t406 != 92) = false := bne_eq_false_iff_eq.mpr c15
              clear c15
              have H' := Aside0.mk H
              clear H
              obtain ⟨HGz16, hgz16⟩ := HI0.out
              have hcz16_0 := cellS121_0 HGz16
              have hcz16_1 := cellS121_1 HGz16
              have hcz16_2 := cellS121_2 HGz16
              have hcz16_3 := cellS121_3 HGz16
              have hcz16_4 := cellS121_4 HGz16
              have hcz16_5 := cellS121_5 HGz16
              have hfz16_0 := blk_frozen HGz16 0
              have hfz16_1 := blk_frozen HGz16 1
              have hfz16_2 := blk_frozen HGz16 2
              have hfz16_3 := blk_frozen HGz16 3
              have hfz16_4 := blk_frozen HGz16 4
              have hfz16_5 := blk_frozen HGz16 5
              clear HGz16 hgz16
              go_wp2
              repeat (go_quiet (fail); try go_wp2)
              go_meet
              case rel => exact ⟨_, (false), (by first | rfl | (simp; done) | (simp [*]; done)), H', ⟨by first | omega | exact Nat.le_refl _⟩, ⟨by (with_reducible repeat (first | refine blk_drewN ?_ _ | refine blk_drew ?_ | refine blk_alloc ?_ _)); exact BK405.out⟩, ⟨by repeat (first | (with_reducible first | exact HI0.out | apply IsS121.alloc | apply IsS121.drewN | apply IsS121.drew | apply IsS121.set_0 | apply IsS121.set_1 | apply IsS121.set_2 | apply IsS121.set_3 | apply IsS121.set_4 | apply IsS121.set_5 | refine IsS121.far ?_ NB0_405.out _) | exact HI0.out)⟩, ⟨by repeat (first | (with_reducible first | exact HK.out | apply KeepBut.set_ | apply keep_drewN | apply keep_drew | apply keep_alloc | refine keep_far ?_ GW405.out _) | exact HK.out)⟩, ⟨by repeat (first | (with_reducible first | exact HB.out | apply below_alloc | apply pw_below_drewN | apply below_drew1 | refine below_set ?_ (IsS121.ge HI0.out) | refine below_set ?_ GE405.out) | exact HB.out)⟩⟩
            · rw [if_neg c15] at H
              have c15b0 : (t406 == 92) = false := beq_eq_false_iff_ne.mpr c15
              have c15b1 : (t406 != 92) = true := bne_iff_ne.mpr c15
              by_cases c17 : t406 = 33
              · rw [if_pos c17] at H
                have c17b0 : (t406 == 33) = true := beq_iff_eq.mpr c17
                have c17b1 : (t406 != 33) = false := bne_eq_false_iff_eq.mpr c17
                clear c17
                have H' := Aside0.mk H
                clear H
                obtain ⟨HGz18, hgz18⟩ := HI0.out
                have hcz18_0 := cellS121_0 HGz18
                have hcz18_1 := cellS121_1 HGz18
                have hcz18_2 := cellS121_2 HGz18
                have hcz18_3 := cellS121_3 HGz18
                have hcz18_4 := cellS121_4 HGz18
                have hcz18_5 := cellS121_5 HGz18
                have hfz18_0 := blk_frozen HGz18 0
                have hfz18_1 := blk_frozen HGz18 1
                have hfz18_2 := blk_frozen HGz18 2
                have hfz18_3 := blk_frozen HGz18 3
                have hfz18_4 := blk_frozen HGz18 4
                have hfz18_5 := blk_frozen HGz18 5
                clear HGz18 hgz18
                go_wp2
                repeat (go_quiet (fail); try go_wp2)
                go_meet
                case rel => exact ⟨_, (false), (by first | rfl | (simp; done) | (simp [*]; done)), H', ⟨by first | omega | exact Nat.le_refl _⟩, ⟨by (with_reducible repeat (first | refine blk_drewN ?_ _ | refine blk_drew ?_ | refine blk_alloc ?_ _)); exact BK405.out⟩, ⟨by repeat (first | (with_reducible first | exact HI0.out | apply IsS121.alloc | apply IsS121.drewN | apply IsS121.drew | apply IsS121.set_0 | apply IsS121.set_1 | apply IsS121.set_2 | apply IsS121.set_3 | apply IsS121.set_4 | apply IsS121.set_5 | refine IsS121.far ?_ NB0_405.out _) | exact HI0.out)⟩, ⟨by repeat (first | (with_reducible first | exact HK.out | apply KeepBut.set_ | apply keep_drewN | apply keep_drew | apply keep_alloc | refine keep_far ?_ GW405.out _) | exact HK.out)⟩, ⟨by repeat (first | (with_reducible first | exact HB.out | apply below_alloc | apply pw_below_drewN | apply below_drew1 | refine below_set ?_ (IsS121.ge HI0.out) | refine below_set ?_ GE405.out) | exact HB.out)⟩⟩
              · rw [if_neg c17] at H
                have c17b0 : (t406 == 33) = false := beq_eq_false_iff_ne.mpr c17
                have c17b1 : (t406 != 33) = true := bne_iff_ne.mpr c17
                by_cases c19 : t406 = 61
                · rw [if_pos c19] at H
                  have c19b0 : (t406 == 61) = true := beq_iff_eq.mpr c19
                  have c19b1 : (t406 != 61) = false := bne_eq_false_iff_eq.mpr c19
                  clear c19
                  have H' := Aside0.mk H
                  clear H
                  obtain ⟨HGz20, hgz20⟩ := HI0.out
                  have hcz20_0 := cellS121_0 HGz20
                  have hcz20_1 := cellS121_1 HGz20
                  have hcz20_2 := cellS121_2 HGz20
                  have hcz20_3 := cellS121_3 HGz20
                  have hcz20_4 := cellS121_4 HGz20
                  have hcz20_5 := cellS121_5 HGz20
                  have hfz20_0 := blk_frozen HGz20 0
                  have hfz20_1 := blk_frozen HGz20 1
                  have hfz20_2 := blk_frozen HGz20 2
                  have hfz20_3 := blk_frozen HGz20 3
                  have hfz20_4 := blk_frozen HGz20 4
                  have hfz20_5 := blk_frozen HGz20 5
                  clear HGz20 hgz20
                  go_wp2
                  repeat (go_quiet (fail); try go_wp2)
                  go_meet
                  case rel => exact ⟨_, (false), (by first | rfl | (simp; done) | (simp [*]; done)), H', ⟨by first | omega | exact Nat.le_refl _⟩, ⟨by (with_reducible repeat (first | refine blk_drewN ?_ _ | refine blk_drew ?_ | refine blk_alloc ?_ _)); exact BK405.out⟩, ⟨by repeat (first | (with_reducible first | exact HI0.out | apply IsS121.alloc | apply IsS121.drewN | apply IsS121.drew | apply IsS121.set_0 | apply IsS121.set_1 | apply IsS121.set_2 | apply IsS121.set_3 | apply IsS121.set_4 | apply IsS121.set_5 | refine IsS121.far ?_ NB0_405.out _) | exact HI0.out)⟩, ⟨by repeat (first | (with_reducible first | exact HK.out | apply KeepBut.set_ | apply keep_drewN | apply keep_drew | apply keep_alloc | refine keep_far ?_ GW405.out _) | exact HK.out)⟩, ⟨by repeat (first | (with_reducible first | exact HB.out | apply below_alloc | apply pw_below_drewN | apply below_drew1 | refine below_set ?_ (IsS121.ge HI0.out) | refine below_set ?_ GE405.out) | exact HB.out)⟩⟩
                · rw [if_neg c19] at H
                  have c19b0 : (t406 == 61) = false := beq_eq_false_iff_ne.mpr c19
                  have c19b1 : (t406 != 61) = true := bne_iff_ne.mpr c19
                  replace H := Option.bind_eq_some_iff.mp H
                  obtain ⟨t413, A210, H⟩ := H
                  replace H : (touchstoneref7_reader_term.j0 k a1 t406 (!t413) t407 t408 t409 t410 t411 t412) = some (r1, r2, r3, r4, r5, r6, r7, r8, r9, r10, r11) := H
                  have A21 := Aside0.mk A210
                  clear A210
                  have H' := Aside0.mk H
                  clear H
                  obtain ⟨HGz22, hgz22⟩ := HI0.out
                  have hcz22_0 := cellS121_0 HGz22
                  have hcz22_1 := cellS121_1 HGz22
                  have hcz22_2 := cellS121_2 HGz22
                  have hcz22_3 := cellS121_3 HGz22
                  have hcz22_4 := cellS121_4 HGz22
                  have hcz22_5 := cellS121_5 HGz22
                  have hfz22_0 := blk_frozen HGz22 0
                  have hfz22_1 := blk_frozen HGz22 1
                  have hfz22_2 := blk_frozen HGz22 2
                  have hfz22_3 := blk_frozen HGz22 3
                  have hfz22_4 := blk_frozen HGz22 4
                  have hfz22_5 := blk_frozen HGz22 5
                  clear HGz22 hgz22
                  go_wp2_with (first | (go_at_call 156; (with_reducible refine (touchstoneref7_letter.calls t406 t413 _ A21.out).mono ?_); rintro e w' ⟨rfl, ⟨nd, rfl⟩⟩))
                  repeat (go_quiet (first | (go_at_call 156; (with_reducible refine (touchstoneref7_letter.calls t406 t413 _ A21.out).mono ?_); rintro e w' ⟨rfl, ⟨nd, rfl⟩⟩; (try first | exact ⟨rfl, _, World.drewN_drewN _ _ _⟩ | exact ⟨rfl, _, Eq.trans (World.drewN_drewN _ _ _) (congrArg (World.drewN _) (Nat.add_assoc _ _ _))⟩))); try go_wp2_with (first | (go_at_call 156; (with_reducible refine (touchstoneref7_letter.calls t406 t413 _ A21.out).mono ?_); rintro e w' ⟨rfl, ⟨nd, rfl⟩⟩)))
                  go_meet
                  case rel => exact ⟨_, (!t413), (by first | rfl | (simp; done) | (simp [*]; done)), H', ⟨by first | omega | exact Nat.le_refl _⟩, ⟨by (with_reducible repeat (first | refine blk_drewN ?_ _ | refine blk_drew ?_ | refine blk_alloc ?_ _)); exact BK405.out⟩, ⟨by repeat (first | (with_reducible first | exact HI0.out | apply IsS121.alloc | apply IsS121.drewN | apply IsS121.drew | apply IsS121.set_0 | apply IsS121.set_1 | apply IsS121.set_2 | apply IsS121.set_3 | apply IsS121.set_4 | apply IsS121.set_5 | refine IsS121.far ?_ NB0_405.out _) | exact HI0.out)⟩, ⟨by repeat (first | (with_reducible first | exact HK.out | apply KeepBut.set_ | apply keep_drewN | apply keep_drew | apply keep_alloc | refine keep_far ?_ GW405.out _) | exact HK.out)⟩, ⟨by repeat (first | (with_reducible first | exact HB.out | apply below_alloc | apply pw_below_drewN | apply below_drew1 | refine below_set ?_ (IsS121.ge HI0.out) | refine below_set ?_ GE405.out) | exact HB.out)⟩⟩
  case rest =>
    clear HC4
    try clear c1
    try clear p2
    try clear c7
    try clear c7b0
    try clear c9
    try clear c9b0
    try clear c9b1
    try clear c11
    try clear c11b0
    try clear c11b1
    try clear c13
    try clear c13b0
    try clear c13b1
    try clear c15
    try clear c15b0
    try clear c15b1
    try clear c17
    try clear c17b0
    try clear c17b1
    try clear c19
    try clear c19b0
    try clear c19b1
    try clear hcz10_0
    try clear hcz10_1
    try clear hcz10_2
    try clear hcz10_3
    try clear hcz10_4
    try clear hcz10_5
    try clear hcz12_0
    try clear hcz12_1
    try clear hcz12_2
    try clear hcz12_3
    try clear hcz12_4
    try clear hcz12_5
    try clear hcz14_0
    try clear hcz14_1
    try clear hcz14_2
    try clear hcz14_3
    try clear hcz14_4
    try clear hcz14_5
    try clear hcz16_0
    try clear hcz16_1
    try clear hcz16_2
    try clear hcz16_3
    try clear hcz16_4
    try clear hcz16_5
    try clear hcz18_0
    try clear hcz18_1
    try clear hcz18_2
    try clear hcz18_3
    try clear hcz18_4
    try clear hcz18_5
    try clear hcz20_0
    try clear hcz20_1
    try clear hcz20_2
    try clear hcz20_3
    try clear hcz20_4
    try clear hcz20_5
    try clear hcz22_0
    try clear hcz22_1
    try clear hcz22_2
    try clear hcz22_3
    try clear hcz22_4
    try clear hcz22_5
    try clear hcz8_0
    try clear hcz8_1
    try clear hcz8_2
    try clear hcz8_3
    try clear hcz8_4
    try clear hcz8_5
    try clear hfz10_0
    try clear hfz10_1
    try clear hfz10_2
    try clear hfz10_3
    try clear hfz10_4
    try clear hfz10_5
    try clear hfz12_0
    try clear hfz12_1
    try clear hfz12_2
    try clear hfz12_3
    try clear hfz12_4
    try clear hfz12_5
    try clear hfz14_0
    try clear hfz14_1
    try clear hfz14_2
    try clear hfz14_3
    try clear hfz14_4
    try clear hfz14_5
    try clear hfz16_0
    try clear hfz16_1
    try clear hfz16_2
    try clear hfz16_3
    try clear hfz16_4
    try clear hfz16_5
    try clear hfz18_0
    try clear hfz18_1
    try clear hfz18_2
    try clear hfz18_3
    try clear hfz18_4
    try clear hfz18_5
    try clear hfz20_0
    try clear hfz20_1
    try clear hfz20_2
    try clear hfz20_3
    try clear hfz20_4
    try clear hfz20_5
    try clear hfz22_0
    try clear hfz22_1
    try clear hfz22_2
    try clear hfz22_3
    try clear hfz22_4
    try clear hfz22_5
    try clear hfz8_0
    try clear hfz8_1
    try clear hfz8_2
    try clear hfz8_3
    try clear hfz8_4
    try clear hfz8_5
    obtain ⟨kq, x52_3, rfl, HA, HJ3, BK405, HI0, HK, HB⟩ := hcut
    cases kq with
    | zero => exact absurd HA.out (by simp [touchstoneref7_reader_term.j0])
    | succ kj3 =>
      have H := HA.out
      clear HA
      simp only [touchstoneref7_reader_term.j0] at H
      by_cases c23 : x52_3 = true
      · subst c23
        have H1 : (none) = some (r1, r2, r3, r4, r5, r6, r7, r8, r9, r10, r11) := by rw [if_pos rfl] at H; exact H
        clear H
        have H := H1
        clear H1
        exact absurd H (by simp)
      · replace c23 := Bool.eq_false_iff.mpr c23
        subst c23
        have H1 : (if t411 = 0 then (none) else (if a1 > 100 then (none) else (if t409 = 0 then ((touchstoneref7_letter.f t406).bind fun t414 => (if t414 = true then ((touchstoneref7_reader_name.f kj3 t407 t408 t409 t410 (wrap64 (t411 - 1)) t412).bind fun bt415 => (some (bt415.1, bt415.2.1, bt415.2.2.1, bt415.2.2.2.1, bt415.2.2.2.2.1, bt415.2.2.2.2.2.1, bt415.2.2.2.2.2.2.1, bt415.2.2.2.2.2.2.2.1, bt415.2.2.2.2.2.2.2.2.1, bt415.2.2.2.2.2.2.2.2.2.1, bt415.2.2.2.2.2.2.2.2.2.2))) else (if t406 = 35 then (none) else (if t406 = 42 then (none) else (if t406 = 40 then (none) else (if t406 = 61 then (none) else ((touchstoneref7_reader_term.f kj3 t407 (wrap64 (t408 + 1)) t409 t410 (wrap64 (t411 - 1)) t412 (wrap64 (a1 + 1))).bind fun bt430 => ((touchstoneref7_reader_must.f kj3 bt430.2.2.2.2.2.1 bt430.2.2.2.2.2.2.1 bt430.2.2.2.2.2.2.2.1 bt430.2.2.2.2.2.2.2.2.1 bt430.2.2.2.2.2.2.2.2.2.1 bt430.2.2.2.2.2.2.2.2.2.2 46).bind fun bt446 => ((touchstoneref7_reader_term.f kj3 bt446.1 bt446.2.1 bt446.2.2.1 bt446.2.2.2.1 bt446.2.2.2.2.1 bt446.2.2.2.2.2 (wrap64 (a1 + 1))).bind fun bt452 => (if t406 = 33 then (some (5, 0, (⟨#[]⟩ : ByteArray), ([] : List (S76)), (([(⟨bt430.1, bt430.2.1, bt430.2.2.1, bt430.2.2.2.1, bt430.2.2.2.2.1⟩ : S27), (⟨bt452.1, bt452.2.1, bt452.2.2.1, bt452.2.2.2.1, bt452.2.2.2.2.1⟩ : S27)] : List (S27))), bt452.2.2.2.2.2.1, bt452.2.2.2.2.2.2.1, bt452.2.2.2.2.2.2.2.1, bt452.2.2.2.2.2.2.2.2.1, bt452.2.2.2.2.2.2.2.2.2.1, bt452.2.2.2.2.2.2.2.2.2.2)) else (none))))))))))) else (none)))) = some (r1, r2, r3, r4, r5, r6, r7, r8, r9, r10, r11) := by rw [if_neg (show ¬ (false = true) by decide)] at H; exact H
        clear H
        have H := H1
        clear H1
        by_cases c24 : t411 = 0
        · rw [if_pos c24] at H
          exact absurd H (by simp)
        · rw [if_neg c24] at H
          have c24b0 : (t411 == 0) = false := beq_eq_false_iff_ne.mpr c24
          have c24b1 : (t411 != 0) = true := bne_iff_ne.mpr c24
          by_cases c25 : a1 > 100
          · rw [if_pos c25] at H
            exact absurd H (by simp)
          · rw [if_neg c25] at H
            have c25b0 : decide (100 < a1) = false := decide_eq_false c25
            clear c25
            by_cases c26 : t409 = 0
            · rw [if_pos c26] at H
              have c26b0 : (t409 == 0) = true := beq_iff_eq.mpr c26
              have c26b1 : (t409 != 0) = false := bne_eq_false_iff_eq.mpr c26
              clear c26
              replace H := Option.bind_eq_some_iff.mp H
              obtain ⟨t414, A270, H⟩ := H
              replace H : (if t414 = true then ((touchstoneref7_reader_name.f kj3 t407 t408 t409 t410 (wrap64 (t411 - 1)) t412).bind fun bt415 => (some (bt415.1, bt415.2.1, bt415.2.2.1, bt415.2.2.2.1, bt415.2.2.2.2.1, bt415.2.2.2.2.2.1, bt415.2.2.2.2.2.2.1, bt415.2.2.2.2.2.2.2.1, bt415.2.2.2.2.2.2.2.2.1, bt415.2.2.2.2.2.2.2.2.2.1, bt415.2.2.2.2.2.2.2.2.2.2))) else (if t406 = 35 then (none) else (if t406 = 42 then (none) else (if t406 = 40 then (none) else (if t406 = 61 then (none) else ((touchstoneref7_reader_term.f kj3 t407 (wrap64 (t408 + 1)) t409 t410 (wrap64 (t411 - 1)) t412 (wrap64 (a1 + 1))).bind fun bt430 => ((touchstoneref7_reader_must.f kj3 bt430.2.2.2.2.2.1 bt430.2.2.2.2.2.2.1 bt430.2.2.2.2.2.2.2.1 bt430.2.2.2.2.2.2.2.2.1 bt430.2.2.2.2.2.2.2.2.2.1 bt430.2.2.2.2.2.2.2.2.2.2 46).bind fun bt446 => ((touchstoneref7_reader_term.f kj3 bt446.1 bt446.2.1 bt446.2.2.1 bt446.2.2.2.1 bt446.2.2.2.2.1 bt446.2.2.2.2.2 (wrap64 (a1 + 1))).bind fun bt452 => (if t406 = 33 then (some (5, 0, (⟨#[]⟩ : ByteArray), ([] : List (S76)), (([(⟨bt430.1, bt430.2.1, bt430.2.2.1, bt430.2.2.2.1, bt430.2.2.2.2.1⟩ : S27), (⟨bt452.1, bt452.2.1, bt452.2.2.1, bt452.2.2.2.1, bt452.2.2.2.2.1⟩ : S27)] : List (S27))), bt452.2.2.2.2.2.1, bt452.2.2.2.2.2.2.1, bt452.2.2.2.2.2.2.2.1, bt452.2.2.2.2.2.2.2.2.1, bt452.2.2.2.2.2.2.2.2.2.1, bt452.2.2.2.2.2.2.2.2.2.2)) else (none)))))))))) = some (r1, r2, r3, r4, r5, r6, r7, r8, r9, r10, r11) := H
              have A27 := Aside0.mk A270
              clear A270
              by_cases c28 : t414 = true
              · subst c28
                have H1 : ((touchstoneref7_reader_name.f kj3 t407 t408 t409 t410 (wrap64 (t411 - 1)) t412).bind fun bt415 => (some (bt415.1, bt415.2.1, bt415.2.2.1, bt415.2.2.2.1, bt415.2.2.2.2.1, bt415.2.2.2.2.2.1, bt415.2.2.2.2.2.2.1, bt415.2.2.2.2.2.2.2.1, bt415.2.2.2.2.2.2.2.2.1, bt415.2.2.2.2.2.2.2.2.2.1, bt415.2.2.2.2.2.2.2.2.2.2))) = some (r1, r2, r3, r4, r5, r6, r7, r8, r9, r10, r11) := by rw [if_pos rfl] at H; exact H
                clear H
                have H := H1
                clear H1
                replace H := Option.bind_eq_some_iff.mp H
                obtain ⟨⟨t415, t416, t417, t418, t421, t424, t425, t426, t427, t428, t429⟩, A290, H⟩ := H
                replace H : (some (t415, t416, t417, t418, t421, t424, t425, t426, t427, t428, t429)) = some (r1, r2, r3, r4, r5, r6, r7, r8, r9, r10, r11) := H
                have A29 := Aside0.mk A290
                clear A290
                simp only [Option.some.injEq, Prod.mk.injEq] at H
                obtain ⟨rfl, rfl, rfl, rfl, rfl, rfl, rfl, rfl, rfl, rfl, rfl⟩ := H
                obtain ⟨HGz30, hgz30⟩ := HI0.out
                have hcz30_0 := cellS121_0 HGz30
                have hcz30_1 := cellS121_1 HGz30
                have hcz30_2 := cellS121_2 HGz30
                have hcz30_3 := cellS121_3 HGz30
                have hcz30_4 := cellS121_4 HGz30
                have hcz30_5 := cellS121_5 HGz30
                have hfz30_0 := blk_frozen HGz30 0
                have hfz30_1 := blk_frozen HGz30 1
                have hfz30_2 := blk_frozen HGz30 2
                have hfz30_3 := blk_frozen HGz30 3
                have hfz30_4 := blk_frozen HGz30 4
                have hfz30_5 := blk_frozen HGz30 5
                clear HGz30 hgz30
                go_wp2_with (first | ((with_reducible refine gate_callee (f := 156) rfl ?_); refine goesL_ (some 93) rfl rfl Try.func156 (by kernel_rfl) rfl #[.int .u8 t406] rfl (by (try simp only [List.map_toArray, List.map_cons, List.map_nil]); first | done | rfl | (simp only [List.length_drop, List.length_take]; rfl)) ?_; (with_reducible refine (touchstoneref7_letter.calls t406 true _ A27.out).mono ?_); rintro e w' ⟨rfl, ⟨nd, rfl⟩⟩; refine ⟨_, rfl, ?_⟩) | ((with_reducible refine gate_callee (f := 158) rfl ?_); refine goesL_ (some 95) rfl rfl Try.func158 (by kernel_rfl) rfl #[.pointer (some ⟨g, 0, none⟩)] rfl (by (try simp only [List.map_toArray, List.map_cons, List.map_nil]); first | done | rfl | (simp only [List.length_drop, List.length_take]; rfl)) ?_; (with_reducible refine (touchstoneref7_reader_name.calls kj3 g t407 t408 t409 t410 (wrap64 (t411 - 1)) t412 t415 t416 t417 t418 t421 t424 t425 t426 t427 t428 t429 w0 _ ?side1 ?side2 A29.out).mono ?_); (case side1 => repeat (first | (with_reducible first | exact HI0.out | apply IsS121.alloc | apply IsS121.drewN | apply IsS121.drew | apply IsS121.set_0 | apply IsS121.set_1 | apply IsS121.set_2 | apply IsS121.set_3 | apply IsS121.set_4 | apply IsS121.set_5 | refine IsS121.far ?_ NB0_405.out _) | exact HI0.out)); (case side2 => repeat (first | (with_reducible first | exact HB.out | apply below_alloc | apply pw_below_drewN | apply below_drew1 | refine below_set ?_ (IsS121.ge HI0.out) | refine below_set ?_ GE405.out) | exact HB.out)); rintro e w31 ⟨v419, v422, rfl, ho0, ho1, hi, hb, hk⟩; refine ⟨_, rfl, ?_⟩; have n0_ := Aside0.mk (KeepBut.blk hk (g' := gb405) (o := .cells #[.int .i64 0, .int .i64 0, .string (⟨#[]⟩ : ByteArray), .slice none 0 0, .slice none 0 0] 27 (0, 0)) (by (with_reducible repeat (first | refine blk_drewN ?_ _ | refine blk_drew ?_ | refine blk_alloc ?_ _)); refine blk_far ?_ NB405_0.out _; (with_reducible repeat (first | refine blk_drewN ?_ _ | refine blk_drew ?_ | refine blk_alloc ?_ _)); exact BK405.out) NB405_0.out (by simp)); have n1_ := Aside0.mk (Kd.N_lower (Kd.N_mono (ok' := fun k_ => (w.heap.size ≤ k_) ∧ some k_ ≠ (v422 : Value).ownBlock ∧ k_ ≠ gb405 ∧ k_ ≠ g) (Kd.R_N (Kd.R_bound (Kd.R_apart' ho0 (Kd.R_typed ho1) (by decide)))) (fun k_ hk_ => ⟨(Nat.le_trans (keep_size (w := w) (g := g) (row := none) (by repeat (first | (with_reducible first | exact HK.out | apply KeepBut.set_ | apply keep_drewN | apply keep_drew | apply keep_alloc | refine keep_far ?_ GW405.out _) | exact HK.out))) hk_.2.1), hk_.1.2, (Kd.freshB (g := gb405) (o := .cells #[.int .i64 0, .int .i64 0, .string (⟨#[]⟩ : ByteArray), .slice none 0 0, .slice none 0 0] 27 (0, 0)) (by (with_reducible repeat (first | refine blk_drewN ?_ _ | refine blk_drew ?_ | refine blk_alloc ?_ _)); refine blk_far ?_ NB405_0.out _; (with_reducible repeat (first | refine blk_drewN ?_ _ | refine blk_drew ?_ | refine blk_alloc ?_ _)); exact BK405.out) k_ hk_.2.1), (IsS121.fresh (by repeat (first | (with_reducible first | exact HI0.out | apply IsS121.alloc | apply IsS121.drewN | apply IsS121.drew | apply IsS121.set_0 | apply IsS121.set_1 | apply IsS121.set_2 | apply IsS121.set_3 | apply IsS121.set_4 | apply IsS121.set_5 | refine IsS121.far ?_ NB0_405.out _) | exact HI0.out)) k_ hk_.2.1)⟩)) (keep_size (w := w) (g := g) (row := none) (by repeat (first | (with_reducible first | exact HK.out | apply KeepBut.set_ | apply keep_drewN | apply keep_drew | apply keep_alloc | refine keep_far ?_ GW405.out _) | exact HK.out)))); have n2_ := Aside0.mk (Kd.N_lower (Kd.N_mono (ok' := fun k_ => (w.heap.size ≤ k_) ∧ some k_ ≠ (v419 : Value).ownBlock ∧ k_ ≠ gb405 ∧ k_ ≠ g) (Kd.R_N (Kd.R_bound ho1)) (fun k_ hk_ => ⟨(Nat.le_trans (keep_size (w := w) (g := g) (row := none) (by repeat (first | (with_reducible first | exact HK.out | apply KeepBut.set_ | apply keep_drewN | apply keep_drew | apply keep_alloc | refine keep_far ?_ GW405.out _) | exact HK.out))) hk_.2.1), hk_.1, (Kd.freshB (g := gb405) (o := .cells #[.int .i64 0, .int .i64 0, .string (⟨#[]⟩ : ByteArray), .slice none 0 0, .slice none 0 0] 27 (0, 0)) (by (with_reducible repeat (first | refine blk_drewN ?_ _ | refine blk_drew ?_ | refine blk_alloc ?_ _)); refine blk_far ?_ NB405_0.out _; (with_reducible repeat (first | refine blk_drewN ?_ _ | refine blk_drew ?_ | refine blk_alloc ?_ _)); exact BK405.out) k_ hk_.2.1), (IsS121.fresh (by repeat (first | (with_reducible first | exact HI0.out | apply IsS121.alloc | apply IsS121.drewN | apply IsS121.drew | apply IsS121.set_0 | apply IsS121.set_1 | apply IsS121.set_2 | apply IsS121.set_3 | apply IsS121.set_4 | apply IsS121.set_5 | refine IsS121.far ?_ NB0_405.out _) | exact HI0.out)) k_ hk_.2.1)⟩)) (keep_size (w := w) (g := g) (row := none) (by repeat (first | (with_reducible first | exact HK.out | apply KeepBut.set_ | apply keep_drewN | apply keep_drew | apply keep_alloc | refine keep_far ?_ GW405.out _) | exact HK.out)))); have n3_ := Aside0.mk (KeepBut.trans (by repeat (first | (with_reducible first | exact HK.out | apply KeepBut.set_ | apply keep_drewN | apply keep_drew | apply keep_alloc | refine keep_far ?_ GW405.out _) | exact HK.out)) hk (.inl rfl)); have n4_ := Aside0.mk (hb); have n5_ := Aside0.mk (hi); clear BK405; clear HK; clear HB; clear HI0; have BK405 := n0_; have HO420 := n1_; have HO423 := n2_; have HK := n3_; have HB := n4_; have HI0 := n5_; clear n0_ n1_ n2_ n3_ n4_ n5_; (try clear hb); (try clear hb2); (try clear hk); (try clear hi); (try clear ho0); (try clear ho1); have hnb32 := NB405_0.out; have hnc32 := NB0_405.out; have hcz33_0 : w31.cell? ⟨gb405, 0, none⟩ = some (.int .i64 0) := (blk_cell BK405.out 0).trans rfl; have hcz33_1 : w31.cell? ⟨gb405, 1, none⟩ = some (.int .i64 0) := (blk_cell BK405.out 1).trans rfl; have hcz33_2 : w31.cell? ⟨gb405, 2, none⟩ = some (.string (⟨#[]⟩ : ByteArray)) := (blk_cell BK405.out 2).trans rfl; have hcz33_3 : w31.cell? ⟨gb405, 3, none⟩ = some (.slice none 0 0) := (blk_cell BK405.out 3).trans rfl; have hcz33_4 : w31.cell? ⟨gb405, 4, none⟩ = some (.slice none 0 0) := (blk_cell BK405.out 4).trans rfl; have hfz33_0 := blk_frozen BK405.out 0; have hfz33_1 := blk_frozen BK405.out 1; have hfz33_2 := blk_frozen BK405.out 2; have hfz33_3 := blk_frozen BK405.out 3; have hfz33_4 := blk_frozen BK405.out 4; obtain ⟨Ao34, co34, eo34⟩ := Kd.N_slice HO420.out; subst eo34; obtain ⟨Ao35, co35, eo35⟩ := Kd.N_slice HO423.out; subst eo35))
                refine bodyPost_ret (results_cell_row rfl _ _ gb405 27 #[.int .i64 t415, .int .i64 t416, .string t417, .slice Ao34 t418.length co34, .slice Ao35 t421.length co35] (0, 0) _ rfl (by (with_reducible repeat (first | refine blk_drewN ?_ _ | refine blk_drew ?_ | refine blk_alloc ?_ _)); refine blk_put (cs := #[.int .i64 t415, .int .i64 t416, .string t417, .slice Ao34 t418.length co34, .slice none 0 0]) ?_ 4 _ rfl; (with_reducible repeat (first | refine blk_drewN ?_ _ | refine blk_drew ?_ | refine blk_alloc ?_ _)); refine blk_put (cs := #[.int .i64 t415, .int .i64 t416, .string t417, .slice none 0 0, .slice none 0 0]) ?_ 3 _ rfl; (with_reducible repeat (first | refine blk_drewN ?_ _ | refine blk_drew ?_ | refine blk_alloc ?_ _)); refine blk_put (cs := #[.int .i64 t415, .int .i64 t416, .string (⟨#[]⟩ : ByteArray), .slice none 0 0, .slice none 0 0]) ?_ 2 _ rfl; (with_reducible repeat (first | refine blk_drewN ?_ _ | refine blk_drew ?_ | refine blk_alloc ?_ _)); refine blk_put (cs := #[.int .i64 t415, .int .i64 0, .string (⟨#[]⟩ : ByteArray), .slice none 0 0, .slice none 0 0]) ?_ 1 _ rfl; (with_reducible repeat (first | refine blk_drewN ?_ _ | refine blk_drew ?_ | refine blk_alloc ?_ _)); refine blk_put (cs := #[.int .i64 0, .int .i64 0, .string (⟨#[]⟩ : ByteArray), .slice none 0 0, .slice none 0 0]) ?_ 0 _ rfl; (with_reducible repeat (first | refine blk_drewN ?_ _ | refine blk_drew ?_ | refine blk_alloc ?_ _)); exact BK405.out) Try.underlying27 rfl (by kernel_rfl)) rfl ?_
                exact ⟨_, _, by first | rfl | (simp [errW_none, errW_some] <;> rfl) | (simp [*, errW_none, errW_some] <;> rfl), by (with_reducible repeat (first | apply Kd.N_alloc | apply Kd.N_drewN | apply Kd.N_drew)); exact Kd.N_mono (Kd.N_far (p := ⟨gb405, 4, none⟩) (Kd.N_far (p := ⟨gb405, 3, none⟩) (Kd.N_far (p := ⟨gb405, 2, none⟩) (Kd.N_far (p := ⟨gb405, 1, none⟩) (Kd.N_far (p := ⟨gb405, 0, none⟩) (Kd.N_mono HO420.out (fun k_ hk => (⟨hk, hk.2.2.1⟩ : _ ∧ k_ ≠ gb405))) (fun _ hk => hk.2) (.int .i64 t415)) (fun _ hk => hk.2) (.int .i64 t416)) (fun _ hk => hk.2) (.string t417)) (fun _ hk => hk.2) (.slice Ao34 t418.length co34)) (fun _ hk => hk.2) (.slice Ao35 t421.length co35)) (fun _ hk => ⟨hk.1.1, hk.1.2.1⟩), by (with_reducible repeat (first | apply Kd.N_alloc | apply Kd.N_drewN | apply Kd.N_drew)); exact Kd.N_mono (Kd.N_far (p := ⟨gb405, 4, none⟩) (Kd.N_far (p := ⟨gb405, 3, none⟩) (Kd.N_far (p := ⟨gb405, 2, none⟩) (Kd.N_far (p := ⟨gb405, 1, none⟩) (Kd.N_far (p := ⟨gb405, 0, none⟩) (Kd.N_mono HO423.out (fun k_ hk => (⟨hk, hk.2.2.1⟩ : _ ∧ k_ ≠ gb405))) (fun _ hk => hk.2) (.int .i64 t415)) (fun _ hk => hk.2) (.int .i64 t416)) (fun _ hk => hk.2) (.string t417)) (fun _ hk => hk.2) (.slice Ao34 t418.length co34)) (fun _ hk => hk.2) (.slice Ao35 t421.length co35)) (fun _ hk => ⟨hk.1.1, hk.1.2.1⟩), by repeat (first | (with_reducible first | exact HI0.out | apply IsS121.alloc | apply IsS121.drewN | apply IsS121.drew | apply IsS121.set_0 | apply IsS121.set_1 | apply IsS121.set_2 | apply IsS121.set_3 | apply IsS121.set_4 | apply IsS121.set_5 | refine IsS121.far ?_ NB0_405.out _) | exact HI0.out), by repeat (first | (with_reducible first | exact HB.out | apply below_alloc | apply pw_below_drewN | apply below_drew1 | refine below_set ?_ (IsS121.ge HI0.out) | refine below_set ?_ GE405.out) | exact HB.out), by repeat (first | (with_reducible first | exact HK.out | apply KeepBut.set_ | apply keep_drewN | apply keep_drew | apply keep_alloc | refine keep_far ?_ GW405.out _) | exact HK.out)⟩
              · replace c28 := Bool.eq_false_iff.mpr c28
                subst c28
                have H1 : (if t406 = 35 then (none) else (if t406 = 42 then (none) else (if t406 = 40 then (none) else (if t406 = 61 then (none) else ((touchstoneref7_reader_term.f kj3 t407 (wrap64 (t408 + 1)) t409 t410 (wrap64 (t411 - 1)) t412 (wrap64 (a1 + 1))).bind fun bt430 => ((touchstoneref7_reader_must.f kj3 bt430.2.2.2.2.2.1 bt430.2.2.2.2.2.2.1 bt430.2.2.2.2.2.2.2.1 bt430.2.2.2.2.2.2.2.2.1 bt430.2.2.2.2.2.2.2.2.2.1 bt430.2.2.2.2.2.2.2.2.2.2 46).bind fun bt446 => ((touchstoneref7_reader_term.f kj3 bt446.1 bt446.2.1 bt446.2.2.1 bt446.2.2.2.1 bt446.2.2.2.2.1 bt446.2.2.2.2.2 (wrap64 (a1 + 1))).bind fun bt452 => (if t406 = 33 then (some (5, 0, (⟨#[]⟩ : ByteArray), ([] : List (S76)), (([(⟨bt430.1, bt430.2.1, bt430.2.2.1, bt430.2.2.2.1, bt430.2.2.2.2.1⟩ : S27), (⟨bt452.1, bt452.2.1, bt452.2.2.1, bt452.2.2.2.1, bt452.2.2.2.2.1⟩ : S27)] : List (S27))), bt452.2.2.2.2.2.1, bt452.2.2.2.2.2.2.1, bt452.2.2.2.2.2.2.2.1, bt452.2.2.2.2.2.2.2.2.1, bt452.2.2.2.2.2.2.2.2.2.1, bt452.2.2.2.2.2.2.2.2.2.2)) else (none))))))))) = some (r1, r2, r3, r4, r5, r6, r7, r8, r9, r10, r11) := by rw [if_neg (show ¬ (false = true) by decide)] at H; exact H
                clear H
                have H := H1
                clear H1
                by_cases c36 : t406 = 35
                · rw [if_pos c36] at H
                  exact absurd H (by simp)
                · rw [if_neg c36] at H
                  have c36b0 : (t406 == 35) = false := beq_eq_false_iff_ne.mpr c36
                  have c36b1 : (t406 != 35) = true := bne_iff_ne.mpr c36
                  by_cases c37 : t406 = 42
                  · rw [if_pos c37] at H
                    exact absurd H (by simp)
                  · rw [if_neg c37] at H
                    have c37b0 : (t406 == 42) = false := beq_eq_false_iff_ne.mpr c37
                    have c37b1 : (t406 != 42) = true := bne_iff_ne.mpr c37
                    by_cases c38 : t406 = 40
                    · rw [if_pos c38] at H
                      exact absurd H (by simp)
                    · rw [if_neg c38] at H
                      have c38b0 : (t406 == 40) = false := beq_eq_false_iff_ne.mpr c38
                      have c38b1 : (t406 != 40) = true := bne_iff_ne.mpr c38
                      by_cases c39 : t406 = 61
                      · rw [if_pos c39] at H
                        exact absurd H (by simp)
                      · rw [if_neg c39] at H
                        have c39b0 : (t406 == 61) = false := beq_eq_false_iff_ne.mpr c39
                        have c39b1 : (t406 != 61) = true := bne_iff_ne.mpr c39
                        replace H := Option.bind_eq_some_iff.mp H
                        obtain ⟨⟨t430, t431, t432, t433, t436, t439, t440, t441, t442, t443, t444⟩, A400, H⟩ := H
                        replace H : ((touchstoneref7_reader_must.f kj3 t439 t440 t441 t442 t443 t444 46).bind fun bt446 => ((touchstoneref7_reader_term.f kj3 bt446.1 bt446.2.1 bt446.2.2.1 bt446.2.2.2.1 bt446.2.2.2.2.1 bt446.2.2.2.2.2 (wrap64 (a1 + 1))).bind fun bt452 => (if t406 = 33 then (some (5, 0, (⟨#[]⟩ : ByteArray), ([] : List (S76)), (([(⟨t430, t431, t432, t433, t436⟩ : S27), (⟨bt452.1, bt452.2.1, bt452.2.2.1, bt452.2.2.2.1, bt452.2.2.2.2.1⟩ : S27)] : List (S27))), bt452.2.2.2.2.2.1, bt452.2.2.2.2.2.2.1, bt452.2.2.2.2.2.2.2.1, bt452.2.2.2.2.2.2.2.2.1, bt452.2.2.2.2.2.2.2.2.2.1, bt452.2.2.2.2.2.2.2.2.2.2)) else (none)))) = some (r1, r2, r3, r4, r5, r6, r7, r8, r9, r10, r11) := H
                        have A40 := Aside0.mk A400
                        clear A400
                        replace H := Option.bind_eq_some_iff.mp H
                        obtain ⟨⟨t446, t447, t448, t449, t450, t451⟩, A410, H⟩ := H
                        replace H : ((touchstoneref7_reader_term.f kj3 t446 t447 t448 t449 t450 t451 (wrap64 (a1 + 1))).bind fun bt452 => (if t406 = 33 then (some (5, 0, (⟨#[]⟩ : ByteArray), ([] : List (S76)), (([(⟨t430, t431, t432, t433, t436⟩ : S27), (⟨bt452.1, bt452.2.1, bt452.2.2.1, bt452.2.2.2.1, bt452.2.2.2.2.1⟩ : S27)] : List (S27))), bt452.2.2.2.2.2.1, bt452.2.2.2.2.2.2.1, bt452.2.2.2.2.2.2.2.1, bt452.2.2.2.2.2.2.2.2.1, bt452.2.2.2.2.2.2.2.2.2.1, bt452.2.2.2.2.2.2.2.2.2.2)) else (none))) = some (r1, r2, r3, r4, r5, r6, r7, r8, r9, r10, r11) := H
                        have A41 := Aside0.mk A410
                        clear A410
                        replace H := Option.bind_eq_some_iff.mp H
                        obtain ⟨⟨t452, t453, t454, t455, t458, t461, t462, t463, t464, t465, t466⟩, A420, H⟩ := H
                        replace H : (if t406 = 33 then (some (5, 0, (⟨#[]⟩ : ByteArray), ([] : List (S76)), (([(⟨t430, t431, t432, t433, t436⟩ : S27), (⟨t452, t453, t454, t455, t458⟩ : S27)] : List (S27))), t461, t462, t463, t464, t465, t466)) else (none)) = some (r1, r2, r3, r4, r5, r6, r7, r8, r9, r10, r11) := H
                        have A42 := Aside0.mk A420
                        clear A420
                        obtain ⟨y467, hy467⟩ : ∃ y_ : List (S27), y_ = (([(⟨t430, t431, t432, t433, t436⟩ : S27), (⟨t452, t453, t454, t455, t458⟩ : S27)] : List (S27))) := ⟨_, rfl⟩
                        replace H : (if t406 = 33 then (some (5, 0, (⟨#[]⟩ : ByteArray), ([] : List (S76)), y467, t461, t462, t463, t464, t465, t466)) else (none)) = some (r1, r2, r3, r4, r5, r6, r7, r8, r9, r10, r11) := by first | (rw [hy467]; with_reducible exact H) | (have H2_ := (Option.bind_some _ _).symm.trans H; rw [hy467]; with_reducible exact H2_) | (have H2_ := (Option.bind_some _ _).symm.trans H; with_reducible exact H2_) | with_reducible exact H | (rw [hy467]; exact H) | exact H
                        have Ny467 := Aside0.mk hy467
                        clear hy467
                        by_cases c43 : t406 = 33
                        · rw [if_pos c43] at H
                          have c43b0 : (t406 == 33) = true := beq_iff_eq.mpr c43
                          have c43b1 : (t406 != 33) = false := bne_eq_false_iff_eq.mpr c43
                          clear c43
                          simp only [Option.some.injEq, Prod.mk.injEq] at H
                          obtain ⟨rfl, rfl, rfl, rfl, rfl, rfl, rfl, rfl, rfl, rfl, rfl⟩ := H
                          obtain ⟨HGz44, hgz44⟩ := HI0.out
                          have hcz44_0 := cellS121_0 HGz44
                          have hcz44_1 := cellS121_1 HGz44
                          have hcz44_2 := cellS121_2 HGz44
                          have hcz44_3 := cellS121_3 HGz44
                          have hcz44_4 := cellS121_4 HGz44
                          have hcz44_5 := cellS121_5 HGz44
                          have hfz44_0 := blk_frozen HGz44 0
                          have hfz44_1 := blk_frozen HGz44 1
                          have hfz44_2 := blk_frozen HGz44 2
                          have hfz44_3 := blk_frozen HGz44 3
                          have hfz44_4 := blk_frozen HGz44 4
                          have hfz44_5 := blk_frozen HGz44 5
                          clear HGz44 hgz44
                          try go_wp2_with (first | ((with_reducible refine gate_callee (f := 156) rfl ?_); refine goesL_ (some 93) rfl rfl Try.func156 (by kernel_rfl) rfl #[.int .u8 t406] rfl (by (try simp only [List.map_toArray, List.map_cons, List.map_nil]); first | done | rfl | (simp only [List.length_drop, List.length_take]; rfl)) ?_; (with_reducible refine (touchstoneref7_letter.calls t406 false _ A27.out).mono ?_); rintro e w' ⟨rfl, ⟨nd, rfl⟩⟩; refine ⟨_, rfl, ?_⟩) | ((with_reducible refine gate_callee (f := 130) rfl ?_); refine goesL_ (some 156) rfl rfl Try.func130 (by kernel_rfl) rfl #[.pointer (some ⟨g, 0, none⟩), .int .i64 (wrap64 (a1 + 1))] rfl (by (try simp only [List.map_toArray, List.map_cons, List.map_nil]); first | done | rfl | (simp only [List.length_drop, List.length_take]; rfl)) ?_; (with_reducible refine (ih kj3 (by have := HJ3.out; omega) g t407 (wrap64 (t408 + 1)) t409 t410 (wrap64 (t411 - 1)) t412 (wrap64 (a1 + 1)) t430 t431 t432 t433 t436 t439 t440 t441 t442 t443 t444 w0 _ ?side1 ?side2 A40.out).mono ?_); (case side1 => repeat (first | (with_reducible first | exact HI0.out | apply IsS121.alloc | apply IsS121.drewN | apply IsS121.drew | apply IsS121.set_0 | apply IsS121.set_1 | apply IsS121.set_2 | apply IsS121.set_3 | apply IsS121.set_4 | apply IsS121.set_5 | refine IsS121.far ?_ NB0_405.out _) | exact HI0.out)); (case side2 => repeat (first | (with_reducible first | exact HB.out | apply below_alloc | apply pw_below_drewN | apply below_drew1 | refine below_set ?_ (IsS121.ge HI0.out) | refine below_set ?_ GE405.out) | exact HB.out)); rintro e w45 ⟨v434, v437, rfl, ho0, ho1, hi, hb, hk⟩; refine ⟨_, rfl, ?_⟩; have n0_ := Aside0.mk (KeepBut.blk hk (g' := gb405) (o := .cells #[.int .i64 0, .int .i64 0, .string (⟨#[]⟩ : ByteArray), .slice none 0 0, .slice none 0 0] 27 (0, 0)) (by (with_reducible repeat (first | refine blk_drewN ?_ _ | refine blk_drew ?_ | refine blk_alloc ?_ _)); refine blk_far ?_ NB405_0.out _; (with_reducible repeat (first | refine blk_drewN ?_ _ | refine blk_drew ?_ | refine blk_alloc ?_ _)); refine blk_far ?_ NB405_0.out _; (with_reducible repeat (first | refine blk_drewN ?_ _ | refine blk_drew ?_ | refine blk_alloc ?_ _)); exact BK405.out) NB405_0.out (by simp)); have n1_ := Aside0.mk (Kd.N_lower (Kd.N_mono (ok' := fun k_ => (w.heap.size ≤ k_) ∧ some k_ ≠ (v437 : Value).ownBlock ∧ k_ ≠ gb405 ∧ k_ ≠ g) ho0 (fun k_ hk_ => ⟨(Nat.le_trans (keep_size (w := w) (g := g) (row := none) (by repeat (first | (with_reducible first | exact HK.out | apply KeepBut.set_ | apply keep_drewN | apply keep_drew | apply keep_alloc | refine keep_far ?_ GW405.out _) | exact HK.out))) hk_.1), hk_.2, (Kd.freshB (g := gb405) (o := .cells #[.int .i64 0, .int .i64 0, .string (⟨#[]⟩ : ByteArray), .slice none 0 0, .slice none 0 0] 27 (0, 0)) (by (with_reducible repeat (first | refine blk_drewN ?_ _ | refine blk_drew ?_ | refine blk_alloc ?_ _)); refine blk_far ?_ NB405_0.out _; (with_reducible repeat (first | refine blk_drewN ?_ _ | refine blk_drew ?_ | refine blk_alloc ?_ _)); refine blk_far ?_ NB405_0.out _; (with_reducible repeat (first | refine blk_drewN ?_ _ | refine blk_drew ?_ | refine blk_alloc ?_ _)); exact BK405.out) k_ hk_.1), (IsS121.fresh (by repeat (first | (with_reducible first | exact HI0.out | apply IsS121.alloc | apply IsS121.drewN | apply IsS121.drew | apply IsS121.set_0 | apply IsS121.set_1 | apply IsS121.set_2 | apply IsS121.set_3 | apply IsS121.set_4 | apply IsS121.set_5 | refine IsS121.far ?_ NB0_405.out _) | exact HI0.out)) k_ hk_.1)⟩)) (keep_size (w := w) (g := g) (row := none) (by repeat (first | (with_reducible first | exact HK.out | apply KeepBut.set_ | apply keep_drewN | apply keep_drew | apply keep_alloc | refine keep_far ?_ GW405.out _) | exact HK.out)))); have n2_ := Aside0.mk (Kd.N_lower (Kd.N_mono (ok' := fun k_ => (w.heap.size ≤ k_) ∧ some k_ ≠ (v434 : Value).ownBlock ∧ k_ ≠ gb405 ∧ k_ ≠ g) ho1 (fun k_ hk_ => ⟨(Nat.le_trans (keep_size (w := w) (g := g) (row := none) (by repeat (first | (with_reducible first | exact HK.out | apply KeepBut.set_ | apply keep_drewN | apply keep_drew | apply keep_alloc | refine keep_far ?_ GW405.out _) | exact HK.out))) hk_.1), hk_.2, (Kd.freshB (g := gb405) (o := .cells #[.int .i64 0, .int .i64 0, .string (⟨#[]⟩ : ByteArray), .slice none 0 0, .slice none 0 0] 27 (0, 0)) (by (with_reducible repeat (first | refine blk_drewN ?_ _ | refine blk_drew ?_ | refine blk_alloc ?_ _)); refine blk_far ?_ NB405_0.out _; (with_reducible repeat (first | refine blk_drewN ?_ _ | refine blk_drew ?_ | refine blk_alloc ?_ _)); refine blk_far ?_ NB405_0.out _; (with_reducible repeat (first | refine blk_drewN ?_ _ | refine blk_drew ?_ | refine blk_alloc ?_ _)); exact BK405.out) k_ hk_.1), (IsS121.fresh (by repeat (first | (with_reducible first | exact HI0.out | apply IsS121.alloc | apply IsS121.drewN | apply IsS121.drew | apply IsS121.set_0 | apply IsS121.set_1 | apply IsS121.set_2 | apply IsS121.set_3 | apply IsS121.set_4 | apply IsS121.set_5 | refine IsS121.far ?_ NB0_405.out _) | exact HI0.out)) k_ hk_.1)⟩)) (keep_size (w := w) (g := g) (row := none) (by repeat (first | (with_reducible first | exact HK.out | apply KeepBut.set_ | apply keep_drewN | apply keep_drew | apply keep_alloc | refine keep_far ?_ GW405.out _) | exact HK.out)))); have n3_ := Aside0.mk (KeepBut.trans (by repeat (first | (with_reducible first | exact HK.out | apply KeepBut.set_ | apply keep_drewN | apply keep_drew | apply keep_alloc | refine keep_far ?_ GW405.out _) | exact HK.out)) hk (.inl rfl)); have n4_ := Aside0.mk (hb); have n5_ := Aside0.mk (hi); clear BK405; clear HK; clear HB; clear HI0; have BK405 := n0_; have HO435 := n1_; have HO438 := n2_; have HK := n3_; have HB := n4_; have HI0 := n5_; clear n0_ n1_ n2_ n3_ n4_ n5_; (try clear hb); (try clear hb2); (try clear hk); (try clear hi); (try clear ho0); (try clear ho1)) | ((with_reducible refine gate_dst (N := 10) rfl ?_); refine box_event ?hg (N := 10) ?hd (cs := #[.int .i64 0, .int .i64 0, .string (⟨#[]⟩ : ByteArray), .slice none 0 0, .slice none 0 0]) (t := 27) ?hr ?_; (case hd => rfl); (case hg => rfl); (case hr => first | (go_simp; done) | (go_simp; rfl)); intro gb445 hg w46 hbox hb; have n0_ := Aside0.mk (Kd.N_below (Kd.N_elderB (by (with_reducible repeat (first | apply Kd.N_alloc | apply Kd.N_drewN | apply Kd.N_drew)); exact HO435.out) gb445 (Nat.le_of_eq hg.symm)) hb); have n1_ := Aside0.mk (Kd.N_below (Kd.N_elderB (by (with_reducible repeat (first | apply Kd.N_alloc | apply Kd.N_drewN | apply Kd.N_drew)); exact HO438.out) gb445 (Nat.le_of_eq hg.symm)) hb); have n2_ := Aside0.mk (blk_below (g := gb405) (o := .cells #[.int .i64 0, .int .i64 0, .string (⟨#[]⟩ : ByteArray), .slice none 0 0, .slice none 0 0] 27 (0, 0)) (by (with_reducible repeat (first | refine blk_drewN ?_ _ | refine blk_drew ?_ | refine blk_alloc ?_ _)); exact BK405.out) hb); have n3_ := Aside0.mk (IsS121.below (by repeat (first | (with_reducible first | exact HI0.out | apply IsS121.alloc | apply IsS121.drewN | apply IsS121.drew | apply IsS121.set_0 | apply IsS121.set_1 | apply IsS121.set_2 | apply IsS121.set_3 | apply IsS121.set_4 | apply IsS121.set_5 | refine IsS121.far ?_ NB0_405.out _) | exact HI0.out)) hb); have n4_ := Aside0.mk (KeepBut.trans (by repeat (first | (with_reducible first | exact HK.out | apply KeepBut.set_ | apply keep_drewN | apply keep_drew | apply keep_alloc | refine keep_far ?_ GW405.out _) | exact HK.out)) (KeepBut.of_below hb g none) (.inl rfl)); have n5_ := Aside0.mk (below_step (by repeat (first | (with_reducible first | exact HB.out | apply below_alloc | apply pw_below_drewN | apply below_drew1 | refine below_set ?_ (IsS121.ge HI0.out) | refine below_set ?_ GE405.out) | exact HB.out)) hb); have n6_ := Aside0.mk (hbox); have n7_ := Aside0.mk ((by rw [hg]; exact (keep_size (w := w) (g := g) (row := none) (by repeat (first | (with_reducible first | exact HK.out | apply KeepBut.set_ | apply keep_drewN | apply keep_drew | apply keep_alloc | refine keep_far ?_ GW405.out _) | exact HK.out))) : w.heap.size ≤ gb445)); have n8_ := Aside0.mk ((Nat.le_trans HW0.out (by rw [hg]; exact (keep_size (w := w) (g := g) (row := none) (by repeat (first | (with_reducible first | exact HK.out | apply KeepBut.set_ | apply keep_drewN | apply keep_drew | apply keep_alloc | refine keep_far ?_ GW405.out _) | exact HK.out))) : w.heap.size ≤ gb445) : w0.heap.size ≤ gb445)); have n9_ := Aside0.mk ((by rw [hg]; exact Nat.ne_of_lt (blk_lt (g := gb405) (o := .cells #[.int .i64 0, .int .i64 0, .string (⟨#[]⟩ : ByteArray), .slice none 0 0, .slice none 0 0] 27 (0, 0)) (by (with_reducible repeat (first | refine blk_drewN ?_ _ | refine blk_drew ?_ | refine blk_alloc ?_ _)); exact BK405.out)) : gb405 ≠ gb445)); have n10_ := Aside0.mk ((by rw [hg]; exact Nat.ne_of_gt (blk_lt (g := gb405) (o := .cells #[.int .i64 0, .int .i64 0, .string (⟨#[]⟩ : ByteArray), .slice none 0 0, .slice none 0 0] 27 (0, 0)) (by (with_reducible repeat (first | refine blk_drewN ?_ _ | refine blk_drew ?_ | refine blk_alloc ?_ _)); exact BK405.out)) : gb445 ≠ gb405)); have n11_ := Aside0.mk ((by rw [hg]; exact Nat.ne_of_lt (IsS121.lt (show IsS121 w0 _ g t439 t440 t441 t442 t443 t444 from by repeat (first | (with_reducible first | exact HI0.out | apply IsS121.alloc | apply IsS121.drewN | apply IsS121.drew | apply IsS121.set_0 | apply IsS121.set_1 | apply IsS121.set_2 | apply IsS121.set_3 | apply IsS121.set_4 | apply IsS121.set_5 | refine IsS121.far ?_ NB0_405.out _) | exact HI0.out))) : g ≠ gb445)); have n12_ := Aside0.mk ((by rw [hg]; exact Nat.ne_of_gt (IsS121.lt (show IsS121 w0 _ g t439 t440 t441 t442 t443 t444 from by repeat (first | (with_reducible first | exact HI0.out | apply IsS121.alloc | apply IsS121.drewN | apply IsS121.drew | apply IsS121.set_0 | apply IsS121.set_1 | apply IsS121.set_2 | apply IsS121.set_3 | apply IsS121.set_4 | apply IsS121.set_5 | refine IsS121.far ?_ NB0_405.out _) | exact HI0.out))) : gb445 ≠ g)); clear HO435; clear HO438; clear BK405; clear HI0; clear HK; clear HB; have HO435 := n0_; have HO438 := n1_; have BK405 := n2_; have HI0 := n3_; have HK := n4_; have HB := n5_; have BK445 := n6_; have GW445 := n7_; have GE445 := n8_; have NB405_445 := n9_; have NB445_405 := n10_; have NB0_445 := n11_; have NB445_0 := n12_; clear n0_ n1_ n2_ n3_ n4_ n5_ n6_ n7_ n8_ n9_ n10_ n11_ n12_; clear hb hbox hg; have hnb47 := NB445_405.out; have hnc47 := NB405_445.out; have hnb48 := NB445_0.out; have hnc48 := NB0_445.out; have hcz49_0 : w46.cell? ⟨gb445, 0, none⟩ = some (.int .i64 0) := (blk_cell BK445.out 0).trans rfl; have hcz49_1 : w46.cell? ⟨gb445, 1, none⟩ = some (.int .i64 0) := (blk_cell BK445.out 1).trans rfl; have hcz49_2 : w46.cell? ⟨gb445, 2, none⟩ = some (.string (⟨#[]⟩ : ByteArray)) := (blk_cell BK445.out 2).trans rfl; have hcz49_3 : w46.cell? ⟨gb445, 3, none⟩ = some (.slice none 0 0) := (blk_cell BK445.out 3).trans rfl; have hcz49_4 : w46.cell? ⟨gb445, 4, none⟩ = some (.slice none 0 0) := (blk_cell BK445.out 4).trans rfl; have hfz49_0 := blk_frozen BK445.out 0; have hfz49_1 := blk_frozen BK445.out 1; have hfz49_2 := blk_frozen BK445.out 2; have hfz49_3 := blk_frozen BK445.out 3; have hfz49_4 := blk_frozen BK445.out 4; obtain ⟨Ao50, co50, eo50⟩ := Kd.N_slice HO435.out; subst eo50; obtain ⟨Ao51, co51, eo51⟩ := Kd.N_slice HO438.out; subst eo51) | ((with_reducible refine gate_callee (f := 161) rfl ?_); refine goesL_ (some 158) rfl rfl Try.func161 (by kernel_rfl) rfl #[.pointer (some ⟨g, 0, none⟩), .int .u8 46] rfl (by (try simp only [List.map_toArray, List.map_cons, List.map_nil]); first | done | rfl | (simp only [List.length_drop, List.length_take]; rfl)) ?_; (with_reducible refine (touchstoneref7_reader_must.calls kj3 g t439 t440 t441 t442 t443 t444 46 t446 t447 t448 t449 t450 t451 w0 _ ?side1 ?side2 A41.out).mono ?_); (case side1 => repeat (first | (with_reducible first | exact HI0.out | apply IsS121.alloc | apply IsS121.drewN | apply IsS121.drew | apply IsS121.set_0 | apply IsS121.set_1 | apply IsS121.set_2 | apply IsS121.set_3 | apply IsS121.set_4 | apply IsS121.set_5 | refine IsS121.far ?_ NB0_405.out _ | refine IsS121.far ?_ NB0_445.out _) | exact HI0.out)); (case side2 => repeat (first | (with_reducible first | exact HB.out | apply below_alloc | apply pw_below_drewN | apply below_drew1 | refine below_set ?_ (IsS121.ge HI0.out) | refine below_set ?_ GE405.out | refine below_set ?_ GE445.out) | exact HB.out)); rintro e w52 ⟨rfl, hi, hb, hk⟩; refine ⟨_, rfl, ?_⟩; have n0_ := Aside0.mk (KeepBut.blk hk (g' := gb405) (o := .cells #[.int .i64 0, .int .i64 0, .string (⟨#[]⟩ : ByteArray), .slice none 0 0, .slice none 0 0] 27 (0, 0)) (by (with_reducible repeat (first | refine blk_drewN ?_ _ | refine blk_drew ?_ | refine blk_alloc ?_ _)); refine blk_far ?_ NB405_445.out _; (with_reducible repeat (first | refine blk_drewN ?_ _ | refine blk_drew ?_ | refine blk_alloc ?_ _)); refine blk_far ?_ NB405_445.out _; (with_reducible repeat (first | refine blk_drewN ?_ _ | refine blk_drew ?_ | refine blk_alloc ?_ _)); refine blk_far ?_ NB405_445.out _; (with_reducible repeat (first | refine blk_drewN ?_ _ | refine blk_drew ?_ | refine blk_alloc ?_ _)); refine blk_far ?_ NB405_445.out _; (with_reducible repeat (first | refine blk_drewN ?_ _ | refine blk_drew ?_ | refine blk_alloc ?_ _)); refine blk_far ?_ NB405_445.out _; (with_reducible repeat (first | refine blk_drewN ?_ _ | refine blk_drew ?_ | refine blk_alloc ?_ _)); exact BK405.out) NB405_0.out (by simp)); have n1_ := Aside0.mk (Kd.N_mono (Kd.N_keep (Kd.N_mono (ok := fun k_ => ((((w.heap.size ≤ k_)) ∧ (some k_ ≠ (.slice Ao51 t436.length co51 : Value).ownBlock ∧ (k_ ≠ gb405 ∧ k_ ≠ g))) ∧ k_ ≠ gb445)) (by (with_reducible repeat (first | apply Kd.N_alloc | apply Kd.N_drewN | apply Kd.N_drew)); exact (Kd.N_mono (Kd.N_far (p := ⟨gb445, 4, none⟩) (Kd.N_far (p := ⟨gb445, 3, none⟩) (Kd.N_far (p := ⟨gb445, 2, none⟩) (Kd.N_far (p := ⟨gb445, 1, none⟩) (Kd.N_far (p := ⟨gb445, 0, none⟩) (Kd.N_mono HO435.out (fun k_ hk => (⟨hk, hk.2⟩ : _ ∧ k_ ≠ gb445))) (fun _ hk => hk.2) (.int .i64 t430)) (fun _ hk => hk.2) (.int .i64 t431)) (fun _ hk => hk.2) (.string t432)) (fun _ hk => hk.2) (.slice Ao50 t433.length co50)) (fun _ hk => hk.2) (.slice Ao51 t436.length co51)) (fun _ h_ => h_.1))) (fun k_ hk_ => (⟨hk_, hk_.1.2.2.2⟩ : _ ∧ k_ ≠ g))) hk (fun _ h => h.2)) (fun _ h => h.1)); have n2_ := Aside0.mk (Kd.N_mono (Kd.N_keep (Kd.N_mono (ok := fun k_ => ((((w.heap.size ≤ k_)) ∧ (some k_ ≠ (.slice Ao50 t433.length co50 : Value).ownBlock ∧ (k_ ≠ gb405 ∧ k_ ≠ g))) ∧ k_ ≠ gb445)) (by (with_reducible repeat (first | apply Kd.N_alloc | apply Kd.N_drewN | apply Kd.N_drew)); exact (Kd.N_mono (Kd.N_far (p := ⟨gb445, 4, none⟩) (Kd.N_far (p := ⟨gb445, 3, none⟩) (Kd.N_far (p := ⟨gb445, 2, none⟩) (Kd.N_far (p := ⟨gb445, 1, none⟩) (Kd.N_far (p := ⟨gb445, 0, none⟩) (Kd.N_mono HO438.out (fun k_ hk => (⟨hk, hk.2⟩ : _ ∧ k_ ≠ gb445))) (fun _ hk => hk.2) (.int .i64 t430)) (fun _ hk => hk.2) (.int .i64 t431)) (fun _ hk => hk.2) (.string t432)) (fun _ hk => hk.2) (.slice Ao50 t433.length co50)) (fun _ hk => hk.2) (.slice Ao51 t436.length co51)) (fun _ h_ => h_.1))) (fun k_ hk_ => (⟨hk_, hk_.1.2.2.2⟩ : _ ∧ k_ ≠ g))) hk (fun _ h => h.2)) (fun _ h => h.1)); have n3_ := Aside0.mk (KeepBut.blk hk (g' := gb445) (o := .cells #[.int .i64 t430, .int .i64 t431, .string t432, .slice Ao50 t433.length co50, .slice Ao51 t436.length co51] 27 (0, 0)) (by (with_reducible repeat (first | refine blk_drewN ?_ _ | refine blk_drew ?_ | refine blk_alloc ?_ _)); refine blk_put (cs := #[.int .i64 t430, .int .i64 t431, .string t432, .slice Ao50 t433.length co50, .slice none 0 0]) ?_ 4 _ rfl; (with_reducible repeat (first | refine blk_drewN ?_ _ | refine blk_drew ?_ | refine blk_alloc ?_ _)); refine blk_put (cs := #[.int .i64 t430, .int .i64 t431, .string t432, .slice none 0 0, .slice none 0 0]) ?_ 3 _ rfl; (with_reducible repeat (first | refine blk_drewN ?_ _ | refine blk_drew ?_ | refine blk_alloc ?_ _)); refine blk_put (cs := #[.int .i64 t430, .int .i64 t431, .string (⟨#[]⟩ : ByteArray), .slice none 0 0, .slice none 0 0]) ?_ 2 _ rfl; (with_reducible repeat (first | refine blk_drewN ?_ _ | refine blk_drew ?_ | refine blk_alloc ?_ _)); refine blk_put (cs := #[.int .i64 t430, .int .i64 0, .string (⟨#[]⟩ : ByteArray), .slice none 0 0, .slice none 0 0]) ?_ 1 _ rfl; (with_reducible repeat (first | refine blk_drewN ?_ _ | refine blk_drew ?_ | refine blk_alloc ?_ _)); refine blk_put (cs := #[.int .i64 0, .int .i64 0, .string (⟨#[]⟩ : ByteArray), .slice none 0 0, .slice none 0 0]) ?_ 0 _ rfl; (with_reducible repeat (first | refine blk_drewN ?_ _ | refine blk_drew ?_ | refine blk_alloc ?_ _)); exact BK445.out) NB445_0.out (by simp)); have n4_ := Aside0.mk (KeepBut.trans (by repeat (first | (with_reducible first | exact HK.out | apply KeepBut.set_ | apply keep_drewN | apply keep_drew | apply keep_alloc | refine keep_far ?_ GW405.out _ | refine keep_far ?_ GW445.out _) | exact HK.out)) hk (.inl rfl)); have n5_ := Aside0.mk (hb); have n6_ := Aside0.mk (hi); clear BK405; clear HO435; clear HO438; clear BK445; clear HK; clear HB; clear HI0; have BK405 := n0_; have HO435 := n1_; have HO438 := n2_; have BK445 := n3_; have HK := n4_; have HB := n5_; have HI0 := n6_; clear n0_ n1_ n2_ n3_ n4_ n5_ n6_; (try clear hb); (try clear hb2); (try clear hk); (try clear hi)))
                          have n0_ := Aside0.mk (Kd.N_drew HO435.out)
                          have n1_ := Aside0.mk (Kd.N_drew HO438.out)
                          have n2_ := Aside0.mk (blk_drew BK405.out)
                          have n3_ := Aside0.mk (blk_drew BK445.out)
                          have n4_ := Aside0.mk (IsS121.drew HI0.out)
                          have n5_ := Aside0.mk (keep_drew HK.out)
                          have n6_ := Aside0.mk (below_drew1 HB.out)
                          clear HO435
                          clear HO438
                          clear BK405
                          clear BK445
                          clear HI0
                          clear HK
                          clear HB
                          have HO435 := n0_
                          have HO438 := n1_
                          have BK405 := n2_
                          have BK445 := n3_
                          have HI0 := n4_
                          have HK := n5_
                          have HB := n6_
                          clear n0_ n1_ n2_ n3_ n4_ n5_ n6_
                          refine start_ (n := 9) (S := fun w' => w'.cell? ⟨gb445, 0, none⟩ = some (.int .i64 t430) ∧ w'.cell? ⟨gb445, 1, none⟩ = some (.int .i64 t431) ∧ w'.cell? ⟨gb445, 2, none⟩ = some (.string t432) ∧ w'.cell? ⟨gb445, 3, none⟩ = some (.slice Ao50 t433.length co50) ∧ w'.cell? ⟨gb445, 4, none⟩ = some (.slice Ao51 t436.length co51)) (ds := []) #[false, false, false, false, false, false, false, false, false] (by kernel_rfl) rfl rfl ⟨(blk_cell BK445.out 0).trans rfl, (blk_cell BK445.out 1).trans rfl, (blk_cell BK445.out 2).trans rfl, (blk_cell BK445.out 3).trans rfl, (blk_cell BK445.out 4).trans rfl⟩ (fun hHeld => ?_); refine with_tabW touchstoneref7_reader_term.tab33 touchstoneref7_reader_term.bits33 (fun HT_ HW_ => ?_)
                          generalize w52.drew = w53 at HO435 HO438 BK405 BK445 HI0 HK HB hHeld ⊢
                          refine pure_ (i := 1) (N := some 160) (v := ?_) (a' := ?_) #[false, true, false, false, false, false, false, false, false] rfl rfl (any_of HT_.out (by kernel_rfl)) (fun _ _ _ h => h) (Or.inl ⟨by rfl, ?_⟩) ?_ ?_
                          rotate_left
                          · intro w'
                            go_simp
                            with_reducible rfl
                          rotate_left
                          · simp only [Act.put, List.setIfInBounds_toArray, List.set_cons_zero, List.set_cons_succ, i64_w, i32_w]
                            rfl
                          refine pure_ (i := 2) (N := some 161) (v := ?_) (a' := ?_) #[false, true, true, false, false, false, false, false, false] rfl rfl (any_of HT_.out (by kernel_rfl)) (fun _ _ _ h => h) (Or.inl ⟨by rfl, ?_⟩) ?_ ?_
                          rotate_left
                          · intro w'
                            go_simp
                            with_reducible rfl
                          rotate_left
                          · simp only [Act.put, List.setIfInBounds_toArray, List.set_cons_zero, List.set_cons_succ, i64_w, i32_w]
                            rfl
                          refine pure_ (i := 3) (N := some 162) (v := ?_) (a' := ?_) #[false, true, true, true, false, false, false, false, false] rfl rfl (any_of HT_.out (by kernel_rfl)) (fun _ _ _ h => h) (Or.inl ⟨by rfl, ?_⟩) ?_ ?_
                          rotate_left
                          · intro w'
                            go_simp
                            with_reducible rfl
                          rotate_left
                          · simp only [Act.put, List.setIfInBounds_toArray, List.set_cons_zero, List.set_cons_succ, i64_w, i32_w]
                            rfl
                          refine take_ (i := 0) (N := some 159) (v := ?_) (a' := ?_) #[true, true, true, true, false, false, false, false, false] rfl rfl (take_ofW HT_.out HW_.out (by kernel_rfl)) (fun _ _ _ h => h) (Or.inl ⟨by rfl, ?_⟩) hHeld ?_ ?_
                          rotate_left
                          · rintro w' ⟨s0, s1, s2, s3, s4⟩
                            go_simp
                            with_reducible rfl
                          rotate_left
                          · simp only [Act.put, List.setIfInBounds_toArray, List.set_cons_zero, List.set_cons_succ, i64_w, i32_w]
                            rfl
                          refine join_ (σ := Value × Value × Value × Nat) 1 #[true, true, true, true, true, true, true, true, false] (fun s_ => [(163, .agg #[.int .i64 t452, .int .i64 t453, .string t454, s_.1, s_.2.1]), (164, s_.2.2.1), (11, .pointer (some ⟨s_.2.2.2, 0, none⟩)), (165, .agg #[.int .i64 4, .int .i64 0, .string (⟨#[]⟩ : ByteArray), .slice none 0 0, s_.2.2.1])]) (fun s_ w' => (w'.cell? ⟨gb445, 0, none⟩ = some (.int .i64 t430) ∧ w'.cell? ⟨gb445, 1, none⟩ = some (.int .i64 t431) ∧ w'.cell? ⟨gb445, 2, none⟩ = some (.string t432) ∧ w'.cell? ⟨gb445, 3, none⟩ = some (.slice Ao50 t433.length co50) ∧ w'.cell? ⟨gb445, 4, none⟩ = some (.slice Ao51 t436.length co51)) ∧ (Kd.N k27 27 w' w.heap.size (fun k_ => (w.heap.size ≤ k_) ∧ k_ ≠ g ∧ k_ ≠ gb405 ∧ k_ ≠ gb445 ∧ k_ ≠ s_.2.2.2) s_.2.2.1 y467) ∧ (w'.heap[gb405]? = some (.cells #[.int .i64 0, .int .i64 0, .string (⟨#[]⟩ : ByteArray), .slice none 0 0, .slice none 0 0] 27 (0, 0))) ∧ (w'.heap[gb445]? = some (.cells #[.int .i64 t430, .int .i64 t431, .string t432, .slice Ao50 t433.length co50, .slice Ao51 t436.length co51] 27 (0, 0))) ∧ (w'.heap[s_.2.2.2]? = some (.cells #[.int .i64 0, .int .i64 0, .string (⟨#[]⟩ : ByteArray), .slice none 0 0, .slice none 0 0] 27 (0, 0))) ∧ (w.heap.size ≤ s_.2.2.2) ∧ (w0.heap.size ≤ s_.2.2.2) ∧ (g ≠ s_.2.2.2) ∧ (s_.2.2.2 ≠ g) ∧ (gb405 ≠ s_.2.2.2) ∧ (s_.2.2.2 ≠ gb405) ∧ (gb445 ≠ s_.2.2.2) ∧ (s_.2.2.2 ≠ gb445) ∧ (IsS121 w0 w' g t461 t462 t463 t464 t465 t466) ∧ (KeepBut w w' g none) ∧ (Below w0.heap.size w0 w')) ?_ ?_
                          rotate_left
                          · intro hCont
                            refine two_ (i := 4) (j := 7) (Ni := some 163) (Nj := some 11) #[true, true, true, true, true, false, false, false, false] #[true, true, true, true, false, false, false, true, false] rfl rfl rfl rfl (two_of HT_.out (by kernel_rfl)) (by decide) (by decide) (fun K hK => ?_) (fun K hK => ?_)
                            · skip
                              refine goes_ Try.func130 (by kernel_rfl) rfl #[.pointer (some ⟨g, 0, none⟩), .int .i64 (wrap64 (a1 + 1))] (by rfl) rfl rfl (by (try simp only [List.map_toArray, List.map_cons, List.map_nil]); first | done | rfl | (simp only [List.length_drop, List.length_take]; rfl)) ?_
                              with_reducible refine (ih kj3 (by have := HJ3.out; omega) g t446 t447 t448 t449 t450 t451 (wrap64 (a1 + 1)) t452 t453 t454 t455 t458 t461 t462 t463 t464 t465 t466 w0 _ ?side1 ?side2 A42.out).mono ?_
                              (case side1 => repeat (first | (with_reducible first | exact HI0.out | apply IsS121.alloc | apply IsS121.drewN | apply IsS121.drew | apply IsS121.set_0 | apply IsS121.set_1 | apply IsS121.set_2 | apply IsS121.set_3 | apply IsS121.set_4 | apply IsS121.set_5 | refine IsS121.far ?_ NB0_405.out _ | refine IsS121.far ?_ NB0_445.out _) | exact HI0.out))
                              (case side2 => repeat (first | (with_reducible first | exact HB.out | apply below_alloc | apply pw_below_drewN | apply below_drew1 | refine below_set ?_ (IsS121.ge HI0.out) | refine below_set ?_ GE405.out | refine below_set ?_ GE445.out) | exact HB.out))
                              rintro e w54 ⟨v456, v459, rfl, ho0, ho1, hi, hb, hk⟩
                              refine ⟨_, rfl, ?_⟩
                              have n0_ := Aside0.mk (KeepBut.blk hk (g' := gb405) (o := .cells #[.int .i64 0, .int .i64 0, .string (⟨#[]⟩ : ByteArray), .slice none 0 0, .slice none 0 0] 27 (0, 0)) (by (with_reducible repeat (first | refine blk_drewN ?_ _ | refine blk_drew ?_ | refine blk_alloc ?_ _)); exact BK405.out) NB405_0.out (by simp))
                              have n1_ := Aside0.mk (Kd.N_mono (Kd.N_told (Kd.N_told (Kd.N_oldK (Kd.N_mono (ok := fun k_ => ((((w.heap.size ≤ k_)) ∧ (some k_ ≠ (.slice Ao51 t436.length co51 : Value).ownBlock ∧ (k_ ≠ gb405 ∧ k_ ≠ g))) ∧ k_ ≠ gb445)) (by (with_reducible repeat (first | apply Kd.N_alloc | apply Kd.N_drewN | apply Kd.N_drew)); exact HO435.out) (fun k_ hk_ => (⟨hk_, hk_.1.2.2.2⟩ : _ ∧ k_ ≠ g))) hk) (by first | exact Kd.N_base ho0 | exact Kd.R_base ho0)) (by first | exact Kd.N_base ho1 | exact Kd.R_base ho1)) (fun _ h_ => h_.1))
                              have n2_ := Aside0.mk (Kd.N_mono (Kd.N_told (Kd.N_told (Kd.N_oldK (Kd.N_mono (ok := fun k_ => ((((w.heap.size ≤ k_)) ∧ (some k_ ≠ (.slice Ao50 t433.length co50 : Value).ownBlock ∧ (k_ ≠ gb405 ∧ k_ ≠ g))) ∧ k_ ≠ gb445)) (by (with_reducible repeat (first | apply Kd.N_alloc | apply Kd.N_drewN | apply Kd.N_drew)); exact HO438.out) (fun k_ hk_ => (⟨hk_, hk_.1.2.2.2⟩ : _ ∧ k_ ≠ g))) hk) (by first | exact Kd.N_base ho0 | exact Kd.R_base ho0)) (by first | exact Kd.N_base ho1 | exact Kd.R_base ho1)) (fun _ h_ => h_.1))
                              have n3_ := Aside0.mk (KeepBut.blk hk (g' := gb445) (o := .cells #[.int .i64 t430, .int .i64 t431, .string t432, .slice Ao50 t433.length co50, .slice Ao51 t436.length co51] 27 (0, 0)) (by (with_reducible repeat (first | refine blk_drewN ?_ _ | refine blk_drew ?_ | refine blk_alloc ?_ _)); exact BK445.out) NB445_0.out (by simp))
                              have n4_ := Aside0.mk (Kd.N_lower (Kd.N_mono (ok' := fun k_ => (w.heap.size ≤ k_) ∧ some k_ ≠ (v459 : Value).ownBlock ∧ some k_ ≠ (.slice Ao50 t433.length co50 : Value).ownBlock ∧ some k_ ≠ (.slice Ao51 t436.length co51 : Value).ownBlock ∧ k_ ≠ gb405 ∧ k_ ≠ gb445 ∧ k_ ≠ g) ho0 (fun k_ hk_ => ⟨(Nat.le_trans (keep_size (w := w) (g := g) (row := none) (by repeat (first | (with_reducible first | exact HK.out | apply KeepBut.set_ | apply keep_drewN | apply keep_drew | apply keep_alloc | refine keep_far ?_ GW405.out _ | refine keep_far ?_ GW445.out _) | exact HK.out))) hk_.1), hk_.2, (Kd.fresh' (Kd.N_lt (by (with_reducible repeat (first | apply Kd.N_alloc | apply Kd.N_drewN | apply Kd.N_drew)); exact HO435.out)) k_ hk_.1), (Kd.fresh' (Kd.N_lt (by (with_reducible repeat (first | apply Kd.N_alloc | apply Kd.N_drewN | apply Kd.N_drew)); exact HO438.out)) k_ hk_.1), (Kd.freshB (g := gb405) (o := .cells #[.int .i64 0, .int .i64 0, .string (⟨#[]⟩ : ByteArray), .slice none 0 0, .slice none 0 0] 27 (0, 0)) (by (with_reducible repeat (first | refine blk_drewN ?_ _ | refine blk_drew ?_ | refine blk_alloc ?_ _)); exact BK405.out) k_ hk_.1), (Kd.freshB (g := gb445) (o := .cells #[.int .i64 t430, .int .i64 t431, .string t432, .slice Ao50 t433.length co50, .slice Ao51 t436.length co51] 27 (0, 0)) (by (with_reducible repeat (first | refine blk_drewN ?_ _ | refine blk_drew ?_ | refine blk_alloc ?_ _)); exact BK445.out) k_ hk_.1), (IsS121.fresh (by repeat (first | (with_reducible first | exact HI0.out | apply IsS121.alloc | apply IsS121.drewN | apply IsS121.drew | apply IsS121.set_0 | apply IsS121.set_1 | apply IsS121.set_2 | apply IsS121.set_3 | apply IsS121.set_4 | apply IsS121.set_5 | refine IsS121.far ?_ NB0_405.out _ | refine IsS121.far ?_ NB0_445.out _) | exact HI0.out)) k_ hk_.1)⟩)) (keep_size (w := w) (g := g) (row := none) (by repeat (first | (with_reducible first | exact HK.out | apply KeepBut.set_ | apply keep_drewN | apply keep_drew | apply keep_alloc | refine keep_far ?_ GW405.out _ | refine keep_far ?_ GW445.out _) | exact HK.out))))
                              have n5_ := Aside0.mk (Kd.N_lower (Kd.N_mono (ok' := fun k_ => (w.heap.size ≤ k_) ∧ some k_ ≠ (v456 : Value).ownBlock ∧ some k_ ≠ (.slice Ao50 t433.length co50 : Value).ownBlock ∧ some k_ ≠ (.slice Ao51 t436.length co51 : Value).ownBlock ∧ k_ ≠ gb405 ∧ k_ ≠ gb445 ∧ k_ ≠ g) ho1 (fun k_ hk_ => ⟨(Nat.le_trans (keep_size (w := w) (g := g) (row := none) (by repeat (first | (with_reducible first | exact HK.out | apply KeepBut.set_ | apply keep_drewN | apply keep_drew | apply keep_alloc | refine keep_far ?_ GW405.out _ | refine keep_far ?_ GW445.out _) | exact HK.out))) hk_.1), hk_.2, (Kd.fresh' (Kd.N_lt (by (with_reducible repeat (first | apply Kd.N_alloc | apply Kd.N_drewN | apply Kd.N_drew)); exact HO435.out)) k_ hk_.1), (Kd.fresh' (Kd.N_lt (by (with_reducible repeat (first | apply Kd.N_alloc | apply Kd.N_drewN | apply Kd.N_drew)); exact HO438.out)) k_ hk_.1), (Kd.freshB (g := gb405) (o := .cells #[.int .i64 0, .int .i64 0, .string (⟨#[]⟩ : ByteArray), .slice none 0 0, .slice none 0 0] 27 (0, 0)) (by (with_reducible repeat (first | refine blk_drewN ?_ _ | refine blk_drew ?_ | refine blk_alloc ?_ _)); exact BK405.out) k_ hk_.1), (Kd.freshB (g := gb445) (o := .cells #[.int .i64 t430, .int .i64 t431, .string t432, .slice Ao50 t433.length co50, .slice Ao51 t436.length co51] 27 (0, 0)) (by (with_reducible repeat (first | refine blk_drewN ?_ _ | refine blk_drew ?_ | refine blk_alloc ?_ _)); exact BK445.out) k_ hk_.1), (IsS121.fresh (by repeat (first | (with_reducible first | exact HI0.out | apply IsS121.alloc | apply IsS121.drewN | apply IsS121.drew | apply IsS121.set_0 | apply IsS121.set_1 | apply IsS121.set_2 | apply IsS121.set_3 | apply IsS121.set_4 | apply IsS121.set_5 | refine IsS121.far ?_ NB0_405.out _ | refine IsS121.far ?_ NB0_445.out _) | exact HI0.out)) k_ hk_.1)⟩)) (keep_size (w := w) (g := g) (row := none) (by repeat (first | (with_reducible first | exact HK.out | apply KeepBut.set_ | apply keep_drewN | apply keep_drew | apply keep_alloc | refine keep_far ?_ GW405.out _ | refine keep_far ?_ GW445.out _) | exact HK.out))))
                              have n6_ := Aside0.mk (KeepBut.trans (by repeat (first | (with_reducible first | exact HK.out | apply KeepBut.set_ | apply keep_drewN | apply keep_drew | apply keep_alloc | refine keep_far ?_ GW405.out _ | refine keep_far ?_ GW445.out _) | exact HK.out)) hk (.inl rfl))
                              have n7_ := Aside0.mk (hb)
                              have n8_ := Aside0.mk (hi)
                              clear BK405
                              clear HO435
                              clear HO438
                              clear BK445
                              clear HK
                              clear HB
                              clear HI0
                              have BK405 := n0_
                              have HO435 := n1_
                              have HO438 := n2_
                              have BK445 := n3_
                              have HO457 := n4_
                              have HO460 := n5_
                              have HK := n6_
                              have HB := n7_
                              have HI0 := n8_
                              clear n0_ n1_ n2_ n3_ n4_ n5_ n6_ n7_ n8_
                              (try clear hb)
                              (try clear hb2)
                              (try clear hk)
                              (try clear hi)
                              (try clear ho0)
                              (try clear ho1)
                              obtain ⟨Ao55, co55, eo55⟩ := Kd.N_slice HO457.out
                              (first | subst eo55 | (injection eo55 with f1_ f2_ f3_; have f4_ := f1_.symm; have f5_ := f3_.symm; clear f1_ f2_ f3_; subst f4_; subst f5_))
                              obtain ⟨Ao56, co56, eo56⟩ := Kd.N_slice HO460.out
                              (first | subst eo56 | (injection eo56 with f1_ f2_ f3_; have f4_ := f1_.symm; have f5_ := f3_.symm; clear f1_ f2_ f3_; subst f4_; subst f5_))
                              refine hK.out _ _ ⟨(blk_cell BK445.out 0).trans rfl, (blk_cell BK445.out 1).trans rfl, (blk_cell BK445.out 2).trans rfl, (blk_cell BK445.out 3).trans rfl, (blk_cell BK445.out 4).trans rfl⟩ (fun hHeld => ?_)
                              clear hK K
                              refine norm_ (a' := ?_) ?_ ?_
                              rotate_left
                              · show Act.put _ (some 163) _ = _
                                simp only [Act.put, List.setIfInBounds_toArray, List.set_cons_zero, List.set_cons_succ, i64_w, i32_w]
                                rfl
                              refine two_ (i := 5) (j := 7) (Ni := some 164) (Nj := some 11) #[true, true, true, true, true, true, false, false, false] #[true, true, true, true, true, false, false, true, false] rfl rfl rfl rfl (two_of HT_.out (by kernel_rfl)) (by decide) (by decide) (fun K hK => ?_) (fun K hK => ?_)
                              · skip
                                refine Kd.N_lit_step k27 _ 27 ?hg (N' := 164) ?hd (xs := ([(⟨t430, t431, t432, t433, t436⟩ : S27), (⟨t452, t453, t454, t455, t458⟩ : S27)] : List (S27))) (inner := [.int .i64 t430, .int .i64 t431, .string t432, .slice Ao50 t433.length co50, .slice Ao51 t436.length co51, .int .i64 t452, .int .i64 t453, .string t454, .slice Ao55 t455.length co55, .slice Ao56 t458.length co56]) (ok := (fun k_ => (w.heap.size ≤ k_) ∧ k_ ≠ gb405 ∧ k_ ≠ gb445 ∧ k_ ≠ g)) (okp := (fun k_ => (w.heap.size ≤ k_) ∧ k_ ≠ gb405 ∧ k_ ≠ gb445 ∧ k_ ≠ g)) ?hr ?hp (fun _ hk => hk) ((show ∀ k_, w54.heap.size ≤ k_ → (fun k_ => (w.heap.size ≤ k_) ∧ k_ ≠ gb405 ∧ k_ ≠ gb445 ∧ k_ ≠ g) k_ from fun k_ hk => ⟨(Nat.le_trans (keep_size (w := w) (g := g) (row := none) (by repeat (first | (with_reducible first | exact HK.out | apply KeepBut.set_ | apply keep_drewN | apply keep_drew | apply keep_alloc | refine keep_far ?_ GW405.out _ | refine keep_far ?_ GW445.out _) | exact HK.out))) hk), Kd.freshB (g := gb405) (o := .cells #[.int .i64 0, .int .i64 0, .string (⟨#[]⟩ : ByteArray), .slice none 0 0, .slice none 0 0] 27 (0, 0)) (by (with_reducible repeat (first | refine blk_drewN ?_ _ | refine blk_drew ?_ | refine blk_alloc ?_ _)); exact BK405.out) k_ hk, Kd.freshB (g := gb445) (o := .cells #[.int .i64 t430, .int .i64 t431, .string t432, .slice Ao50 t433.length co50, .slice Ao51 t436.length co51] 27 (0, 0)) (by (with_reducible repeat (first | refine blk_drewN ?_ _ | refine blk_drew ?_ | refine blk_alloc ?_ _)); exact BK445.out) k_ hk, IsS121.fresh (by repeat (first | (with_reducible first | exact HI0.out | apply IsS121.alloc | apply IsS121.drewN | apply IsS121.drew | apply IsS121.set_0 | apply IsS121.set_1 | apply IsS121.set_2 | apply IsS121.set_3 | apply IsS121.set_4 | apply IsS121.set_5 | refine IsS121.far ?_ NB0_405.out _ | refine IsS121.far ?_ NB0_445.out _) | exact HI0.out)) k_ hk⟩) _ (Nat.le_refl _)) (Below.refl _ _) (Nat.le_refl _) (by simp) ?_; (case hd => rfl); (case hg => rfl); (case hr => first | (go_simp; done) | (go_simp; rfl)); (case hp => exact (Reps.c5 (show Kd.FK k27 _ _ (⟨t430, t431, t432, t433, t436⟩ : S27) [.int .i64 t430, .int .i64 t431, .string t432, .slice Ao50 t433.length co50, .slice Ao51 t436.length co51] from (k27_mkF _ _ (⟨t430, t431, t432, t433, t436⟩ : S27) (Kd.N_reads' (Kd.N_mono (ok' := (fun k_ => (w.heap.size ≤ k_) ∧ k_ ≠ gb405 ∧ k_ ≠ gb445 ∧ k_ ≠ g)) (HO435.out) (fun k_ hk => ⟨hk.1.1.1.1, ⟨hk.1.1.1.2.2.1, ⟨hk.1.1.2, hk.1.1.1.2.2.2⟩⟩⟩))).2.1 (Kd.N_F (Kd.N_mono (ok' := (fun k_ => (w.heap.size ≤ k_) ∧ k_ ≠ gb405 ∧ k_ ≠ gb445 ∧ k_ ≠ g)) (HO435.out) (fun k_ hk => ⟨hk.1.1.1.1, ⟨hk.1.1.1.2.2.1, ⟨hk.1.1.2, hk.1.1.1.2.2.2⟩⟩⟩))) (Kd.N_reads' (Kd.N_mono (ok' := (fun k_ => (w.heap.size ≤ k_) ∧ k_ ≠ gb405 ∧ k_ ≠ gb445 ∧ k_ ≠ g)) (HO438.out) (fun k_ hk => ⟨hk.1.1.1.1, ⟨hk.1.1.1.2.2.1, ⟨hk.1.1.2, hk.1.1.1.2.2.2⟩⟩⟩))).2.1 (Kd.N_F (Kd.N_mono (ok' := (fun k_ => (w.heap.size ≤ k_) ∧ k_ ≠ gb405 ∧ k_ ≠ gb445 ∧ k_ ≠ g)) (HO438.out) (fun k_ hk => ⟨hk.1.1.1.1, ⟨hk.1.1.1.2.2.1, ⟨hk.1.1.2, hk.1.1.1.2.2.2⟩⟩⟩))))) (Reps.c5 (show Kd.FK k27 _ _ (⟨t452, t453, t454, t455, t458⟩ : S27) [.int .i64 t452, .int .i64 t453, .string t454, .slice Ao55 t455.length co55, .slice Ao56 t458.length co56] from (k27_mkF _ _ (⟨t452, t453, t454, t455, t458⟩ : S27) (Kd.N_reads' (Kd.N_mono (ok' := (fun k_ => (w.heap.size ≤ k_) ∧ k_ ≠ gb405 ∧ k_ ≠ gb445 ∧ k_ ≠ g)) (HO457.out) (fun k_ hk => ⟨hk.1, ⟨hk.2.2.2.2.1, ⟨hk.2.2.2.2.2.1, hk.2.2.2.2.2.2⟩⟩⟩))).2.1 (Kd.N_F (Kd.N_mono (ok' := (fun k_ => (w.heap.size ≤ k_) ∧ k_ ≠ gb405 ∧ k_ ≠ gb445 ∧ k_ ≠ g)) (HO457.out) (fun k_ hk => ⟨hk.1, ⟨hk.2.2.2.2.1, ⟨hk.2.2.2.2.2.1, hk.2.2.2.2.2.2⟩⟩⟩))) (Kd.N_reads' (Kd.N_mono (ok' := (fun k_ => (w.heap.size ≤ k_) ∧ k_ ≠ gb405 ∧ k_ ≠ gb445 ∧ k_ ≠ g)) (HO460.out) (fun k_ hk => ⟨hk.1, ⟨hk.2.2.2.2.1, ⟨hk.2.2.2.2.2.1, hk.2.2.2.2.2.2⟩⟩⟩))).2.1 (Kd.N_F (Kd.N_mono (ok' := (fun k_ => (w.heap.size ≤ k_) ∧ k_ ≠ gb405 ∧ k_ ≠ gb445 ∧ k_ ≠ g)) (HO460.out) (fun k_ hk => ⟨hk.1, ⟨hk.2.2.2.2.1, ⟨hk.2.2.2.2.2.1, hk.2.2.2.2.2.2⟩⟩⟩))))) (Reps.none _ _))))
                                intro v468 w57 ho58 hb hg_ hnew_
                                clear hg_ hnew_
                                (first | rw [← Ny467.out] at ho58 | (simp only [Int.reduceToNat] at ho58; rw [← Ny467.out] at ho58))
                                have n0_ := Aside0.mk (Kd.N_lower ho58 (keep_size (w := w) (g := g) (row := none) (by repeat (first | (with_reducible first | exact HK.out | apply KeepBut.set_ | apply keep_drewN | apply keep_drew | apply keep_alloc | refine keep_far ?_ GW405.out _ | refine keep_far ?_ GW445.out _) | exact HK.out))))
                                have n1_ := Aside0.mk (blk_below (g := gb405) (o := .cells #[.int .i64 0, .int .i64 0, .string (⟨#[]⟩ : ByteArray), .slice none 0 0, .slice none 0 0] 27 (0, 0)) (by (with_reducible repeat (first | refine blk_drewN ?_ _ | refine blk_drew ?_ | refine blk_alloc ?_ _)); exact BK405.out) hb)
                                have n2_ := Aside0.mk (IsS121.below (by repeat (first | (with_reducible first | exact HI0.out | apply IsS121.alloc | apply IsS121.drewN | apply IsS121.drew | apply IsS121.set_0 | apply IsS121.set_1 | apply IsS121.set_2 | apply IsS121.set_3 | apply IsS121.set_4 | apply IsS121.set_5 | refine IsS121.far ?_ NB0_405.out _ | refine IsS121.far ?_ NB0_445.out _) | exact HI0.out)) hb)
                                have n3_ := Aside0.mk (blk_below (g := gb445) (o := .cells #[.int .i64 t430, .int .i64 t431, .string t432, .slice Ao50 t433.length co50, .slice Ao51 t436.length co51] 27 (0, 0)) (by (with_reducible repeat (first | refine blk_drewN ?_ _ | refine blk_drew ?_ | refine blk_alloc ?_ _)); exact BK445.out) hb)
                                have n4_ := Aside0.mk (KeepBut.trans (by repeat (first | (with_reducible first | exact HK.out | apply KeepBut.set_ | apply keep_drewN | apply keep_drew | apply keep_alloc | refine keep_far ?_ GW405.out _ | refine keep_far ?_ GW445.out _) | exact HK.out)) (KeepBut.of_below hb g none) (.inl rfl))
                                have n5_ := Aside0.mk (below_step (by repeat (first | (with_reducible first | exact HB.out | apply below_alloc | apply pw_below_drewN | apply below_drew1 | refine below_set ?_ (IsS121.ge HI0.out) | refine below_set ?_ GE405.out | refine below_set ?_ GE445.out) | exact HB.out)) hb)
                                clear BK405
                                clear HI0
                                clear BK445
                                clear HK
                                clear HB
                                clear HO435
                                clear HO438
                                clear HO457
                                clear HO460
                                have HO469 := n0_
                                have BK405 := n1_
                                have HI0 := n2_
                                have BK445 := n3_
                                have HK := n4_
                                have HB := n5_
                                clear n0_ n1_ n2_ n3_ n4_ n5_
                                clear hb ho58
                                obtain ⟨Ao59, co59, eo59⟩ := Kd.N_slice HO469.out
                                (first | subst eo59 | (injection eo59 with f1_ f2_ f3_; have f4_ := f1_.symm; have f5_ := f3_.symm; clear f1_ f2_ f3_; subst f4_; subst f5_))
                                refine hK.out _ _ ⟨(blk_cell BK445.out 0).trans rfl, (blk_cell BK445.out 1).trans rfl, (blk_cell BK445.out 2).trans rfl, (blk_cell BK445.out 3).trans rfl, (blk_cell BK445.out 4).trans rfl⟩ (fun hHeld => ?_)
                                clear hK K
                                refine norm_ (a' := ?_) ?_ ?_
                                rotate_left
                                · show Act.put _ (some 164) _ = _
                                  simp only [Act.put, List.setIfInBounds_toArray, List.set_cons_zero, List.set_cons_succ, i64_w, i32_w]
                                  rfl
                                refine pure_ (i := 6) (N := some 165) (v := ?_) (a' := ?_) #[true, true, true, true, true, true, true, false, false] rfl rfl (any_of HT_.out (by kernel_rfl)) (fun _ _ _ h => h) (Or.inl ⟨by rfl, ?_⟩) ?_ ?_
                                rotate_left
                                · intro w'
                                  go_simp
                                  with_reducible rfl
                                rotate_left
                                · simp only [Act.put, List.setIfInBounds_toArray, List.set_cons_zero, List.set_cons_succ, i64_w, i32_w]
                                  rfl
                                refine one_ (i := 7) (N := some 11) #[true, true, true, true, true, true, true, true, false] rfl rfl (one_of HT_.out (by kernel_rfl)) (by decide) (fun K hK => ?_)
                                refine box_step ?hg (N := 11) ?hd (cs := #[.int .i64 0, .int .i64 0, .string (⟨#[]⟩ : ByteArray), .slice none 0 0, .slice none 0 0]) (t := 27) ?hr ?_; (case hd => rfl); (case hg => rfl); (case hr => first | (go_simp; done) | (go_simp; rfl))
                                intro gb470 hg w60 hbox hb
                                have n0_ := Aside0.mk (Kd.N_below (Kd.N_elderB (by (with_reducible repeat (first | apply Kd.N_alloc | apply Kd.N_drewN | apply Kd.N_drew)); exact HO469.out) gb470 (Nat.le_of_eq hg.symm)) hb)
                                have n1_ := Aside0.mk (blk_below (g := gb405) (o := .cells #[.int .i64 0, .int .i64 0, .string (⟨#[]⟩ : ByteArray), .slice none 0 0, .slice none 0 0] 27 (0, 0)) (by (with_reducible repeat (first | refine blk_drewN ?_ _ | refine blk_drew ?_ | refine blk_alloc ?_ _)); exact BK405.out) hb)
                                have n2_ := Aside0.mk (IsS121.below (by repeat (first | (with_reducible first | exact HI0.out | apply IsS121.alloc | apply IsS121.drewN | apply IsS121.drew | apply IsS121.set_0 | apply IsS121.set_1 | apply IsS121.set_2 | apply IsS121.set_3 | apply IsS121.set_4 | apply IsS121.set_5 | refine IsS121.far ?_ NB0_405.out _ | refine IsS121.far ?_ NB0_445.out _) | exact HI0.out)) hb)
                                have n3_ := Aside0.mk (blk_below (g := gb445) (o := .cells #[.int .i64 t430, .int .i64 t431, .string t432, .slice Ao50 t433.length co50, .slice Ao51 t436.length co51] 27 (0, 0)) (by (with_reducible repeat (first | refine blk_drewN ?_ _ | refine blk_drew ?_ | refine blk_alloc ?_ _)); exact BK445.out) hb)
                                have n4_ := Aside0.mk (KeepBut.trans (by repeat (first | (with_reducible first | exact HK.out | apply KeepBut.set_ | apply keep_drewN | apply keep_drew | apply keep_alloc | refine keep_far ?_ GW405.out _ | refine keep_far ?_ GW445.out _) | exact HK.out)) (KeepBut.of_below hb g none) (.inl rfl))
                                have n5_ := Aside0.mk (below_step (by repeat (first | (with_reducible first | exact HB.out | apply below_alloc | apply pw_below_drewN | apply below_drew1 | refine below_set ?_ (IsS121.ge HI0.out) | refine below_set ?_ GE405.out | refine below_set ?_ GE445.out) | exact HB.out)) hb)
                                have n6_ := Aside0.mk (hbox)
                                have n7_ := Aside0.mk ((by rw [hg]; exact (keep_size (w := w) (g := g) (row := none) (by repeat (first | (with_reducible first | exact HK.out | apply KeepBut.set_ | apply keep_drewN | apply keep_drew | apply keep_alloc | refine keep_far ?_ GW405.out _ | refine keep_far ?_ GW445.out _) | exact HK.out))) : w.heap.size ≤ gb470))
                                have n8_ := Aside0.mk ((Nat.le_trans HW0.out (by rw [hg]; exact (keep_size (w := w) (g := g) (row := none) (by repeat (first | (with_reducible first | exact HK.out | apply KeepBut.set_ | apply keep_drewN | apply keep_drew | apply keep_alloc | refine keep_far ?_ GW405.out _ | refine keep_far ?_ GW445.out _) | exact HK.out))) : w.heap.size ≤ gb470) : w0.heap.size ≤ gb470))
                                have n9_ := Aside0.mk ((by rw [hg]; exact Nat.ne_of_lt (blk_lt (g := gb405) (o := .cells #[.int .i64 0, .int .i64 0, .string (⟨#[]⟩ : ByteArray), .slice none 0 0, .slice none 0 0] 27 (0, 0)) (by (with_reducible repeat (first | refine blk_drewN ?_ _ | refine blk_drew ?_ | refine blk_alloc ?_ _)); exact BK405.out)) : gb405 ≠ gb470))
                                have n10_ := Aside0.mk ((by rw [hg]; exact Nat.ne_of_gt (blk_lt (g := gb405) (o := .cells #[.int .i64 0, .int .i64 0, .string (⟨#[]⟩ : ByteArray), .slice none 0 0, .slice none 0 0] 27 (0, 0)) (by (with_reducible repeat (first | refine blk_drewN ?_ _ | refine blk_drew ?_ | refine blk_alloc ?_ _)); exact BK405.out)) : gb470 ≠ gb405))
                                have n11_ := Aside0.mk ((by rw [hg]; exact Nat.ne_of_lt (blk_lt (g := gb445) (o := .cells #[.int .i64 t430, .int .i64 t431, .string t432, .slice Ao50 t433.length co50, .slice Ao51 t436.length co51] 27 (0, 0)) (by (with_reducible repeat (first | refine blk_drewN ?_ _ | refine blk_drew ?_ | refine blk_alloc ?_ _)); exact BK445.out)) : gb445 ≠ gb470))
                                have n12_ := Aside0.mk ((by rw [hg]; exact Nat.ne_of_gt (blk_lt (g := gb445) (o := .cells #[.int .i64 t430, .int .i64 t431, .string t432, .slice Ao50 t433.length co50, .slice Ao51 t436.length co51] 27 (0, 0)) (by (with_reducible repeat (first | refine blk_drewN ?_ _ | refine blk_drew ?_ | refine blk_alloc ?_ _)); exact BK445.out)) : gb470 ≠ gb445))
                                have n13_ := Aside0.mk ((by rw [hg]; exact Nat.ne_of_lt (IsS121.lt (show IsS121 w0 _ g t461 t462 t463 t464 t465 t466 from by repeat (first | (with_reducible first | exact HI0.out | apply IsS121.alloc | apply IsS121.drewN | apply IsS121.drew | apply IsS121.set_0 | apply IsS121.set_1 | apply IsS121.set_2 | apply IsS121.set_3 | apply IsS121.set_4 | apply IsS121.set_5 | refine IsS121.far ?_ NB0_405.out _ | refine IsS121.far ?_ NB0_445.out _) | exact HI0.out))) : g ≠ gb470))
                                have n14_ := Aside0.mk ((by rw [hg]; exact Nat.ne_of_gt (IsS121.lt (show IsS121 w0 _ g t461 t462 t463 t464 t465 t466 from by repeat (first | (with_reducible first | exact HI0.out | apply IsS121.alloc | apply IsS121.drewN | apply IsS121.drew | apply IsS121.set_0 | apply IsS121.set_1 | apply IsS121.set_2 | apply IsS121.set_3 | apply IsS121.set_4 | apply IsS121.set_5 | refine IsS121.far ?_ NB0_405.out _ | refine IsS121.far ?_ NB0_445.out _) | exact HI0.out))) : gb470 ≠ g))
                                clear HO469
                                clear BK405
                                clear HI0
                                clear BK445
                                clear HK
                                clear HB
                                have HO469 := n0_
                                have BK405 := n1_
                                have HI0 := n2_
                                have BK445 := n3_
                                have HK := n4_
                                have HB := n5_
                                have BK470 := n6_
                                have GW470 := n7_
                                have GE470 := n8_
                                have NB405_470 := n9_
                                have NB470_405 := n10_
                                have NB445_470 := n11_
                                have NB470_445 := n12_
                                have NB0_470 := n13_
                                have NB470_0 := n14_
                                clear n0_ n1_ n2_ n3_ n4_ n5_ n6_ n7_ n8_ n9_ n10_ n11_ n12_ n13_ n14_
                                clear hb hbox hg
                                refine hK.out _ _ ⟨(blk_cell BK445.out 0).trans rfl, (blk_cell BK445.out 1).trans rfl, (blk_cell BK445.out 2).trans rfl, (blk_cell BK445.out 3).trans rfl, (blk_cell BK445.out 4).trans rfl⟩ (fun hHeld => ?_)
                                clear hK K
                                refine norm_ (a' := ?_) ?_ ?_
                                rotate_left
                                · show Act.put _ (some 11) _ = _
                                  simp only [Act.put, List.setIfInBounds_toArray, List.set_cons_zero, List.set_cons_succ, i64_w, i32_w]
                                  rfl
                                exact norm_ (by simp only [putAll, Act.put, List.setIfInBounds_toArray, List.set_cons_zero, List.set_cons_succ]) (hCont (.slice Ao55 t455.length co55, .slice Ao56 t458.length co56, .slice Ao59 y467.length co59, gb470) _ ⟨hHeld, (by (with_reducible repeat (first | apply Kd.N_alloc | apply Kd.N_drewN | apply Kd.N_drew)); exact Kd.N_mono HO469.out (fun _ hk => ⟨hk.1.1, ⟨hk.1.2.2.2, ⟨hk.1.2.1, ⟨hk.1.2.2.1, hk.2⟩⟩⟩⟩)), (by (with_reducible repeat (first | refine blk_drewN ?_ _ | refine blk_drew ?_ | refine blk_alloc ?_ _)); exact BK405.out), (by (with_reducible repeat (first | refine blk_drewN ?_ _ | refine blk_drew ?_ | refine blk_alloc ?_ _)); exact BK445.out), (by (with_reducible repeat (first | refine blk_drewN ?_ _ | refine blk_drew ?_ | refine blk_alloc ?_ _)); exact BK470.out), GW470.out, GE470.out, NB0_470.out, NB470_0.out, NB405_470.out, NB470_405.out, NB445_470.out, NB470_445.out, (by repeat (first | (with_reducible first | exact HI0.out | apply IsS121.alloc | apply IsS121.drewN | apply IsS121.drew | apply IsS121.set_0 | apply IsS121.set_1 | apply IsS121.set_2 | apply IsS121.set_3 | apply IsS121.set_4 | apply IsS121.set_5 | refine IsS121.far ?_ NB0_405.out _ | refine IsS121.far ?_ NB0_445.out _ | refine IsS121.far ?_ NB0_470.out _) | exact HI0.out)), (by repeat (first | (with_reducible first | exact HK.out | apply KeepBut.set_ | apply keep_drewN | apply keep_drew | apply keep_alloc | refine keep_far ?_ GW405.out _ | refine keep_far ?_ GW445.out _ | refine keep_far ?_ GW470.out _) | exact HK.out)), (by repeat (first | (with_reducible first | exact HB.out | apply below_alloc | apply pw_below_drewN | apply below_drew1 | refine below_set ?_ (IsS121.ge HI0.out) | refine below_set ?_ GE405.out | refine below_set ?_ GE445.out | refine below_set ?_ GE470.out) | exact HB.out))⟩)
                              · skip
                                refine box_step ?hg (N := 11) ?hd (cs := #[.int .i64 0, .int .i64 0, .string (⟨#[]⟩ : ByteArray), .slice none 0 0, .slice none 0 0]) (t := 27) ?hr ?_; (case hd => rfl); (case hg => rfl); (case hr => first | (go_simp; done) | (go_simp; rfl))
                                intro gb470 hg w55 hbox hb
                                have n0_ := Aside0.mk (Kd.N_below (Kd.N_elderB (by (with_reducible repeat (first | apply Kd.N_alloc | apply Kd.N_drewN | apply Kd.N_drew)); exact HO435.out) gb470 (Nat.le_of_eq hg.symm)) hb)
                                have n1_ := Aside0.mk (Kd.N_below (Kd.N_elderB (by (with_reducible repeat (first | apply Kd.N_alloc | apply Kd.N_drewN | apply Kd.N_drew)); exact HO438.out) gb470 (Nat.le_of_eq hg.symm)) hb)
                                have n2_ := Aside0.mk (Kd.N_below (Kd.N_elderB (by (with_reducible repeat (first | apply Kd.N_alloc | apply Kd.N_drewN | apply Kd.N_drew)); exact HO457.out) gb470 (Nat.le_of_eq hg.symm)) hb)
                                have n3_ := Aside0.mk (Kd.N_below (Kd.N_elderB (by (with_reducible repeat (first | apply Kd.N_alloc | apply Kd.N_drewN | apply Kd.N_drew)); exact HO460.out) gb470 (Nat.le_of_eq hg.symm)) hb)
                                have n4_ := Aside0.mk (blk_below (g := gb405) (o := .cells #[.int .i64 0, .int .i64 0, .string (⟨#[]⟩ : ByteArray), .slice none 0 0, .slice none 0 0] 27 (0, 0)) (by (with_reducible repeat (first | refine blk_drewN ?_ _ | refine blk_drew ?_ | refine blk_alloc ?_ _)); exact BK405.out) hb)
                                have n5_ := Aside0.mk (IsS121.below (by repeat (first | (with_reducible first | exact HI0.out | apply IsS121.alloc | apply IsS121.drewN | apply IsS121.drew | apply IsS121.set_0 | apply IsS121.set_1 | apply IsS121.set_2 | apply IsS121.set_3 | apply IsS121.set_4 | apply IsS121.set_5 | refine IsS121.far ?_ NB0_405.out _ | refine IsS121.far ?_ NB0_445.out _) | exact HI0.out)) hb)
                                have n6_ := Aside0.mk (blk_below (g := gb445) (o := .cells #[.int .i64 t430, .int .i64 t431, .string t432, .slice Ao50 t433.length co50, .slice Ao51 t436.length co51] 27 (0, 0)) (by (with_reducible repeat (first | refine blk_drewN ?_ _ | refine blk_drew ?_ | refine blk_alloc ?_ _)); exact BK445.out) hb)
                                have n7_ := Aside0.mk (KeepBut.trans (by repeat (first | (with_reducible first | exact HK.out | apply KeepBut.set_ | apply keep_drewN | apply keep_drew | apply keep_alloc | refine keep_far ?_ GW405.out _ | refine keep_far ?_ GW445.out _) | exact HK.out)) (KeepBut.of_below hb g none) (.inl rfl))
                                have n8_ := Aside0.mk (below_step (by repeat (first | (with_reducible first | exact HB.out | apply below_alloc | apply pw_below_drewN | apply below_drew1 | refine below_set ?_ (IsS121.ge HI0.out) | refine below_set ?_ GE405.out | refine below_set ?_ GE445.out) | exact HB.out)) hb)
                                have n9_ := Aside0.mk (hbox)
                                have n10_ := Aside0.mk ((by rw [hg]; exact (keep_size (w := w) (g := g) (row := none) (by repeat (first | (with_reducible first | exact HK.out | apply KeepBut.set_ | apply keep_drewN | apply keep_drew | apply keep_alloc | refine keep_far ?_ GW405.out _ | refine keep_far ?_ GW445.out _) | exact HK.out))) : w.heap.size ≤ gb470))
                                have n11_ := Aside0.mk ((Nat.le_trans HW0.out (by rw [hg]; exact (keep_size (w := w) (g := g) (row := none) (by repeat (first | (with_reducible first | exact HK.out | apply KeepBut.set_ | apply keep_drewN | apply keep_drew | apply keep_alloc | refine keep_far ?_ GW405.out _ | refine keep_far ?_ GW445.out _) | exact HK.out))) : w.heap.size ≤ gb470) : w0.heap.size ≤ gb470))
                                have n12_ := Aside0.mk ((by rw [hg]; exact Nat.ne_of_lt (blk_lt (g := gb405) (o := .cells #[.int .i64 0, .int .i64 0, .string (⟨#[]⟩ : ByteArray), .slice none 0 0, .slice none 0 0] 27 (0, 0)) (by (with_reducible repeat (first | refine blk_drewN ?_ _ | refine blk_drew ?_ | refine blk_alloc ?_ _)); exact BK405.out)) : gb405 ≠ gb470))
                                have n13_ := Aside0.mk ((by rw [hg]; exact Nat.ne_of_gt (blk_lt (g := gb405) (o := .cells #[.int .i64 0, .int .i64 0, .string (⟨#[]⟩ : ByteArray), .slice none 0 0, .slice none 0 0] 27 (0, 0)) (by (with_reducible repeat (first | refine blk_drewN ?_ _ | refine blk_drew ?_ | refine blk_alloc ?_ _)); exact BK405.out)) : gb470 ≠ gb405))
                                have n14_ := Aside0.mk ((by rw [hg]; exact Nat.ne_of_lt (blk_lt (g := gb445) (o := .cells #[.int .i64 t430, .int .i64 t431, .string t432, .slice Ao50 t433.length co50, .slice Ao51 t436.length co51] 27 (0, 0)) (by (with_reducible repeat (first | refine blk_drewN ?_ _ | refine blk_drew ?_ | refine blk_alloc ?_ _)); exact BK445.out)) : gb445 ≠ gb470))
                                have n15_ := Aside0.mk ((by rw [hg]; exact Nat.ne_of_gt (blk_lt (g := gb445) (o := .cells #[.int .i64 t430, .int .i64 t431, .string t432, .slice Ao50 t433.length co50, .slice Ao51 t436.length co51] 27 (0, 0)) (by (with_reducible repeat (first | refine blk_drewN ?_ _ | refine blk_drew ?_ | refine blk_alloc ?_ _)); exact BK445.out)) : gb470 ≠ gb445))
                                have n16_ := Aside0.mk ((by rw [hg]; exact Nat.ne_of_lt (IsS121.lt (show IsS121 w0 _ g t461 t462 t463 t464 t465 t466 from by repeat (first | (with_reducible first | exact HI0.out | apply IsS121.alloc | apply IsS121.drewN | apply IsS121.drew | apply IsS121.set_0 | apply IsS121.set_1 | apply IsS121.set_2 | apply IsS121.set_3 | apply IsS121.set_4 | apply IsS121.set_5 | refine IsS121.far ?_ NB0_405.out _ | refine IsS121.far ?_ NB0_445.out _) | exact HI0.out))) : g ≠ gb470))
                                have n17_ := Aside0.mk ((by rw [hg]; exact Nat.ne_of_gt (IsS121.lt (show IsS121 w0 _ g t461 t462 t463 t464 t465 t466 from by repeat (first | (with_reducible first | exact HI0.out | apply IsS121.alloc | apply IsS121.drewN | apply IsS121.drew | apply IsS121.set_0 | apply IsS121.set_1 | apply IsS121.set_2 | apply IsS121.set_3 | apply IsS121.set_4 | apply IsS121.set_5 | refine IsS121.far ?_ NB0_405.out _ | refine IsS121.far ?_ NB0_445.out _) | exact HI0.out))) : gb470 ≠ g))
                                clear HO435
                                clear HO438
                                clear HO457
                                clear HO460
                                clear BK405
                                clear HI0
                                clear BK445
                                clear HK
                                clear HB
                                have HO435 := n0_
                                have HO438 := n1_
                                have HO457 := n2_
                                have HO460 := n3_
                                have BK405 := n4_
                                have HI0 := n5_
                                have BK445 := n6_
                                have HK := n7_
                                have HB := n8_
                                have BK470 := n9_
                                have GW470 := n10_
                                have GE470 := n11_
                                have NB405_470 := n12_
                                have NB470_405 := n13_
                                have NB445_470 := n14_
                                have NB470_445 := n15_
                                have NB0_470 := n16_
                                have NB470_0 := n17_
                                clear n0_ n1_ n2_ n3_ n4_ n5_ n6_ n7_ n8_ n9_ n10_ n11_ n12_ n13_ n14_ n15_ n16_ n17_
                                clear hb hbox hg
                                obtain ⟨Ao56, co56, eo56⟩ := Kd.N_slice HO457.out
                                (first | subst eo56 | (injection eo56 with f1_ f2_ f3_; have f4_ := f1_.symm; have f5_ := f3_.symm; clear f1_ f2_ f3_; subst f4_; subst f5_))
                                obtain ⟨Ao57, co57, eo57⟩ := Kd.N_slice HO460.out
                                (first | subst eo57 | (injection eo57 with f1_ f2_ f3_; have f4_ := f1_.symm; have f5_ := f3_.symm; clear f1_ f2_ f3_; subst f4_; subst f5_))
                                refine hK.out _ _ ⟨(blk_cell BK445.out 0).trans rfl, (blk_cell BK445.out 1).trans rfl, (blk_cell BK445.out 2).trans rfl, (blk_cell BK445.out 3).trans rfl, (blk_cell BK445.out 4).trans rfl⟩ (fun hHeld => ?_)
                                clear hK K
                                refine norm_ (a' := ?_) ?_ ?_
                                rotate_left
                                · show Act.put _ (some 11) _ = _
                                  simp only [Act.put, List.setIfInBounds_toArray, List.set_cons_zero, List.set_cons_succ, i64_w, i32_w]
                                  rfl
                                refine one_ (i := 5) (N := some 164) #[true, true, true, true, true, true, false, true, false] rfl rfl (one_of HT_.out (by kernel_rfl)) (by decide) (fun K hK => ?_)
                                refine Kd.N_lit_step k27 _ 27 ?hg (N' := 164) ?hd (xs := ([(⟨t430, t431, t432, t433, t436⟩ : S27), (⟨t452, t453, t454, t455, t458⟩ : S27)] : List (S27))) (inner := [.int .i64 t430, .int .i64 t431, .string t432, .slice Ao50 t433.length co50, .slice Ao51 t436.length co51, .int .i64 t452, .int .i64 t453, .string t454, .slice Ao56 t455.length co56, .slice Ao57 t458.length co57]) (ok := (fun k_ => (w.heap.size ≤ k_) ∧ k_ ≠ gb405 ∧ k_ ≠ gb445 ∧ k_ ≠ gb470 ∧ k_ ≠ g)) (okp := (fun k_ => (w.heap.size ≤ k_) ∧ k_ ≠ gb405 ∧ k_ ≠ gb445 ∧ k_ ≠ gb470 ∧ k_ ≠ g)) ?hr ?hp (fun _ hk => hk) ((show ∀ k_, w55.heap.size ≤ k_ → (fun k_ => (w.heap.size ≤ k_) ∧ k_ ≠ gb405 ∧ k_ ≠ gb445 ∧ k_ ≠ gb470 ∧ k_ ≠ g) k_ from fun k_ hk => ⟨(Nat.le_trans (keep_size (w := w) (g := g) (row := none) (by repeat (first | (with_reducible first | exact HK.out | apply KeepBut.set_ | apply keep_drewN | apply keep_drew | apply keep_alloc | refine keep_far ?_ GW405.out _ | refine keep_far ?_ GW445.out _ | refine keep_far ?_ GW470.out _) | exact HK.out))) hk), Kd.freshB (g := gb405) (o := .cells #[.int .i64 0, .int .i64 0, .string (⟨#[]⟩ : ByteArray), .slice none 0 0, .slice none 0 0] 27 (0, 0)) (by (with_reducible repeat (first | refine blk_drewN ?_ _ | refine blk_drew ?_ | refine blk_alloc ?_ _)); exact BK405.out) k_ hk, Kd.freshB (g := gb445) (o := .cells #[.int .i64 t430, .int .i64 t431, .string t432, .slice Ao50 t433.length co50, .slice Ao51 t436.length co51] 27 (0, 0)) (by (with_reducible repeat (first | refine blk_drewN ?_ _ | refine blk_drew ?_ | refine blk_alloc ?_ _)); exact BK445.out) k_ hk, Kd.freshB (g := gb470) (o := .cells #[.int .i64 0, .int .i64 0, .string (⟨#[]⟩ : ByteArray), .slice none 0 0, .slice none 0 0] 27 (0, 0)) (by (with_reducible repeat (first | refine blk_drewN ?_ _ | refine blk_drew ?_ | refine blk_alloc ?_ _)); exact BK470.out) k_ hk, IsS121.fresh (by repeat (first | (with_reducible first | exact HI0.out | apply IsS121.alloc | apply IsS121.drewN | apply IsS121.drew | apply IsS121.set_0 | apply IsS121.set_1 | apply IsS121.set_2 | apply IsS121.set_3 | apply IsS121.set_4 | apply IsS121.set_5 | refine IsS121.far ?_ NB0_405.out _ | refine IsS121.far ?_ NB0_445.out _ | refine IsS121.far ?_ NB0_470.out _) | exact HI0.out)) k_ hk⟩) _ (Nat.le_refl _)) (Below.refl _ _) (Nat.le_refl _) (by simp) ?_; (case hd => rfl); (case hg => rfl); (case hr => first | (go_simp; done) | (go_simp; rfl)); (case hp => exact (Reps.c5 (show Kd.FK k27 _ _ (⟨t430, t431, t432, t433, t436⟩ : S27) [.int .i64 t430, .int .i64 t431, .string t432, .slice Ao50 t433.length co50, .slice Ao51 t436.length co51] from (k27_mkF _ _ (⟨t430, t431, t432, t433, t436⟩ : S27) (Kd.N_reads' (Kd.N_mono (ok' := (fun k_ => (w.heap.size ≤ k_) ∧ k_ ≠ gb405 ∧ k_ ≠ gb445 ∧ k_ ≠ gb470 ∧ k_ ≠ g)) (HO435.out) (fun k_ hk => ⟨hk.1.1.1.1.1, ⟨hk.1.1.1.1.2.2.1, ⟨hk.1.1.1.2, ⟨hk.2, hk.1.1.1.1.2.2.2⟩⟩⟩⟩))).2.1 (Kd.N_F (Kd.N_mono (ok' := (fun k_ => (w.heap.size ≤ k_) ∧ k_ ≠ gb405 ∧ k_ ≠ gb445 ∧ k_ ≠ gb470 ∧ k_ ≠ g)) (HO435.out) (fun k_ hk => ⟨hk.1.1.1.1.1, ⟨hk.1.1.1.1.2.2.1, ⟨hk.1.1.1.2, ⟨hk.2, hk.1.1.1.1.2.2.2⟩⟩⟩⟩))) (Kd.N_reads' (Kd.N_mono (ok' := (fun k_ => (w.heap.size ≤ k_) ∧ k_ ≠ gb405 ∧ k_ ≠ gb445 ∧ k_ ≠ gb470 ∧ k_ ≠ g)) (HO438.out) (fun k_ hk => ⟨hk.1.1.1.1.1, ⟨hk.1.1.1.1.2.2.1, ⟨hk.1.1.1.2, ⟨hk.2, hk.1.1.1.1.2.2.2⟩⟩⟩⟩))).2.1 (Kd.N_F (Kd.N_mono (ok' := (fun k_ => (w.heap.size ≤ k_) ∧ k_ ≠ gb405 ∧ k_ ≠ gb445 ∧ k_ ≠ gb470 ∧ k_ ≠ g)) (HO438.out) (fun k_ hk => ⟨hk.1.1.1.1.1, ⟨hk.1.1.1.1.2.2.1, ⟨hk.1.1.1.2, ⟨hk.2, hk.1.1.1.1.2.2.2⟩⟩⟩⟩))))) (Reps.c5 (show Kd.FK k27 _ _ (⟨t452, t453, t454, t455, t458⟩ : S27) [.int .i64 t452, .int .i64 t453, .string t454, .slice Ao56 t455.length co56, .slice Ao57 t458.length co57] from (k27_mkF _ _ (⟨t452, t453, t454, t455, t458⟩ : S27) (Kd.N_reads' (Kd.N_mono (ok' := (fun k_ => (w.heap.size ≤ k_) ∧ k_ ≠ gb405 ∧ k_ ≠ gb445 ∧ k_ ≠ gb470 ∧ k_ ≠ g)) (HO457.out) (fun k_ hk => ⟨hk.1.1, ⟨hk.1.2.2.2.2.1, ⟨hk.1.2.2.2.2.2.1, ⟨hk.2, hk.1.2.2.2.2.2.2⟩⟩⟩⟩))).2.1 (Kd.N_F (Kd.N_mono (ok' := (fun k_ => (w.heap.size ≤ k_) ∧ k_ ≠ gb405 ∧ k_ ≠ gb445 ∧ k_ ≠ gb470 ∧ k_ ≠ g)) (HO457.out) (fun k_ hk => ⟨hk.1.1, ⟨hk.1.2.2.2.2.1, ⟨hk.1.2.2.2.2.2.1, ⟨hk.2, hk.1.2.2.2.2.2.2⟩⟩⟩⟩))) (Kd.N_reads' (Kd.N_mono (ok' := (fun k_ => (w.heap.size ≤ k_) ∧ k_ ≠ gb405 ∧ k_ ≠ gb445 ∧ k_ ≠ gb470 ∧ k_ ≠ g)) (HO460.out) (fun k_ hk => ⟨hk.1.1, ⟨hk.1.2.2.2.2.1, ⟨hk.1.2.2.2.2.2.1, ⟨hk.2, hk.1.2.2.2.2.2.2⟩⟩⟩⟩))).2.1 (Kd.N_F (Kd.N_mono (ok' := (fun k_ => (w.heap.size ≤ k_) ∧ k_ ≠ gb405 ∧ k_ ≠ gb445 ∧ k_ ≠ gb470 ∧ k_ ≠ g)) (HO460.out) (fun k_ hk => ⟨hk.1.1, ⟨hk.1.2.2.2.2.1, ⟨hk.1.2.2.2.2.2.1, ⟨hk.2, hk.1.2.2.2.2.2.2⟩⟩⟩⟩))))) (Reps.none _ _))))
                                intro v468 w58 ho59 hb hg_ hnew_
                                clear hg_ hnew_
                                (first | rw [← Ny467.out] at ho59 | (simp only [Int.reduceToNat] at ho59; rw [← Ny467.out] at ho59))
                                have n0_ := Aside0.mk (Kd.N_lower ho59 (keep_size (w := w) (g := g) (row := none) (by repeat (first | (with_reducible first | exact HK.out | apply KeepBut.set_ | apply keep_drewN | apply keep_drew | apply keep_alloc | refine keep_far ?_ GW405.out _ | refine keep_far ?_ GW445.out _ | refine keep_far ?_ GW470.out _) | exact HK.out))))
                                have n1_ := Aside0.mk (blk_below (g := gb405) (o := .cells #[.int .i64 0, .int .i64 0, .string (⟨#[]⟩ : ByteArray), .slice none 0 0, .slice none 0 0] 27 (0, 0)) (by (with_reducible repeat (first | refine blk_drewN ?_ _ | refine blk_drew ?_ | refine blk_alloc ?_ _)); exact BK405.out) hb)
                                have n2_ := Aside0.mk (IsS121.below (by repeat (first | (with_reducible first | exact HI0.out | apply IsS121.alloc | apply IsS121.drewN | apply IsS121.drew | apply IsS121.set_0 | apply IsS121.set_1 | apply IsS121.set_2 | apply IsS121.set_3 | apply IsS121.set_4 | apply IsS121.set_5 | refine IsS121.far ?_ NB0_405.out _ | refine IsS121.far ?_ NB0_445.out _ | refine IsS121.far ?_ NB0_470.out _) | exact HI0.out)) hb)
                                have n3_ := Aside0.mk (blk_below (g := gb445) (o := .cells #[.int .i64 t430, .int .i64 t431, .string t432, .slice Ao50 t433.length co50, .slice Ao51 t436.length co51] 27 (0, 0)) (by (with_reducible repeat (first | refine blk_drewN ?_ _ | refine blk_drew ?_ | refine blk_alloc ?_ _)); exact BK445.out) hb)
                                have n4_ := Aside0.mk (blk_below (g := gb470) (o := .cells #[.int .i64 0, .int .i64 0, .string (⟨#[]⟩ : ByteArray), .slice none 0 0, .slice none 0 0] 27 (0, 0)) (by (with_reducible repeat (first | refine blk_drewN ?_ _ | refine blk_drew ?_ | refine blk_alloc ?_ _)); exact BK470.out) hb)
                                have n5_ := Aside0.mk (KeepBut.trans (by repeat (first | (with_reducible first | exact HK.out | apply KeepBut.set_ | apply keep_drewN | apply keep_drew | apply keep_alloc | refine keep_far ?_ GW405.out _ | refine keep_far ?_ GW445.out _ | refine keep_far ?_ GW470.out _) | exact HK.out)) (KeepBut.of_below hb g none) (.inl rfl))
                                have n6_ := Aside0.mk (below_step (by repeat (first | (with_reducible first | exact HB.out | apply below_alloc | apply pw_below_drewN | apply below_drew1 | refine below_set ?_ (IsS121.ge HI0.out) | refine below_set ?_ GE405.out | refine below_set ?_ GE445.out | refine below_set ?_ GE470.out) | exact HB.out)) hb)
                                clear BK405
                                clear HI0
                                clear BK445
                                clear BK470
                                clear HK
                                clear HB
                                clear HO435
                                clear HO438
                                clear HO457
                                clear HO460
                                have HO469 := n0_
                                have BK405 := n1_
                                have HI0 := n2_
                                have BK445 := n3_
                                have BK470 := n4_
                                have HK := n5_
                                have HB := n6_
                                clear n0_ n1_ n2_ n3_ n4_ n5_ n6_
                                clear hb ho59
                                obtain ⟨Ao60, co60, eo60⟩ := Kd.N_slice HO469.out
                                (first | subst eo60 | (injection eo60 with f1_ f2_ f3_; have f4_ := f1_.symm; have f5_ := f3_.symm; clear f1_ f2_ f3_; subst f4_; subst f5_))
                                refine hK.out _ _ ⟨(blk_cell BK445.out 0).trans rfl, (blk_cell BK445.out 1).trans rfl, (blk_cell BK445.out 2).trans rfl, (blk_cell BK445.out 3).trans rfl, (blk_cell BK445.out 4).trans rfl⟩ (fun hHeld => ?_)
                                clear hK K
                                refine norm_ (a' := ?_) ?_ ?_
                                rotate_left
                                · show Act.put _ (some 164) _ = _
                                  simp only [Act.put, List.setIfInBounds_toArray, List.set_cons_zero, List.set_cons_succ, i64_w, i32_w]
                                  rfl
                                refine pure_ (i := 6) (N := some 165) (v := ?_) (a' := ?_) #[true, true, true, true, true, true, true, true, false] rfl rfl (any_of HT_.out (by kernel_rfl)) (fun _ _ _ h => h) (Or.inl ⟨by rfl, ?_⟩) ?_ ?_
                                rotate_left
                                · intro w'
                                  go_simp
                                  with_reducible rfl
                                rotate_left
                                · simp only [Act.put, List.setIfInBounds_toArray, List.set_cons_zero, List.set_cons_succ, i64_w, i32_w]
                                  rfl
                                exact norm_ (by simp only [putAll, Act.put, List.setIfInBounds_toArray, List.set_cons_zero, List.set_cons_succ]) (hCont (.slice Ao56 t455.length co56, .slice Ao57 t458.length co57, .slice Ao60 y467.length co60, gb470) _ ⟨hHeld, (by (with_reducible repeat (first | apply Kd.N_alloc | apply Kd.N_drewN | apply Kd.N_drew)); exact Kd.N_mono HO469.out (fun _ hk => ⟨hk.1, ⟨hk.2.2.2.2, ⟨hk.2.1, ⟨hk.2.2.1, hk.2.2.2.1⟩⟩⟩⟩)), (by (with_reducible repeat (first | refine blk_drewN ?_ _ | refine blk_drew ?_ | refine blk_alloc ?_ _)); exact BK405.out), (by (with_reducible repeat (first | refine blk_drewN ?_ _ | refine blk_drew ?_ | refine blk_alloc ?_ _)); exact BK445.out), (by (with_reducible repeat (first | refine blk_drewN ?_ _ | refine blk_drew ?_ | refine blk_alloc ?_ _)); exact BK470.out), GW470.out, GE470.out, NB0_470.out, NB470_0.out, NB405_470.out, NB470_405.out, NB445_470.out, NB470_445.out, (by repeat (first | (with_reducible first | exact HI0.out | apply IsS121.alloc | apply IsS121.drewN | apply IsS121.drew | apply IsS121.set_0 | apply IsS121.set_1 | apply IsS121.set_2 | apply IsS121.set_3 | apply IsS121.set_4 | apply IsS121.set_5 | refine IsS121.far ?_ NB0_405.out _ | refine IsS121.far ?_ NB0_445.out _ | refine IsS121.far ?_ NB0_470.out _) | exact HI0.out)), (by repeat (first | (with_reducible first | exact HK.out | apply KeepBut.set_ | apply keep_drewN | apply keep_drew | apply keep_alloc | refine keep_far ?_ GW405.out _ | refine keep_far ?_ GW445.out _ | refine keep_far ?_ GW470.out _) | exact HK.out)), (by repeat (first | (with_reducible first | exact HB.out | apply below_alloc | apply pw_below_drewN | apply below_drew1 | refine below_set ?_ (IsS121.ge HI0.out) | refine below_set ?_ GE405.out | refine below_set ?_ GE445.out | refine below_set ?_ GE470.out) | exact HB.out))⟩)
                            · skip
                              refine box_step ?hg (N := 11) ?hd (cs := #[.int .i64 0, .int .i64 0, .string (⟨#[]⟩ : ByteArray), .slice none 0 0, .slice none 0 0]) (t := 27) ?hr ?_; (case hd => rfl); (case hg => rfl); (case hr => first | (go_simp; done) | (go_simp; rfl))
                              intro gb470 hg w54 hbox hb
                              have n0_ := Aside0.mk (Kd.N_below (Kd.N_elderB (by (with_reducible repeat (first | apply Kd.N_alloc | apply Kd.N_drewN | apply Kd.N_drew)); exact HO435.out) gb470 (Nat.le_of_eq hg.symm)) hb)
                              have n1_ := Aside0.mk (Kd.N_below (Kd.N_elderB (by (with_reducible repeat (first | apply Kd.N_alloc | apply Kd.N_drewN | apply Kd.N_drew)); exact HO438.out) gb470 (Nat.le_of_eq hg.symm)) hb)
                              have n2_ := Aside0.mk (blk_below (g := gb405) (o := .cells #[.int .i64 0, .int .i64 0, .string (⟨#[]⟩ : ByteArray), .slice none 0 0, .slice none 0 0] 27 (0, 0)) (by (with_reducible repeat (first | refine blk_drewN ?_ _ | refine blk_drew ?_ | refine blk_alloc ?_ _)); exact BK405.out) hb)
                              have n3_ := Aside0.mk (IsS121.below (by repeat (first | (with_reducible first | exact HI0.out | apply IsS121.alloc | apply IsS121.drewN | apply IsS121.drew | apply IsS121.set_0 | apply IsS121.set_1 | apply IsS121.set_2 | apply IsS121.set_3 | apply IsS121.set_4 | apply IsS121.set_5 | refine IsS121.far ?_ NB0_405.out _ | refine IsS121.far ?_ NB0_445.out _) | exact HI0.out)) hb)
                              have n4_ := Aside0.mk (blk_below (g := gb445) (o := .cells #[.int .i64 t430, .int .i64 t431, .string t432, .slice Ao50 t433.length co50, .slice Ao51 t436.length co51] 27 (0, 0)) (by (with_reducible repeat (first | refine blk_drewN ?_ _ | refine blk_drew ?_ | refine blk_alloc ?_ _)); exact BK445.out) hb)
                              have n5_ := Aside0.mk (KeepBut.trans (by repeat (first | (with_reducible first | exact HK.out | apply KeepBut.set_ | apply keep_drewN | apply keep_drew | apply keep_alloc | refine keep_far ?_ GW405.out _ | refine keep_far ?_ GW445.out _) | exact HK.out)) (KeepBut.of_below hb g none) (.inl rfl))
                              have n6_ := Aside0.mk (below_step (by repeat (first | (with_reducible first | exact HB.out | apply below_alloc | apply pw_below_drewN | apply below_drew1 | refine below_set ?_ (IsS121.ge HI0.out) | refine below_set ?_ GE405.out | refine below_set ?_ GE445.out) | exact HB.out)) hb)
                              have n7_ := Aside0.mk (hbox)
                              have n8_ := Aside0.mk ((by rw [hg]; exact (keep_size (w := w) (g := g) (row := none) (by repeat (first | (with_reducible first | exact HK.out | apply KeepBut.set_ | apply keep_drewN | apply keep_drew | apply keep_alloc | refine keep_far ?_ GW405.out _ | refine keep_far ?_ GW445.out _) | exact HK.out))) : w.heap.size ≤ gb470))
                              have n9_ := Aside0.mk ((Nat.le_trans HW0.out (by rw [hg]; exact (keep_size (w := w) (g := g) (row := none) (by repeat (first | (with_reducible first | exact HK.out | apply KeepBut.set_ | apply keep_drewN | apply keep_drew | apply keep_alloc | refine keep_far ?_ GW405.out _ | refine keep_far ?_ GW445.out _) | exact HK.out))) : w.heap.size ≤ gb470) : w0.heap.size ≤ gb470))
                              have n10_ := Aside0.mk ((by rw [hg]; exact Nat.ne_of_lt (blk_lt (g := gb405) (o := .cells #[.int .i64 0, .int .i64 0, .string (⟨#[]⟩ : ByteArray), .slice none 0 0, .slice none 0 0] 27 (0, 0)) (by (with_reducible repeat (first | refine blk_drewN ?_ _ | refine blk_drew ?_ | refine blk_alloc ?_ _)); exact BK405.out)) : gb405 ≠ gb470))
                              have n11_ := Aside0.mk ((by rw [hg]; exact Nat.ne_of_gt (blk_lt (g := gb405) (o := .cells #[.int .i64 0, .int .i64 0, .string (⟨#[]⟩ : ByteArray), .slice none 0 0, .slice none 0 0] 27 (0, 0)) (by (with_reducible repeat (first | refine blk_drewN ?_ _ | refine blk_drew ?_ | refine blk_alloc ?_ _)); exact BK405.out)) : gb470 ≠ gb405))
                              have n12_ := Aside0.mk ((by rw [hg]; exact Nat.ne_of_lt (blk_lt (g := gb445) (o := .cells #[.int .i64 t430, .int .i64 t431, .string t432, .slice Ao50 t433.length co50, .slice Ao51 t436.length co51] 27 (0, 0)) (by (with_reducible repeat (first | refine blk_drewN ?_ _ | refine blk_drew ?_ | refine blk_alloc ?_ _)); exact BK445.out)) : gb445 ≠ gb470))
                              have n13_ := Aside0.mk ((by rw [hg]; exact Nat.ne_of_gt (blk_lt (g := gb445) (o := .cells #[.int .i64 t430, .int .i64 t431, .string t432, .slice Ao50 t433.length co50, .slice Ao51 t436.length co51] 27 (0, 0)) (by (with_reducible repeat (first | refine blk_drewN ?_ _ | refine blk_drew ?_ | refine blk_alloc ?_ _)); exact BK445.out)) : gb470 ≠ gb445))
                              have n14_ := Aside0.mk ((by rw [hg]; exact Nat.ne_of_lt (IsS121.lt (show IsS121 w0 _ g t446 t447 t448 t449 t450 t451 from by repeat (first | (with_reducible first | exact HI0.out | apply IsS121.alloc | apply IsS121.drewN | apply IsS121.drew | apply IsS121.set_0 | apply IsS121.set_1 | apply IsS121.set_2 | apply IsS121.set_3 | apply IsS121.set_4 | apply IsS121.set_5 | refine IsS121.far ?_ NB0_405.out _ | refine IsS121.far ?_ NB0_445.out _) | exact HI0.out))) : g ≠ gb470))
                              have n15_ := Aside0.mk ((by rw [hg]; exact Nat.ne_of_gt (IsS121.lt (show IsS121 w0 _ g t446 t447 t448 t449 t450 t451 from by repeat (first | (with_reducible first | exact HI0.out | apply IsS121.alloc | apply IsS121.drewN | apply IsS121.drew | apply IsS121.set_0 | apply IsS121.set_1 | apply IsS121.set_2 | apply IsS121.set_3 | apply IsS121.set_4 | apply IsS121.set_5 | refine IsS121.far ?_ NB0_405.out _ | refine IsS121.far ?_ NB0_445.out _) | exact HI0.out))) : gb470 ≠ g))
                              clear HO435
                              clear HO438
                              clear BK405
                              clear HI0
                              clear BK445
                              clear HK
                              clear HB
                              have HO435 := n0_
                              have HO438 := n1_
                              have BK405 := n2_
                              have HI0 := n3_
                              have BK445 := n4_
                              have HK := n5_
                              have HB := n6_
                              have BK470 := n7_
                              have GW470 := n8_
                              have GE470 := n9_
                              have NB405_470 := n10_
                              have NB470_405 := n11_
                              have NB445_470 := n12_
                              have NB470_445 := n13_
                              have NB0_470 := n14_
                              have NB470_0 := n15_
                              clear n0_ n1_ n2_ n3_ n4_ n5_ n6_ n7_ n8_ n9_ n10_ n11_ n12_ n13_ n14_ n15_
                              clear hb hbox hg
                              refine hK.out _ _ ⟨(blk_cell BK445.out 0).trans rfl, (blk_cell BK445.out 1).trans rfl, (blk_cell BK445.out 2).trans rfl, (blk_cell BK445.out 3).trans rfl, (blk_cell BK445.out 4).trans rfl⟩ (fun hHeld => ?_)
                              clear hK K
                              refine norm_ (a' := ?_) ?_ ?_
                              rotate_left
                              · show Act.put _ (some 11) _ = _
                                simp only [Act.put, List.setIfInBounds_toArray, List.set_cons_zero, List.set_cons_succ, i64_w, i32_w]
                                rfl
                              refine one_ (i := 4) (N := some 163) #[true, true, true, true, true, false, false, true, false] rfl rfl (one_of HT_.out (by kernel_rfl)) (by decide) (fun K hK => ?_)
                              refine goes_ Try.func130 (by kernel_rfl) rfl #[.pointer (some ⟨g, 0, none⟩), .int .i64 (wrap64 (a1 + 1))] (by rfl) rfl rfl (by (try simp only [List.map_toArray, List.map_cons, List.map_nil]); first | done | rfl | (simp only [List.length_drop, List.length_take]; rfl)) ?_
                              with_reducible refine (ih kj3 (by have := HJ3.out; omega) g t446 t447 t448 t449 t450 t451 (wrap64 (a1 + 1)) t452 t453 t454 t455 t458 t461 t462 t463 t464 t465 t466 w0 _ ?side1 ?side2 A42.out).mono ?_
                              (case side1 => repeat (first | (with_reducible first | exact HI0.out | apply IsS121.alloc | apply IsS121.drewN | apply IsS121.drew | apply IsS121.set_0 | apply IsS121.set_1 | apply IsS121.set_2 | apply IsS121.set_3 | apply IsS121.set_4 | apply IsS121.set_5 | refine IsS121.far ?_ NB0_405.out _ | refine IsS121.far ?_ NB0_445.out _ | refine IsS121.far ?_ NB0_470.out _) | exact HI0.out))
                              (case side2 => repeat (first | (with_reducible first | exact HB.out | apply below_alloc | apply pw_below_drewN | apply below_drew1 | refine below_set ?_ (IsS121.ge HI0.out) | refine below_set ?_ GE405.out | refine below_set ?_ GE445.out | refine below_set ?_ GE470.out) | exact HB.out))
                              rintro e w55 ⟨v456, v459, rfl, ho0, ho1, hi, hb, hk⟩
                              refine ⟨_, rfl, ?_⟩
                              have n0_ := Aside0.mk (KeepBut.blk hk (g' := gb405) (o := .cells #[.int .i64 0, .int .i64 0, .string (⟨#[]⟩ : ByteArray), .slice none 0 0, .slice none 0 0] 27 (0, 0)) (by (with_reducible repeat (first | refine blk_drewN ?_ _ | refine blk_drew ?_ | refine blk_alloc ?_ _)); exact BK405.out) NB405_0.out (by simp))
                              have n1_ := Aside0.mk (Kd.N_mono (Kd.N_told (Kd.N_told (Kd.N_oldK (Kd.N_mono (ok := fun k_ => (((((w.heap.size ≤ k_)) ∧ (some k_ ≠ (.slice Ao51 t436.length co51 : Value).ownBlock ∧ (k_ ≠ gb405 ∧ k_ ≠ g))) ∧ k_ ≠ gb445) ∧ k_ ≠ gb470)) (by (with_reducible repeat (first | apply Kd.N_alloc | apply Kd.N_drewN | apply Kd.N_drew)); exact HO435.out) (fun k_ hk_ => (⟨hk_, hk_.1.1.2.2.2⟩ : _ ∧ k_ ≠ g))) hk) (by first | exact Kd.N_base ho0 | exact Kd.R_base ho0)) (by first | exact Kd.N_base ho1 | exact Kd.R_base ho1)) (fun _ h_ => h_.1))
                              have n2_ := Aside0.mk (Kd.N_mono (Kd.N_told (Kd.N_told (Kd.N_oldK (Kd.N_mono (ok := fun k_ => (((((w.heap.size ≤ k_)) ∧ (some k_ ≠ (.slice Ao50 t433.length co50 : Value).ownBlock ∧ (k_ ≠ gb405 ∧ k_ ≠ g))) ∧ k_ ≠ gb445) ∧ k_ ≠ gb470)) (by (with_reducible repeat (first | apply Kd.N_alloc | apply Kd.N_drewN | apply Kd.N_drew)); exact HO438.out) (fun k_ hk_ => (⟨hk_, hk_.1.1.2.2.2⟩ : _ ∧ k_ ≠ g))) hk) (by first | exact Kd.N_base ho0 | exact Kd.R_base ho0)) (by first | exact Kd.N_base ho1 | exact Kd.R_base ho1)) (fun _ h_ => h_.1))
                              have n3_ := Aside0.mk (KeepBut.blk hk (g' := gb445) (o := .cells #[.int .i64 t430, .int .i64 t431, .string t432, .slice Ao50 t433.length co50, .slice Ao51 t436.length co51] 27 (0, 0)) (by (with_reducible repeat (first | refine blk_drewN ?_ _ | refine blk_drew ?_ | refine blk_alloc ?_ _)); exact BK445.out) NB445_0.out (by simp))
                              have n4_ := Aside0.mk (KeepBut.blk hk (g' := gb470) (o := .cells #[.int .i64 0, .int .i64 0, .string (⟨#[]⟩ : ByteArray), .slice none 0 0, .slice none 0 0] 27 (0, 0)) (by (with_reducible repeat (first | refine blk_drewN ?_ _ | refine blk_drew ?_ | refine blk_alloc ?_ _)); exact BK470.out) NB470_0.out (by simp))
                              have n5_ := Aside0.mk (Kd.N_lower (Kd.N_mono (ok' := fun k_ => (w.heap.size ≤ k_) ∧ some k_ ≠ (v459 : Value).ownBlock ∧ some k_ ≠ (.slice Ao50 t433.length co50 : Value).ownBlock ∧ some k_ ≠ (.slice Ao51 t436.length co51 : Value).ownBlock ∧ k_ ≠ gb405 ∧ k_ ≠ gb445 ∧ k_ ≠ gb470 ∧ k_ ≠ g) ho0 (fun k_ hk_ => ⟨(Nat.le_trans (keep_size (w := w) (g := g) (row := none) (by repeat (first | (with_reducible first | exact HK.out | apply KeepBut.set_ | apply keep_drewN | apply keep_drew | apply keep_alloc | refine keep_far ?_ GW405.out _ | refine keep_far ?_ GW445.out _ | refine keep_far ?_ GW470.out _) | exact HK.out))) hk_.1), hk_.2, (Kd.fresh' (Kd.N_lt (by (with_reducible repeat (first | apply Kd.N_alloc | apply Kd.N_drewN | apply Kd.N_drew)); exact HO435.out)) k_ hk_.1), (Kd.fresh' (Kd.N_lt (by (with_reducible repeat (first | apply Kd.N_alloc | apply Kd.N_drewN | apply Kd.N_drew)); exact HO438.out)) k_ hk_.1), (Kd.freshB (g := gb405) (o := .cells #[.int .i64 0, .int .i64 0, .string (⟨#[]⟩ : ByteArray), .slice none 0 0, .slice none 0 0] 27 (0, 0)) (by (with_reducible repeat (first | refine blk_drewN ?_ _ | refine blk_drew ?_ | refine blk_alloc ?_ _)); exact BK405.out) k_ hk_.1), (Kd.freshB (g := gb445) (o := .cells #[.int .i64 t430, .int .i64 t431, .string t432, .slice Ao50 t433.length co50, .slice Ao51 t436.length co51] 27 (0, 0)) (by (with_reducible repeat (first | refine blk_drewN ?_ _ | refine blk_drew ?_ | refine blk_alloc ?_ _)); exact BK445.out) k_ hk_.1), (Kd.freshB (g := gb470) (o := .cells #[.int .i64 0, .int .i64 0, .string (⟨#[]⟩ : ByteArray), .slice none 0 0, .slice none 0 0] 27 (0, 0)) (by (with_reducible repeat (first | refine blk_drewN ?_ _ | refine blk_drew ?_ | refine blk_alloc ?_ _)); exact BK470.out) k_ hk_.1), (IsS121.fresh (by repeat (first | (with_reducible first | exact HI0.out | apply IsS121.alloc | apply IsS121.drewN | apply IsS121.drew | apply IsS121.set_0 | apply IsS121.set_1 | apply IsS121.set_2 | apply IsS121.set_3 | apply IsS121.set_4 | apply IsS121.set_5 | refine IsS121.far ?_ NB0_405.out _ | refine IsS121.far ?_ NB0_445.out _ | refine IsS121.far ?_ NB0_470.out _) | exact HI0.out)) k_ hk_.1)⟩)) (keep_size (w := w) (g := g) (row := none) (by repeat (first | (with_reducible first | exact HK.out | apply KeepBut.set_ | apply keep_drewN | apply keep_drew | apply keep_alloc | refine keep_far ?_ GW405.out _ | refine keep_far ?_ GW445.out _ | refine keep_far ?_ GW470.out _) | exact HK.out))))
                              have n6_ := Aside0.mk (Kd.N_lower (Kd.N_mono (ok' := fun k_ => (w.heap.size ≤ k_) ∧ some k_ ≠ (v456 : Value).ownBlock ∧ some k_ ≠ (.slice Ao50 t433.length co50 : Value).ownBlock ∧ some k_ ≠ (.slice Ao51 t436.length co51 : Value).ownBlock ∧ k_ ≠ gb405 ∧ k_ ≠ gb445 ∧ k_ ≠ gb470 ∧ k_ ≠ g) ho1 (fun k_ hk_ => ⟨(Nat.le_trans (keep_size (w := w) (g := g) (row := none) (by repeat (first | (with_reducible first | exact HK.out | apply KeepBut.set_ | apply keep_drewN | apply keep_drew | apply keep_alloc | refine keep_far ?_ GW405.out _ | refine keep_far ?_ GW445.out _ | refine keep_far ?_ GW470.out _) | exact HK.out))) hk_.1), hk_.2, (Kd.fresh' (Kd.N_lt (by (with_reducible repeat (first | apply Kd.N_alloc | apply Kd.N_drewN | apply Kd.N_drew)); exact HO435.out)) k_ hk_.1), (Kd.fresh' (Kd.N_lt (by (with_reducible repeat (first | apply Kd.N_alloc | apply Kd.N_drewN | apply Kd.N_drew)); exact HO438.out)) k_ hk_.1), (Kd.freshB (g := gb405) (o := .cells #[.int .i64 0, .int .i64 0, .string (⟨#[]⟩ : ByteArray), .slice none 0 0, .slice none 0 0] 27 (0, 0)) (by (with_reducible repeat (first | refine blk_drewN ?_ _ | refine blk_drew ?_ | refine blk_alloc ?_ _)); exact BK405.out) k_ hk_.1), (Kd.freshB (g := gb445) (o := .cells #[.int .i64 t430, .int .i64 t431, .string t432, .slice Ao50 t433.length co50, .slice Ao51 t436.length co51] 27 (0, 0)) (by (with_reducible repeat (first | refine blk_drewN ?_ _ | refine blk_drew ?_ | refine blk_alloc ?_ _)); exact BK445.out) k_ hk_.1), (Kd.freshB (g := gb470) (o := .cells #[.int .i64 0, .int .i64 0, .string (⟨#[]⟩ : ByteArray), .slice none 0 0, .slice none 0 0] 27 (0, 0)) (by (with_reducible repeat (first | refine blk_drewN ?_ _ | refine blk_drew ?_ | refine blk_alloc ?_ _)); exact BK470.out) k_ hk_.1), (IsS121.fresh (by repeat (first | (with_reducible first | exact HI0.out | apply IsS121.alloc | apply IsS121.drewN | apply IsS121.drew | apply IsS121.set_0 | apply IsS121.set_1 | apply IsS121.set_2 | apply IsS121.set_3 | apply IsS121.set_4 | apply IsS121.set_5 | refine IsS121.far ?_ NB0_405.out _ | refine IsS121.far ?_ NB0_445.out _ | refine IsS121.far ?_ NB0_470.out _) | exact HI0.out)) k_ hk_.1)⟩)) (keep_size (w := w) (g := g) (row := none) (by repeat (first | (with_reducible first | exact HK.out | apply KeepBut.set_ | apply keep_drewN | apply keep_drew | apply keep_alloc | refine keep_far ?_ GW405.out _ | refine keep_far ?_ GW445.out _ | refine keep_far ?_ GW470.out _) | exact HK.out))))
                              have n7_ := Aside0.mk (KeepBut.trans (by repeat (first | (with_reducible first | exact HK.out | apply KeepBut.set_ | apply keep_drewN | apply keep_drew | apply keep_alloc | refine keep_far ?_ GW405.out _ | refine keep_far ?_ GW445.out _ | refine keep_far ?_ GW470.out _) | exact HK.out)) hk (.inl rfl))
                              have n8_ := Aside0.mk (hb)
                              have n9_ := Aside0.mk (hi)
                              clear BK405
                              clear HO435
                              clear HO438
                              clear BK445
                              clear BK470
                              clear HK
                              clear HB
                              clear HI0
                              have BK405 := n0_
                              have HO435 := n1_
                              have HO438 := n2_
                              have BK445 := n3_
                              have BK470 := n4_
                              have HO457 := n5_
                              have HO460 := n6_
                              have HK := n7_
                              have HB := n8_
                              have HI0 := n9_
                              clear n0_ n1_ n2_ n3_ n4_ n5_ n6_ n7_ n8_ n9_
                              (try clear hb)
                              (try clear hb2)
                              (try clear hk)
                              (try clear hi)
                              (try clear ho0)
                              (try clear ho1)
                              obtain ⟨Ao56, co56, eo56⟩ := Kd.N_slice HO457.out
                              (first | subst eo56 | (injection eo56 with f1_ f2_ f3_; have f4_ := f1_.symm; have f5_ := f3_.symm; clear f1_ f2_ f3_; subst f4_; subst f5_))
                              obtain ⟨Ao57, co57, eo57⟩ := Kd.N_slice HO460.out
                              (first | subst eo57 | (injection eo57 with f1_ f2_ f3_; have f4_ := f1_.symm; have f5_ := f3_.symm; clear f1_ f2_ f3_; subst f4_; subst f5_))
                              refine hK.out _ _ ⟨(blk_cell BK445.out 0).trans rfl, (blk_cell BK445.out 1).trans rfl, (blk_cell BK445.out 2).trans rfl, (blk_cell BK445.out 3).trans rfl, (blk_cell BK445.out 4).trans rfl⟩ (fun hHeld => ?_)
                              clear hK K
                              refine norm_ (a' := ?_) ?_ ?_
                              rotate_left
                              · show Act.put _ (some 163) _ = _
                                simp only [Act.put, List.setIfInBounds_toArray, List.set_cons_zero, List.set_cons_succ, i64_w, i32_w]
                                rfl
                              refine one_ (i := 5) (N := some 164) #[true, true, true, true, true, true, false, true, false] rfl rfl (one_of HT_.out (by kernel_rfl)) (by decide) (fun K hK => ?_)
                              refine Kd.N_lit_step k27 _ 27 ?hg (N' := 164) ?hd (xs := ([(⟨t430, t431, t432, t433, t436⟩ : S27), (⟨t452, t453, t454, t455, t458⟩ : S27)] : List (S27))) (inner := [.int .i64 t430, .int .i64 t431, .string t432, .slice Ao50 t433.length co50, .slice Ao51 t436.length co51, .int .i64 t452, .int .i64 t453, .string t454, .slice Ao56 t455.length co56, .slice Ao57 t458.length co57]) (ok := (fun k_ => (w.heap.size ≤ k_) ∧ k_ ≠ gb405 ∧ k_ ≠ gb445 ∧ k_ ≠ gb470 ∧ k_ ≠ g)) (okp := (fun k_ => (w.heap.size ≤ k_) ∧ k_ ≠ gb405 ∧ k_ ≠ gb445 ∧ k_ ≠ gb470 ∧ k_ ≠ g)) ?hr ?hp (fun _ hk => hk) ((show ∀ k_, w55.heap.size ≤ k_ → (fun k_ => (w.heap.size ≤ k_) ∧ k_ ≠ gb405 ∧ k_ ≠ gb445 ∧ k_ ≠ gb470 ∧ k_ ≠ g) k_ from fun k_ hk => ⟨(Nat.le_trans (keep_size (w := w) (g := g) (row := none) (by repeat (first | (with_reducible first | exact HK.out | apply KeepBut.set_ | apply keep_drewN | apply keep_drew | apply keep_alloc | refine keep_far ?_ GW405.out _ | refine keep_far ?_ GW445.out _ | refine keep_far ?_ GW470.out _) | exact HK.out))) hk), Kd.freshB (g := gb405) (o := .cells #[.int .i64 0, .int .i64 0, .string (⟨#[]⟩ : ByteArray), .slice none 0 0, .slice none 0 0] 27 (0, 0)) (by (with_reducible repeat (first | refine blk_drewN ?_ _ | refine blk_drew ?_ | refine blk_alloc ?_ _)); exact BK405.out) k_ hk, Kd.freshB (g := gb445) (o := .cells #[.int .i64 t430, .int .i64 t431, .string t432, .slice Ao50 t433.length co50, .slice Ao51 t436.length co51] 27 (0, 0)) (by (with_reducible repeat (first | refine blk_drewN ?_ _ | refine blk_drew ?_ | refine blk_alloc ?_ _)); exact BK445.out) k_ hk, Kd.freshB (g := gb470) (o := .cells #[.int .i64 0, .int .i64 0, .string (⟨#[]⟩ : ByteArray), .slice none 0 0, .slice none 0 0] 27 (0, 0)) (by (with_reducible repeat (first | refine blk_drewN ?_ _ | refine blk_drew ?_ | refine blk_alloc ?_ _)); exact BK470.out) k_ hk, IsS121.fresh (by repeat (first | (with_reducible first | exact HI0.out | apply IsS121.alloc | apply IsS121.drewN | apply IsS121.drew | apply IsS121.set_0 | apply IsS121.set_1 | apply IsS121.set_2 | apply IsS121.set_3 | apply IsS121.set_4 | apply IsS121.set_5 | refine IsS121.far ?_ NB0_405.out _ | refine IsS121.far ?_ NB0_445.out _ | refine IsS121.far ?_ NB0_470.out _) | exact HI0.out)) k_ hk⟩) _ (Nat.le_refl _)) (Below.refl _ _) (Nat.le_refl _) (by simp) ?_; (case hd => rfl); (case hg => rfl); (case hr => first | (go_simp; done) | (go_simp; rfl)); (case hp => exact (Reps.c5 (show Kd.FK k27 _ _ (⟨t430, t431, t432, t433, t436⟩ : S27) [.int .i64 t430, .int .i64 t431, .string t432, .slice Ao50 t433.length co50, .slice Ao51 t436.length co51] from (k27_mkF _ _ (⟨t430, t431, t432, t433, t436⟩ : S27) (Kd.N_reads' (Kd.N_mono (ok' := (fun k_ => (w.heap.size ≤ k_) ∧ k_ ≠ gb405 ∧ k_ ≠ gb445 ∧ k_ ≠ gb470 ∧ k_ ≠ g)) (HO435.out) (fun k_ hk => ⟨hk.1.1.1.1.1, ⟨hk.1.1.1.1.2.2.1, ⟨hk.1.1.1.2, ⟨hk.1.1.2, hk.1.1.1.1.2.2.2⟩⟩⟩⟩))).2.1 (Kd.N_F (Kd.N_mono (ok' := (fun k_ => (w.heap.size ≤ k_) ∧ k_ ≠ gb405 ∧ k_ ≠ gb445 ∧ k_ ≠ gb470 ∧ k_ ≠ g)) (HO435.out) (fun k_ hk => ⟨hk.1.1.1.1.1, ⟨hk.1.1.1.1.2.2.1, ⟨hk.1.1.1.2, ⟨hk.1.1.2, hk.1.1.1.1.2.2.2⟩⟩⟩⟩))) (Kd.N_reads' (Kd.N_mono (ok' := (fun k_ => (w.heap.size ≤ k_) ∧ k_ ≠ gb405 ∧ k_ ≠ gb445 ∧ k_ ≠ gb470 ∧ k_ ≠ g)) (HO438.out) (fun k_ hk => ⟨hk.1.1.1.1.1, ⟨hk.1.1.1.1.2.2.1, ⟨hk.1.1.1.2, ⟨hk.1.1.2, hk.1.1.1.1.2.2.2⟩⟩⟩⟩))).2.1 (Kd.N_F (Kd.N_mono (ok' := (fun k_ => (w.heap.size ≤ k_) ∧ k_ ≠ gb405 ∧ k_ ≠ gb445 ∧ k_ ≠ gb470 ∧ k_ ≠ g)) (HO438.out) (fun k_ hk => ⟨hk.1.1.1.1.1, ⟨hk.1.1.1.1.2.2.1, ⟨hk.1.1.1.2, ⟨hk.1.1.2, hk.1.1.1.1.2.2.2⟩⟩⟩⟩))))) (Reps.c5 (show Kd.FK k27 _ _ (⟨t452, t453, t454, t455, t458⟩ : S27) [.int .i64 t452, .int .i64 t453, .string t454, .slice Ao56 t455.length co56, .slice Ao57 t458.length co57] from (k27_mkF _ _ (⟨t452, t453, t454, t455, t458⟩ : S27) (Kd.N_reads' (Kd.N_mono (ok' := (fun k_ => (w.heap.size ≤ k_) ∧ k_ ≠ gb405 ∧ k_ ≠ gb445 ∧ k_ ≠ gb470 ∧ k_ ≠ g)) (HO457.out) (fun k_ hk => ⟨hk.1, ⟨hk.2.2.2.2.1, ⟨hk.2.2.2.2.2.1, ⟨hk.2.2.2.2.2.2.1, hk.2.2.2.2.2.2.2⟩⟩⟩⟩))).2.1 (Kd.N_F (Kd.N_mono (ok' := (fun k_ => (w.heap.size ≤ k_) ∧ k_ ≠ gb405 ∧ k_ ≠ gb445 ∧ k_ ≠ gb470 ∧ k_ ≠ g)) (HO457.out) (fun k_ hk => ⟨hk.1, ⟨hk.2.2.2.2.1, ⟨hk.2.2.2.2.2.1, ⟨hk.2.2.2.2.2.2.1, hk.2.2.2.2.2.2.2⟩⟩⟩⟩))) (Kd.N_reads' (Kd.N_mono (ok' := (fun k_ => (w.heap.size ≤ k_) ∧ k_ ≠ gb405 ∧ k_ ≠ gb445 ∧ k_ ≠ gb470 ∧ k_ ≠ g)) (HO460.out) (fun k_ hk => ⟨hk.1, ⟨hk.2.2.2.2.1, ⟨hk.2.2.2.2.2.1, ⟨hk.2.2.2.2.2.2.1, hk.2.2.2.2.2.2.2⟩⟩⟩⟩))).2.1 (Kd.N_F (Kd.N_mono (ok' := (fun k_ => (w.heap.size ≤ k_) ∧ k_ ≠ gb405 ∧ k_ ≠ gb445 ∧ k_ ≠ gb470 ∧ k_ ≠ g)) (HO460.out) (fun k_ hk => ⟨hk.1, ⟨hk.2.2.2.2.1, ⟨hk.2.2.2.2.2.1, ⟨hk.2.2.2.2.2.2.1, hk.2.2.2.2.2.2.2⟩⟩⟩⟩))))) (Reps.none _ _))))
                              intro v468 w58 ho59 hb hg_ hnew_
                              clear hg_ hnew_
                              (first | rw [← Ny467.out] at ho59 | (simp only [Int.reduceToNat] at ho59; rw [← Ny467.out] at ho59))
                              have n0_ := Aside0.mk (Kd.N_lower ho59 (keep_size (w := w) (g := g) (row := none) (by repeat (first | (with_reducible first | exact HK.out | apply KeepBut.set_ | apply keep_drewN | apply keep_drew | apply keep_alloc | refine keep_far ?_ GW405.out _ | refine keep_far ?_ GW445.out _ | refine keep_far ?_ GW470.out _) | exact HK.out))))
                              have n1_ := Aside0.mk (blk_below (g := gb405) (o := .cells #[.int .i64 0, .int .i64 0, .string (⟨#[]⟩ : ByteArray), .slice none 0 0, .slice none 0 0] 27 (0, 0)) (by (with_reducible repeat (first | refine blk_drewN ?_ _ | refine blk_drew ?_ | refine blk_alloc ?_ _)); exact BK405.out) hb)
                              have n2_ := Aside0.mk (IsS121.below (by repeat (first | (with_reducible first | exact HI0.out | apply IsS121.alloc | apply IsS121.drewN | apply IsS121.drew | apply IsS121.set_0 | apply IsS121.set_1 | apply IsS121.set_2 | apply IsS121.set_3 | apply IsS121.set_4 | apply IsS121.set_5 | refine IsS121.far ?_ NB0_405.out _ | refine IsS121.far ?_ NB0_445.out _ | refine IsS121.far ?_ NB0_470.out _) | exact HI0.out)) hb)
                              have n3_ := Aside0.mk (blk_below (g := gb445) (o := .cells #[.int .i64 t430, .int .i64 t431, .string t432, .slice Ao50 t433.length co50, .slice Ao51 t436.length co51] 27 (0, 0)) (by (with_reducible repeat (first | refine blk_drewN ?_ _ | refine blk_drew ?_ | refine blk_alloc ?_ _)); exact BK445.out) hb)
                              have n4_ := Aside0.mk (blk_below (g := gb470) (o := .cells #[.int .i64 0, .int .i64 0, .string (⟨#[]⟩ : ByteArray), .slice none 0 0, .slice none 0 0] 27 (0, 0)) (by (with_reducible repeat (first | refine blk_drewN ?_ _ | refine blk_drew ?_ | refine blk_alloc ?_ _)); exact BK470.out) hb)
                              have n5_ := Aside0.mk (KeepBut.trans (by repeat (first | (with_reducible first | exact HK.out | apply KeepBut.set_ | apply keep_drewN | apply keep_drew | apply keep_alloc | refine keep_far ?_ GW405.out _ | refine keep_far ?_ GW445.out _ | refine keep_far ?_ GW470.out _) | exact HK.out)) (KeepBut.of_below hb g none) (.inl rfl))
                              have n6_ := Aside0.mk (below_step (by repeat (first | (with_reducible first | exact HB.out | apply below_alloc | apply pw_below_drewN | apply below_drew1 | refine below_set ?_ (IsS121.ge HI0.out) | refine below_set ?_ GE405.out | refine below_set ?_ GE445.out | refine below_set ?_ GE470.out) | exact HB.out)) hb)
                              clear BK405
                              clear HI0
                              clear BK445
                              clear BK470
                              clear HK
                              clear HB
                              clear HO435
                              clear HO438
                              clear HO457
                              clear HO460
                              have HO469 := n0_
                              have BK405 := n1_
                              have HI0 := n2_
                              have BK445 := n3_
                              have BK470 := n4_
                              have HK := n5_
                              have HB := n6_
                              clear n0_ n1_ n2_ n3_ n4_ n5_ n6_
                              clear hb ho59
                              obtain ⟨Ao60, co60, eo60⟩ := Kd.N_slice HO469.out
                              (first | subst eo60 | (injection eo60 with f1_ f2_ f3_; have f4_ := f1_.symm; have f5_ := f3_.symm; clear f1_ f2_ f3_; subst f4_; subst f5_))
                              refine hK.out _ _ ⟨(blk_cell BK445.out 0).trans rfl, (blk_cell BK445.out 1).trans rfl, (blk_cell BK445.out 2).trans rfl, (blk_cell BK445.out 3).trans rfl, (blk_cell BK445.out 4).trans rfl⟩ (fun hHeld => ?_)
                              clear hK K
                              refine norm_ (a' := ?_) ?_ ?_
                              rotate_left
                              · show Act.put _ (some 164) _ = _
                                simp only [Act.put, List.setIfInBounds_toArray, List.set_cons_zero, List.set_cons_succ, i64_w, i32_w]
                                rfl
                              refine pure_ (i := 6) (N := some 165) (v := ?_) (a' := ?_) #[true, true, true, true, true, true, true, true, false] rfl rfl (any_of HT_.out (by kernel_rfl)) (fun _ _ _ h => h) (Or.inl ⟨by rfl, ?_⟩) ?_ ?_
                              rotate_left
                              · intro w'
                                go_simp
                                with_reducible rfl
                              rotate_left
                              · simp only [Act.put, List.setIfInBounds_toArray, List.set_cons_zero, List.set_cons_succ, i64_w, i32_w]
                                rfl
                              exact norm_ (by simp only [putAll, Act.put, List.setIfInBounds_toArray, List.set_cons_zero, List.set_cons_succ]) (hCont (.slice Ao56 t455.length co56, .slice Ao57 t458.length co57, .slice Ao60 y467.length co60, gb470) _ ⟨hHeld, (by (with_reducible repeat (first | apply Kd.N_alloc | apply Kd.N_drewN | apply Kd.N_drew)); exact Kd.N_mono HO469.out (fun _ hk => ⟨hk.1, ⟨hk.2.2.2.2, ⟨hk.2.1, ⟨hk.2.2.1, hk.2.2.2.1⟩⟩⟩⟩)), (by (with_reducible repeat (first | refine blk_drewN ?_ _ | refine blk_drew ?_ | refine blk_alloc ?_ _)); exact BK405.out), (by (with_reducible repeat (first | refine blk_drewN ?_ _ | refine blk_drew ?_ | refine blk_alloc ?_ _)); exact BK445.out), (by (with_reducible repeat (first | refine blk_drewN ?_ _ | refine blk_drew ?_ | refine blk_alloc ?_ _)); exact BK470.out), GW470.out, GE470.out, NB0_470.out, NB470_0.out, NB405_470.out, NB470_405.out, NB445_470.out, NB470_445.out, (by repeat (first | (with_reducible first | exact HI0.out | apply IsS121.alloc | apply IsS121.drewN | apply IsS121.drew | apply IsS121.set_0 | apply IsS121.set_1 | apply IsS121.set_2 | apply IsS121.set_3 | apply IsS121.set_4 | apply IsS121.set_5 | refine IsS121.far ?_ NB0_405.out _ | refine IsS121.far ?_ NB0_445.out _ | refine IsS121.far ?_ NB0_470.out _) | exact HI0.out)), (by repeat (first | (with_reducible first | exact HK.out | apply KeepBut.set_ | apply keep_drewN | apply keep_drew | apply keep_alloc | refine keep_far ?_ GW405.out _ | refine keep_far ?_ GW445.out _ | refine keep_far ?_ GW470.out _) | exact HK.out)), (by repeat (first | (with_reducible first | exact HB.out | apply below_alloc | apply pw_below_drewN | apply below_drew1 | refine below_set ?_ (IsS121.ge HI0.out) | refine below_set ?_ GE405.out | refine below_set ?_ GE445.out | refine below_set ?_ GE470.out) | exact HB.out))⟩)
                          rintro ⟨v456, v459, v468, gb470⟩ w61 ⟨hS_, h0_, h1_, h2_, h3_, h4_, h5_, h6_, h7_, h8_, h9_, h10_, h11_, h12_, h13_, h14_⟩
                          have n0_ : Aside0 (Kd.N k27 27 w61 w.heap.size (fun k_ => (w.heap.size ≤ k_) ∧ k_ ≠ g ∧ k_ ≠ gb405 ∧ k_ ≠ gb445 ∧ k_ ≠ gb470) v468 y467) := ⟨h0_⟩
                          have n1_ : Aside0 (w61.heap[gb405]? = some (.cells #[.int .i64 0, .int .i64 0, .string (⟨#[]⟩ : ByteArray), .slice none 0 0, .slice none 0 0] 27 (0, 0))) := ⟨h1_⟩
                          have n2_ : Aside0 (w61.heap[gb445]? = some (.cells #[.int .i64 t430, .int .i64 t431, .string t432, .slice Ao50 t433.length co50, .slice Ao51 t436.length co51] 27 (0, 0))) := ⟨h2_⟩
                          have n3_ : Aside0 (w61.heap[gb470]? = some (.cells #[.int .i64 0, .int .i64 0, .string (⟨#[]⟩ : ByteArray), .slice none 0 0, .slice none 0 0] 27 (0, 0))) := ⟨h3_⟩
                          have n4_ : Aside0 (w.heap.size ≤ gb470) := ⟨h4_⟩
                          have n5_ : Aside0 (w0.heap.size ≤ gb470) := ⟨h5_⟩
                          have n6_ : Aside0 (g ≠ gb470) := ⟨h6_⟩
                          have n7_ : Aside0 (gb470 ≠ g) := ⟨h7_⟩
                          have n8_ : Aside0 (gb405 ≠ gb470) := ⟨h8_⟩
                          have n9_ : Aside0 (gb470 ≠ gb405) := ⟨h9_⟩
                          have n10_ : Aside0 (gb445 ≠ gb470) := ⟨h10_⟩
                          have n11_ : Aside0 (gb470 ≠ gb445) := ⟨h11_⟩
                          have n12_ : Aside0 (IsS121 w0 w61 g t461 t462 t463 t464 t465 t466) := ⟨h12_⟩
                          have n13_ : Aside0 (KeepBut w w61 g none) := ⟨h13_⟩
                          have n14_ : Aside0 (Below w0.heap.size w0 w61) := ⟨h14_⟩
                          clear HO435
                          clear HO438
                          clear BK405
                          clear BK445
                          clear HI0
                          clear HK
                          clear HB
                          clear h0_ h1_ h2_ h3_ h4_ h5_ h6_ h7_ h8_ h9_ h10_ h11_ h12_ h13_ h14_
                          have HO469 := n0_
                          have BK405 := n1_
                          have BK445 := n2_
                          have BK470 := n3_
                          have GW470 := n4_
                          have GE470 := n5_
                          have NB0_470 := n6_
                          have NB470_0 := n7_
                          have NB405_470 := n8_
                          have NB470_405 := n9_
                          have NB445_470 := n10_
                          have NB470_445 := n11_
                          have HI0 := n12_
                          have HK := n13_
                          have HB := n14_
                          clear n0_ n1_ n2_ n3_ n4_ n5_ n6_ n7_ n8_ n9_ n10_ n11_ n12_ n13_ n14_
                          have hHeld : w61.cell? ⟨gb445, 0, none⟩ = some (.int .i64 t430) ∧ w61.cell? ⟨gb445, 1, none⟩ = some (.int .i64 t431) ∧ w61.cell? ⟨gb445, 2, none⟩ = some (.string t432) ∧ w61.cell? ⟨gb445, 3, none⟩ = some (.slice Ao50 t433.length co50) ∧ w61.cell? ⟨gb445, 4, none⟩ = some (.slice Ao51 t436.length co51) := hS_
                          obtain ⟨Ao62, co62, eo62⟩ := Kd.N_slice HO469.out
                          (first | subst eo62 | (injection eo62 with f1_ f2_ f3_; have f4_ := f1_.symm; have f5_ := f3_.symm; clear f1_ f2_ f3_; subst f4_; subst f5_))
                          refine norm_ (a' := ?_) ?_ ?_
                          rotate_left
                          · simp only [putAll, Act.put, List.setIfInBounds_toArray, List.set_cons_zero, List.set_cons_succ]
                            rfl
                          refine one_ (i := 8) (N := none) #[true, true, true, true, true, true, true, true, true] rfl rfl (one_of HT_.out (by kernel_rfl)) (by decide) (fun K hK => ?_)
                          have hs63 : w61.cell? ⟨gb470, 0, none⟩ = some (.int .i64 0) := (blk_cell BK470.out 0).trans rfl
                          have hfs63 := blk_frozen BK470.out 0
                          have hns63_0 := NB405_470.out
                          have hns63_1 := NB445_470.out
                          have hms63_0 := NB470_405.out
                          have hms63_1 := NB470_445.out
                          have hs64 : w61.cell? ⟨gb470, 1, none⟩ = some (.int .i64 0) := (blk_cell BK470.out 1).trans rfl
                          have hfs64 := blk_frozen BK470.out 1
                          have hns64_0 := NB405_470.out
                          have hns64_1 := NB445_470.out
                          have hms64_0 := NB470_405.out
                          have hms64_1 := NB470_445.out
                          have hs65 : w61.cell? ⟨gb470, 2, none⟩ = some (.string (⟨#[]⟩ : ByteArray)) := (blk_cell BK470.out 2).trans rfl
                          have hfs65 := blk_frozen BK470.out 2
                          have hns65_0 := NB405_470.out
                          have hns65_1 := NB445_470.out
                          have hms65_0 := NB470_405.out
                          have hms65_1 := NB470_445.out
                          have hs66 : w61.cell? ⟨gb470, 3, none⟩ = some (.slice none 0 0) := (blk_cell BK470.out 3).trans rfl
                          have hfs66 := blk_frozen BK470.out 3
                          have hns66_0 := NB405_470.out
                          have hns66_1 := NB445_470.out
                          have hms66_0 := NB470_405.out
                          have hms66_1 := NB470_445.out
                          have hs67 : w61.cell? ⟨gb470, 4, none⟩ = some (.slice none 0 0) := (blk_cell BK470.out 4).trans rfl
                          have hfs67 := blk_frozen BK470.out 4
                          have hns67_0 := NB405_470.out
                          have hns67_1 := NB445_470.out
                          have hms67_0 := NB470_405.out
                          have hms67_1 := NB470_445.out
                          refine skip_ (w1 := ?_) (by rfl) rfl ?_ ?_
                          rotate_left
                          · go_simp
                            rfl
                          refine hK.out _ _ ⟨((cell_far (p := ⟨gb470, _, none⟩) NB445_470.out _).trans (((cell_far (p := ⟨gb470, _, none⟩) NB445_470.out _).trans (((cell_far (p := ⟨gb470, _, none⟩) NB445_470.out _).trans (((cell_far (p := ⟨gb470, _, none⟩) NB445_470.out _).trans (((cell_far (p := ⟨gb470, _, none⟩) NB445_470.out _).trans (hHeld.1)))))))))), ((cell_far (p := ⟨gb470, _, none⟩) NB445_470.out _).trans (((cell_far (p := ⟨gb470, _, none⟩) NB445_470.out _).trans (((cell_far (p := ⟨gb470, _, none⟩) NB445_470.out _).trans (((cell_far (p := ⟨gb470, _, none⟩) NB445_470.out _).trans (((cell_far (p := ⟨gb470, _, none⟩) NB445_470.out _).trans (hHeld.2.1)))))))))), ((cell_far (p := ⟨gb470, _, none⟩) NB445_470.out _).trans (((cell_far (p := ⟨gb470, _, none⟩) NB445_470.out _).trans (((cell_far (p := ⟨gb470, _, none⟩) NB445_470.out _).trans (((cell_far (p := ⟨gb470, _, none⟩) NB445_470.out _).trans (((cell_far (p := ⟨gb470, _, none⟩) NB445_470.out _).trans (hHeld.2.2.1)))))))))), ((cell_far (p := ⟨gb470, _, none⟩) NB445_470.out _).trans (((cell_far (p := ⟨gb470, _, none⟩) NB445_470.out _).trans (((cell_far (p := ⟨gb470, _, none⟩) NB445_470.out _).trans (((cell_far (p := ⟨gb470, _, none⟩) NB445_470.out _).trans (((cell_far (p := ⟨gb470, _, none⟩) NB445_470.out _).trans (hHeld.2.2.2.1)))))))))), ((cell_far (p := ⟨gb470, _, none⟩) NB445_470.out _).trans (((cell_far (p := ⟨gb470, _, none⟩) NB445_470.out _).trans (((cell_far (p := ⟨gb470, _, none⟩) NB445_470.out _).trans (((cell_far (p := ⟨gb470, _, none⟩) NB445_470.out _).trans (((cell_far (p := ⟨gb470, _, none⟩) NB445_470.out _).trans (hHeld.2.2.2.2))))))))))⟩ (fun hHeld => ?_)
                          clear hK K
                          refine done_ (done_of HT_.out (by kernel_rfl)) ?_
                          have hnb68 := NB470_405.out
                          have hnc68 := NB405_470.out
                          have hnb69 := NB470_445.out
                          have hnc69 := NB445_470.out
                          have hnb70 := NB470_0.out
                          have hnc70 := NB0_470.out
                          have hcz71_0 : w61.cell? ⟨gb470, 0, none⟩ = some (.int .i64 0) := (blk_cell BK470.out 0).trans rfl
                          have hcz71_1 : w61.cell? ⟨gb470, 1, none⟩ = some (.int .i64 0) := (blk_cell BK470.out 1).trans rfl
                          have hcz71_2 : w61.cell? ⟨gb470, 2, none⟩ = some (.string (⟨#[]⟩ : ByteArray)) := (blk_cell BK470.out 2).trans rfl
                          have hcz71_3 : w61.cell? ⟨gb470, 3, none⟩ = some (.slice none 0 0) := (blk_cell BK470.out 3).trans rfl
                          have hcz71_4 : w61.cell? ⟨gb470, 4, none⟩ = some (.slice none 0 0) := (blk_cell BK470.out 4).trans rfl
                          have hfz71_0 := blk_frozen BK470.out 0
                          have hfz71_1 := blk_frozen BK470.out 1
                          have hfz71_2 := blk_frozen BK470.out 2
                          have hfz71_3 := blk_frozen BK470.out 3
                          have hfz71_4 := blk_frozen BK470.out 4
                          have hnb72 := NB405_0.out
                          have hnc72 := NB0_405.out
                          have hcz73_0 : w61.cell? ⟨gb405, 0, none⟩ = some (.int .i64 0) := (blk_cell BK405.out 0).trans rfl
                          have hcz73_1 : w61.cell? ⟨gb405, 1, none⟩ = some (.int .i64 0) := (blk_cell BK405.out 1).trans rfl
                          have hcz73_2 : w61.cell? ⟨gb405, 2, none⟩ = some (.string (⟨#[]⟩ : ByteArray)) := (blk_cell BK405.out 2).trans rfl
                          have hcz73_3 : w61.cell? ⟨gb405, 3, none⟩ = some (.slice none 0 0) := (blk_cell BK405.out 3).trans rfl
                          have hcz73_4 : w61.cell? ⟨gb405, 4, none⟩ = some (.slice none 0 0) := (blk_cell BK405.out 4).trans rfl
                          have hfz73_0 := blk_frozen BK405.out 0
                          have hfz73_1 := blk_frozen BK405.out 1
                          have hfz73_2 := blk_frozen BK405.out 2
                          have hfz73_3 := blk_frozen BK405.out 3
                          have hfz73_4 := blk_frozen BK405.out 4
                          try go_wp2
                          refine bodyPost_ret (results_cell_row rfl _ _ gb405 27 #[.int .i64 5, .int .i64 0, .string (⟨#[]⟩ : ByteArray), .slice none 0 0, .slice Ao62 y467.length co62] (0, 0) _ rfl (by (with_reducible repeat (first | refine blk_drewN ?_ _ | refine blk_drew ?_ | refine blk_alloc ?_ _)); refine blk_put (cs := #[.int .i64 5, .int .i64 0, .string (⟨#[]⟩ : ByteArray), .slice none 0 0, .slice none 0 0]) ?_ 4 _ rfl; (with_reducible repeat (first | refine blk_drewN ?_ _ | refine blk_drew ?_ | refine blk_alloc ?_ _)); refine blk_put (cs := #[.int .i64 5, .int .i64 0, .string (⟨#[]⟩ : ByteArray), .slice none 0 0, .slice none 0 0]) ?_ 3 _ rfl; (with_reducible repeat (first | refine blk_drewN ?_ _ | refine blk_drew ?_ | refine blk_alloc ?_ _)); refine blk_put (cs := #[.int .i64 5, .int .i64 0, .string (⟨#[]⟩ : ByteArray), .slice none 0 0, .slice none 0 0]) ?_ 2 _ rfl; (with_reducible repeat (first | refine blk_drewN ?_ _ | refine blk_drew ?_ | refine blk_alloc ?_ _)); refine blk_put (cs := #[.int .i64 5, .int .i64 0, .string (⟨#[]⟩ : ByteArray), .slice none 0 0, .slice none 0 0]) ?_ 1 _ rfl; (with_reducible repeat (first | refine blk_drewN ?_ _ | refine blk_drew ?_ | refine blk_alloc ?_ _)); refine blk_put (cs := #[.int .i64 0, .int .i64 0, .string (⟨#[]⟩ : ByteArray), .slice none 0 0, .slice none 0 0]) ?_ 0 _ rfl; (with_reducible repeat (first | refine blk_drewN ?_ _ | refine blk_drew ?_ | refine blk_alloc ?_ _)); refine blk_far ?_ NB405_470.out _; (with_reducible repeat (first | refine blk_drewN ?_ _ | refine blk_drew ?_ | refine blk_alloc ?_ _)); refine blk_far ?_ NB405_470.out _; (with_reducible repeat (first | refine blk_drewN ?_ _ | refine blk_drew ?_ | refine blk_alloc ?_ _)); refine blk_far ?_ NB405_470.out _; (with_reducible repeat (first | refine blk_drewN ?_ _ | refine blk_drew ?_ | refine blk_alloc ?_ _)); refine blk_far ?_ NB405_470.out _; (with_reducible repeat (first | refine blk_drewN ?_ _ | refine blk_drew ?_ | refine blk_alloc ?_ _)); refine blk_far ?_ NB405_470.out _; (with_reducible repeat (first | refine blk_drewN ?_ _ | refine blk_drew ?_ | refine blk_alloc ?_ _)); refine blk_far ?_ NB405_470.out _; (with_reducible repeat (first | refine blk_drewN ?_ _ | refine blk_drew ?_ | refine blk_alloc ?_ _)); exact BK405.out) Try.underlying27 rfl (by kernel_rfl)) rfl ?_
                          exact ⟨_, _, by first | rfl | (simp [errW_none, errW_some] <;> rfl) | (simp [*, errW_none, errW_some] <;> rfl), by first | exact Kd.R_nil _ _ _ _ _ | exact Kd.N_nil _ _ _ _ _ | exact Kd.V_nil _ _ _ _ _ | exact Kd.Q_nil _ _ _ _ _ | exact Kd.S_nil _ _ _ _ _, by (with_reducible repeat (first | apply Kd.N_alloc | apply Kd.N_drewN | apply Kd.N_drew)); exact Kd.N_mono (Kd.N_far (p := ⟨gb405, 4, none⟩) (Kd.N_far (p := ⟨gb405, 3, none⟩) (Kd.N_far (p := ⟨gb405, 2, none⟩) (Kd.N_far (p := ⟨gb405, 1, none⟩) (Kd.N_far (p := ⟨gb405, 0, none⟩) (Kd.N_far (p := ⟨gb470, 0, none⟩) (Kd.N_far (p := ⟨gb470, 4, none⟩) (Kd.N_far (p := ⟨gb470, 3, none⟩) (Kd.N_far (p := ⟨gb470, 2, none⟩) (Kd.N_far (p := ⟨gb470, 1, none⟩) (Kd.N_far (p := ⟨gb470, 0, none⟩) (Kd.N_mono (Kd.N_mono HO469.out (fun k_ hk => (⟨hk, hk.2.2.2.2⟩ : _ ∧ k_ ≠ gb470))) (fun k_ hk => (⟨hk, hk.1.2.2.1⟩ : _ ∧ k_ ≠ gb405))) (fun _ hk => hk.1.2) (.int .i64 4)) (fun _ hk => hk.1.2) (.int .i64 0)) (fun _ hk => hk.1.2) (.string (⟨#[]⟩ : ByteArray))) (fun _ hk => hk.1.2) (.slice none 0 0)) (fun _ hk => hk.1.2) (.slice Ao62 y467.length co62)) (fun _ hk => hk.1.2) (.int .i64 5)) (fun _ hk => hk.2) (.int .i64 5)) (fun _ hk => hk.2) (.int .i64 0)) (fun _ hk => hk.2) (.string (⟨#[]⟩ : ByteArray))) (fun _ hk => hk.2) (.slice none 0 0)) (fun _ hk => hk.2) (.slice Ao62 y467.length co62)) (fun _ hk => ⟨hk.1.1.1, (by simp [Value.ownBlock])⟩), by repeat (first | (with_reducible first | exact HI0.out | apply IsS121.alloc | apply IsS121.drewN | apply IsS121.drew | apply IsS121.set_0 | apply IsS121.set_1 | apply IsS121.set_2 | apply IsS121.set_3 | apply IsS121.set_4 | apply IsS121.set_5 | refine IsS121.far ?_ NB0_405.out _ | refine IsS121.far ?_ NB0_445.out _ | refine IsS121.far ?_ NB0_470.out _) | exact HI0.out), by repeat (first | (with_reducible first | exact HB.out | apply below_alloc | apply pw_below_drewN | apply below_drew1 | refine below_set ?_ (IsS121.ge HI0.out) | refine below_set ?_ GE405.out | refine below_set ?_ GE445.out | refine below_set ?_ GE470.out) | exact HB.out), by repeat (first | (with_reducible first | exact HK.out | apply KeepBut.set_ | apply keep_drewN | apply keep_drew | apply keep_alloc | refine keep_far ?_ GW405.out _ | refine keep_far ?_ GW445.out _ | refine keep_far ?_ GW470.out _) | exact HK.out)⟩
                        · rw [if_neg c43] at H
                          exact absurd H (by simp)
            · rw [if_neg c26] at H
              exact absurd H (by simp)

end Go.Proofs.Ytpejhapgffcngaa.QZ
