/- term.Lift. -/
import Derived.Test.YtpejhapgffcngaaXShort
import Derived.Test.YtpejhapgffcngaaQKEachL
import Derived.StillTailTactics
set_option linter.unusedVariables false
set_option linter.unusedSimpArgs false
namespace Go.Proofs.Ytpejhapgffcngaa.QK
open Go.RowKit Go.Proofs.YtpejhapgffcngaaW.PrintWords Go.Proofs.YtpejhapgffcngaaW.PrintLast Go.Proofs.YtpejhapgffcngaaW.PrintMore
attribute [local go_sem] max2_int min2_int max_two min_two max_three min_three max_four min_four
theorem eachL.same (c d : LC) (hf : c.from = d.from) (hb : c.by_ = d.by_) : ∀ k, (∀ y0 y1 y2 y3 y4 y5, eachL.f k y0 y1 y2 y3 y4 y5 c = eachL.f k y0 y1 y2 y3 y4 y5 d) ∧ (∀ y0 y2 y3 y4 y5 y6 y7 y8 y9 y10, eachL.l0 k y0 c y2 y3 y4 y5 y6 y7 y8 y9 y10 = eachL.l0 k y0 d y2 y3 y4 y5 y6 y7 y8 y9 y10)
 | 0 => ⟨fun _ _ _ _ _ _ => by simp [eachL.f], fun _ _ _ _ _ _ _ _ _ _ => by simp [eachL.l0]⟩
 | k + 1 => by
  obtain ⟨h0, h1⟩ := eachL.same c d hf hb k
  refine ⟨fun y0 y1 y2 y3 y4 y5 => ?_, fun y0 y2 y3 y4 y5 y6 y7 y8 y9 y10 => ?_⟩
  ·simp only [eachL.f, liftLeaf.f, hf, hb, h1]
  ·simp only [eachL.l0, h0, h1]
def term_Lift.f (k : Nat) (a0_0 : Int) (a0_1 : Int) (a0_2 : ByteArray) (l0_3 : List (S76)) (l0_4 : List (S27)) (a1 : Int) (a2 : Int) : Option (Int × Int × ByteArray × (List (S76)) × (List (S27))) := eachL.f k a0_0 a0_1 a0_2 l0_3 l0_4 0 ⟨mn (mx a2 0) 1073741824, mn (mx a1 0) 1073741824, 0, 0⟩
theorem clamp_still (a0 : Int) (w : World) : Calls Try.prog 87 #[.int .i64 a0] w fun e w' => e = .returned (.int .i64 (mn (mx a0 0) 1073741824)) ∧ w' = w := by
 obtain ⟨ji2, hji2⟩ : ∃ j_ : Int, (mx a0 0) = j_ := ⟨_, rfl⟩
 have hji2_ : (if a0 < 0 then 0 else a0) = ji2 := hji2
 obtain ⟨ji3, hji3⟩ : ∃ j_ : Int, (mn (ji2) 1073741824) = j_ := ⟨_, rfl⟩
 have hji3_ : (if 1073741824 < (ji2) then 1073741824 else (ji2)) = ji3 := hji3
 rw [hji2, hji3]
 go_enter Try.func87, Try.ntmps87
 go_wp2
 go_ret
 exact ⟨by first | rfl | (simp [errW_none, errW_some] <;> rfl) | (simp only [← hji2, ← hji3]; first | rfl | (simp [errW_none, errW_some] <;> rfl)) | (simp [*, errW_none, errW_some] <;> rfl), rfl⟩
set_option maxHeartbeats 8000000 in
set_option maxRecDepth 100000 in
theorem term_Lift.calls (k : Nat) (a0_0 : Int) (a0_1 : Int) (a0_2 : ByteArray) (A0_3 : Option Addr) (c0_3 : Nat) (l0_3 : List (S76)) (A0_4 : Option Addr) (c0_4 : Nat) (l0_4 : List (S27)) (a1 : Int) (a2 : Int) (r1 : Int) (r2 : Int) (r3 : ByteArray) (r4 : List (S76)) (r5 : List (S27)) (w : World) (hr0_3 : Kd.C k76 w A0_3 l0_3.length l0_3) (hc0_3 : l0_3.length ≤ c0_3) (hr0_4 : Kd.C k27 w A0_4 l0_4.length l0_4) (hc0_4 : l0_4.length ≤ c0_4) (h : term_Lift.f k a0_0 a0_1 a0_2 l0_3 l0_4 a1 a2 = some (r1, r2, r3, r4, r5)) :
  Calls Try.prog 41 #[.agg #[.int .i64 a0_0, .int .i64 a0_1, .string a0_2, .slice A0_3 l0_3.length c0_3, .slice A0_4 l0_4.length c0_4], .int .i64 a1, .int .i64 a2] w fun e w' => ∃ v3_ v4_ : Value, e = .returned (.agg #[.int .i64 r1, .int .i64 r2, .string r3, v3_, v4_]) ∧ Kd.R k76 76 w' w.heap.size (fun _ => True) v3_ r4 ∧ Kd.R k27 27 w' w.heap.size (fun k_ => some k_ ≠ (v3_ : Value).ownBlock) v4_ r5 ∧ Below w.heap.size w w' := by
 have hu27 := Try.underlying27
 have HR0_3 := aS hr0_3
 have HC0_3 := aS hc0_3
 clear hr0_3 hc0_3
 have HR0_4 := aS hr0_4
 have HC0_4 := aS hc0_4
 clear hr0_4 hc0_4
 have HB := aS (Below.refl w.heap.size w)
 have H := aS h
 clear h
 go_enter Try.func41, Try.ntmps41
 go_wp2_with (first | ((with_reducible refine gate_dst (N := 3) rfl ?_); refine bx (N := 3) (t := 27) #[.int .i64 a0_0, .int .i64 a0_1, .string a0_2, .slice A0_3 l0_3.length c0_3, .slice A0_4 l0_4.length c0_4] ?_; intro gt hg w1 hbox hb; have BKt := aS (hbox); have GEt := Gz hg HB; replace HB := Hs HB hb; clear hb hbox hg) | ((with_reducible refine gate_dst (N := 4) rfl ?_); refine bx (N := 4) (t := 3) #[.int .i64 a1] ?_; intro gy hg w2 hbox hb; have Nty := aS ((by rw [hg]; exact Nat.ne_of_lt (blk_lt (bkw BKt)) : gt ≠ gy)); replace BKt := Bk BKt hb; have BKy := aS (hbox); have GEy := Gz hg HB; replace HB := Hs HB hb; clear hb hbox hg) | ((with_reducible refine gate_dst (N := 5) rfl ?_); refine bx (N := 5) (t := 3) #[.int .i64 a2] ?_; intro gf hg w3 hbox hb; have Ntf := aS ((by rw [hg]; exact Nat.ne_of_lt (blk_lt (bkw BKt)) : gt ≠ gf)); replace BKt := Bk BKt hb; have Nyf := aS ((by rw [hg]; exact Nat.ne_of_lt (blk_lt (bkw BKy)) : gy ≠ gf)); replace BKy := Bk BKy hb; have BKf := aS (hbox); have GEf := Gz hg HB; replace HB := Hs HB hb; clear hb hbox hg) | ((with_reducible refine gate_dst (N := 6) rfl ?_); refine bx (N := 6) (t := 27) #[.int .i64 0, .int .i64 0, .string (⟨#[]⟩ : ByteArray), .slice none 0 0, .slice none 0 0] ?_; intro gr hg w4 hbox hb; have Ntr := aS ((by rw [hg]; exact Nat.ne_of_lt (blk_lt (bkw BKt)) : gt ≠ gr)); replace BKt := Bk BKt hb; have Nyr := aS ((by rw [hg]; exact Nat.ne_of_lt (blk_lt (bkw BKy)) : gy ≠ gr)); replace BKy := Bk BKy hb; have Nfr := aS ((by rw [hg]; exact Nat.ne_of_lt (blk_lt (bkw BKf)) : gf ≠ gr)); replace BKf := Bk BKf hb; have BKr := aS (hbox); have GEr := Gz hg HB; replace HB := Hs HB hb; clear hb hbox hg; have hcy := cell_of_one BKy.out; have hfy := free_of_one BKy.out; have hcf := cell_of_one BKf.out; have hff := free_of_one BKf.out; obtain ⟨hct_0, hct_1, hct_2, hct_3, hct_4⟩ := cl5 BKt))
 refine wp_region_still_tail 4 (by kernel_rfl) (by kernel_rfl) ?_
 simp only [List.take_succ_cons, List.take_zero, List.drop_succ_cons, List.drop_zero]
 still_step
 refine wpStill_step (fun K hK => ?_)
 go_simp
 refine ⟨_, clamp_still _ _, hK _ ?_⟩
 clear hK K
 still_step
 refine wpStill_step (fun K hK => ?_)
 go_simp
 refine ⟨_, clamp_still _ _, hK _ ?_⟩
 clear hK K
 refine wpStill_nil ?_
 change wpList _ _ _ _ _ w4.drew
 clear hcy hfy hcf hff hct_0 hct_1 hct_2 hct_3 hct_4
 have B5t := aS (blk_drew BKt.out)
 have B5y := aS (blk_drew BKy.out)
 have B5f := aS (blk_drew BKf.out)
 have B5r := aS (blk_drew BKr.out)
 have HB5 := aS (below_drew1 HB.out)
 clear BKt BKy BKf BKr HB
 generalize w4.drew = w5 at *
 replace H : Aside0 (eachL.f k a0_0 a0_1 a0_2 l0_3 l0_4 0 ⟨mn (mx a2 0) 1073741824, mn (mx a1 0) 1073741824, gf, gy⟩ = some (r1, r2, r3, r4, r5)) := ⟨by rw [← H.out]; exact (eachL.same ⟨mn (mx a2 0) 1073741824, mn (mx a1 0) 1073741824, gf, gy⟩ ⟨mn (mx a2 0) 1073741824, mn (mx a1 0) 1073741824, 0, 0⟩ rfl rfl k).1 _ _ _ _ _ _⟩
 generalize mn (mx a1 0) 1073741824 = c1 at *
 generalize mn (mx a2 0) 1073741824 = c2 at *
 have hnty := Nty.out; have hntf := Ntf.out; have hnyf := Nyf.out; have hntr := Ntr.out; have hnyr := Nyr.out; have hnfr := Nfr.out
 have B6y0 : (w5.setCell ⟨gy, 0, none⟩ (.int .i64 c1)).heap[gy]? = some (.cells #[.int .i64 c1] 3 (0, 0)) := one_setCell B5y.out
 have B6f0 := blk_far B5f.out hnyf.symm (p := ⟨gy, 0, none⟩) (.int .i64 c1)
 have B6t0 := blk_far B5t.out hnty (p := ⟨gy, 0, none⟩) (.int .i64 c1)
 have B6r0 := blk_far B5r.out hnyr.symm (p := ⟨gy, 0, none⟩) (.int .i64 c1)
 have HB60 : Below w.heap.size w (w5.setCell ⟨gy, 0, none⟩ (.int .i64 c1)) := below_set HB5.out GEy.out
 have hcy := cell_of_one B5y.out; have hfy := free_of_one B5y.out
 have hcf := cell_of_one B6f0; have hff := free_of_one B6f0
 have B6f0' : ((w5.setCell ⟨gy, 0, none⟩ (.int .i64 c1)).setCell ⟨gf, 0, none⟩ (.int .i64 c2)).heap[gf]? = some (.cells #[.int .i64 c2] 3 (0, 0)) := one_setCell B6f0
 have B6f := aS B6f0'
 have B6y := aS (blk_far B6y0 hnyf (p := ⟨gf, 0, none⟩) (.int .i64 c2))
 have B6t := aS (blk_far B6t0 hntf (p := ⟨gf, 0, none⟩) (.int .i64 c2))
 have B6r := aS (blk_far B6r0 hnfr.symm (p := ⟨gf, 0, none⟩) (.int .i64 c2))
 have HB6 : Aside0 (Below w.heap.size w ((w5.setCell ⟨gy, 0, none⟩ (.int .i64 c1)).setCell ⟨gf, 0, none⟩ (.int .i64 c2))) := ⟨below_set HB60 GEf.out⟩
 clear B6f0' B6y0 B6f0 B6t0 B6r0 HB60
 obtain ⟨hct_0, hct_1, hct_2, hct_3, hct_4⟩ := cl5 B6t
 have hok : LC.ok ⟨c2, c1, gf, gy⟩ ((w5.setCell ⟨gy, 0, none⟩ (.int .i64 c1)).setCell ⟨gf, 0, none⟩ (.int .i64 c2)) := ⟨cell_of_one B6f.out, cell_of_one B6y.out⟩
 have hmf : ∀ (fn : Fn) (first cap : Array Value) (w : World), (Instr.makeFunc fn first cap).run Try.prog w = .ok (.func fn first cap) w := fun _ _ _ _ => rfl
 go_wp2_with (fail)
 ((with_reducible refine (eachL.calls k a0_0 a0_1 a0_2 _ _ l0_3 _ _ l0_4 0 ⟨c2, c1, gf, gy⟩ r1 r2 r3 r4 r5 _ hok ?side1 ?side2 ?side3 ?side4 H.out).mono ?_); (case side1 => exact Kd.C_below HR0_3.out HB6.out); (case side2 => exact HC0_3.out); (case side3 => exact Kd.C_below HR0_4.out HB6.out); (case side4 => exact HC0_4.out); rintro e w7 ⟨v3, v4, rfl, ho0, ho1, hb⟩; have n1_ := aS (blk_below B6r.out hb); have n2_ := aS (below_step HB6.out hb); have n3_ := aS (Kd.R_lower ho0 (below_size HB6.out)); have n4_ := aS (Kd.R_lower (Kd.R_newB ho1 B6r.out) (below_size HB6.out)); clear B6r HB6 ho0 ho1 hb; obtain ⟨Ao1, co1, eo1⟩ := Kd.R_slice n3_.out; subst eo1; obtain ⟨Ao2, co2, eo2⟩ := Kd.R_slice n4_.out; subst eo2; obtain ⟨hcz_0, hcz_1, hcz_2, hcz_3, hcz_4⟩ := cl5 n1_; obtain ⟨hfz_0, hfz_1, hfz_2, hfz_3, hfz_4⟩ := fz5 n1_)
 go_wp2
 refine bodyPost_ret (results_cell_row rfl _ _ gr 27 #[.int .i64 r1, .int .i64 r2, .string r3, .slice Ao1 r4.length co1, .slice Ao2 r5.length co2] (0, 0) _ rfl (by refine blk_put (cs := #[.int .i64 r1, .int .i64 r2, .string r3, .slice Ao1 r4.length co1, .slice none 0 0]) ?_ 4 _ rfl; refine blk_put (cs := #[.int .i64 r1, .int .i64 r2, .string r3, .slice none 0 0, .slice none 0 0]) ?_ 3 _ rfl; refine blk_put (cs := #[.int .i64 r1, .int .i64 r2, .string (⟨#[]⟩ : ByteArray), .slice none 0 0, .slice none 0 0]) ?_ 2 _ rfl; refine blk_put (cs := #[.int .i64 r1, .int .i64 0, .string (⟨#[]⟩ : ByteArray), .slice none 0 0, .slice none 0 0]) ?_ 1 _ rfl; refine blk_put (cs := #[.int .i64 0, .int .i64 0, .string (⟨#[]⟩ : ByteArray), .slice none 0 0, .slice none 0 0]) ?_ 0 _ rfl; exact n1_.out) Try.underlying27 rfl (by kernel_rfl)) rfl ?_
 exact ⟨_, _, rfl, Kd.R_mono (R5 (g := gr) (Kd.R_types n3_.out n1_.out (by decide)) (fun _ hk => hk.2)) (fun _ hk => trivial), Kd.R_mono (R5 (g := gr) (Kd.R_mono n4_.out (fun k_ hk => (⟨hk, hk.2⟩ : _ ∧ k_ ≠ gr))) (fun _ hk => hk.2)) (fun _ hk => hk.1.1), by repeat (first | exact n2_.out | refine below_set ?_ GEr.out)⟩
end Go.Proofs.Ytpejhapgffcngaa.QK

