/- term.Put. -/
import Derived.Test.YtpejhapgffcngaaXShort
import Derived.Test.YtpejhapgffcngaaQKEachP
set_option linter.unusedVariables false
set_option linter.unusedSimpArgs false
namespace Go.Proofs.Ytpejhapgffcngaa.QK
open Go.RowKit Go.Proofs.YtpejhapgffcngaaW.PrintWords Go.Proofs.YtpejhapgffcngaaW.PrintLast Go.Proofs.YtpejhapgffcngaaW.PrintMore
attribute [local go_sem] max2_int min2_int max_two min_two max_three min_three max_four min_four
theorem eachP.same (c d : PC) (h0 : c.x0 = d.x0) (h1 : c.x1 = d.x1) (h2 : c.x2 = d.x2) (h3 : c.l3 = d.l3) (h4 : c.l4 = d.l4) : ∀ k, (∀ y0 y1 y2 y3 y4 y5, eachP.f k y0 y1 y2 y3 y4 y5 c = eachP.f k y0 y1 y2 y3 y4 y5 d) ∧ (∀ y0 y2 y3 y4 y5 y6 y7 y8 y9 y10, eachP.l0 k y0 c y2 y3 y4 y5 y6 y7 y8 y9 y10 = eachP.l0 k y0 d y2 y3 y4 y5 y6 y7 y8 y9 y10)
 | 0 => ⟨fun _ _ _ _ _ _ => by simp [eachP.f], fun _ _ _ _ _ _ _ _ _ _ => by simp [eachP.l0]⟩
 | k + 1 => by
  obtain ⟨e0, e1⟩ := eachP.same c d h0 h1 h2 h3 h4 k
  refine ⟨fun y0 y1 y2 y3 y4 y5 => ?_, fun y0 y2 y3 y4 y5 y6 y7 y8 y9 y10 => ?_⟩
  ·simp only [eachP.f, putLeaf.f, h0, h1, h2, h3, h4, e1]
  ·simp only [eachP.l0, e0, e1]
def term_Put.f (k : Nat) (a0_0 : Int) (a0_1 : Int) (a0_2 : ByteArray) (l0_3 : List (S76)) (l0_4 : List (S27)) (a1_0 : Int) (a1_1 : Int) (a1_2 : ByteArray) (l1_3 : List (S76)) (l1_4 : List (S27)) : Option (Int × Int × ByteArray × (List (S76)) × (List (S27))) := eachP.f k a0_0 a0_1 a0_2 l0_3 l0_4 0 ⟨a1_0, a1_1, a1_2, none, 0, l1_3, none, 0, l1_4, 0⟩
set_option maxHeartbeats 8000000 in
set_option maxRecDepth 100000 in
theorem term_Put.calls (k : Nat) (a0_0 : Int) (a0_1 : Int) (a0_2 : ByteArray) (A0_3 : Option Addr) (c0_3 : Nat) (l0_3 : List (S76)) (A0_4 : Option Addr) (c0_4 : Nat) (l0_4 : List (S27)) (b0 : Int) (b1 : Int) (b2 : ByteArray) (B3 : Option Addr) (d3 : Nat) (m3 : List (S76)) (B4 : Option Addr) (d4 : Nat) (m4 : List (S27)) (r1 : Int) (r2 : Int) (r3 : ByteArray) (r4 : List (S76)) (r5 : List (S27)) (w : World) (hr0_3 : Kd.C k76 w A0_3 l0_3.length l0_3) (hc0_3 : l0_3.length ≤ c0_3) (hr0_4 : Kd.C k27 w A0_4 l0_4.length l0_4) (hc0_4 : l0_4.length ≤ c0_4) (hr1_3 : Kd.C k76 w B3 m3.length m3) (hc1_3 : m3.length ≤ d3) (hr1_4 : Kd.C k27 w B4 m4.length m4) (hc1_4 : m4.length ≤ d4) (h : term_Put.f k a0_0 a0_1 a0_2 l0_3 l0_4 b0 b1 b2 m3 m4 = some (r1, r2, r3, r4, r5)) :
  Calls Try.prog 42 #[.agg #[.int .i64 a0_0, .int .i64 a0_1, .string a0_2, .slice A0_3 l0_3.length c0_3, .slice A0_4 l0_4.length c0_4], .agg #[.int .i64 b0, .int .i64 b1, .string b2, .slice B3 m3.length d3, .slice B4 m4.length d4]] w fun e w' => ∃ v3_ v4_ : Value, e = .returned (.agg #[.int .i64 r1, .int .i64 r2, .string r3, v3_, v4_]) ∧ Kd.R k76 76 w' w.heap.size (fun _ => True) v3_ r4 ∧ Kd.R k27 27 w' w.heap.size (fun k_ => some k_ ≠ (v3_ : Value).ownBlock) v4_ r5 ∧ Below w.heap.size w w' := by
 have hu27 := Try.underlying27
 have HR0_3 := aS hr0_3
 have HC0_3 := aS hc0_3
 clear hr0_3 hc0_3
 have HR0_4 := aS hr0_4
 have HC0_4 := aS hc0_4
 clear hr0_4 hc0_4
 have HR1_3 := aS hr1_3
 have HC1_3 := aS hc1_3
 clear hr1_3 hc1_3
 have HR1_4 := aS hr1_4
 have HC1_4 := aS hc1_4
 clear hr1_4 hc1_4
 have HB := aS (Below.refl w.heap.size w)
 have H : ∀ g, Aside0 (eachP.f k a0_0 a0_1 a0_2 l0_3 l0_4 0 ⟨b0, b1, b2, B3, d3, m3, B4, d4, m4, g⟩ = some (r1, r2, r3, r4, r5)) := fun g => ⟨by rw [← h]; exact (eachP.same ⟨b0, b1, b2, B3, d3, m3, B4, d4, m4, g⟩ ⟨b0, b1, b2, none, 0, m3, none, 0, m4, 0⟩ rfl rfl rfl rfl rfl k).1 _ _ _ _ _ _⟩
 clear h
 have hmf : ∀ (fn : Fn) (first cap : Array Value) (w : World), (Instr.makeFunc fn first cap).run Try.prog w = .ok (.func fn first cap) w := fun _ _ _ _ => rfl
 go_enter Try.func42, Try.ntmps42
 go_wp2_with (first | ((with_reducible refine gate_dst (N := 2) rfl ?_); refine bx (N := 2) (t := 27) #[.int .i64 a0_0, .int .i64 a0_1, .string a0_2, .slice A0_3 l0_3.length c0_3, .slice A0_4 l0_4.length c0_4] ?_; intro gt hg w1 hbox hb; have BKt := aS (hbox); have GEt := Gz hg HB; replace HB := Hs HB hb; clear hb hbox hg) | ((with_reducible refine gate_dst (N := 3) rfl ?_); refine bx (N := 3) (t := 27) #[.int .i64 b0, .int .i64 b1, .string b2, .slice B3 m3.length d3, .slice B4 m4.length d4] ?_; intro gv hg w2 hbox hb; have Ntv := aS ((by rw [hg]; exact Nat.ne_of_lt (blk_lt (bkw BKt)) : gt ≠ gv)); replace BKt := Bk BKt hb; have BKv := aS (hbox); have GEv := Gz hg HB; replace HB := Hs HB hb; clear hb hbox hg) | ((with_reducible refine gate_dst (N := 4) rfl ?_); refine bx (N := 4) (t := 27) #[.int .i64 0, .int .i64 0, .string (⟨#[]⟩ : ByteArray), .slice none 0 0, .slice none 0 0] ?_; intro gr hg w4 hbox hb; have Ntr := aS ((by rw [hg]; exact Nat.ne_of_lt (blk_lt (bkw BKt)) : gt ≠ gr)); replace BKt := Bk BKt hb; have Nvr := aS ((by rw [hg]; exact Nat.ne_of_lt (blk_lt (bkw BKv)) : gv ≠ gr)); replace BKv := Bk BKv hb; have BKr := aS (hbox); have GEr := Gz hg HB; replace HB := Hs HB hb; clear hb hbox hg; have hok : PC.ok ⟨b0, b1, b2, B3, d3, m3, B4, d4, m4, gv⟩ w4 := ⟨BKv.out, Kd.C_below HR1_3.out HB.out, HC1_3.out, Kd.C_below HR1_4.out HB.out, HC1_4.out⟩; have HOK := aS hok; clear hok; obtain ⟨hct_0, hct_1, hct_2, hct_3, hct_4⟩ := cl5 BKt))
 ((with_reducible refine (eachP.calls k a0_0 a0_1 a0_2 _ _ l0_3 _ _ l0_4 0 ⟨b0, b1, b2, B3, d3, m3, B4, d4, m4, gv⟩ r1 r2 r3 r4 r5 _ HOK.out ?side1 ?side2 ?side3 ?side4 (H gv).out).mono ?_); (case side1 => exact Kd.C_below HR0_3.out HB.out); (case side2 => exact HC0_3.out); (case side3 => exact Kd.C_below HR0_4.out HB.out); (case side4 => exact HC0_4.out); rintro e w7 ⟨v3, v4, rfl, ho0, ho1, hb⟩; have n1_ := aS (blk_below BKr.out hb); have n2_ := aS (below_step HB.out hb); have n3_ := aS (Kd.R_lower ho0 (below_size HB.out)); have n4_ := aS (Kd.R_lower (Kd.R_newB ho1 BKr.out) (below_size HB.out)); clear BKr HB ho0 ho1 hb; obtain ⟨Ao1, co1, eo1⟩ := Kd.R_slice n3_.out; subst eo1; obtain ⟨Ao2, co2, eo2⟩ := Kd.R_slice n4_.out; subst eo2; obtain ⟨hcz_0, hcz_1, hcz_2, hcz_3, hcz_4⟩ := cl5 n1_; obtain ⟨hfz_0, hfz_1, hfz_2, hfz_3, hfz_4⟩ := fz5 n1_)
 go_wp2
 refine bodyPost_ret (results_cell_row rfl _ _ gr 27 #[.int .i64 r1, .int .i64 r2, .string r3, .slice Ao1 r4.length co1, .slice Ao2 r5.length co2] (0, 0) _ rfl (by refine blk_put (cs := #[.int .i64 r1, .int .i64 r2, .string r3, .slice Ao1 r4.length co1, .slice none 0 0]) ?_ 4 _ rfl; refine blk_put (cs := #[.int .i64 r1, .int .i64 r2, .string r3, .slice none 0 0, .slice none 0 0]) ?_ 3 _ rfl; refine blk_put (cs := #[.int .i64 r1, .int .i64 r2, .string (⟨#[]⟩ : ByteArray), .slice none 0 0, .slice none 0 0]) ?_ 2 _ rfl; refine blk_put (cs := #[.int .i64 r1, .int .i64 0, .string (⟨#[]⟩ : ByteArray), .slice none 0 0, .slice none 0 0]) ?_ 1 _ rfl; refine blk_put (cs := #[.int .i64 0, .int .i64 0, .string (⟨#[]⟩ : ByteArray), .slice none 0 0, .slice none 0 0]) ?_ 0 _ rfl; exact n1_.out) Try.underlying27 rfl (by kernel_rfl)) rfl ?_
 exact ⟨_, _, rfl, Kd.R_mono (R5 (g := gr) (Kd.R_types n3_.out n1_.out (by decide)) (fun _ hk => hk.2)) (fun _ hk => trivial), Kd.R_mono (R5 (g := gr) (Kd.R_mono n4_.out (fun k_ hk => (⟨hk, hk.2⟩ : _ ∧ k_ ≠ gr))) (fun _ hk => hk.2)) (fun _ hk => hk.1.1), by repeat (first | exact n2_.out | refine below_set ?_ GEr.out)⟩
end Go.Proofs.Ytpejhapgffcngaa.QK

