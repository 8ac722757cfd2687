/- term.Size. -/
import Derived.Test.YtpejhapgffcngaaXShort
import Derived.Test.YtpejhapgffcngaaQKSize
set_option linter.unusedVariables false
set_option linter.unusedSimpArgs false
namespace Go.Proofs.Ytpejhapgffcngaa.QK
open Go.RowKit Go.Proofs.YtpejhapgffcngaaW.PrintWords Go.Proofs.YtpejhapgffcngaaW.PrintLast Go.Proofs.YtpejhapgffcngaaW.PrintMore
attribute [local go_sem] max2_int min2_int max_two min_two max_three min_three max_four min_four
def term_Size.f (k : Nat) (a0_0 : Int) (a0_1 : Int) (a0_2 : ByteArray) (l0_3 : List (S76)) (l0_4 : List (S27)) (a1 : Int) : Option Int := size.f k l0_4 0 (mx a1 0)
set_option maxHeartbeats 8000000 in
set_option maxRecDepth 100000 in
theorem term_Size.calls (k : Nat) (a0_0 : Int) (a0_1 : Int) (a0_2 : ByteArray) (A0_3 : Option Addr) (c0_3 : Nat) (l0_3 : List (S76)) (A0_4 : Option Addr) (c0_4 : Nat) (l0_4 : List (S27)) (a1 : Int) (r : Int) (w : World) (hr0_3 : Kd.C k76 w A0_3 l0_3.length l0_3) (hc0_3 : l0_3.length ≤ c0_3) (hr0_4 : Kd.C k27 w A0_4 l0_4.length l0_4) (hc0_4 : l0_4.length ≤ c0_4) (h : term_Size.f k a0_0 a0_1 a0_2 l0_3 l0_4 a1 = some r) :
  Calls Try.prog 46 #[.agg #[.int .i64 a0_0, .int .i64 a0_1, .string a0_2, .slice A0_3 l0_3.length c0_3, .slice A0_4 l0_4.length c0_4], .int .i64 a1] w fun e w' => e = .returned (.int .i64 r) ∧ Below w.heap.size w w' := by
 have hu27 := Try.underlying27
 have HR := aS hr0_4
 clear hr0_3 hc0_3 hr0_4 hc0_4
 obtain ⟨ji2, hji2⟩ : ∃ j_ : Int, (mx a1 0) = j_ := ⟨_, rfl⟩
 have hji2_ : (if a1 < 0 then 0 else a1) = ji2 := hji2
 have H : Aside0 (size.f k l0_4 0 ji2 = some r) := ⟨by rw [← hji2]; exact h⟩
 clear h hji2
 go_enter Try.func46, Try.ntmps46
 go_wp2_with (first | ((with_reducible refine gate_dst (N := 2) rfl ?_); refine bx (N := 2) (t := 27) #[.int .i64 a0_0, .int .i64 a0_1, .string a0_2, .slice A0_3 l0_3.length c0_3, .slice A0_4 l0_4.length c0_4] ?_; intro gt hgt w1 hbox hb; have BKt := aS hbox; have HB1 := aS hb; clear hb hbox hgt) | ((with_reducible refine gate_dst (N := 5) rfl ?_); refine bx (N := 5) (t := 3) #[.int .i64 0] ?_; intro g hgt w2 hbox hb; have hne : gt ≠ g := (by rw [hgt]; exact Nat.ne_of_lt (blk_lt BKt.out)); have hge : w.heap.size ≤ g := (by rw [hgt]; exact below_size HB1.out); have hcg := cell_of_one hbox; have hfg := free_of_one hbox; have n1_ : Aside0 ((w2.setCell ⟨g, 0, none⟩ (.int .i64 0)).heap[g]? = some (.cells #[.int .i64 0] 3 (0, 0))) := ⟨one_setCell hbox⟩; have n2_ : Aside0 ((w2.setCell ⟨g, 0, none⟩ (.int .i64 0)).heap[gt]? = some (.cells #[.int .i64 a0_0, .int .i64 a0_1, .string a0_2, .slice A0_3 l0_3.length c0_3, .slice A0_4 l0_4.length c0_4] 27 (0, 0))) := ⟨blk_far (blk_below BKt.out hb) hne _⟩; have n3_ : Aside0 (Below w.heap.size w (w2.setCell ⟨g, 0, none⟩ (.int .i64 0))) := ⟨below_set (below_step HB1.out hb) hge⟩; obtain ⟨hct_0, hct_1, hct_2, hct_3, hct_4⟩ := cl5 n2_; clear hb hbox hgt))
 ((with_reducible refine (size.calls k a0_0 a0_1 a0_2 A0_3 _ c0_3 A0_4 c0_4 l0_4 g 0 ji2 r _ n1_.out ?side1 H.out).mono ?_); (case side1 => exact fun W hW => Kd.C_below HR.out (below_of_but n3_.out hW n3_.out.size hge)); rintro e w7 ⟨rfl, hg7, hk7⟩)
 have hcg7 := cell_of_one hg7
 have HB7 := below_of_but n3_.out hk7 n3_.out.size hge
 go_wp2
 go_ret
 exact ⟨rfl, HB7⟩
end Go.Proofs.Ytpejhapgffcngaa.QK

