/- Words and walks of this claim. -/
import Derived.Test.YtpejhapgffcngaaXShort
import Derived.Test.YtpejhapgffcngaaQKPart
import Derived.Test.YtpejhapgffcngaaQKx0
import Derived.Test.YtpejhapgffcngaaQKx7
import Derived.Test.YtpejhapgffcngaaQKx8
namespace Go.Proofs.Ytpejhapgffcngaa.QK
open Go.RowKit Go.Proofs.YtpejhapgffcngaaW.PrintWords Go.Proofs.YtpejhapgffcngaaW.PrintLast Go.Proofs.YtpejhapgffcngaaW.PrintMore
attribute [local go_sem] max2_int min2_int max_two min_two max_three min_three max_four min_four
set_option linter.unusedVariables false
set_option linter.unusedSimpArgs false
def touchstoneref5_Copy.f (k : Nat) (a0_0 : Int) (a0_1 : Int) (a0_2 : ByteArray) (l0_3 : List (S76)) (l0_4 : List (S27)) : Option (Int × Int × ByteArray × (List (S76)) × (List (S27))) := (touchstoneref5_lift.f k a0_0 a0_1 a0_2 l0_3 l0_4 0 0).bind fun bt223 => (some (bt223.1, bt223.2.1, bt223.2.2.1, bt223.2.2.2.1, bt223.2.2.2.2))
set_option maxHeartbeats 8000000 in
set_option maxRecDepth 100000 in
theorem touchstoneref5_Copy.calls (k : Nat) (a0_0 : Int) (a0_1 : Int) (a0_2 : ByteArray) (A0_3 : Option Addr) (c0_3 : Nat) (l0_3 : List (S76)) (A0_4 : Option Addr) (c0_4 : Nat) (l0_4 : List (S27)) (r1 : Int) (r2 : Int) (r3 : ByteArray) (r4 : List (S76)) (r5 : List (S27)) (w : World) (hr0_3 : Kd.C k76 w A0_3 l0_3.length l0_3) (hc0_3 : l0_3.length ≤ c0_3) (hr0_4 : Kd.C k27 w A0_4 l0_4.length l0_4) (hc0_4 : l0_4.length ≤ c0_4) (h : touchstoneref5_Copy.f k a0_0 a0_1 a0_2 l0_3 l0_4 = some (r1, r2, r3, r4, r5)) :
  Calls Try.prog 52 #[.agg #[.int .i64 a0_0, .int .i64 a0_1, .string a0_2, .slice A0_3 l0_3.length c0_3, .slice A0_4 l0_4.length c0_4]] w fun e w' => ∃ v3_ v4_ : Value, e = .returned (.agg #[.int .i64 r1, .int .i64 r2, .string r3, v3_, v4_]) ∧ Kd.R k76 76 w' w.heap.size (fun _ => True) v3_ r4 ∧ Kd.R k27 27 w' w.heap.size (fun k_ => some k_ ≠ (v3_ : Value).ownBlock) v4_ r5 ∧ Below w.heap.size w w' := by
 have hu27 := Try.underlying27
 have HR0_3 := aS hr0_3
 have HC0_3 := aS hc0_3
 clear hr0_3 hc0_3
 have HR0_4 := aS hr0_4
 have HC0_4 := aS hc0_4
 clear hr0_4 hc0_4
 have HB := aS (Below.refl w.heap.size w)
 have H : ((touchstoneref5_lift.f k a0_0 a0_1 a0_2 l0_3 l0_4 0 0).bind fun bt223 => (some (bt223.1, bt223.2.1, bt223.2.2.1, bt223.2.2.2.1, bt223.2.2.2.2))) = some (r1, r2, r3, r4, r5) := h
 clear h
 replace H := Option.bind_eq_some_iff.mp H
 obtain ⟨⟨t223, t224, t225, t226, t229⟩, A20, H⟩ := H
 try dsimp only at H
 have A2 := aS A20
 clear A20
 simp only [Option.some.injEq, Prod.mk.injEq] at H
 obtain ⟨rfl, rfl, rfl, rfl, rfl⟩ := H
 go_enter Try.func52, Try.ntmps52
 go_wp2_with (first | ((with_reducible refine gate_dst (N := 1) rfl ?_); refine box_event ?hg (N := 1) ?hd (cs := #[.int .i64 a0_0, .int .i64 a0_1, .string a0_2, .slice A0_3 l0_3.length c0_3, .slice A0_4 l0_4.length c0_4]) (t := 27) ?hr ?_; (case hd => rfl); (case hg => rfl); (case hr => first | (go_simp; done) | (go_simp; rfl)); intro gb221 hg w3 hbox hb; have BK221 := aS (hbox); have GW221 := aS ((by rw [hg]; exact (below_size (hbk HB)) : w.heap.size ≤ gb221)); have GE221 := aS ((by rw [hg]; exact (below_size (hbk HB)) : w.heap.size ≤ gb221)); replace HB := Hs HB hb; clear hb hbox hg) | ((with_reducible refine gate_dst (N := 2) rfl ?_); refine box_event ?hg (N := 2) ?hd (cs := #[.int .i64 0, .int .i64 0, .string (⟨#[]⟩ : ByteArray), .slice none 0 0, .slice none 0 0]) (t := 27) ?hr ?_; (case hd => rfl); (case hg => rfl); (case hr => first | (go_simp; done) | (go_simp; rfl)); intro gb222 hg w4 hbox hb; have BK222 := aS (hbox); have GW222 := aS ((by rw [hg]; exact (below_size (hbk HB)) : w.heap.size ≤ gb222)); have GE222 := aS ((by rw [hg]; exact (below_size (hbk HB)) : w.heap.size ≤ gb222)); replace HB := Hs HB hb; have NB221_222 := aS ((by rw [hg]; exact Nat.ne_of_lt (blk_lt (bkw BK221)) : gb221 ≠ gb222)); have NB222_221 := aS ((by rw [hg]; exact Nat.ne_of_gt (blk_lt (bkw BK221)) : gb222 ≠ gb221)); replace BK221 := Bk BK221 hb; clear hb hbox hg; have hnb5 := NB221_222.out; have hnc5 := NB222_221.out; obtain ⟨hcz6_0, hcz6_1, hcz6_2, hcz6_3, hcz6_4⟩ := cl5 BK221; obtain ⟨hfz6_0, hfz6_1, hfz6_2, hfz6_3, hfz6_4⟩ := fz5 BK221) | ((with_reducible refine gate_callee (f := 79) rfl ?_); refine goesL_ (some 4) rfl rfl Try.func79 (by kernel_rfl) rfl #[.agg #[.int .i64 a0_0, .int .i64 a0_1, .string a0_2, .slice A0_3 l0_3.length c0_3, .slice A0_4 l0_4.length c0_4], .int .i64 0, .int .i64 0] rfl bl ?_; (with_reducible refine (touchstoneref5_lift.calls k a0_0 a0_1 a0_2 _ _ l0_3 _ _ l0_4 0 0 t223 t224 t225 t226 t229 _ ?side1 ?side2 ?side3 ?side4 A2.out).mono ?_); (case side1 => exact cr (Kd.C_below HR0_3.out HB.out)); (case side2 => exact HC0_3.out); (case side3 => exact cr (Kd.C_below HR0_4.out HB.out)); (case side4 => exact HC0_4.out); rintro e w7 ⟨v227, v230, rfl, ho0, ho1, hb⟩; refine ⟨_, rfl, ?_⟩; have HO228 := aS (Kd.R_lower ho0 (below_size (hbk HB))); have HO231 := aS (Kd.R_lower (Kd.R_newB (Kd.R_newB ho1 (bkw BK221)) (bkw BK222)) (below_size (hbk HB))); replace BK221 := Bk BK221 hb; replace BK222 := Bk BK222 hb; replace HB := Hs HB hb; (try clear hb); (try clear hb2); (try clear hk); (try clear hi); (try clear ho0); (try clear ho1); obtain ⟨hcz8_0, hcz8_1, hcz8_2, hcz8_3, hcz8_4⟩ := cl5 BK222; obtain ⟨hfz8_0, hfz8_1, hfz8_2, hfz8_3, hfz8_4⟩ := fz5 BK222; obtain ⟨Ao9, co9, eo9⟩ := Kd.R_slice HO228.out; subst eo9; obtain ⟨Ao10, co10, eo10⟩ := Kd.R_slice HO231.out; subst eo10))
 refine bodyPost_ret (results_cell_row rfl _ _ gb222 27 #[.int .i64 t223, .int .i64 t224, .string t225, .slice Ao9 t226.length co9, .slice Ao10 t229.length co10] (0, 0) _ rfl (by (with_reducible repeat (first | refine blk_drewN ?_ _ | refine blk_drew ?_ | refine blk_alloc ?_ _)); refine blk_put (cs := #[.int .i64 t223, .int .i64 t224, .string t225, .slice Ao9 t226.length co9, .slice none 0 0]) ?_ 4 _ rfl; (with_reducible repeat (first | refine blk_drewN ?_ _ | refine blk_drew ?_ | refine blk_alloc ?_ _)); refine blk_put (cs := #[.int .i64 t223, .int .i64 t224, .string t225, .slice none 0 0, .slice none 0 0]) ?_ 3 _ rfl; (with_reducible repeat (first | refine blk_drewN ?_ _ | refine blk_drew ?_ | refine blk_alloc ?_ _)); refine blk_put (cs := #[.int .i64 t223, .int .i64 t224, .string (⟨#[]⟩ : ByteArray), .slice none 0 0, .slice none 0 0]) ?_ 2 _ rfl; (with_reducible repeat (first | refine blk_drewN ?_ _ | refine blk_drew ?_ | refine blk_alloc ?_ _)); refine blk_put (cs := #[.int .i64 t223, .int .i64 0, .string (⟨#[]⟩ : ByteArray), .slice none 0 0, .slice none 0 0]) ?_ 1 _ rfl; (with_reducible repeat (first | refine blk_drewN ?_ _ | refine blk_drew ?_ | refine blk_alloc ?_ _)); refine blk_put (cs := #[.int .i64 0, .int .i64 0, .string (⟨#[]⟩ : ByteArray), .slice none 0 0, .slice none 0 0]) ?_ 0 _ rfl; (with_reducible repeat (first | refine blk_drewN ?_ _ | refine blk_drew ?_ | refine blk_alloc ?_ _)); exact BK222.out) Try.underlying27 rfl (by kernel_rfl)) rfl ?_
 exact ⟨_, _, by first | rfl | (simp [errW_none, errW_some] <;> rfl) | (simp [*, errW_none, errW_some] <;> rfl), by (with_reducible repeat (first | apply Kd.R_alloc | apply Kd.R_drewN | apply Kd.R_drew)); exact Kd.R_mono (Kd.R_far (p := ⟨gb222, 4, none⟩) (Kd.R_far (p := ⟨gb222, 3, none⟩) (Kd.R_far (p := ⟨gb222, 2, none⟩) (Kd.R_far (p := ⟨gb222, 1, none⟩) (Kd.R_far (p := ⟨gb222, 0, none⟩) (Kd.R_types HO228.out BK222.out (by decide)) (fun _ hk => hk.2) (.int .i64 t223)) (fun _ hk => hk.2) (.int .i64 t224)) (fun _ hk => hk.2) (.string t225)) (fun _ hk => hk.2) (.slice Ao9 t226.length co9)) (fun _ hk => hk.2) (.slice Ao10 t229.length co10)) (fun _ hk => trivial), by (with_reducible repeat (first | apply Kd.R_alloc | apply Kd.R_drewN | apply Kd.R_drew)); exact Kd.R_mono (Kd.R_far (p := ⟨gb222, 4, none⟩) (Kd.R_far (p := ⟨gb222, 3, none⟩) (Kd.R_far (p := ⟨gb222, 2, none⟩) (Kd.R_far (p := ⟨gb222, 1, none⟩) (Kd.R_far (p := ⟨gb222, 0, none⟩) (Kd.R_mono HO231.out (fun k_ hk => (⟨hk, hk.2⟩ : _ ∧ k_ ≠ gb222))) (fun _ hk => hk.2) (.int .i64 t223)) (fun _ hk => hk.2) (.int .i64 t224)) (fun _ hk => hk.2) (.string t225)) (fun _ hk => hk.2) (.slice Ao9 t226.length co9)) (fun _ hk => hk.2) (.slice Ao10 t229.length co10)) (fun _ hk => hk.1.1.1), hbk HB⟩
def touchstoneref5_App.f (k : Nat) (a0_0 : Int) (a0_1 : Int) (a0_2 : ByteArray) (l0_3 : List (S76)) (l0_4 : List (S27)) (a1_0 : Int) (a1_1 : Int) (a1_2 : ByteArray) (l1_3 : List (S76)) (l1_4 : List (S27)) : Option (Int × Int × ByteArray × (List (S76)) × (List (S27))) := (touchstoneref5_Copy.f k a1_0 a1_1 a1_2 l1_3 l1_4).bind fun bt235 => (some (3, 0, (⟨#[]⟩ : ByteArray), ([] : List (S76)), (([(⟨a0_0, a0_1, a0_2, l0_3, l0_4⟩ : S27), (⟨bt235.1, bt235.2.1, bt235.2.2.1, bt235.2.2.2.1, bt235.2.2.2.2⟩ : S27)] : List (S27)))))
set_option maxHeartbeats 8000000 in
set_option maxRecDepth 100000 in
theorem touchstoneref5_App.calls (k : Nat) (a0_0 : Int) (a0_1 : Int) (a0_2 : ByteArray) (P0_3_ : Nat → Prop) (A0_3 : Option Addr) (c0_3 : Nat) (l0_3 : List (S76)) (P0_4_ : Nat → Prop) (A0_4 : Option Addr) (c0_4 : Nat) (l0_4 : List (S27)) (a1_0 : Int) (a1_1 : Int) (a1_2 : ByteArray) (A1_3 : Option Addr) (c1_3 : Nat) (l1_3 : List (S76)) (A1_4 : Option Addr) (c1_4 : Nat) (l1_4 : List (S27)) (r1 : Int) (r2 : Int) (r3 : ByteArray) (r4 : List (S76)) (r5 : List (S27)) (w : World) (hs0_3 : Kd.V k76 76 w w.heap.size (fun k_ => P0_3_ k_) (.slice A0_3 l0_3.length c0_3) l0_3) (hs0_4 : Kd.V k27 27 w w.heap.size (fun k_ => P0_4_ k_) (.slice A0_4 l0_4.length c0_4) l0_4) (hr1_3 : Kd.C k76 w A1_3 l1_3.length l1_3) (hc1_3 : l1_3.length ≤ c1_3) (hr1_4 : Kd.C k27 w A1_4 l1_4.length l1_4) (hc1_4 : l1_4.length ≤ c1_4) (h : touchstoneref5_App.f k a0_0 a0_1 a0_2 l0_3 l0_4 a1_0 a1_1 a1_2 l1_3 l1_4 = some (r1, r2, r3, r4, r5)) :
  Calls Try.prog 83 #[.agg #[.int .i64 a0_0, .int .i64 a0_1, .string a0_2, .slice A0_3 l0_3.length c0_3, .slice A0_4 l0_4.length c0_4], .agg #[.int .i64 a1_0, .int .i64 a1_1, .string a1_2, .slice A1_3 l1_3.length c1_3, .slice A1_4 l1_4.length c1_4]] w fun e w' => ∃ v3_ v4_ : Value, e = .returned (.agg #[.int .i64 r1, .int .i64 r2, .string r3, v3_, v4_]) ∧ Kd.N k76 76 w' w.heap.size (fun k_ => ((P0_3_ k_ ∨ P0_4_ k_) ∨ w.heap.size ≤ k_) ∧ some k_ ≠ (v4_ : Value).ownBlock) v3_ r4 ∧ Kd.N k27 27 w' w.heap.size (fun k_ => ((P0_3_ k_ ∨ P0_4_ k_) ∨ w.heap.size ≤ k_) ∧ some k_ ≠ (v3_ : Value).ownBlock) v4_ r5 ∧ Below w.heap.size w w' := by
 have hu27 := Try.underlying27
 have HO0_3 := aS (show Kd.V k76 76 w w.heap.size (fun k_ => ((P0_3_ k_ ∨ P0_4_ k_) ∨ w.heap.size ≤ k_)) (.slice A0_3 l0_3.length c0_3) l0_3 from Kd.V_mono hs0_3 (fun k_ hk => .inl (.inl hk)))
 have HO0_4 := aS (show Kd.V k27 27 w w.heap.size (fun k_ => ((P0_3_ k_ ∨ P0_4_ k_) ∨ w.heap.size ≤ k_)) (.slice A0_4 l0_4.length c0_4) l0_4 from Kd.V_mono hs0_4 (fun k_ hk => .inl (.inr hk)))
 have HR1_3 := aS hr1_3
 have HC1_3 := aS hc1_3
 clear hr1_3 hc1_3
 have HR1_4 := aS hr1_4
 have HC1_4 := aS hc1_4
 clear hr1_4 hc1_4
 have HB := aS (Below.refl w.heap.size w)
 have H : ((touchstoneref5_Copy.f k a1_0 a1_1 a1_2 l1_3 l1_4).bind fun bt235 => (some (3, 0, (⟨#[]⟩ : ByteArray), ([] : List (S76)), (([(⟨a0_0, a0_1, a0_2, l0_3, l0_4⟩ : S27), (⟨bt235.1, bt235.2.1, bt235.2.2.1, bt235.2.2.2.1, bt235.2.2.2.2⟩ : S27)] : List (S27)))))) = some (r1, r2, r3, r4, r5) := h
 clear h
 replace H := Option.bind_eq_some_iff.mp H
 obtain ⟨⟨t235, t236, t237, t238, t241⟩, A30, H⟩ := H
 try dsimp only at H
 have A3 := aS A30
 clear A30
 obtain ⟨y244, hy244⟩ : ∃ y_ : List (S27), y_ = (([(⟨a0_0, a0_1, a0_2, l0_3, l0_4⟩ : S27), (⟨t235, t236, t237, t238, t241⟩ : S27)] : List (S27))) := ⟨_, rfl⟩
 replace H : (some (3, 0, (⟨#[]⟩ : ByteArray), ([] : List (S76)), y244)) = some (r1, r2, r3, r4, r5) := by first | (rw [hy244]; with_reducible exact H) | (have H2_ := (Option.bind_some _ _).symm.trans H; rw [hy244]; with_reducible exact H2_) | (have H2_ := (Option.bind_some _ _).symm.trans H; with_reducible exact H2_) | with_reducible exact H | (rw [hy244]; exact H) | exact H
 have Ny244 := aS hy244
 clear hy244
 simp only [Option.some.injEq, Prod.mk.injEq] at H
 obtain ⟨rfl, rfl, rfl, rfl, rfl⟩ := H
 go_enter Try.func83, Try.ntmps83
 try go_wp2_with (first | ((with_reducible refine gate_dst (N := 2) rfl ?_); refine box_event ?hg (N := 2) ?hd (cs := #[.int .i64 a0_0, .int .i64 a0_1, .string a0_2, .slice A0_3 l0_3.length c0_3, .slice A0_4 l0_4.length c0_4]) (t := 27) ?hr ?_; (case hd => rfl); (case hg => rfl); (case hr => first | (go_simp; done) | (go_simp; rfl)); intro gb232 hg w4 hbox hb; replace HO0_3 := aS (Kd.V_below (Kd.V_elderB (by (with_reducible repeat (first | apply Kd.V_alloc | apply Kd.V_drewN | apply Kd.V_drew)); exact HO0_3.out) gb232 (Nat.le_of_eq hg.symm)) hb); replace HO0_4 := aS (Kd.V_below (Kd.V_elderB (by (with_reducible repeat (first | apply Kd.V_alloc | apply Kd.V_drewN | apply Kd.V_drew)); exact HO0_4.out) gb232 (Nat.le_of_eq hg.symm)) hb); have BK232 := aS (hbox); have GW232 := aS ((by rw [hg]; exact (below_size (hbk HB)) : w.heap.size ≤ gb232)); have GE232 := aS ((by rw [hg]; exact (below_size (hbk HB)) : w.heap.size ≤ gb232)); replace HB := Hs HB hb; clear hb hbox hg) | ((with_reducible refine gate_dst (N := 3) rfl ?_); refine box_event ?hg (N := 3) ?hd (cs := #[.int .i64 a1_0, .int .i64 a1_1, .string a1_2, .slice A1_3 l1_3.length c1_3, .slice A1_4 l1_4.length c1_4]) (t := 27) ?hr ?_; (case hd => rfl); (case hg => rfl); (case hr => first | (go_simp; done) | (go_simp; rfl)); intro gb233 hg w5 hbox hb; replace HO0_3 := aS (Kd.V_below (Kd.V_elderB (by (with_reducible repeat (first | apply Kd.V_alloc | apply Kd.V_drewN | apply Kd.V_drew)); exact HO0_3.out) gb233 (Nat.le_of_eq hg.symm)) hb); replace HO0_4 := aS (Kd.V_below (Kd.V_elderB (by (with_reducible repeat (first | apply Kd.V_alloc | apply Kd.V_drewN | apply Kd.V_drew)); exact HO0_4.out) gb233 (Nat.le_of_eq hg.symm)) hb); have BK233 := aS (hbox); have GW233 := aS ((by rw [hg]; exact (below_size (hbk HB)) : w.heap.size ≤ gb233)); have GE233 := aS ((by rw [hg]; exact (below_size (hbk HB)) : w.heap.size ≤ gb233)); replace HB := Hs HB hb; have NB232_233 := aS ((by rw [hg]; exact Nat.ne_of_lt (blk_lt (bkw BK232)) : gb232 ≠ gb233)); have NB233_232 := aS ((by rw [hg]; exact Nat.ne_of_gt (blk_lt (bkw BK232)) : gb233 ≠ gb232)); replace BK232 := Bk BK232 hb; clear hb hbox hg) | ((with_reducible refine gate_dst (N := 4) rfl ?_); refine box_event ?hg (N := 4) ?hd (cs := #[.int .i64 0, .int .i64 0, .string (⟨#[]⟩ : ByteArray), .slice none 0 0, .slice none 0 0]) (t := 27) ?hr ?_; (case hd => rfl); (case hg => rfl); (case hr => first | (go_simp; done) | (go_simp; rfl)); intro gb234 hg w6 hbox hb; replace HO0_3 := aS (Kd.V_below (Kd.V_elderB (by (with_reducible repeat (first | apply Kd.V_alloc | apply Kd.V_drewN | apply Kd.V_drew)); exact HO0_3.out) gb234 (Nat.le_of_eq hg.symm)) hb); replace HO0_4 := aS (Kd.V_below (Kd.V_elderB (by (with_reducible repeat (first | apply Kd.V_alloc | apply Kd.V_drewN | apply Kd.V_drew)); exact HO0_4.out) gb234 (Nat.le_of_eq hg.symm)) hb); have BK234 := aS (hbox); have GW234 := aS ((by rw [hg]; exact (below_size (hbk HB)) : w.heap.size ≤ gb234)); have GE234 := aS ((by rw [hg]; exact (below_size (hbk HB)) : w.heap.size ≤ gb234)); replace HB := Hs HB hb; have NB232_234 := aS ((by rw [hg]; exact Nat.ne_of_lt (blk_lt (bkw BK232)) : gb232 ≠ gb234)); have NB234_232 := aS ((by rw [hg]; exact Nat.ne_of_gt (blk_lt (bkw BK232)) : gb234 ≠ gb232)); replace BK232 := Bk BK232 hb; have NB233_234 := aS ((by rw [hg]; exact Nat.ne_of_lt (blk_lt (bkw BK233)) : gb233 ≠ gb234)); have NB234_233 := aS ((by rw [hg]; exact Nat.ne_of_gt (blk_lt (bkw BK233)) : gb234 ≠ gb233)); replace BK233 := Bk BK233 hb; clear hb hbox hg))
 replace HO0_3 := aS (Kd.V_drew HO0_3.out)
 replace HO0_4 := aS (Kd.V_drew HO0_4.out)
 replace BK232 := aS (blk_drew BK232.out)
 replace BK233 := aS (blk_drew BK233.out)
 replace BK234 := aS (blk_drew BK234.out)
 replace HB := aS (below_drew1 HB.out)
 refine start_ (n := 6) (S := fun w' => w'.cell? ⟨gb232, 0, none⟩ = some (.int .i64 a0_0) ∧ w'.cell? ⟨gb232, 1, none⟩ = some (.int .i64 a0_1) ∧ w'.cell? ⟨gb232, 2, none⟩ = some (.string a0_2) ∧ w'.cell? ⟨gb232, 3, none⟩ = some (.slice A0_3 l0_3.length c0_3) ∧ w'.cell? ⟨gb232, 4, none⟩ = some (.slice A0_4 l0_4.length c0_4) ∧ w'.cell? ⟨gb233, 0, none⟩ = some (.int .i64 a1_0) ∧ w'.cell? ⟨gb233, 1, none⟩ = some (.int .i64 a1_1) ∧ w'.cell? ⟨gb233, 2, none⟩ = some (.string a1_2) ∧ w'.cell? ⟨gb233, 3, none⟩ = some (.slice A1_3 l1_3.length c1_3) ∧ w'.cell? ⟨gb233, 4, none⟩ = some (.slice A1_4 l1_4.length c1_4)) (ds := []) #[false, false, false, false, false, false] (by kernel_rfl) rfl rfl ⟨cz BK232 0, cz BK232 1, cz BK232 2, cz BK232 3, cz BK232 4, cz BK233 0, cz BK233 1, cz BK233 2, cz BK233 3, cz BK233 4⟩ (fun hHeld => ?_)
 generalize w6.drew = w7 at HO0_3 HO0_4 BK232 BK233 BK234 HB hHeld ⊢
 refine take_ (i := 0) (N := some 5) (v := ?_) (a' := ?_) #[true, false, false, false, false, false] rfl rfl (by kernel_rfl) (fun _ _ _ h => h) (Or.inl ⟨by rfl, ?_⟩) hHeld ?_ ?_
 rotate_left
 ·rintro w' ⟨s0, s1, s2, s3, s4, s5, s6, s7, s8, s9⟩
  go_simp
  with_reducible rfl
 rotate_left
 ·simp only [Act.put, List.setIfInBounds_toArray, List.set_cons_zero, List.set_cons_succ, i64_w, i32_w]
  rfl
 refine take_ (i := 1) (N := some 6) (v := ?_) (a' := ?_) #[true, true, false, false, false, false] rfl rfl (by kernel_rfl) (fun _ _ _ h => h) (Or.inl ⟨by rfl, ?_⟩) hHeld ?_ ?_
 rotate_left
 ·rintro w' ⟨s0, s1, s2, s3, s4, s5, s6, s7, s8, s9⟩
  go_simp
  with_reducible rfl
 rotate_left
 ·simp only [Act.put, List.setIfInBounds_toArray, List.set_cons_zero, List.set_cons_succ, i64_w, i32_w]
  rfl
 refine one_ (i := 2) (N := some 7) #[true, true, true, false, false, false] rfl rfl (by kernel_rfl) (by decide) (fun K hK => ?_)
 refine goes_ Try.func52 (by kernel_rfl) rfl #[.agg #[.int .i64 a1_0, .int .i64 a1_1, .string a1_2, .slice A1_3 l1_3.length c1_3, .slice A1_4 l1_4.length c1_4]] (by rfl) rfl rfl bl ?_
 with_reducible refine (touchstoneref5_Copy.calls k a1_0 a1_1 a1_2 _ _ l1_3 _ _ l1_4 t235 t236 t237 t238 t241 _ ?side1 ?side2 ?side3 ?side4 A3.out).mono ?_
 (case side1 => exact cr (Kd.C_below HR1_3.out HB.out))
 (case side2 => exact HC1_3.out)
 (case side3 => exact cr (Kd.C_below HR1_4.out HB.out))
 (case side4 => exact HC1_4.out)
 rintro e w8 ⟨v239, v242, rfl, ho0, ho1, hb⟩
 refine ⟨_, rfl, ?_⟩
 replace HO0_3 := aS (Kd.V_mono (Kd.V_told (Kd.V_told (Kd.V_old (by (with_reducible repeat (first | apply Kd.V_alloc | apply Kd.V_drewN | apply Kd.V_drew)); exact HO0_3.out) hb) (nb ho0)) (nb ho1)) (fun _ h_ => h_.1))
 replace HO0_4 := aS (Kd.V_mono (Kd.V_told (Kd.V_told (Kd.V_old (by (with_reducible repeat (first | apply Kd.V_alloc | apply Kd.V_drewN | apply Kd.V_drew)); exact HO0_4.out) hb) (nb ho0)) (nb ho1)) (fun _ h_ => h_.1))
 have HO240 := aS (Kd.N_lower (Kd.N_mono (ok' := fun k_ => ((P0_3_ k_ ∨ P0_4_ k_) ∨ w.heap.size ≤ k_) ∧ some k_ ≠ (v242 : Value).ownBlock ∧ k_ ≠ gb232 ∧ k_ ≠ gb233 ∧ k_ ≠ gb234) (Kd.R_N (Kd.R_bound (Kd.R_apart' ho0 (Kd.R_typed ho1) (by decide)))) (fun k_ hk_ => ⟨(.inr (Nat.le_trans (below_size (hbk HB)) hk_.2.1)), hk_.1.2, (Kd.freshB (bkw BK232) k_ hk_.2.1), (Kd.freshB (bkw BK233) k_ hk_.2.1), (Kd.freshB (bkw BK234) k_ hk_.2.1)⟩)) (below_size (hbk HB)))
 have HO243 := aS (Kd.N_lower (Kd.N_mono (ok' := fun k_ => ((P0_3_ k_ ∨ P0_4_ k_) ∨ w.heap.size ≤ k_) ∧ some k_ ≠ (v239 : Value).ownBlock ∧ k_ ≠ gb232 ∧ k_ ≠ gb233 ∧ k_ ≠ gb234) (Kd.R_N (Kd.R_bound ho1)) (fun k_ hk_ => ⟨(.inr (Nat.le_trans (below_size (hbk HB)) hk_.2.1)), hk_.1, (Kd.freshB (bkw BK232) k_ hk_.2.1), (Kd.freshB (bkw BK233) k_ hk_.2.1), (Kd.freshB (bkw BK234) k_ hk_.2.1)⟩)) (below_size (hbk HB)))
 replace BK232 := Bk BK232 hb
 replace BK233 := Bk BK233 hb
 replace BK234 := Bk BK234 hb
 replace HB := Hs HB hb
 (try clear hb)
 (try clear hb2)
 (try clear hk)
 (try clear hi)
 (try clear ho0)
 (try clear ho1)
 obtain ⟨Ao9, co9, eo9⟩ := Kd.N_slice HO240.out
 (first | subst eo9 | (injection eo9 with f1_ f2_ f3_; have f4_ := f1_.symm; have f5_ := f3_.symm; clear f1_ f2_ f3_; subst f4_; subst f5_))
 obtain ⟨Ao10, co10, eo10⟩ := Kd.N_slice HO243.out
 (first | subst eo10 | (injection eo10 with f1_ f2_ f3_; have f4_ := f1_.symm; have f5_ := f3_.symm; clear f1_ f2_ f3_; subst f4_; subst f5_))
 refine hK.out _ _ ⟨cz BK232 0, cz BK232 1, cz BK232 2, cz BK232 3, cz BK232 4, cz BK233 0, cz BK233 1, cz BK233 2, cz BK233 3, cz BK233 4⟩ (fun hHeld => ?_)
 clear hK K
 refine norm_ (a' := ?_) ?_ ?_
 rotate_left
 ·exact ap
 refine one_ (i := 3) (N := some 8) #[true, true, true, true, false, false] rfl rfl (by kernel_rfl) (by decide) (fun K hK => ?_)
 refine Kd.N_lit_step k27 _ 27 ?hg (N' := 8) ?hd (xs := ([(⟨a0_0, a0_1, a0_2, l0_3, l0_4⟩ : S27), (⟨t235, t236, t237, t238, t241⟩ : S27)] : List (S27))) (inner := [.int .i64 a0_0, .int .i64 a0_1, .string a0_2, .slice A0_3 l0_3.length c0_3, .slice A0_4 l0_4.length c0_4, .int .i64 t235, .int .i64 t236, .string t237, .slice Ao9 t238.length co9, .slice Ao10 t241.length co10]) (ok := (fun k_ => ((P0_3_ k_ ∨ P0_4_ k_) ∨ w.heap.size ≤ k_) ∧ k_ ≠ gb232 ∧ k_ ≠ gb233 ∧ k_ ≠ gb234)) (okp := (fun k_ => ((P0_3_ k_ ∨ P0_4_ k_) ∨ w.heap.size ≤ k_) ∧ k_ ≠ gb232 ∧ k_ ≠ gb233 ∧ k_ ≠ gb234)) ?hr ?hp (fun _ hk => hk) ((show ∀ k_, w8.heap.size ≤ k_ → (fun k_ => ((P0_3_ k_ ∨ P0_4_ k_) ∨ w.heap.size ≤ k_) ∧ k_ ≠ gb232 ∧ k_ ≠ gb233 ∧ k_ ≠ gb234) k_ from fun k_ hk => ⟨(.inr (Nat.le_trans (below_size (hbk HB)) hk)), Kd.freshB (bkw BK232) k_ hk, Kd.freshB (bkw BK233) k_ hk, Kd.freshB (bkw BK234) k_ hk⟩) _ (Nat.le_refl _)) (Below.refl _ _) (Nat.le_refl _) (by simp) ?_; (case hd => rfl); (case hg => rfl); (case hr => first | (go_simp; done) | (go_simp; rfl)); (case hp => exact (Reps.c5 (show Kd.FK k27 _ _ (⟨a0_0, a0_1, a0_2, l0_3, l0_4⟩ : S27) [.int .i64 a0_0, .int .i64 a0_1, .string a0_2, .slice A0_3 l0_3.length c0_3, .slice A0_4 l0_4.length c0_4] from (k27_mkF _ _ (⟨a0_0, a0_1, a0_2, l0_3, l0_4⟩ : S27) (Kd.V_reads' (Kd.V_mono (ok' := (fun k_ => ((P0_3_ k_ ∨ P0_4_ k_) ∨ w.heap.size ≤ k_) ∧ k_ ≠ gb232 ∧ k_ ≠ gb233 ∧ k_ ≠ gb234)) (HO0_3.out) (fun k_ hk => ⟨hk.1.1.1.1.1, ⟨hk.1.1.1.1.2, ⟨hk.1.1.1.2, hk.1.1.2⟩⟩⟩))).2.1 (Kd.V_F (Kd.V_mono (ok' := (fun k_ => ((P0_3_ k_ ∨ P0_4_ k_) ∨ w.heap.size ≤ k_) ∧ k_ ≠ gb232 ∧ k_ ≠ gb233 ∧ k_ ≠ gb234)) (HO0_3.out) (fun k_ hk => ⟨hk.1.1.1.1.1, ⟨hk.1.1.1.1.2, ⟨hk.1.1.1.2, hk.1.1.2⟩⟩⟩))) (Kd.V_reads' (Kd.V_mono (ok' := (fun k_ => ((P0_3_ k_ ∨ P0_4_ k_) ∨ w.heap.size ≤ k_) ∧ k_ ≠ gb232 ∧ k_ ≠ gb233 ∧ k_ ≠ gb234)) (HO0_4.out) (fun k_ hk => ⟨hk.1.1.1.1.1, ⟨hk.1.1.1.1.2, ⟨hk.1.1.1.2, hk.1.1.2⟩⟩⟩))).2.1 (Kd.V_F (Kd.V_mono (ok' := (fun k_ => ((P0_3_ k_ ∨ P0_4_ k_) ∨ w.heap.size ≤ k_) ∧ k_ ≠ gb232 ∧ k_ ≠ gb233 ∧ k_ ≠ gb234)) (HO0_4.out) (fun k_ hk => ⟨hk.1.1.1.1.1, ⟨hk.1.1.1.1.2, ⟨hk.1.1.1.2, hk.1.1.2⟩⟩⟩))))) (Reps.c5 (show Kd.FK k27 _ _ (⟨t235, t236, t237, t238, t241⟩ : S27) [.int .i64 t235, .int .i64 t236, .string t237, .slice Ao9 t238.length co9, .slice Ao10 t241.length co10] from (k27_mkF _ _ (⟨t235, t236, t237, t238, t241⟩ : S27) (Kd.N_reads' (Kd.N_mono (ok' := (fun k_ => ((P0_3_ k_ ∨ P0_4_ k_) ∨ w.heap.size ≤ k_) ∧ k_ ≠ gb232 ∧ k_ ≠ gb233 ∧ k_ ≠ gb234)) (HO240.out) (fun k_ hk => ⟨hk.1, ⟨hk.2.2.1, ⟨hk.2.2.2.1, hk.2.2.2.2⟩⟩⟩))).2.1 (Kd.N_F (Kd.N_mono (ok' := (fun k_ => ((P0_3_ k_ ∨ P0_4_ k_) ∨ w.heap.size ≤ k_) ∧ k_ ≠ gb232 ∧ k_ ≠ gb233 ∧ k_ ≠ gb234)) (HO240.out) (fun k_ hk => ⟨hk.1, ⟨hk.2.2.1, ⟨hk.2.2.2.1, hk.2.2.2.2⟩⟩⟩))) (Kd.N_reads' (Kd.N_mono (ok' := (fun k_ => ((P0_3_ k_ ∨ P0_4_ k_) ∨ w.heap.size ≤ k_) ∧ k_ ≠ gb232 ∧ k_ ≠ gb233 ∧ k_ ≠ gb234)) (HO243.out) (fun k_ hk => ⟨hk.1, ⟨hk.2.2.1, ⟨hk.2.2.2.1, hk.2.2.2.2⟩⟩⟩))).2.1 (Kd.N_F (Kd.N_mono (ok' := (fun k_ => ((P0_3_ k_ ∨ P0_4_ k_) ∨ w.heap.size ≤ k_) ∧ k_ ≠ gb232 ∧ k_ ≠ gb233 ∧ k_ ≠ gb234)) (HO243.out) (fun k_ hk => ⟨hk.1, ⟨hk.2.2.1, ⟨hk.2.2.2.1, hk.2.2.2.2⟩⟩⟩))))) (Reps.none _ _))))
 intro v245 w11 ho12 hb hg_ hnew_
 clear hg_ hnew_
 (first | rw [← Ny244.out] at ho12 | (simp only [Int.reduceToNat] at ho12; rw [← Ny244.out] at ho12))
 replace HO0_3 := aS (Kd.V_elder' (by (with_reducible repeat (first | apply Kd.V_alloc | apply Kd.V_drewN | apply Kd.V_drew)); exact HO0_3.out) (nb ho12) hb)
 replace HO0_4 := aS (Kd.V_elder' (by (with_reducible repeat (first | apply Kd.V_alloc | apply Kd.V_drewN | apply Kd.V_drew)); exact HO0_4.out) (nb ho12) hb)
 have HO246 := aS (Kd.N_lower ho12 (below_size (hbk HB)))
 replace BK232 := Bk BK232 hb
 replace BK233 := Bk BK233 hb
 replace BK234 := Bk BK234 hb
 replace HB := Hs HB hb
 clear HO240 HO243
 clear hb ho12
 obtain ⟨Ao13, co13, eo13⟩ := Kd.N_slice HO246.out
 (first | subst eo13 | (injection eo13 with f1_ f2_ f3_; have f4_ := f1_.symm; have f5_ := f3_.symm; clear f1_ f2_ f3_; subst f4_; subst f5_))
 refine hK.out _ _ ⟨cz BK232 0, cz BK232 1, cz BK232 2, cz BK232 3, cz BK232 4, cz BK233 0, cz BK233 1, cz BK233 2, cz BK233 3, cz BK233 4⟩ (fun hHeld => ?_)
 clear hK K
 refine norm_ (a' := ?_) ?_ ?_
 rotate_left
 ·exact ap
 refine pure_ (i := 4) (N := some 9) (v := ?_) (a' := ?_) #[true, true, true, true, true, false] rfl rfl (by kernel_rfl) (fun _ _ _ h => h) (Or.inl ⟨by rfl, ?_⟩) ?_ ?_
 rotate_left
 ·intro w'
  go_simp
  with_reducible rfl
 rotate_left
 ·simp only [Act.put, List.setIfInBounds_toArray, List.set_cons_zero, List.set_cons_succ, i64_w, i32_w]
  rfl
 refine one_ (i := 5) (N := none) #[true, true, true, true, true, true] rfl rfl (by kernel_rfl) (by decide) (fun K hK => ?_)
 have hs14 : w11.cell? ⟨gb234, 0, none⟩ = some (.int .i64 0) := cz BK234 0
 have hfs14 := blk_frozen BK234.out 0
 have hns14_0 := NB232_234.out
 have hns14_1 := NB233_234.out
 have hms14_0 := NB234_232.out
 have hms14_1 := NB234_233.out
 have hs15 : w11.cell? ⟨gb234, 1, none⟩ = some (.int .i64 0) := cz BK234 1
 have hfs15 := blk_frozen BK234.out 1
 have hns15_0 := NB232_234.out
 have hns15_1 := NB233_234.out
 have hms15_0 := NB234_232.out
 have hms15_1 := NB234_233.out
 have hs16 : w11.cell? ⟨gb234, 2, none⟩ = some (.string (⟨#[]⟩ : ByteArray)) := cz BK234 2
 have hfs16 := blk_frozen BK234.out 2
 have hns16_0 := NB232_234.out
 have hns16_1 := NB233_234.out
 have hms16_0 := NB234_232.out
 have hms16_1 := NB234_233.out
 have hs17 : w11.cell? ⟨gb234, 3, none⟩ = some (.slice none 0 0) := cz BK234 3
 have hfs17 := blk_frozen BK234.out 3
 have hns17_0 := NB232_234.out
 have hns17_1 := NB233_234.out
 have hms17_0 := NB234_232.out
 have hms17_1 := NB234_233.out
 have hs18 : w11.cell? ⟨gb234, 4, none⟩ = some (.slice none 0 0) := cz BK234 4
 have hfs18 := blk_frozen BK234.out 4
 have hns18_0 := NB232_234.out
 have hns18_1 := NB233_234.out
 have hms18_0 := NB234_232.out
 have hms18_1 := NB234_233.out
 refine skip_ (w1 := ?_) (by rfl) rfl ?_ ?_
 rotate_left
 ·go_simp
  rfl
 refine hK.out _ _ ⟨((cell_far (p := ⟨gb234, _, none⟩) NB232_234.out _).trans (((cell_far (p := ⟨gb234, _, none⟩) NB232_234.out _).trans (((cell_far (p := ⟨gb234, _, none⟩) NB232_234.out _).trans (((cell_far (p := ⟨gb234, _, none⟩) NB232_234.out _).trans (((cell_far (p := ⟨gb234, _, none⟩) NB232_234.out _).trans (hHeld.1)))))))))), ((cell_far (p := ⟨gb234, _, none⟩) NB232_234.out _).trans (((cell_far (p := ⟨gb234, _, none⟩) NB232_234.out _).trans (((cell_far (p := ⟨gb234, _, none⟩) NB232_234.out _).trans (((cell_far (p := ⟨gb234, _, none⟩) NB232_234.out _).trans (((cell_far (p := ⟨gb234, _, none⟩) NB232_234.out _).trans (hHeld.2.1)))))))))), ((cell_far (p := ⟨gb234, _, none⟩) NB232_234.out _).trans (((cell_far (p := ⟨gb234, _, none⟩) NB232_234.out _).trans (((cell_far (p := ⟨gb234, _, none⟩) NB232_234.out _).trans (((cell_far (p := ⟨gb234, _, none⟩) NB232_234.out _).trans (((cell_far (p := ⟨gb234, _, none⟩) NB232_234.out _).trans (hHeld.2.2.1)))))))))), ((cell_far (p := ⟨gb234, _, none⟩) NB232_234.out _).trans (((cell_far (p := ⟨gb234, _, none⟩) NB232_234.out _).trans (((cell_far (p := ⟨gb234, _, none⟩) NB232_234.out _).trans (((cell_far (p := ⟨gb234, _, none⟩) NB232_234.out _).trans (((cell_far (p := ⟨gb234, _, none⟩) NB232_234.out _).trans (hHeld.2.2.2.1)))))))))), ((cell_far (p := ⟨gb234, _, none⟩) NB232_234.out _).trans (((cell_far (p := ⟨gb234, _, none⟩) NB232_234.out _).trans (((cell_far (p := ⟨gb234, _, none⟩) NB232_234.out _).trans (((cell_far (p := ⟨gb234, _, none⟩) NB232_234.out _).trans (((cell_far (p := ⟨gb234, _, none⟩) NB232_234.out _).trans (hHeld.2.2.2.2.1)))))))))), ((cell_far (p := ⟨gb234, _, none⟩) NB233_234.out _).trans (((cell_far (p := ⟨gb234, _, none⟩) NB233_234.out _).trans (((cell_far (p := ⟨gb234, _, none⟩) NB233_234.out _).trans (((cell_far (p := ⟨gb234, _, none⟩) NB233_234.out _).trans (((cell_far (p := ⟨gb234, _, none⟩) NB233_234.out _).trans (hHeld.2.2.2.2.2.1)))))))))), ((cell_far (p := ⟨gb234, _, none⟩) NB233_234.out _).trans (((cell_far (p := ⟨gb234, _, none⟩) NB233_234.out _).trans (((cell_far (p := ⟨gb234, _, none⟩) NB233_234.out _).trans (((cell_far (p := ⟨gb234, _, none⟩) NB233_234.out _).trans (((cell_far (p := ⟨gb234, _, none⟩) NB233_234.out _).trans (hHeld.2.2.2.2.2.2.1)))))))))), ((cell_far (p := ⟨gb234, _, none⟩) NB233_234.out _).trans (((cell_far (p := ⟨gb234, _, none⟩) NB233_234.out _).trans (((cell_far (p := ⟨gb234, _, none⟩) NB233_234.out _).trans (((cell_far (p := ⟨gb234, _, none⟩) NB233_234.out _).trans (((cell_far (p := ⟨gb234, _, none⟩) NB233_234.out _).trans (hHeld.2.2.2.2.2.2.2.1)))))))))), ((cell_far (p := ⟨gb234, _, none⟩) NB233_234.out _).trans (((cell_far (p := ⟨gb234, _, none⟩) NB233_234.out _).trans (((cell_far (p := ⟨gb234, _, none⟩) NB233_234.out _).trans (((cell_far (p := ⟨gb234, _, none⟩) NB233_234.out _).trans (((cell_far (p := ⟨gb234, _, none⟩) NB233_234.out _).trans (hHeld.2.2.2.2.2.2.2.2.1)))))))))), ((cell_far (p := ⟨gb234, _, none⟩) NB233_234.out _).trans (((cell_far (p := ⟨gb234, _, none⟩) NB233_234.out _).trans (((cell_far (p := ⟨gb234, _, none⟩) NB233_234.out _).trans (((cell_far (p := ⟨gb234, _, none⟩) NB233_234.out _).trans (((cell_far (p := ⟨gb234, _, none⟩) NB233_234.out _).trans (hHeld.2.2.2.2.2.2.2.2.2))))))))))⟩ (fun hHeld => ?_)
 clear hK K
 refine done_ (by kernel_rfl) ?_
 try go_wp2
 refine bodyPost_ret (results_cell_row rfl _ _ gb234 27 #[.int .i64 3, .int .i64 0, .string (⟨#[]⟩ : ByteArray), .slice none 0 0, .slice Ao13 y244.length co13] (0, 0) _ rfl (by (with_reducible repeat (first | refine blk_drewN ?_ _ | refine blk_drew ?_ | refine blk_alloc ?_ _)); refine blk_put (cs := #[.int .i64 3, .int .i64 0, .string (⟨#[]⟩ : ByteArray), .slice none 0 0, .slice none 0 0]) ?_ 4 _ rfl; (with_reducible repeat (first | refine blk_drewN ?_ _ | refine blk_drew ?_ | refine blk_alloc ?_ _)); refine blk_put (cs := #[.int .i64 3, .int .i64 0, .string (⟨#[]⟩ : ByteArray), .slice none 0 0, .slice none 0 0]) ?_ 3 _ rfl; (with_reducible repeat (first | refine blk_drewN ?_ _ | refine blk_drew ?_ | refine blk_alloc ?_ _)); refine blk_put (cs := #[.int .i64 3, .int .i64 0, .string (⟨#[]⟩ : ByteArray), .slice none 0 0, .slice none 0 0]) ?_ 2 _ rfl; (with_reducible repeat (first | refine blk_drewN ?_ _ | refine blk_drew ?_ | refine blk_alloc ?_ _)); refine blk_put (cs := #[.int .i64 3, .int .i64 0, .string (⟨#[]⟩ : ByteArray), .slice none 0 0, .slice none 0 0]) ?_ 1 _ rfl; (with_reducible repeat (first | refine blk_drewN ?_ _ | refine blk_drew ?_ | refine blk_alloc ?_ _)); refine blk_put (cs := #[.int .i64 0, .int .i64 0, .string (⟨#[]⟩ : ByteArray), .slice none 0 0, .slice none 0 0]) ?_ 0 _ rfl; (with_reducible repeat (first | refine blk_drewN ?_ _ | refine blk_drew ?_ | refine blk_alloc ?_ _)); exact BK234.out) Try.underlying27 rfl (by kernel_rfl)) rfl ?_
 exact ⟨_, _, by first | rfl | (simp [errW_none, errW_some] <;> rfl) | (simp [*, errW_none, errW_some] <;> rfl), by first | exact Kd.R_nil _ _ _ _ _ | exact Kd.N_nil _ _ _ _ _ | exact Kd.V_nil _ _ _ _ _ | exact Kd.Q_nil _ _ _ _ _ | exact Kd.S_nil _ _ _ _ _, by (with_reducible repeat (first | apply Kd.N_alloc | apply Kd.N_drewN | apply Kd.N_drew)); exact Kd.N_mono (Kd.N_far (p := ⟨gb234, 4, none⟩) (Kd.N_far (p := ⟨gb234, 3, none⟩) (Kd.N_far (p := ⟨gb234, 2, none⟩) (Kd.N_far (p := ⟨gb234, 1, none⟩) (Kd.N_far (p := ⟨gb234, 0, none⟩) (Kd.N_mono HO246.out (fun k_ hk => (⟨hk, hk.2.2.2⟩ : _ ∧ k_ ≠ gb234))) (fun _ hk => hk.2) (.int .i64 3)) (fun _ hk => hk.2) (.int .i64 0)) (fun _ hk => hk.2) (.string (⟨#[]⟩ : ByteArray))) (fun _ hk => hk.2) (.slice none 0 0)) (fun _ hk => hk.2) (.slice Ao13 y244.length co13)) (fun _ hk => ⟨hk.1.1, (by simp [Value.ownBlock])⟩), hbk HB⟩
def touchstoneref5_Const.f (k : Nat) (a0 : ByteArray) (l1 : List (S76)) : Option (Int × Int × ByteArray × (List (S76)) × (List (S27))) := (touchstoneref5_leaf.f k 2 0 a0 l1 ([] : List (S27))).bind fun bt248 => (some (bt248.1, bt248.2.1, bt248.2.2.1, bt248.2.2.2.1, bt248.2.2.2.2))
set_option maxHeartbeats 8000000 in
set_option maxRecDepth 100000 in
theorem touchstoneref5_Const.calls (k : Nat) (a0 : ByteArray) (A1 : Option Addr) (c1 : Nat) (l1 : List (S76)) (r1 : Int) (r2 : Int) (r3 : ByteArray) (r4 : List (S76)) (r5 : List (S27)) (w : World) (hr1 : Kd.C k76 w A1 l1.length l1) (hc1 : l1.length ≤ c1) (h : touchstoneref5_Const.f k a0 l1 = some (r1, r2, r3, r4, r5)) :
  Calls Try.prog 84 #[.string a0, .slice A1 l1.length c1] w fun e w' => ∃ v3_ v4_ : Value, e = .returned (.agg #[.int .i64 r1, .int .i64 r2, .string r3, v3_, v4_]) ∧ Kd.R k76 76 w' w.heap.size (fun _ => True) v3_ r4 ∧ Kd.R k27 27 w' w.heap.size (fun k_ => some k_ ≠ (v3_ : Value).ownBlock) v4_ r5 ∧ Below w.heap.size w w' := by
 have hu27 := Try.underlying27
 have HR1 := aS hr1
 have HC1 := aS hc1
 clear hr1 hc1
 have HB := aS (Below.refl w.heap.size w)
 have H : ((touchstoneref5_leaf.f k 2 0 a0 l1 ([] : List (S27))).bind fun bt248 => (some (bt248.1, bt248.2.1, bt248.2.2.1, bt248.2.2.2.1, bt248.2.2.2.2))) = some (r1, r2, r3, r4, r5) := h
 clear h
 replace H := Option.bind_eq_some_iff.mp H
 obtain ⟨⟨t248, t249, t250, t251, t254⟩, A30, H⟩ := H
 try dsimp only at H
 have A3 := aS A30
 clear A30
 simp only [Option.some.injEq, Prod.mk.injEq] at H
 obtain ⟨rfl, rfl, rfl, rfl, rfl⟩ := H
 go_enter Try.func84, Try.ntmps84
 go_wp2_with (first | ((with_reducible refine gate_dst (N := 4) rfl ?_); refine box_event ?hg (N := 4) ?hd (cs := #[.int .i64 0, .int .i64 0, .string (⟨#[]⟩ : ByteArray), .slice none 0 0, .slice none 0 0]) (t := 27) ?hr ?_; (case hd => rfl); (case hg => rfl); (case hr => first | (go_simp; done) | (go_simp; rfl)); intro gb247 hg w4 hbox hb; have BK247 := aS (hbox); have GW247 := aS ((by rw [hg]; exact (below_size (hbk HB)) : w.heap.size ≤ gb247)); have GE247 := aS ((by rw [hg]; exact (below_size (hbk HB)) : w.heap.size ≤ gb247)); replace HB := Hs HB hb; clear hb hbox hg) | ((with_reducible refine gate_callee (f := 101) rfl ?_); refine goesL_ (some 8) rfl rfl Try.func101 (by kernel_rfl) rfl #[.agg #[.int .i64 2, .int .i64 0, .string a0, .slice A1 l1.length c1, .slice none 0 0]] rfl bl ?_; (refine (touchstoneref5_leaf.calls k 2 0 a0 _ _ l1 _ _ ([] : List (S27)) t248 t249 t250 t251 t254 _ ?side1 ?side2 ?side3 ?side4 A3.out).mono ?_); (case side1 => exact cr (Kd.C_below HR1.out HB.out)); (case side2 => exact HC1.out); (case side3 => exact Kd.C_nil _ _); (case side4 => exact Nat.le_refl _); rintro e w5 ⟨v252, v255, rfl, ho0, ho1, hb⟩; refine ⟨_, rfl, ?_⟩; have HO253 := aS (Kd.R_lower ho0 (below_size (hbk HB))); have HO256 := aS (Kd.R_lower (Kd.R_newB ho1 (bkw BK247)) (below_size (hbk HB))); replace BK247 := Bk BK247 hb; replace HB := Hs HB hb; (try clear hb); (try clear hb2); (try clear hk); (try clear hi); (try clear ho0); (try clear ho1); obtain ⟨hcz6_0, hcz6_1, hcz6_2, hcz6_3, hcz6_4⟩ := cl5 BK247; obtain ⟨hfz6_0, hfz6_1, hfz6_2, hfz6_3, hfz6_4⟩ := fz5 BK247; obtain ⟨Ao7, co7, eo7⟩ := Kd.R_slice HO253.out; subst eo7; obtain ⟨Ao8, co8, eo8⟩ := Kd.R_slice HO256.out; subst eo8))
 refine bodyPost_ret (results_cell_row rfl _ _ gb247 27 #[.int .i64 t248, .int .i64 t249, .string t250, .slice Ao7 t251.length co7, .slice Ao8 t254.length co8] (0, 0) _ rfl (by (with_reducible repeat (first | refine blk_drewN ?_ _ | refine blk_drew ?_ | refine blk_alloc ?_ _)); refine blk_put (cs := #[.int .i64 t248, .int .i64 t249, .string t250, .slice Ao7 t251.length co7, .slice none 0 0]) ?_ 4 _ rfl; (with_reducible repeat (first | refine blk_drewN ?_ _ | refine blk_drew ?_ | refine blk_alloc ?_ _)); refine blk_put (cs := #[.int .i64 t248, .int .i64 t249, .string t250, .slice none 0 0, .slice none 0 0]) ?_ 3 _ rfl; (with_reducible repeat (first | refine blk_drewN ?_ _ | refine blk_drew ?_ | refine blk_alloc ?_ _)); refine blk_put (cs := #[.int .i64 t248, .int .i64 t249, .string (⟨#[]⟩ : ByteArray), .slice none 0 0, .slice none 0 0]) ?_ 2 _ rfl; (with_reducible repeat (first | refine blk_drewN ?_ _ | refine blk_drew ?_ | refine blk_alloc ?_ _)); refine blk_put (cs := #[.int .i64 t248, .int .i64 0, .string (⟨#[]⟩ : ByteArray), .slice none 0 0, .slice none 0 0]) ?_ 1 _ rfl; (with_reducible repeat (first | refine blk_drewN ?_ _ | refine blk_drew ?_ | refine blk_alloc ?_ _)); refine blk_put (cs := #[.int .i64 0, .int .i64 0, .string (⟨#[]⟩ : ByteArray), .slice none 0 0, .slice none 0 0]) ?_ 0 _ rfl; (with_reducible repeat (first | refine blk_drewN ?_ _ | refine blk_drew ?_ | refine blk_alloc ?_ _)); exact BK247.out) Try.underlying27 rfl (by kernel_rfl)) rfl ?_
 exact ⟨_, _, by first | rfl | (simp [errW_none, errW_some] <;> rfl) | (simp [*, errW_none, errW_some] <;> rfl), by (with_reducible repeat (first | apply Kd.R_alloc | apply Kd.R_drewN | apply Kd.R_drew)); exact Kd.R_mono (Kd.R_far (p := ⟨gb247, 4, none⟩) (Kd.R_far (p := ⟨gb247, 3, none⟩) (Kd.R_far (p := ⟨gb247, 2, none⟩) (Kd.R_far (p := ⟨gb247, 1, none⟩) (Kd.R_far (p := ⟨gb247, 0, none⟩) (Kd.R_types HO253.out BK247.out (by decide)) (fun _ hk => hk.2) (.int .i64 t248)) (fun _ hk => hk.2) (.int .i64 t249)) (fun _ hk => hk.2) (.string t250)) (fun _ hk => hk.2) (.slice Ao7 t251.length co7)) (fun _ hk => hk.2) (.slice Ao8 t254.length co8)) (fun _ hk => trivial), by (with_reducible repeat (first | apply Kd.R_alloc | apply Kd.R_drewN | apply Kd.R_drew)); exact Kd.R_mono (Kd.R_far (p := ⟨gb247, 4, none⟩) (Kd.R_far (p := ⟨gb247, 3, none⟩) (Kd.R_far (p := ⟨gb247, 2, none⟩) (Kd.R_far (p := ⟨gb247, 1, none⟩) (Kd.R_far (p := ⟨gb247, 0, none⟩) (Kd.R_mono HO256.out (fun k_ hk => (⟨hk, hk.2⟩ : _ ∧ k_ ≠ gb247))) (fun _ hk => hk.2) (.int .i64 t248)) (fun _ hk => hk.2) (.int .i64 t249)) (fun _ hk => hk.2) (.string t250)) (fun _ hk => hk.2) (.slice Ao7 t251.length co7)) (fun _ hk => hk.2) (.slice Ao8 t254.length co8)) (fun _ hk => hk.1.1), hbk HB⟩
mutual
def touchstoneref5_Whole.j0 : Nat → Int → Bool → Int → Int → ByteArray → List (S76) → List (S27) → Option (Int × Bool)
 | 0, _, _, _, _, _, _, _ => none
 | k + 1, x1, x17, x260000, x260001, x260002, x260003, x260004 => if x17 = true then (some ((-1), false)) else (touchstoneref5_Whole.l0 k x1 0 x260000 x260001 x260002 x260003 x260004)
def touchstoneref5_Whole.l0 : Nat → Int → Int → Int → Int → ByteArray → List (S76) → List (S27) → Option (Int × Bool)
 | 0, _, _, _, _, _, _, _ => none
 | k + 1, x1, x6, x260000, x260001, x260002, x260003, x260004 => if x6 < (x260004.length : Int) then (if 0 ≤ x6 then ((touchstoneref5_Whole.f k ((rd_T27 x260004 x6).f0) ((rd_T27 x260004 x6).f1) ((rd_T27 x260004 x6).f2) ((rd_T27 x260004 x6).f3) ((rd_T27 x260004 x6).f4) x1).bind fun bt262 => (if bt262.2 = true then (touchstoneref5_Whole.l0 k bt262.1 (wrap64 (x6 + 1)) x260000 x260001 x260002 x260003 x260004) else (some ((-1), false)))) else (none)) else (some (x1, true))
def touchstoneref5_Whole.f : Nat → Int → Int → ByteArray → List (S76) → List (S27) → Int → Option (Int × Bool)
 | 0, _, _, _, _, _, _ => none
 | k + 1, a0_0, a0_1, a0_2, l0_3, l0_4, a1 => if (wrap64 (a1 - 1)) < 0 then (touchstoneref5_Whole.j0 k (wrap64 (a1 - 1)) true a0_0 a0_1 a0_2 l0_3 l0_4) else ((touchstoneref5_part.f a0_0 a0_1 a0_2 l0_3 l0_4).bind fun t260 => (touchstoneref5_Whole.j0 k (wrap64 (a1 - 1)) (!t260) a0_0 a0_1 a0_2 l0_3 l0_4))
end
set_option maxHeartbeats 8000000 in
set_option maxRecDepth 100000 in
theorem touchstoneref5_Whole.calls (k : Nat) : ∀ (a0_0 : Int) (a0_1 : Int) (a0_2 : ByteArray) (A0_3 : Option Addr) (c0_3 : Nat) (l0_3 : List (S76)) (A0_4 : Option Addr) (c0_4 : Nat) (l0_4 : List (S27)) (a1 : Int) (r1 : Int) (r2 : Bool) (w : World) (hr0_3 : Kd.C k76 w A0_3 l0_3.length l0_3) (hc0_3 : l0_3.length ≤ c0_3) (hr0_4 : Kd.C k27 w A0_4 l0_4.length l0_4) (hc0_4 : l0_4.length ≤ c0_4) (h : touchstoneref5_Whole.f k a0_0 a0_1 a0_2 l0_3 l0_4 a1 = some (r1, r2)),
  Calls Try.prog 86 #[.agg #[.int .i64 a0_0, .int .i64 a0_1, .string a0_2, .slice A0_3 l0_3.length c0_3, .slice A0_4 l0_4.length c0_4], .int .i64 a1] w fun e w' => e = .returned (.tuple #[.int .i64 r1, .bool r2]) ∧ Below w.heap.size w w' := by
 induction k using Nat.strongRecOn with
 | _ k ih =>
 intro a0_0 a0_1 a0_2 A0_3 c0_3 l0_3 A0_4 c0_4 l0_4 a1 r1 r2 w hr0_3 hc0_3 hr0_4 hc0_4 h
 cases k with
 | zero => exact absurd h (by simp [touchstoneref5_Whole.f])
 | succ k =>
 simp only [touchstoneref5_Whole.f] at h
 have hu27 := Try.underlying27
 have HR0_3 := aS hr0_3
 have HC0_3 := aS hc0_3
 clear hr0_3 hc0_3
 have HR0_4 := aS hr0_4
 have HC0_4 := aS hc0_4
 clear hr0_4 hc0_4
 have HB := aS (Below.refl w.heap.size w)
 have H : (if (wrap64 (a1 - 1)) < 0 then (touchstoneref5_Whole.j0 k (wrap64 (a1 - 1)) true a0_0 a0_1 a0_2 l0_3 l0_4) else ((touchstoneref5_part.f a0_0 a0_1 a0_2 l0_3 l0_4).bind fun t260 => (touchstoneref5_Whole.j0 k (wrap64 (a1 - 1)) (!t260) a0_0 a0_1 a0_2 l0_3 l0_4))) = some (r1, r2) := h
 clear h
 have HC3 := aS H
 clear H
 go_enter Try.func86, Try.ntmps86
 go_upto_region 2 with (first | ((with_reducible refine gate_dst (N := 2) rfl ?_); refine box_event ?hg (N := 2) ?hd (cs := #[.int .i64 a0_0, .int .i64 a0_1, .string a0_2, .slice A0_3 l0_3.length c0_3, .slice A0_4 l0_4.length c0_4]) (t := 27) ?hr ?_; (case hd => rfl); (case hg => rfl); (case hr => first | (go_simp; done) | (go_simp; rfl)); intro gb259 hg w4 hbox hb; have BK259 := aS (hbox); have GW259 := aS ((by rw [hg]; exact (below_size (hbk HB)) : w.heap.size ≤ gb259)); have GE259 := aS ((by rw [hg]; exact (below_size (hbk HB)) : w.heap.size ≤ gb259)); replace HB := Hs HB hb; clear hb hbox hg))
 (try simp only [Act.put, List.setIfInBounds_toArray, List.set_cons_zero, List.set_cons_succ])
 go_cut [17] (fun v17 wc => ∃ (kq : Nat) (x17_2 : Bool), v17 = .bool x17_2 ∧ Aside0 (touchstoneref5_Whole.j0 kq (wrap64 (a1 - 1)) x17_2 a0_0 a0_1 a0_2 l0_3 l0_4 = some (r1, r2)) ∧ Aside0 (kq ≤ k) ∧ Aside0 (wc.heap[gb259]? = some (.cells #[.int .i64 a0_0, .int .i64 a0_1, .string a0_2, (.slice A0_3 l0_3.length c0_3), (.slice A0_4 l0_4.length c0_4)] 27 (0, 0))) ∧ Aside0 (Below w.heap.size w wc))
 case first =>
  have H := HC3.out
  clear HC3
  by_cases c5 : (wrap64 (a1 - 1)) < 0
  ·rw [if_pos c5] at H
   have c5b0 : decide ((wrap64 (a1 - 1)) < 0) = true := decide_eq_true c5
   clear c5
   (first | rw [c5b0] | (simp only [i64_w, i32_w]; rw [c5b0]) | skip)
   have H' := aS H
   clear H
   go_wp2
   go_meet
   case rel => exact ⟨_, (true), br, H', ⟨by first | omega | exact Nat.le_refl _⟩, ⟨bk BK259.out⟩, ⟨hbk HB⟩⟩
  rw [if_neg c5] at H
  have c5b0 : decide ((wrap64 (a1 - 1)) < 0) = false := decide_eq_false c5
  clear c5
  (first | rw [c5b0] | (simp only [i64_w, i32_w]; rw [c5b0]) | skip)
  replace H := Option.bind_eq_some_iff.mp H
  obtain ⟨t260, A60, H⟩ := H
  try dsimp only at H
  have A6 := aS A60
  clear A60
  have H' := aS H
  clear H
  obtain ⟨hcz7_0, hcz7_1, hcz7_2, hcz7_3, hcz7_4⟩ := cl5 BK259
  obtain ⟨hfz7_0, hfz7_1, hfz7_2, hfz7_3, hfz7_4⟩ := fz5 BK259
  go_wp2_with (first | (go_at_call 117; (with_reducible refine (touchstoneref5_part.calls a0_0 a0_1 a0_2 _ _ l0_3 _ _ l0_4 t260 _ ?side1 ?side2 ?side3 ?side4 A6.out).mono ?_); (case side1 => exact cr (Kd.C_below HR0_3.out HB.out)); (case side2 => exact HC0_3.out); (case side3 => exact cr (Kd.C_below HR0_4.out HB.out)); (case side4 => exact HC0_4.out); rintro e w8 ⟨rfl, hb⟩; replace BK259 := Bk BK259 hb; replace HB := Hs HB hb; (try clear hb); (try clear hb2); (try clear hk); (try clear hi)))
  go_meet
  case rel => exact ⟨_, (!t260), br, H', ⟨by first | omega | exact Nat.le_refl _⟩, ⟨bk BK259.out⟩, ⟨hbk HB⟩⟩
 case rest =>
  clear HC3
  try clear p2
  try clear c5
  try clear c5b0
  try clear p6
  try clear c8
  try clear hcz7_0 hcz7_1 hcz7_2 hcz7_3 hcz7_4
  try clear hfz7_0 hfz7_1 hfz7_2 hfz7_3 hfz7_4
  obtain ⟨kq, x17_2, rfl, HA, HJ2, BK259, HB⟩ := hcut
  cases kq with
  | zero => exact absurd HA.out (by simp [touchstoneref5_Whole.j0])
  | succ kj2 =>
   have H := HA.out
   clear HA
   simp only [touchstoneref5_Whole.j0] at H
   by_cases c9 : x17_2 = true
   ·subst c9
    have H1 : (some ((-1), false)) = some (r1, r2) := by rw [if_pos rfl] at H; exact H
    clear H
    have H := H1
    clear H1
    simp only [Option.some.injEq, Prod.mk.injEq] at H
    obtain ⟨rfl, rfl⟩ := H
    go_wp2
    go_ret2
    exact ⟨by first | rfl | (simp [errW_none, errW_some] <;> rfl) | (simp [*, errW_none, errW_some] <;> rfl), hbk HB⟩
   replace c9 := Bool.eq_false_iff.mpr c9
   subst c9
   have H1 : (touchstoneref5_Whole.l0 kj2 (wrap64 (a1 - 1)) 0 a0_0 a0_1 a0_2 l0_3 l0_4) = some (r1, r2) := by rw [if_neg (show ¬ (false = true) by decide)] at H; exact H
   clear H
   have H := H1
   clear H1
   have H' := aS H
   clear H
   go_wp2
   go_loopg [1, 6] kj2 (fun kq v1 v6 w' => ∃ (x1_2 : Int) (x6_2 : Int), v1 = .int .i64 x1_2 ∧ v6 = .int .i64 x6_2 ∧ Aside0 (touchstoneref5_Whole.l0 kq x1_2 x6_2 a0_0 a0_1 a0_2 l0_3 l0_4 = some (r1, r2)) ∧ Aside0 (kq ≤ kj2) ∧ Aside0 (w'.heap[gb259]? = some (.cells #[.int .i64 a0_0, .int .i64 a0_1, .string a0_2, (.slice A0_3 l0_3.length c0_3), (.slice A0_4 l0_4.length c0_4)] 27 (0, 0))) ∧ Aside0 (Below w.heap.size w w'))
   case atStart => exact ⟨((wrap64 (a1 - 1))), (0), br, br, H', ⟨Nat.le_refl _⟩, ⟨bk BK259.out⟩, ⟨hbk HB⟩⟩
   case round =>
    clear H'
    try clear p2
    try clear c5
    try clear c5b0
    try clear p6
    try clear c8
    try clear c9
    try clear hcz7_0 hcz7_1 hcz7_2 hcz7_3 hcz7_4
    try clear hfz7_0 hfz7_1 hfz7_2 hfz7_3 hfz7_4
    try clear p2
    try clear p6
    obtain ⟨x1_2, x6_2, rfl, rfl, HA, HK2, BK259, HB⟩ := hrel
    cases gk with
    | zero => exact absurd HA.out (by simp [touchstoneref5_Whole.l0])
    | succ k2 =>
     have H := HA.out
     clear HA
     simp only [touchstoneref5_Whole.l0] at H
     by_cases c10 : x6_2 < (l0_4.length : Int)
     rotate_left
     ·rw [if_neg c10] at H
      have c10b0 : decide (x6_2 < (l0_4.length : Int)) = false := decide_eq_false c10
      clear c10
      simp only [Option.some.injEq, Prod.mk.injEq] at H
      obtain ⟨rfl, rfl⟩ := H
      obtain ⟨hcz18_0, hcz18_1, hcz18_2, hcz18_3, hcz18_4⟩ := cl5 BK259
      obtain ⟨hfz18_0, hfz18_1, hfz18_2, hfz18_3, hfz18_4⟩ := fz5 BK259
      go_wp2
      go_ret2
      exact ⟨by first | rfl | (simp [errW_none, errW_some] <;> rfl) | (simp [*, errW_none, errW_some] <;> rfl), hbk HB⟩
     rw [if_pos c10] at H
     have c10b0 : decide (x6_2 < (l0_4.length : Int)) = true := decide_eq_true c10
     clear c10
     by_cases c11 : 0 ≤ x6_2
     rotate_left
     ·rw [if_neg c11] at H
      exact absurd H (by simp)
     rw [if_pos c11] at H
     have c11b0 : decide (0 ≤ x6_2) = true := decide_eq_true c11
     clear c11
     replace H := Option.bind_eq_some_iff.mp H
     obtain ⟨⟨t262, t263⟩, A120, H⟩ := H
     try dsimp only at H
     have A12 := aS A120
     clear A120
     by_cases c13 : t263 = true
     rotate_left
     ·replace c13 := Bool.eq_false_iff.mpr c13
      subst c13
      have H1 : (some ((-1), false)) = some (r1, r2) := by rw [if_neg (show ¬ (false = true) by decide)] at H; exact H
      clear H
      have H := H1
      clear H1
      simp only [Option.some.injEq, Prod.mk.injEq] at H
      obtain ⟨rfl, rfl⟩ := H
      obtain ⟨hcz16_0, hcz16_1, hcz16_2, hcz16_3, hcz16_4⟩ := cl5 BK259
      obtain ⟨hfz16_0, hfz16_1, hfz16_2, hfz16_3, hfz16_4⟩ := fz5 BK259
      have p261 : 0 ≤ (x6_2 : Int) := of_decide_eq_true ba
      have q261 : x6_2 < (l0_4.length : Int) := of_decide_eq_true ba
      obtain ⟨ad261, A261_3, c261_3, A261_4, c261_4, e261, hx261_0, hx261_1, hx261_2, hx261_3, hx261_4, hl261_3, hi261_3, hl261_4, hi261_4⟩ := at_T27 HR0_4.out x6_2 p261 q261
      cases e261
      replace hx261_0 := (HB.out.cell (World.block_lt_of_cell? w _ hx261_0)).trans hx261_0
      replace hx261_1 := (HB.out.cell (World.block_lt_of_cell? w _ hx261_1)).trans hx261_1
      replace hx261_2 := (HB.out.cell (World.block_lt_of_cell? w _ hx261_2)).trans hx261_2
      replace hx261_3 := (HB.out.cell (World.block_lt_of_cell? w _ hx261_3)).trans hx261_3
      replace hx261_4 := (HB.out.cell (World.block_lt_of_cell? w _ hx261_4)).trans hx261_4
      have HR261_3 := aS hi261_3
      have HC261_3 := aS hl261_3
      clear hi261_3 hl261_3
      have HR261_4 := aS hi261_4
      have HC261_4 := aS hl261_4
      clear hi261_4 hl261_4
      replace p261 := eq_true p261
      replace q261 := eq_true q261
      go_wp2_with (first | ((with_reducible refine gate_callee (f := 86) rfl ?_); refine goesL_ (some 32) rfl rfl Try.func86 (by kernel_rfl) rfl #[.agg #[.int .i64 ((rd_T27 l0_4 x6_2).f0), .int .i64 ((rd_T27 l0_4 x6_2).f1), .string ((rd_T27 l0_4 x6_2).f2), .slice A261_3 ((rd_T27 l0_4 x6_2).f3).length c261_3, .slice A261_4 ((rd_T27 l0_4 x6_2).f4).length c261_4], .int .i64 x1_2] rfl bl ?_; (with_reducible refine (ih k2 (by have := HJ2.out; have := HK2.out; omega) ((rd_T27 l0_4 x6_2).f0) ((rd_T27 l0_4 x6_2).f1) ((rd_T27 l0_4 x6_2).f2) _ _ ((rd_T27 l0_4 x6_2).f3) _ _ ((rd_T27 l0_4 x6_2).f4) x1_2 t262 false _ ?side1 ?side2 ?side3 ?side4 A12.out).mono ?_); (case side1 => exact cr (Kd.C_below HR261_3.out HB.out)); (case side2 => exact HC261_3.out); (case side3 => exact cr (Kd.C_below HR261_4.out HB.out)); (case side4 => exact HC261_4.out); rintro e w17 ⟨rfl, hb⟩; refine ⟨_, rfl, ?_⟩; replace BK259 := Bk BK259 hb; replace HB := Hs HB hb; (try clear hb); (try clear hb2); (try clear hk); (try clear hi)))
      go_ret2
      exact ⟨by first | rfl | (simp [errW_none, errW_some] <;> rfl) | (simp [*, errW_none, errW_some] <;> rfl), hbk HB⟩
     subst c13
     have H1 : (touchstoneref5_Whole.l0 k2 t262 (wrap64 (x6_2 + 1)) a0_0 a0_1 a0_2 l0_3 l0_4) = some (r1, r2) := by rw [if_pos rfl] at H; exact H
     clear H
     have H := H1
     clear H1
     have H' := aS H
     clear H
     obtain ⟨hcz14_0, hcz14_1, hcz14_2, hcz14_3, hcz14_4⟩ := cl5 BK259
     obtain ⟨hfz14_0, hfz14_1, hfz14_2, hfz14_3, hfz14_4⟩ := fz5 BK259
     have p261 : 0 ≤ (x6_2 : Int) := of_decide_eq_true ba
     have q261 : x6_2 < (l0_4.length : Int) := of_decide_eq_true ba
     obtain ⟨ad261, A261_3, c261_3, A261_4, c261_4, e261, hx261_0, hx261_1, hx261_2, hx261_3, hx261_4, hl261_3, hi261_3, hl261_4, hi261_4⟩ := at_T27 HR0_4.out x6_2 p261 q261
     cases e261
     replace hx261_0 := (HB.out.cell (World.block_lt_of_cell? w _ hx261_0)).trans hx261_0
     replace hx261_1 := (HB.out.cell (World.block_lt_of_cell? w _ hx261_1)).trans hx261_1
     replace hx261_2 := (HB.out.cell (World.block_lt_of_cell? w _ hx261_2)).trans hx261_2
     replace hx261_3 := (HB.out.cell (World.block_lt_of_cell? w _ hx261_3)).trans hx261_3
     replace hx261_4 := (HB.out.cell (World.block_lt_of_cell? w _ hx261_4)).trans hx261_4
     have HR261_3 := aS hi261_3
     have HC261_3 := aS hl261_3
     clear hi261_3 hl261_3
     have HR261_4 := aS hi261_4
     have HC261_4 := aS hl261_4
     clear hi261_4 hl261_4
     replace p261 := eq_true p261
     replace q261 := eq_true q261
     go_wp2_with (first | ((with_reducible refine gate_callee (f := 86) rfl ?_); refine goesL_ (some 32) rfl rfl Try.func86 (by kernel_rfl) rfl #[.agg #[.int .i64 ((rd_T27 l0_4 x6_2).f0), .int .i64 ((rd_T27 l0_4 x6_2).f1), .string ((rd_T27 l0_4 x6_2).f2), .slice A261_3 ((rd_T27 l0_4 x6_2).f3).length c261_3, .slice A261_4 ((rd_T27 l0_4 x6_2).f4).length c261_4], .int .i64 x1_2] rfl bl ?_; (with_reducible refine (ih k2 (by have := HJ2.out; have := HK2.out; omega) ((rd_T27 l0_4 x6_2).f0) ((rd_T27 l0_4 x6_2).f1) ((rd_T27 l0_4 x6_2).f2) _ _ ((rd_T27 l0_4 x6_2).f3) _ _ ((rd_T27 l0_4 x6_2).f4) x1_2 t262 true _ ?side1 ?side2 ?side3 ?side4 A12.out).mono ?_); (case side1 => exact cr (Kd.C_below HR261_3.out HB.out)); (case side2 => exact HC261_3.out); (case side3 => exact cr (Kd.C_below HR261_4.out HB.out)); (case side4 => exact HC261_4.out); rintro e w15 ⟨rfl, hb⟩; refine ⟨_, rfl, ?_⟩; replace BK259 := Bk BK259 hb; replace HB := Hs HB hb; (try clear hb); (try clear hb2); (try clear hk); (try clear hi)))
     go_roundg k2
     case measure => have := HJ2.out; have := HK2.out; omega
     case rel => exact ⟨(t262), (wrap64 (x6_2 + 1)), br, br, H', ⟨by have := HJ2.out; have := HK2.out; omega⟩, ⟨bk BK259.out⟩, ⟨hbk HB⟩⟩
def touchstonelaw5_Light.f (k : Nat) (a0_0 : Int) (a0_1 : Int) (a0_2 : ByteArray) (l0_3 : List (S76)) (l0_4 : List (S27)) (a1 : Int) : Option (Bool) := (touchstoneref5_Whole.f k a0_0 a0_1 a0_2 l0_3 l0_4 a1).bind fun bt265 => (some bt265.2)
set_option maxHeartbeats 8000000 in
set_option maxRecDepth 100000 in
theorem touchstonelaw5_Light.calls (k : Nat) (a0_0 : Int) (a0_1 : Int) (a0_2 : ByteArray) (A0_3 : Option Addr) (c0_3 : Nat) (l0_3 : List (S76)) (A0_4 : Option Addr) (c0_4 : Nat) (l0_4 : List (S27)) (a1 : Int) (r : Bool) (w : World) (hr0_3 : Kd.C k76 w A0_3 l0_3.length l0_3) (hc0_3 : l0_3.length ≤ c0_3) (hr0_4 : Kd.C k27 w A0_4 l0_4.length l0_4) (hc0_4 : l0_4.length ≤ c0_4) (h : touchstonelaw5_Light.f k a0_0 a0_1 a0_2 l0_3 l0_4 a1 = some r) :
  Calls Try.prog 39 #[.agg #[.int .i64 a0_0, .int .i64 a0_1, .string a0_2, .slice A0_3 l0_3.length c0_3, .slice A0_4 l0_4.length c0_4], .int .i64 a1] w fun e w' => e = .returned (.bool r) ∧ Below w.heap.size w w' := by
 have hu27 := Try.underlying27
 have HR0_3 := aS hr0_3
 have HC0_3 := aS hc0_3
 clear hr0_3 hc0_3
 have HR0_4 := aS hr0_4
 have HC0_4 := aS hc0_4
 clear hr0_4 hc0_4
 have HB := aS (Below.refl w.heap.size w)
 have H : ((touchstoneref5_Whole.f k a0_0 a0_1 a0_2 l0_3 l0_4 a1).bind fun bt265 => (some bt265.2)) = some r := h
 clear h
 replace H := Option.bind_eq_some_iff.mp H
 obtain ⟨⟨t265, t266⟩, A30, H⟩ := H
 try dsimp only at H
 have A3 := aS A30
 clear A30
 obtain rfl := Option.some.inj H
 go_enter Try.func39, Try.ntmps39
 go_wp2_with (first | ((with_reducible refine gate_dst (N := 2) rfl ?_); refine box_event ?hg (N := 2) ?hd (cs := #[.int .i64 a0_0, .int .i64 a0_1, .string a0_2, .slice A0_3 l0_3.length c0_3, .slice A0_4 l0_4.length c0_4]) (t := 27) ?hr ?_; (case hd => rfl); (case hg => rfl); (case hr => first | (go_simp; done) | (go_simp; rfl)); intro gb264 hg w4 hbox hb; have BK264 := aS (hbox); have GW264 := aS ((by rw [hg]; exact (below_size (hbk HB)) : w.heap.size ≤ gb264)); have GE264 := aS ((by rw [hg]; exact (below_size (hbk HB)) : w.heap.size ≤ gb264)); replace HB := Hs HB hb; clear hb hbox hg; obtain ⟨hcz5_0, hcz5_1, hcz5_2, hcz5_3, hcz5_4⟩ := cl5 BK264; obtain ⟨hfz5_0, hfz5_1, hfz5_2, hfz5_3, hfz5_4⟩ := fz5 BK264) | ((with_reducible refine gate_callee (f := 86) rfl ?_); refine goesL_ (some 10) rfl rfl Try.func86 (by kernel_rfl) rfl #[.agg #[.int .i64 a0_0, .int .i64 a0_1, .string a0_2, .slice A0_3 l0_3.length c0_3, .slice A0_4 l0_4.length c0_4], .int .i64 a1] rfl bl ?_; (with_reducible refine (touchstoneref5_Whole.calls k a0_0 a0_1 a0_2 _ _ l0_3 _ _ l0_4 a1 t265 t266 _ ?side1 ?side2 ?side3 ?side4 A3.out).mono ?_); (case side1 => exact cr (Kd.C_below HR0_3.out HB.out)); (case side2 => exact HC0_3.out); (case side3 => exact cr (Kd.C_below HR0_4.out HB.out)); (case side4 => exact HC0_4.out); rintro e w6 ⟨rfl, hb⟩; refine ⟨_, rfl, ?_⟩; replace BK264 := Bk BK264 hb; replace HB := Hs HB hb; (try clear hb); (try clear hb2); (try clear hk); (try clear hi)))
 go_ret
 exact ⟨by first | rfl | (simp [errW_none, errW_some] <;> rfl) | (simp [*, errW_none, errW_some] <;> rfl), hbk HB⟩
end Go.Proofs.Ytpejhapgffcngaa.QK

