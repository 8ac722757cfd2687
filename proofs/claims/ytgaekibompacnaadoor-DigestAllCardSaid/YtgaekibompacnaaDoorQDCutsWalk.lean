/- DigestCuts: however bytes are parted the sum is the same. -/
import Derived.Test.YtgaekibompacnaaDoorQDShaBegun
import Derived.Stop.BytesEq
set_option linter.unusedVariables false
set_option linter.unusedSimpArgs false
namespace Go.Proofs.YtgaekibompacnaaDoor.QD
open Go.RowKit Go.Proofs.YtgaekibompacnaaDoorW.PrintWords Go.Proofs.YtgaekibompacnaaDoorW.PrintLast Go.Proofs.YtgaekibompacnaaDoorW.PrintMore
/-- An array of 32 bytes is what it is. -/
theorem eql_octs (w : World) (l : List Int) (hl : l.length = 32) : (binOp .eql 25 (.agg (octs l)) (.agg (octs l))).run Tryd.prog w = .ok (.bool true) w := by
  have ht := Tryd.underlying25
  have he := Tryd.underlying5
  obtain ⟨i6, hi6, _, hsz6, _⟩ := info_parts info5
  have hsz : ∀ w : World, (sizeOf 5).run Tryd.prog w = .ok 1 w := fun w => by simp [sizeOf, typeInfo, hi6, hsz6]
  have key : (Op.equalIn (9998 + 2) 25 (.agg (octs l)) (.agg (octs l))).run Tryd.prog w = .ok true w := by
    rw [Op.equalIn]
    simp only [Sem.run_bind, run_underlying ht, Result.andThen_ok, hsz, Std.Legacy.Range.forIn_eq_forIn_range', Std.Legacy.Range.size, Nat.sub_zero, Nat.add_sub_cancel, Nat.div_one]
    have hr : ∀ i ∈ List.range' 0 32 1, i < 32 := fun i hi => by simpa using (List.mem_range'_1.1 hi).2
    generalize List.range' 0 32 1 = r at hr ⊢
    induction r with
    | nil => simp
    | cons i r ih =>
      have hi : i < 32 := hr i (by simp)
      have px : (part 5 (octs l) (i * 1)).run Tryd.prog w = .ok (.int .u8 (l.getD i 0)) w := by
        simp [part, isAgg, octs, run_underlying he, List.getD, List.getElem?_eq_getElem (show i < l.length by omega)]
      have pe : (Op.equalIn (9998 + 1) 5 (.int .u8 (l.getD i 0)) (.int .u8 (l.getD i 0))).run Tryd.prog w = .ok true w := by
        rw [run_equalIn_int w 9998 5 .u8 .u8 _ _ he]
        simp
      simp only [List.forIn_cons, Sem.run_bind, px, pe, Result.andThen_ok]
      simp only [Bool.not_true, Bool.false_eq_true, if_false, Sem.run_pure, Result.andThen_ok]
      exact ih fun j hj => hr j (by simp [hj])
  rw [run_eql_struct, key]
  rfl
theorem dcuts_big_a (A0 : Option Addr) (c0 : Nat) (l0 : List Int) (A1 : Option Addr) (c1 : Nat) (l1 : List Int) (w : World) (hk : Laid w) (hr0 : Kd.C (Kd.int .u8) w A0 l0.length l0) (hc0 : l0.length ≤ c0) (hr1 : Kd.C (Kd.int .i64) w A1 l1.length l1) (hc1 : l1.length ≤ c1) (h : 4000 < l0.length) :
    Calls Tryd.prog 3 #[.slice A0 l0.length c0, .slice A1 l1.length c1] w fun en w' => en = .returned (.bool true) ∧ Below w.heap.size w w' := by
  have HLK := Aside0.mk hk
  have HB := Aside0.mk (Below.refl w.heap.size w)
  have hq : decide (4000 < (l0.length : Int)) = true := by simp; omega
  clear hk hr0 hr1 hc0 hc1 h
  go_enter Tryd.func3, Tryd.ntmps3
  go_wp2_with (first | (go_at_call 10; (with_reducible refine (begun_calls _ HLK.out).mono ?_); rintro en wz ⟨rfl, hb⟩; have HB' := Aside0.mk (below_step (by repeat (first | (with_reducible first | exact HB.out | apply below_alloc | apply pw_below_drewN | apply below_drew1) | exact HB.out)) hb); clear hb HB; have HB := HB'; clear HB'))
  go_ret
  exact ⟨rfl, (by repeat (first | (with_reducible first | exact HB.out | apply below_alloc | apply pw_below_drewN | apply below_drew1) | exact HB.out))⟩
theorem dcuts_big_b (A0 : Option Addr) (c0 : Nat) (l0 : List Int) (A1 : Option Addr) (c1 : Nat) (l1 : List Int) (w : World) (hk : Laid w) (hr0 : Kd.C (Kd.int .u8) w A0 l0.length l0) (hc0 : l0.length ≤ c0) (hr1 : Kd.C (Kd.int .i64) w A1 l1.length l1) (hc1 : l1.length ≤ c1) (h1 : l0.length ≤ 4000) (h : 100 < l1.length) :
    Calls Tryd.prog 3 #[.slice A0 l0.length c0, .slice A1 l1.length c1] w fun en w' => en = .returned (.bool true) ∧ Below w.heap.size w w' := by
  have HLK := Aside0.mk hk
  have HB := Aside0.mk (Below.refl w.heap.size w)
  have hp : decide (4000 < (l0.length : Int)) = false := by simp; omega
  have hq : decide (100 < (l1.length : Int)) = true := by simp; omega
  clear hk hr0 hr1 hc0 hc1 h h1
  go_enter Tryd.func3, Tryd.ntmps3
  go_wp2_with (first | (go_at_call 10; (with_reducible refine (begun_calls _ HLK.out).mono ?_); rintro en wz ⟨rfl, hb⟩; have HB' := Aside0.mk (below_step (by repeat (first | (with_reducible first | exact HB.out | apply below_alloc | apply pw_below_drewN | apply below_drew1) | exact HB.out)) hb); clear hb HB; have HB := HB'; clear HB'))
  go_ret
  exact ⟨rfl, (by repeat (first | (with_reducible first | exact HB.out | apply below_alloc | apply pw_below_drewN | apply below_drew1) | exact HB.out))⟩
set_option maxRecDepth 100000 in
set_option maxHeartbeats 8000000 in
theorem dcuts_walk (A0 : Option Addr) (c0 : Nat) (l0 : List Int) (A1 : Option Addr) (c1 : Nat) (l1 : List Int) (w : World) (hk : Laid w) (hr0 : Kd.C (Kd.int .u8) w A0 l0.length l0) (hc0 : l0.length ≤ c0) (hr1 : Kd.C (Kd.int .i64) w A1 l1.length l1) (hc1 : l1.length ≤ c1) (h4 : l0.length ≤ 4000) (h1 : l1.length ≤ 100) :
    Calls Tryd.prog 3 #[.slice A0 l0.length c0, .slice A1 l1.length c1] w fun en w' => en = .returned (.bool true) ∧ Below w.heap.size w w' := by
  have HLK := Aside0.mk hk
  have HK : Aside0 (∀ W : World, Below w.heap.size w W → Laid W) := ⟨fun W hW => hk.below hW⟩
  have HB := Aside0.mk (Below.refl w.heap.size w)
  have HR0 := Aside0.mk hr0
  have HR1 := Aside0.mk hr1
  have HC0 := Aside0.mk hc0
  have HC1 := Aside0.mk hc1
  have HL0 : Aside0 (l0.length ≤ 1000000) := ⟨by omega⟩
  have HL1 : Aside0 (l1.length ≤ 1000000) := ⟨by omega⟩
  have HL1B : Aside0 (l1.length + 1 ≤ 1000000) := ⟨by omega⟩
  have HFE : Aside0 (([l0] : List (List Int)).flatten = l0) := ⟨by simp⟩
  have HFL : Aside0 (([l0] : List (List Int)).flatten.length ≤ 1000000) := ⟨by rw [HFE.out]; exact HL0.out⟩
  obtain ⟨sl, hsl⟩ : ∃ s_, s_ = shaL l0 := ⟨_, rfl⟩
  have HS : Aside0 (shaL l0 = sl) := ⟨hsl.symm⟩
  have hq32 : ∀ W : World, (binOp .eql 25 (.agg (octs sl)) (.agg (octs sl))).run Tryd.prog W = .ok (.bool true) W := fun W => eql_octs W sl (by rw [hsl]; exact shaL_len l0)
  have hp : decide (4000 < (l0.length : Int)) = false := by simp; omega
  have hq : decide (100 < (l1.length : Int)) = false := by simp; omega
  clear hk hr0 hr1 hc0 hc1 hsl h4 h1
  go_enter Tryd.func3, Tryd.ntmps3
  go_wp2_with (first | (go_at_call 10; (with_reducible refine (begun_calls _ HLK.out).mono ?_); rintro en wz ⟨rfl, hb⟩; have HB' := Aside0.mk (below_step (by repeat (first | (with_reducible first | exact HB.out | apply below_alloc | apply pw_below_drewN | apply below_drew1) | exact HB.out)) hb); clear hb HB; have HB := HB'; clear HB') | (go_at_call 12; refine (cut_calls (fun k_ => k_ < wz.heap.size) A0 c0 l0 A1 c1 l1 wz (Kd.C_F (Kd.heap_int _) (Kd.C_below HR0.out HB.out)) HC0.out HL0.out (fun k_ hk_ => hk_) (Kd.C_below HR1.out HB.out) HC1.out HL1.out).mono ?_; rintro en w1 ⟨vl, ps, rfl, hps, hpn, ho, hb⟩; obtain ⟨Al, cl, el⟩ := Kd.N_slice ho; subst el; have hrr := Kd.N_reads' ho; have HCL := Aside0.mk hrr.2.2; have Hcl := Aside0.mk hrr.2.1; have HPS := Aside0.mk hps; have HPN : Aside0 (ps.length ≤ 1000000) := ⟨Nat.le_trans hpn HL1B.out⟩; have HPF : Aside0 (ps.flatten.length ≤ 1000000) := ⟨by rw [hps]; exact HL0.out⟩; clear ho hrr hps hpn; have HB' := Aside0.mk (below_step (by repeat (first | (with_reducible first | exact HB.out | apply below_alloc | apply pw_below_drewN | apply below_drew1) | exact HB.out)) hb); clear hb HB; have HB := HB'; clear HB') | (go_at_call 11; refine (sum_calls A20 c20 [l0] _ (HK.out _ HB.out) HC20.out Hc20.out (by simp) HFL.out).mono ?_; rintro en wt ⟨rfl, hb⟩; rw [HFE.out, HS.out]; have HB' := Aside0.mk (below_step (by repeat (first | (with_reducible first | exact HB.out | apply below_alloc | apply pw_below_drewN | apply below_drew1) | exact HB.out)) hb); clear hb HB; have HB := HB'; clear HB') | (go_at_call 11; (with_reducible refine (sum_calls Al cl ps _ (HK.out _ HB.out) HCL.out Hcl.out HPN.out HPF.out).mono ?_); rintro en ws ⟨rfl, hb⟩; rw [HPS.out, HS.out]; have HB' := Aside0.mk (below_step (by repeat (first | (with_reducible first | exact HB.out | apply below_alloc | apply pw_below_drewN | apply below_drew1) | exact HB.out)) hb); clear hb HB; have HB := HB'; clear HB') | ((with_reducible refine gate_dst (N := 20) rfl ?_); refine Kd.N_lit (Kd.slice 5 (Kd.int .u8)) w.heap.size 22 ?hg (N' := 20) ?hd (xs := ([l0] : List (List Int))) (inner := [.slice A0 l0.length c0]) (ok := fun _ => True) (okp := fun k_ => k_ < ws.heap.size) ?hr ?hp (fun _ _ => trivial) trivial HB.out (below_size HB.out) (by simp) ?_; (case hd => rfl); (case hg => rfl); (case hr => first | (go_simp; done) | (go_simp; rfl)); (case hp => exact Reps.one (fk_slice (Kd.C_F (Kd.heap_int _) (Kd.C_below HR0.out HB.out)) HC0.out) (Reps.none _ _)); intro v20 wl ho hb hg_ hnew_; clear HB hnew_ hg_; have HB := Aside0.mk hb; obtain ⟨A20, c20, e20⟩ := Kd.N_slice ho; change _ = Value.slice A20 1 c20 at e20; subst e20; have hrr := Kd.N_reads' ho; have HC20 := Aside0.mk hrr.2.2; have Hc20 := Aside0.mk hrr.2.1; clear hb ho hrr))
  go_ret
  exact ⟨rfl, (by repeat (first | (with_reducible first | exact HB.out | apply below_alloc | apply pw_below_drewN | apply below_drew1) | exact HB.out))⟩
end Go.Proofs.YtgaekibompacnaaDoor.QD
