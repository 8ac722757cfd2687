/- DigestFirst: First is the first half of the sum's first half, as two numbers. -/
import Derived.Test.YtgaekibompacnaaDoorQDCutsWalk
import Derived.Test.YtgaekibompacnaaDoorQDShaFirst
import Derived.Deep.RegionHeld3
import Derived.BigQuiet
set_option linter.unusedVariables false
set_option linter.unusedSimpArgs false
namespace Go.Proofs.YtgaekibompacnaaDoor.QD
open Go.RowKit Go.Proofs.YtgaekibompacnaaDoorW.PrintWords Go.Proofs.YtgaekibompacnaaDoorW.PrintLast Go.Proofs.YtgaekibompacnaaDoorW.PrintMore
theorem eight_back {l : List Int} (hb : AllBy l) (h : l.length = 8) : OctetMath.eight (OctetMath.back8 l) = l := by
  obtain ⟨a, b, c, d, e, f, g, k, rfl⟩ := eight_of h
  have ha := hb a (by simp); have hb' := hb b (by simp); have hc := hb c (by simp); have hd := hb d (by simp)
  have he := hb e (by simp); have hf := hb f (by simp); have hg := hb g (by simp); have hk := hb k (by simp)
  simp only [OctetMath.eight, OctetMath.back8, List.foldl_cons, List.foldl_nil, Int.reducePow, List.cons.injEq, and_true]
  refine ⟨?_, ?_, ?_, ?_, ?_, ?_, ?_, ?_⟩ <;> omega
theorem back8_range {l : List Int} (hb : AllBy l) (h : l.length ≤ 8) : 0 ≤ OctetMath.back8 l ∧ OctetMath.back8 l < 18446744073709551616 := by
  have h1 := back8_lt l 0 0 hb (by decide) (by decide)
  refine ⟨h1.1, ?_⟩
  have h2 : (256 : Int) ^ (0 + l.length) ≤ 256 ^ 8 := OctetMath.pow_le_int 256 (by decide) (by omega)
  have h3 := Int.lt_of_lt_of_le h1.2 h2
  simpa [OctetMath.back8] using h3
theorem load_yields {P : Program} {e : Operand → Value} {o : Oper} (ty : TypeId) (x : Operand) (ho : o.op = .load ty x) (g : Nat) (hx : e x = .pointer (some ⟨g, 0, none⟩)) (cs : Array Value) (w : World) (h : (loadVar ty ⟨g, 0, none⟩).run P w = .ok (.agg cs) w) : (execOp e o).run P w = .ok (.value (.agg cs)) w := by
  unfold execOp
  simp only [ho, hx, Instr.loadAt, Instr.sureAddr, Sem.run_bind, Sem.run_pure, Result.andThen_ok, h]
theorem eightNil_calls (x : Int) (y : List Int) (w : World) (h : touchstoneref1_Eight.f 10 [] x = some y) :
    Calls Tryd.prog 21 #[.slice none 0 0, .int .u64 x] w fun e w' => ∃ v0_ : Value, e = .returned (v0_) ∧ Kd.R (Kd.int .u8) 5 w' w.heap.size (fun _ => True) v0_ y ∧ Below w.heap.size w w' :=
  touchstoneref1_Eight.calls 10 none 0 [] x y w (Kd.C_nil _ _) (Nat.le_refl _) h
theorem first_held {W : World} {g3 g4 : Nat} {sl y2 : List Int} {h_ l_ : Int} (h3 : W.heap[g3]? = some (.cells (octs sl) 25 (0, 0))) (h4 : W.heap[g4]? = some (.cells #[.int .u64 h_, .int .u64 l_] 38 (0, 0))) (hl : sl.length = 32) (hy : (sl.drop 0).take 16 = y2) (hi : (Tryd.prog.info? 25).map (·.size) = some (octs sl).size) :
    W.cell? ⟨g4, 0, none⟩ = some (.int .u64 h_) ∧ W.cell? ⟨g4, 1, none⟩ = some (.int .u64 l_) ∧ (convert 22 9 (.slice (some ⟨g3, 0, none⟩) 16 32)).run Tryd.prog W = .ok (.string (strOfNums y2)) W ∧ (loadVar 25 ⟨g3, 0, none⟩).run Tryd.prog W = .ok (.agg (octs sl)) W := by
  refine ⟨(blk_cell h4 0).trans rfl, (blk_cell h4 1).trans rfl, ?_, run_loadVar_row W g3 25 25 (octs sl) (0, 0) _ h3 Tryd.underlying25 rfl hi⟩
  have h := octs_cut (i := 0) (n := 16) h3 hl (by decide)
  rw [hy] at h
  have hn : y2.length = 16 := by rw [← hy]; simp; omega
  rw [hn] at h
  exact Kd.C_string Tryd.underlying22 Tryd.underlying5 Tryd.underlying9 h
set_option maxRecDepth 100000 in
set_option maxHeartbeats 8000000 in
theorem dfirst_big (A0 : Option Addr) (c0 : Nat) (l0 : List Int) (w : World) (hk : Laid w) (hr0 : Kd.C (Kd.int .u8) w A0 l0.length l0) (hc0 : l0.length ≤ c0) (h : 1000 < l0.length) :
    Calls Tryd.prog 6 #[.slice A0 l0.length c0] w fun en w' => en = .returned (.bool true) ∧ Below w.heap.size w w' := by
  have HLK := Aside0.mk hk
  have HB := Aside0.mk (Below.refl w.heap.size w)
  have hq : decide (1000 < (l0.length : Int)) = true := by simp; omega
  clear hk hr0 hc0 h
  go_enter Tryd.func6, Tryd.ntmps6
  go_wp2_with (first | (go_at_call 10; (with_reducible refine (begun_calls _ HLK.out).mono ?_); rintro en wz ⟨rfl, hb⟩; have HB' := Aside0.mk (below_step (by repeat (first | (with_reducible first | exact HB.out | apply below_alloc | apply pw_below_drewN | apply below_drew1) | exact HB.out)) hb); clear hb HB; have HB := HB'; clear HB'))
  go_ret
  exact ⟨rfl, (by repeat (first | (with_reducible first | exact HB.out | apply below_alloc | apply pw_below_drewN | apply below_drew1) | exact HB.out))⟩
set_option maxRecDepth 100000 in
set_option maxHeartbeats 8000000 in
theorem dfirst_walk (A0 : Option Addr) (c0 : Nat) (l0 : List Int) (w : World) (hk : Laid w) (hr0 : Kd.C (Kd.int .u8) w A0 l0.length l0) (hc0 : l0.length ≤ c0) (h : l0.length ≤ 1000) (hby : AllBy l0) :
    Calls Tryd.prog 6 #[.slice A0 l0.length c0] w fun en w' => en = .returned (.bool true) ∧ Below w.heap.size w w' := by
  have HLK := Aside0.mk hk
  have HK : Aside0 (∀ W : World, Below w.heap.size w W → Laid W) := ⟨fun W hW => hk.below hW⟩
  have HB := Aside0.mk (Below.refl w.heap.size w)
  have HR := Aside0.mk hr0
  have HC := Aside0.mk hc0
  have HL : Aside0 (l0.length ≤ 1000000) := ⟨by omega⟩
  have HBY := Aside0.mk hby
  have HFE : Aside0 (([l0] : List (List Int)).flatten = l0) := ⟨by simp⟩
  have HFL : Aside0 (([l0] : List (List Int)).flatten.length ≤ 1000000) := ⟨by rw [HFE.out]; exact HL.out⟩
  obtain ⟨sl, hsl⟩ : ∃ s_, s_ = shaL l0 := ⟨_, rfl⟩
  have HS : Aside0 (shaL l0 = sl) := ⟨hsl.symm⟩
  have HSL : Aside0 (sl.length = 32) := ⟨by rw [hsl]; exact shaL_len l0⟩
  have HSB : Aside0 (AllBy sl) := ⟨by rw [hsl]; exact shaL_by l0⟩
  have HI : Aside0 ((Tryd.prog.info? 25).map (·.size) = some (octs sl).size) := ⟨by rw [octs_size HSL.out]; kernel_rfl⟩
  have HOS : Aside0 ((octs (List.replicate 32 0)).size = (octs sl).size) := ⟨by rw [octs_size HSL.out]; exact octs_size (by simp)⟩
  obtain ⟨h_, hh_⟩ : ∃ x_, x_ = hi8 l0 := ⟨_, rfl⟩
  obtain ⟨l_, hl_⟩ : ∃ x_, x_ = lo8 l0 := ⟨_, rfl⟩
  have HH : Aside0 (hi8 l0 = h_) := ⟨hh_.symm⟩
  have HLO : Aside0 (lo8 l0 = l_) := ⟨hl_.symm⟩
  have hbh : AllBy ((shaL l0).take 8) := fun x hx => shaL_by l0 x (List.mem_of_mem_take hx)
  have hbl : AllBy (((shaL l0).drop 8).take 8) := fun x hx => shaL_by l0 x (List.mem_of_mem_drop (List.mem_of_mem_take hx))
  have hsl8 := shaL_len l0
  have hlh : ((shaL l0).take 8).length = 8 := by simp [hsl8]
  have hll : (((shaL l0).drop 8).take 8).length = 8 := by simp [hsl8]
  have hrh := back8_range hbh (by omega)
  have hrl := back8_range hbl (by omega)
  have HE1 : Aside0 (touchstoneref1_Eight.f 10 [] h_ = some (sl.take 8)) := ⟨by rw [hh_]; unfold hi8; rw [refEight_is (by omega) hrh.1 hrh.2 (by simp), eight_back hbh hlh, List.nil_append, hsl]⟩
  have HE2 : Aside0 (touchstoneref1_Eight.f 10 (sl.take 8) l_ = some (sl.take 16)) := ⟨by
    rw [hl_]; unfold lo8
    rw [refEight_is (by omega) hrl.1 hrl.2 (by simp; omega), eight_back hbl hll, hsl]
    congr 1
    rw [show (16 : Nat) = 8 + 8 from rfl, List.take_add]⟩
  obtain ⟨y1, hy1⟩ : ∃ y_, y_ = sl.take 8 := ⟨_, rfl⟩
  obtain ⟨y2, hy2⟩ : ∃ y_, y_ = sl.take 16 := ⟨_, rfl⟩
  rw [← hy1] at HE1 HE2
  rw [← hy2] at HE2
  have HY2 : Aside0 ((sl.drop 0).take 16 = y2) := ⟨hy2.symm⟩
  have HL2 : Aside0 (((sl.drop 0).take 16).length = 16) := ⟨by simp [HSL.out]⟩
  have hq32 : ∀ W : World, (binOp .eql 25 (.agg (octs sl)) (.agg (octs sl))).run Tryd.prog W = .ok (.bool true) W := fun W => eql_octs W sl HSL.out
  have hq : decide (1000 < (l0.length : Int)) = false := by simp; omega
  clear hk hr0 hc0 h hby hsl hh_ hl_ hy1 hy2 hbh hbl hsl8 hlh hll hrh hrl
  go_enter Tryd.func6, Tryd.ntmps6
  go_wp2_with (first | (go_at_call 10; (with_reducible refine (begun_calls _ HLK.out).mono ?_); rintro en wz ⟨rfl, hb⟩; have HB' := Aside0.mk (below_step (by repeat (first | (with_reducible first | exact HB.out | apply below_alloc | apply pw_below_drewN | apply below_drew1) | exact HB.out)) hb); clear hb HB; have HB := HB'; clear HB') | ((with_reducible refine gate_dst (N := 11) rfl ?_); refine Kd.N_lit (Kd.slice 5 (Kd.int .u8)) wz.heap.size 22 ?hg (N' := 11) ?hd (xs := ([l0] : List (List Int))) (inner := [.slice A0 l0.length c0]) (ok := fun _ => True) (okp := fun k_ => k_ < wz.heap.size) ?hr ?hp (fun _ _ => trivial) trivial (Below.refl _ _) (Nat.le_refl _) (by simp) ?_; (case hd => rfl); (case hg => rfl); (case hr => first | (go_simp; done) | (go_simp; rfl)); (case hp => exact Reps.one (fk_slice (Kd.C_F (Kd.heap_int _) (Kd.C_below HR.out HB.out)) HC.out) (Reps.none _ _)); intro v20 wl ho hb hg_ hnew_; have HB' := Aside0.mk (below_step HB.out hb); clear HB hnew_ hg_; have HB := HB'; clear HB'; obtain ⟨A20, c20, e20⟩ := Kd.N_slice ho; change _ = Value.slice A20 1 c20 at e20; subst e20; have hrr := Kd.N_reads' ho; have HC20 := Aside0.mk hrr.2.2; have Hc20 := Aside0.mk hrr.2.1; clear hb ho hrr) | (go_at_call 11; refine (sum_calls A20 c20 [l0] _ (HK.out _ HB.out) HC20.out Hc20.out (by simp) HFL.out).mono ?_; rintro en ws ⟨rfl, hb⟩; rw [HFE.out, HS.out]; have HB' := Aside0.mk (below_step (by repeat (first | (with_reducible first | exact HB.out | apply below_alloc | apply pw_below_drewN | apply below_drew1) | exact HB.out)) hb); clear hb HB; have HB := HB'; clear HB'; have HA0 : Aside0 ((ws.alloc (.cells (octs (List.replicate 32 0)) 25)).heap[ws.heap.size]? = some (.cells (octs (List.replicate 32 0)) 25 (0, 0))) := ⟨blk_new _ _⟩; have HB1 : Aside0 (Below w.heap.size w (ws.alloc (.cells (octs (List.replicate 32 0)) 25))) := ⟨below_alloc HB.out _⟩; have HGS : Aside0 (w.heap.size ≤ ws.heap.size) := ⟨below_size HB.out⟩) | ((with_reducible refine gate_dst (N := 3) rfl ?_); refine Kd.event_run (v := .pointer (some ⟨ws.heap.size, 0, none⟩)) (w1 := ws.alloc (.cells (octs (List.replicate 32 0)) 25)) rfl ?hr ?_; (case hr => first | rfl | (go_simp; rfl)); generalize ws.alloc (.cells (octs (List.replicate 32 0)) 25) = w2 at *) | ((with_reducible refine gate_store (t := 25) (p := 3) (v := .tmp 12) rfl ?_); refine wpList_store_row rfl 25 (.tmp 3) (.tmp 12) rfl ws.heap.size (octs sl) rfl rfl 25 _ HA0.out HI.out HOS.out (octs_one sl) ?_; have HS3 := Aside0.mk (setRow_heap w2 ws.heap.size _ (octs sl) _ _ HA0.out); clear HB; have HB := Aside0.mk (below_setRow HB1.out HGS.out (octs sl)); generalize w2.setRow ws.heap.size (octs sl) = w3 at *; obtain ⟨g3, hg3⟩ : ∃ g_, g_ = ws.heap.size := ⟨_, rfl⟩; rw [← hg3] at HS3 ⊢; clear HA0 HB1 HGS hg3) | (go_at_call 18; (with_reducible refine (first_calls A0 c0 l0 _ (HK.out _ HB.out) (Kd.C_below HR.out HB.out) HC.out HL.out).mono ?_); rintro en wf ⟨rfl, hb⟩; rw [HH.out, HLO.out]; have HB' := Aside0.mk (below_step (by repeat (first | (with_reducible first | exact HB.out | apply below_alloc | apply pw_below_drewN | apply below_drew1) | exact HB.out)) hb); have HS3' := Aside0.mk (blk_below (by repeat (first | exact HS3.out | (with_reducible refine blk_drewN ?_ _) | (with_reducible refine blk_drew ?_) | (with_reducible refine blk_alloc ?_ _))) hb); clear hb HB HS3; have HB := HB'; have HS3 := HS3'; clear HB' HS3'; have HS4 : Aside0 ((wf.alloc (.cells #[.int .u64 h_, .int .u64 l_] 38)).heap[wf.heap.size]? = some (.cells #[.int .u64 h_, .int .u64 l_] 38 (0, 0))) := ⟨blk_new _ _⟩; have HS3' := Aside0.mk (blk_alloc HS3.out (.cells #[.int .u64 h_, .int .u64 l_] 38)); have HB' := Aside0.mk (below_alloc HB.out (.cells #[.int .u64 h_, .int .u64 l_] 38)); clear HB HS3; have HB := HB'; have HS3 := HS3'; clear HB' HS3'))
  obtain ⟨w9, hw9⟩ : ∃ w_, w_ = wf.alloc (.cells #[.int .u64 h_, .int .u64 l_] 38) := ⟨_, rfl⟩
  rw [← hw9] at HB HS3 HS4 ⊢
  obtain ⟨g4, hg4⟩ : ∃ g_, g_ = wf.heap.size := ⟨_, rfl⟩
  rw [← hg4] at HS4 ⊢
  clear hw9 hg4
  refine wp_region_held_drew (S := (fun W_ => W_.cell? ⟨g4, 0, none⟩ = some (.int .u64 h_) ∧ W_.cell? ⟨g4, 1, none⟩ = some (.int .u64 l_) ∧ (convert 22 9 (.slice (some ⟨g3, 0, none⟩) 16 32)).run Tryd.prog W_ = .ok (.string (strOfNums y2)) W_ ∧ (loadVar 25 ⟨g3, 0, none⟩).run Tryd.prog W_ = .ok (.agg (octs sl)) W_)) (by kernel_rfl) (by (try dsimp only); exact first_held (by repeat (first | exact HS3.out | (with_reducible refine blk_drewN ?_ _) | (with_reducible refine blk_drew ?_) | (with_reducible refine blk_alloc ?_ _))) (by repeat (first | exact HS4.out | (with_reducible refine blk_drewN ?_ _) | (with_reducible refine blk_drew ?_) | (with_reducible refine blk_alloc ?_ _))) HSL.out HY2.out HI.out) (fun hHeld => ?_)
  refine wpAnyH_take (i := 0) (v := ?_) rfl (by kernel_rfl) (by kernel_rfl) (by kernel_rfl) (fun _ _ _ h => h) (Or.inl ⟨by rfl, ?_⟩) (by assumption) ?_
  rotate_left
  · ((intro w hSw; (try dsimp only at hSw); go_simp) <;> with_reducible rfl)
  try simp only [Act.put, List.getElem_toArray, List.getElem_cons_succ, List.getElem_cons_zero, List.setIfInBounds_toArray, List.set_cons_zero, List.set_cons_succ]
  refine wpAnyH_take (i := 1) (v := ?_) rfl (by kernel_rfl) (by kernel_rfl) (by kernel_rfl) (fun _ _ _ h => h) (Or.inl ⟨by rfl, ?_⟩) (by assumption) ?_
  rotate_left
  · ((intro w hSw; (try dsimp only at hSw); go_simp) <;> with_reducible rfl)
  try simp only [Act.put, List.getElem_toArray, List.getElem_cons_succ, List.getElem_cons_zero, List.setIfInBounds_toArray, List.set_cons_zero, List.set_cons_succ]
  refine wpAnyH_take (i := 3) (v := ?_) rfl (by kernel_rfl) (by kernel_rfl) (by kernel_rfl) (fun _ _ _ h => h) (Or.inl ⟨by rfl, ?_⟩) (by assumption) ?_
  rotate_left
  · ((intro w hSw; (try dsimp only at hSw); go_simp) <;> with_reducible rfl)
  try simp only [Act.put, List.getElem_toArray, List.getElem_cons_succ, List.getElem_cons_zero, List.setIfInBounds_toArray, List.set_cons_zero, List.set_cons_succ]
  refine wpAnyH_take (i := 4) (v := ?_) rfl (by kernel_rfl) (by kernel_rfl) (by kernel_rfl) (fun _ _ _ h => h) (Or.inl ⟨by rfl, ?_⟩) (by assumption) ?_
  rotate_left
  · ((intro w hSw; (try dsimp only at hSw); go_simp) <;> with_reducible rfl)
  try simp only [Act.put, List.getElem_toArray, List.getElem_cons_succ, List.getElem_cons_zero, List.setIfInBounds_toArray, List.set_cons_zero, List.set_cons_succ]
  refine wpAnyH_take (i := 7) (v := ?_) rfl (by kernel_rfl) (by kernel_rfl) (by kernel_rfl) (fun _ _ _ h => h) (Or.inl ⟨by rfl, ?_⟩) (by assumption) ?_
  rotate_left
  · ((intro w hSw; (try dsimp only at hSw); go_simp) <;> with_reducible rfl)
  try simp only [Act.put, List.getElem_toArray, List.getElem_cons_succ, List.getElem_cons_zero, List.setIfInBounds_toArray, List.set_cons_zero, List.set_cons_succ]
  refine wpAnyH_take (i := 8) (v := ?_) rfl (by kernel_rfl) (by kernel_rfl) (by kernel_rfl) (fun _ _ _ h => h) (Or.inl ⟨by rfl, ?_⟩) (by assumption) ?_
  rotate_left
  · ((intro w hSw; (try dsimp only at hSw); go_simp) <;> with_reducible rfl)
  try simp only [Act.put, List.getElem_toArray, List.getElem_cons_succ, List.getElem_cons_zero, List.setIfInBounds_toArray, List.set_cons_zero, List.set_cons_succ]
  refine wpAnyH_ready (rs := [2]) (by kernel_rfl) (by simp) (AllReadyH.cons rfl (fun K hK => ?_) AllReadyH.nil)
  go_simp
  go_wp2_with (first | (go_at_call 21; (with_reducible refine (eightNil_calls h_ y1 _ HE1.out).mono ?_); rintro en wx ⟨vx, rfl, ho, hb⟩; have HX : Aside0 (Kd.R (Kd.int .u8) 5 wx w.heap.size (fun _ => True) vx y1) := ⟨Kd.R_lower ho (below_size (by repeat (first | (with_reducible first | exact HB.out | apply below_alloc | apply pw_below_drewN | apply below_drew1) | exact HB.out)))⟩; have HB' := Aside0.mk (below_step (by repeat (first | (with_reducible first | exact HB.out | apply below_alloc | apply pw_below_drewN | apply below_drew1) | exact HB.out)) hb); have HS3' := Aside0.mk (blk_below (by repeat (first | exact HS3.out | (with_reducible refine blk_drewN ?_ _) | (with_reducible refine blk_drew ?_) | (with_reducible refine blk_alloc ?_ _))) hb); have HS4' := Aside0.mk (blk_below (by repeat (first | exact HS4.out | (with_reducible refine blk_drewN ?_ _) | (with_reducible refine blk_drew ?_) | (with_reducible refine blk_alloc ?_ _))) hb); clear hb HB HS3 HS4; have HB := HB'; have HS3 := HS3'; have HS4 := HS4'; clear HB' HS3' HS4'; clear ho; obtain ⟨Ax, cx, ex⟩ := Kd.R_slice HX.out; subst ex) | (go_at_call 21; (with_reducible refine (touchstoneref1_Eight.calls 10 Ax cx y1 l_ y2 _ ?s1 ?s2 HE2.out).mono ?_); (case s1 => repeat (first | exact (Kd.R_reads' HX.out).2.2 | (with_reducible refine Kd.C_alloc ?_ _) | (with_reducible refine Kd.C_drewN ?_ _) | (with_reducible refine Kd.C_drew ?_))); (case s2 => exact (Kd.R_reads' HX.out).2.1); rintro en wy ⟨vy, rfl, ho, hb⟩; have hcv := own_string (P := Tryd.prog) Tryd.underlying22 Tryd.underlying5 Tryd.underlying9 (Kd.own_of_R ho); have HB' := Aside0.mk (below_step (by repeat (first | (with_reducible first | exact HB.out | apply below_alloc | apply pw_below_drewN | apply below_drew1) | exact HB.out)) hb); have HS3' := Aside0.mk (blk_below (by repeat (first | exact HS3.out | (with_reducible refine blk_drewN ?_ _) | (with_reducible refine blk_drew ?_) | (with_reducible refine blk_alloc ?_ _))) hb); have HS4' := Aside0.mk (blk_below (by repeat (first | exact HS4.out | (with_reducible refine blk_drewN ?_ _) | (with_reducible refine blk_drew ?_) | (with_reducible refine blk_alloc ?_ _))) hb); clear hb HB HS3 HS4; have HB := HB'; have HS3 := HS3'; have HS4 := HS4'; clear HB' HS3' HS4'; clear ho HX) | (go_at_call 14; (with_reducible refine (one_calls A0 c0 l0 _ (Kd.C_below HR.out (by repeat (first | (with_reducible first | exact HB.out | apply below_alloc | apply pw_below_drewN | apply below_drew1) | exact HB.out))) HC.out HL.out HBY.out).mono ?_); rintro en wt ⟨rfl, hb⟩; rw [one_is HBY.out, HS.out]; have HB' := Aside0.mk (below_step (by repeat (first | (with_reducible first | exact HB.out | apply below_alloc | apply pw_below_drewN | apply below_drew1) | exact HB.out)) hb); have HS3' := Aside0.mk (blk_below (by repeat (first | exact HS3.out | (with_reducible refine blk_drewN ?_ _) | (with_reducible refine blk_drew ?_) | (with_reducible refine blk_alloc ?_ _))) hb); have HS4' := Aside0.mk (blk_below (by repeat (first | exact HS4.out | (with_reducible refine blk_drewN ?_ _) | (with_reducible refine blk_drew ?_) | (with_reducible refine blk_alloc ?_ _))) hb); clear hb HB HS3 HS4; have HB := HB'; have HS3 := HS3'; have HS4 := HS4'; clear HB' HS3' HS4'))
  refine hK.out _ _ (by (try dsimp only); exact first_held (by repeat (first | exact HS3.out | (with_reducible refine blk_drewN ?_ _) | (with_reducible refine blk_drew ?_) | (with_reducible refine blk_alloc ?_ _))) (by repeat (first | exact HS4.out | (with_reducible refine blk_drewN ?_ _) | (with_reducible refine blk_drew ?_) | (with_reducible refine blk_alloc ?_ _))) HSL.out HY2.out HI.out) (fun hHeld2 => ?_)
  clear hK K hHeld
  have hHeld := hHeld2
  clear hHeld2
  try simp only [Act.put, List.getElem_toArray, List.getElem_cons_succ, List.getElem_cons_zero, List.setIfInBounds_toArray, List.set_cons_zero, List.set_cons_succ]
  refine wpAnyH_ready (rs := [5]) (by kernel_rfl) (by simp) (AllReadyH.cons rfl (fun K hK => ?_) AllReadyH.nil)
  go_simp
  go_wp2_with (first | (go_at_call 21; (with_reducible refine (eightNil_calls h_ y1 _ HE1.out).mono ?_); rintro en wx ⟨vx, rfl, ho, hb⟩; have HX : Aside0 (Kd.R (Kd.int .u8) 5 wx w.heap.size (fun _ => True) vx y1) := ⟨Kd.R_lower ho (below_size (by repeat (first | (with_reducible first | exact HB.out | apply below_alloc | apply pw_below_drewN | apply below_drew1) | exact HB.out)))⟩; have HB' := Aside0.mk (below_step (by repeat (first | (with_reducible first | exact HB.out | apply below_alloc | apply pw_below_drewN | apply below_drew1) | exact HB.out)) hb); have HS3' := Aside0.mk (blk_below (by repeat (first | exact HS3.out | (with_reducible refine blk_drewN ?_ _) | (with_reducible refine blk_drew ?_) | (with_reducible refine blk_alloc ?_ _))) hb); have HS4' := Aside0.mk (blk_below (by repeat (first | exact HS4.out | (with_reducible refine blk_drewN ?_ _) | (with_reducible refine blk_drew ?_) | (with_reducible refine blk_alloc ?_ _))) hb); clear hb HB HS3 HS4; have HB := HB'; have HS3 := HS3'; have HS4 := HS4'; clear HB' HS3' HS4'; clear ho; obtain ⟨Ax, cx, ex⟩ := Kd.R_slice HX.out; subst ex) | (go_at_call 21; (with_reducible refine (touchstoneref1_Eight.calls 10 Ax cx y1 l_ y2 _ ?s1 ?s2 HE2.out).mono ?_); (case s1 => repeat (first | exact (Kd.R_reads' HX.out).2.2 | (with_reducible refine Kd.C_alloc ?_ _) | (with_reducible refine Kd.C_drewN ?_ _) | (with_reducible refine Kd.C_drew ?_))); (case s2 => exact (Kd.R_reads' HX.out).2.1); rintro en wy ⟨vy, rfl, ho, hb⟩; have hcv := own_string (P := Tryd.prog) Tryd.underlying22 Tryd.underlying5 Tryd.underlying9 (Kd.own_of_R ho); have HB' := Aside0.mk (below_step (by repeat (first | (with_reducible first | exact HB.out | apply below_alloc | apply pw_below_drewN | apply below_drew1) | exact HB.out)) hb); have HS3' := Aside0.mk (blk_below (by repeat (first | exact HS3.out | (with_reducible refine blk_drewN ?_ _) | (with_reducible refine blk_drew ?_) | (with_reducible refine blk_alloc ?_ _))) hb); have HS4' := Aside0.mk (blk_below (by repeat (first | exact HS4.out | (with_reducible refine blk_drewN ?_ _) | (with_reducible refine blk_drew ?_) | (with_reducible refine blk_alloc ?_ _))) hb); clear hb HB HS3 HS4; have HB := HB'; have HS3 := HS3'; have HS4 := HS4'; clear HB' HS3' HS4'; clear ho HX) | (go_at_call 14; (with_reducible refine (one_calls A0 c0 l0 _ (Kd.C_below HR.out (by repeat (first | (with_reducible first | exact HB.out | apply below_alloc | apply pw_below_drewN | apply below_drew1) | exact HB.out))) HC.out HL.out HBY.out).mono ?_); rintro en wt ⟨rfl, hb⟩; rw [one_is HBY.out, HS.out]; have HB' := Aside0.mk (below_step (by repeat (first | (with_reducible first | exact HB.out | apply below_alloc | apply pw_below_drewN | apply below_drew1) | exact HB.out)) hb); have HS3' := Aside0.mk (blk_below (by repeat (first | exact HS3.out | (with_reducible refine blk_drewN ?_ _) | (with_reducible refine blk_drew ?_) | (with_reducible refine blk_alloc ?_ _))) hb); have HS4' := Aside0.mk (blk_below (by repeat (first | exact HS4.out | (with_reducible refine blk_drewN ?_ _) | (with_reducible refine blk_drew ?_) | (with_reducible refine blk_alloc ?_ _))) hb); clear hb HB HS3 HS4; have HB := HB'; have HS3 := HS3'; have HS4 := HS4'; clear HB' HS3' HS4'))
  refine hK.out _ _ (by (try dsimp only); exact first_held (by repeat (first | exact HS3.out | (with_reducible refine blk_drewN ?_ _) | (with_reducible refine blk_drew ?_) | (with_reducible refine blk_alloc ?_ _))) (by repeat (first | exact HS4.out | (with_reducible refine blk_drewN ?_ _) | (with_reducible refine blk_drew ?_) | (with_reducible refine blk_alloc ?_ _))) HSL.out HY2.out HI.out) (fun hHeld2 => ?_)
  clear hK K hHeld
  have hHeld := hHeld2
  clear hHeld2
  try simp only [Act.put, List.getElem_toArray, List.getElem_cons_succ, List.getElem_cons_zero, List.setIfInBounds_toArray, List.set_cons_zero, List.set_cons_succ]
  refine wpAnyH_ready (rs := [6]) (by kernel_rfl) (by simp) (AllReadyH.cons rfl (fun K hK => ?_) AllReadyH.nil)
  go_simp
  go_wp2_with (first | (go_at_call 21; (with_reducible refine (eightNil_calls h_ y1 _ HE1.out).mono ?_); rintro en wx ⟨vx, rfl, ho, hb⟩; have HX : Aside0 (Kd.R (Kd.int .u8) 5 wx w.heap.size (fun _ => True) vx y1) := ⟨Kd.R_lower ho (below_size (by repeat (first | (with_reducible first | exact HB.out | apply below_alloc | apply pw_below_drewN | apply below_drew1) | exact HB.out)))⟩; have HB' := Aside0.mk (below_step (by repeat (first | (with_reducible first | exact HB.out | apply below_alloc | apply pw_below_drewN | apply below_drew1) | exact HB.out)) hb); have HS3' := Aside0.mk (blk_below (by repeat (first | exact HS3.out | (with_reducible refine blk_drewN ?_ _) | (with_reducible refine blk_drew ?_) | (with_reducible refine blk_alloc ?_ _))) hb); have HS4' := Aside0.mk (blk_below (by repeat (first | exact HS4.out | (with_reducible refine blk_drewN ?_ _) | (with_reducible refine blk_drew ?_) | (with_reducible refine blk_alloc ?_ _))) hb); clear hb HB HS3 HS4; have HB := HB'; have HS3 := HS3'; have HS4 := HS4'; clear HB' HS3' HS4'; clear ho; obtain ⟨Ax, cx, ex⟩ := Kd.R_slice HX.out; subst ex) | (go_at_call 21; (with_reducible refine (touchstoneref1_Eight.calls 10 Ax cx y1 l_ y2 _ ?s1 ?s2 HE2.out).mono ?_); (case s1 => repeat (first | exact (Kd.R_reads' HX.out).2.2 | (with_reducible refine Kd.C_alloc ?_ _) | (with_reducible refine Kd.C_drewN ?_ _) | (with_reducible refine Kd.C_drew ?_))); (case s2 => exact (Kd.R_reads' HX.out).2.1); rintro en wy ⟨vy, rfl, ho, hb⟩; have hcv := own_string (P := Tryd.prog) Tryd.underlying22 Tryd.underlying5 Tryd.underlying9 (Kd.own_of_R ho); have HB' := Aside0.mk (below_step (by repeat (first | (with_reducible first | exact HB.out | apply below_alloc | apply pw_below_drewN | apply below_drew1) | exact HB.out)) hb); have HS3' := Aside0.mk (blk_below (by repeat (first | exact HS3.out | (with_reducible refine blk_drewN ?_ _) | (with_reducible refine blk_drew ?_) | (with_reducible refine blk_alloc ?_ _))) hb); have HS4' := Aside0.mk (blk_below (by repeat (first | exact HS4.out | (with_reducible refine blk_drewN ?_ _) | (with_reducible refine blk_drew ?_) | (with_reducible refine blk_alloc ?_ _))) hb); clear hb HB HS3 HS4; have HB := HB'; have HS3 := HS3'; have HS4 := HS4'; clear HB' HS3' HS4'; clear ho HX) | (go_at_call 14; (with_reducible refine (one_calls A0 c0 l0 _ (Kd.C_below HR.out (by repeat (first | (with_reducible first | exact HB.out | apply below_alloc | apply pw_below_drewN | apply below_drew1) | exact HB.out))) HC.out HL.out HBY.out).mono ?_); rintro en wt ⟨rfl, hb⟩; rw [one_is HBY.out, HS.out]; have HB' := Aside0.mk (below_step (by repeat (first | (with_reducible first | exact HB.out | apply below_alloc | apply pw_below_drewN | apply below_drew1) | exact HB.out)) hb); have HS3' := Aside0.mk (blk_below (by repeat (first | exact HS3.out | (with_reducible refine blk_drewN ?_ _) | (with_reducible refine blk_drew ?_) | (with_reducible refine blk_alloc ?_ _))) hb); have HS4' := Aside0.mk (blk_below (by repeat (first | exact HS4.out | (with_reducible refine blk_drewN ?_ _) | (with_reducible refine blk_drew ?_) | (with_reducible refine blk_alloc ?_ _))) hb); clear hb HB HS3 HS4; have HB := HB'; have HS3 := HS3'; have HS4 := HS4'; clear HB' HS3' HS4'))
  refine hK.out _ _ (by (try dsimp only); exact first_held (by repeat (first | exact HS3.out | (with_reducible refine blk_drewN ?_ _) | (with_reducible refine blk_drew ?_) | (with_reducible refine blk_alloc ?_ _))) (by repeat (first | exact HS4.out | (with_reducible refine blk_drewN ?_ _) | (with_reducible refine blk_drew ?_) | (with_reducible refine blk_alloc ?_ _))) HSL.out HY2.out HI.out) (fun hHeld2 => ?_)
  clear hK K hHeld
  have hHeld := hHeld2
  clear hHeld2
  try simp only [Act.put, List.getElem_toArray, List.getElem_cons_succ, List.getElem_cons_zero, List.setIfInBounds_toArray, List.set_cons_zero, List.set_cons_succ]
  refine wpAnyH_take (i := 9) (v := ?_) rfl (by kernel_rfl) (by kernel_rfl) (by kernel_rfl) (fun _ _ _ h => h) (Or.inl ⟨by rfl, ?_⟩) (by assumption) ?_
  rotate_left
  · ((intro w hSw; (try dsimp only at hSw); go_simp) <;> with_reducible rfl)
  try simp only [Act.put, List.getElem_toArray, List.getElem_cons_succ, List.getElem_cons_zero, List.setIfInBounds_toArray, List.set_cons_zero, List.set_cons_succ]
  refine wpAnyH_take (i := 10) (v := ?_) rfl (by kernel_rfl) (by kernel_rfl) (by kernel_rfl) (fun _ _ _ h => h) (Or.inl ⟨by rfl, ?_⟩) (by assumption) ?_
  rotate_left
  · ((intro w hSw; (try dsimp only at hSw); go_simp) <;> with_reducible rfl)
  try simp only [Act.put, List.getElem_toArray, List.getElem_cons_succ, List.getElem_cons_zero, List.setIfInBounds_toArray, List.set_cons_zero, List.set_cons_succ]
  refine wpAnyH_take (i := 11) (v := ?_) rfl (by kernel_rfl) (by kernel_rfl) (by kernel_rfl) (fun _ _ _ h => h) (Or.inl ⟨by rfl, ?_⟩) (by assumption) ?_
  rotate_left
  · ((intro w hSw; (try dsimp only at hSw); go_simp) <;> with_reducible rfl)
  try simp only [Act.put, List.getElem_toArray, List.getElem_cons_succ, List.getElem_cons_zero, List.setIfInBounds_toArray, List.set_cons_zero, List.set_cons_succ]
  refine wpAnyH_take (i := 13) (v := ?_) rfl (by kernel_rfl) (by kernel_rfl) (by kernel_rfl) (fun _ _ _ h => h) (Or.inl ⟨by rfl, ?_⟩) (by assumption) ?_
  rotate_left
  · intro w_ hSw
    refine Eq.trans (b := Result.ok (Next.value (Value.agg (octs sl))) w_) ?_ ?_
    · refine load_yields 25 (Operand.tmp 3) ?a1 g3 ?a2 (octs sl) w_ hSw.2.2.2
      · rfl
      · rfl
    · rfl
  try simp only [Act.put, List.getElem_toArray, List.getElem_cons_succ, List.getElem_cons_zero, List.setIfInBounds_toArray, List.set_cons_zero, List.set_cons_succ]
  refine wpAnyH_ready (rs := [12]) (by kernel_rfl) (by simp) (AllReadyH.cons rfl (fun K hK => ?_) AllReadyH.nil)
  go_simp
  go_wp2_with (first | (go_at_call 21; (with_reducible refine (eightNil_calls h_ y1 _ HE1.out).mono ?_); rintro en wx ⟨vx, rfl, ho, hb⟩; have HX : Aside0 (Kd.R (Kd.int .u8) 5 wx w.heap.size (fun _ => True) vx y1) := ⟨Kd.R_lower ho (below_size (by repeat (first | (with_reducible first | exact HB.out | apply below_alloc | apply pw_below_drewN | apply below_drew1) | exact HB.out)))⟩; have HB' := Aside0.mk (below_step (by repeat (first | (with_reducible first | exact HB.out | apply below_alloc | apply pw_below_drewN | apply below_drew1) | exact HB.out)) hb); have HS3' := Aside0.mk (blk_below (by repeat (first | exact HS3.out | (with_reducible refine blk_drewN ?_ _) | (with_reducible refine blk_drew ?_) | (with_reducible refine blk_alloc ?_ _))) hb); have HS4' := Aside0.mk (blk_below (by repeat (first | exact HS4.out | (with_reducible refine blk_drewN ?_ _) | (with_reducible refine blk_drew ?_) | (with_reducible refine blk_alloc ?_ _))) hb); clear hb HB HS3 HS4; have HB := HB'; have HS3 := HS3'; have HS4 := HS4'; clear HB' HS3' HS4'; clear ho; obtain ⟨Ax, cx, ex⟩ := Kd.R_slice HX.out; subst ex) | (go_at_call 21; (with_reducible refine (touchstoneref1_Eight.calls 10 Ax cx y1 l_ y2 _ ?s1 ?s2 HE2.out).mono ?_); (case s1 => repeat (first | exact (Kd.R_reads' HX.out).2.2 | (with_reducible refine Kd.C_alloc ?_ _) | (with_reducible refine Kd.C_drewN ?_ _) | (with_reducible refine Kd.C_drew ?_))); (case s2 => exact (Kd.R_reads' HX.out).2.1); rintro en wy ⟨vy, rfl, ho, hb⟩; have hcv := own_string (P := Tryd.prog) Tryd.underlying22 Tryd.underlying5 Tryd.underlying9 (Kd.own_of_R ho); have HB' := Aside0.mk (below_step (by repeat (first | (with_reducible first | exact HB.out | apply below_alloc | apply pw_below_drewN | apply below_drew1) | exact HB.out)) hb); have HS3' := Aside0.mk (blk_below (by repeat (first | exact HS3.out | (with_reducible refine blk_drewN ?_ _) | (with_reducible refine blk_drew ?_) | (with_reducible refine blk_alloc ?_ _))) hb); have HS4' := Aside0.mk (blk_below (by repeat (first | exact HS4.out | (with_reducible refine blk_drewN ?_ _) | (with_reducible refine blk_drew ?_) | (with_reducible refine blk_alloc ?_ _))) hb); clear hb HB HS3 HS4; have HB := HB'; have HS3 := HS3'; have HS4 := HS4'; clear HB' HS3' HS4'; clear ho HX) | (go_at_call 14; (with_reducible refine (one_calls A0 c0 l0 _ (Kd.C_below HR.out (by repeat (first | (with_reducible first | exact HB.out | apply below_alloc | apply pw_below_drewN | apply below_drew1) | exact HB.out))) HC.out HL.out HBY.out).mono ?_); rintro en wt ⟨rfl, hb⟩; rw [one_is HBY.out, HS.out]; have HB' := Aside0.mk (below_step (by repeat (first | (with_reducible first | exact HB.out | apply below_alloc | apply pw_below_drewN | apply below_drew1) | exact HB.out)) hb); have HS3' := Aside0.mk (blk_below (by repeat (first | exact HS3.out | (with_reducible refine blk_drewN ?_ _) | (with_reducible refine blk_drew ?_) | (with_reducible refine blk_alloc ?_ _))) hb); have HS4' := Aside0.mk (blk_below (by repeat (first | exact HS4.out | (with_reducible refine blk_drewN ?_ _) | (with_reducible refine blk_drew ?_) | (with_reducible refine blk_alloc ?_ _))) hb); clear hb HB HS3 HS4; have HB := HB'; have HS3 := HS3'; have HS4 := HS4'; clear HB' HS3' HS4'))
  refine hK.out _ _ (by (try dsimp only); exact first_held (by repeat (first | exact HS3.out | (with_reducible refine blk_drewN ?_ _) | (with_reducible refine blk_drew ?_) | (with_reducible refine blk_alloc ?_ _))) (by repeat (first | exact HS4.out | (with_reducible refine blk_drewN ?_ _) | (with_reducible refine blk_drew ?_) | (with_reducible refine blk_alloc ?_ _))) HSL.out HY2.out HI.out) (fun hHeld2 => ?_)
  clear hK K hHeld
  have hHeld := hHeld2
  clear hHeld2
  try simp only [Act.put, List.getElem_toArray, List.getElem_cons_succ, List.getElem_cons_zero, List.setIfInBounds_toArray, List.set_cons_zero, List.set_cons_succ]
  refine wpAnyH_take (i := 14) (v := ?_) rfl (by kernel_rfl) (by kernel_rfl) (by kernel_rfl) (fun _ _ _ h => h) (Or.inl ⟨by rfl, ?_⟩) (by assumption) ?_
  rotate_left
  · ((intro w hSw; (try dsimp only at hSw); go_simp) <;> with_reducible rfl)
  try simp only [Act.put, List.getElem_toArray, List.getElem_cons_succ, List.getElem_cons_zero, List.setIfInBounds_toArray, List.set_cons_zero, List.set_cons_succ]
  refine wpAnyH_take (i := 15) (v := ?_) rfl (by kernel_rfl) (by kernel_rfl) (by kernel_rfl) (fun _ _ _ h => h) (Or.inl ⟨by rfl, ?_⟩) (by assumption) ?_
  rotate_left
  · ((intro w hSw; (try dsimp only at hSw); go_simp) <;> with_reducible rfl)
  try simp only [Act.put, List.getElem_toArray, List.getElem_cons_succ, List.getElem_cons_zero, List.setIfInBounds_toArray, List.set_cons_zero, List.set_cons_succ]
  refine wpAnyH_take (i := 16) (v := ?_) rfl (by kernel_rfl) (by kernel_rfl) (by kernel_rfl) (fun _ _ _ h => h) (Or.inl ⟨by rfl, ?_⟩) (by assumption) ?_
  rotate_left
  · ((intro w hSw; (try dsimp only at hSw); go_simp) <;> with_reducible rfl)
  try simp only [Act.put, List.getElem_toArray, List.getElem_cons_succ, List.getElem_cons_zero, List.setIfInBounds_toArray, List.set_cons_zero, List.set_cons_succ]
  refine wpAnyH_done (by kernel_rfl) ?_ _
  go_wp2
  go_ret
  exact ⟨rfl, (by repeat (first | (with_reducible first | exact HB.out | apply below_alloc | apply pw_below_drewN | apply below_drew1) | exact HB.out))⟩
theorem touchstonelaw2_DigestFirst.walk (A0 : Option Addr) (c0 : Nat) (l0 : List Int) (w : World) (hk : Laid w) (hr0 : Kd.C (Kd.int .u8) w A0 l0.length l0) (hc0 : l0.length ≤ c0) (hW0 : l0.length * 1 ≤ 140737488351232 ∧ l0.length ≤ maxLen ∧ ∀ (x : Int), x ∈ l0 → (Lit.int IntKind.u8 x).wf = true) :
    Calls Tryd.prog 6 #[.slice A0 l0.length c0] w fun en w' => en = .returned (.bool true) ∧ Below w.heap.size w w' := by
  by_cases h : 1000 < l0.length
  · exact dfirst_big A0 c0 l0 w hk hr0 hc0 h
  · exact dfirst_walk A0 c0 l0 w hk hr0 hc0 (by omega) (OctetMath.Bytes.of_wf hW0.2.2)
end Go.Proofs.YtgaekibompacnaaDoor.QD
