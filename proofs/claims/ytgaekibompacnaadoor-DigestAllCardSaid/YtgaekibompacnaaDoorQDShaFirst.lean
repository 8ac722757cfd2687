/- The contracts of digest's First and of the document's. -/
import Derived.Test.YtgaekibompacnaaDoorQDShaEnd
import Derived.Test.YtgaekibompacnaaDoorQDRefTake
set_option linter.unusedVariables false
set_option linter.unusedSimpArgs false
namespace Go.Proofs.YtgaekibompacnaaDoor.QD
open Go.RowKit Go.Proofs.YtgaekibompacnaaDoorW.PrintWords Go.Proofs.YtgaekibompacnaaDoorW.PrintLast Go.Proofs.YtgaekibompacnaaDoorW.PrintMore
theorem fk_own {W : World} {ok : Nat → Prop} {A : Option Addr} {c : Nat} {xs : List Int} (h : Kd.F (Kd.int .u8) W ok A xs.length xs) (hc : xs.length ≤ c) : Kd.FK (Kd.slice 5 (Kd.int .u8)) W ok xs [.slice A xs.length c] := Foot.imp h (fun W' h_ => ⟨_, _, rfl, hc, h_⟩)
theorem back8_lt : ∀ (l : List Int) (v : Int) (k : Nat), AllBy l → 0 ≤ v → v < 256 ^ k → 0 ≤ l.foldl (fun v c => v * 256 + c) v ∧ l.foldl (fun v c => v * 256 + c) v < 256 ^ (k + l.length)
  | [], v, k, _, h0, h1 => ⟨h0, h1⟩
  | c :: l, v, k, hb, h0, h1 => by
    have hc := hb c (by simp)
    have := back8_lt l (v * 256 + c) (k + 1) (fun x hx => hb x (by simp [hx])) (by omega) (by rw [Int.pow_succ]; omega)
    rw [List.length_cons, show k + (l.length + 1) = k + 1 + l.length by omega]
    exact this
theorem back8_take {l : List Int} (hb : AllBy l) (hl : l.length ≤ 8) {i : Nat} (hi : i < l.length) : 0 ≤ OctetMath.back8 (l.take i) ∧ OctetMath.back8 (l.take i) < 72057594037927936 := by
  have h := back8_lt (l.take i) 0 0 (fun x hx => hb x (List.mem_of_mem_take hx)) (by decide) (by decide)
  refine ⟨h.1, ?_⟩
  have h2 : (256 : Int) ^ (0 + (l.take i).length) ≤ 256 ^ 7 := OctetMath.pow_le_int 256 (by decide) (by simp; omega)
  have h3 := Int.lt_of_lt_of_le h.2 h2
  simpa [OctetMath.back8] using h3
theorem back8_snoc (l : List Int) (c : Int) : OctetMath.back8 (l ++ [c]) = OctetMath.back8 l * 256 + c := by simp [OctetMath.back8]
theorem or_byte {v c : Int} (h0 : 0 ≤ v) (h1 : v < 72057594037927936) (hc : 0 ≤ c ∧ c < 256) : Go.bits .or .u64 (v * 256) c = v * 256 + c := by
  obtain ⟨a, rfl⟩ : ∃ a : Nat, v = (a : Int) := ⟨v.toNat, by omega⟩
  obtain ⟨b, rfl⟩ : ∃ a : Nat, c = (a : Int) := ⟨c.toNat, by omega⟩
  have := byte_or a b 8 (by omega)
  rw [show ((a : Int) * 256) = ((2 ^ 8 * a : Nat) : Int) by omega, (bits64 .or _ _ (by omega) (by omega)).2.1, this]
  omega
set_option maxRecDepth 100000 in
set_option maxHeartbeats 8000000 in
theorem word_calls (A : Option Addr) (c : Nat) (l : List Int) (w : World) (hr : Kd.C (Kd.int .u8) w A l.length l) (hc : l.length ≤ c) (hl : l.length ≤ 8) (hb : AllBy l) :
    Calls Tryd.prog 32 #[.slice A l.length c] w fun en w' => en = .returned (.int .u64 (OctetMath.back8 l)) ∧ w' = w := by
  have HR := Aside0.mk hr
  have HL := Aside0.mk hl
  have HBY := Aside0.mk hb
  clear hr hc hl hb
  go_enter Tryd.func32, Tryd.ntmps32
  go_wp2
  go_loopw [3, 8] (fun v3 v8 wr => ∃ (i : Nat), i ≤ l.length ∧ v8 = .int .i64 (i : Int) ∧ v3 = .int .u64 (OctetMath.back8 (l.take i)) ∧ wr = w) (fun _ v8 _ => l.length - (intOf v8).toNat)
  case atStart => exact ⟨0, Nat.zero_le _, rfl, rfl, rfl⟩
  case round =>
    obtain ⟨i, hi, rfl, rfl, rfl⟩ := hrel
    by_cases hlt : i < l.length
    · have hil : decide ((i : Int) < (l.length : Int)) = true := by simp; omega
      have hil2 : decide (i < l.length) = true := decide_eq_true hlt
      obtain ⟨ad, ea, hx⟩ := Kd.at_int HR.out (i : Int) (by omega) (by omega)
      obtain ⟨x, hxe⟩ : ∃ x_, x_ = rd l (i : Int) := ⟨_, rfl⟩
      rw [← hxe, Int.toNat_natCast] at hx
      have hxb := HBY.out.get (i : Int)
      rw [← hxe] at hxb
      obtain ⟨v, hv⟩ : ∃ v_, v_ = OctetMath.back8 (l.take i) := ⟨_, rfl⟩
      have hvb := back8_take HBY.out HL.out hlt
      rw [← hv] at hvb ⊢
      have HV : Aside0 (OctetMath.back8 (l.take (i + 1)) = v * 256 + x) := ⟨by rw [List.take_succ_eq_append_getElem hlt, back8_snoc, hv, hxe]; simp [rd, List.getD_eq_getElem?_getD, List.getElem?_eq_getElem hlt]⟩
      have hw1 : IntKind.u64.wrap (v * 256) = v * 256 := wrap64u _ (by omega) (by omega)
      have hw2 : IntKind.u64.wrap x = x := wrap64u _ (by omega) (by omega)
      have hor : Go.bits .or .u64 (v * 256) x = v * 256 + x := or_byte hvb.1 hvb.2 hxb
      have hp0 : (0 : Int) ≤ (i : Int) := by omega
      have hp1 : (i : Int) < (l.length : Int) := by omega
      have HLT := Aside0.mk hlt
      have HWR0 : Aside0 (wrap64 ((i : Int) + 1) = ((i + 1 : Nat) : Int)) := ⟨(OctetMath.wrap64_id (by have := HL.out; omega) (by have := HL.out; omega)).trans (by omega)⟩
      clear hlt hi hxe hxb hvb hv
      subst ea
      have HWR := HWR0.out
      go_wp2
      go_roundw
      case rel => exact ⟨i + 1, HLT.out, by first | rfl | (rw [HWR]) | (congr 1), by rw [HV.out], by first | rfl | trivial⟩
      case measure => first | (rw [HWR]; exact Nat.sub_lt_sub_left HLT.out (Nat.lt_succ_self i)) | (exact Nat.sub_lt_sub_left HLT.out (Nat.lt_succ_self i))
    · have hil : decide ((i : Int) < (l.length : Int)) = false := by simp; omega
      have hil2 : decide (i < l.length) = false := decide_eq_false hlt
      obtain rfl : i = l.length := by omega
      rw [List.take_length]
      go_wp2
      go_ret
      exact ⟨rfl, by first | rfl | trivial⟩
theorem wordN_calls (A : Option Addr) (c : Nat) (l : List Int) (n : Nat) (w : World) (hn : l.length = n) (hr : Kd.C (Kd.int .u8) w A l.length l) (hc : n ≤ c) (hl : n ≤ 8) (hb : AllBy l) :
    Calls Tryd.prog 32 #[.slice A n c] w fun en w' => en = .returned (.int .u64 (OctetMath.back8 l)) ∧ w' = w := by
  subst hn
  exact word_calls A c l w hr hc hl hb
theorem takeN_calls (A : Option Addr) (c : Nat) (l : List Int) (n : Nat) (r1 r2 : Int) (w : World) (hn : l.length = n) (hr : Kd.C (Kd.int .u8) w A l.length l) (hc : n ≤ c) (h : touchstoneref1_TakeEight.f 10 l = some (r1, r2)) :
    Calls Tryd.prog 33 #[.slice A n c] w fun en w' => en = .returned (.tuple #[.int .u64 r1, .int .i64 r2]) ∧ ∃ m, w' = w.drewN m := by
  subst hn
  exact (touchstoneref1_TakeEight.calls 10 A c l r1 r2 w hr hc h).mono fun e w' ⟨he, m, hm⟩ => ⟨he, m, hm⟩
/-- A piece of an array of bytes is read as its bytes. -/
theorem octs_cut {W : World} {g : Nat} {fr : Nat × Nat} {l : List Int} (h : W.heap[g]? = some (.cells (octs l) 25 fr)) (hl : l.length = 32) {i n : Nat} (hin : i + n ≤ 32) : Kd.C (Kd.int .u8) W (some ⟨g, i, none⟩) ((l.drop i).take n).length ((l.drop i).take n) := by
  have hn : ((l.drop i).take n).length = n := by simp; omega
  have hrt : ReadsInt W .u8 (some ⟨g, i, none⟩) ((l.drop i).take n).length ((l.drop i).take n) := ⟨rfl, by omega, fun _ => ⟨_, rfl, fun j hj => by
    rw [hn] at hj
    rw [show (⟨g, i, none⟩ : Addr).add j = ⟨g, i + j, none⟩ from by simp [Addr.add], cell_of_row _ _ _ _ _ _ h]
    simp [octs, List.getD_eq_getElem?_getD, List.getElem?_take, hj, List.getElem?_drop, List.getElem?_eq_getElem (show i + j < l.length by omega)]⟩⟩
  exact Kd.C_of_reads (d := (0 : Int)) (h1 := fun _ => rfl) hrt
theorem shaL_by (b : List Int) : AllBy (shaL b) := by
  have h8 : (foldB 4 (eats b).1 (padL (eats b).2 ++ sizeB b.length 8)).length = 8 := foldB_len _ _ _ (eats_ok b).1
  unfold shaL
  generalize foldB 4 (eats b).1 (padL (eats b).2 ++ sizeB b.length 8) = st at *
  intro x hx
  unfold outP at hx
  rw [List.take_of_length_le (by omega)] at hx
  simp only [Nat.reduceMul, Nat.sub_self, List.replicate_zero, List.append_nil, List.mem_flatMap, b4, List.mem_cons, List.not_mem_nil, or_false] at hx
  obtain ⟨a, _, h⟩ := hx
  rcases h with rfl | rfl | rfl | rfl <;> exact ⟨by omega, by omega⟩
/-- A sum's first half, as two numbers. -/
def hi8 (b : List Int) : Int := OctetMath.back8 ((shaL b).take 8)
def lo8 (b : List Int) : Int := OctetMath.back8 (((shaL b).drop 8).take 8)
set_option maxRecDepth 100000 in
set_option maxHeartbeats 8000000 in
theorem first_calls (A : Option Addr) (c : Nat) (b : List Int) (w : World) (hk : Laid w) (hr : Kd.C (Kd.int .u8) w A b.length b) (hc : b.length ≤ c) (hl : b.length ≤ 1000000) :
    Calls Tryd.prog 18 #[.slice A b.length c] w fun en w' => en = .returned (.agg #[.int .u64 (hi8 b), .int .u64 (lo8 b)]) ∧ Below w.heap.size w w' := by
  have HK : Aside0 (∀ W : World, Below w.heap.size w W → Laid W) := ⟨fun W hW => hk.below hW⟩
  have HR := Aside0.mk hr
  have HC := Aside0.mk hc
  have HFE : Aside0 (([b] : List (List Int)).flatten = b) := ⟨by simp⟩
  have HFL : Aside0 (([b] : List (List Int)).flatten.length ≤ 1000000) := ⟨by rw [HFE.out]; exact hl⟩
  obtain ⟨sl, hsl⟩ : ∃ s_, s_ = shaL b := ⟨_, rfl⟩
  have HS : Aside0 (shaL b = sl) := ⟨hsl.symm⟩
  have HSL : Aside0 (sl.length = 32) := ⟨by rw [hsl]; exact shaL_len b⟩
  have HSB : Aside0 (AllBy sl) := ⟨by rw [hsl]; exact shaL_by b⟩
  have HI : Aside0 ((Tryd.prog.info? 25).map (·.size) = some (octs sl).size) := ⟨by rw [octs_size HSL.out]; kernel_rfl⟩
  have HOS : Aside0 ((octs (List.replicate 32 0)).size = (octs sl).size) := ⟨by rw [octs_size HSL.out]; exact octs_size (by simp)⟩
  have HZ0 : Aside0 ((w.alloc (.cells #[.int .u64 0, .int .u64 0] 38)).heap[w.heap.size]? = some (.cells #[.int .u64 0, .int .u64 0] 38 (0, 0))) := ⟨blk_new _ _⟩
  have HB : Aside0 (Below w.heap.size w (w.alloc (.cells #[.int .u64 0, .int .u64 0] 38))) := ⟨below_alloc (Below.refl _ _) _⟩
  clear hk hr hc hl hsl
  go_enter Tryd.func18, Tryd.ntmps18
  go_wp2_with (first | ((with_reducible refine gate_dst (N := 2) rfl ?_); refine Kd.event_run (v := .pointer (some ⟨w.heap.size, 0, none⟩)) (w1 := w.alloc (.cells #[.int .u64 0, .int .u64 0] 38)) rfl ?hr ?_; (case hr => first | rfl | (go_simp; rfl)); generalize w.alloc (.cells #[.int .u64 0, .int .u64 0] 38) = w1 at *) | ((with_reducible refine gate_dst (N := 6) rfl ?_); refine Kd.N_lit (Kd.slice 5 (Kd.int .u8)) w1.heap.size 22 ?hg (N' := 6) ?hd (xs := ([b] : List (List Int))) (inner := [.slice A b.length c]) (ok := fun _ => True) (okp := fun k_ => k_ < w1.heap.size) ?hr ?hp (fun _ _ => trivial) trivial (Below.refl _ _) (Nat.le_refl _) (by simp) ?_; (case hd => rfl); (case hg => rfl); (case hr => first | (go_simp; done) | (go_simp; rfl)); (case hp => exact Reps.one (fk_own (Kd.C_F (Kd.heap_int _) (Kd.C_below HR.out HB.out)) HC.out) (Reps.none _ _)); intro v20 wl ho hb hg_ hnew_; have HZ0' := Aside0.mk (blk_below HZ0.out hb); have HB' := Aside0.mk (below_step HB.out hb); clear HB HZ0 hnew_ hg_; have HB := HB'; have HZ0 := HZ0'; clear HB' HZ0'; obtain ⟨A20, c20, e20⟩ := Kd.N_slice ho; change _ = Value.slice A20 1 c20 at e20; subst e20; have hrr := Kd.N_reads' ho; have HC20 := Aside0.mk hrr.2.2; have Hc20 := Aside0.mk hrr.2.1; clear hb ho hrr) | (go_at_call 11; refine (sum_calls A20 c20 [b] _ (HK.out _ HB.out) HC20.out Hc20.out (by simp) HFL.out).mono ?_; rintro en ws ⟨rfl, hb⟩; rw [HFE.out, HS.out]; have HB' := Aside0.mk (below_step (by repeat (first | (with_reducible first | exact HB.out | apply below_alloc | apply pw_below_drewN | apply below_drew1) | exact HB.out)) hb); have HZ0' := Aside0.mk (blk_below (by repeat (first | exact HZ0.out | (with_reducible refine blk_drewN ?_ _) | (with_reducible refine blk_drew ?_) | (with_reducible refine blk_alloc ?_ _))) hb); clear hb HB HZ0; have HB := HB'; have HZ0 := HZ0'; clear HB' HZ0'; have HA0 : Aside0 ((ws.alloc (.cells (octs (List.replicate 32 0)) 25)).heap[ws.heap.size]? = some (.cells (octs (List.replicate 32 0)) 25 (0, 0))) := ⟨blk_new _ _⟩; have HZ1 : Aside0 ((ws.alloc (.cells (octs (List.replicate 32 0)) 25)).heap[w.heap.size]? = some (.cells #[.int .u64 0, .int .u64 0] 38 (0, 0))) := ⟨blk_alloc HZ0.out _⟩; have HB1 : Aside0 (Below w.heap.size w (ws.alloc (.cells (octs (List.replicate 32 0)) 25))) := ⟨below_alloc HB.out _⟩; have HGS : Aside0 (w.heap.size < ws.heap.size) := ⟨blk_lt HZ0.out⟩) | ((with_reducible refine gate_dst (N := 3) rfl ?_); refine Kd.event_run (v := .pointer (some ⟨ws.heap.size, 0, none⟩)) (w1 := ws.alloc (.cells (octs (List.replicate 32 0)) 25)) rfl ?hr ?_; (case hr => first | rfl | (go_simp; rfl)); generalize ws.alloc (.cells (octs (List.replicate 32 0)) 25) = w2 at *) | ((with_reducible refine gate_store (t := 25) (p := 3) (v := .tmp 7) rfl ?_); refine wpList_store_row rfl 25 (.tmp 3) (.tmp 7) rfl ws.heap.size (octs sl) rfl rfl 25 _ HA0.out HI.out HOS.out (octs_one sl) ?_; have HS3 := Aside0.mk (setRow_heap w2 ws.heap.size _ (octs sl) _ _ HA0.out); have HZ3 := Aside0.mk ((setRow_other w2 ws.heap.size w.heap.size (octs sl) (Nat.ne_of_lt HGS.out)).trans HZ1.out); have HB3 := Aside0.mk (below_setRow HB1.out (Nat.le_of_lt HGS.out) (octs sl)); generalize w2.setRow ws.heap.size (octs sl) = w3 at *; clear HA0 HZ1 HB1 HB HZ0))
  obtain ⟨h_, hh_⟩ : ∃ x_, x_ = OctetMath.back8 ((sl.drop 0).take 8) := ⟨_, rfl⟩
  obtain ⟨l_, hl_⟩ : ∃ x_, x_ = OctetMath.back8 ((sl.drop 8).take 8) := ⟨_, rfl⟩
  have HH : Aside0 (hi8 b = h_) := ⟨by rw [hh_]; unfold hi8; rw [HS.out]; rfl⟩
  have HLO : Aside0 (lo8 b = l_) := ⟨by rw [hl_]; unfold lo8; rw [HS.out]⟩
  have hc1 := wordN_calls (some ⟨ws.heap.size, 0, none⟩) 32 ((sl.drop 0).take 8) 8 w3.drew (by have := HSL.out; simp; omega) (octs_cut (blk_drew HS3.out) HSL.out (by decide)) (by decide) (by decide) (fun x hx => HSB.out x (List.mem_of_mem_drop (List.mem_of_mem_take hx)))
  have hc2 := wordN_calls (some ⟨ws.heap.size, 8, none⟩) 24 ((sl.drop 8).take 8) 8 w3.drew (by have := HSL.out; simp; omega) (octs_cut (blk_drew HS3.out) HSL.out (by decide)) (by decide) (by decide) (fun x hx => HSB.out x (List.mem_of_mem_drop (List.mem_of_mem_take hx)))
  rw [← hh_] at hc1
  rw [← hl_] at hc2
  clear hh_ hl_
  go_still_tail 7, (by kernel_rfl)
  still_call hc1
  repeat still_step
  still_call hc2
  repeat still_step
  refine wpStill_nil ?_
  change wpList _ _ _ _ _ w3.drew
  have HZ4 := Aside0.mk (blk_drew HZ3.out)
  have HB4 := Aside0.mk (below_drew1 HB3.out)
  clear hc1 hc2
  generalize w3.drew = w4 at *
  have hz0 : w4.cell? ⟨w.heap.size, 0, none⟩ = some (.int .u64 0) := (blk_cell HZ4.out 0).trans rfl
  have hz1 : w4.cell? ⟨w.heap.size, 1, none⟩ = some (.int .u64 0) := (blk_cell HZ4.out 1).trans rfl
  have hf0 := blk_frozen HZ4.out 0
  have hf1 := blk_frozen HZ4.out 1
  go_wp2
  (try simp only [Exit.inBlock, Exit.then])
  have HE1 := blk_set (blk_set HZ4.out 0 (.int .u64 h_)) 1 (.int .u64 l_)
  refine bodyPost_ret (results_cell_row (p := 2) (ty := 38) rfl _ _ w.heap.size 38 #[.int .u64 h_, .int .u64 l_] (0, 0) _ rfl HE1 Tryd.underlying38 rfl (by kernel_rfl)) rfl ?_
  exact ⟨by rw [HH.out, HLO.out], (HB4.out.setCell (p := ⟨w.heap.size, 0, none⟩) (Nat.le_refl _) _).setCell (p := ⟨w.heap.size, 1, none⟩) (Nat.le_refl _) _⟩

set_option maxRecDepth 100000 in
set_option maxHeartbeats 2000000 in
/-- The document's answer to First. -/
theorem refFirst_calls (A : Option Addr) (c : Nat) (b : List Int) (w : World) (hr : Kd.C (Kd.int .u8) w A b.length b) (hc : b.length ≤ c) (hl : b.length ≤ 1000000) (hb : AllBy b) :
    Calls Tryd.prog 19 #[.slice A b.length c] w fun en w' => en = .returned (.agg #[.int .u64 (hi8 b), .int .u64 (lo8 b)]) ∧ Below w.heap.size w w' := by
  have HR := Aside0.mk hr
  have HC := Aside0.mk hc
  have HL := Aside0.mk hl
  have HBY := Aside0.mk hb
  obtain ⟨sl, hsl⟩ : ∃ s_, s_ = shaL b := ⟨_, rfl⟩
  have HS : Aside0 (shaL b = sl) := ⟨hsl.symm⟩
  have HSL : Aside0 (sl.length = 32) := ⟨by rw [hsl]; exact shaL_len b⟩
  have HSB : Aside0 (AllBy sl) := ⟨by rw [hsl]; exact shaL_by b⟩
  have HI : Aside0 ((Tryd.prog.info? 25).map (·.size) = some (octs sl).size) := ⟨by rw [octs_size HSL.out]; kernel_rfl⟩
  have HOS : Aside0 ((octs (List.replicate 32 0)).size = (octs sl).size) := ⟨by rw [octs_size HSL.out]; exact octs_size (by simp)⟩
  have HZ0 : Aside0 ((w.alloc (.cells #[.int .u64 0, .int .u64 0] 38)).heap[w.heap.size]? = some (.cells #[.int .u64 0, .int .u64 0] 38 (0, 0))) := ⟨blk_new _ _⟩
  have HB : Aside0 (Below w.heap.size w (w.alloc (.cells #[.int .u64 0, .int .u64 0] 38))) := ⟨below_alloc (Below.refl _ _) _⟩
  obtain ⟨h_, hh_⟩ : ∃ x_, x_ = OctetMath.back8 ((sl.drop 0).take 8) := ⟨_, rfl⟩
  obtain ⟨l_, hl_⟩ : ∃ x_, x_ = OctetMath.back8 ((sl.drop 8).take 8) := ⟨_, rfl⟩
  have HH : Aside0 (hi8 b = h_) := ⟨by rw [hh_]; unfold hi8; rw [HS.out]; rfl⟩
  have HLO : Aside0 (lo8 b = l_) := ⟨by rw [hl_]; unfold lo8; rw [HS.out]⟩
  have HT1 : Aside0 (touchstoneref1_TakeEight.f 10 ((sl.drop 0).take 8) = some (h_, 0)) := ⟨by rw [refTakeEight_is (by decide) (fun x hx => HSB.out x (List.mem_of_mem_drop (List.mem_of_mem_take hx))), if_neg (by simp [HSL.out]), List.take_take, hh_]; rfl⟩
  have HT2 : Aside0 (touchstoneref1_TakeEight.f 10 ((sl.drop 8).take 8) = some (l_, 0)) := ⟨by rw [refTakeEight_is (by decide) (fun x hx => HSB.out x (List.mem_of_mem_drop (List.mem_of_mem_take hx))), if_neg (by simp [HSL.out]), List.take_take, hl_]; rfl⟩
  have HN1 : Aside0 (((sl.drop 0).take 8).length = 8) := ⟨by simp [HSL.out]⟩
  have HN2 : Aside0 (((sl.drop 8).take 8).length = 8) := ⟨by simp [HSL.out]⟩
  clear hr hc hl hb hsl hh_ hl_
  go_enter Tryd.func19, Tryd.ntmps19
  go_wp2_with (first | ((with_reducible refine gate_dst (N := 2) rfl ?_); refine Kd.event_run (v := .pointer (some ⟨w.heap.size, 0, none⟩)) (w1 := w.alloc (.cells #[.int .u64 0, .int .u64 0] 38)) rfl ?hr ?_; (case hr => first | rfl | (go_simp; rfl)); generalize w.alloc (.cells #[.int .u64 0, .int .u64 0] 38) = w1 at *) | (go_at_call 14; (with_reducible refine (one_calls A c b _ (Kd.C_below HR.out HB.out) HC.out HL.out HBY.out).mono ?_); rintro en ws ⟨rfl, hb⟩; rw [one_is HBY.out, HS.out]; have HB' := Aside0.mk (below_step (by repeat (first | (with_reducible first | exact HB.out | apply below_alloc | apply pw_below_drewN | apply below_drew1) | exact HB.out)) hb); have HZ0' := Aside0.mk (blk_below (by repeat (first | exact HZ0.out | (with_reducible refine blk_drewN ?_ _) | (with_reducible refine blk_drew ?_) | (with_reducible refine blk_alloc ?_ _))) hb); clear hb HB HZ0; have HB := HB'; have HZ0 := HZ0'; clear HB' HZ0'; have HA0 : Aside0 ((ws.alloc (.cells (octs (List.replicate 32 0)) 25)).heap[ws.heap.size]? = some (.cells (octs (List.replicate 32 0)) 25 (0, 0))) := ⟨blk_new _ _⟩; have HZ1 : Aside0 ((ws.alloc (.cells (octs (List.replicate 32 0)) 25)).heap[w.heap.size]? = some (.cells #[.int .u64 0, .int .u64 0] 38 (0, 0))) := ⟨blk_alloc HZ0.out _⟩; have HB1 : Aside0 (Below w.heap.size w (ws.alloc (.cells (octs (List.replicate 32 0)) 25))) := ⟨below_alloc HB.out _⟩; have HGS : Aside0 (w.heap.size < ws.heap.size) := ⟨blk_lt HZ0.out⟩) | ((with_reducible refine gate_dst (N := 3) rfl ?_); refine Kd.event_run (v := .pointer (some ⟨ws.heap.size, 0, none⟩)) (w1 := ws.alloc (.cells (octs (List.replicate 32 0)) 25)) rfl ?hr ?_; (case hr => first | rfl | (go_simp; rfl)); generalize ws.alloc (.cells (octs (List.replicate 32 0)) 25) = w2 at *) | ((with_reducible refine gate_store (t := 25) (p := 3) (v := .tmp 9) rfl ?_); refine wpList_store_row rfl 25 (.tmp 3) (.tmp 9) rfl ws.heap.size (octs sl) rfl rfl 25 _ HA0.out HI.out HOS.out (octs_one sl) ?_; have HS3 := Aside0.mk (setRow_heap w2 ws.heap.size _ (octs sl) _ _ HA0.out); have HZ3 := Aside0.mk ((setRow_other w2 ws.heap.size w.heap.size (octs sl) (Nat.ne_of_lt HGS.out)).trans HZ1.out); have HB3 := Aside0.mk (below_setRow HB1.out (Nat.le_of_lt HGS.out) (octs sl)); generalize w2.setRow ws.heap.size (octs sl) = w3 at *; clear HA0 HZ1 HB1 HB HZ0; have hz0 := (blk_cell HZ3.out 0).trans (show _ = some (Value.int .u64 0) from rfl); have hz1 := (blk_cell HZ3.out 1).trans (show _ = some (Value.int .u64 0) from rfl); have hf0 := blk_frozen HZ3.out 0; have hf1 := blk_frozen HZ3.out 1) | (go_at_call 33; (with_reducible refine (takeN_calls (some ⟨ws.heap.size, 0, none⟩) 32 ((sl.drop 0).take 8) 8 h_ 0 _ HN1.out (octs_cut HS3.out HSL.out (by decide)) (by decide) HT1.out).mono ?_); rintro en w' ⟨rfl, nd, rfl⟩; have HS3' := Aside0.mk (blk_drewN HS3.out nd); have HZ3' := Aside0.mk (blk_drewN HZ3.out nd); have HB3' := Aside0.mk (pw_below_drewN HB3.out nd); clear HS3 HZ3 HB3; have HS3 := HS3'; have HZ3 := HZ3'; have HB3 := HB3'; clear HS3' HZ3' HB3') | (go_at_call 33; (with_reducible refine (takeN_calls (some ⟨ws.heap.size, 8, none⟩) 24 ((sl.drop 8).take 8) 8 l_ 0 _ HN2.out (octs_cut HS3.out HSL.out (by decide)) (by decide) HT2.out).mono ?_); rintro en w' ⟨rfl, nd, rfl⟩; have HS3' := Aside0.mk (blk_drewN HS3.out nd); have HZ3' := Aside0.mk (blk_drewN HZ3.out nd); have HB3' := Aside0.mk (pw_below_drewN HB3.out nd); clear HS3 HZ3 HB3; have HS3 := HS3'; have HZ3 := HZ3'; have HB3 := HB3'; clear HS3' HZ3' HB3'))
  have HZ4 := HZ3
  have HB4 := HB3
  try simp only [World.drewN_drewN] at HZ4 HB4
  (try simp only [Exit.inBlock, Exit.then])
  have HE1 := blk_set (blk_set HZ4.out 0 (.int .u64 h_)) 1 (.int .u64 l_)
  refine bodyPost_ret (results_cell_row (p := 2) (ty := 38) rfl _ _ w.heap.size 38 #[.int .u64 h_, .int .u64 l_] (0, 0) _ rfl HE1 Tryd.underlying38 rfl (by kernel_rfl)) rfl ?_
  exact ⟨by rw [HH.out, HLO.out], (HB4.out.setCell (p := ⟨w.heap.size, 0, none⟩) (Nat.le_refl _) _).setCell (p := ⟨w.heap.size, 1, none⟩) (Nat.le_refl _) _⟩
end Go.Proofs.YtgaekibompacnaaDoor.QD
