/- DigestAll: the sum of any parts, and the first half of one's, are the document's. -/
import Derived.Test.YtgaekibompacnaaDoorQDCutsWalk
import Derived.Test.YtgaekibompacnaaDoorQDParts
import Derived.Test.YtgaekibompacnaaDoorQDShaFirst
import Derived.Test.YtgaekibompacnaaDoorWEqStruct
set_option linter.unusedVariables false
set_option linter.unusedSimpArgs false
namespace Go.Proofs.YtgaekibompacnaaDoor.QD
open Go.RowKit Go.Proofs.YtgaekibompacnaaDoorW.PrintWords Go.Proofs.YtgaekibompacnaaDoorW.PrintLast Go.Proofs.YtgaekibompacnaaDoorW.PrintMore
theorem rdL1_eq {l : List (List Int)} {i : Nat} (h : i < l.length) : rd_L1 l i = l[i] := by
  simp [rd_L1, List.getD_eq_getElem?_getD, List.getElem?_eq_getElem h]
theorem sumG (l : List (List Int)) (m : Int) (h0 : 0 ≤ m) (h1 : m ≤ 1000000) : ∀ (n i k : Nat) (acc : Int), n + i = l.length → 2 * n + 2 ≤ k → 0 ≤ acc → acc ≤ 2 * m → l.length < 1000000000000 →
    ∃ r, touchstonelaw0_Sum.l0 k l m acc i = some r ∧ (r ≤ m → acc + (l.drop i).flatten.length ≤ m) := by
  intro n
  induction n with
  | zero =>
    intro i k acc hi hk ha hb hl
    obtain ⟨k, rfl⟩ : ∃ q, k = q + 2 := ⟨k - 2, by omega⟩
    refine ⟨acc, ?_, fun h => ?_⟩
    · rw [touchstonelaw0_Sum.l0, if_neg (by omega), touchstonelaw0_Sum.j1, if_neg (by decide)]
    · rw [List.drop_of_length_le (by omega)]
      simpa using h
  | succ n ih =>
    intro i k acc hi hk ha hb hl
    obtain ⟨k, rfl⟩ : ∃ q, k = q + 2 := ⟨k - 2, by omega⟩
    have hlt : i < l.length := by omega
    rw [touchstonelaw0_Sum.l0, if_pos (by omega), touchstonelaw0_Sum.j1]
    by_cases h : acc ≤ m
    · rw [if_pos (by simpa using h), if_pos (by omega), if_pos (by omega), rdL1_eq hlt]
      by_cases h2 : (l[i].length : Int) > m
      · rw [if_pos h2]
        refine ⟨_, rfl, fun h3 => ?_⟩
        rw [OctetMath.wrap64_id (by omega) (by omega)] at h3
        omega
      · rw [if_neg h2, OctetMath.wrap64_id (by omega) (by omega), OctetMath.wrap64_id (by omega) (by omega), show (i : Int) + 1 = ((i + 1 : Nat) : Int) by omega]
        obtain ⟨r, h3, h4⟩ := ih (i + 1) k (acc + l[i].length) (by omega) (by omega) (by omega) (by omega) hl
        refine ⟨r, h3, fun h5 => ?_⟩
        have := h4 h5
        rw [List.drop_eq_getElem_cons hlt, List.flatten_cons, List.length_append]
        omega
    · rw [if_neg (by simpa using h)]
      exact ⟨acc, rfl, fun h3 => absurd h3 h⟩
theorem sum_is (l : List (List Int)) (m : Int) (h0 : 0 ≤ m) (h1 : m ≤ 1000000) (hl : l.length < 1000000000000) : ∃ r, touchstonelaw0_Sum.f (2 * l.length + 2) l m = some r ∧ (r ≤ m → (l.flatten.length : Int) ≤ m) := by
  obtain ⟨r, h2, h3⟩ := sumG l m h0 h1 l.length 0 (2 * l.length + 2) 0 (by omega) (Nat.le_refl _) (by omega) (by omega) hl
  exact ⟨r, h2, fun h => by simpa using h3 h⟩
theorem part_le : ∀ (l : List (List Int)) (x : List Int), x ∈ l → x.length ≤ l.flatten.length
  | a :: l, x, h => by
    rw [List.flatten_cons, List.length_append]
    rcases List.mem_cons.1 h with rfl | h
    · omega
    · have := part_le l x h; omega
theorem eql_pair (w : World) (a b : Int) : (binOp .eql 38 (.agg #[.int .u64 a, .int .u64 b]) (.agg #[.int .u64 a, .int .u64 b])).run Tryd.prog w = .ok (.bool true) w := by
  have key : (Op.equalIn (9998 + 2) 38 (.agg #[.int .u64 a, .int .u64 b]) (.agg #[.int .u64 a, .int .u64 b])).run Tryd.prog w = .ok (a == a && (b == b)) w := by
    refine eqA_of Tryd.underlying38 (by kernel_rfl) ?_
    refine eqf_cons (by rfl) (by go_simp; rfl) (by go_simp; rfl) (by go_simp) ?_
    exact eqf_last (by rfl) (by go_simp; rfl) (by go_simp; rfl) (by go_simp)
  rw [beq_self_eq_true, beq_self_eq_true] at key
  rw [run_eql_struct, key]
  rfl
set_option maxRecDepth 100000 in
set_option maxHeartbeats 8000000 in
theorem dall_a (A0 : Option Addr) (c0 : Nat) (l0 : List (List Int)) (A1 : Option Addr) (c1 : Nat) (l1 : List Int) (w : World) (hk : Laid w) (hr0 : Kd.C (Kd.slice 5 (Kd.int .u8)) w A0 l0.length l0) (hc0 : l0.length ≤ c0) (h : 100 < l0.length) :
    Calls Tryd.prog 5 #[.slice A0 l0.length c0, .slice A1 l1.length c1] w fun en w' => en = .returned (.bool true) ∧ Below w.heap.size w w' := by
  have HLK := Aside0.mk hk
  have HB := Aside0.mk (Below.refl w.heap.size w)
  have hq : decide (100 < (l0.length : Int)) = true := by simp; omega
  clear hk hr0 hc0 h
  go_enter Tryd.func5, Tryd.ntmps5
  go_wp2_with (first | (go_at_call 10; (with_reducible refine (begun_calls _ HLK.out).mono ?_); rintro en wz ⟨rfl, hb⟩; have HB' := Aside0.mk (below_step (by repeat (first | (with_reducible first | exact HB.out | apply below_alloc | apply pw_below_drewN | apply below_drew1) | exact HB.out)) hb); clear hb HB; have HB := HB'; clear HB'))
  go_ret
  exact ⟨rfl, (by repeat (first | (with_reducible first | exact HB.out | apply below_alloc | apply pw_below_drewN | apply below_drew1) | exact HB.out))⟩
set_option maxRecDepth 100000 in
set_option maxHeartbeats 8000000 in
theorem dall_b (A0 : Option Addr) (c0 : Nat) (l0 : List (List Int)) (A1 : Option Addr) (c1 : Nat) (l1 : List Int) (w : World) (hk : Laid w) (hr0 : Kd.C (Kd.slice 5 (Kd.int .u8)) w A0 l0.length l0) (hc0 : l0.length ≤ c0) (h : l0.length ≤ 100) (r : Int) (hsr : touchstonelaw0_Sum.f (2 * l0.length + 2) l0 1500 = some r) (hx : 1500 < r) :
    Calls Tryd.prog 5 #[.slice A0 l0.length c0, .slice A1 l1.length c1] w fun en w' => en = .returned (.bool true) ∧ Below w.heap.size w w' := by
  have HLK := Aside0.mk hk
  have HB := Aside0.mk (Below.refl w.heap.size w)
  have HR0 := Aside0.mk hr0
  have HC0 := Aside0.mk hc0
  have HSR := Aside0.mk hsr
  have hq : decide (100 < (l0.length : Int)) = false := by simp; omega
  have hq2 : decide (1500 < r) = true := decide_eq_true hx
  clear hk hr0 hc0 h hsr hx
  go_enter Tryd.func5, Tryd.ntmps5
  go_wp2_with (first | (go_at_call 10; (with_reducible refine (begun_calls _ HLK.out).mono ?_); rintro en wz ⟨rfl, hb⟩; have HB' := Aside0.mk (below_step (by repeat (first | (with_reducible first | exact HB.out | apply below_alloc | apply pw_below_drewN | apply below_drew1) | exact HB.out)) hb); clear hb HB; have HB := HB'; clear HB') | (go_at_call 15; (with_reducible refine (touchstonelaw0_Sum.calls (2 * l0.length + 2) A0 c0 l0 1500 r _ ?s1 HC0.out HSR.out).mono ?_); (case s1 => repeat (first | exact (Kd.C_below HR0.out HB.out) | (with_reducible refine Kd.C_alloc ?_ _) | (with_reducible refine Kd.C_drewN ?_ _) | (with_reducible refine Kd.C_drew ?_))); rintro en w' ⟨rfl, ⟨nd, rfl⟩⟩))
  go_ret
  exact ⟨rfl, (by repeat (first | (with_reducible first | exact HB.out | apply below_alloc | apply pw_below_drewN | apply below_drew1) | exact HB.out))⟩
set_option maxRecDepth 100000 in
set_option maxHeartbeats 8000000 in
theorem dall_c (A0 : Option Addr) (c0 : Nat) (l0 : List (List Int)) (A1 : Option Addr) (c1 : Nat) (l1 : List Int) (w : World) (hk : Laid w) (hr0 : Kd.C (Kd.slice 5 (Kd.int .u8)) w A0 l0.length l0) (hc0 : l0.length ≤ c0) (h : l0.length ≤ 100) (r : Int) (hsr : touchstonelaw0_Sum.f (2 * l0.length + 2) l0 1500 = some r) (hx : ¬ 1500 < r) (h1 : 1500 < l1.length) :
    Calls Tryd.prog 5 #[.slice A0 l0.length c0, .slice A1 l1.length c1] w fun en w' => en = .returned (.bool true) ∧ Below w.heap.size w w' := by
  have HLK := Aside0.mk hk
  have HB := Aside0.mk (Below.refl w.heap.size w)
  have HR0 := Aside0.mk hr0
  have HC0 := Aside0.mk hc0
  have HSR := Aside0.mk hsr
  have hq : decide (100 < (l0.length : Int)) = false := by simp; omega
  have hq2 : decide (1500 < r) = false := decide_eq_false hx
  have hq3 : decide (1500 < (l1.length : Int)) = true := by simp; omega
  clear hk hr0 hc0 h hsr hx h1
  go_enter Tryd.func5, Tryd.ntmps5
  go_wp2_with (first | (go_at_call 10; (with_reducible refine (begun_calls _ HLK.out).mono ?_); rintro en wz ⟨rfl, hb⟩; have HB' := Aside0.mk (below_step (by repeat (first | (with_reducible first | exact HB.out | apply below_alloc | apply pw_below_drewN | apply below_drew1) | exact HB.out)) hb); clear hb HB; have HB := HB'; clear HB') | (go_at_call 15; (with_reducible refine (touchstonelaw0_Sum.calls (2 * l0.length + 2) A0 c0 l0 1500 r _ ?s1 HC0.out HSR.out).mono ?_); (case s1 => repeat (first | exact (Kd.C_below HR0.out HB.out) | (with_reducible refine Kd.C_alloc ?_ _) | (with_reducible refine Kd.C_drewN ?_ _) | (with_reducible refine Kd.C_drew ?_))); rintro en w' ⟨rfl, ⟨nd, rfl⟩⟩))
  go_ret
  exact ⟨rfl, (by repeat (first | (with_reducible first | exact HB.out | apply below_alloc | apply pw_below_drewN | apply below_drew1) | exact HB.out))⟩
set_option maxRecDepth 100000 in
set_option maxHeartbeats 8000000 in
theorem dall_walk (A0 : Option Addr) (c0 : Nat) (l0 : List (List Int)) (A1 : Option Addr) (c1 : Nat) (l1 : List Int) (w : World) (hk : Laid w) (hr0 : Kd.C (Kd.slice 5 (Kd.int .u8)) w A0 l0.length l0) (hc0 : l0.length ≤ c0) (hr1 : Kd.C (Kd.int .u8) w A1 l1.length l1) (hc1 : l1.length ≤ c1) (h : l0.length ≤ 100) (r : Int) (hsr : touchstonelaw0_Sum.f (2 * l0.length + 2) l0 1500 = some r) (hx : ¬ 1500 < r) (h1 : l1.length ≤ 1500) (hfl : l0.flatten.length ≤ 1500) (hfb : AllBy l0.flatten) (hby : AllBy l1) :
    Calls Tryd.prog 5 #[.slice A0 l0.length c0, .slice A1 l1.length c1] w fun en w' => en = .returned (.bool true) ∧ Below w.heap.size w w' := by
  have HLK := Aside0.mk hk
  have HK : Aside0 (∀ W : World, Below w.heap.size w W → Laid W) := ⟨fun W hW => hk.below hW⟩
  have HB := Aside0.mk (Below.refl w.heap.size w)
  have HR0 := Aside0.mk hr0
  have HC0 := Aside0.mk hc0
  have HR1 := Aside0.mk hr1
  have HC1 := Aside0.mk hc1
  have HSR := Aside0.mk hsr
  have HL0 : Aside0 (l0.length ≤ 1000000) := ⟨by omega⟩
  have HL1 : Aside0 (l1.length ≤ 1000000) := ⟨by omega⟩
  have HFL : Aside0 (l0.flatten.length ≤ 1000000) := ⟨by omega⟩
  have HLX : Aside0 (∀ x ∈ l0, x.length ≤ 1000000) := ⟨fun x hx_ => Nat.le_trans (part_le l0 x hx_) (by omega)⟩
  have HLY : Aside0 (∀ x ∈ l0, x.length ≤ 140737488351232) := ⟨fun x hx_ => Nat.le_trans (HLX.out x hx_) (by omega)⟩
  have HFB := Aside0.mk hfb
  have HBY := Aside0.mk hby
  obtain ⟨sl, hsl⟩ : ∃ s_, s_ = shaL l0.flatten := ⟨_, rfl⟩
  have HS : Aside0 (shaL l0.flatten = sl) := ⟨hsl.symm⟩
  have hq32 : ∀ W : World, (binOp .eql 25 (.agg (octs sl)) (.agg (octs sl))).run Tryd.prog W = .ok (.bool true) W := fun W => eql_octs W sl (by rw [hsl]; exact shaL_len _)
  obtain ⟨h_, hh_⟩ : ∃ x_, x_ = hi8 l1 := ⟨_, rfl⟩
  obtain ⟨l_, hl_⟩ : ∃ x_, x_ = lo8 l1 := ⟨_, rfl⟩
  have HH : Aside0 (hi8 l1 = h_) := ⟨hh_.symm⟩
  have HLO : Aside0 (lo8 l1 = l_) := ⟨hl_.symm⟩
  have hq38 : ∀ W : World, (binOp .eql 38 (.agg #[.int .u64 h_, .int .u64 l_]) (.agg #[.int .u64 h_, .int .u64 l_])).run Tryd.prog W = .ok (.bool true) W := fun W => eql_pair W h_ l_
  have hq : decide (100 < (l0.length : Int)) = false := by simp; omega
  have hq2 : decide (1500 < r) = false := decide_eq_false hx
  have hq3 : decide (1500 < (l1.length : Int)) = false := by simp; omega
  clear hk hr0 hc0 hr1 hc1 h hsr hx h1 hfl hfb hby hsl hh_ hl_
  go_enter Tryd.func5, Tryd.ntmps5
  go_wp2_with (first | (go_at_call 10; (with_reducible refine (begun_calls _ HLK.out).mono ?_); rintro en wz ⟨rfl, hb⟩; have HB' := Aside0.mk (below_step (by repeat (first | (with_reducible first | exact HB.out | apply below_alloc | apply pw_below_drewN | apply below_drew1) | exact HB.out)) hb); clear hb HB; have HB := HB'; clear HB') | (go_at_call 15; (with_reducible refine (touchstonelaw0_Sum.calls (2 * l0.length + 2) A0 c0 l0 1500 r _ ?s1 HC0.out HSR.out).mono ?_); (case s1 => repeat (first | exact (Kd.C_below HR0.out HB.out) | (with_reducible refine Kd.C_alloc ?_ _) | (with_reducible refine Kd.C_drewN ?_ _) | (with_reducible refine Kd.C_drew ?_))); rintro en w' ⟨rfl, ⟨nd, rfl⟩⟩) | (go_at_call 16; (with_reducible refine (twins_calls A0 c0 l0 _ ?s1 HC0.out HL0.out HLX.out).mono ?_); (case s1 => repeat (first | exact (Kd.C_below HR0.out HB.out) | (with_reducible refine Kd.C_alloc ?_ _) | (with_reducible refine Kd.C_drewN ?_ _) | (with_reducible refine Kd.C_drew ?_))); rintro en wt ⟨vt, rfl, ho, hb⟩; have HO := Aside0.mk (Kd.R_lower ho (below_size (by repeat (first | (with_reducible first | exact HB.out | apply below_alloc | apply pw_below_drewN | apply below_drew1) | exact HB.out)))); have HB' := Aside0.mk (below_step (by repeat (first | (with_reducible first | exact HB.out | apply below_alloc | apply pw_below_drewN | apply below_drew1) | exact HB.out)) hb); clear hb HB; have HB := HB'; clear HB'; clear ho; obtain ⟨At, ct, et⟩ := Kd.R_slice HO.out; subst et) | (go_at_call 11; (with_reducible refine (sum_calls At ct l0 _ (HK.out _ (by repeat (first | (with_reducible first | exact HB.out | apply below_alloc | apply pw_below_drewN | apply below_drew1) | exact HB.out))) ?s1 ?s2 HL0.out HFL.out).mono ?_); (case s1 => exact twin_slice (Kd.R_reads' (by (with_reducible repeat (first | apply Kd.R_alloc | apply Kd.R_drewN | apply Kd.R_drew)); exact HO.out)).2.2 HLY.out); (case s2 => exact (Kd.R_reads' HO.out).2.1); rintro en ws ⟨rfl, hb⟩; rw [HS.out]; have HO' := Aside0.mk (Kd.R_below (by (with_reducible repeat (first | apply Kd.R_alloc | apply Kd.R_drewN | apply Kd.R_drew)); exact HO.out) hb); clear HO; have HO := HO'; clear HO'; have HB' := Aside0.mk (below_step (by repeat (first | (with_reducible first | exact HB.out | apply below_alloc | apply pw_below_drewN | apply below_drew1) | exact HB.out)) hb); clear hb HB; have HB := HB'; clear HB') | (go_at_call 17; (with_reducible refine (refSum_calls A0 c0 l0 _ ?s1 HC0.out HL0.out HFL.out HFB.out).mono ?_); (case s1 => repeat (first | exact (Kd.C_below HR0.out HB.out) | (with_reducible refine Kd.C_alloc ?_ _) | (with_reducible refine Kd.C_drewN ?_ _) | (with_reducible refine Kd.C_drew ?_))); rintro en wr ⟨rfl, hb⟩; rw [HS.out]; have HO' := Aside0.mk (Kd.R_below (by (with_reducible repeat (first | apply Kd.R_alloc | apply Kd.R_drewN | apply Kd.R_drew)); exact HO.out) hb); clear HO; have HO := HO'; clear HO'; have HB' := Aside0.mk (below_step (by repeat (first | (with_reducible first | exact HB.out | apply below_alloc | apply pw_below_drewN | apply below_drew1) | exact HB.out)) hb); clear hb HB; have HB := HB'; clear HB') | (go_at_call 18; (with_reducible refine (first_calls A1 c1 l1 _ (HK.out _ (by repeat (first | (with_reducible first | exact HB.out | apply below_alloc | apply pw_below_drewN | apply below_drew1) | exact HB.out))) ?s1 HC1.out HL1.out).mono ?_); (case s1 => repeat (first | exact (Kd.C_below HR1.out HB.out) | (with_reducible refine Kd.C_alloc ?_ _) | (with_reducible refine Kd.C_drewN ?_ _) | (with_reducible refine Kd.C_drew ?_))); rintro en wf ⟨rfl, hb⟩; rw [HH.out, HLO.out]; have HO' := Aside0.mk (Kd.R_below (by (with_reducible repeat (first | apply Kd.R_alloc | apply Kd.R_drewN | apply Kd.R_drew)); exact HO.out) hb); clear HO; have HO := HO'; clear HO'; have HB' := Aside0.mk (below_step (by repeat (first | (with_reducible first | exact HB.out | apply below_alloc | apply pw_below_drewN | apply below_drew1) | exact HB.out)) hb); clear hb HB; have HB := HB'; clear HB') | (go_at_call 19; (with_reducible refine (refFirst_calls A1 c1 l1 _ ?s1 HC1.out HL1.out HBY.out).mono ?_); (case s1 => repeat (first | exact (Kd.C_below HR1.out HB.out) | (with_reducible refine Kd.C_alloc ?_ _) | (with_reducible refine Kd.C_drewN ?_ _) | (with_reducible refine Kd.C_drew ?_))); rintro en wg ⟨rfl, hb⟩; rw [HH.out, HLO.out]; have HO' := Aside0.mk (Kd.R_below (by (with_reducible repeat (first | apply Kd.R_alloc | apply Kd.R_drewN | apply Kd.R_drew)); exact HO.out) hb); clear HO; have HO := HO'; clear HO'; have HB' := Aside0.mk (below_step (by repeat (first | (with_reducible first | exact HB.out | apply below_alloc | apply pw_below_drewN | apply below_drew1) | exact HB.out)) hb); clear hb HB; have HB := HB'; clear HB') | (go_at_call 20; (with_reducible refine (allkept_calls At ct A0 c0 l0 _ ?s1 ?s2 HL0.out HLX.out).mono ?_); (case s1 => exact (Kd.R_reads' (by (with_reducible repeat (first | apply Kd.R_alloc | apply Kd.R_drewN | apply Kd.R_drew)); exact HO.out)).2.2); (case s2 => repeat (first | exact (Kd.C_below HR0.out HB.out) | (with_reducible refine Kd.C_alloc ?_ _) | (with_reducible refine Kd.C_drewN ?_ _) | (with_reducible refine Kd.C_drew ?_))); rintro en w' ⟨rfl, ⟨nd, rfl⟩⟩))
  go_ret
  exact ⟨rfl, (by repeat (first | (with_reducible first | exact HB.out | apply below_alloc | apply pw_below_drewN | apply below_drew1) | exact HB.out))⟩
theorem touchstonelaw2_DigestAll.walk (A0 : Option Addr) (c0 : Nat) (l0 : List (List Int)) (A1 : Option Addr) (c1 : Nat) (l1 : List Int) (w : World) (hk : Laid w) (hr0 : Kd.C (Kd.slice 5 (Kd.int .u8)) w A0 l0.length l0) (hc0 : l0.length ≤ c0) (hW0 : l0.length * 24 ≤ 140737488351232 ∧ l0.length ≤ maxLen ∧ ∀ x ∈ l0, (x.length * 1 ≤ 140737488351232 ∧ x.length ≤ maxLen ∧ ∀ y ∈ x, (Lit.int .u8 y).wf = true)) (hr1 : Kd.C (Kd.int .u8) w A1 l1.length l1) (hc1 : l1.length ≤ c1) (hW1 : l1.length * 1 ≤ 140737488351232 ∧ l1.length ≤ maxLen ∧ ∀ y ∈ l1, (Lit.int .u8 y).wf = true) :
    Calls Tryd.prog 5 #[.slice A0 l0.length c0, .slice A1 l1.length c1] w fun en w' => en = .returned (.bool true) ∧ Below w.heap.size w w' := by
  by_cases h : 100 < l0.length
  · exact dall_a A0 c0 l0 A1 c1 l1 w hk hr0 hc0 h
  obtain ⟨r, hsr, hle⟩ := sum_is l0 1500 (by decide) (by decide) (by omega)
  by_cases hx : 1500 < r
  · exact dall_b A0 c0 l0 A1 c1 l1 w hk hr0 hc0 (by omega) r hsr hx
  have hfl := hle (by omega)
  by_cases h1 : 1500 < l1.length
  · exact dall_c A0 c0 l0 A1 c1 l1 w hk hr0 hc0 (by omega) r hsr hx h1
  · exact dall_walk A0 c0 l0 A1 c1 l1 w hk hr0 hc0 hr1 hc1 (by omega) r hsr hx (by omega) (by omega)
      (fun x hx_ => by
        obtain ⟨y, hy, hxy⟩ := List.mem_flatten.1 hx_
        exact OctetMath.Bytes.of_wf (hW0.2.2 y hy).2.2 x hxy)
      (OctetMath.Bytes.of_wf hW1.2.2)
end Go.Proofs.YtgaekibompacnaaDoor.QD
