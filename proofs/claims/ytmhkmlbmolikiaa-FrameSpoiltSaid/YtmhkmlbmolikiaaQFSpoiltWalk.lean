/- FrameSpoilt: behind bytes that cannot begin a frame nothing comes any more, and what came ahead did. -/
import Derived.Test.YtmhkmlbmolikiaaQFBegun
import Derived.Test.YtmhkmlbmolikiaaQFSum
import Derived.Test.YtmhkmlbmolikiaaQFx2
import Derived.Test.YtmhkmlbmolikiaaQFx1
import Derived.Outline
import Derived.WalkSpells
import Derived.IntWalk
import Derived.BigQuiet
import Derived.Deep.QuietTactic
set_option linter.unusedVariables false
set_option linter.unusedSimpArgs false
namespace Go.Proofs.Ytmhkmlbmolikiaa.QF
open Go.RowKit Go.Proofs.YtmhkmlbmolikiaaW.PrintWords Go.Proofs.YtmhkmlbmolikiaaW.PrintLast Go.Proofs.YtmhkmlbmolikiaaW.PrintMore Go.Proofs.Ytmhkmlbmolikiaa.FrameReader Go.Proofs.Ytmhkmlbmolikiaa.FrameMath Go.Proofs.Ytmhkmlbmolikiaa.OctetMath

theorem frame_isS {k : Nat} {l s : List Int} (hk : 10 ≤ k) (hl : l.length ≤ 70368744177600) (hs : s.length ≤ 65536) : frame_Frame.f k l s = some (l ++ lay s.length ++ s, 0) := by
  unfold frame_Frame.f
  rw [if_neg (by omega), text_is hk hl (by omega)]
  rfl
theorem alikeS (k : Nat) (l : List (List Int)) : ∀ (n i : Nat), n + i = l.length → n < k → (l.length : Int) < 1000000000000 → touchstonelaw3_alike.l0 k l l i = some true := by
  induction k with
  | zero => intro n i h hk; omega
  | succ k ih =>
    intro n i h hk hl
    rw [touchstonelaw3_alike.l0]
    by_cases hi : (i : Int) < (l.length : Int)
    · rw [if_pos hi, if_pos (by omega), if_pos hi, if_pos rfl, wrap64_id (by omega) (by omega), show (i : Int) + 1 = ((i + 1 : Nat) : Int) by omega]
      exact ih (n - 1) (i + 1) (by omega) (by omega) hl
    · rw [if_neg hi]
theorem alike_selfS {l : List (List Int)} (hl : l.length < 1000000000000) : touchstonelaw3_alike.f (l.length + 1) l l = some true := by
  unfold touchstonelaw3_alike.f
  rw [if_pos rfl]
  exact alikeS _ l l.length 0 (by omega) (by omega) (by omega)
def bads : List (List Int) := [[128, 0], [255, 255, 255, 255, 255, 255, 255, 255, 255, 2], [129, 128, 4]]
def errs : List Int := [5, 4, 3]
theorem bad_is (k : Int) (h0 : 0 ≤ k) (h3 : k < 3) : ∃ bad e, rd_L1 bads k = bad ∧ rd errs k = e ∧ Fed bad [] bad e ∧ Bytes bad ∧ bad.length ≤ 10 ∧ e ≠ 0 ∧ e ≠ 2 := by
  have h : k = 0 ∨ k = 1 ∨ k = 2 := by omega
  rcases h with rfl | rfl | rfl
  · exact ⟨[128, 0], 5, rfl, rfl, .stop _ _ (by decide) (by decide), by intro c hc; simp at hc; omega, by decide, by decide, by decide⟩
  · exact ⟨[255, 255, 255, 255, 255, 255, 255, 255, 255, 2], 4, rfl, rfl, .stop _ _ (by decide) (by decide), by intro c hc; simp at hc; omega, by decide, by decide, by decide⟩
  · exact ⟨[129, 128, 4], 3, rfl, rfl, .stop _ _ (by decide) (by decide), by intro c hc; simp at hc; omega, by decide, by decide, by decide⟩
theorem spoilt_big_a (A0 : Option Addr) (c0 : Nat) (l0 : List (List Int)) (a1 : Int) (A2 : Option Addr) (c2 : Nat) (l2 : List (List Int)) (w : World) (hr0 : Kd.C (Kd.slice 5 (Kd.int .u8)) w A0 l0.length l0) (hc0 : l0.length ≤ c0) (hr2 : Kd.C (Kd.slice 5 (Kd.int .u8)) w A2 l2.length l2) (hc2 : l2.length ≤ c2) (h : 10 < l0.length) :
    Calls Try.prog 6 #[.slice A0 l0.length c0, .int .u8 a1, .slice A2 l2.length c2] w fun en w' => en = .returned (.bool true) ∧ Below w.heap.size w w' := by
  have HB := Aside0.mk (Below.refl w.heap.size w)
  have HR0 := Aside0.mk hr0
  have HR2 := Aside0.mk hr2
  have HC0 := Aside0.mk hc0
  have HC2 := Aside0.mk hc2
  have hq : decide (10 < (l0.length : Int)) = true := by simp; omega
  clear hr0 hr2 hc0 hc2 h
  go_enter Try.func6, Try.ntmps6
  go_wp2_with (first | (go_at_call 8; refine (begun_calls _).mono ?_; rintro en wz ⟨rfl, hb⟩; have HB' := Aside0.mk (below_step (by repeat (first | (with_reducible first | exact HB.out | apply below_alloc | apply pw_below_drewN | apply below_drew1) | exact HB.out)) hb); clear hb HB; have HB := HB'; clear HB'))
  go_ret
  exact ⟨rfl, (by repeat (first | (with_reducible first | exact HB.out | apply below_alloc | apply pw_below_drewN | apply below_drew1) | exact HB.out))⟩
theorem spoilt_big_b (A0 : Option Addr) (c0 : Nat) (l0 : List (List Int)) (a1 : Int) (A2 : Option Addr) (c2 : Nat) (l2 : List (List Int)) (w : World) (hr0 : Kd.C (Kd.slice 5 (Kd.int .u8)) w A0 l0.length l0) (hc0 : l0.length ≤ c0) (hr2 : Kd.C (Kd.slice 5 (Kd.int .u8)) w A2 l2.length l2) (hc2 : l2.length ≤ c2) (h1 : l0.length ≤ 10) (r0 : Int) (k0 : Nat) (hs0 : touchstonelaw0_Sum.f k0 l0 2000 = some r0) (h : 2000 < r0) :
    Calls Try.prog 6 #[.slice A0 l0.length c0, .int .u8 a1, .slice A2 l2.length c2] w fun en w' => en = .returned (.bool true) ∧ Below w.heap.size w w' := by
  have HB := Aside0.mk (Below.refl w.heap.size w)
  have HR0 := Aside0.mk hr0
  have HR2 := Aside0.mk hr2
  have HC0 := Aside0.mk hc0
  have HC2 := Aside0.mk hc2
  have HS0 := Aside0.mk hs0
  clear hs0
  have hp : decide (10 < (l0.length : Int)) = false := by simp; omega
  have hq : decide (2000 < r0) = true := by simp; omega
  clear hr0 hr2 hc0 hc2 h h1
  go_enter Try.func6, Try.ntmps6
  go_wp2_with (first | (go_at_call 8; refine (begun_calls _).mono ?_; rintro en wz ⟨rfl, hb⟩; have HB' := Aside0.mk (below_step (by repeat (first | (with_reducible first | exact HB.out | apply below_alloc | apply pw_below_drewN | apply below_drew1) | exact HB.out)) hb); clear hb HB; have HB := HB'; clear HB') | (go_at_call 9; (with_reducible refine (touchstonelaw0_Sum.calls k0 A0 c0 l0 2000 r0 _ ?s1 HC0.out HS0.out).mono ?_); (case s1 => repeat (first | exact (Kd.C_below HR0.out HB.out) | (with_reducible refine Kd.C_alloc ?_ _) | (with_reducible refine Kd.C_drewN ?_ _) | (with_reducible refine Kd.C_drew ?_))); rintro en w' ⟨rfl, ⟨nd, rfl⟩⟩))
  go_ret
  exact ⟨rfl, (by repeat (first | (with_reducible first | exact HB.out | apply below_alloc | apply pw_below_drewN | apply below_drew1) | exact HB.out))⟩
theorem spoilt_big_c (A0 : Option Addr) (c0 : Nat) (l0 : List (List Int)) (a1 : Int) (A2 : Option Addr) (c2 : Nat) (l2 : List (List Int)) (w : World) (hr0 : Kd.C (Kd.slice 5 (Kd.int .u8)) w A0 l0.length l0) (hc0 : l0.length ≤ c0) (hr2 : Kd.C (Kd.slice 5 (Kd.int .u8)) w A2 l2.length l2) (hc2 : l2.length ≤ c2) (h1 : l0.length ≤ 10) (r0 : Int) (k0 : Nat) (hs0 : touchstonelaw0_Sum.f k0 l0 2000 = some r0) (h2 : r0 ≤ 2000) (h : 10 < l2.length) :
    Calls Try.prog 6 #[.slice A0 l0.length c0, .int .u8 a1, .slice A2 l2.length c2] w fun en w' => en = .returned (.bool true) ∧ Below w.heap.size w w' := by
  have HB := Aside0.mk (Below.refl w.heap.size w)
  have HR0 := Aside0.mk hr0
  have HR2 := Aside0.mk hr2
  have HC0 := Aside0.mk hc0
  have HC2 := Aside0.mk hc2
  have HS0 := Aside0.mk hs0
  clear hs0
  have hp : decide (10 < (l0.length : Int)) = false := by simp; omega
  have ho : decide (2000 < r0) = false := by simp; omega
  have hq : decide (10 < (l2.length : Int)) = true := by simp; omega
  clear hr0 hr2 hc0 hc2 h h1 h2
  go_enter Try.func6, Try.ntmps6
  go_wp2_with (first | (go_at_call 8; refine (begun_calls _).mono ?_; rintro en wz ⟨rfl, hb⟩; have HB' := Aside0.mk (below_step (by repeat (first | (with_reducible first | exact HB.out | apply below_alloc | apply pw_below_drewN | apply below_drew1) | exact HB.out)) hb); clear hb HB; have HB := HB'; clear HB') | (go_at_call 9; (with_reducible refine (touchstonelaw0_Sum.calls k0 A0 c0 l0 2000 r0 _ ?s1 HC0.out HS0.out).mono ?_); (case s1 => repeat (first | exact (Kd.C_below HR0.out HB.out) | (with_reducible refine Kd.C_alloc ?_ _) | (with_reducible refine Kd.C_drewN ?_ _) | (with_reducible refine Kd.C_drew ?_))); rintro en w' ⟨rfl, ⟨nd, rfl⟩⟩))
  go_ret
  exact ⟨rfl, (by repeat (first | (with_reducible first | exact HB.out | apply below_alloc | apply pw_below_drewN | apply below_drew1) | exact HB.out))⟩
theorem spoilt_big_d (A0 : Option Addr) (c0 : Nat) (l0 : List (List Int)) (a1 : Int) (A2 : Option Addr) (c2 : Nat) (l2 : List (List Int)) (w : World) (hr0 : Kd.C (Kd.slice 5 (Kd.int .u8)) w A0 l0.length l0) (hc0 : l0.length ≤ c0) (hr2 : Kd.C (Kd.slice 5 (Kd.int .u8)) w A2 l2.length l2) (hc2 : l2.length ≤ c2) (h1 : l0.length ≤ 10) (r0 : Int) (k0 : Nat) (hs0 : touchstonelaw0_Sum.f k0 l0 2000 = some r0) (h2 : r0 ≤ 2000) (h3 : l2.length ≤ 10) (r2 : Int) (k2 : Nat) (hs2 : touchstonelaw0_Sum.f k2 l2 2000 = some r2) (h : 2000 < r2) :
    Calls Try.prog 6 #[.slice A0 l0.length c0, .int .u8 a1, .slice A2 l2.length c2] w fun en w' => en = .returned (.bool true) ∧ Below w.heap.size w w' := by
  have HB := Aside0.mk (Below.refl w.heap.size w)
  have HR0 := Aside0.mk hr0
  have HR2 := Aside0.mk hr2
  have HC0 := Aside0.mk hc0
  have HC2 := Aside0.mk hc2
  have HS0 := Aside0.mk hs0
  clear hs0
  have HS2 := Aside0.mk hs2
  clear hs2
  have hp : decide (10 < (l0.length : Int)) = false := by simp; omega
  have ho : decide (2000 < r0) = false := by simp; omega
  have hn : decide (10 < (l2.length : Int)) = false := by simp; omega
  have hq : decide (2000 < r2) = true := by simp; omega
  clear hr0 hr2 hc0 hc2 h h1 h2 h3
  go_enter Try.func6, Try.ntmps6
  go_wp2_with (first | (go_at_call 8; refine (begun_calls _).mono ?_; rintro en wz ⟨rfl, hb⟩; have HB' := Aside0.mk (below_step (by repeat (first | (with_reducible first | exact HB.out | apply below_alloc | apply pw_below_drewN | apply below_drew1) | exact HB.out)) hb); clear hb HB; have HB := HB'; clear HB') | (go_at_call 9; (with_reducible refine (touchstonelaw0_Sum.calls k0 A0 c0 l0 2000 r0 _ ?s1 HC0.out HS0.out).mono ?_); (case s1 => repeat (first | exact (Kd.C_below HR0.out HB.out) | (with_reducible refine Kd.C_alloc ?_ _) | (with_reducible refine Kd.C_drewN ?_ _) | (with_reducible refine Kd.C_drew ?_))); rintro en w' ⟨rfl, ⟨nd, rfl⟩⟩) | (go_at_call 9; (with_reducible refine (touchstonelaw0_Sum.calls k2 A2 c2 l2 2000 r2 _ ?s1 HC2.out HS2.out).mono ?_); (case s1 => repeat (first | exact (Kd.C_below HR2.out HB.out) | (with_reducible refine Kd.C_alloc ?_ _) | (with_reducible refine Kd.C_drewN ?_ _) | (with_reducible refine Kd.C_drew ?_))); rintro en w' ⟨rfl, ⟨nd, rfl⟩⟩))
  go_ret
  exact ⟨rfl, (by repeat (first | (with_reducible first | exact HB.out | apply below_alloc | apply pw_below_drewN | apply below_drew1) | exact HB.out))⟩
set_option maxHeartbeats 8000000 in
set_option maxRecDepth 100000 in
theorem spoilt_walk (A0 : Option Addr) (c0 : Nat) (l0 : List (List Int)) (a1 kk : Int) (A2 : Option Addr) (c2 : Nat) (l2 : List (List Int)) (w : World) (hr0 : Kd.C (Kd.slice 5 (Kd.int .u8)) w A0 l0.length l0) (hc0 : l0.length ≤ c0) (hr2 : Kd.C (Kd.slice 5 (Kd.int .u8)) w A2 l2.length l2) (hc2 : l2.length ≤ c2)
    (hk : Int.tmod a1 3 = kk) (hk0 : 0 ≤ kk) (hk3 : kk < 3) (hby : ∀ t ∈ l0, Bytes t) (h1 : l0.length ≤ 10) (r0 : Int) (k0 : Nat) (hs0 : touchstonelaw0_Sum.f k0 l0 2000 = some r0) (h2 : r0 ≤ 2000) (hs : sumL l0 ≤ 2000) (h3 : l2.length ≤ 10) (r2 : Int) (k2 : Nat) (hs2 : touchstonelaw0_Sum.f k2 l2 2000 = some r2) (h4 : r2 ≤ 2000) :
    Calls Try.prog 6 #[.slice A0 l0.length c0, .int .u8 a1, .slice A2 l2.length c2] w fun en w' => en = .returned (.bool true) ∧ Below w.heap.size w w' := by
  have HB := Aside0.mk (Below.refl w.heap.size w)
  have HR0 := Aside0.mk hr0
  have HR2 := Aside0.mk hr2
  have HC0 := Aside0.mk hc0
  have HC2 := Aside0.mk hc2
  have HS0 := Aside0.mk hs0
  have HS2 := Aside0.mk hs2
  have hp : decide (10 < (l0.length : Int)) = false := by simp; omega
  have ho : decide (2000 < r0) = false := by simp; omega
  have hn : decide (10 < (l2.length : Int)) = false := by simp; omega
  have hq : decide (2000 < r2) = false := by simp; omega
  have HMX : Aside0 (∀ t ∈ l0, Bytes t ∧ t.length ≤ 65536) := ⟨fun t ht => ⟨hby t ht, by have := sumL_mem ht; omega⟩⟩
  have HLL : Aside0 ((rowsT l0).length ≤ 3000) := ⟨by have := rowsT_len l0; omega⟩
  have HLT : Aside0 (l0.length ≤ 10 ∧ sumL l0 ≤ 2000) := ⟨h1, hs⟩
  have HL2 := Aside0.mk h3
  obtain ⟨bad, e, hbd, hed, hfd, hbb, hbl, he0, he2⟩ := bad_is kk hk0 hk3
  have HBD := Aside0.mk hbd
  have HED := Aside0.mk hed
  have HFD := Aside0.mk hfd
  have HBB := Aside0.mk hbb
  have HBL := Aside0.mk hbl
  have HE0 := Aside0.mk he0
  have HE2 := Aside0.mk he2
  have HK0 := Aside0.mk hk0
  have HK3 := Aside0.mk hk3
  have HAS := Aside0.mk (alike_selfS (l := l0) (by omega))
  clear hr0 hr2 hc0 hc2 hs0 hs2 h1 h2 h3 h4 hs hby hbd hed hfd hbb hbl he0 he2 hk0 hk3
  go_enter Try.func6, Try.ntmps6
  go_wp2_with (first | (go_at_call 8; refine (begun_calls _).mono ?_; rintro en wz ⟨rfl, hb⟩; have HB' := Aside0.mk (below_step (by repeat (first | (with_reducible first | exact HB.out | apply below_alloc | apply pw_below_drewN | apply below_drew1) | exact HB.out)) hb); clear hb HB; have HB := HB'; clear HB') | (go_at_call 9; (with_reducible refine (touchstonelaw0_Sum.calls k0 A0 c0 l0 2000 r0 _ ?s1 HC0.out HS0.out).mono ?_); (case s1 => repeat (first | exact (Kd.C_below HR0.out HB.out) | (with_reducible refine Kd.C_alloc ?_ _) | (with_reducible refine Kd.C_drewN ?_ _) | (with_reducible refine Kd.C_drew ?_))); rintro en w' ⟨rfl, ⟨nd, rfl⟩⟩) | (go_at_call 9; (with_reducible refine (touchstonelaw0_Sum.calls k2 A2 c2 l2 2000 r2 _ ?s1 HC2.out HS2.out).mono ?_); (case s1 => repeat (first | exact (Kd.C_below HR2.out HB.out) | (with_reducible refine Kd.C_alloc ?_ _) | (with_reducible refine Kd.C_drewN ?_ _) | (with_reducible refine Kd.C_drew ?_))); rintro en w' ⟨rfl, ⟨nd, rfl⟩⟩) | ((with_reducible refine gate_dst (N := 37) rfl ?_); refine Kd.R_lit (Kd.int .u8) _ 5 ?hg (N := 37) ?hd (xs := ([128, 0] : List Int)) (inner := [.int .u8 128, .int .u8 0]) (ok := fun _ => True) (okp := fun _ => True) ?hr ?hp (fun _ hk => hk) trivial (Below.refl _ _) (Nat.le_refl _) (by decide) ?_; (case hd => rfl); (case hg => rfl); (case hr => first | (go_simp; done) | (go_simp; rfl)); (case hp => exact Kd.reps_scalar _); intro v37 wl ho hb hg_ hnew_; clear hg_ hnew_; have HOv37 := Aside0.mk (Kd.R_lower ho (below_size (by repeat (first | (with_reducible first | exact HB.out | apply below_alloc | apply pw_below_drewN | apply below_drew1) | exact HB.out)))); clear ho; have HB' := Aside0.mk (below_step (by repeat (first | (with_reducible first | exact HB.out | apply below_alloc | apply pw_below_drewN | apply below_drew1) | exact HB.out)) hb); clear hb HB; have HB := HB'; clear HB'; obtain ⟨A37, c37, e37⟩ := Kd.R_slice HOv37.out; subst e37) | ((with_reducible refine gate_dst (N := 38) rfl ?_); refine Kd.R_lit (Kd.int .u8) _ 5 ?hg (N := 38) ?hd (xs := ([255, 255, 255, 255, 255, 255, 255, 255, 255, 2] : List Int)) (inner := [.int .u8 255, .int .u8 255, .int .u8 255, .int .u8 255, .int .u8 255, .int .u8 255, .int .u8 255, .int .u8 255, .int .u8 255, .int .u8 2]) (ok := fun _ => True) (okp := fun _ => True) ?hr ?hp (fun _ hk => hk) trivial (Below.refl _ _) (Nat.le_refl _) (by decide) ?_; (case hd => rfl); (case hg => rfl); (case hr => first | (go_simp; done) | (go_simp; rfl)); (case hp => exact Kd.reps_scalar _); intro v38 wl ho hb hg_ hnew_; clear hg_ hnew_; have HOv38 := Aside0.mk (Kd.R_lower ho (below_size (by repeat (first | (with_reducible first | exact HB.out | apply below_alloc | apply pw_below_drewN | apply below_drew1) | exact HB.out)))); clear ho; have HB' := Aside0.mk (below_step (by repeat (first | (with_reducible first | exact HB.out | apply below_alloc | apply pw_below_drewN | apply below_drew1) | exact HB.out)) hb); have HOv37' := Aside0.mk (Kd.R_below (by (with_reducible repeat (first | apply Kd.R_alloc | apply Kd.R_drewN | apply Kd.R_drew)); exact HOv37.out) hb); clear hb HB HOv37; have HB := HB'; have HOv37 := HOv37'; clear HB' HOv37'; obtain ⟨A38, c38, e38⟩ := Kd.R_slice HOv38.out; subst e38) | ((with_reducible refine gate_dst (N := 39) rfl ?_); refine Kd.R_lit (Kd.int .u8) _ 5 ?hg (N := 39) ?hd (xs := ([129, 128, 4] : List Int)) (inner := [.int .u8 129, .int .u8 128, .int .u8 4]) (ok := fun _ => True) (okp := fun _ => True) ?hr ?hp (fun _ hk => hk) trivial (Below.refl _ _) (Nat.le_refl _) (by decide) ?_; (case hd => rfl); (case hg => rfl); (case hr => first | (go_simp; done) | (go_simp; rfl)); (case hp => exact Kd.reps_scalar _); intro v39 wl ho hb hg_ hnew_; clear hg_ hnew_; have HOv39 := Aside0.mk (Kd.R_lower ho (below_size (by repeat (first | (with_reducible first | exact HB.out | apply below_alloc | apply pw_below_drewN | apply below_drew1) | exact HB.out)))); clear ho; have HB' := Aside0.mk (below_step (by repeat (first | (with_reducible first | exact HB.out | apply below_alloc | apply pw_below_drewN | apply below_drew1) | exact HB.out)) hb); have HOv37' := Aside0.mk (Kd.R_below (by (with_reducible repeat (first | apply Kd.R_alloc | apply Kd.R_drewN | apply Kd.R_drew)); exact HOv37.out) hb); have HOv38' := Aside0.mk (Kd.R_below (by (with_reducible repeat (first | apply Kd.R_alloc | apply Kd.R_drewN | apply Kd.R_drew)); exact HOv38.out) hb); clear hb HB HOv37 HOv38; have HB := HB'; have HOv37 := HOv37'; have HOv38 := HOv38'; clear HB' HOv37' HOv38'; obtain ⟨A39, c39, e39⟩ := Kd.R_slice HOv39.out; subst e39) | ((with_reducible refine gate_dst (N := 40) rfl ?_); refine Kd.R_lit (Kd.slice 5 (Kd.int .u8)) w.heap.size 28 ?hg (N := 40) ?hd (xs := bads) (inner := [.slice A37 2 c37, .slice A38 10 c38, .slice A39 3 c39]) (ok := fun _ => True) (okp := fun _ => True) ?hr ?hp (fun _ hk => hk) trivial (by repeat (first | (with_reducible first | exact HB.out | apply below_alloc | apply pw_below_drewN | apply below_drew1) | exact HB.out)) (below_size (by repeat (first | (with_reducible first | exact HB.out | apply below_alloc | apply pw_below_drewN | apply below_drew1) | exact HB.out))) (by decide) ?_; (case hd => rfl); (case hg => rfl); (case hr => first | (go_simp; done) | (go_simp; rfl)); (case hp => exact Reps.one ⟨_, rfl, HOv37.out⟩ (Reps.one ⟨_, rfl, HOv38.out⟩ (Reps.one ⟨_, rfl, HOv39.out⟩ (Reps.none _ _)))); intro v40 wl ho hb hg_ hnew_; clear hg_ hnew_; have HOv40 := Aside0.mk (ho); clear ho; clear HB; have HB := Aside0.mk hb; clear hb; obtain ⟨A40, c40, e40⟩ := Kd.R_slice HOv40.out; change _ = Value.slice A40 3 c40 at e40; subst e40; clear HOv37 HOv38 HOv39) | ((with_reducible refine gate_dst (N := 41) rfl ?_); refine Kd.R_lit (Kd.int .i64) _ 29 ?hg (N := 41) ?hd (xs := errs) (inner := [.int .i64 5, .int .i64 4, .int .i64 3]) (ok := fun _ => True) (okp := fun _ => True) ?hr ?hp (fun _ hk => hk) trivial (Below.refl _ _) (Nat.le_refl _) (by decide) ?_; (case hd => rfl); (case hg => rfl); (case hr => first | (go_simp; done) | (go_simp; rfl)); (case hp => exact Kd.reps_scalar _); intro v41 wl ho hb hg_ hnew_; clear hg_ hnew_; have HOv41 := Aside0.mk (Kd.R_lower ho (below_size (by repeat (first | (with_reducible first | exact HB.out | apply below_alloc | apply pw_below_drewN | apply below_drew1) | exact HB.out)))); clear ho; have HB' := Aside0.mk (below_step (by repeat (first | (with_reducible first | exact HB.out | apply below_alloc | apply pw_below_drewN | apply below_drew1) | exact HB.out)) hb); have HOv40' := Aside0.mk (Kd.R_below (by (with_reducible repeat (first | apply Kd.R_alloc | apply Kd.R_drewN | apply Kd.R_drew)); exact HOv40.out) hb); clear hb HB HOv40; have HB := HB'; have HOv40 := HOv40'; clear HB' HOv40'; obtain ⟨A41, c41, e41⟩ := Kd.R_slice HOv41.out; change _ = Value.slice A41 3 c41 at e41; subst e41))
  go_loopw [9, 10] (fun v9 v10 wr => ∃ (i : Nat), i ≤ l0.length ∧ v10 = .int .i64 (i : Int) ∧ Aside0 (Below w.heap.size w wr) ∧ Aside0 (Kd.R (Kd.int .u8) 5 wr w.heap.size (fun _ => True) v9 (rowsT (l0.take i))) ∧ Aside0 (Kd.R (Kd.slice 5 (Kd.int .u8)) 28 wr w.heap.size (fun _ => True) (.slice A40 3 c40) bads) ∧ Aside0 (Kd.R (Kd.int .i64) 29 wr w.heap.size (fun _ => True) (.slice A41 3 c41) errs)) (fun _ v10 _ => l0.length - (intOf v10).toNat)
  case atStart => exact ⟨0, by omega, rfl, HB, ⟨Kd.R_nil _ _ _ _ _⟩, HOv40, HOv41⟩
  case round =>
    clear HB HOv40 HOv41
    obtain ⟨i, hi, rfl, HB, HO9, HO40, HO41⟩ := hrel
    obtain ⟨A9, c9, e9⟩ := Kd.R_slice HO9.out
    subst e9
    rcases Nat.lt_or_ge i l0.length with hlt | hge
    · have hil : decide ((i : Int) < (l0.length : Int)) = true := by simp; omega
      have hilt := HLT.out
      have HWR : wrap64 ((i : Int) + 1) = ((i + 1 : Nat) : Int) := (wrap64_id (by omega) (by omega)).trans (by omega)
      have hrr := Kd.R_reads' HO9.out
      have H9C := Aside0.mk hrr.2.2
      have H9c := Aside0.mk hrr.2.1
      have hc := Kd.C_below HR0.out HB.out
      obtain ⟨ad, At, ct, ea, hx, hl, hi_⟩ := at_L1 hc (i : Int) (by omega) (by omega)
      cases ea
      rw [rdL1_eq hlt] at hx hl hi_
      simp only [Int.toNat_natCast] at hx
      obtain ⟨s, hs⟩ : ∃ s_, s_ = l0[i] := ⟨_, rfl⟩
      rw [← hs] at hx hl hi_
      have HTC := Aside0.mk hi_
      have HTc := Aside0.mk hl
      have hm := HMX.out s (by rw [hs]; exact List.getElem_mem hlt)
      have hlr := rowsT_len (l0.take i)
      have hsl : sumL (l0.take i) ≤ 2000 := by
        have h5 := sumL_append (l0.take i) (l0.drop i)
        rw [List.take_append_drop] at h5
        omega
      have HF : Aside0 (frame_Frame.f 20 (rowsT (l0.take i)) s = some (rowsT (l0.take (i + 1)), 0)) := ⟨by rw [frame_isS (by omega) (by rw [List.length_take] at hlr; omega) hm.2, rowsT_take hlt, hs]⟩
      have hip : (0 ≤ (i : Int)) = True := eq_true (by omega)
      have hiq : ((i : Int) < (l0.length : Int)) = True := eq_true (by omega)
      have HLT2 := Aside0.mk hlt
      obtain ⟨x, hx9⟩ : ∃ x_, x_ = rowsT (l0.take i) := ⟨_, rfl⟩
      obtain ⟨y, hy9⟩ : ∃ y_, y_ = rowsT (l0.take (i + 1)) := ⟨_, rfl⟩
      have HY9 := Aside0.mk hy9
      rw [← hx9, ← hy9] at HF
      rw [← hx9] at H9C H9c ⊢
      clear hc hi_ hl hs hm hlr hsl hilt hrr hx9 hy9 HO9 hlt hi
      go_wp2_with (first | (go_at_call 20; refine (frame_Frame.calls 20 A9 c9 x At ct s y 0 _ ?s1 H9c.out ?s2 HTc.out HF.out).mono ?_; (case s1 => repeat (first | exact H9C.out | (with_reducible refine Kd.C_alloc ?_ _) | (with_reducible refine Kd.C_drewN ?_ _) | (with_reducible refine Kd.C_drew ?_))); (case s2 => repeat (first | exact HTC.out | (with_reducible refine Kd.C_alloc ?_ _) | (with_reducible refine Kd.C_drewN ?_ _) | (with_reducible refine Kd.C_drew ?_))); rintro en wz ⟨v9n, rfl, hr, hb⟩; have HO9 := Aside0.mk (Kd.R_lower hr (below_size (by repeat (first | (with_reducible first | exact HB.out | apply below_alloc | apply pw_below_drewN | apply below_drew1) | exact HB.out)))); clear hr H9C H9c HTC HTc; have HB' := Aside0.mk (below_step (by repeat (first | (with_reducible first | exact HB.out | apply below_alloc | apply pw_below_drewN | apply below_drew1) | exact HB.out)) hb); have HO40' := Aside0.mk (Kd.R_below (by (with_reducible repeat (first | apply Kd.R_alloc | apply Kd.R_drewN | apply Kd.R_drew)); exact HO40.out) hb); have HO41' := Aside0.mk (Kd.R_below (by (with_reducible repeat (first | apply Kd.R_alloc | apply Kd.R_drewN | apply Kd.R_drew)); exact HO41.out) hb); clear hb HB HO40 HO41; have HB := HB'; have HO40 := HO40'; have HO41 := HO41'; clear HB' HO40' HO41'))
      go_roundw
      case rel => exact ⟨i + 1, HLT2.out, by first | rfl | (congr 1), HB, ⟨by rw [← HY9.out]; exact HO9.out⟩, HO40, HO41⟩
      case measure => rw [HWR]; exact Nat.sub_lt_sub_left HLT2.out (Nat.lt_succ_self i)
    · have hil : decide ((i : Int) < (l0.length : Int)) = false := by simp; omega
      obtain rfl : i = l0.length := by omega
      rw [List.take_length] at HO9 ⊢
      have HAL : Aside0 (((rowsT l0).length + bad.length) * 1 ≤ 140737488355328) := ⟨by have := HLL.out; have := HBL.out; omega⟩
      obtain ⟨x, hxx⟩ : ∃ x_, x_ = rowsT l0 := ⟨_, rfl⟩
      obtain ⟨q, hqq⟩ : ∃ q_, q_ = x ++ bad := ⟨_, rfl⟩
      rw [← hxx] at HAL HO9 ⊢
      have HQ : Aside0 (x ++ bad = q) := ⟨hqq.symm⟩
      have HQL : Aside0 (([] : List Int).length + q.length ≤ 10000000000) := ⟨by have := HLL.out; have := HBL.out; rw [hqq, hxx]; simp only [List.length_nil, List.length_append]; omega⟩
      have HQB : Aside0 (Bytes q) := ⟨by rw [hqq, hxx]; exact (rowsT_bytes HMX.out).append HBB.out⟩
      have HQF : Aside0 (Fed ([] ++ q) l0 bad e) := ⟨by have := fed_rows (ts := l0) (fun t ht => (HMX.out t ht).2) HFD.out; rw [List.append_nil] at this; rw [hqq, hxx]; exact this⟩
      have HKP : Aside0 (keep bad e = []) := ⟨if_neg HE2.out⟩
      have hte : told e = e := if_neg HE2.out
      have HTE := Aside0.mk hte
      have hkp : (0 ≤ kk) = True := eq_true HK0.out
      have hkq : (kk < 3) = True := eq_true HK3.out
      clear hxx hqq hge hi
      go_wp2_with (first | (go_at_call 10; (with_reducible refine (new_calls _).mono ?_); rintro en wz ⟨g, rfl, hg, hge, hb⟩; have HGE := Aside0.mk (Nat.le_trans (below_size (by repeat (first | (with_reducible first | exact HB.out | apply below_alloc | apply pw_below_drewN | apply below_drew1) | exact HB.out))) hge); clear hge; have HB' := Aside0.mk (below_step (by repeat (first | (with_reducible first | exact HB.out | apply below_alloc | apply pw_below_drewN | apply below_drew1) | exact HB.out)) hb); have HO9' := Aside0.mk (Kd.R_below (by (with_reducible repeat (first | apply Kd.R_alloc | apply Kd.R_drewN | apply Kd.R_drew)); exact HO9.out) hb); have HO40' := Aside0.mk (Kd.R_below (by (with_reducible repeat (first | apply Kd.R_alloc | apply Kd.R_drewN | apply Kd.R_drew)); exact HO40.out) hb); have HO41' := Aside0.mk (Kd.R_below (by (with_reducible repeat (first | apply Kd.R_alloc | apply Kd.R_drewN | apply Kd.R_drew)); exact HO41.out) hb); clear hb HB HO9 HO40 HO41; have HB := HB'; have HO9 := HO9'; have HO40 := HO40'; have HO41 := HO41'; clear HB' HO9' HO40' HO41'; have HG := Aside0.mk hg; clear hg; have hC := (Kd.R_reads' HO40.out).2.2; obtain ⟨ad4, Ab, cb, ea, hx, hlb, hib⟩ := at_L1 hC kk HK0.out HK3.out; cases ea; rw [HBD.out] at hx hlb hib; have HBC := Aside0.mk hib; have HBc := Aside0.mk hlb; clear hC hib hlb; have HN9 := Aside0.mk (Kd.R_ne HO9.out HG.out (by decide)); have HVT := Aside0.mk (Kd.R_apart' HO41.out (Kd.R_typed HO9.out) (by decide))) | ((with_reducible refine gate_builtin (b := .append) (xs := #[.tmp 60, .tmp 65]) rfl ?_); at_builtin; refine Kd.R_append_rows (Kd.int .u8) (w0 := w) w.heap.size rfl (.tmp 60) (.tmp 65) 28 5 (.int .u8 0) 1 rfl Try.underlying28 info5 rfl (by decide) (by omega) (.slice A9 x.length c9) x bad _ _ _ (fun _ => True) (fun _ => False) rfl rfl ?aO ?aR (fun _ _ h => h) (fun _ h => h.elim) ?aF ?aB ?aS ?aL ?_; (case aO => exact (by (with_reducible repeat (first | apply Kd.R_alloc | apply Kd.R_drewN | apply Kd.R_drew)); exact HO9.out)); (case aR => repeat (first | exact HBC.out | (with_reducible refine Kd.C_alloc ?_ _) | (with_reducible refine Kd.C_drewN ?_ _) | (with_reducible refine Kd.C_drew ?_))); (case aF => exact fun _ _ => trivial); (case aB => exact (by repeat (first | (with_reducible first | exact HB.out | apply below_alloc | apply pw_below_drewN | apply below_drew1) | exact HB.out))); (case aS => exact below_size (by repeat (first | (with_reducible first | exact HB.out | apply below_alloc | apply pw_below_drewN | apply below_drew1) | exact HB.out))); (case aL => exact HAL.out); intro v66 wa ho hb hgr hat; have HG' := Aside0.mk (blk_grown (w := _) (by exact HG.out) hgr HN9.out); have HO41' := Aside0.mk (Kd.R_mono (ok' := fun _ => True) (Kd.R_step HVT.out (fun k_ hk_ hlt_ => hgr.block k_ hlt_ hk_.2)) (fun _ _ => trivial)); clear HG HO41 HVT HB HBC HO40 HO9 hgr hat; rw [HQ.out] at ho; obtain ⟨A6, c6, e6⟩ := Kd.R_slice ho; subst e6; have hrr := Kd.R_reads' ho; have HQC := Aside0.mk hrr.2.2; have HQc := Aside0.mk hrr.2.1; have HG := HG'; have HO41 := HO41'; have HB := Aside0.mk hb; clear ho hrr hb HG' HO41') | (go_at_call 12; (with_reducible refine (put_fed g w.heap.size (.slice none 0 0) [] A6 c6 q l0 bad e _ ?s1 ?s2 ?s3 ?s4 ?s5 ?s6 ?s7 ?s8 ?s9 _ ?s10).mono ?_); (case s1 => exact (by repeat (first | exact HG.out | (with_reducible refine blk_drewN ?_ _) | (with_reducible refine blk_drew ?_) | (with_reducible refine blk_alloc ?_ _)))); (case s2 => exact Kd.R_nil _ _ _ _ _); (case s3 => exact HGE.out); (case s4 => repeat (first | exact HQC.out | (with_reducible refine Kd.C_alloc ?_ _) | (with_reducible refine Kd.C_drewN ?_ _) | (with_reducible refine Kd.C_drew ?_))); (case s5 => exact HQc.out); (case s6 => exact HQL.out); (case s7 => exact Bytes.nil); (case s8 => exact HQB.out); (case s9 => exact HQF.out); (case s10 => rfl); rintro en wz ⟨vl, v2, rfl, p1, p2, p3, p4, p5⟩; rw [HKP.out] at p2; rw [HTE.out] at p1; have HB' := Aside0.mk (Below.trans (by repeat (first | (with_reducible first | exact HB.out | apply below_alloc | apply pw_below_drewN | apply below_drew1) | exact HB.out)) p4); have HO41' := Aside0.mk (Kd.R_mono (ok' := fun _ => True) (Kd.R_step (Kd.R_bound (Kd.R_types (by (with_reducible repeat (first | apply Kd.R_alloc | apply Kd.R_drewN | apply Kd.R_drew)); exact HO41.out) (by repeat (first | exact HG.out | (with_reducible refine blk_drewN ?_ _) | (with_reducible refine blk_drew ?_) | (with_reducible refine blk_alloc ?_ _))) (by decide))) (fun k_ ho_ hlt_ => p5 k_ hlt_ ho_.1.2 (fun e_ => by cases e_))) (fun _ _ => trivial)); have HV2 := Aside0.mk (Kd.R_lower p2 (below_size (by repeat (first | (with_reducible first | exact HB.out | apply below_alloc | apply pw_below_drewN | apply below_drew1) | exact HB.out)))); have HLQ := Kd.S_R p3; obtain ⟨Al, cl, el⟩ := Kd.R_slice HLQ; subst el; have hrl := Kd.R_reads' HLQ; have HLC := Aside0.mk hrl.2.2; have HLc := Aside0.mk hrl.2.1; have hC3 := (Kd.R_reads' HO41'.out).2.2; obtain ⟨ad3, e3_, hx3⟩ := Kd.at_int hC3 kk HK0.out HK3.out; cases e3_; rw [HED.out] at hx3; clear HB HG HO41 HO41' p2 p3 p4 p5 hC3 HLQ hrl HQC; have HB := HB'; have HG := Aside0.mk p1; clear HB' p1) | (go_at_call 14; (with_reducible refine (touchstonelaw3_alike.calls (l0.length + 1) Al cl l0 A0 c0 l0 true _ ?s1 HLc.out ?s2 HC0.out HAS.out).mono ?_); (case s1 => repeat (first | exact HLC.out | (with_reducible refine Kd.C_alloc ?_ _) | (with_reducible refine Kd.C_drewN ?_ _) | (with_reducible refine Kd.C_drew ?_))); (case s2 => repeat (first | exact (Kd.C_below HR0.out HB.out) | (with_reducible refine Kd.C_alloc ?_ _) | (with_reducible refine Kd.C_drewN ?_ _) | (with_reducible refine Kd.C_drew ?_))); rintro en w' ⟨rfl, ⟨nd, rfl⟩⟩) | (go_at_call 16; (with_reducible refine (waits_calls g v2 e [] w.heap.size (fun _ => True) _ ?s1 ?s2).mono ?_); (case s1 => exact (by repeat (first | exact HG.out | (with_reducible refine blk_drewN ?_ _) | (with_reducible refine blk_drew ?_) | (with_reducible refine blk_alloc ?_ _)))); (case s2 => exact (by (with_reducible repeat (first | apply Kd.R_alloc | apply Kd.R_drewN | apply Kd.R_drew)); exact HV2.out)); rintro en w' ⟨rfl, ⟨nd, rfl⟩⟩))
      go_loopw [14] (fun v14 wr => ∃ (i : Nat), i ≤ l2.length ∧ v14 = .int .i64 (i : Int) ∧ Aside0 (Below w.heap.size w wr) ∧ Aside0 (wr.heap[g]? = some (blkOf true v2 e)) ∧ Aside0 (Kd.R (Kd.int .u8) 5 wr w.heap.size (fun _ => True) v2 [])) (fun v14 _ => l2.length - (intOf v14).toNat)
      case atStart => exact ⟨0, by omega, rfl, ⟨(by repeat (first | (with_reducible first | exact HB.out | apply below_alloc | apply pw_below_drewN | apply below_drew1) | exact HB.out))⟩, ⟨by repeat (first | exact HG.out | (with_reducible refine blk_drewN ?_ _) | (with_reducible refine blk_drew ?_) | (with_reducible refine blk_alloc ?_ _))⟩, ⟨by (with_reducible repeat (first | apply Kd.R_alloc | apply Kd.R_drewN | apply Kd.R_drew)); exact HV2.out⟩⟩
      case round =>
        clear HB HG HV2 HLC
        obtain ⟨i, hi, rfl, HB, HG, HV2⟩ := hrel
        rcases Nat.lt_or_ge i l2.length with hlt | hge
        · have hil : decide ((i : Int) < (l2.length : Int)) = true := by simp; omega
          have hilt := HL2.out
          have HWR : wrap64 ((i : Int) + 1) = ((i + 1 : Nat) : Int) := (wrap64_id (by omega) (by omega)).trans (by omega)
          have hc := Kd.C_below HR2.out HB.out
          obtain ⟨ad, At, ct, ea, hx, hl, hi_⟩ := at_L1 hc (i : Int) (by omega) (by omega)
          cases ea
          have hip : (0 ≤ (i : Int)) = True := eq_true (by omega)
          have hiq : ((i : Int) < (l2.length : Int)) = True := eq_true (by omega)
          have HLT2 := Aside0.mk hlt
          obtain ⟨s, hs⟩ : ∃ s_, s_ = rd_L1 l2 i := ⟨_, rfl⟩
          rw [← hs] at hx hl hi_
          simp only [Int.toNat_natCast] at hx
          clear hc hi_ hl hs hilt hlt hi
          go_wp2_with (first | (go_at_call 12; (with_reducible refine (put_spoilt g v2 e At s.length ct _ ?s1 HE0.out).mono ?_); (case s1 => exact (by repeat (first | exact HG.out | (with_reducible refine blk_drewN ?_ _) | (with_reducible refine blk_drew ?_) | (with_reducible refine blk_alloc ?_ _)))); rintro en w' ⟨rfl, ⟨nd, rfl⟩⟩) | (go_at_call 16; (with_reducible refine (waits_calls g v2 e [] w.heap.size (fun _ => True) _ ?s1 ?s2).mono ?_); (case s1 => exact (by repeat (first | exact HG.out | (with_reducible refine blk_drewN ?_ _) | (with_reducible refine blk_drew ?_) | (with_reducible refine blk_alloc ?_ _)))); (case s2 => exact (by (with_reducible repeat (first | apply Kd.R_alloc | apply Kd.R_drewN | apply Kd.R_drew)); exact HV2.out)); rintro en w' ⟨rfl, ⟨nd, rfl⟩⟩))
          go_roundw
          case rel => exact ⟨i + 1, HLT2.out, by first | rfl | (congr 1), ⟨(by repeat (first | (with_reducible first | exact HB.out | apply below_alloc | apply pw_below_drewN | apply below_drew1) | exact HB.out))⟩, ⟨by repeat (first | exact HG.out | (with_reducible refine blk_drewN ?_ _) | (with_reducible refine blk_drew ?_) | (with_reducible refine blk_alloc ?_ _))⟩, ⟨by (with_reducible repeat (first | apply Kd.R_alloc | apply Kd.R_drewN | apply Kd.R_drew)); exact HV2.out⟩⟩
          case measure => rw [HWR]; exact Nat.sub_lt_sub_left HLT2.out (Nat.lt_succ_self i)
        · have hil : decide ((i : Int) < (l2.length : Int)) = false := by simp; omega
          go_wp2
          go_ret
          exact ⟨rfl, HB.out⟩
theorem touchstonelaw3_FrameSpoilt.walk (_P : True) (A0 : Option Addr) (c0 : Nat) (l0 : List (List Int)) (a1 : Int) (A2 : Option Addr) (c2 : Nat) (l2 : List (List Int)) (w : World) (hC0 : Kd.C (Kd.slice 5 (Kd.int .u8)) w A0 l0.length l0) (hc0 : l0.length ≤ c0)
    (hW0 : (l0.length * 24 ≤ 140737488351232 ∧ l0.length ≤ maxLen ∧ ∀ x_l0 ∈ l0, (x_l0.length * 1 ≤ 140737488351232 ∧ x_l0.length ≤ maxLen ∧ ∀ x_x_l0 ∈ x_l0, (Lit.int .u8 x_x_l0).wf = true))) (w1 : (Lit.int .u8 a1).wf = true)
    (hC2 : Kd.C (Kd.slice 5 (Kd.int .u8)) w A2 l2.length l2) (hc2 : l2.length ≤ c2) (hW2 : (l2.length * 24 ≤ 140737488351232 ∧ l2.length ≤ maxLen ∧ ∀ x_l2 ∈ l2, (x_l2.length * 1 ≤ 140737488351232 ∧ x_l2.length ≤ maxLen ∧ ∀ x_x_l2 ∈ x_l2, (Lit.int .u8 x_x_l2).wf = true))) :
    Calls Try.prog 6 #[.slice A0 l0.length c0, .int .u8 a1, .slice A2 l2.length c2] w fun en w' => en = .returned (.bool true) ∧ Below w.heap.size w w' := by
  have ha : 0 ≤ a1 := by
    simp [Lit.wf, IntKind.min, IntKind.max, IntKind.bits, IntKind.signed] at w1
    omega
  have hb : ∀ t ∈ l0, Bytes t := fun t ht => Bytes.of_wf (hW0.2.2 t ht).2.2
  rcases Nat.lt_or_ge 10 l0.length with h | h1
  · exact spoilt_big_a A0 c0 l0 a1 A2 c2 l2 w hC0 hc0 hC2 hc2 h
  obtain ⟨r0, hs0, hr0⟩ := sum_is l0 2000 (by omega) (by omega) (by omega)
  rcases Int.lt_or_le 2000 r0 with h | h2
  · exact spoilt_big_b A0 c0 l0 a1 A2 c2 l2 w hC0 hc0 hC2 hc2 h1 r0 _ hs0 h
  rcases Nat.lt_or_ge 10 l2.length with h | h3
  · exact spoilt_big_c A0 c0 l0 a1 A2 c2 l2 w hC0 hc0 hC2 hc2 h1 r0 _ hs0 h2 h
  obtain ⟨r2, hs2, hr2⟩ := sum_is l2 2000 (by omega) (by omega) (by omega)
  rcases Int.lt_or_le 2000 r2 with h | h4
  · exact spoilt_big_d A0 c0 l0 a1 A2 c2 l2 w hC0 hc0 hC2 hc2 h1 r0 _ hs0 h2 h3 r2 _ hs2 h
  have hs := hr0 h2
  exact spoilt_walk A0 c0 l0 a1 _ A2 c2 l2 w hC0 hc0 hC2 hc2 rfl (Int.tmod_nonneg 3 ha) (Int.tmod_lt_of_pos a1 (by omega)) hb h1 r0 _ hs0 h2 (by omega) h3 r2 _ hs2 h4
end Go.Proofs.Ytmhkmlbmolikiaa.QF
