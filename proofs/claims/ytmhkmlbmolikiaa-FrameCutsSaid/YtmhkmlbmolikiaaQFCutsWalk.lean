/- FrameCuts: frames that are parted anyhow come as they were, in their order. -/
import Derived.Test.YtmhkmlbmolikiaaQFBegun
import Derived.Test.YtmhkmlbmolikiaaQFCut
import Derived.Test.YtmhkmlbmolikiaaQFx2
import Derived.Test.YtmhkmlbmolikiaaQFx1
import Derived.Outline
import Derived.WalkSpells
import Derived.IntWalk
import Derived.BigQuiet
import Derived.Deep.QuietTactic
set_option linter.unusedVariables false
set_option linter.unusedSimpArgs false
namespace Go.Proofs.Ytmhkmlbmolikiaa.QF
open Go.RowKit Go.Proofs.YtmhkmlbmolikiaaW.PrintWords Go.Proofs.YtmhkmlbmolikiaaW.PrintLast Go.Proofs.YtmhkmlbmolikiaaW.PrintMore Go.Proofs.Ytmhkmlbmolikiaa.FrameReader Go.Proofs.Ytmhkmlbmolikiaa.FrameMath Go.Proofs.Ytmhkmlbmolikiaa.OctetMath

theorem frame_isC {k : Nat} {l s : List Int} (hk : 10 ≤ k) (hl : l.length ≤ 70368744177600) (hs : s.length ≤ 65536) : frame_Frame.f k l s = some (l ++ lay s.length ++ s, 0) := by
  unfold frame_Frame.f
  rw [if_neg (by omega), text_is hk hl (by omega)]
  rfl
theorem alikeC (k : Nat) (l : List (List Int)) : ∀ (n i : Nat), n + i = l.length → n < k → (l.length : Int) < 1000000000000 → touchstonelaw3_alike.l0 k l l i = some true := by
  induction k with
  | zero => intro n i h hk; omega
  | succ k ih =>
    intro n i h hk hl
    rw [touchstonelaw3_alike.l0]
    by_cases hi : (i : Int) < (l.length : Int)
    · rw [if_pos hi, if_pos (by omega), if_pos hi, if_pos rfl, wrap64_id (by omega) (by omega), show (i : Int) + 1 = ((i + 1 : Nat) : Int) by omega]
      exact ih (n - 1) (i + 1) (by omega) (by omega) hl
    · rw [if_neg hi]
theorem alike_selfC {l : List (List Int)} (hl : l.length < 1000000000000) : touchstonelaw3_alike.f (l.length + 1) l l = some true := by
  unfold touchstonelaw3_alike.f
  rw [if_pos rfl]
  exact alikeC _ l l.length 0 (by omega) (by omega) (by omega)
theorem rows_of_RC {α : Type} {d : Kd α} {e : Nat} {w : World} {base : Nat} {ok : Nat → Prop} {A : Option Addr} {n c : Nat} {xs : List α} (h : d.R e w base ok (.slice A n c) xs) : ReadsRow (d.M w base ok) d.sz w A n xs := by
  obtain ⟨A', c', he, hl, hr⟩ := OwnRow.reads h.2
  injection he with h1 h2 h3
  subst h1 h2 h3
  exact hr.imp_ (Below.refl _ _) (fun p cs hm => d.M_mono (fun k hk => hk.1) hm)
theorem flat_take {ps : List (List Int)} {i : Nat} (h : i < ps.length) : (ps.take (i + 1)).flatten = (ps.take i).flatten ++ ps[i] := by
  rw [List.take_succ_eq_append_getElem h, List.flatten_append, List.flatten_singleton]
theorem flat_part {ps : List (List Int)} (i : Nat) : (ps.take i).flatten ++ (ps.drop i).flatten = ps.flatten := by
  rw [← List.flatten_append, List.take_append_drop]
theorem cuts_big_a (A0 : Option Addr) (c0 : Nat) (l0 : List (List Int)) (A1 : Option Addr) (c1 : Nat) (l1 : List Int) (w : World) (hr0 : Kd.C (Kd.slice 5 (Kd.int .u8)) w A0 l0.length l0) (hc0 : l0.length ≤ c0) (hr1 : Kd.C (Kd.int .i64) w A1 l1.length l1) (hc1 : l1.length ≤ c1) (h : 20 < l0.length) :
    Calls Try.prog 5 #[.slice A0 l0.length c0, .slice A1 l1.length c1] w fun en w' => en = .returned (.bool true) ∧ Below w.heap.size w w' := by
  have HB := Aside0.mk (Below.refl w.heap.size w)
  have HR0 := Aside0.mk hr0
  have HC0 := Aside0.mk hc0
  have hq : decide (20 < (l0.length : Int)) = true := by simp; omega
  clear hr0 hr1 hc0 hc1 h
  go_enter Try.func5, Try.ntmps5
  go_wp2_with (first | (go_at_call 8; refine (begun_calls _).mono ?_; rintro en wz ⟨rfl, hb⟩; have HB' := Aside0.mk (below_step (by repeat (first | (with_reducible first | exact HB.out | apply below_alloc | apply pw_below_drewN | apply below_drew1) | exact HB.out)) hb); clear hb HB; have HB := HB'; clear HB'))
  go_ret
  exact ⟨rfl, (by repeat (first | (with_reducible first | exact HB.out | apply below_alloc | apply pw_below_drewN | apply below_drew1) | exact HB.out))⟩
theorem cuts_big_b (A0 : Option Addr) (c0 : Nat) (l0 : List (List Int)) (A1 : Option Addr) (c1 : Nat) (l1 : List Int) (w : World) (hr0 : Kd.C (Kd.slice 5 (Kd.int .u8)) w A0 l0.length l0) (hc0 : l0.length ≤ c0) (hr1 : Kd.C (Kd.int .i64) w A1 l1.length l1) (hc1 : l1.length ≤ c1) (h1 : l0.length ≤ 20) (r0 : Int) (k0 : Nat) (hs0 : touchstonelaw0_Sum.f k0 l0 3000 = some r0) (h : 3000 < r0) :
    Calls Try.prog 5 #[.slice A0 l0.length c0, .slice A1 l1.length c1] w fun en w' => en = .returned (.bool true) ∧ Below w.heap.size w w' := by
  have HB := Aside0.mk (Below.refl w.heap.size w)
  have HR0 := Aside0.mk hr0
  have HC0 := Aside0.mk hc0
  have HS0 := Aside0.mk hs0
  clear hs0
  have hp : decide (20 < (l0.length : Int)) = false := by simp; omega
  have hq : decide (3000 < r0) = true := by simp; omega
  clear hr0 hr1 hc0 hc1 h h1
  go_enter Try.func5, Try.ntmps5
  go_wp2_with (first | (go_at_call 8; refine (begun_calls _).mono ?_; rintro en wz ⟨rfl, hb⟩; have HB' := Aside0.mk (below_step (by repeat (first | (with_reducible first | exact HB.out | apply below_alloc | apply pw_below_drewN | apply below_drew1) | exact HB.out)) hb); clear hb HB; have HB := HB'; clear HB') | (go_at_call 9; (with_reducible refine (touchstonelaw0_Sum.calls k0 A0 c0 l0 3000 r0 _ ?s1 HC0.out HS0.out).mono ?_); (case s1 => repeat (first | exact (Kd.C_below HR0.out HB.out) | (with_reducible refine Kd.C_alloc ?_ _) | (with_reducible refine Kd.C_drewN ?_ _) | (with_reducible refine Kd.C_drew ?_))); rintro en w' ⟨rfl, ⟨nd, rfl⟩⟩))
  go_ret
  exact ⟨rfl, (by repeat (first | (with_reducible first | exact HB.out | apply below_alloc | apply pw_below_drewN | apply below_drew1) | exact HB.out))⟩
theorem cuts_big_c (A0 : Option Addr) (c0 : Nat) (l0 : List (List Int)) (A1 : Option Addr) (c1 : Nat) (l1 : List Int) (w : World) (hr0 : Kd.C (Kd.slice 5 (Kd.int .u8)) w A0 l0.length l0) (hc0 : l0.length ≤ c0) (hr1 : Kd.C (Kd.int .i64) w A1 l1.length l1) (hc1 : l1.length ≤ c1) (h1 : l0.length ≤ 20) (r0 : Int) (k0 : Nat) (hs0 : touchstonelaw0_Sum.f k0 l0 3000 = some r0) (h2 : r0 ≤ 3000) (h : 200 < l1.length) :
    Calls Try.prog 5 #[.slice A0 l0.length c0, .slice A1 l1.length c1] w fun en w' => en = .returned (.bool true) ∧ Below w.heap.size w w' := by
  have HB := Aside0.mk (Below.refl w.heap.size w)
  have HR0 := Aside0.mk hr0
  have HC0 := Aside0.mk hc0
  have HS0 := Aside0.mk hs0
  clear hs0
  have hp : decide (20 < (l0.length : Int)) = false := by simp; omega
  have ho : decide (3000 < r0) = false := by simp; omega
  have hq : decide (200 < (l1.length : Int)) = true := by simp; omega
  clear hr0 hr1 hc0 hc1 h h1 h2
  go_enter Try.func5, Try.ntmps5
  go_wp2_with (first | (go_at_call 8; refine (begun_calls _).mono ?_; rintro en wz ⟨rfl, hb⟩; have HB' := Aside0.mk (below_step (by repeat (first | (with_reducible first | exact HB.out | apply below_alloc | apply pw_below_drewN | apply below_drew1) | exact HB.out)) hb); clear hb HB; have HB := HB'; clear HB') | (go_at_call 9; (with_reducible refine (touchstonelaw0_Sum.calls k0 A0 c0 l0 3000 r0 _ ?s1 HC0.out HS0.out).mono ?_); (case s1 => repeat (first | exact (Kd.C_below HR0.out HB.out) | (with_reducible refine Kd.C_alloc ?_ _) | (with_reducible refine Kd.C_drewN ?_ _) | (with_reducible refine Kd.C_drew ?_))); rintro en w' ⟨rfl, ⟨nd, rfl⟩⟩))
  go_ret
  exact ⟨rfl, (by repeat (first | (with_reducible first | exact HB.out | apply below_alloc | apply pw_below_drewN | apply below_drew1) | exact HB.out))⟩
set_option maxHeartbeats 8000000 in
set_option maxRecDepth 100000 in
theorem cuts_walk (A0 : Option Addr) (c0 : Nat) (l0 : List (List Int)) (A1 : Option Addr) (c1 : Nat) (l1 : List Int) (w : World) (hr0 : Kd.C (Kd.slice 5 (Kd.int .u8)) w A0 l0.length l0) (hc0 : l0.length ≤ c0) (hr1 : Kd.C (Kd.int .i64) w A1 l1.length l1) (hc1 : l1.length ≤ c1)
    (hby : ∀ t ∈ l0, Bytes t) (h1 : l0.length ≤ 20) (r0 : Int) (k0 : Nat) (hs0 : touchstonelaw0_Sum.f k0 l0 3000 = some r0) (h2 : r0 ≤ 3000) (hs : sumL l0 ≤ 3000) (h3 : l1.length ≤ 200) :
    Calls Try.prog 5 #[.slice A0 l0.length c0, .slice A1 l1.length c1] w fun en w' => en = .returned (.bool true) ∧ Below w.heap.size w w' := by
  have HB := Aside0.mk (Below.refl w.heap.size w)
  have HR0 := Aside0.mk hr0
  have HR1 := Aside0.mk hr1
  have HC0 := Aside0.mk hc0
  have HC1 := Aside0.mk hc1
  have HS0 := Aside0.mk hs0
  have hp : decide (20 < (l0.length : Int)) = false := by simp; omega
  have ho : decide (3000 < r0) = false := by simp; omega
  have hn : decide (200 < (l1.length : Int)) = false := by simp; omega
  have HMX : Aside0 (∀ t ∈ l0, Bytes t ∧ t.length ≤ 65536) := ⟨fun t ht => ⟨hby t ht, by have := sumL_mem ht; omega⟩⟩
  have HLL : Aside0 ((rowsT l0).length ≤ 4000) := ⟨by have := rowsT_len l0; omega⟩
  have HLT : Aside0 (l0.length ≤ 20 ∧ sumL l0 ≤ 3000) := ⟨h1, hs⟩
  have HL1 : Aside0 (l1.length ≤ 1000000) := ⟨by omega⟩
  have HL2 := Aside0.mk h3
  have HAS := Aside0.mk (alike_selfC (l := l0) (by omega))
  clear hr0 hr1 hc0 hc1 hs0 h1 h2 h3 hs hby
  go_enter Try.func5, Try.ntmps5
  go_wp2_with (first | (go_at_call 8; refine (begun_calls _).mono ?_; rintro en wz ⟨rfl, hb⟩; have HB' := Aside0.mk (below_step (by repeat (first | (with_reducible first | exact HB.out | apply below_alloc | apply pw_below_drewN | apply below_drew1) | exact HB.out)) hb); clear hb HB; have HB := HB'; clear HB') | (go_at_call 9; (with_reducible refine (touchstonelaw0_Sum.calls k0 A0 c0 l0 3000 r0 _ ?s1 HC0.out HS0.out).mono ?_); (case s1 => repeat (first | exact (Kd.C_below HR0.out HB.out) | (with_reducible refine Kd.C_alloc ?_ _) | (with_reducible refine Kd.C_drewN ?_ _) | (with_reducible refine Kd.C_drew ?_))); rintro en w' ⟨rfl, ⟨nd, rfl⟩⟩))
  go_loopw [5, 6] (fun v9 v10 wr => ∃ (i : Nat), i ≤ l0.length ∧ v10 = .int .i64 (i : Int) ∧ Aside0 (Below w.heap.size w wr) ∧ Aside0 (Kd.R (Kd.int .u8) 5 wr w.heap.size (fun _ => True) v9 (rowsT (l0.take i)))) (fun _ v10 _ => l0.length - (intOf v10).toNat)
  case atStart => exact ⟨0, by omega, rfl, ⟨by repeat (first | (with_reducible first | exact HB.out | apply below_alloc | apply pw_below_drewN | apply below_drew1) | exact HB.out)⟩, ⟨Kd.R_nil _ _ _ _ _⟩⟩
  case round =>
    clear HB
    obtain ⟨i, hi, rfl, HB, HO9⟩ := hrel
    obtain ⟨A9, c9, e9⟩ := Kd.R_slice HO9.out
    subst e9
    rcases Nat.lt_or_ge i l0.length with hlt | hge
    · have hil : decide ((i : Int) < (l0.length : Int)) = true := by simp; omega
      have hilt := HLT.out
      have HWR0 : Aside0 (wrap64 ((i : Int) + 1) = ((i + 1 : Nat) : Int)) := ⟨(wrap64_id (by omega) (by omega)).trans (by omega)⟩
      have hrr := Kd.R_reads' HO9.out
      have H9C := Aside0.mk hrr.2.2
      have H9c := Aside0.mk hrr.2.1
      have hc := Kd.C_below HR0.out HB.out
      obtain ⟨ad, At, ct, ea, hx, hl, hi_⟩ := at_L1 hc (i : Int) (by omega) (by omega)
      cases ea
      rw [rdL1_eq hlt] at hx hl hi_
      simp only [Int.toNat_natCast] at hx
      obtain ⟨s, hs⟩ : ∃ s_, s_ = l0[i] := ⟨_, rfl⟩
      rw [← hs] at hx hl hi_
      have HTC := Aside0.mk hi_
      have HTc := Aside0.mk hl
      have hm := HMX.out s (by rw [hs]; exact List.getElem_mem hlt)
      have hlr := rowsT_len (l0.take i)
      have hsl : sumL (l0.take i) ≤ 3000 := by
        have h5 := sumL_append (l0.take i) (l0.drop i)
        rw [List.take_append_drop] at h5
        omega
      have HF : Aside0 (frame_Frame.f 20 (rowsT (l0.take i)) s = some (rowsT (l0.take (i + 1)), 0)) := ⟨by rw [frame_isC (by omega) (by rw [List.length_take] at hlr; omega) hm.2, rowsT_take hlt, hs]⟩
      have hip : (0 ≤ (i : Int)) = True := eq_true (by omega)
      have hiq : ((i : Int) < (l0.length : Int)) = True := eq_true (by omega)
      have HLT2 := Aside0.mk hlt
      obtain ⟨x, hx9⟩ : ∃ x_, x_ = rowsT (l0.take i) := ⟨_, rfl⟩
      obtain ⟨y, hy9⟩ : ∃ y_, y_ = rowsT (l0.take (i + 1)) := ⟨_, rfl⟩
      have HY9 := Aside0.mk hy9
      rw [← hx9, ← hy9] at HF
      rw [← hx9] at H9C H9c ⊢
      clear hc hi_ hl hs hm hlr hsl hilt hrr hx9 hy9 HO9 hlt hi
      have HWR := HWR0.out
      go_wp2_with (first | (go_at_call 20; refine (frame_Frame.calls 20 A9 c9 x At ct s y 0 _ ?s1 H9c.out ?s2 HTc.out HF.out).mono ?_; (case s1 => repeat (first | exact H9C.out | (with_reducible refine Kd.C_alloc ?_ _) | (with_reducible refine Kd.C_drewN ?_ _) | (with_reducible refine Kd.C_drew ?_))); (case s2 => repeat (first | exact HTC.out | (with_reducible refine Kd.C_alloc ?_ _) | (with_reducible refine Kd.C_drewN ?_ _) | (with_reducible refine Kd.C_drew ?_))); rintro en wz ⟨v9n, rfl, hr, hb⟩; have HO9 := Aside0.mk (Kd.R_lower hr (below_size (by repeat (first | (with_reducible first | exact HB.out | apply below_alloc | apply pw_below_drewN | apply below_drew1) | exact HB.out)))); clear hr H9C H9c HTC HTc; have HB' := Aside0.mk (below_step (by repeat (first | (with_reducible first | exact HB.out | apply below_alloc | apply pw_below_drewN | apply below_drew1) | exact HB.out)) hb); clear hb HB; have HB := HB'; clear HB'))
      go_roundw
      case rel => exact ⟨i + 1, HLT2.out, by first | rfl | (congr 1), ⟨by repeat (first | (with_reducible first | exact HB.out | apply below_alloc | apply pw_below_drewN | apply below_drew1) | exact HB.out)⟩, ⟨by rw [← HY9.out]; exact HO9.out⟩⟩
      case measure => rw [HWR]; exact Nat.sub_lt_sub_left HLT2.out (Nat.lt_succ_self i)
    · have hil : decide ((i : Int) < (l0.length : Int)) = false := by simp; omega
      obtain rfl : i = l0.length := by omega
      rw [List.take_length] at HO9 ⊢
      obtain ⟨x, hxx⟩ : ∃ x_, x_ = rowsT l0 := ⟨_, rfl⟩
      rw [← hxx] at HO9 ⊢
      have HXL : Aside0 (x.length ≤ 1000000) := ⟨by have := HLL.out; rw [hxx]; omega⟩
      have HXS : Aside0 (x.length ≤ 4000) := ⟨by have := HLL.out; rw [hxx]; omega⟩
      have HXB : Aside0 (Bytes x) := ⟨by rw [hxx]; exact rowsT_bytes HMX.out⟩
      have HXF : Aside0 (Fed x l0 [] 2) := ⟨by rw [hxx]; exact fed_all (fun t ht => (HMX.out t ht).2)⟩
      clear hge hi hxx
      go_wp2_with (first | (go_at_call 10; (with_reducible refine (new_calls _).mono ?_); rintro en wz ⟨g, rfl, hg, hge, hb⟩; have HGE := Aside0.mk (Nat.le_trans (below_size (by repeat (first | (with_reducible first | exact HB.out | apply below_alloc | apply pw_below_drewN | apply below_drew1) | exact HB.out))) hge); clear hge; have HB' := Aside0.mk (below_step (by repeat (first | (with_reducible first | exact HB.out | apply below_alloc | apply pw_below_drewN | apply below_drew1) | exact HB.out)) hb); have HO9' := Aside0.mk (Kd.R_below (by (with_reducible repeat (first | apply Kd.R_alloc | apply Kd.R_drewN | apply Kd.R_drew)); exact HO9.out) hb); clear hb HB HO9; have HB := HB'; have HO9 := HO9'; clear HB' HO9'; have HG := Aside0.mk hg; clear hg; have H9c := Aside0.mk (Kd.R_reads' HO9.out).2.1; have HFX : Aside0 (Kd.F (Kd.int .u8) wz (fun k_ => k_ ≠ g ∧ k_ < wz.heap.size) A9 x.length x) := ⟨Kd.F_mono (Kd.F_bound (Kd.R_F (Kd.R_types HO9.out HG.out (by decide)))) (fun k_ hk_ => ⟨hk_.1.2, hk_.2⟩)⟩; clear HO9; have HGL := Aside0.mk (blk_lt HG.out)) | (go_at_call 21; refine (cut_calls (fun k_ => k_ ≠ g ∧ k_ < wz.heap.size) A9 c9 x A1 c1 l1 wz HFX.out H9c.out HXL.out (fun k_ hk_ => hk_.2) ?s1 HC1.out HL1.out).mono ?_; (case s1 => repeat (first | exact (Kd.C_below HR1.out HB.out) | (with_reducible refine Kd.C_alloc ?_ _) | (with_reducible refine Kd.C_drewN ?_ _) | (with_reducible refine Kd.C_drew ?_))); rintro en w1 ⟨vl, ps, rfl, hps, hpn, ho, hb⟩; have HNN : Aside0 (Kd.N (Kd.slice 5 (Kd.int .u8)) 28 w1 wz.heap.size (fun k_ => k_ ≠ g ∧ k_ < w1.heap.size) vl ps) := ⟨Kd.N_mono (Kd.N_bound ho) (fun k_ hk_ => ⟨fun e_ => hk_.1.elim (fun h_ => h_.1 e_) (fun h_ => Nat.lt_irrefl _ (Nat.lt_of_lt_of_le HGL.out (e_ ▸ h_))), hk_.2⟩)⟩; have HPS := Aside0.mk hps; have HPN := Aside0.mk hpn; clear hps hpn ho HFX H9c; have HB' := Aside0.mk (below_step (by repeat (first | (with_reducible first | exact HB.out | apply below_alloc | apply pw_below_drewN | apply below_drew1) | exact HB.out)) hb); have HG' := Aside0.mk (blk_below (by repeat (first | exact HG.out | (with_reducible refine blk_drewN ?_ _) | (with_reducible refine blk_drew ?_) | (with_reducible refine blk_alloc ?_ _))) hb); clear hb HB HG; have HB := HB'; have HG := HG'; clear HB' HG'; obtain ⟨Al, cl, el⟩ := Kd.N_slice HNN.out; subst el))
      go_loopw [11, 12] (fun v11 v12 wr => ∃ (i : Nat) (got : List (List Int)) (v : Value) (r : List Int), i ≤ ps.length ∧ v12 = .int .i64 (i : Int) ∧ Aside0 (Fed (ps.take i).flatten got r 2) ∧ Aside0 (Below w.heap.size w wr) ∧ Aside0 (w1.heap.size ≤ wr.heap.size) ∧ Aside0 (wr.heap[g]? = some (blkOf true v 0)) ∧ Aside0 (Kd.R (Kd.int .u8) 5 wr w.heap.size (fun _ => True) v r) ∧ Aside0 (∀ k_, v.ownBlock = some k_ → w1.heap.size ≤ k_) ∧ Aside0 (Kd.R (Kd.slice 5 (Kd.int .u8)) 28 wr w.heap.size (fun k_ => some k_ ≠ v.ownBlock) v11 got) ∧ Aside0 (∀ k_, v11.ownBlock = some k_ → w1.heap.size ≤ k_) ∧ Aside0 (Kd.N (Kd.slice 5 (Kd.int .u8)) 28 wr wz.heap.size (fun k_ => k_ ≠ g ∧ k_ < w1.heap.size) (.slice Al ps.length cl) ps)) (fun _ v12 _ => ps.length - (intOf v12).toNat)
      case atStart => exact ⟨0, [], .slice none 0 0, [], by omega, rfl, ⟨by rw [List.take_zero]; exact fed_nil⟩, HB, ⟨Nat.le_refl _⟩, HG, ⟨Kd.R_nil _ _ _ _ _⟩, ⟨fun k_ h_ => by cases h_⟩, ⟨Kd.R_nil _ _ _ _ _⟩, ⟨fun k_ h_ => by cases h_⟩, HNN⟩
      case round =>
        clear HB HG HNN
        obtain ⟨i, got, v, r, hi, rfl, HF, HB, HWS, HG, HV, HVB, HO, HOB, HNN⟩ := hrel
        have hps := HPS.out
        have hpn := HPN.out
        have hl2 := HL2.out
        rcases Nat.lt_or_ge i ps.length with hlt | hge
        · have hil : decide ((i : Int) < (ps.length : Int)) = true := by simp; omega
          have hc := (Kd.N_reads' HNN.out).2.2
          obtain ⟨ad, Ap, cp, ea, hx, hl, hi_⟩ := at_L1 hc (i : Int) (by omega) (by omega)
          cases ea
          rw [rdL1_eq hlt] at hx hl hi_
          simp only [Int.toNat_natCast] at hx
          obtain ⟨p, hp_⟩ : ∃ p_, p_ = ps[i] := ⟨_, rfl⟩
          rw [← hp_] at hx hl hi_
          have HPC := Aside0.mk hi_
          have HPc := Aside0.mk hl
          have hft : (ps.take (i + 1)).flatten = (ps.take i).flatten ++ p := by rw [flat_take hlt, hp_]
          have hf1 : (ps.take i).flatten ++ (ps.drop i).flatten = x := by rw [flat_part, hps]
          have hf2 : (ps.take (i + 1)).flatten ++ (ps.drop (i + 1)).flatten = x := by rw [flat_part, hps]
          have hb1 : Bytes (ps.take i).flatten := fun c_ hc_ => HXB.out c_ (by rw [← hf1]; exact List.mem_append_left _ hc_)
          have hb2 : Bytes (ps.take (i + 1)).flatten := fun c_ hc_ => HXB.out c_ (by rw [← hf2]; exact List.mem_append_left _ hc_)
          have hbp : Bytes p := fun c_ hc_ => hb2 c_ (by rw [hft]; exact List.mem_append_right _ hc_)
          have hbr : Bytes r := HF.out.bytes hb1
          obtain ⟨fs, r2, e2, hfd⟩ := Fed.exists _ (r ++ p) (Nat.le_refl _) (hbr.append hbp)
          have hF2 : Fed (ps.take (i + 1)).flatten (got ++ fs) r2 e2 := by rw [hft]; exact HF.out.then_ rfl hb1 hfd
          obtain rfl : e2 = 2 := fed_part hb2 hF2 (by rw [hf2]; exact HXF.out)
          have hlr := HF.out.len hb1
          have hlf := hfd.len (hbr.append hbp)
          have hlx : (ps.take i).flatten.length + (ps.drop i).flatten.length = x.length := by rw [← List.length_append, hf1]
          have hly : (ps.take (i + 1)).flatten.length + (ps.drop (i + 1)).flatten.length = x.length := by rw [← List.length_append, hf2]
          rw [hft] at hly
          rw [List.length_append] at hlf hly
          have hxs := HXS.out
          have HS6 : Aside0 (r.length + p.length ≤ 10000000000) := ⟨by omega⟩
          obtain ⟨nf, hnf⟩ : ∃ n_, fs.length = n_ := ⟨_, rfl⟩
          have HAL : Aside0 ((got.length + nf) * 24 ≤ 140737488355328) := ⟨by omega⟩
          have HWR0 : Aside0 (wrap64 ((i : Int) + 1) = ((i + 1 : Nat) : Int)) := ⟨(wrap64_id (by omega) (by omega)).trans (by omega)⟩
          have hip : (0 ≤ (i : Int)) = True := eq_true (by omega)
          have hiq : ((i : Int) < (ps.length : Int)) = True := eq_true (by omega)
          have HLT2 := Aside0.mk hlt
          have HF2 := Aside0.mk hF2
          have HFD := Aside0.mk hfd
          have HBR := Aside0.mk hbr
          have HBC := Aside0.mk hbp
          have HOL := Aside0.mk (Kd.R_lt HO.out)
          have HN1 := Aside0.mk (Kd.R_ne HO.out HG.out (by decide))
          have HVN : Aside0 (∀ k_, k_ < w1.heap.size → some k_ ≠ v.ownBlock) := ⟨fun k_ h_ e_ => Nat.lt_irrefl _ (Nat.lt_of_lt_of_le h_ (HVB.out k_ e_.symm))⟩
          have HON : Aside0 (∀ k_, k_ < w1.heap.size → some k_ ≠ u11.ownBlock) := ⟨fun k_ h_ e_ => Nat.lt_irrefl _ (Nat.lt_of_lt_of_le h_ (HOB.out k_ e_.symm))⟩
          have h20 : told 2 = 0 := rfl
          have hk2 : keep r2 2 = r2 := rfl
          clear hps hpn hl2 hc hi_ hl hp_ hft hf1 hf2 hb1 hb2 hbp hbr hfd hF2 hlr hlf hlx hly hxs hlt hi HF
          have HWR := HWR0.out
          go_wp2_with (first | (go_at_call 12; (with_reducible refine (put_fed g w.heap.size v r Ap cp p fs r2 2 _ ?s1 ?s2 ?s3 ?s4 ?s5 ?s6 ?s7 ?s8 ?s9 _ ?s10).mono ?_); (case s1 => exact (by repeat (first | exact HG.out | (with_reducible refine blk_drewN ?_ _) | (with_reducible refine blk_drew ?_) | (with_reducible refine blk_alloc ?_ _)))); (case s2 => exact (by (with_reducible repeat (first | apply Kd.R_alloc | apply Kd.R_drewN | apply Kd.R_drew)); exact HV.out)); (case s3 => exact HGE.out); (case s4 => (repeat (first | exact HPC.out | (with_reducible refine Kd.C_alloc ?_ _) | (with_reducible refine Kd.C_drewN ?_ _) | (with_reducible refine Kd.C_drew ?_)))); (case s5 => exact HPc.out); (case s6 => exact HS6.out); (case s7 => exact HBR.out); (case s8 => exact HBC.out); (case s9 => exact HFD.out); (case s10 => rfl); rintro en wz ⟨vk, v2, rfl, p1, p2, p3, p4, p5⟩; obtain ⟨Ak, ck, ek⟩ := Kd.S_slice p3; rw [hnf] at ek; subst ek; have hM := rows_of_RC (Kd.R_lower (Kd.R_bound (Kd.S_R p3)) (below_size (by repeat (first | (with_reducible first | exact HB.out | apply below_alloc | apply pw_below_drewN | apply below_drew1) | exact HB.out)))); have HM : Aside0 (ReadsRow ((Kd.slice 5 (Kd.int .u8)).M wz w.heap.size (fun k_ => some k_ ≠ v2.ownBlock ∧ wr.heap.size ≤ k_)) 1 wz Ak nf fs) := ⟨hM.imp_ (Below.refl _ _) (fun _ _ hm => (Kd.slice 5 (Kd.int .u8)).M_mono (fun k_ hk_ => ⟨hk_.1, hk_.2.1⟩) hm)⟩; have HO' := Aside0.mk (Kd.R_mono (ok' := fun k_ => some k_ ≠ v2.ownBlock) (Kd.R_step (Kd.R_bound (Kd.R_types (by (with_reducible repeat (first | apply Kd.R_alloc | apply Kd.R_drewN | apply Kd.R_drew)); exact HO.out) (by repeat (first | exact HG.out | (with_reducible refine blk_drewN ?_ _) | (with_reducible refine blk_drew ?_) | (with_reducible refine blk_alloc ?_ _))) (by decide))) (fun k_ ho_ hlt_ => p5 k_ hlt_ ho_.1.2 ho_.1.1)) (fun k_ hk_ e_ => Nat.lt_irrefl _ (Nat.lt_of_lt_of_le hk_.2.2.1 (Kd.R_base p2 k_ e_.symm)))); have HNN' := Aside0.mk (Kd.N_step (by (with_reducible repeat (first | apply Kd.N_alloc | apply Kd.N_drewN | apply Kd.N_drew)); exact HNN.out) (fun k_ (ho_ : k_ ≠ g ∧ k_ < w1.heap.size) hlt_ => p5 k_ hlt_ ho_.1 (HVN.out k_ ho_.2))); have HVB' : Aside0 (∀ k_, v2.ownBlock = some k_ → w1.heap.size ≤ k_) := ⟨fun k_ he_ => Nat.le_trans HWS.out (Kd.R_base p2 k_ he_)⟩; have HV' := Aside0.mk (Kd.R_lower p2 (below_size (by repeat (first | (with_reducible first | exact HB.out | apply below_alloc | apply pw_below_drewN | apply below_drew1) | exact HB.out)))); have HB' := Aside0.mk (Below.trans (by repeat (first | (with_reducible first | exact HB.out | apply below_alloc | apply pw_below_drewN | apply below_drew1) | exact HB.out)) p4); have HWZ : Aside0 (w1.heap.size ≤ wz.heap.size) := ⟨Nat.le_trans HWS.out p4.size⟩; clear HO HV HB HG HNN hM p2 p3 p4 p5; have HO := HO'; have HNN := HNN'; have HV := HV'; have HB := HB'; have HG := Aside0.mk p1; clear HO' HV' HB' HNN' p1; rw [h20] at HG; rw [hk2] at HV; have HVT := Aside0.mk (Kd.R_apart' HV.out (Kd.R_typed HO.out) (by decide))) | ((with_reducible refine gate_builtin (b := .append) (xs := #[.tmp 69, .tmp 70]) rfl ?_); at_builtin; refine Kd.R_append_rows (Kd.slice 5 (Kd.int .u8)) (w0 := w) w.heap.size rfl (.tmp 69) (.tmp 70) 22 28 (.slice none 0 0) 24 rfl Try.underlying22 info28 rfl (by decide) (by omega) u11 got fs _ _ _ (fun k_ => some k_ ≠ v2.ownBlock) (fun k_ => some k_ ≠ v2.ownBlock ∧ wr.heap.size ≤ k_) rfl rfl ?aO ?aR (fun _ _ h => h) ?aK ?aF ?aB ?aS ?aL ?_; (case aR => exact HM.out); (case aK => exact fun k_ hk_ => ⟨hk_.1, fun e_ => Nat.lt_irrefl _ (Nat.lt_of_lt_of_le (HOL.out k_ e_.symm) hk_.2)⟩); (case aF => exact fun k_ hk_ e_ => Nat.lt_irrefl _ (Nat.lt_of_lt_of_le (Kd.R_lt HV.out k_ e_.symm) hk_)); (case aO => exact (by (with_reducible repeat (first | apply Kd.R_alloc | apply Kd.R_drewN | apply Kd.R_drew)); exact HO.out)); (case aB => exact (by repeat (first | (with_reducible first | exact HB.out | apply below_alloc | apply pw_below_drewN | apply below_drew1) | exact HB.out))); (case aS => exact below_size (by repeat (first | (with_reducible first | exact HB.out | apply below_alloc | apply pw_below_drewN | apply below_drew1) | exact HB.out))); (case aL => exact HAL.out); intro vg wg ho hb hgr hat; have HG' := Aside0.mk (blk_grown (w := _) (by exact HG.out) hgr HN1.out); have HNN' := Aside0.mk (Kd.N_grown (by (with_reducible repeat (first | apply Kd.N_alloc | apply Kd.N_drewN | apply Kd.N_drew)); exact HNN.out) hgr (fun k_ (hk_ : k_ ≠ g ∧ k_ < w1.heap.size) => HON.out k_ hk_.2)); have HOB' : Aside0 (∀ k_, vg.ownBlock = some k_ → w1.heap.size ≤ k_) := ⟨fun k_ he_ => hat.elim (fun h_ => HOB.out k_ (h_ ▸ he_)) (fun h_ => by obtain ⟨b_, h1_, h2_⟩ := h_; rw [he_] at h1_; cases h1_; exact Nat.le_trans HWZ.out h2_)⟩; have HV' := Aside0.mk (Kd.R_mono (ok' := fun _ => True) (Kd.R_step HVT.out (fun k_ hk_ hlt_ => hgr.block k_ hlt_ hk_.2)) (fun _ _ => trivial)); have HWG : Aside0 (w1.heap.size ≤ wg.heap.size) := ⟨Nat.le_trans HWZ.out hgr.size⟩; clear HG HV HO HB HM HVT HNN hgr hat; have HG := HG'; have HV := HV'; have HNN := HNN'; have HO := Aside0.mk ho; have HB := Aside0.mk hb; clear HG' HV' HNN' ho hb))
          go_roundw
          case rel => exact ⟨i + 1, got ++ fs, v2, r2, HLT2.out, by first | rfl | (congr 1), HF2, HB, HWG, HG, HV, HVB', HO, HOB', HNN⟩
          case measure => rw [HWR]; exact Nat.sub_lt_sub_left HLT2.out (Nat.lt_succ_self i)
        · have hil : decide ((i : Int) < (ps.length : Int)) = false := by simp; omega
          have hfx : Fed x got r 2 := by have := HF.out; rwa [List.take_of_length_le hge, hps] at this
          obtain ⟨hg1, hr1, _⟩ := HXF.out.det hfx
          replace hg1 := hg1.symm
          subst hg1
          replace hr1 := hr1.symm
          subst hr1
          obtain ⟨Ag, cg, eg⟩ := Kd.R_slice HO.out
          subst eg
          have hrl := Kd.R_reads' HO.out
          have HLC := Aside0.mk hrl.2.2
          have HLc := Aside0.mk hrl.2.1
          clear hps hpn hl2 hi hfx hrl HO HF
          go_wp2_with (first | (go_at_call 14; (with_reducible refine (touchstonelaw3_alike.calls (l0.length + 1) Ag cg l0 A0 c0 l0 true _ ?s1 HLc.out ?s2 HC0.out HAS.out).mono ?_); (case s1 => repeat (first | exact HLC.out | (with_reducible refine Kd.C_alloc ?_ _) | (with_reducible refine Kd.C_drewN ?_ _) | (with_reducible refine Kd.C_drew ?_))); (case s2 => repeat (first | exact (Kd.C_below HR0.out HB.out) | (with_reducible refine Kd.C_alloc ?_ _) | (with_reducible refine Kd.C_drewN ?_ _) | (with_reducible refine Kd.C_drew ?_))); rintro en w' ⟨rfl, ⟨nd, rfl⟩⟩) | (go_at_call 16; (with_reducible refine (waits_calls g v 0 [] w.heap.size (fun _ => True) _ ?s1 ?s2).mono ?_); (case s1 => exact (by repeat (first | exact HG.out | (with_reducible refine blk_drewN ?_ _) | (with_reducible refine blk_drew ?_) | (with_reducible refine blk_alloc ?_ _)))); (case s2 => exact (by (with_reducible repeat (first | apply Kd.R_alloc | apply Kd.R_drewN | apply Kd.R_drew)); exact HV.out)); rintro en w' ⟨rfl, ⟨nd, rfl⟩⟩))
          go_ret
          exact ⟨rfl, (by repeat (first | (with_reducible first | exact HB.out | apply below_alloc | apply pw_below_drewN | apply below_drew1) | exact HB.out))⟩
theorem touchstonelaw3_FrameCuts.walk (_P : True) (A0 : Option Addr) (c0 : Nat) (l0 : List (List Int)) (A1 : Option Addr) (c1 : Nat) (l1 : List Int) (w : World) (hC0 : Kd.C (Kd.slice 5 (Kd.int .u8)) w A0 l0.length l0) (hc0 : l0.length ≤ c0)
    (hW0 : (l0.length * 24 ≤ 140737488351232 ∧ l0.length ≤ maxLen ∧ ∀ x_l0 ∈ l0, (x_l0.length * 1 ≤ 140737488351232 ∧ x_l0.length ≤ maxLen ∧ ∀ x_x_l0 ∈ x_l0, (Lit.int .u8 x_x_l0).wf = true)))
    (hC1 : Kd.C (Kd.int .i64) w A1 l1.length l1) (hc1 : l1.length ≤ c1) (hW1 : l1.length * 8 ≤ 140737488351232 ∧ l1.length ≤ maxLen ∧ ∀ x ∈ l1, (Lit.int .i64 x).wf = true) :
    Calls Try.prog 5 #[.slice A0 l0.length c0, .slice A1 l1.length c1] w fun en w' => en = .returned (.bool true) ∧ Below w.heap.size w w' := by
  have hb : ∀ t ∈ l0, Bytes t := fun t ht => Bytes.of_wf (hW0.2.2 t ht).2.2
  rcases Nat.lt_or_ge 20 l0.length with h | h1
  · exact cuts_big_a A0 c0 l0 A1 c1 l1 w hC0 hc0 hC1 hc1 h
  obtain ⟨r0, hs0, hr0⟩ := sum_is l0 3000 (by omega) (by omega) (by omega)
  rcases Int.lt_or_le 3000 r0 with h | h2
  · exact cuts_big_b A0 c0 l0 A1 c1 l1 w hC0 hc0 hC1 hc1 h1 r0 _ hs0 h
  rcases Nat.lt_or_ge 200 l1.length with h | h3
  · exact cuts_big_c A0 c0 l0 A1 c1 l1 w hC0 hc0 hC1 hc1 h1 r0 _ hs0 h2 h
  have hs := hr0 h2
  exact cuts_walk A0 c0 l0 A1 c1 l1 w hC0 hc0 hC1 hc1 hb h1 r0 _ hs0 h2 (by omega) h3
end Go.Proofs.Ytmhkmlbmolikiaa.QF
