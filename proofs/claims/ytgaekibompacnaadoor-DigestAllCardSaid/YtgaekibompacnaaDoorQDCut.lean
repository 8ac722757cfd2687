/- Cut: bytes in pieces; each piece is only read where the bytes lie. -/
import Derived.Test.YtgaekibompacnaaDoorOctetMath
import Derived.Test.YtgaekibompacnaaDoorXWords
import Derived.Test.YtgaekibompacnaaDoorQDx1
import Derived.WalkKit
import Derived.LoopTactic
import Derived.Lib.Hide
import Derived.KernelRfl
import Derived.RowKit3
import Derived.Outline
import Derived.WalkSpells
import Derived.IntWalk
import Derived.BigQuiet
import Derived.Deep.QuietTactic
set_option linter.unusedVariables false
set_option linter.unusedSimpArgs false
namespace Go.Proofs.YtgaekibompacnaaDoor.QD
open Go.RowKit Go.Proofs.YtgaekibompacnaaDoorW.PrintWords Go.Proofs.YtgaekibompacnaaDoorW.PrintLast Go.Proofs.YtgaekibompacnaaDoorW.PrintMore Go.Proofs.YtgaekibompacnaaDoor.OctetMath

theorem place_is (k n : Int) (h1 : 1 ≤ n) (h2 : n ≤ 1000000000000) : ∃ r, touchstonelaw0_Place.f k n = some r ∧ 0 ≤ r ∧ r < n := by
  have hlt := Int.tmod_lt_of_pos k (show 0 < n by omega)
  have hgt : -n < Int.tmod k n := Int.lt_tmod_of_pos k (by omega)
  unfold touchstonelaw0_Place.f
  rw [if_neg (by omega), if_neg (by omega)]
  by_cases h : Int.tmod k n < 0
  · rw [if_pos h, wrap64_id (by omega) (by omega)]
    exact ⟨_, rfl, by omega, by omega⟩
  · rw [if_neg h]
    exact ⟨_, rfl, by omega, by omega⟩
theorem fk_slice {W : World} {ok : Nat → Prop} {A : Option Addr} {c : Nat} {xs : List Int} (h : Kd.F (Kd.int .u8) W ok A xs.length xs) (hc : xs.length ≤ c) : Kd.FK (Kd.slice 5 (Kd.int .u8)) W ok xs [.slice A xs.length c] := Foot.imp h (fun W' h_ => ⟨_, _, rfl, hc, h_⟩)
def CutPost (okb : Nat → Prop) (x : List Int) (n : Nat) (w : World) (en : Ending) (w' : World) : Prop :=
  ∃ (v : Value) (ps : List (List Int)), en = .returned v ∧ ps.flatten = x ∧ ps.length ≤ n + 1 ∧ Kd.N (Kd.slice 5 (Kd.int .u8)) 22 w' w.heap.size (fun k_ => okb k_ ∨ w.heap.size ≤ k_) v ps ∧ Below w.heap.size w w'
set_option maxHeartbeats 8000000 in
set_option maxRecDepth 100000 in
theorem cut_calls (okb : Nat → Prop) (A : Option Addr) (c : Nat) (x : List Int) (A1 : Option Addr) (c1 : Nat) (l1 : List Int) (w : World) (hf : Kd.F (Kd.int .u8) w okb A x.length x) (hc : x.length ≤ c) (hx : x.length ≤ 1000000) (hok : ∀ k_, okb k_ → k_ < w.heap.size)
    (hr1 : Kd.C (Kd.int .i64) w A1 l1.length l1) (hc1 : l1.length ≤ c1) (hl1 : l1.length ≤ 1000000) :
    Calls Tryd.prog 12 #[.slice A x.length c, .slice A1 l1.length c1] w (CutPost okb x l1.length w) := by
  have HB := Aside0.mk (Below.refl w.heap.size w)
  have HF := Aside0.mk hf
  have HC := Aside0.mk hc
  have HX := Aside0.mk hx
  have HOK := Aside0.mk hok
  have HR1 := Aside0.mk hr1
  have HL1 := Aside0.mk hl1
  obtain ⟨i06, hi06, _, hsz6, _⟩ := info_parts info5
  clear hf hc hx hok hr1 hc1 hl1
  go_enter Tryd.func12, Tryd.ntmps12
  go_wp2
  go_loopw [0, 5, 6] (fun v0 v5 v6 wr => ∃ (i : Nat) (Ab : Option Addr) (cb : Nat) (y : List Int) (ps : List (List Int)), i ≤ l1.length ∧ v6 = .int .i64 (i : Int) ∧ v0 = .slice Ab y.length cb ∧ Aside0 (Kd.F (Kd.int .u8) wr okb Ab y.length y) ∧ Aside0 (y.length ≤ cb) ∧ Aside0 (ps.flatten ++ y = x) ∧ Aside0 (ps.length = i) ∧ Aside0 (Kd.N (Kd.slice 5 (Kd.int .u8)) 22 wr w.heap.size (fun k_ => okb k_ ∨ w.heap.size ≤ k_) v5 ps) ∧ Aside0 (Below w.heap.size w wr)) (fun _ _ v6 _ => l1.length - (intOf v6).toNat)
  case atStart => exact ⟨0, A, c, x, [], by omega, rfl, rfl, HF, HC, ⟨rfl⟩, ⟨rfl⟩, ⟨Kd.N_nil _ _ _ _ _⟩, HB⟩
  case round =>
    clear HB HF HC
    obtain ⟨i, Ab, cb, y, ps, hi, rfl, rfl, HF, HC, HP, HI, HO, HB⟩ := hrel
    have hxl := HX.out
    have hl1 := HL1.out
    have hyl : ps.flatten.length + y.length = x.length := by rw [← HP.out, List.length_append]
    have HYL : Aside0 (y.length ≤ 1000000) := ⟨by omega⟩
    rcases Nat.lt_or_ge i l1.length with hlt | hge
    · have hil : decide ((i : Int) < (l1.length : Int)) = true := by simp; omega
      rcases Nat.lt_or_ge 0 y.length with hy | hy
      · have hyp : decide (0 < (y.length : Int)) = true := by simp; omega
        have hyp2 : decide (0 < y.length) = true := by simp; omega
        have hcc := Kd.C_below HR1.out HB.out
        obtain ⟨ad, ea, hx_⟩ := Kd.at_int hcc (i : Int) (by omega) (by omega)
        cases ea
        obtain ⟨s, hs⟩ : ∃ s_, s_ = rd l1 i := ⟨_, rfl⟩
        rw [← hs] at hx_
        simp only [Int.toNat_natCast] at hx_
        obtain ⟨p, hpl, hp0, hp1⟩ := place_is s (y.length : Int) (by omega) (by omega)
        have HPL := Aside0.mk hpl
        obtain ⟨m, hm⟩ : ∃ m_ : Int, m_ = p + 1 := ⟨_, rfl⟩
        have HWM0 : Aside0 (IntKind.i64.wrap (p + 1) = m) := ⟨(IntWalk.i64_in _ (by omega)).trans hm.symm⟩
        have HWR0 : Aside0 (wrap64 ((i : Int) + 1) = ((i + 1 : Nat) : Int)) := ⟨(wrap64_id (by omega) (by omega)).trans (by omega)⟩
        have hip : (0 ≤ (i : Int)) = True := eq_true (by omega)
        have hiq : ((i : Int) < (l1.length : Int)) = True := eq_true (by omega)
        obtain ⟨hcutA, hAA, hCA⟩ := print_take_of (P := Tryd.prog) (Value.int .u8) 0 22 5 .i64 Tryd.underlying22 hi06 hsz6 Ab cb y m (by omega) (by omega) HC.out
        obtain ⟨Ad, hcutB, hAB, hCB⟩ := print_drop_of (P := Tryd.prog) (Value.int .u8) 0 22 5 .i64 Tryd.underlying22 hi06 hsz6 Ab cb y m (by omega) (by omega) HC.out
        obtain ⟨q, hq⟩ : ∃ q_, q_ = y.take m.toNat := ⟨_, rfl⟩
        obtain ⟨z, hz⟩ : ∃ z_, z_ = y.drop m.toNat := ⟨_, rfl⟩
        rw [← hq] at hcutA hAA hCA
        rw [← hz] at hcutB hAB hCB
        have HFA : Aside0 (Kd.F (Kd.int .u8) wr okb Ab q.length q) := ⟨Kd.F_imp HF.out (fun W' h => Kd.C_of_reads (h1 := fun _ => rfl) (hAA _ (Kd.reads_of_C h)))⟩
        have HFB : Aside0 (Kd.F (Kd.int .u8) wr okb Ad z.length z) := ⟨Kd.F_imp HF.out (fun W' h => Kd.C_of_reads (h1 := fun _ => rfl) (hAB _ (Kd.reads_of_C h)))⟩
        have HCA := Aside0.mk hCA
        have HCB := Aside0.mk hCB
        have HP2 : Aside0 ((ps ++ [q]).flatten ++ z = x) := ⟨by rw [List.flatten_append, List.flatten_singleton, hq, hz, List.append_assoc, List.take_append_drop, HP.out]⟩
        have HI2 : Aside0 ((ps ++ [q]).length = i + 1) := ⟨by rw [List.length_append, HI.out]; rfl⟩
        have HAL : Aside0 ((ps.length + 1) * 24 ≤ 140737488355328) := ⟨by rw [HI.out]; omega⟩
        have HLT2 := Aside0.mk hlt
        have HOL := Aside0.mk (Kd.N_base HO.out)
        have hwr := Kd.F_bound HFA.out
        have HLO : Aside0 (∀ k_, (okb k_) → some k_ ≠ u5.ownBlock) := ⟨fun k_ hk_ he_ => Nat.lt_irrefl _ (Nat.lt_of_lt_of_le (HOK.out k_ hk_) (HOL.out k_ he_.symm))⟩
        clear hwr hcc hs hpl hp0 hp1 hm hAA hCA hAB hCB hq hz hyl hxl hl1 hy hlt hi
        have HWM := HWM0.out
        have HWR := HWR0.out
        go_wp2_with (first | (go_at_call 13; (with_reducible refine (touchstonelaw0_Place.calls s (y.length : Int) p _ HPL.out).mono ?_); rintro en w' ⟨rfl, ⟨nd, rfl⟩⟩) | ((with_reducible refine gate_builtin (b := .append) (xs := #[.tmp 27, .tmp 31]) rfl ?_); at_builtin; refine Kd.N_append (Kd.slice 5 (Kd.int .u8)) (w0 := w) w.heap.size rfl (.tmp 27) (.tmp 31) 27 22 (.slice none 0 0) 24 rfl Tryd.underlying27 info22 rfl (by decide) (by omega) u5 ps q [.slice Ab q.length cb] (fun k_ => okb k_ ∨ w.heap.size ≤ k_) okb rfl rfl ?aP ?aK ?aF ?aO ?aB ?aS ?aL ?_; (case aP => exact fk_slice (by (with_reducible repeat (first | apply Kd.F_alloc | apply Kd.F_drewN | apply Kd.F_drew)); exact HFA.out) HCA.out); (case aK => exact fun k_ hk_ => ⟨.inl hk_, HLO.out k_ hk_⟩); (case aF => exact fun k_ hk_ => .inr (Nat.le_trans (below_size (by repeat (first | (with_reducible first | exact HB.out | apply below_alloc | apply pw_below_drewN | apply below_drew1) | exact HB.out))) hk_)); (case aO => exact (by (with_reducible repeat (first | apply Kd.N_alloc | apply Kd.N_drewN | apply Kd.N_drew)); exact HO.out)); (case aB => exact (by repeat (first | (with_reducible first | exact HB.out | apply below_alloc | apply pw_below_drewN | apply below_drew1) | exact HB.out))); (case aS => exact below_size (by repeat (first | (with_reducible first | exact HB.out | apply below_alloc | apply pw_below_drewN | apply below_drew1) | exact HB.out))); (case aL => exact HAL.out); intro vg wg ho hb hgr hat; have HO' := Aside0.mk ho; have HB' := Aside0.mk hb; have HFB' := Aside0.mk (Kd.F_grown (by (with_reducible repeat (first | apply Kd.F_alloc | apply Kd.F_drewN | apply Kd.F_drew)); exact HFB.out) hgr HLO.out); clear HO HB ho hb hgr hat HFB; have HO := HO'; have HB := HB'; have HFB := HFB'))
        go_roundw
        case rel => exact ⟨i + 1, Ad, (cb - m.toNat), z, ps ++ [q], HLT2.out, by first | rfl | (congr 1), rfl, ⟨by (with_reducible repeat (first | apply Kd.F_alloc | apply Kd.F_drewN | apply Kd.F_drew)); exact HFB.out⟩, HCB, HP2, HI2, ⟨by (with_reducible repeat (first | apply Kd.N_alloc | apply Kd.N_drewN | apply Kd.N_drew)); exact HO.out⟩, ⟨by repeat (first | (with_reducible first | exact HB.out | apply below_alloc | apply pw_below_drewN | apply below_drew1) | exact HB.out)⟩⟩
        case measure => rw [HWR]; exact Nat.sub_lt_sub_left HLT2.out (Nat.lt_succ_self i)
      · have hy0 : y = [] := List.eq_nil_of_length_eq_zero (by omega)
        subst hy0
        have HPS : Aside0 (ps.flatten = x) := ⟨by have := HP.out; rwa [List.append_nil] at this⟩
        have HPN : Aside0 (ps.length ≤ l1.length + 1) := ⟨by rw [HI.out]; omega⟩
        clear hyl hxl hl1 hy
        go_wp2
        go_ret
        exact ⟨_, ps, rfl, HPS.out, HPN.out, HO.out, HB.out⟩
    · have hil : decide ((i : Int) < (l1.length : Int)) = false := by simp; omega
      rcases Nat.lt_or_ge 0 y.length with hy | hy
      · have hyp : decide (0 < (y.length : Int)) = true := by simp; omega
        have hyp2 : decide (0 < y.length) = true := by simp; omega
        have HPS : Aside0 ((ps ++ [y]).flatten = x) := ⟨by rw [List.flatten_append, List.flatten_singleton, HP.out]⟩
        have HPN : Aside0 ((ps ++ [y]).length ≤ l1.length + 1) := ⟨by rw [List.length_append, HI.out]; simp only [List.length_singleton]; omega⟩
        have HAL : Aside0 ((ps.length + 1) * 24 ≤ 140737488355328) := ⟨by rw [HI.out]; omega⟩
        have HOL := Aside0.mk (Kd.N_base HO.out)
        have HLO : Aside0 (∀ k_, (okb k_) → some k_ ≠ u5.ownBlock) := ⟨fun k_ hk_ he_ => Nat.lt_irrefl _ (Nat.lt_of_lt_of_le (HOK.out k_ hk_) (HOL.out k_ he_.symm))⟩
        clear hyl hxl hl1 hy
        go_wp2_with (first | ((with_reducible refine gate_builtin (b := .append) (xs := #[.tmp 39, .tmp 41]) rfl ?_); at_builtin; refine Kd.N_append (Kd.slice 5 (Kd.int .u8)) (w0 := w) w.heap.size rfl (.tmp 39) (.tmp 41) 27 22 (.slice none 0 0) 24 rfl Tryd.underlying27 info22 rfl (by decide) (by omega) u5 ps y [.slice Ab y.length cb] (fun k_ => okb k_ ∨ w.heap.size ≤ k_) okb rfl rfl ?aP ?aK ?aF ?aO ?aB ?aS ?aL ?_; (case aP => exact fk_slice (by (with_reducible repeat (first | apply Kd.F_alloc | apply Kd.F_drewN | apply Kd.F_drew)); exact HF.out) HC.out); (case aK => exact fun k_ hk_ => ⟨.inl hk_, HLO.out k_ hk_⟩); (case aF => exact fun k_ hk_ => .inr (Nat.le_trans (below_size (by repeat (first | (with_reducible first | exact HB.out | apply below_alloc | apply pw_below_drewN | apply below_drew1) | exact HB.out))) hk_)); (case aO => exact (by (with_reducible repeat (first | apply Kd.N_alloc | apply Kd.N_drewN | apply Kd.N_drew)); exact HO.out)); (case aB => exact (by repeat (first | (with_reducible first | exact HB.out | apply below_alloc | apply pw_below_drewN | apply below_drew1) | exact HB.out))); (case aS => exact below_size (by repeat (first | (with_reducible first | exact HB.out | apply below_alloc | apply pw_below_drewN | apply below_drew1) | exact HB.out))); (case aL => exact HAL.out); intro vg wg ho hb hgr hat; have HO' := Aside0.mk ho; have HB' := Aside0.mk hb; clear HO HB ho hb hgr hat; have HO := HO'; have HB := HB'))
        go_ret
        exact ⟨_, ps ++ [y], rfl, HPS.out, HPN.out, HO.out, (by repeat (first | (with_reducible first | exact HB.out | apply below_alloc | apply pw_below_drewN | apply below_drew1) | exact HB.out))⟩
      · have hy0 : y = [] := List.eq_nil_of_length_eq_zero (by omega)
        subst hy0
        have HPS : Aside0 (ps.flatten = x) := ⟨by have := HP.out; rwa [List.append_nil] at this⟩
        have HPN : Aside0 (ps.length ≤ l1.length + 1) := ⟨by rw [HI.out]; omega⟩
        clear hyl hxl hl1 hy
        go_wp2
        go_ret
        exact ⟨_, ps, rfl, HPS.out, HPN.out, HO.out, HB.out⟩
end Go.Proofs.YtgaekibompacnaaDoor.QD
