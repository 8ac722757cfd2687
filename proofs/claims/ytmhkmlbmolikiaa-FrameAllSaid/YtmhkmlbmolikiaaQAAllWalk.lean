/- FrameAll: which frames come of any pieces, and when it is spoilt. -/
import Derived.Test.YtmhkmlbmolikiaaQAHeld
import Derived.Test.YtmhkmlbmolikiaaQFBegun
import Derived.Test.YtmhkmlbmolikiaaQFSum
import Derived.Outline
import Derived.WalkSpells
import Derived.IntWalk
import Derived.BigQuiet
import Derived.Deep.QuietTactic
set_option linter.unusedVariables false
set_option linter.unusedSimpArgs false
namespace Go.Proofs.Ytmhkmlbmolikiaa.QA
open Go.RowKit Go.Proofs.YtmhkmlbmolikiaaW.PrintWords Go.Proofs.YtmhkmlbmolikiaaW.PrintLast Go.Proofs.YtmhkmlbmolikiaaW.PrintMore Go.Proofs.Ytmhkmlbmolikiaa.FrameReader Go.Proofs.Ytmhkmlbmolikiaa.FrameMath Go.Proofs.Ytmhkmlbmolikiaa.OctetMath Go.Proofs.Ytmhkmlbmolikiaa.XTwin

theorem alikeA (k : Nat) (l : List (List Int)) : ∀ (n i : Nat), n + i = l.length → n < k → (l.length : Int) < 1000000000000 → QF.touchstonelaw3_alike.l0 k l l i = some true := by
  induction k with
  | zero => intro n i h hk; omega
  | succ k ih =>
    intro n i h hk hl
    rw [QF.touchstonelaw3_alike.l0]
    by_cases hi : (i : Int) < (l.length : Int)
    · rw [if_pos hi, if_pos (by omega), if_pos hi, if_pos rfl, wrap64_id (by omega) (by omega), show (i : Int) + 1 = ((i + 1 : Nat) : Int) by omega]
      exact ih (n - 1) (i + 1) (by omega) (by omega) hl
    · rw [if_neg hi]
theorem alike_selfA {l : List (List Int)} (hl : l.length < 1000000000000) : QF.touchstonelaw3_alike.f (l.length + 1) l l = some true := by
  unfold QF.touchstonelaw3_alike.f
  rw [if_pos rfl]
  exact alikeA _ l l.length 0 (by omega) (by omega) (by omega)
theorem piece_at {w W : World} {ad : Addr} {l0 : List (List Int)} (hr : Kd.C (Kd.slice 5 (Kd.int .u8)) w (some ad) l0.length l0) (hb : Below w.heap.size w W) (i : Nat) (hi : i < l0.length) :
    ∃ A c, W.cell? (ad.add i) = some (.slice A l0[i].length c) ∧ l0[i].length ≤ c ∧ Kd.C (Kd.int .u8) W A l0[i].length l0[i] := by
  have hc := Kd.C_below hr hb
  obtain ⟨ad2, At, ct, ea, hx, hl, hi_⟩ := QF.at_L1 hc (i : Int) (by omega) (by omega)
  cases ea
  rw [QF.rdL1_eq hi] at hx hl hi_
  rw [Int.toNat_natCast] at hx
  exact ⟨At, ct, hx, hl, hi_⟩
theorem all_big_a (A0 : Option Addr) (c0 : Nat) (l0 : List (List Int)) (w : World) (hr0 : Kd.C (Kd.slice 5 (Kd.int .u8)) w A0 l0.length l0) (hc0 : l0.length ≤ c0) (h : 30 < l0.length) :
    Calls Try.prog 3 #[.slice A0 l0.length c0] w fun en w' => en = .returned (.bool true) ∧ Below w.heap.size w w' := by
  have HB := Aside0.mk (Below.refl w.heap.size w)
  have HR0 := Aside0.mk hr0
  have HC0 := Aside0.mk hc0
  have hq : decide (30 < (l0.length : Int)) = true := by simp; omega
  clear hr0 hc0 h
  go_enter Try.func3, Try.ntmps3
  go_wp2_with (first | (go_at_call 8; refine (QF.begun_calls _).mono ?_; rintro en wz ⟨rfl, hb⟩; have HB' := Aside0.mk (below_step (by repeat (first | (with_reducible first | exact HB.out | apply below_alloc | apply pw_below_drewN | apply below_drew1) | exact HB.out)) hb); clear hb HB; have HB := HB'; clear HB'))
  go_ret
  exact ⟨rfl, (by repeat (first | (with_reducible first | exact HB.out | apply below_alloc | apply pw_below_drewN | apply below_drew1) | exact HB.out))⟩
theorem all_big_b (A0 : Option Addr) (c0 : Nat) (l0 : List (List Int)) (w : World) (hr0 : Kd.C (Kd.slice 5 (Kd.int .u8)) w A0 l0.length l0) (hc0 : l0.length ≤ c0) (h1 : l0.length ≤ 30) (r0 : Int) (k0 : Nat) (hs0 : QF.touchstonelaw0_Sum.f k0 l0 3000 = some r0) (h : 3000 < r0) :
    Calls Try.prog 3 #[.slice A0 l0.length c0] w fun en w' => en = .returned (.bool true) ∧ Below w.heap.size w w' := by
  have HB := Aside0.mk (Below.refl w.heap.size w)
  have HR0 := Aside0.mk hr0
  have HC0 := Aside0.mk hc0
  have HS0 := Aside0.mk hs0
  clear hs0
  have hp : decide (30 < (l0.length : Int)) = false := by simp; omega
  have hq : decide (3000 < r0) = true := by simp; omega
  clear hr0 hc0 h h1
  go_enter Try.func3, Try.ntmps3
  go_wp2_with (first | (go_at_call 8; refine (QF.begun_calls _).mono ?_; rintro en wz ⟨rfl, hb⟩; have HB' := Aside0.mk (below_step (by repeat (first | (with_reducible first | exact HB.out | apply below_alloc | apply pw_below_drewN | apply below_drew1) | exact HB.out)) hb); clear hb HB; have HB := HB'; clear HB') | (go_at_call 9; (with_reducible refine (QF.touchstonelaw0_Sum.calls k0 A0 c0 l0 3000 r0 _ ?s1 HC0.out HS0.out).mono ?_); (case s1 => repeat (first | exact (Kd.C_below HR0.out HB.out) | (with_reducible refine Kd.C_alloc ?_ _) | (with_reducible refine Kd.C_drewN ?_ _) | (with_reducible refine Kd.C_drew ?_))); rintro en w' ⟨rfl, ⟨nd, rfl⟩⟩))
  go_ret
  exact ⟨rfl, (by repeat (first | (with_reducible first | exact HB.out | apply below_alloc | apply pw_below_drewN | apply below_drew1) | exact HB.out))⟩
set_option maxHeartbeats 8000000 in
set_option maxRecDepth 100000 in
theorem all_walk (A0 : Option Addr) (c0 : Nat) (l0 : List (List Int)) (w : World) (hr0 : Kd.C (Kd.slice 5 (Kd.int .u8)) w A0 l0.length l0) (hc0 : l0.length ≤ c0)
    (hby : ∀ t ∈ l0, Bytes t) (h1 : l0.length ≤ 30) (r0 : Int) (k0 : Nat) (hs0 : QF.touchstonelaw0_Sum.f k0 l0 3000 = some r0) (h2 : r0 ≤ 3000) (hs : sumL l0 ≤ 3000) :
    Calls Try.prog 3 #[.slice A0 l0.length c0] w fun en w' => en = .returned (.bool true) ∧ Below w.heap.size w w' := by
  have HB := Aside0.mk (Below.refl w.heap.size w)
  have HR0 := Aside0.mk hr0
  have HC0 := Aside0.mk hc0
  have HS0 := Aside0.mk hs0
  have hp : decide (30 < (l0.length : Int)) = false := by simp; omega
  have ho : decide (3000 < r0) = false := by simp; omega
  have HMX : Aside0 (∀ t ∈ l0, Bytes t ∧ t.length ≤ 3000) := ⟨fun t ht => ⟨hby t ht, by have := QF.sumL_mem ht; omega⟩⟩
  have HLT : Aside0 (l0.length ≤ 30 ∧ sumL l0 ≤ 3000) := ⟨h1, hs⟩
  have HAS0 := Aside0.mk (alike_selfA (l := []) (by decide))
  clear hr0 hc0 hs0 h1 h2 hs hby
  go_enter Try.func3, Try.ntmps3
  go_wp2_with (first | (go_at_call 8; refine (QF.begun_calls _).mono ?_; rintro en wz ⟨rfl, hb⟩; have HB' := Aside0.mk (below_step (by repeat (first | (with_reducible first | exact HB.out | apply below_alloc | apply pw_below_drewN | apply below_drew1) | exact HB.out)) hb); clear hb HB; have HB := HB'; clear HB') | (go_at_call 9; (with_reducible refine (QF.touchstonelaw0_Sum.calls k0 A0 c0 l0 3000 r0 _ ?s1 HC0.out HS0.out).mono ?_); (case s1 => repeat (first | exact (Kd.C_below HR0.out HB.out) | (with_reducible refine Kd.C_alloc ?_ _) | (with_reducible refine Kd.C_drewN ?_ _) | (with_reducible refine Kd.C_drew ?_))); rintro en w' ⟨rfl, ⟨nd, rfl⟩⟩) | (go_at_call 10; (with_reducible refine (new_calls _).mono ?_); rintro en wn ⟨g, rfl, hg, hge, hb⟩; have HGE := Aside0.mk (Nat.le_trans (below_size (by repeat (first | (with_reducible first | exact HB.out | apply below_alloc | apply pw_below_drewN | apply below_drew1) | exact HB.out))) hge); have HG := Aside0.mk hg; clear hg hge; have HB' := Aside0.mk (below_step (by repeat (first | (with_reducible first | exact HB.out | apply below_alloc | apply pw_below_drewN | apply below_drew1) | exact HB.out)) hb); clear hb HB; have HB := HB'; clear HB'))
  have HE0 : Aside0 (Held g wn.heap.size (.slice none 0 0) (.slice none 0 0) [] [] 0 0 w.heap.size (wn.alloc (refOf (.slice none 0 0) 0 0))) := ⟨blk_alloc HG.out _, Kd.R_nil _ _ _ _ _, blk_new _ _, Kd.R_nil _ _ _ _ _⟩
  have HXE : Aside0 (w.heap.size ≤ wn.heap.size) := ⟨below_size HB.out⟩
  have HNE : Aside0 (g ≠ wn.heap.size) := ⟨Nat.ne_of_lt (blk_lt HG.out)⟩
  have HB0 : Aside0 (Below w.heap.size w (wn.alloc (refOf (.slice none 0 0) 0 0))) := ⟨below_alloc HB.out _⟩
  clear HB HG
  have HB := HB0
  clear HB0
  go_loopw [5] (fun v5 wr => ∃ (i : Nat) (p : List Int) (fs : List (List Int)) (r : List Int) (e : Int) (v va : Value), i ≤ l0.length ∧ v5 = .int .i64 (i : Int) ∧ Aside0 (Fed p fs r e) ∧ Aside0 (Bytes p) ∧ Aside0 (p.length ≤ sumL (l0.take i)) ∧ Aside0 (Below w.heap.size w wr) ∧ Aside0 (Held g wn.heap.size v va (QF.keep r e) p (QF.told e) (fs.length : Int) w.heap.size wr)) (fun v5 _ => l0.length - (intOf v5).toNat)
  case atStart => exact ⟨0, [], [], [], 2, .slice none 0 0, .slice none 0 0, by omega, rfl, ⟨fed_nil⟩, ⟨Bytes.nil⟩, ⟨by simp⟩, HB, HE0⟩
  case round =>
    clear HB HE0
    obtain ⟨i, p, fs, r, e, v, va, hi, rfl, HF, HPY, HPS, HB, HE⟩ := hrel
    have hef := HF.out.end_.2
    rcases Nat.lt_or_ge i l0.length with hlt | hge
    · have hil : decide ((i : Int) < (l0.length : Int)) = true := by simp; omega
      have hilt := HLT.out
      have HWR0 : Aside0 (wrap64 ((i : Int) + 1) = ((i + 1 : Nat) : Int)) := ⟨(wrap64_id (by omega) (by omega)).trans (by omega)⟩
      have hc := Kd.C_below HR0.out HB.out
      obtain ⟨ad, At, ct, ea, hx, hl, hi_⟩ := QF.at_L1 hc (i : Int) (by omega) (by omega)
      cases ea
      rw [QF.rdL1_eq hlt] at hx hl hi_
      simp only [Int.toNat_natCast] at hx
      obtain ⟨s, hs⟩ : ∃ s_, s_ = l0[i] := ⟨_, rfl⟩
      have HLT2 := Aside0.mk hlt
      have HSQ : Aside0 (∀ h_ : i < l0.length, l0[i] = s) := ⟨fun _ => hs.symm⟩
      rw [← hs] at hx hl hi_
      have HTC := Aside0.mk hi_
      have HTc := Aside0.mk hl
      have hm := HMX.out s (by rw [hs]; exact List.getElem_mem hlt)
      have HSL : Aside0 (s.length ≤ 140737488351232) := ⟨by omega⟩
      have HBS := Aside0.mk hm.1
      have hst : sumL (l0.take (i + 1)) = sumL (l0.take i) + s.length := by rw [List.take_succ_eq_append_getElem hlt, sumL_append, hs]; simp [sumL]
      have hsl : sumL (l0.take i) ≤ 3000 := by
        have h5 := sumL_append (l0.take i) (l0.drop i)
        rw [List.take_append_drop] at h5
        omega
      have hpl := HPS.out
      have hip : (0 ≤ (i : Int)) = True := eq_true (by omega)
      have hiq : ((i : Int) < (l0.length : Int)) = True := eq_true (by omega)
      by_cases he2 : e = 2
      · subst he2
        have h0 : QF.told 2 = 0 := rfl
        have hk0 : QF.keep r 2 = r := rfl
        rw [h0, hk0] at HE
        have hbr : Bytes r := HF.out.bytes HPY.out
        obtain ⟨gs, r2, e2, hfd⟩ := Fed.exists _ (r ++ s) (Nat.le_refl _) (hbr.append hm.1)
        have hF2 : Fed (p ++ s) (fs ++ gs) r2 e2 := HF.out.then_ rfl HPY.out hfd
        have hlr := HF.out.len HPY.out
        have hlf := hfd.len (hbr.append hm.1)
        rw [List.length_append] at hlf
        have HS6 : Aside0 (r.length + s.length ≤ 10000000000) := ⟨by omega⟩
        have HPL : Aside0 (p.length + s.length ≤ 10000000000) := ⟨by omega⟩
        have HPL2 : Aside0 ((p ++ s).length ≤ 100000000000) := ⟨by rw [List.length_append]; omega⟩
        have HPS2 : Aside0 ((p ++ s).length ≤ sumL (l0.take (i + 1))) := ⟨by rw [List.length_append, hst]; omega⟩
        have HPB : Aside0 (Bytes (p ++ s)) := ⟨HPY.out.append hm.1⟩
        have HBR := Aside0.mk hbr
        have HFD := Aside0.mk hfd
        have HF2 := Aside0.mk hF2
        have HAS := Aside0.mk (alike_selfA (l := gs) (by omega))
        have HGN : Aside0 (gs.length < 1000000000000) := ⟨by omega⟩
        clear hef hilt hc hi_ hl hs hm hst hsl hpl hbr hfd hF2 hlr hlf hlt hi HF HPY HPS
        go_wp2_with (first | (go_at_call 11; (with_reducible refine (twin_calls At ct s _ HTC.out HTc.out HSL.out).mono ?_); rintro en wt ⟨gt, rfl, hgt, hge, hb⟩; have HQ := Aside0.mk (HE.out.lts hge); have HGT := Aside0.mk hgt; have HGL := Aside0.mk (blk_lt hgt); have HGB : Aside0 (w.heap.size ≤ gt) := ⟨Nat.le_trans HB.out.size hge⟩; have HE' := Aside0.mk (HE.out.below hb); have HB' := Aside0.mk (below_step HB.out hb); clear HB HE hgt hge hb HTC HTc; have HB := HB'; have HE := HE'; clear HB' HE'; have HTC2 := Aside0.mk (twin_reads HGT.out HSL.out)) | (go_at_call 12; (with_reducible refine (QF.put_fed g w.heap.size v r (some ⟨gt, 0, none⟩) (s.length + 3) s gs r2 e2 _ HE.out.a1 HE.out.a2 HGE.out HTC2.out (Nat.le_add_right _ _) HS6.out HBR.out HBS.out HFD.out _ ?s10).mono ?_); (case s10 => rfl); rintro en wz ⟨vl, v2, rfl, p1, p2, p3, p4, p5⟩; have HGT' := Aside0.mk ((p5 gt HGL.out (Nat.ne_of_gt HQ.out.1) (fun e_ => Nat.lt_irrefl _ (HQ.out.2.2.1 gt e_.symm))).trans HGT.out); have HX : Aside0 (wz.heap[wn.heap.size]? = some (refOf va (fs.length : Int) 0)) := ⟨(p5 _ (blk_lt HE.out.a3) HNE.out.symm (Kd.R_ne HE.out.a2 HE.out.a3 (by decide))).trans HE.out.a3⟩; have HVA := Aside0.mk (Kd.R_mono (ok' := fun _ => True) (Kd.R_step (Kd.R_bound (Kd.R_types HE.out.a4 HE.out.a1 (by decide))) (fun k_ ho_ hlt_ => p5 k_ hlt_ ho_.1.2 ho_.1.1)) (fun _ _ => trivial)); have HV2 := Aside0.mk (Kd.R_lower p2 (below_size HB.out)); have HV2B : Aside0 (∀ k_, v2.ownBlock = some k_ → wt.heap.size ≤ k_) := ⟨Kd.R_base p2⟩; have HS : Aside0 (Kd.S (Kd.slice 5 (Kd.int .u8)) 28 wz w.heap.size (fun k_ => some k_ ≠ v2.ownBlock ∧ wt.heap.size ≤ k_ ∧ k_ < wz.heap.size) vl gs) := ⟨Kd.S_lower (Kd.S_mono (Kd.S_bound p3) (fun k_ hk_ => ⟨hk_.1, hk_.2.1, hk_.2.2.1⟩)) (below_size HB.out)⟩; have HW1 : Aside0 (wn.heap.size < wt.heap.size ∧ gt < wt.heap.size) := ⟨blk_lt HE.out.a3, HGL.out⟩; have HWL : Aside0 (wt.heap.size ≤ wz.heap.size) := ⟨p4.size⟩; have HB' := Aside0.mk (Below.trans HB.out p4); have HG := Aside0.mk p1; clear HB HGT HE HTC2 p1 p2 p3 p4 p5; have HB := HB'; have HGT := HGT'; clear HB' HGT'; obtain ⟨Al, cl, el⟩ := Kd.S_slice HS.out; subst el; obtain ⟨At3, ct3, hx3, hl3, hi3⟩ := piece_at HR0.out HB.out i HLT2.out; rw [HSQ.out HLT2.out] at hx3 hl3 hi3; have HTC3 := Aside0.mk hi3; have HTc3 := Aside0.mk hl3; clear hi3 hl3) | (go_at_call 13; (with_reducible refine (rput_fed wn.heap.size w.heap.size va p At3 ct3 s fs gs r2 e2 _ HX.out HVA.out HXE.out HTC3.out HTc3.out HPL.out HPB.out HF2.out).mono ?_); rintro en wq ⟨Ao, co, va2, rfl, q1, q2, q3, q4, q5, q6⟩; have HGT' := Aside0.mk ((q6 gt (blk_lt HGT.out) (Nat.ne_of_gt HQ.out.2.1)).trans HGT.out); have HE : Aside0 (Held g wn.heap.size v2 va2 (QF.keep r2 e2) (p ++ s) (QF.told e2) ((fs ++ gs).length : Int) w.heap.size wq) := ⟨(q6 g (blk_lt HG.out) HNE.out).trans HG.out, Kd.R_mono (Kd.R_step (Kd.R_types HV2.out HX.out (by decide)) (fun k_ hk_ hlt_ => q6 k_ hlt_ hk_.2)) (fun _ _ => trivial), q3, Kd.R_lower (Kd.R_mono (Kd.R_bound q4) (fun k_ hk_ e_ => Nat.lt_irrefl _ (Nat.lt_of_lt_of_le (Kd.R_lt HV2.out k_ e_.symm) hk_.2.1))) (below_size HB.out)⟩; have HS' := Aside0.mk (Kd.S_step HS.out (fun k_ hk_ hlt_ => q6 k_ hlt_ (fun e_ => Nat.lt_irrefl _ (Nat.lt_of_lt_of_le HW1.out.1 (e_ ▸ hk_.2.1))))); have HVB : Aside0 (∀ k_, va2.ownBlock = some k_ → wz.heap.size ≤ k_) := ⟨Kd.R_base q4⟩; have HNG : Aside0 (∀ k_, (k_ = g ∨ k_ = wn.heap.size ∨ some k_ = v2.ownBlock ∨ some k_ = va2.ownBlock) → k_ ≠ gt) := ⟨fun k_ h_ e_ => h_.elim (fun h_ => Nat.ne_of_gt HQ.out.1 (e_.symm.trans h_)) (fun h_ => h_.elim (fun h_ => Nat.ne_of_gt HQ.out.2.1 (e_.symm.trans h_)) (fun h_ => h_.elim (fun h_ => Nat.lt_irrefl _ (Nat.lt_of_lt_of_le HW1.out.2 (e_ ▸ HV2B.out k_ h_.symm))) (fun h_ => Nat.lt_irrefl _ (Nat.lt_of_lt_of_le HW1.out.2 (Nat.le_trans HWL.out (e_ ▸ HVB.out k_ h_.symm))))))⟩; have HLC := Aside0.mk (Kd.S_reads' HS'.out).2.2; have HLc := Aside0.mk (Kd.S_reads' HS'.out).2.1; have HOC := Aside0.mk q2; have HOc := Aside0.mk q1; have HB' := Aside0.mk (Below.trans HB.out q5); clear HB HGT HS HX HVA HV2 HG HTC3 HTc3 q1 q2 q3 q4 q5 q6; have HB := HB'; have HGT := HGT'; have HS := HS'; clear HB' HGT' HS'; obtain ⟨At4, ct4, hx4, hl4, hi4⟩ := piece_at HR0.out HB.out i HLT2.out; rw [HSQ.out HLT2.out] at hx4 hl4 hi4; have HTC4 := Aside0.mk hi4; have HTc4 := Aside0.mk hl4; clear hi4 hl4) | (go_at_call 14; (with_reducible refine (QF.touchstonelaw3_alike.calls (gs.length + 1) Al cl gs Ao co gs true _ ?s1 HLc.out ?s2 HOc.out HAS.out).mono ?_); (case s1 => repeat (first | exact HLC.out | (with_reducible refine Kd.C_alloc ?_ _) | (with_reducible refine Kd.C_drewN ?_ _) | (with_reducible refine Kd.C_drew ?_))); (case s2 => repeat (first | exact HOC.out | (with_reducible refine Kd.C_alloc ?_ _) | (with_reducible refine Kd.C_drewN ?_ _) | (with_reducible refine Kd.C_drew ?_))); rintro en w' ⟨rfl, ⟨nd, rfl⟩⟩) | (go_at_call 15; (with_reducible refine (kept_calls gt At4 ct4 s _ ?s1 ?s2 HTc4.out HSL.out).mono ?_); (case s1 => exact (by repeat (first | exact HGT.out | (with_reducible refine blk_drewN ?_ _) | (with_reducible refine blk_drew ?_) | (with_reducible refine blk_alloc ?_ _)))); (case s2 => repeat (first | exact HTC4.out | (with_reducible refine Kd.C_alloc ?_ _) | (with_reducible refine Kd.C_drewN ?_ _) | (with_reducible refine Kd.C_drew ?_))); rintro en w' ⟨rfl, ⟨nd, rfl⟩⟩) | (go_at_call 16; (with_reducible refine (Held.waits (g := g) (x := wn.heap.size) (v := v2) (va := va2) (rk := (QF.keep r2 e2)) (p := (p ++ s)) (e := QF.told e2) (t := ((fs ++ gs).length : Int)) (base := w.heap.size) ?s1).mono ?_); (case s1 => exact (by repeat (first | exact HE.out | (with_reducible refine Held.drewN ?_ _)))); rintro en w' ⟨rfl, ⟨nd, rfl⟩⟩) | (go_at_call 17; refine (Held.rwaits (g := g) (x := wn.heap.size) (v := v2) (va := va2) (rk := (QF.keep r2 e2)) (p := (p ++ s)) (e := e2) (t := ((fs ++ gs).length : Int)) (base := w.heap.size) ?s1 HF2.out rfl HPB.out HPL2.out).mono ?_; (case s1 => exact (by repeat (first | exact HE.out | (with_reducible refine Held.drewN ?_ _)))); rintro en wv ⟨rfl, hb⟩; have HE' := Aside0.mk (Held.below (by repeat (first | exact HE.out | (with_reducible refine Held.drewN ?_ _))) hb); have HS' := Aside0.mk (Kd.S_below (by (with_reducible repeat (first | apply Kd.S_alloc | apply Kd.S_drewN | apply Kd.S_drew)); exact HS.out) hb); have HGT' := Aside0.mk (blk_below (by repeat (first | exact HGT.out | (with_reducible refine blk_drewN ?_ _) | (with_reducible refine blk_drew ?_) | (with_reducible refine blk_alloc ?_ _))) hb); have HB' := Aside0.mk (below_step (by repeat (first | (with_reducible first | exact HB.out | apply below_alloc | apply pw_below_drewN | apply below_drew1) | exact HB.out)) hb); clear HE HGT HB hb HS; have HE := HE'; have HGT := HGT'; have HB := HB'; have HS := HS'; clear HS'; clear HE' HGT' HB') | (go_at_call 18; (with_reducible refine (spoil_calls w.heap.size (fun _ => True) (.slice (some ⟨gt, 0, none⟩) s.length (s.length + 3)) s _ ?s1).mono ?_); (case s1 => exact twin_own (by repeat (first | exact HGT.out | (with_reducible refine blk_drewN ?_ _) | (with_reducible refine blk_drew ?_) | (with_reducible refine blk_alloc ?_ _))) HGB.out HSL.out); rintro en ws ⟨rfl, hsz, hb, hk⟩; have HE' := Aside0.mk (HE.out.move (fun k_ hlt_ ho_ => hk k_ (fun e_ => HNG.out k_ ho_ (Option.some.inj e_)) hlt_)); have HS' := Aside0.mk (Kd.S_step HS.out (fun k_ hk_ hlt_ => hk k_ (fun e_ => Nat.lt_irrefl _ (Nat.lt_of_lt_of_le HW1.out.2 ((show k_ = gt from Option.some.inj e_) ▸ hk_.2.1))) hlt_)); have HB' := Aside0.mk (Below.trans HB.out hb); clear HE HB hb hk hsz HGT HS; have HE := HE'; have HB := HB'; have HS := HS'; clear HS'; clear HE' HB'))
        obtain ⟨f, hel⟩ := Elems.of_S HS.out
        have HEL := Aside0.mk hel
        clear hel HS HLC HOC
        go_loopw [11] (fun v11 wi => ∃ (j : Nat), j ≤ gs.length ∧ v11 = .int .i64 (j : Int) ∧ Aside0 (Below w.heap.size w wi) ∧ Aside0 (Held g wn.heap.size v2 va2 (QF.keep r2 e2) (p ++ s) (QF.told e2) ((fs ++ gs).length : Int) w.heap.size wi) ∧ Aside0 (Elems Al (fun k_ => some k_ ≠ v2.ownBlock ∧ wt.heap.size ≤ k_ ∧ k_ < wz.heap.size) f w.heap.size wi gs j)) (fun v11 _ => gs.length - (intOf v11).toNat)
        case atStart => exact ⟨0, by omega, rfl, HB, HE, HEL⟩
        case round =>
          clear HB HE HEL
          obtain ⟨j, hj, rfl, HB, HE, HEL⟩ := hrel
          rcases Nat.lt_or_ge j gs.length with hjl | hjg
          · have hjd : decide ((j : Int) < (gs.length : Int)) = true := by simp; omega
            have hgn := HGN.out
            have HWJ0 : Aside0 (wrap64 ((j : Int) + 1) = ((j + 1 : Nat) : Int)) := ⟨(wrap64_id (by omega) (by omega)).trans (by omega)⟩
            obtain ⟨y, hy⟩ : ∃ y_, y_ = gs[j] := ⟨_, rfl⟩
            obtain ⟨gl, cells, u, eA, hokl, hcl, hcell, hR⟩ := HEL.out j y (Nat.le_refl _) (by rw [hy]; exact List.getElem?_eq_getElem hjl)
            subst eA
            obtain ⟨Au, cu, eu⟩ := Kd.R_slice hR
            subst eu
            have hcell2 : wr.cell? ((⟨gl, 0, none⟩ : Addr).add j) = some (.slice Au y.length cu) := by rw [add_plain]; exact hcell
            have HNS : Aside0 (∀ k_, (k_ = g ∨ k_ = wn.heap.size ∨ some k_ = v2.ownBlock ∨ some k_ = va2.ownBlock) → some k_ ≠ (Value.slice Au y.length cu).ownBlock) := ⟨by
              intro k_ h_ e_
              have hk_ := hR.1 k_ e_.symm
              rcases h_ with rfl | rfl | h_ | h_
              · exact Kd.R_ne hR HE.out.a1 (by decide) e_
              · exact Kd.R_ne hR HE.out.a3 (by decide) e_
              · exact hk_.1.1 h_
              · exact Nat.lt_irrefl _ (Nat.lt_of_lt_of_le hk_.1.2.2 (HVB.out k_ h_.symm))⟩
            have HRY := Aside0.mk hR
            have hjp : (0 ≤ (j : Int)) = True := eq_true (by omega)
            have hjq : ((j : Int) < (gs.length : Int)) = True := eq_true (by omega)
            have HJL := Aside0.mk hjl
            clear hokl hcl hR hy hgn hjl hj
            have HWJ := HWJ0.out
            go_wp2_with (first | (go_at_call 18; refine (spoil_calls w.heap.size _ (.slice Au y.length cu) y _ HRY.out).mono ?_; rintro en ws2 ⟨rfl, hsz, hb, hk⟩; have HE' := Aside0.mk (HE.out.move (fun k_ hlt_ ho_ => hk k_ (HNS.out k_ ho_) hlt_)); have HEL' := Aside0.mk (HEL.out.spoil HRY.out hk); have HB' := Aside0.mk (Below.trans HB.out hb); clear HE HB hb hk hsz HEL HRY; have HE := HE'; have HB := HB'; have HEL := HEL'; clear HE' HB' HEL'))
            go_roundw
            case rel => exact ⟨j + 1, HJL.out, by first | rfl | (congr 1), HB, HE, HEL⟩
            case measure => rw [HWJ]; exact Nat.sub_lt_sub_left HJL.out (Nat.lt_succ_self j)
          · have hjd : decide ((j : Int) < (gs.length : Int)) = false := by simp; omega
            have HWR := HWR0.out
            go_wp2
            go_roundw
            case rel => exact ⟨i + 1, p ++ s, fs ++ gs, r2, e2, v2, va2, HLT2.out, by first | rfl | (congr 1), HF2, HPB, HPS2, HB, HE⟩
            case measure => rw [HWR]; exact Nat.sub_lt_sub_left HLT2.out (Nat.lt_succ_self i)
      · have hte : QF.told e = e := if_neg he2
        have HTE : Aside0 (QF.told e ≠ 0) := ⟨by rw [hte]; exact hef⟩
        have HPL2 : Aside0 (p.length ≤ 100000000000) := ⟨by omega⟩
        have HPS2 : Aside0 (p.length ≤ sumL (l0.take (i + 1))) := ⟨by rw [hst]; omega⟩
        clear hef hilt hc hi_ hl hs hm hst hsl hpl hlt hi HPS hte
        go_wp2_with (first | (go_at_call 11; (with_reducible refine (twin_calls At ct s _ HTC.out HTc.out HSL.out).mono ?_); rintro en wt ⟨gt, rfl, hgt, hge, hb⟩; have HQ := Aside0.mk (HE.out.lts hge); have HGT := Aside0.mk hgt; have HGL := Aside0.mk (blk_lt hgt); have HGB : Aside0 (w.heap.size ≤ gt) := ⟨Nat.le_trans HB.out.size hge⟩; have HE' := Aside0.mk (HE.out.below hb); have HB' := Aside0.mk (below_step HB.out hb); clear HB HE hgt hge hb HTC HTc; have HB := HB'; have HE := HE'; clear HB' HE'; have HTC2 := Aside0.mk (twin_reads HGT.out HSL.out); obtain ⟨At2, ct2, hx2, hl2, hi2⟩ := piece_at HR0.out HB.out i HLT2.out; rw [HSQ.out HLT2.out] at hx2 hl2 hi2; have HTC2 := Aside0.mk hi2; have HTc2 := Aside0.mk hl2; clear hi2 hl2; have HNG : Aside0 (∀ k_, (k_ = g ∨ k_ = wn.heap.size ∨ some k_ = v.ownBlock ∨ some k_ = va.ownBlock) → k_ ≠ gt) := ⟨fun k_ h_ e_ => h_.elim (fun h_ => Nat.ne_of_gt HQ.out.1 (e_.symm.trans h_)) (fun h_ => h_.elim (fun h_ => Nat.ne_of_gt HQ.out.2.1 (e_.symm.trans h_)) (fun h_ => h_.elim (fun h_ => Nat.lt_irrefl _ (e_ ▸ HQ.out.2.2.1 k_ h_.symm)) (fun h_ => Nat.lt_irrefl _ (e_ ▸ HQ.out.2.2.2 k_ h_.symm))))⟩) | (go_at_call 12; (with_reducible refine (QF.put_spoilt g v (QF.told e) (some ⟨gt, 0, none⟩) s.length (s.length + 3) _ HE.out.a1 HTE.out).mono ?_); rintro en w' ⟨rfl, ⟨nd, rfl⟩⟩) | (go_at_call 13; (with_reducible refine (rput_err wn.heap.size va (fs.length : Int) (QF.told e) At2 s.length ct2 _ ?s1 HTE.out).mono ?_); (case s1 => exact ((by repeat (first | exact HE.out | (with_reducible refine Held.drewN ?_ _))) : Held g wn.heap.size v va (QF.keep r e) p (QF.told e) (fs.length : Int) w.heap.size _).a3); rintro en w' ⟨rfl, ⟨nd, rfl⟩⟩) | (go_at_call 14; refine (QF.touchstonelaw3_alike.calls 1 none 0 [] none 0 [] true _ (Kd.C_nil _ _) (Nat.le_refl _) (Kd.C_nil _ _) (Nat.le_refl _) HAS0.out).mono ?_; rintro en w' ⟨rfl, ⟨nd, rfl⟩⟩) | (go_at_call 15; (with_reducible refine (kept_calls gt At2 ct2 s _ ?s1 ?s2 HTc2.out HSL.out).mono ?_); (case s1 => exact (by repeat (first | exact HGT.out | (with_reducible refine blk_drewN ?_ _) | (with_reducible refine blk_drew ?_) | (with_reducible refine blk_alloc ?_ _)))); (case s2 => repeat (first | exact HTC2.out | (with_reducible refine Kd.C_alloc ?_ _) | (with_reducible refine Kd.C_drewN ?_ _) | (with_reducible refine Kd.C_drew ?_))); rintro en w' ⟨rfl, ⟨nd, rfl⟩⟩) | (go_at_call 16; (with_reducible refine (Held.waits (g := g) (x := wn.heap.size) (v := v) (va := va) (rk := (QF.keep r e)) (p := p) (e := QF.told e) (t := (fs.length : Int)) (base := w.heap.size) ?s1).mono ?_); (case s1 => exact (by repeat (first | exact HE.out | (with_reducible refine Held.drewN ?_ _)))); rintro en w' ⟨rfl, ⟨nd, rfl⟩⟩) | (go_at_call 17; refine (Held.rwaits (g := g) (x := wn.heap.size) (v := v) (va := va) (rk := (QF.keep r e)) (p := p) (e := e) (t := (fs.length : Int)) (base := w.heap.size) ?s1 HF.out rfl HPY.out HPL2.out).mono ?_; (case s1 => exact (by repeat (first | exact HE.out | (with_reducible refine Held.drewN ?_ _)))); rintro en wv ⟨rfl, hb⟩; have HE' := Aside0.mk (Held.below (by repeat (first | exact HE.out | (with_reducible refine Held.drewN ?_ _))) hb); have HGT' := Aside0.mk (blk_below (by repeat (first | exact HGT.out | (with_reducible refine blk_drewN ?_ _) | (with_reducible refine blk_drew ?_) | (with_reducible refine blk_alloc ?_ _))) hb); have HB' := Aside0.mk (below_step (by repeat (first | (with_reducible first | exact HB.out | apply below_alloc | apply pw_below_drewN | apply below_drew1) | exact HB.out)) hb); clear HE HGT HB hb; have HE := HE'; have HGT := HGT'; have HB := HB'; clear HE' HGT' HB') | (go_at_call 18; (with_reducible refine (spoil_calls w.heap.size (fun _ => True) (.slice (some ⟨gt, 0, none⟩) s.length (s.length + 3)) s _ ?s1).mono ?_); (case s1 => exact twin_own (by repeat (first | exact HGT.out | (with_reducible refine blk_drewN ?_ _) | (with_reducible refine blk_drew ?_) | (with_reducible refine blk_alloc ?_ _))) HGB.out HSL.out); rintro en ws ⟨rfl, hsz, hb, hk⟩; have HE' := Aside0.mk (HE.out.move (fun k_ hlt_ ho_ => hk k_ (fun e_ => HNG.out k_ ho_ (Option.some.inj e_)) hlt_)); have HB' := Aside0.mk (Below.trans HB.out hb); clear HE HB hb hk hsz HGT; have HE := HE'; have HB := HB'; clear HE' HB'))
        go_loopw [11] (fun v11 wi => v11 = .int .i64 0 ∧ Aside0 (Below w.heap.size w wi) ∧ Aside0 (Held g wn.heap.size v va (QF.keep r e) p (QF.told e) (fs.length : Int) w.heap.size wi)) (fun v11 _ => 0)
        case atStart => exact ⟨rfl, HB, HE⟩
        case round =>
          clear HB HE
          obtain ⟨rfl, HB, HE⟩ := hrel
          have HWR := HWR0.out
          go_wp2
          go_roundw
          case rel => exact ⟨i + 1, p, fs, r, e, v, va, HLT2.out, by first | rfl | (congr 1), HF, HPY, HPS2, HB, HE⟩
          case measure => rw [HWR]; exact Nat.sub_lt_sub_left HLT2.out (Nat.lt_succ_self i)
    · have hil : decide ((i : Int) < (l0.length : Int)) = false := by simp; omega
      go_wp2
      go_ret
      exact ⟨rfl, HB.out⟩
theorem touchstonelaw3_FrameAll.walk (_P : True) (A0 : Option Addr) (c0 : Nat) (l0 : List (List Int)) (w : World) (hC0 : Kd.C (Kd.slice 5 (Kd.int .u8)) w A0 l0.length l0) (hc0 : l0.length ≤ c0)
    (hW0 : (l0.length * 24 ≤ 140737488351232 ∧ l0.length ≤ maxLen ∧ ∀ x_l0 ∈ l0, (x_l0.length * 1 ≤ 140737488351232 ∧ x_l0.length ≤ maxLen ∧ ∀ x_x_l0 ∈ x_l0, (Lit.int .u8 x_x_l0).wf = true))) :
    Calls Try.prog 3 #[.slice A0 l0.length c0] w fun en w' => en = .returned (.bool true) ∧ Below w.heap.size w w' := by
  have hb : ∀ t ∈ l0, Bytes t := fun t ht => Bytes.of_wf (hW0.2.2 t ht).2.2
  rcases Nat.lt_or_ge 30 l0.length with h | h1
  · exact all_big_a A0 c0 l0 w hC0 hc0 h
  obtain ⟨r0, hs0, hr0⟩ := QF.sum_is l0 3000 (by omega) (by omega) (by omega)
  rcases Int.lt_or_le 3000 r0 with h | h2
  · exact all_big_b A0 c0 l0 w hC0 hc0 h1 r0 _ hs0 h
  have hs := hr0 h2
  exact all_walk A0 c0 l0 w hC0 hc0 hb h1 r0 _ hs0 h2 (by omega)
end Go.Proofs.Ytmhkmlbmolikiaa.QA
