/- The contracts of the statements' Twins and AllKept, and of the document's Sum. -/
import Derived.Test.YtgaekibompacnaaDoorQDShaEnd
import Derived.Test.YtgaekibompacnaaDoorQDTwin
import Derived.Deep.QuietTactic
import Derived.BigQuiet
set_option linter.unusedVariables false
set_option linter.unusedSimpArgs false
namespace Go.Proofs.YtgaekibompacnaaDoor.QD
open Go.RowKit Go.Proofs.YtgaekibompacnaaDoorW.PrintWords Go.Proofs.YtgaekibompacnaaDoorW.PrintLast Go.Proofs.YtgaekibompacnaaDoorW.PrintMore Go.Proofs.YtgaekibompacnaaDoor.XTwin
/-- A twin of a text, in a block of its own. -/
def twinK : Kd (List Int) where
  sz := 1
  E := [5]
  K := fun w xs cs => ∃ g, cs = [.slice (some ⟨g, 0, none⟩) xs.length (xs.length + 3)] ∧ w.heap[g]? = some (.cells (nums .u8 (twin xs)).toArray 5 (0, 0))
  M := fun w base ok xs cs => ∃ g, cs = [.slice (some ⟨g, 0, none⟩) xs.length (xs.length + 3)] ∧ w.heap[g]? = some (.cells (nums .u8 (twin xs)).toArray 5 (0, 0)) ∧ base ≤ g ∧ ok g
  K_len := by
    rintro w x cs ⟨g, rfl, _⟩
    rfl
  K_one := by
    rintro w x cs ⟨g, rfl, _⟩ u hu
    rw [List.mem_singleton.1 hu]
    rfl
  K_below := by
    rintro w w1 x cs hb ⟨g, rfl, h⟩
    exact ⟨g, rfl, blk_below h hb⟩
  K_of_M := by
    rintro w base ok x cs ⟨g, rfl, h, _⟩
    exact ⟨g, rfl, h⟩
  M_mono := by
    rintro w base ok ok' x cs hok ⟨g, rfl, h, hb, ho⟩
    exact ⟨g, rfl, h, hb, hok g ho⟩
  M_bound := by
    rintro w base ok x cs ⟨g, rfl, h, hb, ho⟩
    exact ⟨g, rfl, h, hb, ho, hb, blk_lt h, _, List.mem_singleton.2 rfl, _, h⟩
  M_move := by
    rintro w w1 base ok x cs hm ⟨g, rfl, h, hb, ho⟩
    exact ⟨g, rfl, (hm g ho).trans h, hb, ho⟩
  M_lower := by
    rintro w base base' ok x cs hb ⟨g, rfl, h, hb', ho⟩
    exact ⟨g, rfl, h, Nat.le_trans hb hb', ho⟩
theorem twin_slice {w : World} {A : Option Addr} {n : Nat} {xs : List (List Int)} (h : Kd.C twinK w A n xs) (hl : ∀ x ∈ xs, x.length ≤ 140737488351232) : Kd.C (Kd.slice 5 (Kd.int .u8)) w A n xs := by
  refine ⟨h.1, h.2.1, fun hn => ?_⟩
  obtain ⟨ad, e, hc⟩ := h.2.2 hn
  refine ⟨ad, e, fun j p hj => ?_⟩
  obtain ⟨c, hlen, hk, hcell⟩ := hc j p hj
  obtain ⟨g, rfl, hg⟩ := hk
  exact ⟨_, rfl, ⟨_, _, rfl, Nat.le_add_right _ _, twin_reads hg (hl p (List.mem_of_getElem? hj))⟩, hcell⟩
set_option maxRecDepth 100000 in
set_option maxHeartbeats 8000000 in
theorem twins_calls (A : Option Addr) (c : Nat) (xs : List (List Int)) (w : World) (hr : Kd.C (Kd.slice 5 (Kd.int .u8)) w A xs.length xs) (hc : xs.length ≤ c) (hl : xs.length ≤ 1000000) (hs : ∀ x ∈ xs, x.length ≤ 1000000) :
    Calls Tryd.prog 16 #[.slice A xs.length c] w fun en w' => ∃ v, en = .returned v ∧ Kd.R twinK 22 w' w.heap.size (fun _ => True) v xs ∧ Below w.heap.size w w' := by
  have HR := Aside0.mk hr
  have HS := Aside0.mk hs
  have HB0 := Aside0.mk (Below.refl w.heap.size w)
  have HO0 : Aside0 (Kd.R twinK 22 w w.heap.size (fun _ => True) (.slice none 0 0) (xs.take 0)) := ⟨Kd.R_nil _ _ _ _ _⟩
  clear hr hs
  go_enter Tryd.func16, Tryd.ntmps16
  go_wp2
  go_loopw [3, 4] (fun v3 v4 wr => ∃ (i : Nat), i ≤ xs.length ∧ v4 = .int .i64 (i : Int) ∧ Aside0 (Kd.R twinK 22 wr w.heap.size (fun _ => True) v3 (xs.take i)) ∧ Aside0 (Below w.heap.size w wr)) (fun _ v4 _ => xs.length - (intOf v4).toNat)
  case atStart => exact ⟨0, by omega, rfl, HO0, HB0⟩
  case round =>
    clear HO0 HB0
    obtain ⟨i, hi, rfl, HO, HB⟩ := hrel
    by_cases hlt : i < xs.length
    · have hil : decide ((i : Int) < (xs.length : Int)) = true := by simp; omega
      have hil2 : decide (i < xs.length) = true := decide_eq_true hlt
      obtain ⟨ad, Ap, cp, ea, hx, hlp, hip⟩ := at_L1 (Kd.C_below HR.out HB.out) (i : Int) (by omega) (by omega)
      have hrd : rd_L1 xs i = xs[i] := by simp [rd_L1, List.getD_eq_getElem?_getD, List.getElem?_eq_getElem hlt]
      rw [hrd] at hx hlp hip
      obtain ⟨p, hp⟩ : ∃ p_, p_ = xs[i] := ⟨_, rfl⟩
      rw [← hp] at hx hlp hip
      rw [Int.toNat_natCast] at hx
      have HPC := Aside0.mk hip
      have HPL := Aside0.mk hlp
      have HPB : Aside0 (p.length ≤ 140737488351232) := ⟨by have := HS.out p (by rw [hp]; exact List.getElem_mem hlt); omega⟩
      obtain ⟨ys, hys⟩ : ∃ y_, y_ = xs.take i := ⟨_, rfl⟩
      have HTK : Aside0 (xs.take (i + 1) = ys ++ [p]) := ⟨by rw [List.take_succ_eq_append_getElem hlt, hp, hys]⟩
      have HAL : Aside0 ((ys.length + 1) * 24 ≤ 140737488355328) := ⟨by rw [hys, List.length_take]; omega⟩
      rw [← hys] at HO
      have hip0 : (0 : Int) ≤ (i : Int) := by omega
      have hiq0 : (i : Int) < (xs.length : Int) := by omega
      have HLT := Aside0.mk hlt
      have HWR0 : Aside0 (wrap64 ((i : Int) + 1) = ((i + 1 : Nat) : Int)) := ⟨(OctetMath.wrap64_id (by omega) (by omega)).trans (by omega)⟩
      clear hlt hi hrd hp hlp hip hys
      subst ea
      go_wp2_with (first | (go_at_call 31; (with_reducible refine (twin_calls Ap cp p _ ?s1 HPL.out HPB.out).mono ?_); (case s1 => repeat (first | exact HPC.out | (with_reducible refine Kd.C_alloc ?_ _) | (with_reducible refine Kd.C_drewN ?_ _) | (with_reducible refine Kd.C_drew ?_))); rintro en wt ⟨g, rfl, ht, hge, hb⟩; have HT := Aside0.mk ht; have HO1 := Aside0.mk (Kd.R_below (by (with_reducible repeat (first | apply Kd.R_alloc | apply Kd.R_drewN | apply Kd.R_drew)); exact HO.out) hb); have HB1 := Aside0.mk (below_step (by repeat (first | (with_reducible first | exact HB.out | apply below_alloc | apply pw_below_drewN | apply below_drew1) | exact HB.out)) hb); have HGE : Aside0 (w.heap.size ≤ g) := ⟨Nat.le_trans (below_size (by repeat (first | (with_reducible first | exact HB.out | apply below_alloc | apply pw_below_drewN | apply below_drew1) | exact HB.out))) hge⟩; clear ht hge hb HO HB; obtain ⟨A3, c3, e3⟩ := Kd.R_slice HO1.out; subst e3) | ((with_reducible refine gate_builtin (b := .append) (xs := #[.tmp 11, .tmp 17]) rfl ?_); at_builtin; refine Kd.R_append twinK (w0 := w) w.heap.size rfl (.tmp 11) (.tmp 17) 27 22 (.slice none 0 0) 24 rfl Tryd.underlying27 info22 rfl (by decide) (by omega) (.slice A3 ys.length c3) ys p [.slice (some ⟨g, 0, none⟩) p.length (p.length + 3)] (fun _ => True) (fun k_ => k_ = g) rfl rfl ?aP ?aK ?aF ?aO ?aB ?aS ?aL ?_; (case aP => exact ⟨g, rfl, HT.out, HGE.out, rfl⟩); (case aK => rintro k_ rfl; exact ⟨trivial, Kd.R_ne HO1.out HT.out (by decide)⟩); (case aF => exact fun _ _ => trivial); (case aO => exact HO1.out); (case aB => exact HB1.out); (case aS => exact below_size HB1.out); (case aL => exact HAL.out); intro v18 w18 ho hb hgr hat; have HO2 : Aside0 (Kd.R twinK 22 w18 w.heap.size (fun _ => True) v18 (xs.take (i + 1))) := ⟨by rw [HTK.out]; exact ho⟩; have HB2 := Aside0.mk hb; clear ho hb hgr hat))
      go_roundw
      case rel => exact ⟨i + 1, HLT.out, by first | rfl | (rw [HWR0.out]) | (congr 1), HO2, HB2⟩
      case measure => first | (rw [HWR0.out]; exact Nat.sub_lt_sub_left HLT.out (Nat.lt_succ_self i)) | (exact Nat.sub_lt_sub_left HLT.out (Nat.lt_succ_self i))
    · have hil : decide ((i : Int) < (xs.length : Int)) = false := by simp; omega
      have hil2 : decide (i < xs.length) = false := decide_eq_false hlt
      obtain rfl : i = xs.length := by omega
      rw [List.take_length] at HO
      go_wp2
      go_ret
      exact ⟨_, rfl, HO.out, HB.out⟩
theorem kept_quiet (w : World) (a : Nat) (g : Nat) (A1 : Option Addr) (c1 : Nat) (l0 : List Int) (hg : w.heap[g]? = some (.cells (nums .u8 (twin l0)).toArray 5 (0, 0))) (hr1 : Kd.C (Kd.int .u8) w A1 l0.length l0) (hc1 : l0.length ≤ c1) (hl : l0.length ≤ 140737488351232) :
    Calls Tryd.prog 34 #[.slice (some ⟨g, 0, none⟩) l0.length (l0.length + 3), .slice A1 l0.length c1] (w.drewN a) fun e w'' => e = .returned (.bool true) ∧ ∃ m, w'' = w.drewN m :=
  Calls.quiet_of (w := w) (n := a) ((kept_calls g A1 c1 l0 (w.drewN a) (blk_drewN hg a) (Kd.C_drewN hr1 a) hc1 hl).mono fun e w' ⟨he, m, hm⟩ => ⟨he, m, hm⟩)
set_option maxRecDepth 100000 in
set_option maxHeartbeats 8000000 in
theorem allkept_calls (A0 : Option Addr) (c0 : Nat) (A : Option Addr) (c : Nat) (xs : List (List Int)) (w : World) (hk : Kd.C twinK w A0 xs.length xs) (hr : Kd.C (Kd.slice 5 (Kd.int .u8)) w A xs.length xs) (hl : xs.length ≤ 1000000) (hs : ∀ x ∈ xs, x.length ≤ 1000000) :
    Calls Tryd.prog 20 #[.slice A0 xs.length c0, .slice A xs.length c] w fun en w' => en = .returned (.bool true) ∧ ∃ m, w' = w.drewN m := by
  have HR := Aside0.mk hr
  have HK := Aside0.mk hk
  have HS := Aside0.mk hs
  clear hr hs hk
  go_enter Tryd.func20, Tryd.ntmps20
  go_wp2
  go_loopw [5] (fun v5 wr => ∃ (i : Nat), i ≤ xs.length ∧ v5 = .int .i64 (i : Int) ∧ Aside0 (∃ m, wr = w.drewN m)) (fun v5 _ => xs.length - (intOf v5).toNat)
  case atStart => exact ⟨0, by omega, rfl, ⟨0, rfl⟩⟩
  case round =>
    obtain ⟨i, hi, rfl, HM⟩ := hrel
    by_cases hlt : i < xs.length
    · have hil : decide ((i : Int) < (xs.length : Int)) = true := by simp; omega
      have hil2 : decide (i < xs.length) = true := decide_eq_true hlt
      obtain ⟨m0, hm0⟩ := HM.out
      have HKr : Kd.C twinK wr A0 xs.length xs := by rw [hm0]; exact Kd.C_drewN HK.out m0
      obtain ⟨ad, Ap, cp, ea, hx, hlp, hip⟩ := at_L1 (show Kd.C (Kd.slice 5 (Kd.int .u8)) wr A xs.length xs from by rw [hm0]; exact Kd.C_drewN HR.out m0) (i : Int) (by omega) (by omega)
      have hrd : rd_L1 xs i = xs[i] := by simp [rd_L1, List.getD_eq_getElem?_getD, List.getElem?_eq_getElem hlt]
      rw [hrd] at hx hlp hip
      obtain ⟨ad0, c_, ea0, _, hkk, hcell⟩ := Kd.C_get HKr [] (i : Int) (by omega) (by omega)
      rw [Int.toNat_natCast] at hkk hcell
      rw [show xs.getD i [] = xs[i] from by simp [List.getD_eq_getElem?_getD, List.getElem?_eq_getElem hlt]] at hkk
      obtain ⟨p, hp⟩ : ∃ p_, p_ = xs[i] := ⟨_, rfl⟩
      rw [← hp] at hx hlp hip hkk
      rw [Int.toNat_natCast] at hx
      obtain ⟨g, rfl, hg⟩ := hkk
      have hcx := hcell 0 _ rfl
      rw [show i * twinK.sz + 0 = i from Nat.mul_one i] at hcx
      have HPB : Aside0 (p.length ≤ 140737488351232) := ⟨by have := HS.out p (by rw [hp]; exact List.getElem_mem hlt); omega⟩
      have hip0 : (0 : Int) ≤ (i : Int) := by omega
      have hiq0 : (i : Int) < (xs.length : Int) := by omega
      have HLT := Aside0.mk hlt
      have HG := Aside0.mk hg
      have HPC := Aside0.mk hip
      have HPL := Aside0.mk hlp
      have HM0 := Aside0.mk hm0
      have HWR0 : Aside0 (wrap64 ((i : Int) + 1) = ((i + 1 : Nat) : Int)) := ⟨(OctetMath.wrap64_id (by omega) (by omega)).trans (by omega)⟩
      clear hlt hi hrd hp hlp hip HKr hg hm0 hcell HM
      subst ea
      subst ea0
      go_wp2
      go_quiet (exact kept_quiet _ _ g Ap cp p HG.out HPC.out HPL.out HPB.out)
      go_wp2
      go_roundw
      case rel => exact ⟨i + 1, HLT.out, by first | rfl | (rw [HWR0.out]) | (congr 1), ⟨m0 + nq, by rw [HM0.out, World.drewN_drewN]⟩⟩
      case measure => first | (rw [HWR0.out]; exact Nat.sub_lt_sub_left HLT.out (Nat.lt_succ_self i)) | (exact Nat.sub_lt_sub_left HLT.out (Nat.lt_succ_self i))
    · have hil : decide ((i : Int) < (xs.length : Int)) = false := by simp; omega
      have hil2 : decide (i < xs.length) = false := decide_eq_false hlt
      go_wp2
      go_ret
      exact ⟨by simp, HM.out⟩
set_option maxRecDepth 100000 in
set_option maxHeartbeats 8000000 in
theorem refSum_calls (A : Option Addr) (c : Nat) (xs : List (List Int)) (w : World) (hr : Kd.C (Kd.slice 5 (Kd.int .u8)) w A xs.length xs) (hc : xs.length ≤ c) (hl : xs.length ≤ 1000000) (hs : xs.flatten.length ≤ 1000000) (hby : AllBy xs.flatten) :
    Calls Tryd.prog 17 #[.slice A xs.length c] w fun en w' => en = .returned (.agg (octs (shaL xs.flatten))) ∧ Below w.heap.size w w' := by
  have HR := Aside0.mk hr
  have HFB := Aside0.mk hby
  have HFL := Aside0.mk hs
  have HZ0 : Aside0 ((w.alloc (.cells (octs (List.replicate 32 0)) 25)).heap[w.heap.size]? = some (.cells (octs (List.replicate 32 0)) 25 (0, 0))) := ⟨blk_new _ _⟩
  have HB0 : Aside0 (Below w.heap.size w (w.alloc (.cells (octs (List.replicate 32 0)) 25))) := ⟨below_alloc (Below.refl _ _) _⟩
  have HO0 : Aside0 (Kd.R (Kd.int .u8) 5 (w.alloc (.cells (octs (List.replicate 32 0)) 25)) w.heap.size (fun _ => True) (.slice none 0 0) (xs.take 0).flatten) := ⟨Kd.R_nil _ _ _ _ _⟩
  obtain ⟨sl, hsl⟩ : ∃ s_, s_ = shaL xs.flatten := ⟨_, rfl⟩
  have HS : Aside0 (shaL xs.flatten = sl) := ⟨hsl.symm⟩
  have HSL : Aside0 (sl.length = 32) := ⟨by rw [hsl]; exact shaL_len _⟩
  have HI : Aside0 ((Tryd.prog.info? 25).map (·.size) = some (octs sl).size) := ⟨by rw [octs_size HSL.out]; kernel_rfl⟩
  have HOS : Aside0 ((octs (List.replicate 32 0)).size = (octs sl).size) := ⟨by rw [octs_size HSL.out]; exact octs_size (by simp)⟩
  clear hr hs hby hsl
  go_enter Tryd.func17, Tryd.ntmps17
  go_wp2_with (first | ((with_reducible refine gate_dst (N := 2) rfl ?_); refine Kd.event_run (v := .pointer (some ⟨w.heap.size, 0, none⟩)) (w1 := w.alloc (.cells (octs (List.replicate 32 0)) 25)) rfl ?hr ?_; (case hr => first | rfl | (go_simp; rfl)); generalize w.alloc (.cells (octs (List.replicate 32 0)) 25) = w1 at *))
  go_loopw [3, 4] (fun v3 v4 wr => ∃ (i : Nat), i ≤ xs.length ∧ v4 = .int .i64 (i : Int) ∧ Aside0 (wr.heap[w.heap.size]? = some (.cells (octs (List.replicate 32 0)) 25 (0, 0))) ∧ Aside0 (Kd.R (Kd.int .u8) 5 wr w.heap.size (fun _ => True) v3 (xs.take i).flatten) ∧ Aside0 (Below w.heap.size w wr)) (fun _ v4 _ => xs.length - (intOf v4).toNat)
  case atStart => exact ⟨0, by omega, rfl, HZ0, HO0, HB0⟩
  case round =>
    clear HZ0 HO0 HB0
    obtain ⟨i, hi, rfl, HZ, HO, HB⟩ := hrel
    by_cases hlt : i < xs.length
    · have hil : decide ((i : Int) < (xs.length : Int)) = true := by simp; omega
      have hil2 : decide (i < xs.length) = true := decide_eq_true hlt
      obtain ⟨ad, Ap, cp, ea, hx, hlp, hip⟩ := at_L1 (Kd.C_below HR.out HB.out) (i : Int) (by omega) (by omega)
      have hrd : rd_L1 xs i = xs[i] := by simp [rd_L1, List.getD_eq_getElem?_getD, List.getElem?_eq_getElem hlt]
      rw [hrd] at hx hlp hip
      obtain ⟨p, hp⟩ : ∃ p_, p_ = xs[i] := ⟨_, rfl⟩
      rw [← hp] at hx hlp hip
      rw [Int.toNat_natCast] at hx
      have HPC := Aside0.mk hip
      have HPL := Aside0.mk hlp
      have hfl := HFL.out
      have htk : (xs.take (i + 1)).flatten = (xs.take i).flatten ++ p := by rw [List.take_succ_eq_append_getElem hlt, List.flatten_append, List.flatten_singleton, hp]
      have h1 : (xs.take (i + 1)).flatten ++ (xs.drop (i + 1)).flatten = xs.flatten := by rw [← List.flatten_append, List.take_append_drop]
      rw [← h1, htk, List.length_append, List.length_append] at hfl
      obtain ⟨ys, hys⟩ : ∃ y_, y_ = (xs.take i).flatten := ⟨_, rfl⟩
      rw [← hys] at HO htk hfl
      have HTK := Aside0.mk htk
      have HAL : Aside0 (ys.length + p.length < 140737488355328) := ⟨by omega⟩
      have HNZ := Aside0.mk (Kd.R_ne HO.out HZ.out (by decide))
      have hip0 : (0 : Int) ≤ (i : Int) := by omega
      have hiq0 : (i : Int) < (xs.length : Int) := by omega
      have HLT := Aside0.mk hlt
      have HWR0 : Aside0 (wrap64 ((i : Int) + 1) = ((i + 1 : Nat) : Int)) := ⟨(OctetMath.wrap64_id (by omega) (by omega)).trans (by omega)⟩
      clear hlt hi hrd hp hlp hip hys htk hfl h1
      subst ea
      go_wp2_with (first | ((with_reducible refine gate_builtin (b := .append) (xs := #[.tmp 11, .tmp 15]) rfl ?_); at_builtin; refine Kd.R_append_rows (Kd.int .u8) (w0 := w) w.heap.size rfl (.tmp 11) (.tmp 15) 22 5 (.int .u8 0) 1 rfl Tryd.underlying22 info5 rfl (by decide) (by omega) u3 ys p _ _ _ (fun _ => True) (fun _ => False) rfl rfl ?aO ?aR (fun _ _ h => h) (fun _ h => h.elim) ?aF ?aB ?aS ?aL ?_; (case aR => repeat (first | exact HPC.out | (with_reducible refine Kd.C_alloc ?_ _) | (with_reducible refine Kd.C_drewN ?_ _) | (with_reducible refine Kd.C_drew ?_))); (case aB => exact (by repeat (first | (with_reducible first | exact HB.out | apply below_alloc | apply pw_below_drewN | apply below_drew1) | exact HB.out))); (case aF => exact fun _ _ => trivial); (case aO => exact (by (with_reducible repeat (first | apply Kd.R_alloc | apply Kd.R_drewN | apply Kd.R_drew)); exact HO.out)); (case aS => exact below_size (by repeat (first | (with_reducible first | exact HB.out | apply below_alloc | apply pw_below_drewN | apply below_drew1) | exact HB.out))); (case aL => have := HAL.out; omega); intro v16 w16 ho hb hgr hat; have HO2 : Aside0 (Kd.R (Kd.int .u8) 5 w16 w.heap.size (fun _ => True) v16 (xs.take (i + 1)).flatten) := ⟨by rw [HTK.out]; exact ho⟩; have HZ2 := Aside0.mk (blk_grown HZ.out hgr HNZ.out); have HB2 := Aside0.mk hb; clear ho hb hgr hat))
      go_roundw
      case rel => exact ⟨i + 1, HLT.out, by first | rfl | (rw [HWR0.out]) | (congr 1), HZ2, HO2, HB2⟩
      case measure => first | (rw [HWR0.out]; exact Nat.sub_lt_sub_left HLT.out (Nat.lt_succ_self i)) | (exact Nat.sub_lt_sub_left HLT.out (Nat.lt_succ_self i))
    · have hil : decide ((i : Int) < (xs.length : Int)) = false := by simp; omega
      have hil2 : decide (i < xs.length) = false := decide_eq_false hlt
      obtain rfl : i = xs.length := by omega
      rw [List.take_length] at HO
      obtain ⟨fl, hfl⟩ : ∃ f_, f_ = xs.flatten := ⟨_, rfl⟩
      rw [← hfl] at HO HFL HFB HS
      obtain ⟨A3, c3, e3⟩ := Kd.R_slice HO.out
      subst e3
      have HC3 := Aside0.mk (Kd.R_reads' HO.out).2.2
      have Hc3 := Aside0.mk (Kd.R_reads' HO.out).2.1
      have HFE := Aside0.mk hfl
      clear hi hlt hfl
      go_wp2_with (first | (go_at_call 14; (with_reducible refine (one_calls A3 c3 fl _ ?s1 Hc3.out HFL.out HFB.out).mono ?_); (case s1 => repeat (first | exact HC3.out | (with_reducible refine Kd.C_alloc ?_ _) | (with_reducible refine Kd.C_drewN ?_ _) | (with_reducible refine Kd.C_drew ?_))); rintro en ws ⟨rfl, hb⟩; rw [one_is HFB.out, HS.out]; have HZ' := Aside0.mk (blk_below HZ.out hb); have HB' := Aside0.mk (below_step (by repeat (first | (with_reducible first | exact HB.out | apply below_alloc | apply pw_below_drewN | apply below_drew1) | exact HB.out)) hb); clear HZ HB hb; have HZ := HZ'; have HB := HB'; clear HZ' HB') | ((with_reducible refine gate_store (t := 25) (p := 2) (v := .tmp 18) rfl ?_); refine wpList_store_row rfl 25 (.tmp 2) (.tmp 18) rfl w.heap.size (octs sl) rfl rfl 25 _ HZ.out HI.out HOS.out (octs_one sl) ?_))
      (try simp only [Exit.inBlock, Exit.then])
      refine bodyPost_ret (results_cell_row (p := 2) (ty := 25) rfl _ _ w.heap.size 25 (octs sl) (0, 0) _ rfl (setRow_heap ws w.heap.size _ (octs sl) _ _ HZ.out) Tryd.underlying25 rfl HI.out) rfl ?_
      exact ⟨by rw [← HFE.out, HS.out], below_setRow HB.out (Nat.le_refl _) _⟩
end Go.Proofs.YtgaekibompacnaaDoor.QD
