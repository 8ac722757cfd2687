/- The contract of frame's Put, by a reader that New made. -/
import Derived.Test.YtmhkmlbmolikiaaQFx1
import Derived.Test.YtmhkmlbmolikiaaFrameReader
import Derived.Test.YtmhkmlbmolikiaaQFx0
set_option linter.unusedVariables false
set_option linter.unusedSimpArgs false
namespace Go.Proofs.Ytmhkmlbmolikiaa.QF
open Go.RowKit Go.Proofs.YtmhkmlbmolikiaaW.PrintWords Go.Proofs.YtmhkmlbmolikiaaW.PrintLast Go.Proofs.YtmhkmlbmolikiaaW.PrintMore Go.Proofs.Ytmhkmlbmolikiaa.FrameReader

/-- What Put makes of the bytes that it has: the frames, where it stopped, and why. -/
def putL : Nat → List Int → List (List Int) → Int → Option (List (List Int) × Int × Int)
  | 0, _, _, _ => none
  | k + 1, x0, fs, x6 => if 0 ≤ x6 then (if x6 ≤ (x0.length : Int) then ((octet_TakeText.f k (x0.drop (x6 : Int).toNat) 65536).bind fun b => (if b.2.2 = 0 then (if fs.length < 5864062014805 then (putL k x0 (fs ++ [b.1]) (wrap64 (x6 + b.2.1))) else (none)) else (some (fs, x6, b.2.2)))) else (none)) else (none)
/-- What Put leaves waiting. -/
def left (x0 : List Int) (x6 e : Int) : List Int := if e = 2 then x0.drop x6.toNat else []
def told (e : Int) : Int := if e = 2 then 0 else e

/-- What a Put leaves behind. -/
def PutPost (g B : Nat) (v : Value) (x0 : List Int) (fs : List (List Int)) (at_ e : Int) (w : World) (en : Ending) (w' : World) : Prop :=
  ∃ vl v' : Value, en = .returned (.tuple #[vl, .int .i64 (told e)]) ∧
      w'.heap[g]? = some (blkOf true v' (told e)) ∧ Kd.R (Kd.int .u8) 5 w' w.heap.size (fun _ => True) v' (left x0 at_ e) ∧ Kd.S (Kd.slice 5 (Kd.int .u8)) 28 w' w.heap.size (fun k_ => some k_ ≠ v'.ownBlock) vl fs ∧
      Below B w w' ∧ (∀ k_, k_ < w.heap.size → k_ ≠ g → some k_ ≠ v.ownBlock → w'.heap[k_]? = w.heap[k_]?)

set_option maxHeartbeats 8000000 in
set_option maxRecDepth 100000 in
theorem put_calls (k g B : Nat) (v : Value) (ws : List Int) (A : Option Addr) (c : Nat) (l x0 : List Int) (fs : List (List Int)) (at_ e : Int) (w : World)
    (hg : w.heap[g]? = some (blkOf true v 0)) (hv : Kd.R (Kd.int .u8) 5 w B (fun _ => True) v ws) (hBg : B ≤ g) (hl : Kd.C (Kd.int .u8) w A l.length l) (hlc : l.length ≤ c) (hlen : ws.length + l.length ≤ 100000000000)
    (hx0 : x0 = ws ++ l) (h : putL k x0 [] 0 = some (fs, at_, e)) :
    Calls Try.prog 12 #[.pointer (some ⟨g, 0, none⟩), .slice A l.length c] w (PutPost g B v x0 fs at_ e w) := by
  have hglt := blk_lt hg
  have hbsz : B ≤ w.heap.size := by omega
  have hgv : some g ≠ v.ownBlock := Kd.R_ne hv hg (by decide)
  have c0 : w.cell? ⟨g, 0, none⟩ = some (.bool true) := by rw [blk_cell hg]; rfl
  have c1 : w.cell? ⟨g, 1, none⟩ = some v := by rw [blk_cell hg]; rfl
  have c2 : w.cell? ⟨g, 2, none⟩ = some (.int .i64 0) := by rw [blk_cell hg]; rfl
  have HG0 := Aside0.mk hg
  have HV0 := Aside0.mk hv
  have HL0 := Aside0.mk hl
  have HLEN := Aside0.mk hlen
  have HX := Aside0.mk hx0
  have HLX : Aside0 (x0.length ≤ 100000000000) := ⟨by rw [hx0, List.length_append]; exact hlen⟩
  have HH := Aside0.mk h
  have HGV := Aside0.mk hgv
  clear hg hv hl h hgv hx0
  go_enter Try.func12, Try.ntmps12
  go_wp2_with (first
    | (go_at_call 22; refine (none_calls g true _ 0 _ HG0.out).mono ?_; rintro en w' ⟨rfl, ⟨nd, rfl⟩⟩)
    | ((with_reducible refine gate_builtin (b := .append) (xs := #[.tmp 25, .tmp 26]) rfl ?_); at_builtin; refine Kd.R_append_rows (Kd.int .u8) (w0 := w) B rfl (.tmp 25) (.tmp 26) 28 5 (.int .u8 0) 1 rfl Try.underlying28 info5 rfl (by decide) (by omega) v ws l _ _ _ (fun _ => True) (fun _ => False) rfl rfl ?aO ?aR (fun _ _ h => h) (fun _ h => h.elim) ?aF ?aB ?aS ?aL ?_; (case aR => repeat (first | exact HL0.out | (with_reducible refine Kd.C_alloc ?_ _) | (with_reducible refine Kd.C_drewN ?_ _) | (with_reducible refine Kd.C_drew ?_))); (case aB => exact (by repeat (first | exact Below.refl _ _ | apply pw_below_drewN | apply below_drew1))); (case aF => exact (fun _ _ => trivial)); (case aO => exact (by (with_reducible repeat (first | apply Kd.R_alloc | apply Kd.R_drewN | apply Kd.R_drew)); exact HV0.out)); (case aS => exact hbsz); (case aL => have := HLEN.out; omega); intro v2 w2 ho hb hgr hat; rw [← HX.out] at ho; have HG2 := Aside0.mk (blk_grown (w := _) (by exact HG0.out) hgr HGV.out); have HB2 := Aside0.mk hb; have HK2 := Aside0.mk hgr.block; obtain ⟨A2, cc, e2⟩ := Kd.R_slice ho; subst e2; have HV2 := Aside0.mk ho; have c12 := blk_cell HG2.out 1; have f12 := blk_frozen HG2.out 1; (try simp only [List.getElem?_toArray, List.getElem?_cons_succ, List.getElem?_cons_zero] at c12); clear ho hb hgr hat))
  have HG5 : Aside0 ((w2.setCell ⟨g, 1, none⟩ (.slice A2 x0.length cc)).heap[g]? = some (blkOf true (.slice A2 x0.length cc) 0)) := ⟨by rw [blk_set HG2.out]; rfl⟩
  have HV5 := Aside0.mk (Kd.R_set HV2.out HG2.out (by decide) 1 (.slice A2 x0.length cc))
  have HB5 := Aside0.mk (HB2.out.setCell (p := ⟨g, 1, none⟩) hBg (.slice A2 x0.length cc))
  have HK5 : Aside0 (∀ k_, k_ < w.heap.size → k_ ≠ g → some k_ ≠ v.ownBlock → (w2.setCell ⟨g, 1, none⟩ (.slice A2 x0.length cc)).heap[k_]? = w.heap[k_]?) := ⟨fun k_ h1 h2 h3 => (Below.heap_setCell _ _ _ k_ h2).trans (HK2.out k_ h1 h3)⟩
  clear c12 f12 HG2 HV2 HB2 HK2
  generalize w2.setCell ⟨g, 1, none⟩ (.slice A2 x0.length cc) = w5 at *
  have HG5L := Aside0.mk (blk_lt HG5.out)
  have HWS : Aside0 (w.heap.size ≤ w5.heap.size) := ⟨HB5.out.size⟩
  obtain ⟨_, hcc, hCC⟩ := Kd.R_reads' HV5.out
  have HC0 := Aside0.mk hcc
  have HR0 := Aside0.mk hCC
  clear hcc hCC c0 c1 c2
  go_loopg [4, 6] k (fun kq v4 v6 w' => ∃ (fs1 : List (List Int)) (x6 : Int), v6 = .int .i64 x6 ∧ Aside0 (putL kq x0 fs1 x6 = some (fs, at_, e)) ∧ Aside0 (kq ≤ k) ∧ Aside0 (Kd.S (Kd.slice 5 (Kd.int .u8)) 28 w' w5.heap.size (fun _ => True) v4 fs1) ∧ Aside0 (Below w5.heap.size w5 w'))
  case atStart => exact ⟨[], 0, rfl, HH, ⟨Nat.le_refl _⟩, ⟨Kd.S_nil _ _ _ _ _⟩, ⟨by repeat (first | exact Below.refl _ _ | apply pw_below_drewN | apply below_drew1)⟩⟩
  case round =>
    clear HH
    obtain ⟨fs1, x6, rfl, HA, HK1, HO, HB⟩ := hrel
    have HGR := Aside0.mk ((HB.out.block g HG5L.out).trans HG5.out)
    have cr1 : wr.cell? ⟨g, 1, none⟩ = some (.slice A2 x0.length cc) := by rw [blk_cell HGR.out]; rfl
    cases gk with
    | zero => exact absurd HA.out (by simp [putL])
    | succ k1 =>
      have H := HA.out
      clear HA
      simp only [putL] at H
      by_cases c2 : 0 ≤ x6
      · rw [if_pos c2] at H
        have c2b0 := eq_true c2
        have c2b1 : decide (0 ≤ x6) = true := decide_eq_true c2
        by_cases c3 : x6 ≤ (x0.length : Int)
        · rw [if_pos c3] at H
          have c3b0 := eq_true c3
          have c3b1 : decide (x6 ≤ (x0.length : Int)) = true := decide_eq_true c3
          obtain ⟨⟨t1, t2, t3⟩, A40, H⟩ := Option.bind_eq_some_iff.mp H
          replace H : (if t3 = 0 then (if fs1.length < 5864062014805 then (putL k1 x0 (fs1 ++ [t1]) (wrap64 (x6 + t2))) else (none)) else (some (fs1, x6, t3))) = some (fs, at_, e) := H
          have A4 := Aside0.mk A40
          clear A40
          obtain ⟨i06, hi06, _, hsz6, _⟩ := info_parts info5
          obtain ⟨A6, hcut6, hA6, hC6⟩ := print_drop_of (P := Try.prog) (Value.int .u8) 0 28 5 .i64 Try.underlying28 hi06 hsz6 A2 cc x0 x6 c2 c3 HC0.out
          have HRD := Aside0.mk (Kd.C_of_reads (h1 := fun _ => rfl) (hA6 _ (Kd.reads_of_C HR0.out)))
          have HCD := Aside0.mk hC6
          clear hA6 hC6 hi06 hsz6 c2 c3
          by_cases c5 : t3 = 0
          · rw [if_pos c5] at H
            have c5b0 : (t3 == 0) = true := beq_iff_eq.mpr c5
            have c5b1 : (t3 != 0) = false := bne_eq_false_iff_eq.mpr c5
            clear c5
            by_cases c9 : fs1.length < 5864062014805
            · rw [if_pos c9] at H
              have LM := Aside0.mk c9
              clear c9
              have H' := Aside0.mk H
              clear H
              obtain ⟨y1, hy1⟩ : ∃ y_ : List (List Int), y_ = (fs1 ++ [t1]) := ⟨_, rfl⟩
              have NY := Aside0.mk hy1
              clear hy1
              go_wp2_with (first | ((with_reducible refine gate_callee (f := 23) rfl ?_); refine goesL_ (some 37) rfl rfl Try.func23 (by kernel_rfl) rfl #[.slice A6 (x0.drop (x6 : Int).toNat).length (cc - x6.toNat), .int .i64 65536] rfl (by (try simp only [List.map_toArray, List.map_cons, List.map_nil]); first | done | (rw [show (x0.drop (x6 : Int).toNat).length = (x0.length - x6.toNat) from List.length_drop] <;> rfl) | rfl | (simp only [List.length_drop, List.length_take]; rfl)) ?_; (with_reducible refine (octet_TakeText.calls k1 _ _ (x0.drop (x6 : Int).toNat) 65536 t1 t2 t3 _ ?side1 ?side2 A4.out).mono ?_); (case side1 => repeat (first | exact (Kd.C_below HRD.out HB.out) | (with_reducible refine Kd.C_alloc ?_ _) | (with_reducible refine Kd.C_drewN ?_ _) | (with_reducible refine Kd.C_drew ?_))); (case side2 => exact HCD.out); rintro en w7 ⟨vt, rfl, ho0, hb⟩; refine ⟨_, rfl, ?_⟩; have n0_ := Aside0.mk (Kd.S_elder' (by (with_reducible repeat (first | apply Kd.S_alloc | apply Kd.S_drewN | apply Kd.S_drew)); exact HO.out) (Kd.R_base ho0) hb); have n1_ := Aside0.mk (Kd.R_lower ho0 (below_size (by repeat (first | (with_reducible first | exact HB.out | apply below_alloc | apply pw_below_drewN | apply below_drew1) | exact HB.out)))); have n2_ := Aside0.mk (below_step (by repeat (first | (with_reducible first | exact HB.out | apply below_alloc | apply pw_below_drewN | apply below_drew1) | exact HB.out)) hb); clear HO HB; have HO := n0_; have HT := n1_; have HB := n2_; clear n0_ n1_ n2_ hb ho0; have HGR7 := Aside0.mk ((HB.out.block g HG5L.out).trans HG5.out); have cr7 := blk_cell HGR7.out 1; have fr7 := blk_frozen HGR7.out 1; have fr72 := blk_frozen HGR7.out 2; have cr72 := blk_cell HGR7.out 2; (try simp only [List.getElem?_toArray, List.getElem?_cons_succ, List.getElem?_cons_zero] at cr7 cr72); obtain ⟨At, ct, et⟩ := Kd.R_slice HT.out; subst et) | ((with_reducible refine gate_builtin (b := .append) (xs := #[.tmp 53, .tmp 55]) rfl ?_); at_builtin; refine Kd.S_append (Kd.slice 5 (Kd.int .u8)) (w0 := w5) w5.heap.size rfl (.tmp 53) (.tmp 55) 22 28 (.slice none 0 0) 24 rfl Try.underlying22 info28 rfl (by decide) (by omega) u4 fs1 t1 [.slice At t1.length ct] (fun _ => True) (fun k_ => some k_ = (.slice At t1.length ct : Value).ownBlock) rfl rfl ?aP (fun k_ hk_ => ((Kd.R_mono (ok' := fun k_ => ((fun _ => True)) k_ ∧ some k_ ≠ (u4 : Value).ownBlock) (Kd.R_apart' (HT.out) (Kd.S_typed HO.out) (by decide)) (fun k_ hk => ⟨trivial, hk.2⟩))).1 k_ hk_.symm) ?aF ?aO ?aB ?aS ?aL ?_; (case aP => exact Kd.M_row (Kd.R_mono (Kd.R_tight rfl (Kd.R_mono (ok' := fun k_ => ((fun _ => True)) k_ ∧ some k_ ≠ (u4 : Value).ownBlock) (Kd.R_apart' (HT.out) (Kd.S_typed HO.out) (by decide)) (fun k_ hk => ⟨trivial, hk.2⟩))) (fun _ h_ => h_))); (case aB => exact (by repeat (first | (with_reducible first | exact HB.out | apply below_alloc | apply pw_below_drewN | apply below_drew1) | exact HB.out))); (case aF => exact (fun _ _ => trivial)); (case aO => exact (by (with_reducible repeat (first | apply Kd.S_alloc | apply Kd.S_drewN | apply Kd.S_drew)); exact Kd.S_mono HO.out (fun k_ hk => ⟨trivial, fun e_ => hk.2 e_⟩))); (case aS => exact (below_size (by repeat (first | (with_reducible first | exact HB.out | apply below_alloc | apply pw_below_drewN | apply below_drew1) | exact HB.out)))); (case aL => have := LM.out; omega); intro v9 w9 ho hb hgr hat; rw [← NY.out] at ho; have n0_ := Aside0.mk (hb); have n1_ := Aside0.mk (ho); clear HB HO HT; have HB := n0_; have HO := n1_; clear n0_ n1_ ho hb hgr hat))
              go_roundg k1
              case measure => have := HK1.out; omega
              case rel => exact ⟨y1, (wrap64 (x6 + t2)), (by first | rfl | (simp; done) | (simp [*]; done)), ⟨by rw [NY.out]; exact H'.out⟩, ⟨by have := HK1.out; omega⟩, ⟨(by (with_reducible repeat (first | apply Kd.S_alloc | apply Kd.S_drewN | apply Kd.S_drew)); exact HO.out)⟩, ⟨(by repeat (first | (with_reducible first | exact HB.out | apply below_alloc | apply pw_below_drewN | apply below_drew1) | exact HB.out))⟩⟩
            · rw [if_neg c9] at H
              exact absurd H (by simp)
          · rw [if_neg c5] at H
            have c5b0 : (t3 == 0) = false := beq_eq_false_iff_ne.mpr c5
            have c5b1 : (t3 != 0) = true := bne_iff_ne.mpr c5
            simp only [Option.some.injEq, Prod.mk.injEq] at H
            obtain ⟨rfl, rfl, rfl⟩ := H
            by_cases c7 : t3 = 2
            · have c7b0 : (t3 == 2) = true := beq_iff_eq.mpr c7
              have c7b1 : (t3 != 2) = false := bne_eq_false_iff_eq.mpr c7
              subst c7
              go_wp2_with (first | ((with_reducible refine gate_callee (f := 23) rfl ?_); refine goesL_ (some 37) rfl rfl Try.func23 (by kernel_rfl) rfl #[.slice A6 (x0.drop (x6 : Int).toNat).length (cc - x6.toNat), .int .i64 65536] rfl (by (try simp only [List.map_toArray, List.map_cons, List.map_nil]); first | done | (rw [show (x0.drop (x6 : Int).toNat).length = (x0.length - x6.toNat) from List.length_drop] <;> rfl) | rfl | (simp only [List.length_drop, List.length_take]; rfl)) ?_; (with_reducible refine (octet_TakeText.calls k1 _ _ (x0.drop (x6 : Int).toNat) 65536 t1 t2 2 _ ?side1 ?side2 A4.out).mono ?_); (case side1 => repeat (first | exact (Kd.C_below HRD.out HB.out) | (with_reducible refine Kd.C_alloc ?_ _) | (with_reducible refine Kd.C_drewN ?_ _) | (with_reducible refine Kd.C_drew ?_))); (case side2 => exact HCD.out); rintro en w7 ⟨vt, rfl, ho0, hb⟩; refine ⟨_, rfl, ?_⟩; have n0_ := Aside0.mk (Kd.S_elder' (by (with_reducible repeat (first | apply Kd.S_alloc | apply Kd.S_drewN | apply Kd.S_drew)); exact HO.out) (Kd.R_base ho0) hb); have n1_ := Aside0.mk (Kd.R_lower ho0 (below_size (by repeat (first | (with_reducible first | exact HB.out | apply below_alloc | apply pw_below_drewN | apply below_drew1) | exact HB.out)))); have n2_ := Aside0.mk (below_step (by repeat (first | (with_reducible first | exact HB.out | apply below_alloc | apply pw_below_drewN | apply below_drew1) | exact HB.out)) hb); clear HO HB; have HO := n0_; have HT := n1_; have HB := n2_; clear n0_ n1_ n2_ hb ho0; have HGR7 := Aside0.mk ((HB.out.block g HG5L.out).trans HG5.out); have cr7 := blk_cell HGR7.out 1; have fr7 := blk_frozen HGR7.out 1; have fr72 := blk_frozen HGR7.out 2; have cr72 := blk_cell HGR7.out 2; (try simp only [List.getElem?_toArray, List.getElem?_cons_succ, List.getElem?_cons_zero] at cr7 cr72); clear fr7 fr72 cr72) | ((with_reducible refine gate_dst (N := 63) rfl ?_); refine Kd.R_lit (Kd.int .u8) _ 5 ?hg (N := 63) ?hd (xs := ([] : List Int)) (inner := []) (ok := fun _ => True) (okp := fun _ => True) ?hr ?hp (fun _ hk => hk) trivial (Below.refl _ _) (Nat.le_refl _) (by simp) ?_; (case hd => rfl); (case hg => rfl); (case hr => first | (go_simp; done) | (go_simp; rfl)); (case hp => exact (Reps.none _ _)); intro v6 w8 ho6 hb hg_ hnew_; clear hg_ hnew_; have n0_ := Aside0.mk (Kd.S_elder' (by (with_reducible repeat (first | apply Kd.S_alloc | apply Kd.S_drewN | apply Kd.S_drew)); exact HO.out) (Kd.R_base ho6) hb); have n1_ := Aside0.mk (Kd.R_lower ho6 (below_size (by repeat (first | (with_reducible first | exact HB.out | apply below_alloc | apply pw_below_drewN | apply below_drew1) | exact HB.out)))); have n2_ := Aside0.mk (below_step (by repeat (first | (with_reducible first | exact HB.out | apply below_alloc | apply pw_below_drewN | apply below_drew1) | exact HB.out)) hb); clear HO HB; have HO := n0_; have HL6 := n1_; have HB := n2_; clear n0_ n1_ n2_ hb ho6; have HGR8 := Aside0.mk ((HB.out.block g HG5L.out).trans HG5.out); have cr8 := blk_cell HGR8.out 1; (try simp only [List.getElem?_toArray, List.getElem?_cons_succ, List.getElem?_cons_zero] at cr8)) | ((with_reducible refine gate_builtin (b := .append) (xs := #[.tmp 63, .tmp 69]) rfl ?_); at_builtin; refine Kd.R_append_rows (Kd.int .u8) (w0 := w5) w5.heap.size rfl (.tmp 63) (.tmp 69) 28 5 (.int .u8 0) 1 rfl Try.underlying28 info5 rfl (by decide) (by omega) v6 [] (x0.drop (x6 : Int).toNat) _ _ _ (fun _ => True) (fun _ => False) rfl rfl ?aO ?aR (fun _ _ h => h) (fun _ h => h.elim) ?aF ?aB ?aS ?aL ?_; (case aR => first | (rw [← show (x0.drop (x6 : Int).toNat).length = (x0.length - x6.toNat) from List.length_drop]; repeat (first | exact (Kd.C_below HRD.out HB.out) | (with_reducible refine Kd.C_alloc ?_ _) | (with_reducible refine Kd.C_drewN ?_ _) | (with_reducible refine Kd.C_drew ?_))) | (repeat (first | exact (Kd.C_below HRD.out HB.out) | (with_reducible refine Kd.C_alloc ?_ _) | (with_reducible refine Kd.C_drewN ?_ _) | (with_reducible refine Kd.C_drew ?_)))); (case aB => exact (by repeat (first | (with_reducible first | exact HB.out | apply below_alloc | apply pw_below_drewN | apply below_drew1) | exact HB.out))); (case aF => exact (fun _ _ => trivial)); (case aO => exact (by (with_reducible repeat (first | apply Kd.R_alloc | apply Kd.R_drewN | apply Kd.R_drew)); exact HL6.out)); (case aS => exact (below_size (by repeat (first | (with_reducible first | exact HB.out | apply below_alloc | apply pw_below_drewN | apply below_drew1) | exact HB.out)))); (case aL => have := HLX.out; have := List.length_drop (l := x0) (i := x6.toNat); simp only [List.length_nil]; omega); intro v8 w9 ho hb hgr hat; rw [List.nil_append] at ho; have n0_ := Aside0.mk (Kd.S_after (by (with_reducible repeat (first | apply Kd.S_alloc | apply Kd.S_drewN | apply Kd.S_drew)); exact HO.out) hgr hat); have n1_ := Aside0.mk hb; clear HO HB; have HO := n0_; have HB := n1_; clear n0_ n1_ hb hgr hat; obtain ⟨A8, c8, e8⟩ := Kd.R_slice ho; obtain ⟨n8, hn8⟩ : ∃ n_, (x0.drop (x6 : Int).toNat).length = n_ := ⟨_, rfl⟩; rw [hn8] at e8; subst e8; have HV8 := Aside0.mk ho; clear ho; have HG8 := Aside0.mk ((HB.out.block g HG5L.out).trans HG5.out); have cr9 := blk_cell HG8.out 1; have fr9 := blk_frozen HG8.out 1; (try simp only [List.getElem?_toArray, List.getElem?_cons_succ, List.getElem?_cons_zero] at cr9)))
              go_ret2
              refine ⟨u4, .slice A8 n8 c8, rfl, ?_, ?_, ?_, ?_, ?_⟩
              · rw [blk_set HG8.out]; rfl
              · exact Kd.R_lower (Kd.R_set HV8.out HG8.out (by decide) 1 _) HWS.out
              · exact Kd.S_lower (Kd.S_mono (Kd.S_set HO.out HG8.out (by decide) 1 _) (fun k_ hk => hk.2)) HWS.out
              · exact ((HB5.out.trans (HB.out.mono (Nat.le_trans hbsz HWS.out))).setCell (p := ⟨g, 1, none⟩) hBg _)
              · exact fun k_ h1 h2 h3 => (Below.heap_setCell _ _ _ k_ h2).trans ((HB.out.block k_ (Nat.lt_of_lt_of_le h1 HWS.out)).trans (HK5.out k_ h1 h2 h3))
            · have c7b0 : (t3 == 2) = false := beq_eq_false_iff_ne.mpr c7
              have c7b1 : (t3 != 2) = true := bne_iff_ne.mpr c7
              go_wp2_with (first | ((with_reducible refine gate_callee (f := 23) rfl ?_); refine goesL_ (some 37) rfl rfl Try.func23 (by kernel_rfl) rfl #[.slice A6 (x0.drop (x6 : Int).toNat).length (cc - x6.toNat), .int .i64 65536] rfl (by (try simp only [List.map_toArray, List.map_cons, List.map_nil]); first | done | (rw [show (x0.drop (x6 : Int).toNat).length = (x0.length - x6.toNat) from List.length_drop] <;> rfl) | rfl | (simp only [List.length_drop, List.length_take]; rfl)) ?_; (with_reducible refine (octet_TakeText.calls k1 _ _ (x0.drop (x6 : Int).toNat) 65536 t1 t2 t3 _ ?side1 ?side2 A4.out).mono ?_); (case side1 => repeat (first | exact (Kd.C_below HRD.out HB.out) | (with_reducible refine Kd.C_alloc ?_ _) | (with_reducible refine Kd.C_drewN ?_ _) | (with_reducible refine Kd.C_drew ?_))); (case side2 => exact HCD.out); rintro en w7 ⟨vt, rfl, ho0, hb⟩; refine ⟨_, rfl, ?_⟩; have n0_ := Aside0.mk (Kd.S_elder' (by (with_reducible repeat (first | apply Kd.S_alloc | apply Kd.S_drewN | apply Kd.S_drew)); exact HO.out) (Kd.R_base ho0) hb); have n1_ := Aside0.mk (Kd.R_lower ho0 (below_size (by repeat (first | (with_reducible first | exact HB.out | apply below_alloc | apply pw_below_drewN | apply below_drew1) | exact HB.out)))); have n2_ := Aside0.mk (below_step (by repeat (first | (with_reducible first | exact HB.out | apply below_alloc | apply pw_below_drewN | apply below_drew1) | exact HB.out)) hb); clear HO HB; have HO := n0_; have HT := n1_; have HB := n2_; clear n0_ n1_ n2_ hb ho0; have HGR7 := Aside0.mk ((HB.out.block g HG5L.out).trans HG5.out); have cr7 := blk_cell HGR7.out 1; have fr7 := blk_frozen HGR7.out 1; have fr72 := blk_frozen HGR7.out 2; have cr72 := blk_cell HGR7.out 2; (try simp only [List.getElem?_toArray, List.getElem?_cons_succ, List.getElem?_cons_zero] at cr7 cr72)))
              go_ret2
              have he : told t3 = t3 := if_neg c7
              have hl : left x0 x6 t3 = [] := if_neg c7
              refine ⟨u4, .slice none 0 0, by rw [he]; rfl, ?_, ?_, ?_, ?_, ?_⟩
              · rw [he]; rw [blk_set (blk_set HGR7.out 2 (.int .i64 t3))]; rfl
              · rw [hl]; exact Kd.R_nil _ _ _ _ _
              · exact Kd.S_lower (Kd.S_mono (Kd.S_set (Kd.S_set HO.out HGR7.out (by decide) 2 _) (blk_set HGR7.out 2 (.int .i64 t3)) (by decide) 1 _) (fun k_ hk => by simp [Value.ownBlock])) HWS.out
              · exact (((HB5.out.trans (HB.out.mono (Nat.le_trans hbsz HWS.out))).setCell (p := ⟨g, 2, none⟩) hBg _).setCell (p := ⟨g, 1, none⟩) hBg _)
              · exact fun k_ h1 h2 h3 => (Below.heap_setCell _ _ _ k_ h2).trans ((Below.heap_setCell _ _ _ k_ h2).trans ((HB.out.block k_ (Nat.lt_of_lt_of_le h1 HWS.out)).trans (HK5.out k_ h1 h2 h3)))
        · rw [if_neg c3] at H
          exact absurd H (by simp)
      · rw [if_neg c2] at H
        exact absurd H (by simp)
end Go.Proofs.Ytmhkmlbmolikiaa.QF
