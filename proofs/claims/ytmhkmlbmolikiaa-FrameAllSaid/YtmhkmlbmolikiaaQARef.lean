/- The document's reader: its Put and Waits. -/
import Derived.Test.YtmhkmlbmolikiaaQARead
import Derived.Test.YtmhkmlbmolikiaaQAx1
import Derived.Outline
import Derived.WalkSpells
import Derived.IntWalk
import Derived.BigQuiet
import Derived.Deep.QuietTactic
set_option linter.unusedVariables false
set_option linter.unusedSimpArgs false
namespace Go.Proofs.Ytmhkmlbmolikiaa.QA
open Go.RowKit Go.Proofs.YtmhkmlbmolikiaaW.PrintWords Go.Proofs.YtmhkmlbmolikiaaW.PrintLast Go.Proofs.YtmhkmlbmolikiaaW.PrintMore Go.Proofs.Ytmhkmlbmolikiaa.FrameReader Go.Proofs.Ytmhkmlbmolikiaa.FrameMath Go.Proofs.Ytmhkmlbmolikiaa.OctetMath

/-- The document's reader's block. -/
def refOf (v : Value) (t e : Int) : Obj := .cells #[v, .int .i64 t, .int .i64 e] 31 (0, 0)
theorem cut_rows (A : Option Addr) (c : Nat) (xs : List (List Int)) (m : Nat) (hm : m ≤ xs.length) (hc : xs.length ≤ c) :
    ∃ A' : Option Addr, (∀ W : World, (Instr.slice 22 (.slice A xs.length c) (some (.int .i64 (m : Int))) none none).run Try.prog W = .ok (.slice A' (xs.drop m).length (c - m)) W) ∧
      (∀ W : World, Kd.C (Kd.slice 5 (Kd.int .u8)) W A xs.length xs → Kd.C (Kd.slice 5 (Kd.int .u8)) W A' (xs.drop m).length (xs.drop m)) ∧ (xs.drop m).length ≤ c - m := by
  obtain ⟨i06, hi06, _, hsz6, _⟩ := info_parts info28
  have ht : Try.prog.underlying 22 = some (.slice 28) := Try.underlying22
  have hl : (xs.drop m).length = xs.length - m := List.length_drop
  refine ⟨if c = m then A else A.map (·.add m), fun W => ?_, fun W h => ?_, by omega⟩
  · have hel : Try.prog.elem 22 = 28 := by simp [Program.elem, ht]
    have hu : Try.prog.underlying 22 = some (.slice (Try.prog.elem 22)) := by rw [hel]; exact ht
    rw [run_slice_l W 22 A xs.length c hu .i64 (m : Int) (Int.natCast_nonneg _) (by omega), hel, hl]
    simp [sizeOf, typeInfo, hi06, hsz6, sliced, Result.andThen]
  · have := Kd.C_drop h hm hc
    simpa [Kd.slice] using this
theorem rput_err (x : Nat) (v : Value) (t e : Int) (A : Option Addr) (n c : Nat) (w : World) (hx : w.heap[x]? = some (refOf v t e)) (he : e ≠ 0) :
    Calls Try.prog 13 #[.pointer (some ⟨x, 0, none⟩), .slice A n c] w fun en w' => en = .returned (.tuple #[.slice none 0 0, .int .i64 e]) ∧ Drawn0 w w' := by
  have c2 : w.cell? ⟨x, 2, none⟩ = some (.int .i64 e) := by rw [blk_cell hx]; rfl
  have hb : (e != 0) = true := bne_iff_ne.mpr he
  clear hx
  go_enter Try.func13, Try.ntmps13
  go_wp2
  go_quiet (fail)
  go_wp2
  go_ret2
  exact ⟨rfl, by repeat (first | exact Drawn0.refl _ | apply Drawn0.step)⟩
theorem rwaits_err (x : Nat) (v : Value) (t e : Int) (w : World) (hx : w.heap[x]? = some (refOf v t e)) (he : e ≠ 0) :
    Calls Try.prog 17 #[.pointer (some ⟨x, 0, none⟩)] w fun en w' => en = .returned (.int .i64 0) ∧ Below w.heap.size w w' := by
  have c2 : w.cell? ⟨x, 2, none⟩ = some (.int .i64 e) := by rw [blk_cell hx]; rfl
  have hb : (e != 0) = true := bne_iff_ne.mpr he
  have HB := Aside0.mk (Below.refl w.heap.size w)
  clear hx
  go_enter Try.func17, Try.ntmps17
  go_wp2
  go_ret
  exact ⟨rfl, (by repeat (first | (with_reducible first | exact HB.out | apply below_alloc | apply pw_below_drewN | apply below_drew1) | exact HB.out))⟩
theorem rwaits_calls (x : Nat) (v : Value) (t : Int) (y : List Int) (k : Nat) (fs : List (List Int)) (a n e : Int) (b : Nat) (w : World) (hx : w.heap[x]? = some (refOf v t 0)) (hv : Kd.R (Kd.int .u8) 5 w b (fun _ => True) v y)
    (h : touchstoneref3_read.f k y = some (fs, a, e)) (hn : wrap64 ((y.length : Int) - a) = n) :
    Calls Try.prog 17 #[.pointer (some ⟨x, 0, none⟩)] w fun en w' => en = .returned (.int .i64 n) ∧ Below w.heap.size w w' := by
  obtain ⟨Av, cv, rfl⟩ := Kd.R_slice hv
  have hrr := Kd.R_reads' hv
  have HVC := Aside0.mk hrr.2.2
  have HVc := Aside0.mk hrr.2.1
  have c0 : w.cell? ⟨x, 0, none⟩ = some (.slice Av y.length cv) := by rw [blk_cell hx]; rfl
  have c2 : w.cell? ⟨x, 2, none⟩ = some (.int .i64 0) := by rw [blk_cell hx]; rfl
  have HX := Aside0.mk hx
  have HH := Aside0.mk h
  have HB := Aside0.mk (Below.refl w.heap.size w)
  clear hx hv hrr h
  go_enter Try.func17, Try.ntmps17
  go_wp2_with (first | (go_at_call 24; (with_reducible refine (touchstoneref3_read.calls k Av cv y fs a e _ ?s1 HVc.out HH.out).mono ?_); (case s1 => repeat (first | exact HVC.out | (with_reducible refine Kd.C_alloc ?_ _) | (with_reducible refine Kd.C_drewN ?_ _) | (with_reducible refine Kd.C_drew ?_))); rintro en wz ⟨vl, rfl, _, hb⟩; have HX' := Aside0.mk (blk_below (by repeat (first | exact HX.out | (with_reducible refine blk_drewN ?_ _) | (with_reducible refine blk_drew ?_) | (with_reducible refine blk_alloc ?_ _))) hb); have HB' := Aside0.mk (below_step (by repeat (first | (with_reducible first | exact HB.out | apply below_alloc | apply pw_below_drewN | apply below_drew1) | exact HB.out)) hb); clear HB hb HX; have HB := HB'; have HX := HX'; clear HB' HX'; have c0z := blk_cell HX.out 0; (try simp only [List.getElem?_toArray, List.getElem?_cons_succ, List.getElem?_cons_zero] at c0z)))
  go_ret
  refine ⟨?_, (by repeat (first | (with_reducible first | exact HB.out | apply below_alloc | apply pw_below_drewN | apply below_drew1) | exact HB.out))⟩
  show Ending.returned (.int .i64 (wrap64 ((y.length : Int) - a))) = _
  rw [hn]
/-- What the document's Put leaves behind. -/
def RefPost (x B : Nat) (z : List Int) (fs : List (List Int)) (t : Nat) (e : Int) (w : World) (en : Ending) (w' : World) : Prop :=
  ∃ (Ao : Option Addr) (co : Nat) (v' : Value), en = .returned (.tuple #[.slice Ao (fs.drop t).length co, .int .i64 e]) ∧ (fs.drop t).length ≤ co ∧ Kd.C (Kd.slice 5 (Kd.int .u8)) w' Ao (fs.drop t).length (fs.drop t) ∧
      w'.heap[x]? = some (refOf v' (fs.length : Int) e) ∧ Kd.R (Kd.int .u8) 5 w' w.heap.size (fun _ => True) v' z ∧ Below B w w' ∧ (∀ k_, k_ < w.heap.size → k_ ≠ x → w'.heap[k_]? = w.heap[k_]?)
set_option maxHeartbeats 8000000 in
set_option maxRecDepth 100000 in
theorem rput_calls (x B : Nat) (v : Value) (y : List Int) (A : Option Addr) (c : Nat) (l z : List Int) (k : Nat) (fs : List (List Int)) (a e : Int) (t : Nat) (w : World) (hx : w.heap[x]? = some (refOf v (t : Int) 0)) (hv : Kd.R (Kd.int .u8) 5 w B (fun _ => True) v y) (hB : B ≤ x)
    (hl : Kd.C (Kd.int .u8) w A l.length l) (hc : l.length ≤ c) (hlen : y.length + l.length ≤ 10000000000) (hz : z = y ++ l) (h : touchstoneref3_read.f k z = some (fs, a, e)) (ht : t ≤ fs.length) :
    Calls Try.prog 13 #[.pointer (some ⟨x, 0, none⟩), .slice A l.length c] w (RefPost x B z fs t e w) := by
  obtain ⟨Av, cv, rfl⟩ := Kd.R_slice hv
  have hrr := Kd.R_reads' hv
  have HVC := Aside0.mk hrr.2.2
  have c0 : w.cell? ⟨x, 0, none⟩ = some (.slice Av y.length cv) := by rw [blk_cell hx]; rfl
  have c2 : w.cell? ⟨x, 2, none⟩ = some (.int .i64 0) := by rw [blk_cell hx]; rfl
  have HXL := Aside0.mk (blk_lt hx)
  have HX := Aside0.mk hx
  have HLC := Aside0.mk hl
  have HZ := Aside0.mk hz
  have HH := Aside0.mk h
  have HT := Aside0.mk ht
  have HN1 : Aside0 (((([] : List Int).length + y.length) * 1 ≤ 140737488355328)) := ⟨by simp only [List.length_nil]; omega⟩
  have HN2 : Aside0 ((y.length + l.length) * 1 ≤ 140737488355328) := ⟨by omega⟩
  have HB := Aside0.mk (Below.refl w.heap.size w)
  have HBX := Aside0.mk hB
  have HBW : Aside0 (B ≤ w.heap.size) := ⟨Nat.le_trans hB (Nat.le_of_lt HXL.out)⟩
  have HX0 := HX
  clear hx hv hrr hl hz h ht
  go_enter Try.func13, Try.ntmps13
  go_wp2_with (first | ((with_reducible refine gate_dst (N := 20) rfl ?_); refine Kd.R_lit (Kd.int .u8) _ 5 ?hg (N := 20) ?hd (xs := ([] : List Int)) (inner := []) (ok := fun _ => True) (okp := fun _ => True) ?hr ?hp (fun _ hk => hk) trivial (Below.refl _ _) (Nat.le_refl _) (by simp) ?_; (case hd => rfl); (case hg => rfl); (case hr => first | (go_simp; done) | (go_simp; rfl)); (case hp => exact (Reps.none _ _)); intro v20 w20 ho hb hg_ hnew_; clear hg_ hnew_; have HO := Aside0.mk (Kd.R_lower ho (below_size (by repeat (first | (with_reducible first | exact HB.out | apply below_alloc | apply pw_below_drewN | apply below_drew1) | exact HB.out)))); have HB' := Aside0.mk (below_step (by repeat (first | (with_reducible first | exact HB.out | apply below_alloc | apply pw_below_drewN | apply below_drew1) | exact HB.out)) hb); have HX' := Aside0.mk (blk_below (by repeat (first | exact HX.out | (with_reducible refine blk_drewN ?_ _) | (with_reducible refine blk_drew ?_) | (with_reducible refine blk_alloc ?_ _))) hb); clear HB HX hb ho; have HB := HB'; have HX := HX'; clear HB' HX'; have c0z := blk_cell HX.out 0; (try simp only [List.getElem?_toArray, List.getElem?_cons_succ, List.getElem?_cons_zero] at c0z)) | ((with_reducible refine gate_builtin (b := .append) (xs := #[.tmp 20, .tmp 24]) rfl ?_); at_builtin; refine Kd.R_append_rows (Kd.int .u8) (w0 := w) w.heap.size rfl (.tmp 20) (.tmp 24) 28 5 (.int .u8 0) 1 rfl Try.underlying28 info5 rfl (by decide) (by omega) v20 [] y _ _ _ (fun _ => True) (fun _ => False) rfl rfl ?aO ?aR (fun _ _ h => h) (fun _ h => h.elim) ?aF ?aB ?aS ?aL ?_; (case aO => exact (by (with_reducible repeat (first | apply Kd.R_alloc | apply Kd.R_drewN | apply Kd.R_drew)); exact HO.out)); (case aR => repeat (first | exact (Kd.C_below HVC.out HB.out) | (with_reducible refine Kd.C_alloc ?_ _) | (with_reducible refine Kd.C_drewN ?_ _) | (with_reducible refine Kd.C_drew ?_))); (case aF => exact fun _ _ => trivial); (case aB => exact (by repeat (first | (with_reducible first | exact HB.out | apply below_alloc | apply pw_below_drewN | apply below_drew1) | exact HB.out))); (case aS => exact below_size (by repeat (first | (with_reducible first | exact HB.out | apply below_alloc | apply pw_below_drewN | apply below_drew1) | exact HB.out))); (case aL => exact HN1.out); intro v25 v25w ho hb hgr hat; rw [List.nil_append] at ho; have HX' := Aside0.mk ((hb.block x HXL.out).trans HX0.out); clear HO HB HX hgr hat; have HO := Aside0.mk ho; have HB := Aside0.mk hb; have HX := HX'; clear HX' ho hb) | ((with_reducible refine gate_builtin (b := .append) (xs := #[.tmp 25, .tmp 26]) rfl ?_); at_builtin; refine Kd.R_append_rows (Kd.int .u8) (w0 := w) w.heap.size rfl (.tmp 25) (.tmp 26) 28 5 (.int .u8 0) 1 rfl Try.underlying28 info5 rfl (by decide) (by omega) v25 y l _ _ _ (fun _ => True) (fun _ => False) rfl rfl ?aO ?aR (fun _ _ h => h) (fun _ h => h.elim) ?aF ?aB ?aS ?aL ?_; (case aO => exact (by (with_reducible repeat (first | apply Kd.R_alloc | apply Kd.R_drewN | apply Kd.R_drew)); exact HO.out)); (case aR => repeat (first | exact (Kd.C_below HLC.out HB.out) | (with_reducible refine Kd.C_alloc ?_ _) | (with_reducible refine Kd.C_drewN ?_ _) | (with_reducible refine Kd.C_drew ?_))); (case aF => exact fun _ _ => trivial); (case aB => exact (by repeat (first | (with_reducible first | exact HB.out | apply below_alloc | apply pw_below_drewN | apply below_drew1) | exact HB.out))); (case aS => exact below_size (by repeat (first | (with_reducible first | exact HB.out | apply below_alloc | apply pw_below_drewN | apply below_drew1) | exact HB.out))); (case aL => exact HN2.out); intro v27 v27w ho hb hgr hat; rw [← HZ.out] at ho; obtain ⟨A27, c27, e27⟩ := Kd.R_slice ho; subst e27; have HX' := Aside0.mk ((hb.block x HXL.out).trans HX0.out); clear HO HB HX hgr hat; have HO := Aside0.mk ho; have HB := Aside0.mk hb; have HX := HX'; clear HX' ho hb; have c27_ := blk_cell HX.out 0; have f27_ := blk_frozen HX.out 0; (try simp only [List.getElem?_toArray, List.getElem?_cons_succ, List.getElem?_cons_zero] at c27_); have HXS : Aside0 ((v27w.setCell ⟨x, 0, none⟩ (.slice A27 z.length c27)).heap[x]? = some (refOf (.slice A27 z.length c27) (t : Int) 0)) := ⟨by rw [blk_set HX.out]; rfl⟩; have cs0 := blk_cell HXS.out 0; have cs1 := blk_cell HXS.out 1; (try simp only [List.getElem?_toArray, List.getElem?_cons_succ, List.getElem?_cons_zero] at cs0 cs1); have HO5 := Aside0.mk (Kd.R_set HO.out HX.out (by decide) 0 (.slice A27 z.length c27)); have hrr := Kd.R_reads' HO5.out; have HC5 := Aside0.mk hrr.2.2; have Hc5 := Aside0.mk hrr.2.1; have HBB := Aside0.mk ((HB.out.mono HBW.out).setCell (p := ⟨x, 0, none⟩) HBX.out (.slice A27 z.length c27)); have HK : Aside0 (∀ k_, k_ < w.heap.size → k_ ≠ x → (v27w.setCell ⟨x, 0, none⟩ (.slice A27 z.length c27)).heap[k_]? = w.heap[k_]?) := ⟨fun k_ h1_ h2_ => (Below.heap_setCell _ _ _ k_ h2_).trans (HB.out.block k_ h1_)⟩; have HWS : Aside0 (w.heap.size ≤ (v27w.setCell ⟨x, 0, none⟩ (.slice A27 z.length c27)).heap.size) := ⟨HBB.out.size⟩; clear hrr) | (go_at_call 24; (with_reducible refine (touchstoneref3_read.calls k A27 c27 z fs a e _ HC5.out Hc5.out HH.out).mono ?_); rintro en wz ⟨vl, rfl, hs, hb⟩; clear HX HO HB; have HX := Aside0.mk (blk_below HXS.out hb); have HO := Aside0.mk (Kd.R_below HO5.out hb); have HBB' := Aside0.mk (HBB.out.trans (hb.mono (Nat.le_trans HBW.out HWS.out))); have HK' : Aside0 (∀ k_, k_ < w.heap.size → k_ ≠ x → wz.heap[k_]? = w.heap[k_]?) := ⟨fun k_ h1_ h2_ => (hb.block k_ (Nat.lt_of_lt_of_le h1_ HWS.out)).trans (HK.out k_ h1_ h2_)⟩; clear HBB HK hb; have HBB := HBB'; have HK := HK'; clear HBB' HK'; have HSL := Aside0.mk hs; clear hs; obtain ⟨Al, cl, el⟩ := Kd.S_slice HSL.out; subst el; obtain ⟨A9, hcut9, hA9, hC9⟩ := cut_rows Al cl fs t HT.out (Kd.S_reads' HSL.out).2.1; have c91 := blk_cell HX.out 1; have f91 := blk_frozen HX.out 1; have c92 := blk_cell HX.out 2; have f92 := blk_frozen HX.out 2; (try simp only [List.getElem?_toArray, List.getElem?_cons_succ, List.getElem?_cons_zero] at c91 c92)))
  go_ret2
  refine ⟨A9, cl - t, .slice A27 z.length c27, by rw [List.length_drop]; rfl, hC9, ?_, ?_, ?_, ?_, ?_⟩
  · exact hA9 _ (Kd.S_reads' (Kd.S_set (Kd.S_set HSL.out HX.out (by decide) 1 (.int .i64 (fs.length : Int))) (blk_set HX.out 1 (.int .i64 (fs.length : Int))) (by decide) 2 (.int .i64 e))).2.2
  · rw [blk_set (blk_set HX.out 1 (.int .i64 (fs.length : Int))) 2 (.int .i64 e)]; rfl
  · exact Kd.R_set (Kd.R_set HO.out HX.out (by decide) 1 (.int .i64 (fs.length : Int))) (blk_set HX.out 1 (.int .i64 (fs.length : Int))) (by decide) 2 (.int .i64 e)
  · exact (HBB.out.setCell (p := ⟨x, 1, none⟩) hB _).setCell (p := ⟨x, 2, none⟩) hB _
  · exact fun k_ h1 h2 => (Below.heap_setCell _ _ _ k_ h2).trans ((Below.heap_setCell _ _ _ k_ h2).trans (HK.out k_ h1 h2))
end Go.Proofs.Ytmhkmlbmolikiaa.QA
