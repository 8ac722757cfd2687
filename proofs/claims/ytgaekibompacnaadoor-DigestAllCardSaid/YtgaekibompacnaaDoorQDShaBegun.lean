/- Digest's begun is true: the sums of no text, and of abc, are reckoned by the kernel. -/
import Derived.Test.YtgaekibompacnaaDoorQDShaSum
import Derived.Test.YtgaekibompacnaaDoorQDCut
set_option linter.unusedVariables false
set_option linter.unusedSimpArgs false
namespace Go.Proofs.YtgaekibompacnaaDoor.QD
open Go.RowKit Go.Proofs.YtgaekibompacnaaDoorW.PrintWords Go.Proofs.YtgaekibompacnaaDoorW.PrintLast Go.Proofs.YtgaekibompacnaaDoorW.PrintMore
theorem conv_new (W : World) (C : Array Value) (n c : Nat) : (convert 22 22 (.slice (some ⟨W.heap.size, 0, none⟩) n c)).run Tryd.prog (W.alloc (.cells C 5)) = .ok (.slice (some ⟨W.heap.size, 0, none⟩) n c) (W.alloc (.cells C 5 (C.size, C.size + 1))) := by
  have hs := Tryd.underlying22
  have he := Tryd.underlying5
  have hsh : (W.alloc (.cells C 5)).shape? W.heap.size = some (5, C.size) := by
    have := blk_new W (.cells C 5)
    unfold World.shape?
    rw [this]
  have hfr : (W.alloc (.cells C 5)).freeze ⟨W.heap.size, C.size, none⟩ 1 = W.alloc (.cells C 5 (C.size, C.size + 1)) := by
    have hm : ∀ (a : Array Obj) (x : Obj) (f : Obj → Obj), (a.push x).modify a.size f = a.push (f x) := by
      intro a x f
      apply Array.ext
      · simp
      · intro i h1 h2
        simp only [Array.getElem_modify, Array.getElem_push]
        by_cases h : a.size = i
        · subst h
          simp
        · have hi : i < a.size := by simp at h1; omega
          simp [h, hi]
    unfold World.freeze
    rw [if_neg (by decide)]
    show ({ W.alloc (.cells C 5) with heap := (W.heap.push (.cells C 5)).modify W.heap.size _ } : World) = _
    rw [hm]
    rfl
  simp [convert, run_underlying hs, run_underlying he, markStringish, hsh]
  exact hfr
/-- A block of bytes is read as its bytes. -/
theorem octs_C {W : World} {g : Nat} {fr : Nat × Nat} {l : List Int} (h : W.heap[g]? = some (.cells (octs l) 5 fr)) (hl : l.length ≤ 140737488351232) : Kd.C (Kd.int .u8) W (some ⟨g, 0, none⟩) l.length l := by
  have hrt : ReadsInt W .u8 (some ⟨g, 0, none⟩) l.length l := ⟨rfl, by omega, fun hn => ⟨_, rfl, fun j hj => by
    rw [add_plain, cell_of_row _ _ _ _ _ _ h]
    simp [octs, List.getD_eq_getElem?_getD, List.getElem?_eq_getElem hj]⟩⟩
  exact Kd.C_of_reads (d := (0 : Int)) (h1 := fun _ => rfl) hrt
theorem sha_nil : (octs (shaL []))[0]? = some (.int .u8 227) ∧ (octs (shaL []))[31]? = some (.int .u8 85) := by
  have h0 : (shaL [])[0]? = some 227 := by decide +kernel
  have h1 : (shaL [])[31]? = some 85 := by decide +kernel
  constructor
  · simp [octs, h0]
  · simp [octs, h1]
theorem sha_abc : (octs (shaL [97, 98, 99]))[0]? = some (.int .u8 186) ∧ (octs (shaL [97, 98, 99]))[31]? = some (.int .u8 173) := by
  have h0 : (shaL [97, 98, 99])[0]? = some 186 := by decide +kernel
  have h1 : (shaL [97, 98, 99])[31]? = some 173 := by decide +kernel
  constructor
  · simp [octs, h0]
  · simp [octs, h1]
set_option maxRecDepth 100000 in
set_option maxHeartbeats 8000000 in
theorem begun_calls (w : World) (hk : Laid w) : Calls Tryd.prog 10 #[] w fun en w' => en = .returned (.bool true) ∧ Below w.heap.size w w' := by
  have HK : Aside0 (∀ W : World, Below w.heap.size w W → Laid W) := ⟨fun W hW => hk.below hW⟩
  have HB := Aside0.mk (Below.refl w.heap.size w)
  obtain ⟨s1, hs1⟩ : ∃ s_, s_ = shaL ([] : List (List Int)).flatten := ⟨_, rfl⟩
  have HS1 := Aside0.mk hs1
  obtain ⟨a0, a31⟩ := sha_nil
  rw [show shaL [] = s1 from hs1.symm] at a0 a31
  have hl1 : s1.length = 32 := by rw [hs1]; exact shaL_len _
  obtain ⟨s2, hs2⟩ : ∃ s_, s_ = shaL ([[97, 98], [99]] : List (List Int)).flatten := ⟨_, rfl⟩
  have HS2 := Aside0.mk hs2
  obtain ⟨b0, b31⟩ := sha_abc
  rw [show shaL [97, 98, 99] = s2 from hs2.symm] at b0 b31
  have hl2 : s2.length = 32 := by rw [hs2]; exact shaL_len _
  have HI1 : Aside0 ((Tryd.prog.info? 25).map (·.size) = some (octs s1).size) := ⟨by rw [octs_size hl1]; kernel_rfl⟩
  have HI2 : Aside0 ((Tryd.prog.info? 25).map (·.size) = some (octs s2).size) := ⟨by rw [octs_size hl2]; kernel_rfl⟩
  have HO1 : Aside0 ((#[.int .u8 0, .int .u8 0, .int .u8 0, .int .u8 0, .int .u8 0, .int .u8 0, .int .u8 0, .int .u8 0, .int .u8 0, .int .u8 0, .int .u8 0, .int .u8 0, .int .u8 0, .int .u8 0, .int .u8 0, .int .u8 0, .int .u8 0, .int .u8 0, .int .u8 0, .int .u8 0, .int .u8 0, .int .u8 0, .int .u8 0, .int .u8 0, .int .u8 0, .int .u8 0, .int .u8 0, .int .u8 0, .int .u8 0, .int .u8 0, .int .u8 0, .int .u8 0] : Array Value).size = (octs s1).size) := ⟨by rw [octs_size hl1]; rfl⟩
  have HO2 : Aside0 ((#[.int .u8 0, .int .u8 0, .int .u8 0, .int .u8 0, .int .u8 0, .int .u8 0, .int .u8 0, .int .u8 0, .int .u8 0, .int .u8 0, .int .u8 0, .int .u8 0, .int .u8 0, .int .u8 0, .int .u8 0, .int .u8 0, .int .u8 0, .int .u8 0, .int .u8 0, .int .u8 0, .int .u8 0, .int .u8 0, .int .u8 0, .int .u8 0, .int .u8 0, .int .u8 0, .int .u8 0, .int .u8 0, .int .u8 0, .int .u8 0, .int .u8 0, .int .u8 0] : Array Value).size = (octs s2).size) := ⟨by rw [octs_size hl2]; rfl⟩
  have A0 := Aside0.mk a0
  have A31 := Aside0.mk a31
  have B0 := Aside0.mk b0
  have B31 := Aside0.mk b31
  clear hs1 hs2 hl1 hl2 a0 a31 b0 b31 hk
  go_enter Tryd.func10, Tryd.ntmps10
  go_wp2_with (first | (go_at_call 11; refine (sum_calls A8 c8 [[97, 98], [99]] _ (HK.out _ (by repeat (first | (with_reducible first | exact HB.out | apply below_alloc | apply pw_below_drewN | apply below_drew1) | exact HB.out))) ?s1 Hc8.out (by decide) (by decide)).mono ?_; (case s1 => repeat (first | exact HC8.out | (with_reducible refine Kd.C_alloc ?_ _) | (with_reducible refine Kd.C_drewN ?_ _) | (with_reducible refine Kd.C_drew ?_))); rintro en wz ⟨rfl, hb⟩; rw [← HS2.out]; clear HC8 Hc8; have HB' := Aside0.mk (below_step (by repeat (first | (with_reducible first | exact HB.out | apply below_alloc | apply pw_below_drewN | apply below_drew1) | exact HB.out)) hb); have HG1' := Aside0.mk (blk_below (by repeat (first | exact HG1.out | (with_reducible refine blk_drewN ?_ _) | (with_reducible refine blk_drew ?_) | (with_reducible refine blk_alloc ?_ _))) hb); clear hb HB HG1; have HB := HB'; have HG1 := HG1'; clear HB' HG1') | (go_at_call 11; refine (sum_calls none 0 [] _ (HK.out _ (by repeat (first | (with_reducible first | exact HB.out | apply below_alloc | apply pw_below_drewN | apply below_drew1) | exact HB.out))) (Kd.C_nil _ _) (Nat.le_refl _) (by decide) (by decide)).mono ?_; rintro en wz ⟨rfl, hb⟩; rw [← HS1.out]; have HB' := Aside0.mk (below_step (by repeat (first | (with_reducible first | exact HB.out | apply below_alloc | apply pw_below_drewN | apply below_drew1) | exact HB.out)) hb); clear hb HB; have HB := HB'; clear HB') | ((with_reducible refine gate_store (t := 25) (p := 1) (v := .tmp 3) rfl ?_); refine wpList_store_row rfl 25 (.tmp 1) (.tmp 3) rfl wz.heap.size (octs s1) rfl rfl 25 _ (blk_new wz (.cells #[.int .u8 0, .int .u8 0, .int .u8 0, .int .u8 0, .int .u8 0, .int .u8 0, .int .u8 0, .int .u8 0, .int .u8 0, .int .u8 0, .int .u8 0, .int .u8 0, .int .u8 0, .int .u8 0, .int .u8 0, .int .u8 0, .int .u8 0, .int .u8 0, .int .u8 0, .int .u8 0, .int .u8 0, .int .u8 0, .int .u8 0, .int .u8 0, .int .u8 0, .int .u8 0, .int .u8 0, .int .u8 0, .int .u8 0, .int .u8 0, .int .u8 0, .int .u8 0] 25)) HI1.out HO1.out (octs_one s1) ?_; have HG1 := Aside0.mk (setRow_heap (wz.alloc (.cells #[.int .u8 0, .int .u8 0, .int .u8 0, .int .u8 0, .int .u8 0, .int .u8 0, .int .u8 0, .int .u8 0, .int .u8 0, .int .u8 0, .int .u8 0, .int .u8 0, .int .u8 0, .int .u8 0, .int .u8 0, .int .u8 0, .int .u8 0, .int .u8 0, .int .u8 0, .int .u8 0, .int .u8 0, .int .u8 0, .int .u8 0, .int .u8 0, .int .u8 0, .int .u8 0, .int .u8 0, .int .u8 0, .int .u8 0, .int .u8 0, .int .u8 0, .int .u8 0] 25)) wz.heap.size _ (octs s1) _ _ (blk_new wz (.cells #[.int .u8 0, .int .u8 0, .int .u8 0, .int .u8 0, .int .u8 0, .int .u8 0, .int .u8 0, .int .u8 0, .int .u8 0, .int .u8 0, .int .u8 0, .int .u8 0, .int .u8 0, .int .u8 0, .int .u8 0, .int .u8 0, .int .u8 0, .int .u8 0, .int .u8 0, .int .u8 0, .int .u8 0, .int .u8 0, .int .u8 0, .int .u8 0, .int .u8 0, .int .u8 0, .int .u8 0, .int .u8 0, .int .u8 0, .int .u8 0, .int .u8 0, .int .u8 0] 25))); have HB' := Aside0.mk (below_setRow (g := wz.heap.size) (below_alloc HB.out (.cells #[.int .u8 0, .int .u8 0, .int .u8 0, .int .u8 0, .int .u8 0, .int .u8 0, .int .u8 0, .int .u8 0, .int .u8 0, .int .u8 0, .int .u8 0, .int .u8 0, .int .u8 0, .int .u8 0, .int .u8 0, .int .u8 0, .int .u8 0, .int .u8 0, .int .u8 0, .int .u8 0, .int .u8 0, .int .u8 0, .int .u8 0, .int .u8 0, .int .u8 0, .int .u8 0, .int .u8 0, .int .u8 0, .int .u8 0, .int .u8 0, .int .u8 0, .int .u8 0] 25)) (below_size HB.out) (octs s1)); clear HB ; have HB := HB'; clear HB' ; generalize (wz.alloc (.cells #[.int .u8 0, .int .u8 0, .int .u8 0, .int .u8 0, .int .u8 0, .int .u8 0, .int .u8 0, .int .u8 0, .int .u8 0, .int .u8 0, .int .u8 0, .int .u8 0, .int .u8 0, .int .u8 0, .int .u8 0, .int .u8 0, .int .u8 0, .int .u8 0, .int .u8 0, .int .u8 0, .int .u8 0, .int .u8 0, .int .u8 0, .int .u8 0, .int .u8 0, .int .u8 0, .int .u8 0, .int .u8 0, .int .u8 0, .int .u8 0, .int .u8 0, .int .u8 0] 25)).setRow wz.heap.size (octs s1) = wa1 at *; generalize wz.heap.size = ga1 at *) | ((with_reducible refine gate_dst (N := 5) rfl ?_); refine Kd.event_run (v := .slice (some ⟨wa1.heap.size, 0, none⟩) 2 2) (w1 := wa1.alloc (.cells (octs [97, 98]) 5 (2, 3))) rfl ?hr ?_; (case hr => (go_simp; (first | done | (rw [show wa1.alloc (Obj.cells #[.int .u8 97, .int .u8 98] 5) = wa1.alloc (.cells (octs [97, 98]) 5) from rfl, conv_new wa1 (octs [97, 98]) 2 2]; rfl)))); have HX4 := Aside0.mk (octs_C (blk_new wa1 (.cells (octs [97, 98]) 5 (2, 3))) (by decide)); have HB' := Aside0.mk (below_alloc HB.out (.cells (octs [97, 98]) 5 (2, 3))); have HG1' := Aside0.mk (blk_alloc HG1.out (.cells (octs [97, 98]) 5 (2, 3))); clear HB HG1; have HB := HB'; have HG1 := HG1'; clear HB' HG1'; generalize wa1.alloc (.cells (octs [97, 98]) 5 (2, 3)) = wb at *; generalize wa1.heap.size = wbn at *) | ((with_reducible refine gate_dst (N := 7) rfl ?_); refine Kd.event_run (v := .slice (some ⟨wb.heap.size, 0, none⟩) 1 1) (w1 := wb.alloc (.cells (octs [99]) 5 (1, 2))) rfl ?hr ?_; (case hr => (go_simp; (first | done | (rw [show wb.alloc (Obj.cells #[.int .u8 99] 5) = wb.alloc (.cells (octs [99]) 5) from rfl, conv_new wb (octs [99]) 1 1]; rfl)))); have HX6 := Aside0.mk (octs_C (blk_new wb (.cells (octs [99]) 5 (1, 2))) (by decide)); have HB' := Aside0.mk (below_alloc HB.out (.cells (octs [99]) 5 (1, 2))); have HG1' := Aside0.mk (blk_alloc HG1.out (.cells (octs [99]) 5 (1, 2))); have HX4' := Aside0.mk (Kd.C_alloc HX4.out (.cells (octs [99]) 5 (1, 2))); clear HB HG1 HX4; have HB := HB'; have HG1 := HG1'; have HX4 := HX4'; clear HB' HG1' HX4'; generalize wb.alloc (.cells (octs [99]) 5 (1, 2)) = wc at *; generalize wb.heap.size = wcn at *) | ((with_reducible refine gate_dst (N := 8) rfl ?_); refine Kd.N_lit (Kd.slice 5 (Kd.int .u8)) w.heap.size 22 ?hg (N' := 8) ?hd (xs := ([[97, 98], [99]] : List (List Int))) (inner := [.slice (some ⟨wbn, 0, none⟩) 2 2, .slice (some ⟨wcn, 0, none⟩) 1 1]) (ok := fun _ => True) (okp := fun k_ => k_ < wc.heap.size) ?hr ?hp (fun _ _ => trivial) trivial HB.out (below_size HB.out) (by decide) ?_; (case hd => rfl); (case hg => rfl); (case hr => first | (go_simp; done) | (go_simp; rfl)); (case hp => exact Reps.one (fk_slice (Kd.C_F (Kd.heap_int _) HX4.out) (Nat.le_refl _)) (Reps.one (fk_slice (Kd.C_F (Kd.heap_int _) HX6.out) (Nat.le_refl _)) (Reps.none _ _))); intro v8 wl ho hb hg_ hnew_; have HG1' := Aside0.mk (blk_grown HG1.out hg_ (by simp)); clear HB hnew_ hg_ HG1 HX4 HX6; have HB := Aside0.mk hb; have HG1 := HG1'; obtain ⟨A8, c8, e8⟩ := Kd.N_slice ho; subst e8; have hrr := Kd.N_reads' ho; have HC8 := Aside0.mk hrr.2.2; have Hc8 := Aside0.mk hrr.2.1; clear hb ho hrr HG1') | ((with_reducible refine gate_store (t := 25) (p := 2) (v := .tmp 9) rfl ?_); refine wpList_store_row rfl 25 (.tmp 2) (.tmp 9) rfl wz.heap.size (octs s2) rfl rfl 25 _ (blk_new wz (.cells #[.int .u8 0, .int .u8 0, .int .u8 0, .int .u8 0, .int .u8 0, .int .u8 0, .int .u8 0, .int .u8 0, .int .u8 0, .int .u8 0, .int .u8 0, .int .u8 0, .int .u8 0, .int .u8 0, .int .u8 0, .int .u8 0, .int .u8 0, .int .u8 0, .int .u8 0, .int .u8 0, .int .u8 0, .int .u8 0, .int .u8 0, .int .u8 0, .int .u8 0, .int .u8 0, .int .u8 0, .int .u8 0, .int .u8 0, .int .u8 0, .int .u8 0, .int .u8 0] 25)) HI2.out HO2.out (octs_one s2) ?_; have HG2 := Aside0.mk (setRow_heap (wz.alloc (.cells #[.int .u8 0, .int .u8 0, .int .u8 0, .int .u8 0, .int .u8 0, .int .u8 0, .int .u8 0, .int .u8 0, .int .u8 0, .int .u8 0, .int .u8 0, .int .u8 0, .int .u8 0, .int .u8 0, .int .u8 0, .int .u8 0, .int .u8 0, .int .u8 0, .int .u8 0, .int .u8 0, .int .u8 0, .int .u8 0, .int .u8 0, .int .u8 0, .int .u8 0, .int .u8 0, .int .u8 0, .int .u8 0, .int .u8 0, .int .u8 0, .int .u8 0, .int .u8 0] 25)) wz.heap.size _ (octs s2) _ _ (blk_new wz (.cells #[.int .u8 0, .int .u8 0, .int .u8 0, .int .u8 0, .int .u8 0, .int .u8 0, .int .u8 0, .int .u8 0, .int .u8 0, .int .u8 0, .int .u8 0, .int .u8 0, .int .u8 0, .int .u8 0, .int .u8 0, .int .u8 0, .int .u8 0, .int .u8 0, .int .u8 0, .int .u8 0, .int .u8 0, .int .u8 0, .int .u8 0, .int .u8 0, .int .u8 0, .int .u8 0, .int .u8 0, .int .u8 0, .int .u8 0, .int .u8 0, .int .u8 0, .int .u8 0] 25))); have HB' := Aside0.mk (below_setRow (g := wz.heap.size) (below_alloc HB.out (.cells #[.int .u8 0, .int .u8 0, .int .u8 0, .int .u8 0, .int .u8 0, .int .u8 0, .int .u8 0, .int .u8 0, .int .u8 0, .int .u8 0, .int .u8 0, .int .u8 0, .int .u8 0, .int .u8 0, .int .u8 0, .int .u8 0, .int .u8 0, .int .u8 0, .int .u8 0, .int .u8 0, .int .u8 0, .int .u8 0, .int .u8 0, .int .u8 0, .int .u8 0, .int .u8 0, .int .u8 0, .int .u8 0, .int .u8 0, .int .u8 0, .int .u8 0, .int .u8 0] 25)) (below_size HB.out) (octs s2)); have HG1' := Aside0.mk ((setRow_other (wz.alloc (.cells #[.int .u8 0, .int .u8 0, .int .u8 0, .int .u8 0, .int .u8 0, .int .u8 0, .int .u8 0, .int .u8 0, .int .u8 0, .int .u8 0, .int .u8 0, .int .u8 0, .int .u8 0, .int .u8 0, .int .u8 0, .int .u8 0, .int .u8 0, .int .u8 0, .int .u8 0, .int .u8 0, .int .u8 0, .int .u8 0, .int .u8 0, .int .u8 0, .int .u8 0, .int .u8 0, .int .u8 0, .int .u8 0, .int .u8 0, .int .u8 0, .int .u8 0, .int .u8 0] 25)) wz.heap.size _ (octs s2) (Nat.ne_of_lt (blk_lt HG1.out))).trans (blk_alloc HG1.out (.cells #[.int .u8 0, .int .u8 0, .int .u8 0, .int .u8 0, .int .u8 0, .int .u8 0, .int .u8 0, .int .u8 0, .int .u8 0, .int .u8 0, .int .u8 0, .int .u8 0, .int .u8 0, .int .u8 0, .int .u8 0, .int .u8 0, .int .u8 0, .int .u8 0, .int .u8 0, .int .u8 0, .int .u8 0, .int .u8 0, .int .u8 0, .int .u8 0, .int .u8 0, .int .u8 0, .int .u8 0, .int .u8 0, .int .u8 0, .int .u8 0, .int .u8 0, .int .u8 0] 25))); clear HB HG1; have HB := HB'; have HG1 := HG1'; clear HB' HG1'; generalize (wz.alloc (.cells #[.int .u8 0, .int .u8 0, .int .u8 0, .int .u8 0, .int .u8 0, .int .u8 0, .int .u8 0, .int .u8 0, .int .u8 0, .int .u8 0, .int .u8 0, .int .u8 0, .int .u8 0, .int .u8 0, .int .u8 0, .int .u8 0, .int .u8 0, .int .u8 0, .int .u8 0, .int .u8 0, .int .u8 0, .int .u8 0, .int .u8 0, .int .u8 0, .int .u8 0, .int .u8 0, .int .u8 0, .int .u8 0, .int .u8 0, .int .u8 0, .int .u8 0, .int .u8 0] 25)).setRow wz.heap.size (octs s2) = wa2 at *; generalize wz.heap.size = ga2 at *; have x0 := (blk_cell HG1.out 0).trans A0.out; have x31 := (blk_cell HG1.out 31).trans A31.out; have y0 := (blk_cell HG2.out 0).trans B0.out; have y31 := (blk_cell HG2.out 31).trans B31.out))
  go_ret
  exact ⟨rfl, (by repeat (first | (with_reducible first | exact HB.out | apply below_alloc | apply pw_below_drewN | apply below_drew1) | exact HB.out))⟩
end Go.Proofs.YtgaekibompacnaaDoor.QD
