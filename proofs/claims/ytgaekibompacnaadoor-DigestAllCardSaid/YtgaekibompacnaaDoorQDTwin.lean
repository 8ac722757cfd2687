/- The contracts of the statements' Twin, Kept and Spoil: a twin's whole block is known, its spare room too. -/
import Derived.Test.YtgaekibompacnaaDoorProg
import Derived.Test.YtgaekibompacnaaDoorXWords
import Derived.WalkKit
import Derived.LoopTactic
import Derived.Outline
import Derived.Laws.CopyOwn
import Derived.Lib.Hide
import Derived.KernelRfl
import Derived.RowKit3
set_option linter.unusedVariables false
set_option linter.unusedSimpArgs false
namespace Go.Proofs.YtgaekibompacnaaDoor.XTwin
open Go.RowKit Go.Proofs.YtgaekibompacnaaDoorW.PrintWords Go.Proofs.YtgaekibompacnaaDoorW.PrintLast Go.Proofs.YtgaekibompacnaaDoorW.PrintMore

theorem info5 : (Tryd.prog.info? 5).map (fun i => (i.zero, i.size, i.bytes)) = some (some (.int .u8 0), 1, 1) := by kernel_rfl
/-- What a twin's block holds. -/
def twin (l : List Int) : List Int := l ++ [229, 229, 229]
def part (l : List Int) (i : Nat) : List Int := l ++ (List.replicate i 229 ++ List.replicate (3 - i) 0)

theorem twin_calls (A0 : Option Addr) (c0 : Nat) (l0 : List Int) (w : World) (hr0 : Kd.C (Kd.int .u8) w A0 l0.length l0) (hc0 : l0.length ≤ c0) (hl : l0.length ≤ 140737488351232) :
    Calls Tryd.prog 31 #[.slice A0 l0.length c0] w fun e w' => ∃ g, e = .returned (.slice (some ⟨g, 0, none⟩) l0.length (l0.length + 3)) ∧ w'.heap[g]? = some (.cells (nums .u8 (twin l0)).toArray 5 (0, 0)) ∧ w.heap.size ≤ g ∧ Below w.heap.size w w' := by
  have hmk : ∀ W : World, (Instr.makeSlice 22 (.int .i64 ((l0.length : Int) + 3)) (.int .i64 ((l0.length : Int) + 3))).run Tryd.prog W = .ok (.slice (some ⟨W.heap.size, 0, none⟩) (l0.length + 3) (l0.length + 3)) (W.alloc (.cells (nums .u8 (List.replicate (l0.length + 3) 0)).toArray 5)) := by
    intro W
    have h := run_make_row' 22 5 (.int .u8 0) 1 Tryd.underlying22 info5 rfl .i64 .i64 (l0.length + 3) (by omega) (by omega) W
    have e : ((l0.length + 3 : Nat) : Int) = (l0.length : Int) + 3 := by omega
    rw [e] at h
    rw [h]
    have e2 : madeCells #[Value.int .u8 0] (l0.length + 3) = (nums .u8 (List.replicate (l0.length + 3) 0)).toArray := by
      apply Array.ext
      · simp [madeCells, nums]
      · intro i h1 h2
        simp [madeCells, nums, Nat.mod_one]
    rw [e2]
  have HR := Aside0.mk hr0
  have HB0 := Aside0.mk (below_alloc (Below.refl w.heap.size w) (.cells (nums .u8 (List.replicate (l0.length + 3) 0)).toArray 5))
  clear hr0
  go_enter Tryd.func31, Tryd.ntmps31
  go_wp2_with ((with_reducible refine wpList_copy_splice rfl (.tmp 9) (.tmp 10) 22 22 rfl 5 Tryd.underlying22 (by kernel_rfl) (some ⟨w.heap.size, 0, none⟩) A0 (l0.length + 3) (l0.length + 3) l0.length c0 rfl rfl w.heap.size 0 (nums .u8 (List.replicate (l0.length + 3) 0)) 5 ?hg (nums .u8 l0) ?hn ?hpos ?hfit ?h1 w.heap.size w ?hb ?hBg ?_); rotate_right; intro w1 hg1 hb1; have HG1 : Aside0 (w1.heap[w.heap.size]? = some (.cells (splice (nums .u8 (List.replicate (l0.length + 3) 0)) 0 (nums .u8 l0)).toArray 5 (0, 0))) := Aside0.mk hg1; have HB1 := Aside0.mk hb1; clear hg1 hb1)
  case hg => exact blk_new _ _
  case hn => rw [nums_length]; exact (Nat.min_eq_left (by omega)).symm
  case hpos =>
    intro hp
    rw [nums_length] at hp
    obtain ⟨ad, e, hc⟩ := (Kd.reads_of_C HR.out).2.2 hp
    refine ⟨ad, e, fun j v hj => ?_⟩
    have hjl : j < l0.length := by
      have := (List.getElem?_eq_some_iff.1 hj).1
      rw [nums_length] at this
      exact this
    have hv : v = Value.int .u8 (l0.getD j 0) := by
      simp [nums, List.getElem?_eq_getElem hjl] at hj
      rw [← hj, List.getD_eq_getElem?_getD, List.getElem?_eq_getElem hjl]
      rfl
    rw [hv]
    exact pw_cell_below (below_alloc (Below.refl _ _) _) (hc j hjl)
  case hfit => rw [nums_length, nums_length, List.length_replicate]; omega
  case h1 =>
    intro v hv
    obtain ⟨x, _, rfl⟩ := List.mem_map.1 hv
    rfl
  case hb => exact HB0.out
  case hBg => exact Nat.le_refl _
  clear HB0
  have HG2 : Aside0 (w1.heap[w.heap.size]? = some (.cells (nums .u8 (part l0 0)).toArray 5 (0, 0))) := ⟨by rw [HG1.out]; simp [splice, nums, part, List.drop_replicate, Nat.add_sub_cancel_left]⟩
  clear HG1
  have HG1 := HG2
  clear HG2
  go_loopw [4] (fun v4 wr => ∃ i : Nat, i ≤ 3 ∧ v4 = .int .i64 ((l0.length : Int) + i) ∧ Aside0 (wr.heap[w.heap.size]? = some (.cells (nums .u8 (part l0 i)).toArray 5 (0, 0))) ∧ Aside0 (Below w.heap.size w wr)) (fun v4 _ => l0.length + 3 - (intOf v4).toNat)
  case atStart => exact ⟨0, by omega, by simp, HG1, HB1⟩
  case round =>
    clear HG1 HB1
    obtain ⟨i, hi, rfl, HG, HBr⟩ := hrel
    by_cases hlt : i < 3
    · have hcell : wr.cell? ⟨w.heap.size, l0.length + i, none⟩ = some (.int .u8 0) := by
        rw [blk_cell HG.out (l0.length + i)]
        obtain rfl | rfl | rfl : i = 0 ∨ i = 1 ∨ i = 2 := by omega
        all_goals simp [part, nums, List.getElem?_append_right]
      have hfr := blk_frozen HG.out (l0.length + i)
      have hset := Aside0.mk (blk_put HG.out (l0.length + i) (.int .u8 229) (cs' := (nums .u8 (part l0 (i + 1))).toArray) (by
        obtain rfl | rfl | rfl : i = 0 ∨ i = 1 ∨ i = 2 := by omega
        all_goals simp [part, nums, List.set_append_right]))
      clear HG
      go_wp2
      go_roundw
      case rel => exact ⟨i + 1, by omega, by first | (congr 1; omega) | congr 1, hset, ⟨below_set HBr.out (Nat.le_refl _)⟩⟩
      case measure => simp [intOf]; omega
    · have hi3 : i = 3 := by omega
      subst hi3
      have HGG : Aside0 (wr.heap[w.heap.size]? = some (.cells (nums .u8 (twin l0)).toArray 5 (0, 0))) := ⟨by rw [HG.out]; simp [part, twin, List.replicate]⟩
      clear HG
      go_wp2
      go_ret
      exact ⟨w.heap.size, rfl, HGG.out, Nat.le_refl _, HBr.out⟩

theorem twin_reads {g : Nat} {l0 : List Int} {w : World} (hg : w.heap[g]? = some (.cells (nums .u8 (twin l0)).toArray 5 (0, 0))) (hl : l0.length ≤ 140737488351232) : Kd.C (Kd.int .u8) w (some ⟨g, 0, none⟩) l0.length l0 := by
  have hrt : ReadsInt w .u8 (some ⟨g, 0, none⟩) l0.length l0 := ⟨rfl, by omega, fun hn => ⟨_, rfl, fun j hj => by
    rw [add_plain, blk_cell hg]
    simp only [nums, twin, List.map_append, List.getElem?_toArray]
    rw [List.getElem?_append_left (by simpa using hj)]
    simp [List.getElem?_eq_getElem hj, List.getD_eq_getElem?_getD]⟩⟩
  exact Kd.C_of_reads (d := (0 : Int)) (h1 := fun _ => rfl) hrt
/-- Is a twin as it was? Yes. -/
theorem kept_calls (g : Nat) (A1 : Option Addr) (c1 : Nat) (l0 : List Int) (w : World) (hg : w.heap[g]? = some (.cells (nums .u8 (twin l0)).toArray 5 (0, 0))) (hr1 : Kd.C (Kd.int .u8) w A1 l0.length l0) (hc1 : l0.length ≤ c1) (hl : l0.length ≤ 140737488351232) :
    Calls Tryd.prog 34 #[.slice (some ⟨g, 0, none⟩) l0.length (l0.length + 3), .slice A1 l0.length c1] w fun e w' => e = .returned (.bool true) ∧ Drawn0 w w' := by
  have hcv1 := Kd.C_string (P := Tryd.prog) (A := A1) (c := c1) Tryd.underlying22 Tryd.underlying5 Tryd.underlying9 hr1
  have hrt : ReadsInt w .u8 (some ⟨g, 0, none⟩) l0.length l0 := ⟨rfl, by omega, fun hn => ⟨_, rfl, fun j hj => by
    rw [add_plain, blk_cell hg]
    simp only [nums, twin, List.map_append, List.getElem?_toArray]
    rw [List.getElem?_append_left (by simpa using hj)]
    simp [List.getElem?_eq_getElem hj, List.getD_eq_getElem?_getD]⟩⟩
  have hcv0 := string_of_reads (P := Tryd.prog) (c := l0.length + 3) Tryd.underlying22 Tryd.underlying5 Tryd.underlying9 hrt
  have hcells : ∀ j, j < 3 → w.cell? ⟨g, l0.length + j, none⟩ = some (.int .u8 229) := by
    intro j hj
    rw [blk_cell hg]
    obtain rfl | rfl | rfl : j = 0 ∨ j = 1 ∨ j = 2 := by omega
    all_goals simp [twin, nums, List.getElem?_append_right]
  have HC := Aside0.mk hcells
  clear hcells hg hr1 hrt
  go_enter Tryd.func34, Tryd.ntmps34
  go_wp2
  go_loop [6] (fun v6 => ∃ i : Nat, i ≤ 3 ∧ v6 = .int .i64 ((l0.length : Int) + i)) (fun v6 => l0.length + 3 - (intOf v6).toNat)
  case atStart => exact ⟨0, by omega, by simp⟩
  case round =>
    obtain ⟨i, hi, rfl⟩ := hrel
    by_cases hlt : i < 3
    · have hcell := HC.out i hlt
      go_wp2
      go_round
      case rel => exact ⟨i + 1, by omega, by first | (congr 1; omega) | congr 1⟩
      case measure => simp [intOf]; omega
    · have hi3 : i = 3 := by omega
      subst hi3
      go_wp2
      go_ret
      exact ⟨rfl, by repeat (first | exact Drawn0.refl _ | apply Drawn0.step)⟩

end Go.Proofs.YtgaekibompacnaaDoor.XTwin
