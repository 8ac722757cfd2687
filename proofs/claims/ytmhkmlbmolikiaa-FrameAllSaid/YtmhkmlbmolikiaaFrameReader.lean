/- The contracts of frame's reader: none, Waits, New. -/
import Derived.Test.YtmhkmlbmolikiaaProg
import Derived.Test.YtmhkmlbmolikiaaXWords
import Derived.WalkKit
import Derived.LoopTactic
import Derived.Outline
import Derived.Lib.Hide
import Derived.KernelRfl
import Derived.RowKit3
set_option linter.unusedVariables false
set_option linter.unusedSimpArgs false
namespace Go.Proofs.Ytmhkmlbmolikiaa.FrameReader
open Go.RowKit Go.Proofs.YtmhkmlbmolikiaaW.PrintWords Go.Proofs.YtmhkmlbmolikiaaW.PrintLast Go.Proofs.YtmhkmlbmolikiaaW.PrintMore

/-- A reader's block. -/
def blkOf (on : Bool) (v : Value) (e : Int) : Obj := .cells #[.bool on, v, .int .i64 e] 50 (0, 0)

theorem none_calls (g : Nat) (on : Bool) (v : Value) (e : Int) (w : World) (hg : w.heap[g]? = some (blkOf on v e)) :
    Calls Try.prog 22 #[.pointer (some ⟨g, 0, none⟩)] w fun en w' => en = .returned (.bool (!on)) ∧ Drawn0 w w' := by
  have h0 : w.cell? ⟨g, 0, none⟩ = some (.bool on) := by rw [blk_cell hg]; rfl
  clear hg
  go_enter Try.func22, Try.ntmps22
  go_wp2
  go_ret
  exact ⟨by cases on <;> rfl, Drawn0.refl _⟩
theorem none_nil_calls (w : World) :
    Calls Try.prog 22 #[.pointer none] w fun en w' => en = .returned (.bool true) ∧ Drawn0 w w' := by
  go_enter Try.func22, Try.ntmps22
  go_wp2
  go_ret
  exact ⟨rfl, Drawn0.refl _⟩
theorem waits_calls (g : Nat) (v : Value) (e : Int) (xs : List Int) (b : Nat) (ok : Nat → Prop) (w : World) (hg : w.heap[g]? = some (blkOf true v e)) (hv : Kd.R (Kd.int .u8) 5 w b ok v xs) :
    Calls Try.prog 16 #[.pointer (some ⟨g, 0, none⟩)] w fun en w' => en = .returned (.int .i64 xs.length) ∧ Drawn0 w w' := by
  obtain ⟨A, c, rfl⟩ := Kd.R_slice hv
  have h1 : w.cell? ⟨g, 1, none⟩ = some (.slice A xs.length c) := by rw [blk_cell hg]; rfl
  have HG := Aside0.mk hg
  clear hg hv
  go_enter Try.func16, Try.ntmps16
  go_wp2_with (first | (go_at_call 22; refine (none_calls g true _ e _ HG.out).mono ?_; rintro en w' ⟨rfl, ⟨nd, rfl⟩⟩))
  go_ret
  exact ⟨rfl, by repeat (first | exact Drawn0.refl _ | apply Drawn0.step)⟩
theorem waits_none_calls (g : Nat) (v : Value) (e : Int) (w : World) (hg : w.heap[g]? = some (blkOf false v e)) :
    Calls Try.prog 16 #[.pointer (some ⟨g, 0, none⟩)] w fun en w' => en = .returned (.int .i64 0) ∧ Drawn0 w w' := by
  have HG := Aside0.mk hg
  clear hg
  go_enter Try.func16, Try.ntmps16
  go_wp2_with (first | (go_at_call 22; refine (none_calls g false _ e _ HG.out).mono ?_; rintro en w' ⟨rfl, ⟨nd, rfl⟩⟩))
  go_ret
  exact ⟨rfl, by repeat (first | exact Drawn0.refl _ | apply Drawn0.step)⟩
theorem waits_nil_calls (w : World) :
    Calls Try.prog 16 #[.pointer none] w fun en w' => en = .returned (.int .i64 0) ∧ Drawn0 w w' := by
  go_enter Try.func16, Try.ntmps16
  go_wp2_with (first | (go_at_call 22; refine (none_nil_calls _).mono ?_; rintro en w' ⟨rfl, ⟨nd, rfl⟩⟩))
  go_ret
  exact ⟨rfl, by repeat (first | exact Drawn0.refl _ | apply Drawn0.step)⟩
theorem new_calls (w : World) :
    Calls Try.prog 10 #[] w fun en w' => ∃ g, en = .returned (.pointer (some ⟨g, 0, none⟩)) ∧ w'.heap[g]? = some (blkOf true (.slice none 0 0) 0) ∧ w.heap.size ≤ g ∧ Below w.heap.size w w' := by
  have HB := Aside0.mk (below_alloc (Below.refl w.heap.size w) (blkOf true (.slice none 0 0) 0))
  go_enter Try.func10, Try.ntmps10
  go_wp2
  go_ret
  exact ⟨w.heap.size, rfl, blk_new _ _, Nat.le_refl _, HB.out⟩
end Go.Proofs.Ytmhkmlbmolikiaa.FrameReader
