/- frame's Put, told by what is read off the bytes (Fed). -/
import Derived.Test.YtmhkmlbmolikiaaFrameMath
import Derived.Test.YtmhkmlbmolikiaaQFPut
import Derived.Test.YtmhkmlbmolikiaaQFOctetPure2
import Derived.BigQuiet
import Derived.Deep.QuietTactic
set_option linter.unusedVariables false
set_option linter.unusedSimpArgs false
namespace Go.Proofs.Ytmhkmlbmolikiaa.QF
open Go.RowKit Go.Proofs.YtmhkmlbmolikiaaW.PrintWords Go.Proofs.YtmhkmlbmolikiaaW.PrintLast Go.Proofs.YtmhkmlbmolikiaaW.PrintMore Go.Proofs.Ytmhkmlbmolikiaa.FrameReader Go.Proofs.Ytmhkmlbmolikiaa.FrameMath Go.Proofs.Ytmhkmlbmolikiaa.OctetMath

theorem putL_fed {y : List Int} {fs : List (List Int)} {r : List Int} {e : Int} (h : Fed y fs r e) : ∀ (k : Nat) (x0 : List Int) (acc : List (List Int)) (a : Nat), y = x0.drop a → a ≤ x0.length → Bytes x0 → x0.length ≤ 100000000000 → acc.length + fs.length ≤ 1000000000000 → fs.length + 25 ≤ k →
    ∃ a' : Nat, putL k x0 acc a = some (acc ++ fs, (a' : Int), e) ∧ x0.drop a' = r := by
  induction h with
  | stop y e h1 h2 =>
    intro k x0 acc a hy ha hb hl hf hk
    obtain ⟨k, rfl⟩ : ∃ m, k = m + 1 := ⟨k - 1, by omega⟩
    refine ⟨a, ?_, hy.symm⟩
    rw [putL, if_pos (by omega), if_pos (by omega), Int.toNat_natCast, ← hy, takeText_is (by simp only [List.length_nil] at hk; omega) (by rw [hy]; exact hb.drop _) (by rw [hy, List.length_drop]; omega) (by omega) (by omega), Option.bind_some, if_neg (by rw [h1]; exact h2), h1, List.append_nil]
  | more y t n fs r e h1 h2 ih =>
    intro k x0 acc a hy ha hb hl hf hk
    obtain ⟨k, rfl⟩ : ∃ m, k = m + 1 := ⟨k - 1, by omega⟩
    simp only [List.length_cons] at hf hk
    have hby : Bytes y := by rw [hy]; exact hb.drop _
    have ok := tkText_ok hby (by rw [h1])
    rw [h1] at ok
    simp only at ok
    have hyl : y.length = x0.length - a := by rw [hy, List.length_drop]
    obtain ⟨a', h3, h4⟩ := ih k x0 (acc ++ [t]) (a + n.toNat) (by rw [hy, List.drop_drop]) (by omega) hb hl (by simp only [List.length_append, List.length_singleton]; omega) (by omega)
    refine ⟨a', ?_, h4⟩
    rw [putL, if_pos (by omega), if_pos (by omega), Int.toNat_natCast, ← hy, takeText_is (by omega) hby (by omega) (by omega) (by omega), Option.bind_some, h1]
    simp only [if_true]
    rw [if_pos (by omega), wrap64_id (by omega) (by omega), show (a : Int) + n = ((a + n.toNat : Nat) : Int) by omega, h3, List.append_assoc]
    rfl
/-- What waits. -/
def keep (r : List Int) (e : Int) : List Int := if e = 2 then r else []
def FedPost (g B : Nat) (v : Value) (fs : List (List Int)) (r : List Int) (e : Int) (w : World) (en : Ending) (w' : World) : Prop :=
  ∃ vl v' : Value, en = .returned (.tuple #[vl, .int .i64 (told e)]) ∧
      w'.heap[g]? = some (blkOf true v' (told e)) ∧ Kd.R (Kd.int .u8) 5 w' w.heap.size (fun _ => True) v' (keep r e) ∧ Kd.S (Kd.slice 5 (Kd.int .u8)) 28 w' w.heap.size (fun k_ => some k_ ≠ v'.ownBlock) vl fs ∧
      Below B w w' ∧ (∀ k_, k_ < w.heap.size → k_ ≠ g → some k_ ≠ v.ownBlock → w'.heap[k_]? = w.heap[k_]?)
theorem put_fed (g B : Nat) (v : Value) (ws : List Int) (A : Option Addr) (c : Nat) (l : List Int) (fs : List (List Int)) (r : List Int) (e : Int) (w : World)
    (hg : w.heap[g]? = some (blkOf true v 0)) (hv : Kd.R (Kd.int .u8) 5 w B (fun _ => True) v ws) (hBg : B ≤ g) (hl : Kd.C (Kd.int .u8) w A l.length l) (hlc : l.length ≤ c) (hlen : ws.length + l.length ≤ 10000000000)
    (hbw : Bytes ws) (hbl : Bytes l) (hf : Fed (ws ++ l) fs r e) (n : Nat) (hn : n = l.length) :
    Calls Try.prog 12 #[.pointer (some ⟨g, 0, none⟩), .slice A n c] w (FedPost g B v fs r e w) := by
  subst hn
  have hlf := hf.len (hbw.append hbl)
  rw [List.length_append] at hlf
  obtain ⟨a', h1, h2⟩ := putL_fed hf (fs.length + 25) (ws ++ l) [] 0 (by simp) (by omega) (hbw.append hbl) (by rw [List.length_append]; omega) (by simp only [List.length_nil]; omega) (by omega)
  refine (put_calls (fs.length + 25) g B v ws A c l (ws ++ l) fs a' e w hg hv hBg hl hlc (by omega) rfl h1).mono ?_
  rintro en w' ⟨vl, v', rfl, p1, p2, p3, p4, p5⟩
  refine ⟨vl, v', rfl, p1, ?_, p3, p4, p5⟩
  have : left (ws ++ l) (a' : Int) e = keep r e := by
    unfold left keep
    split
    · rw [Int.toNat_natCast, h2]
    · rfl
  rw [← this]
  exact p2
/-- A reader that is spoilt tells so. -/
theorem put_spoilt (g : Nat) (v : Value) (s : Int) (A : Option Addr) (n c : Nat) (w : World) (hg : w.heap[g]? = some (blkOf true v s)) (hs : s ≠ 0) :
    Calls Try.prog 12 #[.pointer (some ⟨g, 0, none⟩), .slice A n c] w fun en w' => en = .returned (.tuple #[.slice none 0 0, .int .i64 s]) ∧ Drawn0 w w' := by
  have c2 : w.cell? ⟨g, 2, none⟩ = some (.int .i64 s) := by rw [blk_cell hg]; rfl
  have hb : (s != 0) = true := bne_iff_ne.mpr hs
  have hb0 : (s == 0) = false := beq_eq_false_iff_ne.mpr hs
  have HG0 := Aside0.mk hg
  clear hg
  go_enter Try.func12, Try.ntmps12
  go_wp2_with (first
    | (go_at_call 22; refine (none_calls g true _ s _ HG0.out).mono ?_; rintro en w' ⟨rfl, ⟨nd, rfl⟩⟩))
  go_quiet (fail)
  go_wp2
  go_ret2
  exact ⟨rfl, by repeat (first | exact Drawn0.refl _ | apply Drawn0.step)⟩
theorem put_none (g : Nat) (v : Value) (s : Int) (A : Option Addr) (n c : Nat) (w : World) (hg : w.heap[g]? = some (blkOf false v s)) :
    Calls Try.prog 12 #[.pointer (some ⟨g, 0, none⟩), .slice A n c] w fun en w' => en = .returned (.tuple #[.slice none 0 0, .int .i64 1]) ∧ Drawn0 w w' := by
  have HG0 := Aside0.mk hg
  clear hg
  go_enter Try.func12, Try.ntmps12
  go_wp2_with (first
    | (go_at_call 22; refine (none_calls g false _ s _ HG0.out).mono ?_; rintro en w' ⟨rfl, ⟨nd, rfl⟩⟩))
  go_ret2
  exact ⟨rfl, by repeat (first | exact Drawn0.refl _ | apply Drawn0.step)⟩
theorem put_nil (A : Option Addr) (n c : Nat) (w : World) :
    Calls Try.prog 12 #[.pointer none, .slice A n c] w fun en w' => en = .returned (.tuple #[.slice none 0 0, .int .i64 1]) ∧ Drawn0 w w' := by
  go_enter Try.func12, Try.ntmps12
  go_wp2_with (first
    | (go_at_call 22; refine (none_nil_calls _).mono ?_; rintro en w' ⟨rfl, ⟨nd, rfl⟩⟩))
  go_ret2
  exact ⟨rfl, by repeat (first | exact Drawn0.refl _ | apply Drawn0.step)⟩
end Go.Proofs.Ytmhkmlbmolikiaa.QF
