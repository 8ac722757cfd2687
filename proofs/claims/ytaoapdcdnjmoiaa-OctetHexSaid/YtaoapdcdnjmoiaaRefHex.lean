/- The reference's Hex, walked by hand: two signs a byte. -/
import Derived.Test.YtaoapdcdnjmoiaaProg
import Derived.Test.YtaoapdcdnjmoiaaOctetMath
import Derived.WalkKit
import Derived.LoopTactic
import Derived.Outline
import Derived.BigQuiet
import Derived.Deep.QuietTactic
import Derived.KernelRfl
import Derived.RowKit3
set_option linter.unusedVariables false
set_option linter.unusedSimpArgs false
namespace Go.Proofs.Ytaoapdcdnjmoiaa.RefHex
open Go.RowKit Go.Proofs.YtaoapdcdnjmoiaaW.PrintWords Go.Proofs.YtaoapdcdnjmoiaaW.PrintLast Go.Proofs.YtaoapdcdnjmoiaaW.PrintMore Go.Proofs.Ytaoapdcdnjmoiaa.OctetMath

def sign (n : Int) : Int := if n < 10 then 48 + n else 87 + n
def hexL (l : List Int) : List Int := l.flatMap fun c => [sign (c / 16), sign (c % 16)]
def digs : ByteArray := ⟨#[48, 49, 50, 51, 52, 53, 54, 55, 56, 57, 97, 98, 99, 100, 101, 102]⟩
theorem digs_cut {n : Nat} (h : n < 16) : digs.extract n (n + 1) = strOfNums [sign n] := by
  have : ∀ n : Fin 16, digs.extract n.val (n.val + 1) = strOfNums [sign (n.val : Int)] := by decide +kernel
  exact this ⟨n, h⟩
theorem str_app (a b : List Int) : strOfNums a ++ strOfNums b = strOfNums (a ++ b) := by
  apply ByteArray.ext
  simp [strOfNums]
set_option maxHeartbeats 2000000 in
theorem refHex_calls (A0 : Option Addr) (c0 : Nat) (l0 : List Int) (w : World) (hr0 : Kd.C (Kd.int .u8) w A0 l0.length l0) (hc0 : l0.length ≤ c0) (hb : Bytes l0) (hl : l0.length ≤ 70368744177600) :
    Calls Try.prog 29 #[.slice A0 l0.length c0] w fun e w' => e = .returned (.string (strOfNums (hexL l0))) ∧ Drawn0 w w' := by
  have HR := Aside0.mk hr0
  have HBy := Aside0.mk hb
  clear hr0 hb
  go_enter Try.func29, Try.ntmps29
  go_wp2
  go_loopw [3, 4] (fun v3 v4 wr => ∃ i : Nat, i ≤ l0.length ∧ v3 = .string (strOfNums (hexL (l0.take i))) ∧ v4 = .int .i64 (i : Int) ∧ Drawn0 w wr) (fun _ v4 _ => l0.length - (intOf v4).toNat)
  case atStart => exact ⟨0, Nat.zero_le _, by simp [hexL, strOfNums], by simp, Drawn0.refl _⟩
  case round =>
    obtain ⟨i, hi, rfl, rfl, ⟨m1, rfl⟩⟩ := hrel
    by_cases hlt : i < l0.length
    · obtain ⟨ad, rfl, hx⟩ := Kd.at_int HR.out (i : Int) (by omega) (by omega)
      have hx2 : w.cell? (ad.add i) = some (.int .u8 (rd l0 i)) := hx
      have hbd := rd_byte HBy.out hlt
      obtain ⟨x, hxe⟩ : ∃ x, rd l0 (i : Int) = x := ⟨_, rfl⟩
      rw [hxe] at hx2 hbd
      have HX := Aside0.mk hxe
      clear hx hxe
      obtain ⟨hx0, hx1⟩ := hbd
      have hs1 : ∀ W : World, (Instr.slice 9 (.string ⟨#[48, 49, 50, 51, 52, 53, 54, 55, 56, 57, 97, 98, 99, 100, 101, 102]⟩) (some (.int .u8 (x / 16))) (some (.int .u8 (x / 16 + 1))) none).run Try.prog W = .ok (.string (strOfNums [sign (x / 16)])) W := by
        intro W
        rw [run_slice_string (P := Try.prog) W 9 _ .u8 .u8 _ _ Try.underlying9 (by omega) (by omega) (by show x / 16 + 1 ≤ 16; omega)]
        have e := digs_cut (n := (x / 16).toNat) (by omega)
        rw [show (x / 16 + 1).toNat = (x / 16).toNat + 1 by omega]
        rw [show (⟨#[48, 49, 50, 51, 52, 53, 54, 55, 56, 57, 97, 98, 99, 100, 101, 102]⟩ : ByteArray) = digs from rfl, e, Int.toNat_of_nonneg (by omega)]
      have hs2 : ∀ W : World, (Instr.slice 9 (.string ⟨#[48, 49, 50, 51, 52, 53, 54, 55, 56, 57, 97, 98, 99, 100, 101, 102]⟩) (some (.int .u8 (x % 16))) (some (.int .u8 (x % 16 + 1))) none).run Try.prog W = .ok (.string (strOfNums [sign (x % 16)])) W := by
        intro W
        rw [run_slice_string (P := Try.prog) W 9 _ .u8 .u8 _ _ Try.underlying9 (by omega) (by omega) (by show x % 16 + 1 ≤ 16; omega)]
        have e := digs_cut (n := (x % 16).toNat) (by omega)
        rw [show (x % 16 + 1).toNat = (x % 16).toNat + 1 by omega]
        rw [show (⟨#[48, 49, 50, 51, 52, 53, 54, 55, 56, 57, 97, 98, 99, 100, 101, 102]⟩ : ByteArray) = digs from rfl, e, Int.toNat_of_nonneg (by omega)]
      obtain ⟨s0, hs0⟩ : ∃ s0, hexL (l0.take i) = s0 := ⟨_, rfl⟩
      have hs0l : s0.length ≤ 2 * i := by
        rw [← hs0]
        have : ∀ l : List Int, (hexL l).length = 2 * l.length := by
          intro l
          induction l with
          | nil => rfl
          | cons c l ih => simp only [hexL, List.flatMap_cons, List.length_append, List.length_cons, List.length_nil] at *; omega
        rw [this, List.length_take]; omega
      have ha1 : ∀ W : World, (Op.stringOp .add (strOfNums s0) (strOfNums [sign (x / 16)])).run Try.prog W = .ok (.string (strOfNums (s0 ++ [sign (x / 16)]))) W := fun W => by
        rw [run_string_add_sum W _ _ (by rw [strOfNums_size, strOfNums_size]; simp; omega), str_app]
      have ha2 : ∀ W : World, (Op.stringOp .add (strOfNums (s0 ++ [sign (x / 16)])) (strOfNums [sign (x % 16)])).run Try.prog W = .ok (.string (strOfNums (s0 ++ [sign (x / 16)] ++ [sign (x % 16)]))) W := fun W => by
        rw [run_string_add_sum W _ _ (by rw [strOfNums_size, strOfNums_size]; simp; omega), str_app]
      have hnext : Aside0 (s0 ++ [sign (x / 16)] ++ [sign (x % 16)] = hexL (l0.take (i + 1))) := ⟨by
        rw [← hs0, List.take_succ_eq_append_getElem hlt, ← HX.out, show rd l0 (i : Int) = l0[i] by simp [rd, List.getD_eq_getElem?_getD, List.getElem?_eq_getElem hlt]]
        simp only [hexL, List.flatMap_append, List.flatMap_cons, List.flatMap_nil, List.append_nil, List.append_assoc, List.cons_append, List.nil_append]⟩
      rw [hs0]
      clear hs0
      go_wp2
      go_quiet (fail)
      go_wp2
      go_roundw
      case rel => exact ⟨i + 1, by omega, by rw [← hnext.out]; simp, by first | (congr 1; omega) | congr 1, by repeat (first | exact Drawn0.refl _ | apply Drawn0.step)⟩
      case measure => simp [intOf]; omega
    · have : i = l0.length := by omega
      subst this
      rw [List.take_length]
      go_wp2
      go_ret
      exact ⟨rfl, by repeat (first | exact Drawn0.refl _ | apply Drawn0.step)⟩
end Go.Proofs.Ytaoapdcdnjmoiaa.RefHex
