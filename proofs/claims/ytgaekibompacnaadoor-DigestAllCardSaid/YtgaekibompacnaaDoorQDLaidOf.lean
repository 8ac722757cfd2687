/- What the row's listed table gives a walk: the 64 words lie in block 0. -/
import Derived.Test.YtgaekibompacnaaDoorQDShaMix
import Derived.Test.YtgaekibompacnaaDoorRows
import Derived.ProofKit
import Derived.LaidMore
import Derived.OpenShut
import Derived.Stop.Joined
namespace Go.Proofs.YtgaekibompacnaaDoor.Tab
open Go.ChangeShapes Go.WideShapes Go.ChangeAt Go.WideMaps Go.WideElems Go.RowKit
abbrev laids {H : Type} : List (String × DataW H) := [("touchstone/digest.round", Rows.laid_touchstone_digest_round)]
theorem gRound : Tryd.prog.globalNamed "touchstone/digest.round" = some 0 := by kernel_rfl
theorem tRound : (Tryd.prog.globals[0]?).map (·.type) = some 71 := by kernel_rfl
theorem door_met (os : Os) (args : Array Value) : laidMetH Tryd.prog [("touchstone/digest.round", Rows.laid_touchstone_digest_round)] ((World.doorLaid Tryd.prog 14 os).forCall (fun _ _ => 0) ⟨#[], args, []⟩).memory :=
  laidMetH_of_parts3 (fuel := 8) (laidMet_of_run' 8 (by kernel_rfl) (by kernel_rfl)) (by kernel_rfl) (by kernel_rfl)
theorem words_of {H : Type} : (Rows.laid_touchstone_digest_round : DataW H) = .agg (QD.KK.map fun n => .lit (.int .u32 n)) := rfl
theorem of_laid {W : World} (h : laidMetH Tryd.prog [("touchstone/digest.round", Rows.laid_touchstone_digest_round)] W) : QD.Laid W := by
  rw [MakeChecks.laidMetH_plain _ _ _ (by kernel_rfl)] at h
  obtain ⟨ps, ⟨g0, t0, cs0, f0, p0, q0, hg0, ht0, hv0, hd0, _, _⟩, _, _⟩ := h
  obtain rfl := Option.some.inj (gRound.symm.trans hg0)
  obtain rfl := Option.some.inj (tRound.symm.trans ht0)
  obtain ⟨xs, m1, rfl, hx1, hlen, hn3, hel⟩ := DataW.trod_array Tryd.underlying71 hd0
  have c3 : Tryd.prog.cellsOf 55 = 1 := by kernel_rfl
  have c24 : Tryd.prog.cellsOf 71 = 64 := by kernel_rfl
  rw [words_of] at hx1
  simp only [Prod.mk.injEq, DataW.agg.injEq] at hx1
  rw [c24] at hlen
  have cell : ∀ i : Nat, i < 64 → W.cell? ⟨0, i, none⟩ = some (.int .u32 (YtgaekibompacnaaDoorW.PrintWords.rd QD.KK i)) := by
    intro i hi
    have h0 := hel i hi
    rw [c3, Nat.mul_one, List.getElem?_eq_getElem (by omega)] at h0
    obtain ⟨k, e1, e2, _⟩ := DataW.trod_int Tryd.underlying55 h0
    have hxi : (xs.map (·.1))[i]? = some (DataW.lit (.int .u32 k)) := by
      rw [List.getElem?_map, List.getElem?_eq_getElem (by omega), e2]; rfl
    rw [← hx1.1, List.getElem?_map] at hxi
    have hk : YtgaekibompacnaaDoorW.PrintWords.rd QD.KK i = k := by
      cases hq : QD.KK[i]? with
      | none => rw [hq] at hxi; simp at hxi
      | some v =>
        rw [hq] at hxi
        simp only [Option.map_some, Option.some.injEq, DataW.lit.injEq, Lit.int.injEq] at hxi
        simp [YtgaekibompacnaaDoorW.PrintWords.rd, List.getD, hq, hxi]
    rw [World.var?_cell hg0 hv0 i, hk, ← Array.getElem?_toList]
    have : (cs0.toList.drop i)[0]? = some (.int .u32 k) := by
      have h2 : ((cs0.toList.drop i).take 1)[0]? = some (.int .u32 k) := by rw [e1]; rfl
      simpa [List.getElem?_take] using h2
    simpa using this
  refine ⟨?_, cell⟩
  have := cell 0 (by decide)
  simp only [World.cell?] at this
  revert this
  cases hh : W.heap[0]? with
  | none => intro this; simp at this
  | some b => intro _; exact (Array.getElem?_eq_some_iff.1 hh).1
end Go.Proofs.YtgaekibompacnaaDoor.Tab
