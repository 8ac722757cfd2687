/- DigestCuts' whole walk, from its parts. -/
import Derived.Test.YtgaekibompacnaaDoorQDCutsWalk
namespace Go.Proofs.YtgaekibompacnaaDoor.QD
open Go.RowKit Go.Proofs.YtgaekibompacnaaDoorW.PrintWords Go.Proofs.YtgaekibompacnaaDoorW.PrintLast Go.Proofs.YtgaekibompacnaaDoorW.PrintMore
theorem touchstonelaw2_DigestCuts.walk (A0 : Option Addr) (c0 : Nat) (l0 : List Int) (A1 : Option Addr) (c1 : Nat) (l1 : List Int) (w : World) (hk : Laid w) (hr0 : Kd.C (Kd.int .u8) w A0 l0.length l0) (hc0 : l0.length ≤ c0) (_ : l0.length * 1 ≤ 140737488351232 ∧ l0.length ≤ maxLen ∧ ∀ (x : Int), x ∈ l0 → (Lit.int IntKind.u8 x).wf = true) (hr1 : Kd.C (Kd.int .i64) w A1 l1.length l1) (hc1 : l1.length ≤ c1) (_ : l1.length * 8 ≤ 140737488351232 ∧ l1.length ≤ maxLen ∧ ∀ (x : Int), x ∈ l1 → (Lit.int IntKind.i64 x).wf = true) :
    Calls Tryd.prog 3 #[.slice A0 l0.length c0, .slice A1 l1.length c1] w fun en w' => en = .returned (.bool true) ∧ Below w.heap.size w w' := by
  by_cases h : 4000 < l0.length
  · exact dcuts_big_a A0 c0 l0 A1 c1 l1 w hk hr0 hc0 hr1 hc1 h
  by_cases h1 : 100 < l1.length
  · exact dcuts_big_b A0 c0 l0 A1 c1 l1 w hk hr0 hc0 hr1 hc1 (by omega) h1
  · exact dcuts_walk A0 c0 l0 A1 c1 l1 w hk hr0 hc0 hr1 hc1 (by omega) (by omega)
end Go.Proofs.YtgaekibompacnaaDoor.QD
