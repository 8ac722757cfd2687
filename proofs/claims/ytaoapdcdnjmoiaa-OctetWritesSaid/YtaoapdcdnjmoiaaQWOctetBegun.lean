/- The program does something: begun is true. -/
import Derived.Test.YtaoapdcdnjmoiaaQWx1
import Derived.Test.YtaoapdcdnjmoiaaXWords
namespace Go.Proofs.Ytaoapdcdnjmoiaa.QW
open Go.RowKit Go.Proofs.YtaoapdcdnjmoiaaW.PrintWords Go.Proofs.YtaoapdcdnjmoiaaW.PrintLast Go.Proofs.YtaoapdcdnjmoiaaW.PrintMore
theorem begun_is {k : Nat} (hk : 30 ≤ k) : touchstonelaw1_begun.f k = some true :=
  at_rounds (fun j => touchstonelaw1_begun.mono j) hk (by decide +kernel)
end Go.Proofs.Ytaoapdcdnjmoiaa.QW
