-- By this session's own printing program: a text of this claim's own.
import Derived.Test.YtaoapdcdnjmoiaaProg
import Derived.Below
import Derived.Deep.Draws
import Derived.Deep.AppendLies
import Derived.Maps.AppendAt
import Derived.OwnWalk
import Derived.Laws.BytesArg
import Derived.Laws.MakeOwn
import Derived.Laws.OwnMore
import Derived.Deep.OwnRows
import Derived.Tactics
import Derived.Lib.ConvBytes
import Derived.Laws.Slices
import Derived.WalkKit
import Derived.KernelRfl
import Derived.RowKit3
import Derived.Deep.LoopGhost
import Derived.Deep.QuietTactic
import Derived.BigQuiet
import Derived.WideLaws
import Derived.Deep.DeepCutAuto
import Derived.Deep.CutBlock
import Derived.Deep.RegionHeld3
import Derived.Laws.Rows
import Derived.Lib.AppendStr
import Derived.ArgAppend
import Derived.Laws.IdiomCopy
import Derived.OrdersHeld
import Derived.Laws.BitsLemmas
import Derived.RowKit
import Derived.Test.YtaoapdcdnjmoiaaWWords
import Derived.Test.YtaoapdcdnjmoiaaWLast
import Derived.Test.YtaoapdcdnjmoiaaWTab
import Derived.Test.YtaoapdcdnjmoiaaWFour
import Derived.Test.YtaoapdcdnjmoiaaWQPut
import Derived.Test.YtaoapdcdnjmoiaaWApart
import Derived.Test.YtaoapdcdnjmoiaaWArr
import Derived.Test.YtaoapdcdnjmoiaaWZeros
import Derived.Test.YtaoapdcdnjmoiaaWFoot
import Derived.Test.YtaoapdcdnjmoiaaWKept
import Derived.Test.YtaoapdcdnjmoiaaWShare
import Derived.Test.YtaoapdcdnjmoiaaWN
import Derived.Test.YtaoapdcdnjmoiaaWFootNe
import Derived.Test.YtaoapdcdnjmoiaaWAt
import Derived.Test.YtaoapdcdnjmoiaaWEqStruct
import Derived.Test.YtaoapdcdnjmoiaaWRepsOne
import Derived.Test.YtaoapdcdnjmoiaaWInv
import Derived.Test.YtaoapdcdnjmoiaaWInvWords
import Derived.Test.YtaoapdcdnjmoiaaWGuard
import Derived.Test.YtaoapdcdnjmoiaaWNEv
import Derived.Test.YtaoapdcdnjmoiaaWMore
import Derived.Test.YtaoapdcdnjmoiaaXWords
namespace Go.Proofs.Ytaoapdcdnjmoiaa.QW
open Go.RowKit Go.Proofs.YtaoapdcdnjmoiaaW.PrintWords Go.Proofs.YtaoapdcdnjmoiaaW.PrintLast Go.Proofs.YtaoapdcdnjmoiaaW.PrintMore
attribute [local go_sem] max2_int min2_int max_two min_two max_three min_three max_four min_four   -- for this text's walks alone
set_option linter.unusedVariables false
set_option linter.unusedSimpArgs false



def errW : Option Int → Value
  | none => .nilIface
  | some c => .iface 0 (.int .i64 c)
theorem errW_none : errW none = .nilIface := rfl
theorem errW_some (c : Int) : errW (some c) = .iface 0 (.int .i64 c) := rfl

theorem info5 : (Try.prog.info? 5).map (fun i => (i.zero, i.size, i.bytes)) = some (some (.int .u8 0), 1, 1) := by kernel_rfl
-- the values' own types

end Go.Proofs.Ytaoapdcdnjmoiaa.QW
