/-
  NARROWER THAN 'FOR EVERY INPUT', by the rows' own cells (each row's printed sentence says how): TeleOpens: loops · TeleAll: loops · TermBack: loops · TermThrough: loops · TermTurns: loops · TermLooks: loops.
  DERIVED. THE GIVEN ROWS OF THIS SEAT. 12 by the template 'for every input the law returns true; each argument reads behind the call as it read before'; 0 by the template 'total and deterministic' (their statements: YtpejhapgffcngaaTotals.lean).
  GIVEN WITH THE SEED: the statements are not yours to turn. If you find one false, say at which input.
  Laid BY PROGRAM, IN A SANDBOX (cutbox-rows.mjs): the forced cells as the released guide's own fill.sh prints them over the translation 4b3a64c3ff28087f… (all of the seat's roots in one cut). By AI agents, Wed Nov 11 2026. No macro, syntax, notation, axiom, sorry.
-/
import Derived.Test.YtpejhapgffcngaaChecked
import GoSem.Claim
import GoSem.ClaimJoined
import GoSem.ClaimMapViews
import Derived.JoinedTies
import Derived.KernelRfl
namespace Go.Proofs.Ytpejhapgffcngaa
/- THE CELL 'sum', in the pinned program and in every row, IS THE sha256 OF THE DUMP (.gsa) THAT YtpejhapgffcngaaProg.lean LOADS. Nothing in Lean hashes anything: it is a label: what it is worth is what the hold of that sum in a sandbox is worth. -/
noncomputable def Try.pinned : Pinned := { name := "ytpejhapgffcngaa", sum := "4b3a64c3ff28087fdaf72b3ba92a15d05093a1c9a6ef8b56fe765e3b41125995", checked := Try.checked }
namespace Rows
def none {H : Type} : Left H := { results := [], args := [] }

/-- 'touchstonelaw17.TeleVars': WHATEVER THE INPUT: true; the input reads as it did. -/
def teleVarsSpec : ChangeSpec := { name := "teleVars", fn := fun _ => fun
  | [d1, d2] => { results := [.lit (.bool true)], args := [d1, d2] }
  | _ => none }
def teleVarsRow : OpenClaim := { program := "ytpejhapgffcngaa", sum := "4b3a64c3ff28087fdaf72b3ba92a15d05093a1c9a6ef8b56fe765e3b41125995", func := "touchstone/touchstonelaw17.TeleVars", spec := "teleVars", recurses := true, apart := false }
def TeleVarsSaid : Prop := teleVarsRow.holds Try.pinned (OpenSpec.ofChange teleVarsSpec)

/-- ITS FALSE NEIGHBOUR: 'it returns false'. Refute it at one input. -/
def teleVarsWrong : ChangeSpec := { name := "teleVars", fn := fun _ => fun
  | [d1, d2] => { results := [.lit (.bool false)], args := [d1, d2] }
  | _ => none }
def TeleVarsWrongFalsely : Prop := teleVarsRow.holds Try.pinned (OpenSpec.ofChange teleVarsWrong)

/-- 'touchstonelaw17.TeleSides': WHATEVER THE INPUT: true; the input reads as it did. -/
def teleSidesSpec : ChangeSpec := { name := "teleSides", fn := fun _ => fun
  | [d1, d2, d3] => { results := [.lit (.bool true)], args := [d1, d2, d3] }
  | _ => none }
def teleSidesRow : OpenClaim := { program := "ytpejhapgffcngaa", sum := "4b3a64c3ff28087fdaf72b3ba92a15d05093a1c9a6ef8b56fe765e3b41125995", func := "touchstone/touchstonelaw17.TeleSides", spec := "teleSides", unfollowed := true, recurses := true, apart := false }
def TeleSidesSaid : Prop := teleSidesRow.holds Try.pinned (OpenSpec.ofChange teleSidesSpec)

/-- ITS FALSE NEIGHBOUR: 'it returns false'. Refute it at one input. -/
def teleSidesWrong : ChangeSpec := { name := "teleSides", fn := fun _ => fun
  | [d1, d2, d3] => { results := [.lit (.bool false)], args := [d1, d2, d3] }
  | _ => none }
def TeleSidesWrongFalsely : Prop := teleSidesRow.holds Try.pinned (OpenSpec.ofChange teleSidesWrong)

/-- 'touchstonelaw17.TeleOpens': WHATEVER THE INPUT: true; the input reads as it did. -/
def teleOpensSpec : ChangeSpec := { name := "teleOpens", fn := fun _ => fun
  | [d1, d2, d3, d4] => { results := [.lit (.bool true)], args := [d1, d2, d3, d4] }
  | _ => none }
def teleOpensRow : OpenClaim := { program := "ytpejhapgffcngaa", sum := "4b3a64c3ff28087fdaf72b3ba92a15d05093a1c9a6ef8b56fe765e3b41125995", func := "touchstone/touchstonelaw17.TeleOpens", spec := "teleOpens", unfollowed := true, recurses := true, loops := true, apart := false }
def TeleOpensSaid : Prop := teleOpensRow.holds Try.pinned (OpenSpec.ofChange teleOpensSpec)

/-- ITS FALSE NEIGHBOUR: 'it returns false'. Refute it at one input. -/
def teleOpensWrong : ChangeSpec := { name := "teleOpens", fn := fun _ => fun
  | [d1, d2, d3, d4] => { results := [.lit (.bool false)], args := [d1, d2, d3, d4] }
  | _ => none }
def TeleOpensWrongFalsely : Prop := teleOpensRow.holds Try.pinned (OpenSpec.ofChange teleOpensWrong)

/-- 'touchstonelaw17.TeleBack': WHATEVER THE INPUT: true; the input reads as it did. -/
def teleBackSpec : ChangeSpec := { name := "teleBack", fn := fun _ => fun
  | [d1, d2] => { results := [.lit (.bool true)], args := [d1, d2] }
  | _ => none }
def teleBackRow : OpenClaim := { program := "ytpejhapgffcngaa", sum := "4b3a64c3ff28087fdaf72b3ba92a15d05093a1c9a6ef8b56fe765e3b41125995", func := "touchstone/touchstonelaw17.TeleBack", spec := "teleBack", unfollowed := true, recurses := true, apart := false }
def TeleBackSaid : Prop := teleBackRow.holds Try.pinned (OpenSpec.ofChange teleBackSpec)

/-- ITS FALSE NEIGHBOUR: 'it returns false'. Refute it at one input. -/
def teleBackWrong : ChangeSpec := { name := "teleBack", fn := fun _ => fun
  | [d1, d2] => { results := [.lit (.bool false)], args := [d1, d2] }
  | _ => none }
def TeleBackWrongFalsely : Prop := teleBackRow.holds Try.pinned (OpenSpec.ofChange teleBackWrong)

/-- 'touchstonelaw17.TeleAll': WHATEVER THE INPUT: true; the input reads as it did. -/
def teleAllSpec : ChangeSpec := { name := "teleAll", fn := fun _ => fun
  | [d1, d2, d3, d4, d5] => { results := [.lit (.bool true)], args := [d1, d2, d3, d4, d5] }
  | _ => none }
def teleAllRow : OpenClaim := { program := "ytpejhapgffcngaa", sum := "4b3a64c3ff28087fdaf72b3ba92a15d05093a1c9a6ef8b56fe765e3b41125995", func := "touchstone/touchstonelaw17.TeleAll", spec := "teleAll", unfollowed := true, recurses := true, loops := true, apart := false }
def TeleAllSaid : Prop := teleAllRow.holds Try.pinned (OpenSpec.ofChange teleAllSpec)

/-- ITS FALSE NEIGHBOUR: 'it returns false'. Refute it at one input. -/
def teleAllWrong : ChangeSpec := { name := "teleAll", fn := fun _ => fun
  | [d1, d2, d3, d4, d5] => { results := [.lit (.bool false)], args := [d1, d2, d3, d4, d5] }
  | _ => none }
def TeleAllWrongFalsely : Prop := teleAllRow.holds Try.pinned (OpenSpec.ofChange teleAllWrong)

/-- 'touchstonelaw5.TermBack': WHATEVER THE INPUT: true; the input reads as it did. -/
def termBackSpec : ChangeSpec := { name := "termBack", fn := fun _ => fun
  | [d1, d2, d3, d4, d5] => { results := [.lit (.bool true)], args := [d1, d2, d3, d4, d5] }
  | _ => none }
def termBackRow : OpenClaim := { program := "ytpejhapgffcngaa", sum := "4b3a64c3ff28087fdaf72b3ba92a15d05093a1c9a6ef8b56fe765e3b41125995", func := "touchstone/touchstonelaw5.TermBack", spec := "termBack", unfollowed := true, recurses := true, loops := true, apart := false }
def TermBackSaid : Prop := termBackRow.holds Try.pinned (OpenSpec.ofChange termBackSpec)

/-- ITS FALSE NEIGHBOUR: 'it returns false'. Refute it at one input. -/
def termBackWrong : ChangeSpec := { name := "termBack", fn := fun _ => fun
  | [d1, d2, d3, d4, d5] => { results := [.lit (.bool false)], args := [d1, d2, d3, d4, d5] }
  | _ => none }
def TermBackWrongFalsely : Prop := termBackRow.holds Try.pinned (OpenSpec.ofChange termBackWrong)

/-- 'touchstonelaw5.TermThrough': WHATEVER THE INPUT: true; the input reads as it did. -/
def termThroughSpec : ChangeSpec := { name := "termThrough", fn := fun _ => fun
  | [d1, d2, d3] => { results := [.lit (.bool true)], args := [d1, d2, d3] }
  | _ => none }
def termThroughRow : OpenClaim := { program := "ytpejhapgffcngaa", sum := "4b3a64c3ff28087fdaf72b3ba92a15d05093a1c9a6ef8b56fe765e3b41125995", func := "touchstone/touchstonelaw5.TermThrough", spec := "termThrough", unfollowed := true, recurses := true, loops := true, apart := false }
def TermThroughSaid : Prop := termThroughRow.holds Try.pinned (OpenSpec.ofChange termThroughSpec)

/-- ITS FALSE NEIGHBOUR: 'it returns false'. Refute it at one input. -/
def termThroughWrong : ChangeSpec := { name := "termThrough", fn := fun _ => fun
  | [d1, d2, d3] => { results := [.lit (.bool false)], args := [d1, d2, d3] }
  | _ => none }
def TermThroughWrongFalsely : Prop := termThroughRow.holds Try.pinned (OpenSpec.ofChange termThroughWrong)

/-- 'touchstonelaw5.TermCounts': WHATEVER THE INPUT: true; the input reads as it did. -/
def termCountsSpec : ChangeSpec := { name := "termCounts", fn := fun _ => fun
  | [d1, d2] => { results := [.lit (.bool true)], args := [d1, d2] }
  | _ => none }
def termCountsRow : OpenClaim := { program := "ytpejhapgffcngaa", sum := "4b3a64c3ff28087fdaf72b3ba92a15d05093a1c9a6ef8b56fe765e3b41125995", func := "touchstone/touchstonelaw5.TermCounts", spec := "termCounts", unfollowed := true, recurses := true, apart := false }
def TermCountsSaid : Prop := termCountsRow.holds Try.pinned (OpenSpec.ofChange termCountsSpec)

/-- ITS FALSE NEIGHBOUR: 'it returns false'. Refute it at one input. -/
def termCountsWrong : ChangeSpec := { name := "termCounts", fn := fun _ => fun
  | [d1, d2] => { results := [.lit (.bool false)], args := [d1, d2] }
  | _ => none }
def TermCountsWrongFalsely : Prop := termCountsRow.holds Try.pinned (OpenSpec.ofChange termCountsWrong)

/-- 'touchstonelaw5.TermScopes': WHATEVER THE INPUT: true; the input reads as it did. -/
def termScopesSpec : ChangeSpec := { name := "termScopes", fn := fun _ => fun
  | [d1, d2] => { results := [.lit (.bool true)], args := [d1, d2] }
  | _ => none }
def termScopesRow : OpenClaim := { program := "ytpejhapgffcngaa", sum := "4b3a64c3ff28087fdaf72b3ba92a15d05093a1c9a6ef8b56fe765e3b41125995", func := "touchstone/touchstonelaw5.TermScopes", spec := "termScopes", unfollowed := true, recurses := true, apart := false }
def TermScopesSaid : Prop := termScopesRow.holds Try.pinned (OpenSpec.ofChange termScopesSpec)

/-- ITS FALSE NEIGHBOUR: 'it returns false'. Refute it at one input. -/
def termScopesWrong : ChangeSpec := { name := "termScopes", fn := fun _ => fun
  | [d1, d2] => { results := [.lit (.bool false)], args := [d1, d2] }
  | _ => none }
def TermScopesWrongFalsely : Prop := termScopesRow.holds Try.pinned (OpenSpec.ofChange termScopesWrong)

/-- 'touchstonelaw5.TermTurns': WHATEVER THE INPUT: true; the input reads as it did. -/
def termTurnsSpec : ChangeSpec := { name := "termTurns", fn := fun _ => fun
  | [d1, d2, d3, d4, d5] => { results := [.lit (.bool true)], args := [d1, d2, d3, d4, d5] }
  | _ => none }
def termTurnsRow : OpenClaim := { program := "ytpejhapgffcngaa", sum := "4b3a64c3ff28087fdaf72b3ba92a15d05093a1c9a6ef8b56fe765e3b41125995", func := "touchstone/touchstonelaw5.TermTurns", spec := "termTurns", unfollowed := true, recurses := true, loops := true, apart := false }
def TermTurnsSaid : Prop := termTurnsRow.holds Try.pinned (OpenSpec.ofChange termTurnsSpec)

/-- ITS FALSE NEIGHBOUR: 'it returns false'. Refute it at one input. -/
def termTurnsWrong : ChangeSpec := { name := "termTurns", fn := fun _ => fun
  | [d1, d2, d3, d4, d5] => { results := [.lit (.bool false)], args := [d1, d2, d3, d4, d5] }
  | _ => none }
def TermTurnsWrongFalsely : Prop := termTurnsRow.holds Try.pinned (OpenSpec.ofChange termTurnsWrong)

/-- 'touchstonelaw5.TermSpines': WHATEVER THE INPUT: true; the input reads as it did. -/
def termSpinesSpec : ChangeSpec := { name := "termSpines", fn := fun _ => fun
  | [d1, d2] => { results := [.lit (.bool true)], args := [d1, d2] }
  | _ => none }
def termSpinesRow : OpenClaim := { program := "ytpejhapgffcngaa", sum := "4b3a64c3ff28087fdaf72b3ba92a15d05093a1c9a6ef8b56fe765e3b41125995", func := "touchstone/touchstonelaw5.TermSpines", spec := "termSpines", unfollowed := true, recurses := true, apart := false }
def TermSpinesSaid : Prop := termSpinesRow.holds Try.pinned (OpenSpec.ofChange termSpinesSpec)

/-- ITS FALSE NEIGHBOUR: 'it returns false'. Refute it at one input. -/
def termSpinesWrong : ChangeSpec := { name := "termSpines", fn := fun _ => fun
  | [d1, d2] => { results := [.lit (.bool false)], args := [d1, d2] }
  | _ => none }
def TermSpinesWrongFalsely : Prop := termSpinesRow.holds Try.pinned (OpenSpec.ofChange termSpinesWrong)

/-- 'touchstonelaw5.TermLooks': WHATEVER THE INPUT: true; the input reads as it did. -/
def termLooksSpec : ChangeSpec := { name := "termLooks", fn := fun _ => fun
  | [d1, d2, d3] => { results := [.lit (.bool true)], args := [d1, d2, d3] }
  | _ => none }
def termLooksRow : OpenClaim := { program := "ytpejhapgffcngaa", sum := "4b3a64c3ff28087fdaf72b3ba92a15d05093a1c9a6ef8b56fe765e3b41125995", func := "touchstone/touchstonelaw5.TermLooks", spec := "termLooks", unfollowed := true, recurses := true, loops := true, apart := false }
def TermLooksSaid : Prop := termLooksRow.holds Try.pinned (OpenSpec.ofChange termLooksSpec)

/-- ITS FALSE NEIGHBOUR: 'it returns false'. Refute it at one input. -/
def termLooksWrong : ChangeSpec := { name := "termLooks", fn := fun _ => fun
  | [d1, d2, d3] => { results := [.lit (.bool false)], args := [d1, d2, d3] }
  | _ => none }
def TermLooksWrongFalsely : Prop := termLooksRow.holds Try.pinned (OpenSpec.ofChange termLooksWrong)

/- THE SECOND FORM. 'bulk': how many values and letters a reading holds, each counted each time it is reached (what is shared counts as often as it is met; a slice's spare places count too). A statement '..UptoSaid' is the law's where the arguments, and the package variables that the reading takes, are together of bulk at most 1048576: NARROWER than '..Said'. Prove '..Said' where nothing that the law and all that it calls make is longer than what came in: it says more and counts as full. Else prove '..UptoSaid'. A law counts once. -/
mutual
def uptoBulk {H : Type} : DataW H → Nat
  | .lit (.string bytes) => bytes.length + 1
  | .lit _ => 1
  | .nil => 1
  | .ptr d => uptoBulk d + 1
  | .slice elems spare => uptoBulkAll elems + uptoBulkAll spare + 1
  | .agg parts => uptoBulkAll parts + 1
  | .iface _ d => uptoBulk d + 1
  | .map entries => uptoBulkEntries entries + 1
  | .held _ => 1
def uptoBulkAll {H : Type} : List (DataW H) → Nat
  | [] => 0
  | d :: r => uptoBulk d + uptoBulkAll r
def uptoBulkEntries {H : Type} : List (Lit × DataW H) → Nat
  | [] => 0
  | x :: r => uptoBulkEntry x + uptoBulkEntries r
def uptoBulkEntry {H : Type} : Lit × DataW H → Nat
  | (.string bytes, d) => bytes.length + uptoBulk d + 1
  | (_, d) => uptoBulk d + 1
 end
def uptoSmall : (H : Type) → List (DataW H) → Bool := fun _ ds => decide (uptoBulkAll ds ≤ 1048576)
def OpenSpec.upto (s : _root_.Go.ChangeSpec) : _root_.Go.OpenSpec := { _root_.Go.OpenSpec.ofChange s with cond := some uptoSmall }

/-- 'touchstonelaw17.TeleVars', WHERE WHAT IT READS IS OF BULK AT MOST 1048576: true; the input reads as it did. -/
def teleVarsUptoRow : OpenClaim := { program := "ytpejhapgffcngaa", sum := "4b3a64c3ff28087fdaf72b3ba92a15d05093a1c9a6ef8b56fe765e3b41125995", func := "touchstone/touchstonelaw17.TeleVars", spec := "teleVars", recurses := true, apart := false, narrowed := true }
def TeleVarsUptoSaid : Prop := teleVarsUptoRow.holds Try.pinned (OpenSpec.upto teleVarsSpec)

/-- 'touchstonelaw17.TeleSides', WHERE WHAT IT READS IS OF BULK AT MOST 1048576: true; the input reads as it did. -/
def teleSidesUptoRow : OpenClaim := { program := "ytpejhapgffcngaa", sum := "4b3a64c3ff28087fdaf72b3ba92a15d05093a1c9a6ef8b56fe765e3b41125995", func := "touchstone/touchstonelaw17.TeleSides", spec := "teleSides", unfollowed := true, recurses := true, apart := false, narrowed := true }
def TeleSidesUptoSaid : Prop := teleSidesUptoRow.holds Try.pinned (OpenSpec.upto teleSidesSpec)

/-- 'touchstonelaw17.TeleOpens', WHERE WHAT IT READS IS OF BULK AT MOST 1048576: true; the input reads as it did. -/
def teleOpensUptoRow : OpenClaim := { program := "ytpejhapgffcngaa", sum := "4b3a64c3ff28087fdaf72b3ba92a15d05093a1c9a6ef8b56fe765e3b41125995", func := "touchstone/touchstonelaw17.TeleOpens", spec := "teleOpens", unfollowed := true, recurses := true, loops := true, apart := false, narrowed := true }
def TeleOpensUptoSaid : Prop := teleOpensUptoRow.holds Try.pinned (OpenSpec.upto teleOpensSpec)

/-- 'touchstonelaw17.TeleBack', WHERE WHAT IT READS IS OF BULK AT MOST 1048576: true; the input reads as it did. -/
def teleBackUptoRow : OpenClaim := { program := "ytpejhapgffcngaa", sum := "4b3a64c3ff28087fdaf72b3ba92a15d05093a1c9a6ef8b56fe765e3b41125995", func := "touchstone/touchstonelaw17.TeleBack", spec := "teleBack", unfollowed := true, recurses := true, apart := false, narrowed := true }
def TeleBackUptoSaid : Prop := teleBackUptoRow.holds Try.pinned (OpenSpec.upto teleBackSpec)

/-- 'touchstonelaw17.TeleAll', WHERE WHAT IT READS IS OF BULK AT MOST 1048576: true; the input reads as it did. -/
def teleAllUptoRow : OpenClaim := { program := "ytpejhapgffcngaa", sum := "4b3a64c3ff28087fdaf72b3ba92a15d05093a1c9a6ef8b56fe765e3b41125995", func := "touchstone/touchstonelaw17.TeleAll", spec := "teleAll", unfollowed := true, recurses := true, loops := true, apart := false, narrowed := true }
def TeleAllUptoSaid : Prop := teleAllUptoRow.holds Try.pinned (OpenSpec.upto teleAllSpec)

/-- 'touchstonelaw5.TermBack', WHERE WHAT IT READS IS OF BULK AT MOST 1048576: true; the input reads as it did. -/
def termBackUptoRow : OpenClaim := { program := "ytpejhapgffcngaa", sum := "4b3a64c3ff28087fdaf72b3ba92a15d05093a1c9a6ef8b56fe765e3b41125995", func := "touchstone/touchstonelaw5.TermBack", spec := "termBack", unfollowed := true, recurses := true, loops := true, apart := false, narrowed := true }
def TermBackUptoSaid : Prop := termBackUptoRow.holds Try.pinned (OpenSpec.upto termBackSpec)

/-- 'touchstonelaw5.TermThrough', WHERE WHAT IT READS IS OF BULK AT MOST 1048576: true; the input reads as it did. -/
def termThroughUptoRow : OpenClaim := { program := "ytpejhapgffcngaa", sum := "4b3a64c3ff28087fdaf72b3ba92a15d05093a1c9a6ef8b56fe765e3b41125995", func := "touchstone/touchstonelaw5.TermThrough", spec := "termThrough", unfollowed := true, recurses := true, loops := true, apart := false, narrowed := true }
def TermThroughUptoSaid : Prop := termThroughUptoRow.holds Try.pinned (OpenSpec.upto termThroughSpec)

/-- 'touchstonelaw5.TermCounts', WHERE WHAT IT READS IS OF BULK AT MOST 1048576: true; the input reads as it did. -/
def termCountsUptoRow : OpenClaim := { program := "ytpejhapgffcngaa", sum := "4b3a64c3ff28087fdaf72b3ba92a15d05093a1c9a6ef8b56fe765e3b41125995", func := "touchstone/touchstonelaw5.TermCounts", spec := "termCounts", unfollowed := true, recurses := true, apart := false, narrowed := true }
def TermCountsUptoSaid : Prop := termCountsUptoRow.holds Try.pinned (OpenSpec.upto termCountsSpec)

/-- 'touchstonelaw5.TermScopes', WHERE WHAT IT READS IS OF BULK AT MOST 1048576: true; the input reads as it did. -/
def termScopesUptoRow : OpenClaim := { program := "ytpejhapgffcngaa", sum := "4b3a64c3ff28087fdaf72b3ba92a15d05093a1c9a6ef8b56fe765e3b41125995", func := "touchstone/touchstonelaw5.TermScopes", spec := "termScopes", unfollowed := true, recurses := true, apart := false, narrowed := true }
def TermScopesUptoSaid : Prop := termScopesUptoRow.holds Try.pinned (OpenSpec.upto termScopesSpec)

/-- 'touchstonelaw5.TermTurns', WHERE WHAT IT READS IS OF BULK AT MOST 1048576: true; the input reads as it did. -/
def termTurnsUptoRow : OpenClaim := { program := "ytpejhapgffcngaa", sum := "4b3a64c3ff28087fdaf72b3ba92a15d05093a1c9a6ef8b56fe765e3b41125995", func := "touchstone/touchstonelaw5.TermTurns", spec := "termTurns", unfollowed := true, recurses := true, loops := true, apart := false, narrowed := true }
def TermTurnsUptoSaid : Prop := termTurnsUptoRow.holds Try.pinned (OpenSpec.upto termTurnsSpec)

/-- 'touchstonelaw5.TermSpines', WHERE WHAT IT READS IS OF BULK AT MOST 1048576: true; the input reads as it did. -/
def termSpinesUptoRow : OpenClaim := { program := "ytpejhapgffcngaa", sum := "4b3a64c3ff28087fdaf72b3ba92a15d05093a1c9a6ef8b56fe765e3b41125995", func := "touchstone/touchstonelaw5.TermSpines", spec := "termSpines", unfollowed := true, recurses := true, apart := false, narrowed := true }
def TermSpinesUptoSaid : Prop := termSpinesUptoRow.holds Try.pinned (OpenSpec.upto termSpinesSpec)

/-- 'touchstonelaw5.TermLooks', WHERE WHAT IT READS IS OF BULK AT MOST 1048576: true; the input reads as it did. -/
def termLooksUptoRow : OpenClaim := { program := "ytpejhapgffcngaa", sum := "4b3a64c3ff28087fdaf72b3ba92a15d05093a1c9a6ef8b56fe765e3b41125995", func := "touchstone/touchstonelaw5.TermLooks", spec := "termLooks", unfollowed := true, recurses := true, loops := true, apart := false, narrowed := true }
def TermLooksUptoSaid : Prop := termLooksUptoRow.holds Try.pinned (OpenSpec.upto termLooksSpec)

end Rows
end Go.Proofs.Ytpejhapgffcngaa
