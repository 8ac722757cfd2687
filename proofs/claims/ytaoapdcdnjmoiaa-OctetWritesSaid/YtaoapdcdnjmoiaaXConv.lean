/- A region that draws its order, with calls that make memory and conversions of slices of bytes to texts: a condition S on worlds is kept (it tells what the conversions give); what yields under S in whatever world is taken first. -/
import Derived.Deep.RegionHeld3
import Derived.Outline
import Derived.BigQuiet
namespace Go.Proofs.Ytaoapdcdnjmoiaa.XConv
open Go Lean Elab Tactic Meta

/-- One operation of the list that yields whatever the order. -/
def takeOne (ops listed md : Lean.Expr) (i : Nat) : TacticM Bool := do
  let hd := opHead ops i
  let early := (match hd with | some n => worldless.contains n || n == ``Op.load || n == ``Op.convert | none => false) || takenFirstToo ops i
  unless early do return false
  unless ← kernelBool (mkApp4 (mkConst ``Region.free) md ops listed (mkNatLit i)) do return false
  let s ← saveState
  try
    let some oe := opAt ops i | throwError "?"
    let o ← Term.exprToSyntax oe
    evalTactic (← `(tactic| refine wpAnyH_take (i := $(quote i)) (oi := $o) (v := ?_) rfl (by kernel_rfl) (by kernel_rfl) (by kernel_rfl) (fun _ _ _ h => h) (Or.inl ⟨by rfl, ?_⟩) (by assumption) ?_))
    let [_, hy, rest] ← getGoals | throwError "?"
    setGoals [hy]
    evalTactic (← `(tactic| (intro w hSw; (try dsimp only at hSw); go_simp)))
    unless (← getGoals).isEmpty do evalTactic (← `(tactic| with_reducible rfl))
    unless (← getGoals).isEmpty do throwError "?"
    setGoals [rest]
    evalTactic (← `(tactic| try simp only [Act.put, List.setIfInBounds_toArray, List.set_cons_zero, List.set_cons_succ]))
    return true
  catch _ => s.restore; return false

partial def walkConv (keep tac : TSyntax `tactic) (tell : Bool) : TacticM Unit := withMainContext do
  let t := (← instantiateMVars (← getMainTarget)).consumeMData
  unless t.isAppOfArity ``wpAnyH 9 do throwError "go_region_conv: not at the region any more:\n{t}"
  let args := t.getAppArgs
  let md := args[1]!; let ops := args[2]!; let listed := args[6]!
  let ready ← kernelNats (mkApp3 (mkConst ``Region.ready) md ops listed)
  if ready.isEmpty then
    evalTactic (← `(tactic| refine wpAnyH_done (by kernel_rfl) ?_ _)); return
  for i in ready do
    if ← takeOne ops listed md i then
      if tell then logInfo m!"taken first: {opWords ops i}"
      walkConv keep tac tell; return
  if tell then logInfo m!"now any of {ready}"
  let lits : Array (TSyntax `term) := ready.toArray.map fun i => quote i
  evalTactic (← `(tactic| refine wpAnyH_ready (rs := [$lits,*]) (by kernel_rfl) (by simp) ?_))
  let mut done : List MVarId := []
  for i in ready do
    let some oe := opAt ops i | throwError "?"
    let o ← Term.exprToSyntax oe
    evalTactic (← `(tactic| refine AllReadyH.cons (o := $o) rfl (fun K hK => ?_) ?_))
    let [step, more] ← getGoals | throwError "?"
    setGoals [step]
    evalTactic (← `(tactic| go_simp))
    unless (← instantiateMVars (← getMainTarget)).consumeMData.getAppFn.isFVar do
      evalTactic (← `(tactic| go_wp2_with ($tac:tactic)))
    unless (← getGoals).length == 1 do throwError "go_region_conv: {opWords ops i}: {(← getGoals).length} goals"
    let left ← withMainContext do pure (← instantiateMVars (← getMainTarget)).consumeMData
    unless left.getAppFn.isFVar do withMainContext do throwError "go_region_conv: {opWords ops i} does not end:\n{left}"
    evalTactic (← `(tactic| refine hK.out _ _ ?_ (fun hHeld => ?_)))
    let [hS, rest] ← getGoals | throwError "?"
    setGoals [hS]
    evalTactic (← `(tactic| try dsimp only))
    unless (← getUnsolvedGoals).isEmpty do evalTactic keep
    unless (← getUnsolvedGoals).isEmpty do throwError "go_region_conv: behind {opWords ops i} the condition is not shown:\n{← getMainTarget}"
    setGoals [rest]
    evalTactic (← `(tactic| clear hK K))
    evalTactic (← `(tactic| try simp only [Act.put, List.setIfInBounds_toArray, List.set_cons_zero, List.set_cons_succ]))
    clearOldHeld
    walkConv keep tac tell
    done := done ++ (← getGoals)
    setGoals [more]
  evalTactic (← `(tactic| exact AllReadyH.nil))
  setGoals done

def startConv (S : TSyntax `term) (keep tac : TSyntax `tactic) (tell : Bool) : TacticM Unit := do
  evalTactic (← `(tactic| refine wp_region_held_drew (S := $S) (by kernel_rfl) ?_ (fun hHeld => ?_)))
  let [hS, rest] ← getGoals | throwError "?"
  setGoals [hS]
  evalTactic (← `(tactic| try dsimp only))
  unless (← getUnsolvedGoals).isEmpty do evalTactic keep
  unless (← getUnsolvedGoals).isEmpty do throwError "go_region_conv: the condition is not shown at the beginning:\n{← getMainTarget}"
  setGoals [rest]
  walkConv keep tac tell

elab "go_region_conv " S:term:max ppSpace "(" keep:tactic ")" ppSpace "(" tac:tactic ")" : tactic => startConv S keep tac false
elab "go_region_conv? " S:term:max ppSpace "(" keep:tactic ")" ppSpace "(" tac:tactic ")" : tactic => startConv S keep tac true
end Go.Proofs.Ytaoapdcdnjmoiaa.XConv
