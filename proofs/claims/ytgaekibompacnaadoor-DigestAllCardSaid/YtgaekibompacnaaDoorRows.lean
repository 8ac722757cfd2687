/-
  NARROWER THAN 'FOR EVERY INPUT', by the rows' own cells (each row's printed sentence says how): DigestCuts: laid · DigestEnds: laid · DigestAll: laid · DigestFirst: laid · DrawAll: laid · DrawLine: laid · DrawApart: laid.
  DERIVED. THE GIVEN ROWS OF THIS SEAT. 7 by the template 'for every input the law returns true; each argument reads behind the call as it read before'; 0 by the template 'total and deterministic' (their statements: YtgaekibompacnaaDoorTotals.lean).
  GIVEN WITH THE SEED: the statements are not yours to turn. If you find one false, say at which input.
  Laid BY PROGRAM, IN A SANDBOX (cutbox-rows.mjs): the forced cells as the released guide's own fill.sh prints them over the translation 6fd16514da73f3df… (all of the seat's roots in one cut). By AI agents, Wed Nov 11 2026. No macro, syntax, notation, axiom, sorry.
-/
import Derived.Test.YtgaekibompacnaaDoorChecked
import GoSem.Claim
import GoSem.ClaimJoined
import GoSem.ClaimMapViews
import Derived.JoinedTies
import Derived.KernelRfl
namespace Go.Proofs.YtgaekibompacnaaDoor
/- THE CELL 'sum', in the pinned program and in every row, IS THE sha256 OF THE DUMP (.gsa) THAT YtgaekibompacnaaDoorProg.lean LOADS. Nothing in Lean hashes anything: it is a label: what it is worth is what the hold of that sum in a sandbox is worth. -/
noncomputable def Tryd.pinned : Pinned := { name := "ytgaekibompacnaadoor", sum := "6fd16514da73f3dfd1bad76bd962dccc3dd6435f4940068fd538a627aa7ec2a4", checked := Tryd.checked }
namespace Rows
def none {H : Type} : Left H := { results := [], args := [] }

/- WHAT THE LISTED PACKAGE-LEVEL VARIABLES READ AS WHEN THE CALL BEGINS. Each datum BY PROGRAM (the guide's laid-datum.mjs) off the statement by which the dump's own 'gosem.cut.vars' lays the variable. In a bare row this is a premise. The card (YtgaekibompacnaaDoorCards.lean) ties it to the program's text. -/
def laid_touchstone_digest_round {H : Type} : DataW H := .agg [.lit (.int .u32 1116352408), .lit (.int .u32 1899447441), .lit (.int .u32 3049323471), .lit (.int .u32 3921009573), .lit (.int .u32 961987163), .lit (.int .u32 1508970993), .lit (.int .u32 2453635748), .lit (.int .u32 2870763221), .lit (.int .u32 3624381080), .lit (.int .u32 310598401), .lit (.int .u32 607225278), .lit (.int .u32 1426881987), .lit (.int .u32 1925078388), .lit (.int .u32 2162078206), .lit (.int .u32 2614888103), .lit (.int .u32 3248222580), .lit (.int .u32 3835390401), .lit (.int .u32 4022224774), .lit (.int .u32 264347078), .lit (.int .u32 604807628), .lit (.int .u32 770255983), .lit (.int .u32 1249150122), .lit (.int .u32 1555081692), .lit (.int .u32 1996064986), .lit (.int .u32 2554220882), .lit (.int .u32 2821834349), .lit (.int .u32 2952996808), .lit (.int .u32 3210313671), .lit (.int .u32 3336571891), .lit (.int .u32 3584528711), .lit (.int .u32 113926993), .lit (.int .u32 338241895), .lit (.int .u32 666307205), .lit (.int .u32 773529912), .lit (.int .u32 1294757372), .lit (.int .u32 1396182291), .lit (.int .u32 1695183700), .lit (.int .u32 1986661051), .lit (.int .u32 2177026350), .lit (.int .u32 2456956037), .lit (.int .u32 2730485921), .lit (.int .u32 2820302411), .lit (.int .u32 3259730800), .lit (.int .u32 3345764771), .lit (.int .u32 3516065817), .lit (.int .u32 3600352804), .lit (.int .u32 4094571909), .lit (.int .u32 275423344), .lit (.int .u32 430227734), .lit (.int .u32 506948616), .lit (.int .u32 659060556), .lit (.int .u32 883997877), .lit (.int .u32 958139571), .lit (.int .u32 1322822218), .lit (.int .u32 1537002063), .lit (.int .u32 1747873779), .lit (.int .u32 1955562222), .lit (.int .u32 2024104815), .lit (.int .u32 2227730452), .lit (.int .u32 2361852424), .lit (.int .u32 2428436474), .lit (.int .u32 2756734187), .lit (.int .u32 3204031479), .lit (.int .u32 3329325298)]

/-- 'touchstonelaw2.DigestCuts': WHATEVER THE INPUT: true; the input reads as it did. -/
def digestCutsSpec : ChangeSpec := { name := "digestCuts", fn := fun _ => fun
  | [d1, d2] => { results := [.lit (.bool true)], args := [d1, d2] }
  | _ => none }
def digestCutsRow : OpenClaim := { program := "ytgaekibompacnaadoor", sum := "6fd16514da73f3dfd1bad76bd962dccc3dd6435f4940068fd538a627aa7ec2a4", func := "touchstone/touchstonelaw2.DigestCuts", spec := "digestCuts", named := ["touchstone/digest.round"], apart := false, laid := [("touchstone/digest.round", laid_touchstone_digest_round)] }
def DigestCutsSaid : Prop := digestCutsRow.holds Tryd.pinned (OpenSpec.ofChange digestCutsSpec)

/-- ITS FALSE NEIGHBOUR: 'it returns false'. Refute it at one input. -/
def digestCutsWrong : ChangeSpec := { name := "digestCuts", fn := fun _ => fun
  | [d1, d2] => { results := [.lit (.bool false)], args := [d1, d2] }
  | _ => none }
def DigestCutsWrongFalsely : Prop := digestCutsRow.holds Tryd.pinned (OpenSpec.ofChange digestCutsWrong)

/-- 'touchstonelaw2.DigestEnds': WHATEVER THE INPUT: true; the input reads as it did. -/
def digestEndsSpec : ChangeSpec := { name := "digestEnds", fn := fun _ => fun
  | [d1, d2] => { results := [.lit (.bool true)], args := [d1, d2] }
  | _ => none }
def digestEndsRow : OpenClaim := { program := "ytgaekibompacnaadoor", sum := "6fd16514da73f3dfd1bad76bd962dccc3dd6435f4940068fd538a627aa7ec2a4", func := "touchstone/touchstonelaw2.DigestEnds", spec := "digestEnds", named := ["touchstone/digest.round"], apart := false, laid := [("touchstone/digest.round", laid_touchstone_digest_round)] }
def DigestEndsSaid : Prop := digestEndsRow.holds Tryd.pinned (OpenSpec.ofChange digestEndsSpec)

/-- ITS FALSE NEIGHBOUR: 'it returns false'. Refute it at one input. -/
def digestEndsWrong : ChangeSpec := { name := "digestEnds", fn := fun _ => fun
  | [d1, d2] => { results := [.lit (.bool false)], args := [d1, d2] }
  | _ => none }
def DigestEndsWrongFalsely : Prop := digestEndsRow.holds Tryd.pinned (OpenSpec.ofChange digestEndsWrong)

/-- 'touchstonelaw2.DigestAll': WHATEVER THE INPUT: true; the input reads as it did. -/
def digestAllSpec : ChangeSpec := { name := "digestAll", fn := fun _ => fun
  | [d1, d2] => { results := [.lit (.bool true)], args := [d1, d2] }
  | _ => none }
def digestAllRow : OpenClaim := { program := "ytgaekibompacnaadoor", sum := "6fd16514da73f3dfd1bad76bd962dccc3dd6435f4940068fd538a627aa7ec2a4", func := "touchstone/touchstonelaw2.DigestAll", spec := "digestAll", unfollowed := true, recurses := true, named := ["touchstone/digest.round"], apart := false, laid := [("touchstone/digest.round", laid_touchstone_digest_round)] }
def DigestAllSaid : Prop := digestAllRow.holds Tryd.pinned (OpenSpec.ofChange digestAllSpec)

/-- ITS FALSE NEIGHBOUR: 'it returns false'. Refute it at one input. -/
def digestAllWrong : ChangeSpec := { name := "digestAll", fn := fun _ => fun
  | [d1, d2] => { results := [.lit (.bool false)], args := [d1, d2] }
  | _ => none }
def DigestAllWrongFalsely : Prop := digestAllRow.holds Tryd.pinned (OpenSpec.ofChange digestAllWrong)

/-- 'touchstonelaw2.DigestFirst': WHATEVER THE INPUT: true; the input reads as it did. -/
def digestFirstSpec : ChangeSpec := { name := "digestFirst", fn := fun _ => fun
  | [d] => { results := [.lit (.bool true)], args := [d] }
  | _ => none }
def digestFirstRow : OpenClaim := { program := "ytgaekibompacnaadoor", sum := "6fd16514da73f3dfd1bad76bd962dccc3dd6435f4940068fd538a627aa7ec2a4", func := "touchstone/touchstonelaw2.DigestFirst", spec := "digestFirst", unfollowed := true, recurses := true, named := ["touchstone/digest.round"], apart := false, laid := [("touchstone/digest.round", laid_touchstone_digest_round)] }
def DigestFirstSaid : Prop := digestFirstRow.holds Tryd.pinned (OpenSpec.ofChange digestFirstSpec)

/-- ITS FALSE NEIGHBOUR: 'it returns false'. Refute it at one input. -/
def digestFirstWrong : ChangeSpec := { name := "digestFirst", fn := fun _ => fun
  | [d] => { results := [.lit (.bool false)], args := [d] }
  | _ => none }
def DigestFirstWrongFalsely : Prop := digestFirstRow.holds Tryd.pinned (OpenSpec.ofChange digestFirstWrong)

/-- 'touchstonelaw22.DrawAll': WHATEVER THE INPUT: true; the input reads as it did. -/
def drawAllSpec : ChangeSpec := { name := "drawAll", fn := fun _ => fun
  | [d1, d2, d3, d4, d5] => { results := [.lit (.bool true)], args := [d1, d2, d3, d4, d5] }
  | _ => none }
def drawAllRow : OpenClaim := { program := "ytgaekibompacnaadoor", sum := "6fd16514da73f3dfd1bad76bd962dccc3dd6435f4940068fd538a627aa7ec2a4", func := "touchstone/touchstonelaw22.DrawAll", spec := "drawAll", unfollowed := true, recurses := true, named := ["touchstone/digest.round"], apart := false, laid := [("touchstone/digest.round", laid_touchstone_digest_round)] }
def DrawAllSaid : Prop := drawAllRow.holds Tryd.pinned (OpenSpec.ofChange drawAllSpec)

/-- ITS FALSE NEIGHBOUR: 'it returns false'. Refute it at one input. -/
def drawAllWrong : ChangeSpec := { name := "drawAll", fn := fun _ => fun
  | [d1, d2, d3, d4, d5] => { results := [.lit (.bool false)], args := [d1, d2, d3, d4, d5] }
  | _ => none }
def DrawAllWrongFalsely : Prop := drawAllRow.holds Tryd.pinned (OpenSpec.ofChange drawAllWrong)

/-- 'touchstonelaw22.DrawLine': WHATEVER THE INPUT: true; the input reads as it did. -/
def drawLineSpec : ChangeSpec := { name := "drawLine", fn := fun _ => fun
  | [d1, d2, d3] => { results := [.lit (.bool true)], args := [d1, d2, d3] }
  | _ => none }
def drawLineRow : OpenClaim := { program := "ytgaekibompacnaadoor", sum := "6fd16514da73f3dfd1bad76bd962dccc3dd6435f4940068fd538a627aa7ec2a4", func := "touchstone/touchstonelaw22.DrawLine", spec := "drawLine", unfollowed := true, recurses := true, named := ["touchstone/digest.round"], apart := false, laid := [("touchstone/digest.round", laid_touchstone_digest_round)] }
def DrawLineSaid : Prop := drawLineRow.holds Tryd.pinned (OpenSpec.ofChange drawLineSpec)

/-- ITS FALSE NEIGHBOUR: 'it returns false'. Refute it at one input. -/
def drawLineWrong : ChangeSpec := { name := "drawLine", fn := fun _ => fun
  | [d1, d2, d3] => { results := [.lit (.bool false)], args := [d1, d2, d3] }
  | _ => none }
def DrawLineWrongFalsely : Prop := drawLineRow.holds Tryd.pinned (OpenSpec.ofChange drawLineWrong)

/-- 'touchstonelaw22.DrawApart': WHATEVER THE INPUT: true; the input reads as it did. -/
def drawApartSpec : ChangeSpec := { name := "drawApart", fn := fun _ => fun
  | [d1, d2, d3] => { results := [.lit (.bool true)], args := [d1, d2, d3] }
  | _ => none }
def drawApartRow : OpenClaim := { program := "ytgaekibompacnaadoor", sum := "6fd16514da73f3dfd1bad76bd962dccc3dd6435f4940068fd538a627aa7ec2a4", func := "touchstone/touchstonelaw22.DrawApart", spec := "drawApart", unfollowed := true, recurses := true, named := ["touchstone/digest.round"], apart := false, laid := [("touchstone/digest.round", laid_touchstone_digest_round)] }
def DrawApartSaid : Prop := drawApartRow.holds Tryd.pinned (OpenSpec.ofChange drawApartSpec)

/-- ITS FALSE NEIGHBOUR: 'it returns false'. Refute it at one input. -/
def drawApartWrong : ChangeSpec := { name := "drawApart", fn := fun _ => fun
  | [d1, d2, d3] => { results := [.lit (.bool false)], args := [d1, d2, d3] }
  | _ => none }
def DrawApartWrongFalsely : Prop := drawApartRow.holds Tryd.pinned (OpenSpec.ofChange drawApartWrong)

/- THE SECOND FORM. 'bulk': how many values and letters a reading holds, each counted each time it is reached (what is shared counts as often as it is met; a slice's spare places count too). A statement '..UptoSaid' is the law's where the arguments, and the package variables that the reading takes, are together of bulk at most 1048576: NARROWER than '..Said'. Prove '..Said' where nothing that the law and all that it calls make is longer than what came in: it says more and counts as full. Else prove '..UptoSaid'. A law counts once. -/
mutual
def uptoBulk {H : Type} : DataW H → Nat
  | .lit (.string bytes) => bytes.length + 1
  | .lit _ => 1
  | .nil => 1
  | .ptr d => uptoBulk d + 1
  | .slice elems spare => uptoBulkAll elems + uptoBulkAll spare + 1
  | .agg parts => uptoBulkAll parts + 1
  | .iface _ d => uptoBulk d + 1
  | .map entries => uptoBulkEntries entries + 1
  | .held _ => 1
def uptoBulkAll {H : Type} : List (DataW H) → Nat
  | [] => 0
  | d :: r => uptoBulk d + uptoBulkAll r
def uptoBulkEntries {H : Type} : List (Lit × DataW H) → Nat
  | [] => 0
  | x :: r => uptoBulkEntry x + uptoBulkEntries r
def uptoBulkEntry {H : Type} : Lit × DataW H → Nat
  | (.string bytes, d) => bytes.length + uptoBulk d + 1
  | (_, d) => uptoBulk d + 1
 end
def uptoSmall : (H : Type) → List (DataW H) → Bool := fun _ ds => decide (uptoBulkAll ds ≤ 1048576)
def OpenSpec.upto (s : _root_.Go.ChangeSpec) : _root_.Go.OpenSpec := { _root_.Go.OpenSpec.ofChange s with cond := some uptoSmall }

/-- 'touchstonelaw2.DigestCuts', WHERE WHAT IT READS IS OF BULK AT MOST 1048576: true; the input reads as it did. -/
def digestCutsUptoRow : OpenClaim := { program := "ytgaekibompacnaadoor", sum := "6fd16514da73f3dfd1bad76bd962dccc3dd6435f4940068fd538a627aa7ec2a4", func := "touchstone/touchstonelaw2.DigestCuts", spec := "digestCuts", named := ["touchstone/digest.round"], apart := false, laid := [("touchstone/digest.round", laid_touchstone_digest_round)], narrowed := true }
def DigestCutsUptoSaid : Prop := digestCutsUptoRow.holds Tryd.pinned (OpenSpec.upto digestCutsSpec)

/-- 'touchstonelaw2.DigestEnds', WHERE WHAT IT READS IS OF BULK AT MOST 1048576: true; the input reads as it did. -/
def digestEndsUptoRow : OpenClaim := { program := "ytgaekibompacnaadoor", sum := "6fd16514da73f3dfd1bad76bd962dccc3dd6435f4940068fd538a627aa7ec2a4", func := "touchstone/touchstonelaw2.DigestEnds", spec := "digestEnds", named := ["touchstone/digest.round"], apart := false, laid := [("touchstone/digest.round", laid_touchstone_digest_round)], narrowed := true }
def DigestEndsUptoSaid : Prop := digestEndsUptoRow.holds Tryd.pinned (OpenSpec.upto digestEndsSpec)

/-- 'touchstonelaw2.DigestAll', WHERE WHAT IT READS IS OF BULK AT MOST 1048576: true; the input reads as it did. -/
def digestAllUptoRow : OpenClaim := { program := "ytgaekibompacnaadoor", sum := "6fd16514da73f3dfd1bad76bd962dccc3dd6435f4940068fd538a627aa7ec2a4", func := "touchstone/touchstonelaw2.DigestAll", spec := "digestAll", unfollowed := true, recurses := true, named := ["touchstone/digest.round"], apart := false, laid := [("touchstone/digest.round", laid_touchstone_digest_round)], narrowed := true }
def DigestAllUptoSaid : Prop := digestAllUptoRow.holds Tryd.pinned (OpenSpec.upto digestAllSpec)

/-- 'touchstonelaw2.DigestFirst', WHERE WHAT IT READS IS OF BULK AT MOST 1048576: true; the input reads as it did. -/
def digestFirstUptoRow : OpenClaim := { program := "ytgaekibompacnaadoor", sum := "6fd16514da73f3dfd1bad76bd962dccc3dd6435f4940068fd538a627aa7ec2a4", func := "touchstone/touchstonelaw2.DigestFirst", spec := "digestFirst", unfollowed := true, recurses := true, named := ["touchstone/digest.round"], apart := false, laid := [("touchstone/digest.round", laid_touchstone_digest_round)], narrowed := true }
def DigestFirstUptoSaid : Prop := digestFirstUptoRow.holds Tryd.pinned (OpenSpec.upto digestFirstSpec)

/-- 'touchstonelaw22.DrawAll', WHERE WHAT IT READS IS OF BULK AT MOST 1048576: true; the input reads as it did. -/
def drawAllUptoRow : OpenClaim := { program := "ytgaekibompacnaadoor", sum := "6fd16514da73f3dfd1bad76bd962dccc3dd6435f4940068fd538a627aa7ec2a4", func := "touchstone/touchstonelaw22.DrawAll", spec := "drawAll", unfollowed := true, recurses := true, named := ["touchstone/digest.round"], apart := false, laid := [("touchstone/digest.round", laid_touchstone_digest_round)], narrowed := true }
def DrawAllUptoSaid : Prop := drawAllUptoRow.holds Tryd.pinned (OpenSpec.upto drawAllSpec)

/-- 'touchstonelaw22.DrawLine', WHERE WHAT IT READS IS OF BULK AT MOST 1048576: true; the input reads as it did. -/
def drawLineUptoRow : OpenClaim := { program := "ytgaekibompacnaadoor", sum := "6fd16514da73f3dfd1bad76bd962dccc3dd6435f4940068fd538a627aa7ec2a4", func := "touchstone/touchstonelaw22.DrawLine", spec := "drawLine", unfollowed := true, recurses := true, named := ["touchstone/digest.round"], apart := false, laid := [("touchstone/digest.round", laid_touchstone_digest_round)], narrowed := true }
def DrawLineUptoSaid : Prop := drawLineUptoRow.holds Tryd.pinned (OpenSpec.upto drawLineSpec)

/-- 'touchstonelaw22.DrawApart', WHERE WHAT IT READS IS OF BULK AT MOST 1048576: true; the input reads as it did. -/
def drawApartUptoRow : OpenClaim := { program := "ytgaekibompacnaadoor", sum := "6fd16514da73f3dfd1bad76bd962dccc3dd6435f4940068fd538a627aa7ec2a4", func := "touchstone/touchstonelaw22.DrawApart", spec := "drawApart", unfollowed := true, recurses := true, named := ["touchstone/digest.round"], apart := false, laid := [("touchstone/digest.round", laid_touchstone_digest_round)], narrowed := true }
def DrawApartUptoSaid : Prop := drawApartUptoRow.holds Tryd.pinned (OpenSpec.upto drawApartSpec)

end Rows
end Go.Proofs.YtgaekibompacnaaDoor
