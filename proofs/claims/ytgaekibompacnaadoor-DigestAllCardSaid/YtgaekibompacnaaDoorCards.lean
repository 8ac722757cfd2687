/-
  DERIVED. GIVEN WITH THE SEED: THE CARDS: each row of YtgaekibompacnaaDoorRows.lean that lists a variable, with what it lists TIED to the program's text (the seventh form; the later family's looks); each row that meets fmt, with fmt's text TOLD by the authors' own Lean function (tested against real Go, not proved from fmt's source: count such statements apart). THE CARD IS WHAT COUNTS. Prove the row's statement (the work); the ties are given (YtgaekibompacnaaDoorTie.lean); close each card by the builder's one call (the guide's Derived/Test/ToyasCard.lean, 'card_holds'). Laid BY PROGRAM, IN A SANDBOX (cutbox-door.mjs). By AI agents, Wed Nov 11 2026. No macro, syntax, notation, axiom, sorry.
-/
import Derived.Test.YtgaekibompacnaaDoorRows
import GoSem.ClaimSeven
namespace Go.Proofs.YtgaekibompacnaaDoor
namespace Rows

/-- THE TIED CARD OF 'touchstonelaw2.DigestCuts'. -/
def digestCutsCard : Claim7 := { stood := { row := digestCutsRow, standIns := [], harness := (true, "134ff1a9a9ed42973d31a1b798d85d9360342cb599f2120993de9a72604923e9"), looks := false }, kinds := [], alts := [], laidByText := true, laidKinds := [.data], laidTests := true, laidLooks := .later }
def DigestCutsCardSaid : Prop := Claim7.holds Tryd.pinned (.plain (OpenSpec.ofChange digestCutsSpec)) digestCutsCard

/-- THE TIED CARD OF 'touchstonelaw2.DigestEnds'. -/
def digestEndsCard : Claim7 := { stood := { row := digestEndsRow, standIns := [], harness := (true, "134ff1a9a9ed42973d31a1b798d85d9360342cb599f2120993de9a72604923e9"), looks := false }, kinds := [], alts := [], laidByText := true, laidKinds := [.data], laidTests := true, laidLooks := .later }
def DigestEndsCardSaid : Prop := Claim7.holds Tryd.pinned (.plain (OpenSpec.ofChange digestEndsSpec)) digestEndsCard

/-- THE TIED CARD OF 'touchstonelaw2.DigestAll'. -/
def digestAllCard : Claim7 := { stood := { row := digestAllRow, standIns := [], harness := (true, "134ff1a9a9ed42973d31a1b798d85d9360342cb599f2120993de9a72604923e9"), looks := false }, kinds := [], alts := [], laidByText := true, laidKinds := [.data], laidTests := true, laidLooks := .later }
def DigestAllCardSaid : Prop := Claim7.holds Tryd.pinned (.plain (OpenSpec.ofChange digestAllSpec)) digestAllCard

/-- THE TIED CARD OF 'touchstonelaw2.DigestFirst'. -/
def digestFirstCard : Claim7 := { stood := { row := digestFirstRow, standIns := [], harness := (true, "134ff1a9a9ed42973d31a1b798d85d9360342cb599f2120993de9a72604923e9"), looks := false }, kinds := [], alts := [], laidByText := true, laidKinds := [.data], laidTests := true, laidLooks := .later }
def DigestFirstCardSaid : Prop := Claim7.holds Tryd.pinned (.plain (OpenSpec.ofChange digestFirstSpec)) digestFirstCard

/-- THE TIED CARD OF 'touchstonelaw22.DrawAll'. -/
def drawAllCard : Claim7 := { stood := { row := drawAllRow, standIns := [], harness := (true, "134ff1a9a9ed42973d31a1b798d85d9360342cb599f2120993de9a72604923e9"), looks := false }, kinds := [], alts := [], laidByText := true, laidKinds := [.data], laidTests := true, laidLooks := .later }
def DrawAllCardSaid : Prop := Claim7.holds Tryd.pinned (.plain (OpenSpec.ofChange drawAllSpec)) drawAllCard

/-- THE TIED CARD OF 'touchstonelaw22.DrawLine'. -/
def drawLineCard : Claim7 := { stood := { row := drawLineRow, standIns := [], harness := (true, "134ff1a9a9ed42973d31a1b798d85d9360342cb599f2120993de9a72604923e9"), looks := false }, kinds := [], alts := [], laidByText := true, laidKinds := [.data], laidTests := true, laidLooks := .later }
def DrawLineCardSaid : Prop := Claim7.holds Tryd.pinned (.plain (OpenSpec.ofChange drawLineSpec)) drawLineCard

/-- THE TIED CARD OF 'touchstonelaw22.DrawApart'. -/
def drawApartCard : Claim7 := { stood := { row := drawApartRow, standIns := [], harness := (true, "134ff1a9a9ed42973d31a1b798d85d9360342cb599f2120993de9a72604923e9"), looks := false }, kinds := [], alts := [], laidByText := true, laidKinds := [.data], laidTests := true, laidLooks := .later }
def DrawApartCardSaid : Prop := Claim7.holds Tryd.pinned (.plain (OpenSpec.ofChange drawApartSpec)) drawApartCard

/-- THE SECOND FORM's CARD OF 'touchstonelaw2.DigestCuts'. -/
def digestCutsUptoCard : Claim7 := { stood := { row := digestCutsUptoRow, standIns := [], harness := (true, "134ff1a9a9ed42973d31a1b798d85d9360342cb599f2120993de9a72604923e9"), looks := false }, kinds := [], alts := [], laidByText := true, laidKinds := [.data], laidTests := true, laidLooks := .later }
def DigestCutsUptoCardSaid : Prop := Claim7.holds Tryd.pinned (.plain (OpenSpec.upto digestCutsSpec)) digestCutsUptoCard

/-- THE SECOND FORM's CARD OF 'touchstonelaw2.DigestEnds'. -/
def digestEndsUptoCard : Claim7 := { stood := { row := digestEndsUptoRow, standIns := [], harness := (true, "134ff1a9a9ed42973d31a1b798d85d9360342cb599f2120993de9a72604923e9"), looks := false }, kinds := [], alts := [], laidByText := true, laidKinds := [.data], laidTests := true, laidLooks := .later }
def DigestEndsUptoCardSaid : Prop := Claim7.holds Tryd.pinned (.plain (OpenSpec.upto digestEndsSpec)) digestEndsUptoCard

/-- THE SECOND FORM's CARD OF 'touchstonelaw2.DigestAll'. -/
def digestAllUptoCard : Claim7 := { stood := { row := digestAllUptoRow, standIns := [], harness := (true, "134ff1a9a9ed42973d31a1b798d85d9360342cb599f2120993de9a72604923e9"), looks := false }, kinds := [], alts := [], laidByText := true, laidKinds := [.data], laidTests := true, laidLooks := .later }
def DigestAllUptoCardSaid : Prop := Claim7.holds Tryd.pinned (.plain (OpenSpec.upto digestAllSpec)) digestAllUptoCard

/-- THE SECOND FORM's CARD OF 'touchstonelaw2.DigestFirst'. -/
def digestFirstUptoCard : Claim7 := { stood := { row := digestFirstUptoRow, standIns := [], harness := (true, "134ff1a9a9ed42973d31a1b798d85d9360342cb599f2120993de9a72604923e9"), looks := false }, kinds := [], alts := [], laidByText := true, laidKinds := [.data], laidTests := true, laidLooks := .later }
def DigestFirstUptoCardSaid : Prop := Claim7.holds Tryd.pinned (.plain (OpenSpec.upto digestFirstSpec)) digestFirstUptoCard

/-- THE SECOND FORM's CARD OF 'touchstonelaw22.DrawAll'. -/
def drawAllUptoCard : Claim7 := { stood := { row := drawAllUptoRow, standIns := [], harness := (true, "134ff1a9a9ed42973d31a1b798d85d9360342cb599f2120993de9a72604923e9"), looks := false }, kinds := [], alts := [], laidByText := true, laidKinds := [.data], laidTests := true, laidLooks := .later }
def DrawAllUptoCardSaid : Prop := Claim7.holds Tryd.pinned (.plain (OpenSpec.upto drawAllSpec)) drawAllUptoCard

/-- THE SECOND FORM's CARD OF 'touchstonelaw22.DrawLine'. -/
def drawLineUptoCard : Claim7 := { stood := { row := drawLineUptoRow, standIns := [], harness := (true, "134ff1a9a9ed42973d31a1b798d85d9360342cb599f2120993de9a72604923e9"), looks := false }, kinds := [], alts := [], laidByText := true, laidKinds := [.data], laidTests := true, laidLooks := .later }
def DrawLineUptoCardSaid : Prop := Claim7.holds Tryd.pinned (.plain (OpenSpec.upto drawLineSpec)) drawLineUptoCard

/-- THE SECOND FORM's CARD OF 'touchstonelaw22.DrawApart'. -/
def drawApartUptoCard : Claim7 := { stood := { row := drawApartUptoRow, standIns := [], harness := (true, "134ff1a9a9ed42973d31a1b798d85d9360342cb599f2120993de9a72604923e9"), looks := false }, kinds := [], alts := [], laidByText := true, laidKinds := [.data], laidTests := true, laidLooks := .later }
def DrawApartUptoCardSaid : Prop := Claim7.holds Tryd.pinned (.plain (OpenSpec.upto drawApartSpec)) drawApartUptoCard
end Rows
end Go.Proofs.YtgaekibompacnaaDoor
