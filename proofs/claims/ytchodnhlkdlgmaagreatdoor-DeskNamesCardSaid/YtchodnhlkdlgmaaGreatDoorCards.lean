/-
  DERIVED. GIVEN WITH THE SEED: THE CARDS: each row of YtchodnhlkdlgmaaGreatDoorRows.lean that lists a variable, with what it lists TIED to the program's text (the seventh form; the later family's looks); each row that meets fmt, with fmt's text TOLD by the authors' own Lean function (tested against real Go, not proved from fmt's source: count such statements apart). THE CARD IS WHAT COUNTS. Prove the row's statement (the work); the ties are given (YtchodnhlkdlgmaaGreatDoorTie.lean); close each card by the builder's one call (the guide's Derived/Test/ToyasCard.lean, 'card_holds'). Laid BY PROGRAM, IN A SANDBOX (cutbox-door.mjs). By AI agents, Wed Nov 11 2026. No macro, syntax, notation, axiom, sorry.
-/
import Derived.Test.YtchodnhlkdlgmaaGreatDoorRows
import GoSem.ClaimSeven
namespace Go.Proofs.YtchodnhlkdlgmaaGreatDoor
namespace Rows

/-- THE TIED CARD OF 'tidehalllaw30.HealNames'. -/
def healNamesCard : Claim7 := { stood := { row := healNamesRow, standIns := [], harness := (true, "56f38f1101991d56ccc2d3a64448afc5ab389a8641d473887a4a5949bb9839f4"), looks := true }, kinds := [], alts := [], laidByText := true, laidKinds := [.data], laidTests := true, laidLooks := .later }
def HealNamesCardSaid : Prop := Claim7.holds Tryz.pinned (.plain (OpenSpec.ofChange healNamesSpec)) healNamesCard

/-- THE TIED CARD OF 'tidehalllaw31.DeskNames'. -/
def deskNamesCard : Claim7 := { stood := { row := deskNamesRow, standIns := [], harness := (true, "56f38f1101991d56ccc2d3a64448afc5ab389a8641d473887a4a5949bb9839f4"), looks := true }, kinds := [], alts := [], laidByText := true, laidKinds := [.data], laidTests := true, laidLooks := .later }
def DeskNamesCardSaid : Prop := Claim7.holds Tryz.pinned (.plain (OpenSpec.ofChange deskNamesSpec)) deskNamesCard

/-- THE SECOND FORM's CARD OF 'tidehalllaw30.HealNames'. -/
def healNamesUptoCard : Claim7 := { stood := { row := healNamesUptoRow, standIns := [], harness := (true, "56f38f1101991d56ccc2d3a64448afc5ab389a8641d473887a4a5949bb9839f4"), looks := true }, kinds := [], alts := [], laidByText := true, laidKinds := [.data], laidTests := true, laidLooks := .later }
def HealNamesUptoCardSaid : Prop := Claim7.holds Tryz.pinned (.plain (OpenSpec.upto healNamesSpec)) healNamesUptoCard

/-- THE SECOND FORM's CARD OF 'tidehalllaw31.DeskNames'. -/
def deskNamesUptoCard : Claim7 := { stood := { row := deskNamesUptoRow, standIns := [], harness := (true, "56f38f1101991d56ccc2d3a64448afc5ab389a8641d473887a4a5949bb9839f4"), looks := true }, kinds := [], alts := [], laidByText := true, laidKinds := [.data], laidTests := true, laidLooks := .later }
def DeskNamesUptoCardSaid : Prop := Claim7.holds Tryz.pinned (.plain (OpenSpec.upto deskNamesSpec)) deskNamesUptoCard
end Rows
end Go.Proofs.YtchodnhlkdlgmaaGreatDoor
