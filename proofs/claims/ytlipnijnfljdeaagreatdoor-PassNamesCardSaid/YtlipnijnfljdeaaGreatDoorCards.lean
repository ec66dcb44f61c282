/-
  DERIVED. GIVEN WITH THE SEED: THE CARDS: each row of YtlipnijnfljdeaaGreatDoorRows.lean that lists a variable, with what it lists TIED to the program's text (the seventh form; the later family's looks); each row that meets fmt, with fmt's text TOLD by the authors' own Lean function (tested against real Go, not proved from fmt's source: count such statements apart). THE CARD IS WHAT COUNTS. Prove the row's statement (the work); the ties are given (YtlipnijnfljdeaaGreatDoorTie.lean); close each card by the builder's one call (the guide's Derived/Test/ToyasCard.lean, 'card_holds'). Laid BY PROGRAM, IN A SANDBOX (cutbox-door.mjs). By AI agents, Wed Nov 11 2026. No macro, syntax, notation, axiom, sorry.
-/
import Derived.Test.YtlipnijnfljdeaaGreatDoorRows
import GoSem.ClaimSeven
namespace Go.Proofs.YtlipnijnfljdeaaGreatDoor
namespace Rows

/-- THE TIED CARD OF 'tidehalllaw24.PassNames'. -/
def passNamesCard : Claim7 := { stood := { row := passNamesRow, standIns := [], harness := (true, "c188c695fc9665b14feaa3f170af73d119364b049c00aac05bf2f9f2be05068d"), looks := false }, kinds := [], alts := [], laidByText := true, laidKinds := [.data], laidTests := true, laidLooks := .later }
def PassNamesCardSaid : Prop := Claim7.holds Tryz.pinned (.plain (OpenSpec.ofChange passNamesSpec)) passNamesCard

/-- THE TIED CARD OF 'tidehalllaw26.ModelNames'. -/
def modelNamesCard : Claim7 := { stood := { row := modelNamesRow, standIns := [], harness := (true, "c188c695fc9665b14feaa3f170af73d119364b049c00aac05bf2f9f2be05068d"), looks := false }, kinds := [], alts := [], laidByText := true, laidKinds := [.data], laidTests := true, laidLooks := .later }
def ModelNamesCardSaid : Prop := Claim7.holds Tryz.pinned (.plain (OpenSpec.ofChange modelNamesSpec)) modelNamesCard

/-- THE TIED CARD OF 'tidehalllaw25.StepNames'. -/
def stepNamesCard : Claim7 := { stood := { row := stepNamesRow, standIns := [], harness := (true, "c188c695fc9665b14feaa3f170af73d119364b049c00aac05bf2f9f2be05068d"), looks := false }, kinds := [], alts := [], laidByText := true, laidKinds := [.data], laidTests := true, laidLooks := .later }
def StepNamesCardSaid : Prop := Claim7.holds Tryz.pinned (.plain (OpenSpec.ofChange stepNamesSpec)) stepNamesCard

/-- THE SECOND FORM's CARD OF 'tidehalllaw24.PassNames'. -/
def passNamesUptoCard : Claim7 := { stood := { row := passNamesUptoRow, standIns := [], harness := (true, "c188c695fc9665b14feaa3f170af73d119364b049c00aac05bf2f9f2be05068d"), looks := false }, kinds := [], alts := [], laidByText := true, laidKinds := [.data], laidTests := true, laidLooks := .later }
def PassNamesUptoCardSaid : Prop := Claim7.holds Tryz.pinned (.plain (OpenSpec.upto passNamesSpec)) passNamesUptoCard

/-- THE SECOND FORM's CARD OF 'tidehalllaw26.ModelNames'. -/
def modelNamesUptoCard : Claim7 := { stood := { row := modelNamesUptoRow, standIns := [], harness := (true, "c188c695fc9665b14feaa3f170af73d119364b049c00aac05bf2f9f2be05068d"), looks := false }, kinds := [], alts := [], laidByText := true, laidKinds := [.data], laidTests := true, laidLooks := .later }
def ModelNamesUptoCardSaid : Prop := Claim7.holds Tryz.pinned (.plain (OpenSpec.upto modelNamesSpec)) modelNamesUptoCard

/-- THE SECOND FORM's CARD OF 'tidehalllaw25.StepNames'. -/
def stepNamesUptoCard : Claim7 := { stood := { row := stepNamesUptoRow, standIns := [], harness := (true, "c188c695fc9665b14feaa3f170af73d119364b049c00aac05bf2f9f2be05068d"), looks := false }, kinds := [], alts := [], laidByText := true, laidKinds := [.data], laidTests := true, laidLooks := .later }
def StepNamesUptoCardSaid : Prop := Claim7.holds Tryz.pinned (.plain (OpenSpec.upto stepNamesSpec)) stepNamesUptoCard
end Rows
end Go.Proofs.YtlipnijnfljdeaaGreatDoor
