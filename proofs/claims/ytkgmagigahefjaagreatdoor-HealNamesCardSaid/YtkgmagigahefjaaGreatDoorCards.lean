/-
  DERIVED. GIVEN WITH THE SEED: THE CARDS: each row of YtkgmagigahefjaaGreatDoorRows.lean that lists a variable, with what it lists TIED to the program's text (the seventh form; the later family's looks); each row that meets fmt, with fmt's text TOLD by the authors' own Lean function (tested against real Go, not proved from fmt's source: count such statements apart). THE CARD IS WHAT COUNTS. Prove the row's statement (the work); the ties are given (YtkgmagigahefjaaGreatDoorTie.lean); close each card by the builder's one call (the guide's Derived/Test/ToyasCard.lean, 'card_holds'). Laid BY PROGRAM, IN A SANDBOX (cutbox-door.mjs). By AI agents, Wed Nov 11 2026. No macro, syntax, notation, axiom, sorry.
-/
import Derived.Test.YtkgmagigahefjaaGreatDoorRows
import GoSem.ClaimSeven
namespace Go.Proofs.YtkgmagigahefjaaGreatDoor
namespace Rows

/-- THE TIED CARD OF 'tidehalllaw30.HealNames'. -/
def healNamesCard : Claim7 := { stood := { row := healNamesRow, standIns := [], harness := (true, "d2949d2f11cb1ee0794be2b8d763143aff704fc4a8912219e7e3a26dc248a23e"), looks := true }, kinds := [], alts := [], laidByText := true, laidKinds := [.data], laidTests := true, laidLooks := .later }
def HealNamesCardSaid : Prop := Claim7.holds Tryz.pinned (.plain (OpenSpec.ofChange healNamesSpec)) healNamesCard

/-- THE SECOND FORM's CARD OF 'tidehalllaw30.HealNames'. -/
def healNamesUptoCard : Claim7 := { stood := { row := healNamesUptoRow, standIns := [], harness := (true, "d2949d2f11cb1ee0794be2b8d763143aff704fc4a8912219e7e3a26dc248a23e"), looks := true }, kinds := [], alts := [], laidByText := true, laidKinds := [.data], laidTests := true, laidLooks := .later }
def HealNamesUptoCardSaid : Prop := Claim7.holds Tryz.pinned (.plain (OpenSpec.upto healNamesSpec)) healNamesUptoCard
end Rows
end Go.Proofs.YtkgmagigahefjaaGreatDoor
