/-
  DERIVED. GIVEN WITH THE SEED: THE CARDS: each row of YtijmadhlpmikbaaGreatDoorRows.lean that lists a variable, with what it lists TIED to the program's text (the seventh form; the later family's looks); each row that meets fmt, with fmt's text TOLD by the authors' own Lean function (tested against real Go, not proved from fmt's source: count such statements apart). THE CARD IS WHAT COUNTS. Prove the row's statement (the work); the ties are given (YtijmadhlpmikbaaGreatDoorTie.lean); close each card by the builder's one call (the guide's Derived/Test/ToyasCard.lean, 'card_holds'). Laid BY PROGRAM, IN A SANDBOX (cutbox-door.mjs). By AI agents, Wed Nov 11 2026. No macro, syntax, notation, axiom, sorry.
-/
import Derived.Test.YtijmadhlpmikbaaGreatDoorRows
import GoSem.ClaimSeven
namespace Go.Proofs.YtijmadhlpmikbaaGreatDoor
namespace Rows

/-- THE TIED CARD OF 'tidehalllaw15.BestNames'. -/
def bestNamesCard : Claim7 := { stood := { row := bestNamesRow, standIns := [], harness := (true, "2a0dd93f41623f7ef8fe548700727c19ad0fb37da5d211f202ca7116b4da3769"), looks := false }, kinds := [], alts := [], laidByText := true, laidKinds := [.data], laidTests := true, laidLooks := .later }
def BestNamesCardSaid : Prop := Claim7.holds Tryz.pinned (.plain (OpenSpec.ofChange bestNamesSpec)) bestNamesCard

/-- THE TIED CARD OF 'tidehalllaw22.ShadowNames'. -/
def shadowNamesCard : Claim7 := { stood := { row := shadowNamesRow, standIns := [], harness := (true, "2a0dd93f41623f7ef8fe548700727c19ad0fb37da5d211f202ca7116b4da3769"), looks := false }, kinds := [], alts := [], laidByText := true, laidKinds := [.data], laidTests := true, laidLooks := .later }
def ShadowNamesCardSaid : Prop := Claim7.holds Tryz.pinned (.plain (OpenSpec.ofChange shadowNamesSpec)) shadowNamesCard

/-- THE TIED CARD OF 'tidehalllaw23.FillNames'. -/
def fillNamesCard : Claim7 := { stood := { row := fillNamesRow, standIns := [], harness := (true, "2a0dd93f41623f7ef8fe548700727c19ad0fb37da5d211f202ca7116b4da3769"), looks := false }, kinds := [], alts := [], laidByText := true, laidKinds := [.data], laidTests := true, laidLooks := .later }
def FillNamesCardSaid : Prop := Claim7.holds Tryz.pinned (.plain (OpenSpec.ofChange fillNamesSpec)) fillNamesCard

/-- THE SECOND FORM's CARD OF 'tidehalllaw15.BestNames'. -/
def bestNamesUptoCard : Claim7 := { stood := { row := bestNamesUptoRow, standIns := [], harness := (true, "2a0dd93f41623f7ef8fe548700727c19ad0fb37da5d211f202ca7116b4da3769"), looks := false }, kinds := [], alts := [], laidByText := true, laidKinds := [.data], laidTests := true, laidLooks := .later }
def BestNamesUptoCardSaid : Prop := Claim7.holds Tryz.pinned (.plain (OpenSpec.upto bestNamesSpec)) bestNamesUptoCard

/-- THE SECOND FORM's CARD OF 'tidehalllaw22.ShadowNames'. -/
def shadowNamesUptoCard : Claim7 := { stood := { row := shadowNamesUptoRow, standIns := [], harness := (true, "2a0dd93f41623f7ef8fe548700727c19ad0fb37da5d211f202ca7116b4da3769"), looks := false }, kinds := [], alts := [], laidByText := true, laidKinds := [.data], laidTests := true, laidLooks := .later }
def ShadowNamesUptoCardSaid : Prop := Claim7.holds Tryz.pinned (.plain (OpenSpec.upto shadowNamesSpec)) shadowNamesUptoCard

/-- THE SECOND FORM's CARD OF 'tidehalllaw23.FillNames'. -/
def fillNamesUptoCard : Claim7 := { stood := { row := fillNamesUptoRow, standIns := [], harness := (true, "2a0dd93f41623f7ef8fe548700727c19ad0fb37da5d211f202ca7116b4da3769"), looks := false }, kinds := [], alts := [], laidByText := true, laidKinds := [.data], laidTests := true, laidLooks := .later }
def FillNamesUptoCardSaid : Prop := Claim7.holds Tryz.pinned (.plain (OpenSpec.upto fillNamesSpec)) fillNamesUptoCard
end Rows
end Go.Proofs.YtijmadhlpmikbaaGreatDoor
