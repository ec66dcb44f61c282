/-
  DERIVED. GIVEN WITH THE SEED: THE CARDS: each row of YtplmblgihfogjaaGreatDoorRows.lean that lists a variable, with what it lists TIED to the program's text (the seventh form; the later family's looks); each row that meets fmt, with fmt's text TOLD by the authors' own Lean function (tested against real Go, not proved from fmt's source: count such statements apart). THE CARD IS WHAT COUNTS. Prove the row's statement (the work); the ties are given (YtplmblgihfogjaaGreatDoorTie.lean); close each card by the builder's one call (the guide's Derived/Test/ToyasCard.lean, 'card_holds'). Laid BY PROGRAM, IN A SANDBOX (cutbox-door.mjs). By AI agents, Wed Nov 11 2026. No macro, syntax, notation, axiom, sorry.
-/
import Derived.Test.YtplmblgihfogjaaGreatDoorRows
import GoSem.ClaimSeven
namespace Go.Proofs.YtplmblgihfogjaaGreatDoor
namespace Rows

/-- THE TIED CARD OF 'tidehalllaw23.FillKeeps'. -/
def fillKeepsCard : Claim7 := { stood := { row := fillKeepsRow, standIns := [], harness := (true, "382242076627a8bbba35bbe89e6dd74c0b52dff6ce2416f3b6a7ef05c9c86c82"), looks := false }, kinds := [], alts := [], laidByText := true, laidKinds := [.data], laidTests := true, laidLooks := .later }
def FillKeepsCardSaid : Prop := Claim7.holds Tryz.pinned (.plain (OpenSpec.ofChange fillKeepsSpec)) fillKeepsCard

/-- THE TIED CARD OF 'tidehalllaw23.FillShort'. -/
def fillShortCard : Claim7 := { stood := { row := fillShortRow, standIns := [], harness := (true, "382242076627a8bbba35bbe89e6dd74c0b52dff6ce2416f3b6a7ef05c9c86c82"), looks := false }, kinds := [], alts := [], laidByText := true, laidKinds := [.data], laidTests := true, laidLooks := .later }
def FillShortCardSaid : Prop := Claim7.holds Tryz.pinned (.plain (OpenSpec.ofChange fillShortSpec)) fillShortCard

/-- THE TIED CARD OF 'tidehalllaw23.FillHeld'. -/
def fillHeldCard : Claim7 := { stood := { row := fillHeldRow, standIns := [], harness := (true, "382242076627a8bbba35bbe89e6dd74c0b52dff6ce2416f3b6a7ef05c9c86c82"), looks := false }, kinds := [], alts := [], laidByText := true, laidKinds := [.data], laidTests := true, laidLooks := .later }
def FillHeldCardSaid : Prop := Claim7.holds Tryz.pinned (.plain (OpenSpec.ofChange fillHeldSpec)) fillHeldCard

/-- THE TIED CARD OF 'tidehalllaw23.FillNobody'. -/
def fillNobodyCard : Claim7 := { stood := { row := fillNobodyRow, standIns := [], harness := (true, "382242076627a8bbba35bbe89e6dd74c0b52dff6ce2416f3b6a7ef05c9c86c82"), looks := false }, kinds := [], alts := [], laidByText := true, laidKinds := [.data], laidTests := true, laidLooks := .later }
def FillNobodyCardSaid : Prop := Claim7.holds Tryz.pinned (.plain (OpenSpec.ofChange fillNobodySpec)) fillNobodyCard

/-- THE TIED CARD OF 'tidehalllaw24.PassStarts'. -/
def passStartsCard : Claim7 := { stood := { row := passStartsRow, standIns := [], harness := (true, "382242076627a8bbba35bbe89e6dd74c0b52dff6ce2416f3b6a7ef05c9c86c82"), looks := false }, kinds := [], alts := [], laidByText := true, laidKinds := [.data], laidTests := true, laidLooks := .later }
def PassStartsCardSaid : Prop := Claim7.holds Tryz.pinned (.plain (OpenSpec.ofChange passStartsSpec)) passStartsCard

/-- THE SECOND FORM's CARD OF 'tidehalllaw23.FillKeeps'. -/
def fillKeepsUptoCard : Claim7 := { stood := { row := fillKeepsUptoRow, standIns := [], harness := (true, "382242076627a8bbba35bbe89e6dd74c0b52dff6ce2416f3b6a7ef05c9c86c82"), looks := false }, kinds := [], alts := [], laidByText := true, laidKinds := [.data], laidTests := true, laidLooks := .later }
def FillKeepsUptoCardSaid : Prop := Claim7.holds Tryz.pinned (.plain (OpenSpec.upto fillKeepsSpec)) fillKeepsUptoCard

/-- THE SECOND FORM's CARD OF 'tidehalllaw23.FillShort'. -/
def fillShortUptoCard : Claim7 := { stood := { row := fillShortUptoRow, standIns := [], harness := (true, "382242076627a8bbba35bbe89e6dd74c0b52dff6ce2416f3b6a7ef05c9c86c82"), looks := false }, kinds := [], alts := [], laidByText := true, laidKinds := [.data], laidTests := true, laidLooks := .later }
def FillShortUptoCardSaid : Prop := Claim7.holds Tryz.pinned (.plain (OpenSpec.upto fillShortSpec)) fillShortUptoCard

/-- THE SECOND FORM's CARD OF 'tidehalllaw23.FillHeld'. -/
def fillHeldUptoCard : Claim7 := { stood := { row := fillHeldUptoRow, standIns := [], harness := (true, "382242076627a8bbba35bbe89e6dd74c0b52dff6ce2416f3b6a7ef05c9c86c82"), looks := false }, kinds := [], alts := [], laidByText := true, laidKinds := [.data], laidTests := true, laidLooks := .later }
def FillHeldUptoCardSaid : Prop := Claim7.holds Tryz.pinned (.plain (OpenSpec.upto fillHeldSpec)) fillHeldUptoCard

/-- THE SECOND FORM's CARD OF 'tidehalllaw23.FillNobody'. -/
def fillNobodyUptoCard : Claim7 := { stood := { row := fillNobodyUptoRow, standIns := [], harness := (true, "382242076627a8bbba35bbe89e6dd74c0b52dff6ce2416f3b6a7ef05c9c86c82"), looks := false }, kinds := [], alts := [], laidByText := true, laidKinds := [.data], laidTests := true, laidLooks := .later }
def FillNobodyUptoCardSaid : Prop := Claim7.holds Tryz.pinned (.plain (OpenSpec.upto fillNobodySpec)) fillNobodyUptoCard

/-- THE SECOND FORM's CARD OF 'tidehalllaw24.PassStarts'. -/
def passStartsUptoCard : Claim7 := { stood := { row := passStartsUptoRow, standIns := [], harness := (true, "382242076627a8bbba35bbe89e6dd74c0b52dff6ce2416f3b6a7ef05c9c86c82"), looks := false }, kinds := [], alts := [], laidByText := true, laidKinds := [.data], laidTests := true, laidLooks := .later }
def PassStartsUptoCardSaid : Prop := Claim7.holds Tryz.pinned (.plain (OpenSpec.upto passStartsSpec)) passStartsUptoCard
end Rows
end Go.Proofs.YtplmblgihfogjaaGreatDoor
