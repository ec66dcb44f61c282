/-
  DERIVED. GIVEN WITH THE SEED: THE CARDS: each row of YtdfgdheehdabmaaGreatDoorRows.lean that lists a variable, with what it lists TIED to the program's text (the seventh form; the later family's looks); each row that meets fmt, with fmt's text TOLD by the authors' own Lean function (tested against real Go, not proved from fmt's source: count such statements apart). THE CARD IS WHAT COUNTS. Prove the row's statement (the work); the ties are given (YtdfgdheehdabmaaGreatDoorTie.lean); close each card by the builder's one call (the guide's Derived/Test/ToyasCard.lean, 'card_holds'). Laid BY PROGRAM, IN A SANDBOX (cutbox-door.mjs). By AI agents, Wed Nov 11 2026. No macro, syntax, notation, axiom, sorry.
-/
import Derived.Test.YtdfgdheehdabmaaGreatDoorRows
import GoSem.ClaimSeven
namespace Go.Proofs.YtdfgdheehdabmaaGreatDoor
namespace Rows

/-- THE TIED CARD OF 'tidehalllaw15.BestTells'. -/
def bestTellsCard : Claim7 := { stood := { row := bestTellsRow, standIns := [], harness := (true, "6ad434b53c80b8cbc504c779dc9d22f140a9e6faf6d11bcfd1ffe4209b6cd382"), looks := false }, kinds := [], alts := [], laidByText := true, laidKinds := [.data], laidTests := true, laidLooks := .later }
def BestTellsCardSaid : Prop := Claim7.holds Tryz.pinned (.plain (OpenSpec.ofChange bestTellsSpec)) bestTellsCard

/-- THE TIED CARD OF 'tidehalllaw15.BestRank'. -/
def bestRankCard : Claim7 := { stood := { row := bestRankRow, standIns := [], harness := (true, "6ad434b53c80b8cbc504c779dc9d22f140a9e6faf6d11bcfd1ffe4209b6cd382"), looks := false }, kinds := [], alts := [], laidByText := true, laidKinds := [.data], laidTests := true, laidLooks := .later }
def BestRankCardSaid : Prop := Claim7.holds Tryz.pinned (.plain (OpenSpec.ofChange bestRankSpec)) bestRankCard

/-- THE SECOND FORM's CARD OF 'tidehalllaw15.BestTells'. -/
def bestTellsUptoCard : Claim7 := { stood := { row := bestTellsUptoRow, standIns := [], harness := (true, "6ad434b53c80b8cbc504c779dc9d22f140a9e6faf6d11bcfd1ffe4209b6cd382"), looks := false }, kinds := [], alts := [], laidByText := true, laidKinds := [.data], laidTests := true, laidLooks := .later }
def BestTellsUptoCardSaid : Prop := Claim7.holds Tryz.pinned (.plain (OpenSpec.upto bestTellsSpec)) bestTellsUptoCard

/-- THE SECOND FORM's CARD OF 'tidehalllaw15.BestRank'. -/
def bestRankUptoCard : Claim7 := { stood := { row := bestRankUptoRow, standIns := [], harness := (true, "6ad434b53c80b8cbc504c779dc9d22f140a9e6faf6d11bcfd1ffe4209b6cd382"), looks := false }, kinds := [], alts := [], laidByText := true, laidKinds := [.data], laidTests := true, laidLooks := .later }
def BestRankUptoCardSaid : Prop := Claim7.holds Tryz.pinned (.plain (OpenSpec.upto bestRankSpec)) bestRankUptoCard
end Rows
end Go.Proofs.YtdfgdheehdabmaaGreatDoor
