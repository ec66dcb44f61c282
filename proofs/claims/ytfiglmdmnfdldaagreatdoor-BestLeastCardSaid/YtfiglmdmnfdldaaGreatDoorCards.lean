/-
  DERIVED. GIVEN WITH THE SEED: THE CARDS: each row of YtfiglmdmnfdldaaGreatDoorRows.lean that lists a variable, with what it lists TIED to the program's text (the seventh form; the later family's looks); each row that meets fmt, with fmt's text TOLD by the authors' own Lean function (tested against real Go, not proved from fmt's source: count such statements apart). THE CARD IS WHAT COUNTS. Prove the row's statement (the work); the ties are given (YtfiglmdmnfdldaaGreatDoorTie.lean); close each card by the builder's one call (the guide's Derived/Test/ToyasCard.lean, 'card_holds'). Laid BY PROGRAM, IN A SANDBOX (cutbox-door.mjs). By AI agents, Wed Nov 11 2026. No macro, syntax, notation, axiom, sorry.
-/
import Derived.Test.YtfiglmdmnfdldaaGreatDoorRows
import GoSem.ClaimSeven
namespace Go.Proofs.YtfiglmdmnfdldaaGreatDoor
namespace Rows

/-- THE TIED CARD OF 'tidehalllaw15.BestLess'. -/
def bestLessCard : Claim7 := { stood := { row := bestLessRow, standIns := [], harness := (true, "bcc9e7acb07b80cc8f564fdba4c57122057200cfb4c3fc2d7cdcad89287c5ee4"), looks := false }, kinds := [], alts := [], laidByText := true, laidKinds := [.data], laidTests := true, laidLooks := .later }
def BestLessCardSaid : Prop := Claim7.holds Tryz.pinned (.plain (OpenSpec.ofChange bestLessSpec)) bestLessCard

/-- THE TIED CARD OF 'tidehalllaw15.BestRank'. -/
def bestRankCard : Claim7 := { stood := { row := bestRankRow, standIns := [], harness := (true, "bcc9e7acb07b80cc8f564fdba4c57122057200cfb4c3fc2d7cdcad89287c5ee4"), looks := false }, kinds := [], alts := [], laidByText := true, laidKinds := [.data], laidTests := true, laidLooks := .later }
def BestRankCardSaid : Prop := Claim7.holds Tryz.pinned (.plain (OpenSpec.ofChange bestRankSpec)) bestRankCard

/-- THE TIED CARD OF 'tidehalllaw15.BestLeast'. -/
def bestLeastCard : Claim7 := { stood := { row := bestLeastRow, standIns := [], harness := (true, "bcc9e7acb07b80cc8f564fdba4c57122057200cfb4c3fc2d7cdcad89287c5ee4"), looks := false }, kinds := [], alts := [], laidByText := true, laidKinds := [.data], laidTests := true, laidLooks := .later }
def BestLeastCardSaid : Prop := Claim7.holds Tryz.pinned (.plain (OpenSpec.ofChange bestLeastSpec)) bestLeastCard

/-- THE SECOND FORM's CARD OF 'tidehalllaw15.BestLess'. -/
def bestLessUptoCard : Claim7 := { stood := { row := bestLessUptoRow, standIns := [], harness := (true, "bcc9e7acb07b80cc8f564fdba4c57122057200cfb4c3fc2d7cdcad89287c5ee4"), looks := false }, kinds := [], alts := [], laidByText := true, laidKinds := [.data], laidTests := true, laidLooks := .later }
def BestLessUptoCardSaid : Prop := Claim7.holds Tryz.pinned (.plain (OpenSpec.upto bestLessSpec)) bestLessUptoCard

/-- THE SECOND FORM's CARD OF 'tidehalllaw15.BestRank'. -/
def bestRankUptoCard : Claim7 := { stood := { row := bestRankUptoRow, standIns := [], harness := (true, "bcc9e7acb07b80cc8f564fdba4c57122057200cfb4c3fc2d7cdcad89287c5ee4"), looks := false }, kinds := [], alts := [], laidByText := true, laidKinds := [.data], laidTests := true, laidLooks := .later }
def BestRankUptoCardSaid : Prop := Claim7.holds Tryz.pinned (.plain (OpenSpec.upto bestRankSpec)) bestRankUptoCard

/-- THE SECOND FORM's CARD OF 'tidehalllaw15.BestLeast'. -/
def bestLeastUptoCard : Claim7 := { stood := { row := bestLeastUptoRow, standIns := [], harness := (true, "bcc9e7acb07b80cc8f564fdba4c57122057200cfb4c3fc2d7cdcad89287c5ee4"), looks := false }, kinds := [], alts := [], laidByText := true, laidKinds := [.data], laidTests := true, laidLooks := .later }
def BestLeastUptoCardSaid : Prop := Claim7.holds Tryz.pinned (.plain (OpenSpec.upto bestLeastSpec)) bestLeastUptoCard
end Rows
end Go.Proofs.YtfiglmdmnfdldaaGreatDoor
