/-
  DERIVED. GIVEN WITH THE SEED: THE CARDS: each row of YtfahngokbdndmaaGreatDoorRows.lean that lists a variable, with what it lists TIED to the program's text (the seventh form; the later family's looks); each row that meets fmt, with fmt's text TOLD by the authors' own Lean function (tested against real Go, not proved from fmt's source: count such statements apart). THE CARD IS WHAT COUNTS. Prove the row's statement (the work); the ties are given (YtfahngokbdndmaaGreatDoorTie.lean); close each card by the builder's one call (the guide's Derived/Test/ToyasCard.lean, 'card_holds'). Laid BY PROGRAM, IN A SANDBOX (cutbox-door.mjs). By AI agents, Wed Nov 11 2026. No macro, syntax, notation, axiom, sorry.
-/
import Derived.Test.YtfahngokbdndmaaGreatDoorRows
import GoSem.ClaimSeven
namespace Go.Proofs.YtfahngokbdndmaaGreatDoor
namespace Rows

/-- THE TIED CARD OF 'tidehalllaw15.BestOrder'. -/
def bestOrderCard : Claim7 := { stood := { row := bestOrderRow, standIns := [], harness := (true, "a14d22f1b6896a4ea51e3db2320c7c1ab2d3918c2e9c8c3ca2af87b1c69e69ba"), looks := false }, kinds := [], alts := [], laidByText := true, laidKinds := [.data], laidTests := true, laidLooks := .later }
def BestOrderCardSaid : Prop := Claim7.holds Tryz.pinned (.plain (OpenSpec.ofChange bestOrderSpec)) bestOrderCard

/-- THE SECOND FORM's CARD OF 'tidehalllaw15.BestOrder'. -/
def bestOrderUptoCard : Claim7 := { stood := { row := bestOrderUptoRow, standIns := [], harness := (true, "a14d22f1b6896a4ea51e3db2320c7c1ab2d3918c2e9c8c3ca2af87b1c69e69ba"), looks := false }, kinds := [], alts := [], laidByText := true, laidKinds := [.data], laidTests := true, laidLooks := .later }
def BestOrderUptoCardSaid : Prop := Claim7.holds Tryz.pinned (.plain (OpenSpec.upto bestOrderSpec)) bestOrderUptoCard
end Rows
end Go.Proofs.YtfahngokbdndmaaGreatDoor
