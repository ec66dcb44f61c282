/-
  DERIVED. GIVEN WITH THE SEED: THE CARDS: each row of YtbnnfihjhamopaaGreatDoorRows.lean that lists a variable, with what it lists TIED to the program's text (the seventh form; the later family's looks); each row that meets fmt, with fmt's text TOLD by the authors' own Lean function (tested against real Go, not proved from fmt's source: count such statements apart). THE CARD IS WHAT COUNTS. Prove the row's statement (the work); the ties are given (YtbnnfihjhamopaaGreatDoorTie.lean); close each card by the builder's one call (the guide's Derived/Test/ToyasCard.lean, 'card_holds'). Laid BY PROGRAM, IN A SANDBOX (cutbox-door.mjs). By AI agents, Wed Nov 11 2026. No macro, syntax, notation, axiom, sorry.
-/
import Derived.Test.YtbnnfihjhamopaaGreatDoorRows
import GoSem.ClaimSeven
namespace Go.Proofs.YtbnnfihjhamopaaGreatDoor
namespace Rows

/-- THE TIED CARD OF 'tidehalllaw22.ShadowShort'. -/
def shadowShortCard : Claim7 := { stood := { row := shadowShortRow, standIns := [], harness := (true, "10a9056a319cc01b3a513f41072e9fe7bd911ba409478d0a4f6033d22f9afe18"), looks := false }, kinds := [], alts := [], laidByText := true, laidKinds := [.data], laidTests := true, laidLooks := .later }
def ShadowShortCardSaid : Prop := Claim7.holds Tryz.pinned (.plain (OpenSpec.ofChange shadowShortSpec)) shadowShortCard

/-- THE TIED CARD OF 'tidehalllaw22.ShadowLeast'. -/
def shadowLeastCard : Claim7 := { stood := { row := shadowLeastRow, standIns := [], harness := (true, "10a9056a319cc01b3a513f41072e9fe7bd911ba409478d0a4f6033d22f9afe18"), looks := false }, kinds := [], alts := [], laidByText := true, laidKinds := [.data], laidTests := true, laidLooks := .later }
def ShadowLeastCardSaid : Prop := Claim7.holds Tryz.pinned (.plain (OpenSpec.ofChange shadowLeastSpec)) shadowLeastCard

/-- THE TIED CARD OF 'tidehalllaw22.ShadowLess'. -/
def shadowLessCard : Claim7 := { stood := { row := shadowLessRow, standIns := [], harness := (true, "10a9056a319cc01b3a513f41072e9fe7bd911ba409478d0a4f6033d22f9afe18"), looks := false }, kinds := [], alts := [], laidByText := true, laidKinds := [.data], laidTests := true, laidLooks := .later }
def ShadowLessCardSaid : Prop := Claim7.holds Tryz.pinned (.plain (OpenSpec.ofChange shadowLessSpec)) shadowLessCard

/-- THE TIED CARD OF 'tidehalllaw22.ShadowOwns'. -/
def shadowOwnsCard : Claim7 := { stood := { row := shadowOwnsRow, standIns := [], harness := (true, "10a9056a319cc01b3a513f41072e9fe7bd911ba409478d0a4f6033d22f9afe18"), looks := false }, kinds := [], alts := [], laidByText := true, laidKinds := [.data], laidTests := true, laidLooks := .later }
def ShadowOwnsCardSaid : Prop := Claim7.holds Tryz.pinned (.plain (OpenSpec.ofChange shadowOwnsSpec)) shadowOwnsCard

/-- THE SECOND FORM's CARD OF 'tidehalllaw22.ShadowShort'. -/
def shadowShortUptoCard : Claim7 := { stood := { row := shadowShortUptoRow, standIns := [], harness := (true, "10a9056a319cc01b3a513f41072e9fe7bd911ba409478d0a4f6033d22f9afe18"), looks := false }, kinds := [], alts := [], laidByText := true, laidKinds := [.data], laidTests := true, laidLooks := .later }
def ShadowShortUptoCardSaid : Prop := Claim7.holds Tryz.pinned (.plain (OpenSpec.upto shadowShortSpec)) shadowShortUptoCard

/-- THE SECOND FORM's CARD OF 'tidehalllaw22.ShadowLeast'. -/
def shadowLeastUptoCard : Claim7 := { stood := { row := shadowLeastUptoRow, standIns := [], harness := (true, "10a9056a319cc01b3a513f41072e9fe7bd911ba409478d0a4f6033d22f9afe18"), looks := false }, kinds := [], alts := [], laidByText := true, laidKinds := [.data], laidTests := true, laidLooks := .later }
def ShadowLeastUptoCardSaid : Prop := Claim7.holds Tryz.pinned (.plain (OpenSpec.upto shadowLeastSpec)) shadowLeastUptoCard

/-- THE SECOND FORM's CARD OF 'tidehalllaw22.ShadowLess'. -/
def shadowLessUptoCard : Claim7 := { stood := { row := shadowLessUptoRow, standIns := [], harness := (true, "10a9056a319cc01b3a513f41072e9fe7bd911ba409478d0a4f6033d22f9afe18"), looks := false }, kinds := [], alts := [], laidByText := true, laidKinds := [.data], laidTests := true, laidLooks := .later }
def ShadowLessUptoCardSaid : Prop := Claim7.holds Tryz.pinned (.plain (OpenSpec.upto shadowLessSpec)) shadowLessUptoCard

/-- THE SECOND FORM's CARD OF 'tidehalllaw22.ShadowOwns'. -/
def shadowOwnsUptoCard : Claim7 := { stood := { row := shadowOwnsUptoRow, standIns := [], harness := (true, "10a9056a319cc01b3a513f41072e9fe7bd911ba409478d0a4f6033d22f9afe18"), looks := false }, kinds := [], alts := [], laidByText := true, laidKinds := [.data], laidTests := true, laidLooks := .later }
def ShadowOwnsUptoCardSaid : Prop := Claim7.holds Tryz.pinned (.plain (OpenSpec.upto shadowOwnsSpec)) shadowOwnsUptoCard
end Rows
end Go.Proofs.YtbnnfihjhamopaaGreatDoor
