/-
  No cell of these rows narrows 'for every input' (looked for: loops, veiled, ifaces, maps, wideKeys, modest, calm, conditions, laid).
  DERIVED. THE GIVEN ROWS OF THIS SEAT. 3 by the template 'for every input the law returns true; each argument reads behind the call as it read before'; 0 by the template 'total and deterministic' (their statements: YtnfnhccebebflaaGreatTotals.lean).
  GIVEN WITH THE SEED: the statements are not yours to turn. If you find one false, say at which input.
  Laid BY PROGRAM, IN A SANDBOX (cutbox-rows.mjs): the forced cells as the released guide's own fill.sh prints them over the translation 2dd6d44efbe39e03… (all of the seat's roots in one cut). By AI agents, Wed Nov 11 2026. No macro, syntax, notation, axiom, sorry.
-/
import Derived.Test.YtnfnhccebebflaaGreatChecked
import GoSem.Claim
import GoSem.ClaimJoined
import GoSem.ClaimMapViews
import Derived.JoinedTies
import Derived.KernelRfl
namespace Go.Proofs.YtnfnhccebebflaaGreat
/- THE CELL 'sum', in the pinned program and in every row, IS THE sha256 OF THE DUMP (.gsa) THAT YtnfnhccebebflaaGreatProg.lean LOADS. Nothing in Lean hashes anything: it is a label: what it is worth is what the hold of that sum in a sandbox is worth. -/
noncomputable def Tryz.pinned : Pinned := { name := "ytnfnhccebebflaagreat", sum := "2dd6d44efbe39e036f81c4580f56f11011f43517e063b85e50291c3378a1003b", checked := Tryz.checked }
namespace Rows
def none {H : Type} : Left H := { results := [], args := [] }

/-- 'tidehalllaw12.SpotsTells': WHATEVER THE INPUT: true; the input reads as it did. -/
def spotsTellsSpec : ChangeSpec := { name := "spotsTells", fn := fun _ => fun
  | [d1, d2, d3, d4, d5] => { results := [.lit (.bool true)], args := [d1, d2, d3, d4, d5] }
  | _ => none }
def spotsTellsRow : OpenClaim := { program := "ytnfnhccebebflaagreat", sum := "2dd6d44efbe39e036f81c4580f56f11011f43517e063b85e50291c3378a1003b", func := "tidehall/tidehalllaw12.SpotsTells", spec := "spotsTells", unfollowed := true, recurses := true, plainKeys := false, apart := false }
def SpotsTellsSaid : Prop := spotsTellsRow.holds Tryz.pinned (OpenSpec.ofChange spotsTellsSpec)

/-- ITS FALSE NEIGHBOUR: 'it returns false'. Refute it at one input. -/
def spotsTellsWrong : ChangeSpec := { name := "spotsTells", fn := fun _ => fun
  | [d1, d2, d3, d4, d5] => { results := [.lit (.bool false)], args := [d1, d2, d3, d4, d5] }
  | _ => none }
def SpotsTellsWrongFalsely : Prop := spotsTellsRow.holds Tryz.pinned (OpenSpec.ofChange spotsTellsWrong)

/-- 'tidehalllaw21.HoldTells': WHATEVER THE INPUT: true; the input reads as it did. -/
def holdTellsSpec : ChangeSpec := { name := "holdTells", fn := fun _ => fun
  | [d1, d2, d3] => { results := [.lit (.bool true)], args := [d1, d2, d3] }
  | _ => none }
def holdTellsRow : OpenClaim := { program := "ytnfnhccebebflaagreat", sum := "2dd6d44efbe39e036f81c4580f56f11011f43517e063b85e50291c3378a1003b", func := "tidehall/tidehalllaw21.HoldTells", spec := "holdTells", unfollowed := true, recurses := true, plainKeys := false, apart := false }
def HoldTellsSaid : Prop := holdTellsRow.holds Tryz.pinned (OpenSpec.ofChange holdTellsSpec)

/-- ITS FALSE NEIGHBOUR: 'it returns false'. Refute it at one input. -/
def holdTellsWrong : ChangeSpec := { name := "holdTells", fn := fun _ => fun
  | [d1, d2, d3] => { results := [.lit (.bool false)], args := [d1, d2, d3] }
  | _ => none }
def HoldTellsWrongFalsely : Prop := holdTellsRow.holds Tryz.pinned (OpenSpec.ofChange holdTellsWrong)

/-- 'tidehalllaw21.HoldTurns': WHATEVER THE INPUT: true; the input reads as it did. -/
def holdTurnsSpec : ChangeSpec := { name := "holdTurns", fn := fun _ => fun
  | [d1, d2, d3, d4] => { results := [.lit (.bool true)], args := [d1, d2, d3, d4] }
  | _ => none }
def holdTurnsRow : OpenClaim := { program := "ytnfnhccebebflaagreat", sum := "2dd6d44efbe39e036f81c4580f56f11011f43517e063b85e50291c3378a1003b", func := "tidehall/tidehalllaw21.HoldTurns", spec := "holdTurns", unfollowed := true, recurses := true, plainKeys := false, apart := false }
def HoldTurnsSaid : Prop := holdTurnsRow.holds Tryz.pinned (OpenSpec.ofChange holdTurnsSpec)

/-- ITS FALSE NEIGHBOUR: 'it returns false'. Refute it at one input. -/
def holdTurnsWrong : ChangeSpec := { name := "holdTurns", fn := fun _ => fun
  | [d1, d2, d3, d4] => { results := [.lit (.bool false)], args := [d1, d2, d3, d4] }
  | _ => none }
def HoldTurnsWrongFalsely : Prop := holdTurnsRow.holds Tryz.pinned (OpenSpec.ofChange holdTurnsWrong)

/- THE SECOND FORM. 'bulk': how many values and letters a reading holds, each counted each time it is reached (what is shared counts as often as it is met; a slice's spare places count too). A statement '..UptoSaid' is the law's where the arguments, and the package variables that the reading takes, are together of bulk at most 1048576: NARROWER than '..Said'. Prove '..Said' where nothing that the law and all that it calls make is longer than what came in: it says more and counts as full. Else prove '..UptoSaid'. A law counts once. -/
mutual
def uptoBulk {H : Type} : DataW H → Nat
  | .lit (.string bytes) => bytes.length + 1
  | .lit _ => 1
  | .nil => 1
  | .ptr d => uptoBulk d + 1
  | .slice elems spare => uptoBulkAll elems + uptoBulkAll spare + 1
  | .agg parts => uptoBulkAll parts + 1
  | .iface _ d => uptoBulk d + 1
  | .map entries => uptoBulkEntries entries + 1
  | .held _ => 1
def uptoBulkAll {H : Type} : List (DataW H) → Nat
  | [] => 0
  | d :: r => uptoBulk d + uptoBulkAll r
def uptoBulkEntries {H : Type} : List (Lit × DataW H) → Nat
  | [] => 0
  | x :: r => uptoBulkEntry x + uptoBulkEntries r
def uptoBulkEntry {H : Type} : Lit × DataW H → Nat
  | (.string bytes, d) => bytes.length + uptoBulk d + 1
  | (_, d) => uptoBulk d + 1
 end
def uptoSmall : (H : Type) → List (DataW H) → Bool := fun _ ds => decide (uptoBulkAll ds ≤ 1048576)
def OpenSpec.upto (s : _root_.Go.ChangeSpec) : _root_.Go.OpenSpec := { _root_.Go.OpenSpec.ofChange s with cond := some uptoSmall }

/-- 'tidehalllaw12.SpotsTells', WHERE WHAT IT READS IS OF BULK AT MOST 1048576: true; the input reads as it did. -/
def spotsTellsUptoRow : OpenClaim := { program := "ytnfnhccebebflaagreat", sum := "2dd6d44efbe39e036f81c4580f56f11011f43517e063b85e50291c3378a1003b", func := "tidehall/tidehalllaw12.SpotsTells", spec := "spotsTells", unfollowed := true, recurses := true, plainKeys := false, apart := false, narrowed := true }
def SpotsTellsUptoSaid : Prop := spotsTellsUptoRow.holds Tryz.pinned (OpenSpec.upto spotsTellsSpec)

/-- 'tidehalllaw21.HoldTells', WHERE WHAT IT READS IS OF BULK AT MOST 1048576: true; the input reads as it did. -/
def holdTellsUptoRow : OpenClaim := { program := "ytnfnhccebebflaagreat", sum := "2dd6d44efbe39e036f81c4580f56f11011f43517e063b85e50291c3378a1003b", func := "tidehall/tidehalllaw21.HoldTells", spec := "holdTells", unfollowed := true, recurses := true, plainKeys := false, apart := false, narrowed := true }
def HoldTellsUptoSaid : Prop := holdTellsUptoRow.holds Tryz.pinned (OpenSpec.upto holdTellsSpec)

/-- 'tidehalllaw21.HoldTurns', WHERE WHAT IT READS IS OF BULK AT MOST 1048576: true; the input reads as it did. -/
def holdTurnsUptoRow : OpenClaim := { program := "ytnfnhccebebflaagreat", sum := "2dd6d44efbe39e036f81c4580f56f11011f43517e063b85e50291c3378a1003b", func := "tidehall/tidehalllaw21.HoldTurns", spec := "holdTurns", unfollowed := true, recurses := true, plainKeys := false, apart := false, narrowed := true }
def HoldTurnsUptoSaid : Prop := holdTurnsUptoRow.holds Tryz.pinned (OpenSpec.upto holdTurnsSpec)

end Rows
end Go.Proofs.YtnfnhccebebflaaGreat
