/-
  No cell of these rows narrows 'for every input' (looked for: loops, veiled, ifaces, maps, wideKeys, modest, calm, conditions, laid).
  DERIVED. THE GIVEN ROWS OF THIS SEAT. 3 by the template 'for every input the law returns true; each argument reads behind the call as it read before'; 0 by the template 'total and deterministic' (their statements: YtminjfnjobgbnaaGreatTotals.lean).
  GIVEN WITH THE SEED: the statements are not yours to turn. If you find one false, say at which input.
  Laid BY PROGRAM, IN A SANDBOX (cutbox-rows.mjs): the forced cells as the released guide's own fill.sh prints them over the translation 893bb1794d89bcab… (all of the seat's roots in one cut). By AI agents, Wed Nov 11 2026. No macro, syntax, notation, axiom, sorry.
-/
import Derived.Test.YtminjfnjobgbnaaGreatChecked
import GoSem.Claim
import GoSem.ClaimJoined
import GoSem.ClaimMapViews
import Derived.JoinedTies
import Derived.KernelRfl
namespace Go.Proofs.YtminjfnjobgbnaaGreat
/- THE CELL 'sum', in the pinned program and in every row, IS THE sha256 OF THE DUMP (.gsa) THAT YtminjfnjobgbnaaGreatProg.lean LOADS. Nothing in Lean hashes anything: it is a label: what it is worth is what the hold of that sum in a sandbox is worth. -/
noncomputable def Tryz.pinned : Pinned := { name := "ytminjfnjobgbnaagreat", sum := "893bb1794d89bcabde3d46ecf7a07f09bc57fa753e8ea1a014ba59f43ce41f99", checked := Tryz.checked }
namespace Rows
def none {H : Type} : Left H := { results := [], args := [] }

/-- 'tidehalllaw21.HoldApart': WHATEVER THE INPUT: true; the input reads as it did. -/
def holdApartSpec : ChangeSpec := { name := "holdApart", fn := fun _ => fun
  | [d] => { results := [.lit (.bool true)], args := [d] }
  | _ => none }
def holdApartRow : OpenClaim := { program := "ytminjfnjobgbnaagreat", sum := "893bb1794d89bcabde3d46ecf7a07f09bc57fa753e8ea1a014ba59f43ce41f99", func := "tidehall/tidehalllaw21.HoldApart", spec := "holdApart", unfollowed := true, recurses := true, plainKeys := false, apart := false }
def HoldApartSaid : Prop := holdApartRow.holds Tryz.pinned (OpenSpec.ofChange holdApartSpec)

/-- ITS FALSE NEIGHBOUR: 'it returns false'. Refute it at one input. -/
def holdApartWrong : ChangeSpec := { name := "holdApart", fn := fun _ => fun
  | [d] => { results := [.lit (.bool false)], args := [d] }
  | _ => none }
def HoldApartWrongFalsely : Prop := holdApartRow.holds Tryz.pinned (OpenSpec.ofChange holdApartWrong)

/-- 'tidehalllaw21.HoldLess': WHATEVER THE INPUT: true; the input reads as it did. -/
def holdLessSpec : ChangeSpec := { name := "holdLess", fn := fun _ => fun
  | [d1, d2] => { results := [.lit (.bool true)], args := [d1, d2] }
  | _ => none }
def holdLessRow : OpenClaim := { program := "ytminjfnjobgbnaagreat", sum := "893bb1794d89bcabde3d46ecf7a07f09bc57fa753e8ea1a014ba59f43ce41f99", func := "tidehall/tidehalllaw21.HoldLess", spec := "holdLess", unfollowed := true, recurses := true, plainKeys := false, apart := false }
def HoldLessSaid : Prop := holdLessRow.holds Tryz.pinned (OpenSpec.ofChange holdLessSpec)

/-- ITS FALSE NEIGHBOUR: 'it returns false'. Refute it at one input. -/
def holdLessWrong : ChangeSpec := { name := "holdLess", fn := fun _ => fun
  | [d1, d2] => { results := [.lit (.bool false)], args := [d1, d2] }
  | _ => none }
def HoldLessWrongFalsely : Prop := holdLessRow.holds Tryz.pinned (OpenSpec.ofChange holdLessWrong)

/-- 'tidehalllaw21.HoldKeeps': WHATEVER THE INPUT: true; the input reads as it did. -/
def holdKeepsSpec : ChangeSpec := { name := "holdKeeps", fn := fun _ => fun
  | [d1, d2, d3] => { results := [.lit (.bool true)], args := [d1, d2, d3] }
  | _ => none }
def holdKeepsRow : OpenClaim := { program := "ytminjfnjobgbnaagreat", sum := "893bb1794d89bcabde3d46ecf7a07f09bc57fa753e8ea1a014ba59f43ce41f99", func := "tidehall/tidehalllaw21.HoldKeeps", spec := "holdKeeps", unfollowed := true, recurses := true, plainKeys := false, apart := false }
def HoldKeepsSaid : Prop := holdKeepsRow.holds Tryz.pinned (OpenSpec.ofChange holdKeepsSpec)

/-- ITS FALSE NEIGHBOUR: 'it returns false'. Refute it at one input. -/
def holdKeepsWrong : ChangeSpec := { name := "holdKeeps", fn := fun _ => fun
  | [d1, d2, d3] => { results := [.lit (.bool false)], args := [d1, d2, d3] }
  | _ => none }
def HoldKeepsWrongFalsely : Prop := holdKeepsRow.holds Tryz.pinned (OpenSpec.ofChange holdKeepsWrong)

/- THE SECOND FORM. 'bulk': how many values and letters a reading holds, each counted each time it is reached (what is shared counts as often as it is met; a slice's spare places count too). A statement '..UptoSaid' is the law's where the arguments, and the package variables that the reading takes, are together of bulk at most 1048576: NARROWER than '..Said'. Prove '..Said' where nothing that the law and all that it calls make is longer than what came in: it says more and counts as full. Else prove '..UptoSaid'. A law counts once. -/
mutual
def uptoBulk {H : Type} : DataW H → Nat
  | .lit (.string bytes) => bytes.length + 1
  | .lit _ => 1
  | .nil => 1
  | .ptr d => uptoBulk d + 1
  | .slice elems spare => uptoBulkAll elems + uptoBulkAll spare + 1
  | .agg parts => uptoBulkAll parts + 1
  | .iface _ d => uptoBulk d + 1
  | .map entries => uptoBulkEntries entries + 1
  | .held _ => 1
def uptoBulkAll {H : Type} : List (DataW H) → Nat
  | [] => 0
  | d :: r => uptoBulk d + uptoBulkAll r
def uptoBulkEntries {H : Type} : List (Lit × DataW H) → Nat
  | [] => 0
  | x :: r => uptoBulkEntry x + uptoBulkEntries r
def uptoBulkEntry {H : Type} : Lit × DataW H → Nat
  | (.string bytes, d) => bytes.length + uptoBulk d + 1
  | (_, d) => uptoBulk d + 1
 end
def uptoSmall : (H : Type) → List (DataW H) → Bool := fun _ ds => decide (uptoBulkAll ds ≤ 1048576)
def OpenSpec.upto (s : _root_.Go.ChangeSpec) : _root_.Go.OpenSpec := { _root_.Go.OpenSpec.ofChange s with cond := some uptoSmall }

/-- 'tidehalllaw21.HoldApart', WHERE WHAT IT READS IS OF BULK AT MOST 1048576: true; the input reads as it did. -/
def holdApartUptoRow : OpenClaim := { program := "ytminjfnjobgbnaagreat", sum := "893bb1794d89bcabde3d46ecf7a07f09bc57fa753e8ea1a014ba59f43ce41f99", func := "tidehall/tidehalllaw21.HoldApart", spec := "holdApart", unfollowed := true, recurses := true, plainKeys := false, apart := false, narrowed := true }
def HoldApartUptoSaid : Prop := holdApartUptoRow.holds Tryz.pinned (OpenSpec.upto holdApartSpec)

/-- 'tidehalllaw21.HoldLess', WHERE WHAT IT READS IS OF BULK AT MOST 1048576: true; the input reads as it did. -/
def holdLessUptoRow : OpenClaim := { program := "ytminjfnjobgbnaagreat", sum := "893bb1794d89bcabde3d46ecf7a07f09bc57fa753e8ea1a014ba59f43ce41f99", func := "tidehall/tidehalllaw21.HoldLess", spec := "holdLess", unfollowed := true, recurses := true, plainKeys := false, apart := false, narrowed := true }
def HoldLessUptoSaid : Prop := holdLessUptoRow.holds Tryz.pinned (OpenSpec.upto holdLessSpec)

/-- 'tidehalllaw21.HoldKeeps', WHERE WHAT IT READS IS OF BULK AT MOST 1048576: true; the input reads as it did. -/
def holdKeepsUptoRow : OpenClaim := { program := "ytminjfnjobgbnaagreat", sum := "893bb1794d89bcabde3d46ecf7a07f09bc57fa753e8ea1a014ba59f43ce41f99", func := "tidehall/tidehalllaw21.HoldKeeps", spec := "holdKeeps", unfollowed := true, recurses := true, plainKeys := false, apart := false, narrowed := true }
def HoldKeepsUptoSaid : Prop := holdKeepsUptoRow.holds Tryz.pinned (OpenSpec.upto holdKeepsSpec)

end Rows
end Go.Proofs.YtminjfnjobgbnaaGreat
