/-
  No cell of these rows narrows 'for every input' (looked for: loops, veiled, ifaces, maps, wideKeys, modest, calm, conditions, laid).
  DERIVED. THE GIVEN ROWS OF THIS SEAT. 5 by the template 'for every input the law returns true; each argument reads behind the call as it read before'; 0 by the template 'total and deterministic' (their statements: YtkagodjlajednaaGreatTotals.lean).
  GIVEN WITH THE SEED: the statements are not yours to turn. If you find one false, say at which input.
  Laid BY PROGRAM, IN A SANDBOX (cutbox-rows.mjs): the forced cells as the released guide's own fill.sh prints them over the translation 2ef8e992d20c3909… (all of the seat's roots in one cut). By AI agents, Wed Nov 11 2026. No macro, syntax, notation, axiom, sorry.
-/
import Derived.Test.YtkagodjlajednaaGreatChecked
import GoSem.Claim
import GoSem.ClaimJoined
import GoSem.ClaimMapViews
import Derived.JoinedTies
import Derived.KernelRfl
namespace Go.Proofs.YtkagodjlajednaaGreat
/- THE CELL 'sum', in the pinned program and in every row, IS THE sha256 OF THE DUMP (.gsa) THAT YtkagodjlajednaaGreatProg.lean LOADS. Nothing in Lean hashes anything: it is a label: what it is worth is what the hold of that sum in a sandbox is worth. -/
noncomputable def Tryz.pinned : Pinned := { name := "ytkagodjlajednaagreat", sum := "2ef8e992d20c3909f95a2d90ff1e30e96001d7434232f6e9cc5da2ac0b38cdea", checked := Tryz.checked }
namespace Rows
def none {H : Type} : Left H := { results := [], args := [] }

/-- 'tidehalllaw12.SpotsNames': WHATEVER THE INPUT: true; the input reads as it did. -/
def spotsNamesSpec : ChangeSpec := { name := "spotsNames", fn := fun _ => fun
  | [] => { results := [.lit (.bool true)], args := [] }
  | _ => none }
def spotsNamesRow : OpenClaim := { program := "ytkagodjlajednaagreat", sum := "2ef8e992d20c3909f95a2d90ff1e30e96001d7434232f6e9cc5da2ac0b38cdea", func := "tidehall/tidehalllaw12.SpotsNames", spec := "spotsNames", unfollowed := true, recurses := true, plainKeys := false, apart := false }
def SpotsNamesSaid : Prop := spotsNamesRow.holds Tryz.pinned (OpenSpec.ofChange spotsNamesSpec)

/-- ITS FALSE NEIGHBOUR: 'it returns false'. Refute it at one input. -/
def spotsNamesWrong : ChangeSpec := { name := "spotsNames", fn := fun _ => fun
  | [] => { results := [.lit (.bool false)], args := [] }
  | _ => none }
def SpotsNamesWrongFalsely : Prop := spotsNamesRow.holds Tryz.pinned (OpenSpec.ofChange spotsNamesWrong)

/-- 'tidehalllaw12.SpotsTurns': WHATEVER THE INPUT: true; the input reads as it did. -/
def spotsTurnsSpec : ChangeSpec := { name := "spotsTurns", fn := fun _ => fun
  | [d1, d2, d3, d4] => { results := [.lit (.bool true)], args := [d1, d2, d3, d4] }
  | _ => none }
def spotsTurnsRow : OpenClaim := { program := "ytkagodjlajednaagreat", sum := "2ef8e992d20c3909f95a2d90ff1e30e96001d7434232f6e9cc5da2ac0b38cdea", func := "tidehall/tidehalllaw12.SpotsTurns", spec := "spotsTurns", unfollowed := true, recurses := true, plainKeys := false, apart := false }
def SpotsTurnsSaid : Prop := spotsTurnsRow.holds Tryz.pinned (OpenSpec.ofChange spotsTurnsSpec)

/-- ITS FALSE NEIGHBOUR: 'it returns false'. Refute it at one input. -/
def spotsTurnsWrong : ChangeSpec := { name := "spotsTurns", fn := fun _ => fun
  | [d1, d2, d3, d4] => { results := [.lit (.bool false)], args := [d1, d2, d3, d4] }
  | _ => none }
def SpotsTurnsWrongFalsely : Prop := spotsTurnsRow.holds Tryz.pinned (OpenSpec.ofChange spotsTurnsWrong)

/-- 'tidehalllaw12.SpotsMany': WHATEVER THE INPUT: true; the input reads as it did. -/
def spotsManySpec : ChangeSpec := { name := "spotsMany", fn := fun _ => fun
  | [d1, d2] => { results := [.lit (.bool true)], args := [d1, d2] }
  | _ => none }
def spotsManyRow : OpenClaim := { program := "ytkagodjlajednaagreat", sum := "2ef8e992d20c3909f95a2d90ff1e30e96001d7434232f6e9cc5da2ac0b38cdea", func := "tidehall/tidehalllaw12.SpotsMany", spec := "spotsMany", unfollowed := true, recurses := true, plainKeys := false, apart := false }
def SpotsManySaid : Prop := spotsManyRow.holds Tryz.pinned (OpenSpec.ofChange spotsManySpec)

/-- ITS FALSE NEIGHBOUR: 'it returns false'. Refute it at one input. -/
def spotsManyWrong : ChangeSpec := { name := "spotsMany", fn := fun _ => fun
  | [d1, d2] => { results := [.lit (.bool false)], args := [d1, d2] }
  | _ => none }
def SpotsManyWrongFalsely : Prop := spotsManyRow.holds Tryz.pinned (OpenSpec.ofChange spotsManyWrong)

/-- 'tidehalllaw12.SpotsTells': WHATEVER THE INPUT: true; the input reads as it did. -/
def spotsTellsSpec : ChangeSpec := { name := "spotsTells", fn := fun _ => fun
  | [d1, d2, d3, d4, d5] => { results := [.lit (.bool true)], args := [d1, d2, d3, d4, d5] }
  | _ => none }
def spotsTellsRow : OpenClaim := { program := "ytkagodjlajednaagreat", sum := "2ef8e992d20c3909f95a2d90ff1e30e96001d7434232f6e9cc5da2ac0b38cdea", func := "tidehall/tidehalllaw12.SpotsTells", spec := "spotsTells", unfollowed := true, recurses := true, plainKeys := false, apart := false }
def SpotsTellsSaid : Prop := spotsTellsRow.holds Tryz.pinned (OpenSpec.ofChange spotsTellsSpec)

/-- ITS FALSE NEIGHBOUR: 'it returns false'. Refute it at one input. -/
def spotsTellsWrong : ChangeSpec := { name := "spotsTells", fn := fun _ => fun
  | [d1, d2, d3, d4, d5] => { results := [.lit (.bool false)], args := [d1, d2, d3, d4, d5] }
  | _ => none }
def SpotsTellsWrongFalsely : Prop := spotsTellsRow.holds Tryz.pinned (OpenSpec.ofChange spotsTellsWrong)

/-- 'tidehalllaw12.SpotsHas': WHATEVER THE INPUT: true; the input reads as it did. -/
def spotsHasSpec : ChangeSpec := { name := "spotsHas", fn := fun _ => fun
  | [d1, d2, d3, d4, d5] => { results := [.lit (.bool true)], args := [d1, d2, d3, d4, d5] }
  | _ => none }
def spotsHasRow : OpenClaim := { program := "ytkagodjlajednaagreat", sum := "2ef8e992d20c3909f95a2d90ff1e30e96001d7434232f6e9cc5da2ac0b38cdea", func := "tidehall/tidehalllaw12.SpotsHas", spec := "spotsHas", unfollowed := true, recurses := true, plainKeys := false, apart := false }
def SpotsHasSaid : Prop := spotsHasRow.holds Tryz.pinned (OpenSpec.ofChange spotsHasSpec)

/-- ITS FALSE NEIGHBOUR: 'it returns false'. Refute it at one input. -/
def spotsHasWrong : ChangeSpec := { name := "spotsHas", fn := fun _ => fun
  | [d1, d2, d3, d4, d5] => { results := [.lit (.bool false)], args := [d1, d2, d3, d4, d5] }
  | _ => none }
def SpotsHasWrongFalsely : Prop := spotsHasRow.holds Tryz.pinned (OpenSpec.ofChange spotsHasWrong)

/- THE SECOND FORM. 'bulk': how many values and letters a reading holds, each counted each time it is reached (what is shared counts as often as it is met; a slice's spare places count too). A statement '..UptoSaid' is the law's where the arguments, and the package variables that the reading takes, are together of bulk at most 1048576: NARROWER than '..Said'. Prove '..Said' where nothing that the law and all that it calls make is longer than what came in: it says more and counts as full. Else prove '..UptoSaid'. A law counts once. -/
mutual
def uptoBulk {H : Type} : DataW H → Nat
  | .lit (.string bytes) => bytes.length + 1
  | .lit _ => 1
  | .nil => 1
  | .ptr d => uptoBulk d + 1
  | .slice elems spare => uptoBulkAll elems + uptoBulkAll spare + 1
  | .agg parts => uptoBulkAll parts + 1
  | .iface _ d => uptoBulk d + 1
  | .map entries => uptoBulkEntries entries + 1
  | .held _ => 1
def uptoBulkAll {H : Type} : List (DataW H) → Nat
  | [] => 0
  | d :: r => uptoBulk d + uptoBulkAll r
def uptoBulkEntries {H : Type} : List (Lit × DataW H) → Nat
  | [] => 0
  | x :: r => uptoBulkEntry x + uptoBulkEntries r
def uptoBulkEntry {H : Type} : Lit × DataW H → Nat
  | (.string bytes, d) => bytes.length + uptoBulk d + 1
  | (_, d) => uptoBulk d + 1
 end
def uptoSmall : (H : Type) → List (DataW H) → Bool := fun _ ds => decide (uptoBulkAll ds ≤ 1048576)
def OpenSpec.upto (s : _root_.Go.ChangeSpec) : _root_.Go.OpenSpec := { _root_.Go.OpenSpec.ofChange s with cond := some uptoSmall }

/-- 'tidehalllaw12.SpotsNames', WHERE WHAT IT READS IS OF BULK AT MOST 1048576: true; the input reads as it did. -/
def spotsNamesUptoRow : OpenClaim := { program := "ytkagodjlajednaagreat", sum := "2ef8e992d20c3909f95a2d90ff1e30e96001d7434232f6e9cc5da2ac0b38cdea", func := "tidehall/tidehalllaw12.SpotsNames", spec := "spotsNames", unfollowed := true, recurses := true, plainKeys := false, apart := false, narrowed := true }
def SpotsNamesUptoSaid : Prop := spotsNamesUptoRow.holds Tryz.pinned (OpenSpec.upto spotsNamesSpec)

/-- 'tidehalllaw12.SpotsTurns', WHERE WHAT IT READS IS OF BULK AT MOST 1048576: true; the input reads as it did. -/
def spotsTurnsUptoRow : OpenClaim := { program := "ytkagodjlajednaagreat", sum := "2ef8e992d20c3909f95a2d90ff1e30e96001d7434232f6e9cc5da2ac0b38cdea", func := "tidehall/tidehalllaw12.SpotsTurns", spec := "spotsTurns", unfollowed := true, recurses := true, plainKeys := false, apart := false, narrowed := true }
def SpotsTurnsUptoSaid : Prop := spotsTurnsUptoRow.holds Tryz.pinned (OpenSpec.upto spotsTurnsSpec)

/-- 'tidehalllaw12.SpotsMany', WHERE WHAT IT READS IS OF BULK AT MOST 1048576: true; the input reads as it did. -/
def spotsManyUptoRow : OpenClaim := { program := "ytkagodjlajednaagreat", sum := "2ef8e992d20c3909f95a2d90ff1e30e96001d7434232f6e9cc5da2ac0b38cdea", func := "tidehall/tidehalllaw12.SpotsMany", spec := "spotsMany", unfollowed := true, recurses := true, plainKeys := false, apart := false, narrowed := true }
def SpotsManyUptoSaid : Prop := spotsManyUptoRow.holds Tryz.pinned (OpenSpec.upto spotsManySpec)

/-- 'tidehalllaw12.SpotsTells', WHERE WHAT IT READS IS OF BULK AT MOST 1048576: true; the input reads as it did. -/
def spotsTellsUptoRow : OpenClaim := { program := "ytkagodjlajednaagreat", sum := "2ef8e992d20c3909f95a2d90ff1e30e96001d7434232f6e9cc5da2ac0b38cdea", func := "tidehall/tidehalllaw12.SpotsTells", spec := "spotsTells", unfollowed := true, recurses := true, plainKeys := false, apart := false, narrowed := true }
def SpotsTellsUptoSaid : Prop := spotsTellsUptoRow.holds Tryz.pinned (OpenSpec.upto spotsTellsSpec)

/-- 'tidehalllaw12.SpotsHas', WHERE WHAT IT READS IS OF BULK AT MOST 1048576: true; the input reads as it did. -/
def spotsHasUptoRow : OpenClaim := { program := "ytkagodjlajednaagreat", sum := "2ef8e992d20c3909f95a2d90ff1e30e96001d7434232f6e9cc5da2ac0b38cdea", func := "tidehall/tidehalllaw12.SpotsHas", spec := "spotsHas", unfollowed := true, recurses := true, plainKeys := false, apart := false, narrowed := true }
def SpotsHasUptoSaid : Prop := spotsHasUptoRow.holds Tryz.pinned (OpenSpec.upto spotsHasSpec)

end Rows
end Go.Proofs.YtkagodjlajednaaGreat
