/-
  No cell of these rows narrows 'for every input' (looked for: loops, veiled, ifaces, maps, wideKeys, modest, calm, conditions, laid).
  DERIVED. THE GIVEN ROWS OF THIS SEAT. 9 by the template 'for every input the law returns true; each argument reads behind the call as it read before'; 0 by the template 'total and deterministic' (their statements: YtfiglmdmnfdldaaGreatTotals.lean).
  GIVEN WITH THE SEED: the statements are not yours to turn. If you find one false, say at which input.
  Laid BY PROGRAM, IN A SANDBOX (cutbox-rows.mjs): the forced cells as the released guide's own fill.sh prints them over the translation 7745499555bb7727… (all of the seat's roots in one cut). By AI agents, Wed Nov 11 2026. No macro, syntax, notation, axiom, sorry.
-/
import Derived.Test.YtfiglmdmnfdldaaGreatChecked
import GoSem.Claim
import GoSem.ClaimJoined
import GoSem.ClaimMapViews
import Derived.JoinedTies
import Derived.KernelRfl
namespace Go.Proofs.YtfiglmdmnfdldaaGreat
/- THE CELL 'sum', in the pinned program and in every row, IS THE sha256 OF THE DUMP (.gsa) THAT YtfiglmdmnfdldaaGreatProg.lean LOADS. Nothing in Lean hashes anything: it is a label: what it is worth is what the hold of that sum in a sandbox is worth. -/
noncomputable def Tryz.pinned : Pinned := { name := "ytfiglmdmnfdldaagreat", sum := "7745499555bb7727cddb44699869933feb20efc3db3548d31a1d1a813567cafc", checked := Tryz.checked }
namespace Rows
def none {H : Type} : Left H := { results := [], args := [] }

/-- 'tidehalllaw12.SpotsTurns': WHATEVER THE INPUT: true; the input reads as it did. -/
def spotsTurnsSpec : ChangeSpec := { name := "spotsTurns", fn := fun _ => fun
  | [d1, d2, d3, d4] => { results := [.lit (.bool true)], args := [d1, d2, d3, d4] }
  | _ => none }
def spotsTurnsRow : OpenClaim := { program := "ytfiglmdmnfdldaagreat", sum := "7745499555bb7727cddb44699869933feb20efc3db3548d31a1d1a813567cafc", func := "tidehall/tidehalllaw12.SpotsTurns", spec := "spotsTurns", unfollowed := true, recurses := true, plainKeys := false, apart := false }
def SpotsTurnsSaid : Prop := spotsTurnsRow.holds Tryz.pinned (OpenSpec.ofChange spotsTurnsSpec)

/-- ITS FALSE NEIGHBOUR: 'it returns false'. Refute it at one input. -/
def spotsTurnsWrong : ChangeSpec := { name := "spotsTurns", fn := fun _ => fun
  | [d1, d2, d3, d4] => { results := [.lit (.bool false)], args := [d1, d2, d3, d4] }
  | _ => none }
def SpotsTurnsWrongFalsely : Prop := spotsTurnsRow.holds Tryz.pinned (OpenSpec.ofChange spotsTurnsWrong)

/-- 'tidehalllaw12.SpotsMany': WHATEVER THE INPUT: true; the input reads as it did. -/
def spotsManySpec : ChangeSpec := { name := "spotsMany", fn := fun _ => fun
  | [d1, d2] => { results := [.lit (.bool true)], args := [d1, d2] }
  | _ => none }
def spotsManyRow : OpenClaim := { program := "ytfiglmdmnfdldaagreat", sum := "7745499555bb7727cddb44699869933feb20efc3db3548d31a1d1a813567cafc", func := "tidehall/tidehalllaw12.SpotsMany", spec := "spotsMany", unfollowed := true, recurses := true, plainKeys := false, apart := false }
def SpotsManySaid : Prop := spotsManyRow.holds Tryz.pinned (OpenSpec.ofChange spotsManySpec)

/-- ITS FALSE NEIGHBOUR: 'it returns false'. Refute it at one input. -/
def spotsManyWrong : ChangeSpec := { name := "spotsMany", fn := fun _ => fun
  | [d1, d2] => { results := [.lit (.bool false)], args := [d1, d2] }
  | _ => none }
def SpotsManyWrongFalsely : Prop := spotsManyRow.holds Tryz.pinned (OpenSpec.ofChange spotsManyWrong)

/-- 'tidehalllaw12.SpotsTells': WHATEVER THE INPUT: true; the input reads as it did. -/
def spotsTellsSpec : ChangeSpec := { name := "spotsTells", fn := fun _ => fun
  | [d1, d2, d3, d4, d5] => { results := [.lit (.bool true)], args := [d1, d2, d3, d4, d5] }
  | _ => none }
def spotsTellsRow : OpenClaim := { program := "ytfiglmdmnfdldaagreat", sum := "7745499555bb7727cddb44699869933feb20efc3db3548d31a1d1a813567cafc", func := "tidehall/tidehalllaw12.SpotsTells", spec := "spotsTells", unfollowed := true, recurses := true, plainKeys := false, apart := false }
def SpotsTellsSaid : Prop := spotsTellsRow.holds Tryz.pinned (OpenSpec.ofChange spotsTellsSpec)

/-- ITS FALSE NEIGHBOUR: 'it returns false'. Refute it at one input. -/
def spotsTellsWrong : ChangeSpec := { name := "spotsTells", fn := fun _ => fun
  | [d1, d2, d3, d4, d5] => { results := [.lit (.bool false)], args := [d1, d2, d3, d4, d5] }
  | _ => none }
def SpotsTellsWrongFalsely : Prop := spotsTellsRow.holds Tryz.pinned (OpenSpec.ofChange spotsTellsWrong)

/-- 'tidehalllaw12.SpotsHas': WHATEVER THE INPUT: true; the input reads as it did. -/
def spotsHasSpec : ChangeSpec := { name := "spotsHas", fn := fun _ => fun
  | [d1, d2, d3, d4, d5] => { results := [.lit (.bool true)], args := [d1, d2, d3, d4, d5] }
  | _ => none }
def spotsHasRow : OpenClaim := { program := "ytfiglmdmnfdldaagreat", sum := "7745499555bb7727cddb44699869933feb20efc3db3548d31a1d1a813567cafc", func := "tidehall/tidehalllaw12.SpotsHas", spec := "spotsHas", unfollowed := true, recurses := true, plainKeys := false, apart := false }
def SpotsHasSaid : Prop := spotsHasRow.holds Tryz.pinned (OpenSpec.ofChange spotsHasSpec)

/-- ITS FALSE NEIGHBOUR: 'it returns false'. Refute it at one input. -/
def spotsHasWrong : ChangeSpec := { name := "spotsHas", fn := fun _ => fun
  | [d1, d2, d3, d4, d5] => { results := [.lit (.bool false)], args := [d1, d2, d3, d4, d5] }
  | _ => none }
def SpotsHasWrongFalsely : Prop := spotsHasRow.holds Tryz.pinned (OpenSpec.ofChange spotsHasWrong)

/-- 'tidehalllaw21.HoldTells': WHATEVER THE INPUT: true; the input reads as it did. -/
def holdTellsSpec : ChangeSpec := { name := "holdTells", fn := fun _ => fun
  | [d1, d2, d3] => { results := [.lit (.bool true)], args := [d1, d2, d3] }
  | _ => none }
def holdTellsRow : OpenClaim := { program := "ytfiglmdmnfdldaagreat", sum := "7745499555bb7727cddb44699869933feb20efc3db3548d31a1d1a813567cafc", func := "tidehall/tidehalllaw21.HoldTells", spec := "holdTells", unfollowed := true, recurses := true, plainKeys := false, apart := false }
def HoldTellsSaid : Prop := holdTellsRow.holds Tryz.pinned (OpenSpec.ofChange holdTellsSpec)

/-- ITS FALSE NEIGHBOUR: 'it returns false'. Refute it at one input. -/
def holdTellsWrong : ChangeSpec := { name := "holdTells", fn := fun _ => fun
  | [d1, d2, d3] => { results := [.lit (.bool false)], args := [d1, d2, d3] }
  | _ => none }
def HoldTellsWrongFalsely : Prop := holdTellsRow.holds Tryz.pinned (OpenSpec.ofChange holdTellsWrong)

/-- 'tidehalllaw21.HoldApart': WHATEVER THE INPUT: true; the input reads as it did. -/
def holdApartSpec : ChangeSpec := { name := "holdApart", fn := fun _ => fun
  | [d] => { results := [.lit (.bool true)], args := [d] }
  | _ => none }
def holdApartRow : OpenClaim := { program := "ytfiglmdmnfdldaagreat", sum := "7745499555bb7727cddb44699869933feb20efc3db3548d31a1d1a813567cafc", func := "tidehall/tidehalllaw21.HoldApart", spec := "holdApart", unfollowed := true, recurses := true, plainKeys := false, apart := false }
def HoldApartSaid : Prop := holdApartRow.holds Tryz.pinned (OpenSpec.ofChange holdApartSpec)

/-- ITS FALSE NEIGHBOUR: 'it returns false'. Refute it at one input. -/
def holdApartWrong : ChangeSpec := { name := "holdApart", fn := fun _ => fun
  | [d] => { results := [.lit (.bool false)], args := [d] }
  | _ => none }
def HoldApartWrongFalsely : Prop := holdApartRow.holds Tryz.pinned (OpenSpec.ofChange holdApartWrong)

/-- 'tidehalllaw21.HoldLess': WHATEVER THE INPUT: true; the input reads as it did. -/
def holdLessSpec : ChangeSpec := { name := "holdLess", fn := fun _ => fun
  | [d1, d2] => { results := [.lit (.bool true)], args := [d1, d2] }
  | _ => none }
def holdLessRow : OpenClaim := { program := "ytfiglmdmnfdldaagreat", sum := "7745499555bb7727cddb44699869933feb20efc3db3548d31a1d1a813567cafc", func := "tidehall/tidehalllaw21.HoldLess", spec := "holdLess", unfollowed := true, recurses := true, plainKeys := false, apart := false }
def HoldLessSaid : Prop := holdLessRow.holds Tryz.pinned (OpenSpec.ofChange holdLessSpec)

/-- ITS FALSE NEIGHBOUR: 'it returns false'. Refute it at one input. -/
def holdLessWrong : ChangeSpec := { name := "holdLess", fn := fun _ => fun
  | [d1, d2] => { results := [.lit (.bool false)], args := [d1, d2] }
  | _ => none }
def HoldLessWrongFalsely : Prop := holdLessRow.holds Tryz.pinned (OpenSpec.ofChange holdLessWrong)

/-- 'tidehalllaw21.HoldTurns': WHATEVER THE INPUT: true; the input reads as it did. -/
def holdTurnsSpec : ChangeSpec := { name := "holdTurns", fn := fun _ => fun
  | [d1, d2, d3, d4] => { results := [.lit (.bool true)], args := [d1, d2, d3, d4] }
  | _ => none }
def holdTurnsRow : OpenClaim := { program := "ytfiglmdmnfdldaagreat", sum := "7745499555bb7727cddb44699869933feb20efc3db3548d31a1d1a813567cafc", func := "tidehall/tidehalllaw21.HoldTurns", spec := "holdTurns", unfollowed := true, recurses := true, plainKeys := false, apart := false }
def HoldTurnsSaid : Prop := holdTurnsRow.holds Tryz.pinned (OpenSpec.ofChange holdTurnsSpec)

/-- ITS FALSE NEIGHBOUR: 'it returns false'. Refute it at one input. -/
def holdTurnsWrong : ChangeSpec := { name := "holdTurns", fn := fun _ => fun
  | [d1, d2, d3, d4] => { results := [.lit (.bool false)], args := [d1, d2, d3, d4] }
  | _ => none }
def HoldTurnsWrongFalsely : Prop := holdTurnsRow.holds Tryz.pinned (OpenSpec.ofChange holdTurnsWrong)

/-- 'tidehalllaw21.HoldKeeps': WHATEVER THE INPUT: true; the input reads as it did. -/
def holdKeepsSpec : ChangeSpec := { name := "holdKeeps", fn := fun _ => fun
  | [d1, d2, d3] => { results := [.lit (.bool true)], args := [d1, d2, d3] }
  | _ => none }
def holdKeepsRow : OpenClaim := { program := "ytfiglmdmnfdldaagreat", sum := "7745499555bb7727cddb44699869933feb20efc3db3548d31a1d1a813567cafc", func := "tidehall/tidehalllaw21.HoldKeeps", spec := "holdKeeps", unfollowed := true, recurses := true, plainKeys := false, apart := false }
def HoldKeepsSaid : Prop := holdKeepsRow.holds Tryz.pinned (OpenSpec.ofChange holdKeepsSpec)

/-- ITS FALSE NEIGHBOUR: 'it returns false'. Refute it at one input. -/
def holdKeepsWrong : ChangeSpec := { name := "holdKeeps", fn := fun _ => fun
  | [d1, d2, d3] => { results := [.lit (.bool false)], args := [d1, d2, d3] }
  | _ => none }
def HoldKeepsWrongFalsely : Prop := holdKeepsRow.holds Tryz.pinned (OpenSpec.ofChange holdKeepsWrong)

/- THE SECOND FORM. 'bulk': how many values and letters a reading holds, each counted each time it is reached (what is shared counts as often as it is met; a slice's spare places count too). A statement '..UptoSaid' is the law's where the arguments, and the package variables that the reading takes, are together of bulk at most 1048576: NARROWER than '..Said'. Prove '..Said' where nothing that the law and all that it calls make is longer than what came in: it says more and counts as full. Else prove '..UptoSaid'. A law counts once. -/
mutual
def uptoBulk {H : Type} : DataW H → Nat
  | .lit (.string bytes) => bytes.length + 1
  | .lit _ => 1
  | .nil => 1
  | .ptr d => uptoBulk d + 1
  | .slice elems spare => uptoBulkAll elems + uptoBulkAll spare + 1
  | .agg parts => uptoBulkAll parts + 1
  | .iface _ d => uptoBulk d + 1
  | .map entries => uptoBulkEntries entries + 1
  | .held _ => 1
def uptoBulkAll {H : Type} : List (DataW H) → Nat
  | [] => 0
  | d :: r => uptoBulk d + uptoBulkAll r
def uptoBulkEntries {H : Type} : List (Lit × DataW H) → Nat
  | [] => 0
  | x :: r => uptoBulkEntry x + uptoBulkEntries r
def uptoBulkEntry {H : Type} : Lit × DataW H → Nat
  | (.string bytes, d) => bytes.length + uptoBulk d + 1
  | (_, d) => uptoBulk d + 1
 end
def uptoSmall : (H : Type) → List (DataW H) → Bool := fun _ ds => decide (uptoBulkAll ds ≤ 1048576)
def OpenSpec.upto (s : _root_.Go.ChangeSpec) : _root_.Go.OpenSpec := { _root_.Go.OpenSpec.ofChange s with cond := some uptoSmall }

/-- 'tidehalllaw12.SpotsTurns', WHERE WHAT IT READS IS OF BULK AT MOST 1048576: true; the input reads as it did. -/
def spotsTurnsUptoRow : OpenClaim := { program := "ytfiglmdmnfdldaagreat", sum := "7745499555bb7727cddb44699869933feb20efc3db3548d31a1d1a813567cafc", func := "tidehall/tidehalllaw12.SpotsTurns", spec := "spotsTurns", unfollowed := true, recurses := true, plainKeys := false, apart := false, narrowed := true }
def SpotsTurnsUptoSaid : Prop := spotsTurnsUptoRow.holds Tryz.pinned (OpenSpec.upto spotsTurnsSpec)

/-- 'tidehalllaw12.SpotsMany', WHERE WHAT IT READS IS OF BULK AT MOST 1048576: true; the input reads as it did. -/
def spotsManyUptoRow : OpenClaim := { program := "ytfiglmdmnfdldaagreat", sum := "7745499555bb7727cddb44699869933feb20efc3db3548d31a1d1a813567cafc", func := "tidehall/tidehalllaw12.SpotsMany", spec := "spotsMany", unfollowed := true, recurses := true, plainKeys := false, apart := false, narrowed := true }
def SpotsManyUptoSaid : Prop := spotsManyUptoRow.holds Tryz.pinned (OpenSpec.upto spotsManySpec)

/-- 'tidehalllaw12.SpotsTells', WHERE WHAT IT READS IS OF BULK AT MOST 1048576: true; the input reads as it did. -/
def spotsTellsUptoRow : OpenClaim := { program := "ytfiglmdmnfdldaagreat", sum := "7745499555bb7727cddb44699869933feb20efc3db3548d31a1d1a813567cafc", func := "tidehall/tidehalllaw12.SpotsTells", spec := "spotsTells", unfollowed := true, recurses := true, plainKeys := false, apart := false, narrowed := true }
def SpotsTellsUptoSaid : Prop := spotsTellsUptoRow.holds Tryz.pinned (OpenSpec.upto spotsTellsSpec)

/-- 'tidehalllaw12.SpotsHas', WHERE WHAT IT READS IS OF BULK AT MOST 1048576: true; the input reads as it did. -/
def spotsHasUptoRow : OpenClaim := { program := "ytfiglmdmnfdldaagreat", sum := "7745499555bb7727cddb44699869933feb20efc3db3548d31a1d1a813567cafc", func := "tidehall/tidehalllaw12.SpotsHas", spec := "spotsHas", unfollowed := true, recurses := true, plainKeys := false, apart := false, narrowed := true }
def SpotsHasUptoSaid : Prop := spotsHasUptoRow.holds Tryz.pinned (OpenSpec.upto spotsHasSpec)

/-- 'tidehalllaw21.HoldTells', WHERE WHAT IT READS IS OF BULK AT MOST 1048576: true; the input reads as it did. -/
def holdTellsUptoRow : OpenClaim := { program := "ytfiglmdmnfdldaagreat", sum := "7745499555bb7727cddb44699869933feb20efc3db3548d31a1d1a813567cafc", func := "tidehall/tidehalllaw21.HoldTells", spec := "holdTells", unfollowed := true, recurses := true, plainKeys := false, apart := false, narrowed := true }
def HoldTellsUptoSaid : Prop := holdTellsUptoRow.holds Tryz.pinned (OpenSpec.upto holdTellsSpec)

/-- 'tidehalllaw21.HoldApart', WHERE WHAT IT READS IS OF BULK AT MOST 1048576: true; the input reads as it did. -/
def holdApartUptoRow : OpenClaim := { program := "ytfiglmdmnfdldaagreat", sum := "7745499555bb7727cddb44699869933feb20efc3db3548d31a1d1a813567cafc", func := "tidehall/tidehalllaw21.HoldApart", spec := "holdApart", unfollowed := true, recurses := true, plainKeys := false, apart := false, narrowed := true }
def HoldApartUptoSaid : Prop := holdApartUptoRow.holds Tryz.pinned (OpenSpec.upto holdApartSpec)

/-- 'tidehalllaw21.HoldLess', WHERE WHAT IT READS IS OF BULK AT MOST 1048576: true; the input reads as it did. -/
def holdLessUptoRow : OpenClaim := { program := "ytfiglmdmnfdldaagreat", sum := "7745499555bb7727cddb44699869933feb20efc3db3548d31a1d1a813567cafc", func := "tidehall/tidehalllaw21.HoldLess", spec := "holdLess", unfollowed := true, recurses := true, plainKeys := false, apart := false, narrowed := true }
def HoldLessUptoSaid : Prop := holdLessUptoRow.holds Tryz.pinned (OpenSpec.upto holdLessSpec)

/-- 'tidehalllaw21.HoldTurns', WHERE WHAT IT READS IS OF BULK AT MOST 1048576: true; the input reads as it did. -/
def holdTurnsUptoRow : OpenClaim := { program := "ytfiglmdmnfdldaagreat", sum := "7745499555bb7727cddb44699869933feb20efc3db3548d31a1d1a813567cafc", func := "tidehall/tidehalllaw21.HoldTurns", spec := "holdTurns", unfollowed := true, recurses := true, plainKeys := false, apart := false, narrowed := true }
def HoldTurnsUptoSaid : Prop := holdTurnsUptoRow.holds Tryz.pinned (OpenSpec.upto holdTurnsSpec)

/-- 'tidehalllaw21.HoldKeeps', WHERE WHAT IT READS IS OF BULK AT MOST 1048576: true; the input reads as it did. -/
def holdKeepsUptoRow : OpenClaim := { program := "ytfiglmdmnfdldaagreat", sum := "7745499555bb7727cddb44699869933feb20efc3db3548d31a1d1a813567cafc", func := "tidehall/tidehalllaw21.HoldKeeps", spec := "holdKeeps", unfollowed := true, recurses := true, plainKeys := false, apart := false, narrowed := true }
def HoldKeepsUptoSaid : Prop := holdKeepsUptoRow.holds Tryz.pinned (OpenSpec.upto holdKeepsSpec)

end Rows
end Go.Proofs.YtfiglmdmnfdldaaGreat
