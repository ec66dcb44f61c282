/-
  PROVED HERE: 'Rows.DeskNamesCardSaid' (the walk, and the row, stand in the text before).
-/
import Derived.Test.YtchodnhlkdlgmaaGreatDoorEvSnFDeskNames
import Derived.Test.YtchodnhlkdlgmaaGreatDoorCards
import Derived.Test.YtchodnhlkdlgmaaGreatDoorTie
import Derived.SevenTiedAt
import GoSem.ClaimGoes
namespace Go.Ab
theorem goesBy_false {P : Program} (h : P.funcs.any Func.goes = false) {c : OpenClaim} (hs : c.start = .entering) : c.goesBy P = false := by
  have hg : ∀ g : FuncId, (P.funcs[g]?).any Func.goes = false := fun g => by
    cases hf : P.funcs[g]? with
    | none => rfl
    | some fn =>
      show fn.goes = false
      cases hq : fn.goes with
      | false => rfl
      | true =>
        have : P.funcs.any Func.goes = true := Array.any_eq_true'.2 ⟨fn, Array.mem_of_getElem? hf, hq⟩
        rw [h] at this; cases this
  have hgo : ∀ f, P.goes f = false := fun f => by
    unfold Program.goes
    rw [h, Bool.and_false, Bool.or_false]
    cases hc : (P.closure f).any fun g => (P.funcs[g]?).any Func.goes with
    | false => rfl
    | true =>
      first
        | (obtain ⟨g, _, h2⟩ := List.any_eq_true.1 hc; rw [hg g] at h2; cases h2)
        | (obtain ⟨g, _, h2⟩ := Array.any_eq_true'.1 hc; rw [hg g] at h2; cases h2)
  unfold OpenClaim.goesBy Program.goesAt Program.goesFrom
  rw [hs]
  cases P.funcNamed c.func with
  | none => rfl
  | some f => simp [hgo f]
end Go.Ab
namespace Go.Proofs.YtchodnhlkdlgmaaGreatDoor.deskNames
open Go.ChangeShapes Go.WideShapes Go.ChangeAt Go.RowKit
set_option linter.unusedVariables false
set_option maxHeartbeats 40000000 in
theorem wfT : (Rows.deskNamesRow : OpenClaim).wfByText (OpenSpec.ofChange Rows.deskNamesSpec) = true := by kernel_rfl
set_option maxHeartbeats 40000000 in
theorem mainT : Tryz.prog.mainIs = some (((true, "56f38f1101991d56ccc2d3a64448afc5ab389a8641d473887a4a5949bb9839f4") : Bool × String).1, ((true, "56f38f1101991d56ccc2d3a64448afc5ab389a8641d473887a4a5949bb9839f4") : Bool × String).2.toList) := by kernel_rfl
set_option maxHeartbeats 40000000 in
theorem looksT : true = Tryz.prog.looks [] := by kernel_rfl
set_option maxHeartbeats 40000000 in
theorem noGo : Tryz.prog.funcs.any Func.goes = false := by kernel_rfl
theorem goesT : false = (Rows.deskNamesRow : OpenClaim).goesBy Tryz.prog := (Go.Ab.goesBy_false noGo rfl).symm
set_option maxHeartbeats 40000000 in
theorem proved : Rows.DeskNamesCardSaid :=
  Claim7.holds_tied_plain_at .later [] [.data] true (true, "56f38f1101991d56ccc2d3a64448afc5ab389a8641d473887a4a5949bb9839f4") true
    over (fun _ h => by cases h) wfT (fun _ h => by cases h) deskNames_row_tie rfl ⟨rfl, rfl⟩ mainT rfl
    (fun f fn hf hfn => by
      obtain rfl : f = 4 := Option.some.inj ((show Tryz.prog.funcNamed "tidehall/tidehalllaw31.DeskNames" = some 4 by kernel_rfl).symm.trans hf) |>.symm
      obtain rfl : fn = Tryz.f4 := (Option.some.inj (Tryz.func4.symm.trans hfn)).symm
      exact ⟨looksT, fun j t ht => by
        rw [Tryz.params4] at ht
        simp at ht⟩)
    goesT
end Go.Proofs.YtchodnhlkdlgmaaGreatDoor.deskNames
