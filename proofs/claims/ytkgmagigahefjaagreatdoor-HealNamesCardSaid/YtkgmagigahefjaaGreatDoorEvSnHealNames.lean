/-
  PROVED HERE: 'Rows.HealNamesCardSaid' (the walk, and the row, stand in the text before).
-/
import Derived.Test.YtkgmagigahefjaaGreatDoorEvSnFHealNames
import Derived.Test.YtkgmagigahefjaaGreatDoorCards
import Derived.Test.YtkgmagigahefjaaGreatDoorTie
import Derived.SevenTiedAt
import GoSem.ClaimGoes
namespace Go.Ab
theorem goesBy_false {P : Program} (h : P.funcs.any Func.goes = false) {c : OpenClaim} (hs : c.start = .entering) : c.goesBy P = false := by
  have hg : ∀ g : FuncId, (P.funcs[g]?).any Func.goes = false := fun g => by
    cases hf : P.funcs[g]? with
    | none => rfl
    | some fn =>
      show fn.goes = false
      cases hq : fn.goes with
      | false => rfl
      | true =>
        have : P.funcs.any Func.goes = true := Array.any_eq_true'.2 ⟨fn, Array.mem_of_getElem? hf, hq⟩
        rw [h] at this; cases this
  have hgo : ∀ f, P.goes f = false := fun f => by
    unfold Program.goes
    rw [h, Bool.and_false, Bool.or_false]
    cases hc : (P.closure f).any fun g => (P.funcs[g]?).any Func.goes with
    | false => rfl
    | true =>
      first
        | (obtain ⟨g, _, h2⟩ := List.any_eq_true.1 hc; rw [hg g] at h2; cases h2)
        | (obtain ⟨g, _, h2⟩ := Array.any_eq_true'.1 hc; rw [hg g] at h2; cases h2)
  unfold OpenClaim.goesBy Program.goesAt Program.goesFrom
  rw [hs]
  cases P.funcNamed c.func with
  | none => rfl
  | some f => simp [hgo f]
end Go.Ab
namespace Go.Proofs.YtkgmagigahefjaaGreatDoor.healNames
open Go.ChangeShapes Go.WideShapes Go.ChangeAt Go.RowKit
set_option linter.unusedVariables false
set_option maxHeartbeats 40000000 in
theorem wfT : (Rows.healNamesRow : OpenClaim).wfByText (OpenSpec.ofChange Rows.healNamesSpec) = true := by kernel_rfl
set_option maxHeartbeats 40000000 in
theorem mainT : Tryz.prog.mainIs = some (((true, "d2949d2f11cb1ee0794be2b8d763143aff704fc4a8912219e7e3a26dc248a23e") : Bool × String).1, ((true, "d2949d2f11cb1ee0794be2b8d763143aff704fc4a8912219e7e3a26dc248a23e") : Bool × String).2.toList) := by kernel_rfl
set_option maxHeartbeats 40000000 in
theorem looksT : true = Tryz.prog.looks [] := by kernel_rfl
set_option maxHeartbeats 40000000 in
theorem noGo : Tryz.prog.funcs.any Func.goes = false := by kernel_rfl
theorem goesT : false = (Rows.healNamesRow : OpenClaim).goesBy Tryz.prog := (Go.Ab.goesBy_false noGo rfl).symm
set_option maxHeartbeats 40000000 in
theorem proved : Rows.HealNamesCardSaid :=
  Claim7.holds_tied_plain_at .later [] [.data] true (true, "d2949d2f11cb1ee0794be2b8d763143aff704fc4a8912219e7e3a26dc248a23e") true
    over (fun _ h => by cases h) wfT (fun _ h => by cases h) healNames_row_tie rfl ⟨rfl, rfl⟩ mainT rfl
    (fun f fn hf hfn => by
      obtain rfl : f = 3 := Option.some.inj ((show Tryz.prog.funcNamed "tidehall/tidehalllaw30.HealNames" = some 3 by kernel_rfl).symm.trans hf) |>.symm
      obtain rfl : fn = Tryz.f3 := (Option.some.inj (Tryz.func3.symm.trans hfn)).symm
      exact ⟨looksT, fun j t ht => by
        rw [Tryz.params3] at ht
        simp at ht⟩)
    goesT
end Go.Proofs.YtkgmagigahefjaaGreatDoor.healNames
