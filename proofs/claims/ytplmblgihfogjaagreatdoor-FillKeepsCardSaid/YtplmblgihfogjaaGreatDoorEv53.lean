/-
  PROVED HERE: 'Rows.FillKeepsCardSaid' (the walk, and the row, stand in the text before).
-/
import Derived.Test.YtplmblgihfogjaaGreatDoorEv52
import Derived.SevenTiedAt
import GoSem.ClaimGoes
set_option maxHeartbeats 40000000
set_option maxRecDepth 400000
set_option linter.all false
namespace Go.Ab
theorem goesBy_false{P:Program}(h:P.funcs.any Func.goes=false){c:OpenClaim}(hs:c.start=.entering):c.goesBy P=false:=by
 have hg:∀ g:FuncId,(P.funcs[g]?).any Func.goes=false:=fun g=>by
  cases hf:P.funcs[g]? with
  | none=>rfl
  | some fn =>
   show fn.goes=false;cases hq:fn.goes with
   | false=>rfl
   | true =>
    have:P.funcs.any Func.goes=true:=Array.any_eq_true'.2 ⟨fn,Array.mem_of_getElem? hf,hq⟩;rw[h]at this; cases this
 have hgo:∀ f,P.goes f=false:=fun f=>by
  unfold Program.goes;rw[h,Bool.and_false,Bool.or_false];cases hc:(P.closure f).any fun g=>(P.funcs[g]?).any Func.goes with
  | false=>rfl
  | true =>
   first
    | (obtain⟨g,_,h2⟩:=List.any_eq_true.1 hc; rw[hg g]at h2; cases h2)
    | (obtain⟨g,_,h2⟩:=Array.any_eq_true'.1 hc; rw[hg g]at h2; cases h2)
 unfold OpenClaim.goesBy Program.goesAt Program.goesFrom;rw[hs];cases P.funcNamed c.func with
 | none=>rfl
 | some f=>simp[hgo f]
end Go.Ab
namespace Go.Proofs.YtplmblgihfogjaaGreatDoor.fillKeeps
open Go.ChangeShapes Go.WideShapes Go.ChangeAt Go.RowKit
theorem wfT:(Rows.fillKeepsRow:OpenClaim).wfByText (OpenSpec.ofChange Rows.fillKeepsSpec)=true:=by kernel_rfl
theorem mainT:Tryz.prog.mainIs=some (((true,"382242076627a8bbba35bbe89e6dd74c0b52dff6ce2416f3b6a7ef05c9c86c82"):Bool × String).1,((true,"382242076627a8bbba35bbe89e6dd74c0b52dff6ce2416f3b6a7ef05c9c86c82"):Bool × String).2.toList):=by kernel_rfl
theorem looksT:false=Tryz.prog.looks []:=by kernel_rfl
theorem noGo:Tryz.prog.funcs.any Func.goes=false:=by kernel_rfl
theorem goesT:false=(Rows.fillKeepsRow:OpenClaim).goesBy Tryz.prog:=(Go.Ab.goesBy_false noGo rfl).symm
theorem proved:Rows.FillKeepsCardSaid :=
 Claim7.holds_tied_plain_at .later [] [.data] true (true,"382242076627a8bbba35bbe89e6dd74c0b52dff6ce2416f3b6a7ef05c9c86c82") false
  over (fun _ h=>by cases h) wfT (fun _ h=>by cases h) fillKeeps_row_tie rfl ⟨rfl,rfl⟩ mainT rfl
  (fun f fn hf hfn=>by
   obtain rfl:f=3:=Option.some.inj ((show Tryz.prog.funcNamed "tidehall/tidehalllaw23.FillKeeps"=some 3 by kernel_rfl).symm.trans hf) |>.symm
   obtain rfl:fn=Tryz.f3:=(Option.some.inj (Tryz.func3.symm.trans hfn)).symm;exact⟨looksT,fun j t ht=>by
    rw[Tryz.params3]at ht;have all:∀ k:TypeId,k∈[32,3,39]->Tryz.prog.wantsStandIn k=false:=by
     intro k hk
     simp only[List.mem_cons,List.not_mem_nil,or_false]at hk
     rcases hk with rfl | rfl | rfl <;> kernel_rfl
    exact all t (List.mem_of_getElem? (by simpa using ht))⟩)
  goesT
end Go.Proofs.YtplmblgihfogjaaGreatDoor.fillKeeps
