/- A text of this claim. -/
import Derived.Test.YtplmblgihfogjaaGreatDoorEv38
import Derived.Test.YtplmblgihfogjaaGreatDoorEv48
import Derived.Test.YtplmblgihfogjaaGreatDoorRows
import Derived.WalkKit
import Derived.ProofKit
import Derived.LaidMore
import Derived.OpenShut
import Derived.Stop.Joined
set_option maxHeartbeats 40000000
set_option maxRecDepth 400000
set_option linter.all false
namespace Go.Proofs.YtplmblgihfogjaaGreatDoor
open Go.ChangeShapes Go.WideShapes Go.ChangeAt Go.RowKit
def tabI:List Int:=[0,1,56,2,57,49,28,3,61,58,42,50,38,29,17,4,62,47,59,36,45,43,51,22,53,39,33,30,24,18,12,5,63,55,48,27,60,41,37,16,46,35,44,21,52,32,23,11,54,26,40,15,34,20,31,10,25,14,19,9,13,8,7,6]
def laidT:List (String × DataW Unit):=[("math/bits.deBruijn64tab",Rows.laid_math_bits_deBruijn64tab)]
theorem gTab:Tryz.prog.globalNamed "math/bits.deBruijn64tab"=some 0:=by kernel_rfl
theorem tTab:(Tryz.prog.globals[0]?).map (·.type)=some 359:=by kernel_rfl
theorem laid_eq:(Rows.laid_math_bits_deBruijn64tab:DataW Unit)=.agg (tabI.map fun n=>.lit (.int .u8 n)):=by kernel_rfl
theorem door_met(os:Os)(args:Array Value):laidMetH Tryz.prog laidT ((World.doorLaid Tryz.prog 400 os).forCall (fun _ _=>0) ⟨#[],args,[]⟩).memory :=
 laidMetH_of_parts3 (fuel:=8) (laidMet_of_run' 8 (by kernel_rfl) (by kernel_rfl)) (by kernel_rfl) (by kernel_rfl)
theorem of_laid{W:World}(h:laidMetH Tryz.prog laidT W):Go.Ab.TabAt W 0 tabI:=by
 rw[MakeChecks.laidMetH_plain _ _ _ (by kernel_rfl)]at h;obtain⟨ps,⟨g0,t0,cs0,f0,p0,q0,hg0,ht0,hv0,hd0,_,_⟩,_,_⟩:=h;obtain rfl:=Option.some.inj (gTab.symm.trans hg0);obtain rfl:=Option.some.inj (tTab.symm.trans ht0);have c5:Tryz.prog.cellsOf 5=1:=by kernel_rfl
 obtain⟨xs,m1,rfl,hx1,hlen,hn,hel⟩:=DataW.trod_array Tryz.underlying359 hd0;simp only[Prod.mk.injEq]at hx1;have hxs:xs.map (·.1)=tabI.map fun n=>.lit (.int .u8 n):=by
  have:=hx1.1;rw[laid_eq]at this
  injection this with h1
  exact h1.symm
 have hlt:tabI.length=64:=by kernel_rfl
 have hcell:∀ i,i < tabI.length->W.cell? ⟨0,i,none⟩=some (.int .u8 (tabI.getD i 0)):=fun i hi=>by
  have h1:=hel i (by omega);have hi2:i < xs.length:=by omega
  rw[show xs[i]?=some xs[i] by simp[hi2]]at h1;rw[c5,Nat.mul_one]at h1;obtain⟨k,e1,e2,_⟩:=DataW.trod_int Tryz.underlying5 h1;have e3:(xs.map (·.1))[i]?=(tabI.map fun n=>(.lit (.int .u8 n):DataW Unit))[i]?:=by rw[hxs]
  rw[List.getElem?_map,List.getElem?_map,show xs[i]?=some xs[i] by simp[hi2],show tabI[i]?=some (tabI[i]) by simp[hi],e2]at e3;simp only[Option.map_some,Option.some.injEq,DataW.lit.injEq,Lit.int.injEq,true_and]at e3;have h3:tabI.getD i 0=k:=by simp[List.getD,hi,e3]
  rw[World.var?_cell hg0 hv0 i,h3];have e4:(cs0.toList.drop i).take 1=[.int .u8 k]:=e1;have e5:cs0.toList[i]?=some (.int .u8 k):=by
   have:=congrArg (fun l=>l[0]?) e4;simp only[List.getElem?_take,List.getElem?_drop]at this;simpa using this
  simpa using e5
 refine⟨?_,hcell⟩;have h0:=hcell 0 (by omega);unfold World.cell? at h0
 split at h0
 ·rename_i c t f hb; exact⟨c,t,f,hb⟩
 ·cases h0
theorem int_rep{H:Type}{enc:TypeId × Value->H}{W:World}{v:Value}{d:DataW H}{p:List MemPlace}(hv:Value.okWide Tryz.prog W .any 0 3 v)(h:DataW.Trod enc Tryz.prog W 0 (fun _=>true) true 3 v d p) :
  ∃ n:Int,∀ E,Go.Ab.RepV W E (Go.Ab.Pd.I n) v:=by
 obtain⟨n,rfl⟩:=okWide_int Tryz.underlying3 hv;exact⟨n,fun E=>.c rfl⟩
theorem wait_rep{H:Type}{enc:TypeId × Value->H}{W:World}{v:Value}{d:DataW H}{p:List MemPlace}(hv:Value.okWide Tryz.prog W .any 0 39 v)(h:DataW.Trod enc Tryz.prog W 0 (fun _=>true) true 39 v d p) :
  ∃ x:Go.Ab.Pd.Wt,∀ E,Go.Ab.RepV W E x.av v:=by
 simp only[Value.okWide,Tryz.underlying39]at hv;obtain⟨cs,rfl,_,_⟩:=hv;obtain⟨fuel,hf⟩:=h;obtain⟨i,m,a,b,c,d',e,f,s,t,u,e0⟩:=Go.Ab.Pd.waitR hf;have e':cs.toList=[.int .i64 i,.int .i64 m,.int .i64 a,.int .i64 b,.int .i64 c,.int .i64 d',.int .i64 e,.int .i64 f,.bool s,.bool t,.bool u]:=e0;refine⟨⟨i,m,⟨a,b,c,d',e,f,s,t,u⟩⟩,fun E=>?_⟩;have:=Go.Ab.rep_flat (w:=W) (E:=E) (cs:=cs) (by rw[e']; intro v hv; simp at hv; rcases hv with rfl | rfl | rfl | rfl | rfl | rfl | rfl | rfl | rfl | rfl | rfl <;> rfl);rw[e']at this;exact this
end Go.Proofs.YtplmblgihfogjaaGreatDoor
