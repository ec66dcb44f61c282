/- A text of this claim. -/
import Derived.Test.YtplmblgihfogjaaGreatDoorEv49
import Derived.Test.YtplmblgihfogjaaGreatDoorEv51
import Derived.Carry
import Derived.Test.YtplmblgihfogjaaGreatDoorCards
import Derived.Test.YtplmblgihfogjaaGreatDoorTie
import Derived.ShutString
import GoSem.ClaimGoes
import Derived.SevenTiedAt
set_option maxHeartbeats 40000000
set_option maxRecDepth 400000
set_option linter.all false
namespace Go.Proofs.YtplmblgihfogjaaGreatDoor.fillKeeps
open Go.ChangeShapes Go.WideShapes Go.ChangeAt Go.RowKit
open Go.ChangeMaps (open_string shut_string)
theorem own:ownKnob Tryz.prog.godebug=none:=by kernel_rfl
theorem walk{H:Type}{enc:TypeId × Value->H}{w:World}{v0 v1 v2:Value}{d0 d1 d2:DataW H}{p0 p1 p2:List MemPlace}(ht:Go.Ab.TabAt w 0 tabI)
  (k0:Value.okWide Tryz.prog w .any 0 32 v0) (k1:Value.okWide Tryz.prog w .any 0 3 v1) (k2:Value.okWide Tryz.prog w .any 0 39 v2)
  (h0:DataW.Trod enc Tryz.prog w 0 (fun _=>true) true 32 v0 d0 p0) (h1:DataW.Trod enc Tryz.prog w 0 (fun _=>true) true 3 v1 d1 p1) (h2:DataW.Trod enc Tryz.prog w 0 (fun _=>true) true 39 v2 d2 p2) :
  Calls Tryz.prog 3 #[v0,v1,v2] w fun e w'=>e=.returned (.bool true)/\Below w.heap.size w w':=by
 obtain⟨X0,s0,hX0,g0,r0⟩:=Go.Ab.Pd.state_rep k0 h0;obtain⟨x1,r1⟩:=int_rep k1 h1;obtain⟨x2,r2⟩:=wait_rep k2 h2;have hp:=Go.Ab.Pd.fillKeeps_law g0 x1 x2;exact Go.Ab.pur_calls_args (g:=0) (l:=tabI) hp (fun j cs h=>by
  unfold Go.Ab.Pd.GG at h
  split at h
  ·cases h; exact⟨rfl,rfl⟩
  ·cases h) w ht (fun b=>X0 b) (fun b h=>hX0 b h) (.cons (r0 _ fun _ h=>.inr h) (.cons (r1 _) (.cons (r2 _) .nil)))
theorem laidOut:laidOutB Tryz.prog=true:=by kernel_rfl
def zS:Value:=.agg #[.int .i64 0,.int .i64 0,.int .i64 0,.int .i64 0,.int .i64 0,.int .i64 0,.int .i64 0,.slice none 0 0,.int .i64 0,.int .i64 0,.slice none 0 0,.slice none 0 0,.slice none 0 0,.slice none 0 0,.slice none 0 0,.slice none 0 0]
def zW:Value:=.agg #[.int .i64 0,.int .i64 0,.int .i64 0,.int .i64 0,.int .i64 0,.int .i64 0,.int .i64 0,.int .i64 0,.bool false,.bool false,.bool false]
theorem lifted(os:Os)(started:os.Started)(H:Type)(enc:TypeId × Value->H) :
  ReturnsInHanded {} Tryz.checked os 3 .any (fun w args=>(Rows.fillKeepsSpec.pre enc Tryz.prog Tryz.f3 [] false w args/\laidMetH Tryz.prog laidT w)/\sizedMet enc Tryz.prog Tryz.f3 (OpenSpec.ofChange Rows.fillKeepsSpec) false w args)
   (Rows.fillKeepsSpec.post enc Tryz.prog Tryz.f3 false true false false):=by
 refine returnsInHanded_of_change_and (C:=Tryz.checked) (X:=fun w _=>laidMetH Tryz.prog laidT w) (fun _ _ _ hh h=>h.of_heap hh) own started (by kernel_rfl) Tryz.func3
  (ChangeSpec.witness_shaped (enc:=enc) (C:=Tryz.checked) (os:=os) (X:=fun w _=>laidMetH Tryz.prog laidT w) false (World.doorLaid Tryz.prog 400 os) #[zS,.int .i64 0,zW] 8 rfl (World.shaped_of_RefB (by kernel_rfl) (by kernel_rfl)) (by kernel_rfl) (by kernel_rfl) (by kernel_rfl) (door_met os _)) ?_
 intro W base args ds gs before hval0 hW _ _ hL _
 have hval:∀(j:Nat) t v,Tryz.f3.params[j]?=some t->args[j]?=some v->Value.okWide Tryz.prog W .any base t v:=hval0;have hW':=hW;obtain⟨p,q,hA0,hV,rfl,hfz,hnd⟩:=hW;have hA:DataW.TrodAll enc Tryz.prog W 0 (fun _=>true) true Tryz.f3.params.toList args.toList ds p:=hA0;rw[Tryz.params3]at hA hval;obtain⟨v0,vs0,d0,ds0,p0,pp0,hargs,rfl,rfl,h0,q0⟩:=trodAll_cons hA;obtain⟨v1,vs1,d1,ds1,p1,pp1,rfl,rfl,rfl,h1,q1⟩:=trodAll_cons q0;obtain⟨v2,vs2,d2,ds2,p2,pp2,rfl,rfl,rfl,h2,q2⟩:=trodAll_cons q1;obtain⟨rfl,rfl,rfl⟩:=trodAll_nil q2;obtain rfl:args=#[v0,v1,v2]:=by cases args; simp_all
 obtain⟨rfl,rfl⟩:=trodVars_none hV;clear hA0 hval0;simp only[List.append_nil]at hW';refine(walk (w:=W) (of_laid hL) (hval 0 32 v0 rfl rfl) (hval 1 3 v1 rfl rfl) (hval 2 39 v2 rfl rfl) h0 h1 h2).mono fun e W' ⟨he,hg⟩=>?_
 subst he;have hlt:∀ x∈p0++(p1++p2),x.block < W.heap.size:=fun x hx=>by simpa using hW'.lt x hx
 have stays:∀(sp:Nat->Bool),(∀ x∈p0++(p1++p2),sp x.block=true)->DataW.TrodAll enc Tryz.prog W' 0 sp true [32,3,39] [v0,v1,v2] [d0,d1,d2] (p0++(p1++(p2++[]))):=fun sp hs=>by
  have st:∀ {t:TypeId} {v:Value} {d:DataW H} {ps:List MemPlace},Tryz.prog.readableRec t=true->t < Tryz.prog.types.size->DataW.Trod enc Tryz.prog W 0 (fun _=>true) true t v d ps->(∀ x∈ps,x∈p0++(p1++p2))->DataW.Trod enc Tryz.prog W' 0 sp true t v d ps:=fun hr hrow h hm =>
   WideElems.Trod_stays laidOut hr hrow h (fun x hx=>hg.same (hlt x (hm x hx))) (fun x hx=>hs x (hm x hx))
  exact trodAll_cons_mk (st (by kernel_rfl) (of_decide_eq_true (by kernel_rfl)) h0 (fun x hx=>by simp[hx])) (trodAll_cons_mk (st (by kernel_rfl) (of_decide_eq_true (by kernel_rfl)) h1 (fun x hx=>by simp[hx])) (trodAll_cons_mk (st (by kernel_rfl) (of_decide_eq_true (by kernel_rfl)) h2 (fun x hx=>by simp[hx])) trodAll_mk0))
 exact⟨_,rfl,Go.Ab.post_of_below (pa:=p0++(p1++(p2++[]))) (pv:=[]) hW' (fun _ _ _=>(trodAll_cons_mk (shut_bool Tryz.underlying4 _) trodAll_mk0)) (fun sp hs=>stays sp hs) (fun _ _=>rfl) (by simp)
  hg (ok_one (by kernel_rfl) rfl (okWide_bool_mk Tryz.underlying4 _))⟩
theorem facts:joinedFacts Tryz.prog 3 Tryz.f3 Rows.fillKeepsSpec Rows.fillKeepsRow=true:=by
 unfold joinedFacts
 repeat' with_reducible refine Bool.and_eq_true_iff.2 ⟨?_,?_⟩
 all_goals as_aux_lemma=>kernel_rfl
theorem over:Rows.FillKeepsSaid :=
 OpenClaim.holds_of_wide 3 Tryz.f3 rfl rfl rfl rfl rfl rfl rfl ⟨rfl,rfl,rfl,rfl,rfl⟩ rfl rfl rfl rfl rfl (by kernel_rfl) Tryz.func3 facts
  (of_decide_eq_true (by kernel_rfl)) (by unfold Func.isWrapper; first | (rw[if_pos (by decide +kernel)]; kernel_rfl) | (rw[if_neg (by decide +kernel)]; exact⟨rfl,rfl⟩))
  (fun os started H enc _=>lifted os started H enc)
end Go.Proofs.YtplmblgihfogjaaGreatDoor.fillKeeps
