/- One of the texts that this claim stands on. -/
import Derived.Test.YtdfgdheehdabmaaGreatDoorEv17
import Derived.Test.YtdfgdheehdabmaaGreatDoorEv38
import Derived.Test.YtdfgdheehdabmaaGreatDoorEv18
import Derived.Test.YtdfgdheehdabmaaGreatDoorEv16
import Derived.Test.YtdfgdheehdabmaaGreatDoorEv51
import Derived.Carry
import Derived.Test.YtdfgdheehdabmaaGreatDoorCards
import Derived.Test.YtdfgdheehdabmaaGreatDoorTie
import Derived.ShutString
import GoSem.ClaimGoes
import Derived.SevenTiedAt
set_option maxHeartbeats 40000000
set_option maxRecDepth 400000
set_option linter.all false
namespace Go.Ab.Pd
theorem set_sl{s:AV}(q:IsSet s):∃ xs:List Int,(∀ w∈xs,inU w)∧IsSl s (xs.map U):=by
 obtain⟨xs,hx,rfl | ⟨rfl,rfl⟩⟩:=q
 ·exact⟨xs,hx,.inl rfl⟩
 ·exact⟨[],hx,.inr ⟨rfl,rfl⟩⟩
end Go.Ab.Pd
namespace Go.Proofs.YtdfgdheehdabmaaGreatDoor.bestTells
open Go.ChangeShapes Go.WideShapes Go.ChangeAt Go.RowKit
open Go.ChangeMaps (open_string shut_string)
theorem own:ownKnob Tryz.prog.godebug=none:=by kernel_rfl
theorem walk{H:Type}{enc:TypeId × Value→H}{w:World}{v0 v1 v2 v3 v4 v5:Value}{d0 d1 d2 d3 d4 d5:DataW H}{p0 p1 p2 p3 p4 p5:List MemPlace}(ht:Go.Ab.TabAt w 0 tabI)
  (k0:Value.okWide Tryz.prog w .any 0 23 v0) (k1:Value.okWide Tryz.prog w .any 0 26 v1) (k2:Value.okWide Tryz.prog w .any 0 28 v2) (k3:Value.okWide Tryz.prog w .any 0 28 v3) (k4:Value.okWide Tryz.prog w .any 0 32 v4) (k5:Value.okWide Tryz.prog w .any 0 32 v5)
  (h0:DataW.Trod enc Tryz.prog w 0 (fun _=>true) true 23 v0 d0 p0) (h1:DataW.Trod enc Tryz.prog w 0 (fun _=>true) true 26 v1 d1 p1) (h2:DataW.Trod enc Tryz.prog w 0 (fun _=>true) true 28 v2 d2 p2) (h3:DataW.Trod enc Tryz.prog w 0 (fun _=>true) true 28 v3 d3 p3) (h4:DataW.Trod enc Tryz.prog w 0 (fun _=>true) true 32 v4 d4 p4) (h5:DataW.Trod enc Tryz.prog w 0 (fun _=>true) true 32 v5 d5 p5) :
  Calls Tryz.prog 3 #[v0,v1,v2,v3,v4,v5] w fun e w'=>e=.returned (.bool true)∧Below w.heap.size w w':=by
 obtain⟨X,s,hX,qs,hs⟩:=Go.Ab.Pd.set_rep k2 h2;obtain⟨Y,s',hY,qs',hs'⟩:=Go.Ab.Pd.set_rep k3 h3;obtain⟨a,b,c,r0⟩:=Go.Ab.Pd.dims_rep (E:=Go.Ab.EnA 0 fun b=>X b∨Y b) k0 h0;obtain⟨x,r1⟩:=Go.Ab.Pd.wants_rep (E:=Go.Ab.EnA 0 fun b=>X b∨Y b) k1 h1;obtain⟨y,r4⟩:=Go.Ab.Pd.plc_rep (E:=Go.Ab.EnA 0 fun b=>X b∨Y b) k4 h4;obtain⟨z,r5⟩:=Go.Ab.Pd.plc_rep (E:=Go.Ab.EnA 0 fun b=>X b∨Y b) k5 h5;obtain⟨xs,hx,i1⟩:=Go.Ab.Pd.set_sl qs;obtain⟨ys,hy,i2⟩:=Go.Ab.Pd.set_sl qs';have hp:=Go.Ab.Pd.bestTells_law i1 i2 hx hy a b c x y z;exact Go.Ab.pur_calls_args (g:=0) (l:=tabI) hp (fun j cs h=>by
  unfold Go.Ab.Pd.GG at h
  split at h
  ·cases h; exact⟨rfl,rfl⟩
  ·cases h) w ht (fun b=>X b∨Y b) (fun b h=>h.elim (hX b) (hY b)) (.cons r0 (.cons r1 (.cons (hs _ fun _ h=>.inr (.inl h)) (.cons (hs' _ fun _ h=>.inr (.inr h)) (.cons r4 (.cons r5 .nil))))))
theorem laidOut:laidOutB Tryz.prog=true:=by kernel_rfl
def zB:Value:=.agg #[.int .i64 0,.int .i64 0,.int .i64 0]
def zP:Value:=.agg #[.int .i64 0,.int .i64 0,.int .i64 0,.int .i64 0,.int .i64 0,.int .i64 0,.bool false,.bool false,.bool false]
def zW:Value:=.agg #[.int .i64 0,.int .i64 0,.int .i64 0,.bool false,.bool false,.bool false,.bool false]
theorem lifted(os:Os)(started:os.Started)(H:Type)(enc:TypeId × Value→H) :
  ReturnsInHanded {} Tryz.checked os 3 .any (fun w args=>(Rows.bestTellsSpec.pre enc Tryz.prog Tryz.f3 [] false w args∧laidMetH Tryz.prog laidT w)∧sizedMet enc Tryz.prog Tryz.f3 (OpenSpec.ofChange Rows.bestTellsSpec) false w args)
   (Rows.bestTellsSpec.post enc Tryz.prog Tryz.f3 false true false false):=by
 refine returnsInHanded_of_change_and (C:=Tryz.checked) (X:=fun w _=>laidMetH Tryz.prog laidT w) (fun _ _ _ hh h=>h.of_heap hh) own started (by kernel_rfl) Tryz.func3
  (ChangeSpec.witness_shaped (enc:=enc) (C:=Tryz.checked) (os:=os) (X:=fun w _=>laidMetH Tryz.prog laidT w) false (World.doorLaid Tryz.prog 400 os) #[zB,zW,.slice none 0 0,.slice none 0 0,zP,zP] 8 rfl (World.shaped_of_RefB (by kernel_rfl) (by kernel_rfl)) (by kernel_rfl) (by kernel_rfl) (by kernel_rfl) (door_met os _)) ?_
 intro W base args ds gs before hval0 hW _ _ hL _
 have hval:∀(j:Nat) t v,Tryz.f3.params[j]?=some t→args[j]?=some v→Value.okWide Tryz.prog W .any base t v:=hval0;have hW':=hW;obtain⟨p,q,hA0,hV,rfl,hfz,hnd⟩:=hW;have hA:DataW.TrodAll enc Tryz.prog W 0 (fun _=>true) true Tryz.f3.params.toList args.toList ds p:=hA0;rw[Tryz.params3]at hA hval;obtain⟨v0,vs0,d0,ds0,p0,q0,hargs,rfl,rfl,h0,r0⟩:=trodAll_cons hA;obtain⟨v1,vs1,d1,ds1,p1,q1,rfl,rfl,rfl,h1,r1⟩:=trodAll_cons r0;obtain⟨v2,vs2,d2,ds2,p2,q2,rfl,rfl,rfl,h2,r2⟩:=trodAll_cons r1;obtain⟨v3,vs3,d3,ds3,p3,q3,rfl,rfl,rfl,h3,r3⟩:=trodAll_cons r2;obtain⟨v4,vs4,d4,ds4,p4,q4,rfl,rfl,rfl,h4,r4⟩:=trodAll_cons r3;obtain⟨v5,vs5,d5,ds5,p5,q5,rfl,rfl,rfl,h5,r5⟩:=trodAll_cons r4;obtain⟨rfl,rfl,rfl⟩:=trodAll_nil r5;obtain rfl:args=#[v0,v1,v2,v3,v4,v5]:=by cases args; simp_all
 obtain⟨rfl,rfl⟩:=trodVars_none hV;clear hA0 hval0;simp only[List.append_nil]at hW';refine(walk (w:=W) (of_laid hL) (hval 0 23 v0 rfl rfl) (hval 1 26 v1 rfl rfl) (hval 2 28 v2 rfl rfl) (hval 3 28 v3 rfl rfl) (hval 4 32 v4 rfl rfl) (hval 5 32 v5 rfl rfl) h0 h1 h2 h3 h4 h5).mono fun e W' ⟨he,hg⟩=>?_
 subst he;have hlt:∀ x∈p0++(p1++(p2++(p3++(p4++p5)))),x.block < W.heap.size:=fun x hx=>by simpa using hW'.lt x hx
 have stays:∀(sp:Nat→Bool),(∀ x∈p0++(p1++(p2++(p3++(p4++p5)))),sp x.block=true)→DataW.TrodAll enc Tryz.prog W' 0 sp true [23,26,28,28,32,32] [v0,v1,v2,v3,v4,v5] [d0,d1,d2,d3,d4,d5] (p0++(p1++(p2++(p3++(p4++(p5++[])))))):=fun sp hs=>by
  have st:∀ {t:TypeId} {v:Value} {d:DataW H} {ps:List MemPlace},Tryz.prog.readableRec t=true→t < Tryz.prog.types.size→DataW.Trod enc Tryz.prog W 0 (fun _=>true) true t v d ps→(∀ x∈ps,x∈p0++(p1++(p2++(p3++(p4++p5)))))→DataW.Trod enc Tryz.prog W' 0 sp true t v d ps:=fun hr hrow h hm =>
   WideElems.Trod_stays laidOut hr hrow h (fun x hx=>hg.same (hlt x (hm x hx))) (fun x hx=>hs x (hm x hx))
  exact trodAll_cons_mk (st (by kernel_rfl) (of_decide_eq_true (by kernel_rfl)) h0 (fun x hx=>by simp[hx])) (trodAll_cons_mk (st (by kernel_rfl) (of_decide_eq_true (by kernel_rfl)) h1 (fun x hx=>by simp[hx])) (trodAll_cons_mk (st (by kernel_rfl) (of_decide_eq_true (by kernel_rfl)) h2 (fun x hx=>by simp[hx]))
   (trodAll_cons_mk (st (by kernel_rfl) (of_decide_eq_true (by kernel_rfl)) h3 (fun x hx=>by simp[hx])) (trodAll_cons_mk (st (by kernel_rfl) (of_decide_eq_true (by kernel_rfl)) h4 (fun x hx=>by simp[hx])) (trodAll_cons_mk (st (by kernel_rfl) (of_decide_eq_true (by kernel_rfl)) h5 (fun x hx=>by simp[hx])) trodAll_mk0)))))
 exact⟨_,rfl,Go.Ab.post_of_below (pa:=p0++(p1++(p2++(p3++(p4++(p5++[])))))) (pv:=[]) hW' (fun _ _ _=>(trodAll_cons_mk (shut_bool Tryz.underlying4 _) trodAll_mk0)) (fun sp hs=>stays sp hs) (fun _ _=>rfl) (by simp)
  hg (ok_one (by kernel_rfl) rfl (okWide_bool_mk Tryz.underlying4 _))⟩
theorem facts:joinedFacts Tryz.prog 3 Tryz.f3 Rows.bestTellsSpec Rows.bestTellsRow=true:=by
 unfold joinedFacts
 repeat' with_reducible refine Bool.and_eq_true_iff.2 ⟨?_,?_⟩
 all_goals as_aux_lemma=>kernel_rfl
theorem over:Rows.BestTellsSaid :=
 OpenClaim.holds_of_wide 3 Tryz.f3 rfl rfl rfl rfl rfl rfl rfl ⟨rfl,rfl,rfl,rfl,rfl⟩ rfl rfl rfl rfl rfl (by kernel_rfl) Tryz.func3 facts
  (of_decide_eq_true (by kernel_rfl)) (by unfold Func.isWrapper; first | (rw[if_pos (by decide +kernel)]; kernel_rfl) | (rw[if_neg (by decide +kernel)]; exact⟨rfl,rfl⟩))
  (fun os started H enc _=>lifted os started H enc)
end Go.Proofs.YtdfgdheehdabmaaGreatDoor.bestTells
