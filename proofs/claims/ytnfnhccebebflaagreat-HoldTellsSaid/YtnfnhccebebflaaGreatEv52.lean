/- One of the texts that this claim stands on. -/
import Derived.Test.YtnfnhccebebflaaGreatEv16
import Derived.Test.YtnfnhccebebflaaGreatEv46
import Derived.Test.YtnfnhccebebflaaGreatEv51
import Derived.Carry
import Derived.Test.YtnfnhccebebflaaGreatRows
import Derived.WalkKit
import Derived.ProofKit
import Derived.OpenShut
import Derived.ShutString
set_option maxHeartbeats 40000000
set_option maxRecDepth 400000
set_option linter.all false
namespace Go.Proofs.YtnfnhccebebflaaGreat.holdTells
open Go.ChangeShapes Go.WideShapes Go.ChangeAt Go.RowKit
open Go.ChangeMaps (open_string shut_string)
theorem own:ownKnob Tryz.prog.godebug=none:=by kernel_rfl
theorem int_rep{H:Type}{enc:TypeId × Value→H}{W:World}{v:Value}{d:DataW H}{p:List MemPlace}(hv:Value.okWide Tryz.prog W .any 0 3 v)(h:DataW.Trod enc Tryz.prog W 0 (fun _=>true) true 3 v d p) :
  ∃ n:Int,∀ E,Go.Ab.RepV W E (Go.Ab.Pd.I n) v:=by
 obtain⟨n,rfl⟩:=okWide_int Tryz.underlying3 hv;exact⟨n,fun E=>.c rfl⟩
theorem walk{H:Type}{enc:TypeId × Value→H}{w:World}{v0 v1 v2:Value}{d0 d1 d2:DataW H}{p0 p1 p2:List MemPlace}
  (k0:Value.okWide Tryz.prog w .any 0 58 v0) (k1:Value.okWide Tryz.prog w .any 0 58 v1) (k2:Value.okWide Tryz.prog w .any 0 3 v2)
  (h0:DataW.Trod enc Tryz.prog w 0 (fun _=>true) true 58 v0 d0 p0) (h1:DataW.Trod enc Tryz.prog w 0 (fun _=>true) true 58 v1 d1 p1) (h2:DataW.Trod enc Tryz.prog w 0 (fun _=>true) true 3 v2 d2 p2) :
  Calls Tryz.prog 4 #[v0,v1,v2] w fun e w'=>e=.returned (.bool true)∧Below w.heap.size w w':=by
 obtain⟨X,s,hX,hg,hr⟩:=Go.Ab.Pd.state_rep k0 h0;obtain⟨Y,o,hY,hg2,hr2⟩:=Go.Ab.Pd.state_rep k1 h1;obtain⟨n,hn⟩:=int_rep k2 h2;exact Go.Ab.pur_calls_args0 (Go.Ab.Pd.holdTells_law hg hg2 n) (fun j cs h=>by cases h) w (fun b=>X b∨Y b) (fun b h=>h.elim (hX b) (hY b)) (.cons (hr _ fun _ h=>.inl h) (.cons (hr2 _ fun _ h=>.inr h) (.cons (hn _) .nil)))
theorem laidOut:laidOutB Tryz.prog=true:=by kernel_rfl
def zS:Value:=.agg #[.int .i64 0,.int .i64 0,.int .i64 0,.int .i64 0,.int .i64 0,.int .i64 0,.int .i64 0,.slice none 0 0,.int .i64 0,.int .i64 0,.slice none 0 0,.slice none 0 0,.slice none 0 0,.slice none 0 0,.slice none 0 0,.slice none 0 0]
theorem lifted(os:Os)(started:os.Started)(H:Type)(enc:TypeId × Value→H) :
  ReturnsInHanded {} Tryz.checked os 4 .any (Rows.holdTellsSpec.pre6 enc Tryz.prog Tryz.f4 Rows.holdTellsRow.domain false) (Rows.holdTellsSpec.post enc Tryz.prog Tryz.f4 false true false false):=by
 refine returnsInHanded_of_change (C:=Tryz.checked) own started (by kernel_rfl) Tryz.func4
  (ChangeSpec.witness6 (enc:=enc) (C:=Tryz.checked) false ⟨#[],#[zS,zS,.int .i64 0],[]⟩ 8 (by kernel_rfl) (by kernel_rfl) (by kernel_rfl) (by kernel_rfl)) ?_
 intro W base args ds gs before hval0 hW hcnd _
 have hval:∀(j:Nat) t v,Tryz.f4.params[j]?=some t→args[j]?=some v→Value.okWide Tryz.prog W .any base t v:=hval0;have hW':=hW;obtain⟨p,q,hA0,hV,rfl,hfz,hnd⟩:=hW;have hA:DataW.TrodAll enc Tryz.prog W 0 (fun _=>true) true Tryz.f4.params.toList args.toList ds p:=hA0;rw[Tryz.params4]at hA hval;obtain⟨v0,vs0,d0,ds0,p0,q0,hargs,rfl,rfl,h0,r0⟩:=trodAll_cons hA;obtain⟨v1,vs1,d1,ds1,p1,q1,rfl,rfl,rfl,h1,r1⟩:=trodAll_cons r0;obtain⟨v2,vs2,d2,ds2,p2,q2,rfl,rfl,rfl,h2,r2⟩:=trodAll_cons r1;obtain⟨rfl,rfl,rfl⟩:=trodAll_nil r2;obtain rfl:args=#[v0,v1,v2]:=by cases args; simp_all
 obtain⟨rfl,rfl⟩:=trodVars_none hV;clear hA0 hval0;simp only[List.append_nil]at hW';refine(walk (w:=W) (hval 0 58 v0 rfl rfl) (hval 1 58 v1 rfl rfl) (hval 2 3 v2 rfl rfl) h0 h1 h2).mono fun e W' ⟨he,hg⟩=>?_
 subst he;have hlt:∀ x∈p0++(p1++p2),x.block < W.heap.size:=fun x hx=>by simpa using hW'.lt x hx
 have stays:∀(sp:Nat→Bool),(∀ x∈p0++(p1++p2),sp x.block=true)→DataW.TrodAll enc Tryz.prog W' 0 sp true [58,58,3] [v0,v1,v2] [d0,d1,d2] (p0++(p1++(p2++[]))):=fun sp hs=>by
  have st:∀ {t:TypeId} {v:Value} {d:DataW H} {ps:List MemPlace},Tryz.prog.readableRec t=true→t < Tryz.prog.types.size→DataW.Trod enc Tryz.prog W 0 (fun _=>true) true t v d ps→(∀ x∈ps,x∈p0++(p1++p2))→DataW.Trod enc Tryz.prog W' 0 sp true t v d ps:=fun hr hrow h hm =>
   WideElems.Trod_stays laidOut hr hrow h (fun x hx=>hg.same (hlt x (hm x hx))) (fun x hx=>hs x (hm x hx))
  exact trodAll_cons_mk (st (by kernel_rfl) (of_decide_eq_true (by kernel_rfl)) h0 (fun x hx=>by simp[hx])) (trodAll_cons_mk (st (by kernel_rfl) (of_decide_eq_true (by kernel_rfl)) h1 (fun x hx=>by simp[hx])) (trodAll_cons_mk (st (by kernel_rfl) (of_decide_eq_true (by kernel_rfl)) h2 (fun x hx=>by simp[hx])) trodAll_mk0))
 exact⟨_,rfl,Go.Ab.post_of_below (pa:=p0++(p1++(p2++[]))) (pv:=[]) hW' (fun _ _ _=>(trodAll_cons_mk (shut_bool Tryz.underlying4 _) trodAll_mk0)) (fun sp hs=>stays sp hs) (fun _ _=>rfl) (by simp)
  hg (ok_one (by kernel_rfl) rfl (okWide_bool_mk Tryz.underlying4 _))⟩
theorem facts:joinedFacts Tryz.prog 4 Tryz.f4 Rows.holdTellsSpec Rows.holdTellsRow=true:=by
 unfold joinedFacts
 repeat' with_reducible refine Bool.and_eq_true_iff.2 ⟨?_,?_⟩
 all_goals as_aux_lemma=>kernel_rfl
theorem over:Rows.holdTellsRow.holds Tryz.pinned (OpenSpec.ofChange Rows.holdTellsSpec) :=
 OpenClaim.holds_of_wide 4 Tryz.f4 rfl rfl rfl rfl rfl rfl rfl ⟨rfl,rfl,rfl,rfl,rfl⟩ rfl rfl rfl rfl rfl (by kernel_rfl) Tryz.func4 facts
  (of_decide_eq_true (by kernel_rfl)) (by unfold Func.isWrapper; first | (rw[if_pos (by decide +kernel)]; kernel_rfl) | (rw[if_neg (by decide +kernel)]; exact⟨rfl,rfl⟩))
  (fun os started H enc _=>lifted os started H enc)
end Go.Proofs.YtnfnhccebebflaaGreat.holdTells
