/- One of the texts that this claim stands on. -/
import Derived.Test.YtnfnhccebebflaaGreatEv16
import Derived.Test.YtnfnhccebebflaaGreatEv46
import Derived.Test.YtnfnhccebebflaaGreatEv51
import Derived.Carry
import Derived.Test.YtnfnhccebebflaaGreatRows
import Derived.WalkKit
import Derived.ProofKit
import Derived.OpenShut
import Derived.ShutString
set_option maxHeartbeats 40000000
set_option maxRecDepth 400000
set_option linter.all false
namespace Go.Proofs.YtnfnhccebebflaaGreat.holdTurns
open Go.ChangeShapes Go.WideShapes Go.ChangeAt Go.RowKit
open Go.ChangeMaps (open_string shut_string)
theorem own:ownKnob Tryz.prog.godebug=none:=by kernel_rfl
theorem box_rep{H:Type}{enc:TypeId × Value->H}{W:World}{v:Value}{d:DataW H}{p:List MemPlace}(hv:Value.okWide Tryz.prog W .any 0 30 v)(h:DataW.Trod enc Tryz.prog W 0 (fun _=>true) true 30 v d p) :
  ∃ b:Go.Ab.Pd.Bx6,∀ E,Go.Ab.RepV W E (.agg [Go.Ab.Pd.I b.x,Go.Ab.Pd.I b.y,Go.Ab.Pd.I b.z,Go.Ab.Pd.I b.p,Go.Ab.Pd.I b.q,Go.Ab.Pd.I b.r]) v:=by
 simp only[Value.okWide,Tryz.underlying30]at hv;obtain⟨cs,rfl,_,_⟩:=hv;obtain⟨fuel,hf⟩:=h;obtain⟨a,b,c,d',e,f,e0⟩:=Go.Ab.Pd.boxR hf;have e':cs.toList=[.int .i64 a,.int .i64 b,.int .i64 c,.int .i64 d',.int .i64 e,.int .i64 f]:=e0;refine⟨⟨a,b,c,d',e,f⟩,fun E=>?_⟩;have:=Go.Ab.rep_flat (w:=W) (E:=E) (cs:=cs) (by rw[e']; intro v hv; simp at hv; rcases hv with rfl | rfl | rfl | rfl | rfl | rfl <;> rfl);rw[e']at this;exact this
theorem span_rep{H:Type}{enc:TypeId × Value->H}{W:World}{v:Value}{d:DataW H}{p:List MemPlace}(hv:Value.okWide Tryz.prog W .any 0 66 v)(h:DataW.Trod enc Tryz.prog W 0 (fun _=>true) true 66 v d p) :
  ∃ a b:Int,∀ E,Go.Ab.RepV W E (.agg [Go.Ab.Pd.I a,Go.Ab.Pd.I b]) v:=by
 simp only[Value.okWide,Tryz.underlying66]at hv;obtain⟨cs,rfl,_,_⟩:=hv;obtain⟨fuel,hf⟩:=h;obtain⟨a,b,e0⟩:=Go.Ab.Pd.spanR hf;have e':cs.toList=[.int .i64 a,.int .i64 b]:=e0;refine⟨a,b,fun E=>?_⟩;have:=Go.Ab.rep_flat (w:=W) (E:=E) (cs:=cs) (by rw[e']; intro v hv; simp at hv; rcases hv with rfl | rfl <;> rfl);rw[e']at this;exact this
theorem int_rep{H:Type}{enc:TypeId × Value->H}{W:World}{v:Value}{d:DataW H}{p:List MemPlace}(hv:Value.okWide Tryz.prog W .any 0 3 v)(h:DataW.Trod enc Tryz.prog W 0 (fun _=>true) true 3 v d p) :
  ∃ n:Int,∀ E,Go.Ab.RepV W E (Go.Ab.Pd.I n) v:=by
 obtain⟨n,rfl⟩:=okWide_int Tryz.underlying3 hv;exact⟨n,fun E=>.c rfl⟩
theorem walk{H:Type}{enc:TypeId × Value->H}{w:World}{v0 v1 v2 v3:Value}{d0 d1 d2 d3:DataW H}{p0 p1 p2 p3:List MemPlace}
  (k0:Value.okWide Tryz.prog w .any 0 58 v0) (k1:Value.okWide Tryz.prog w .any 0 30 v1) (k2:Value.okWide Tryz.prog w .any 0 66 v2) (k3:Value.okWide Tryz.prog w .any 0 3 v3)
  (h0:DataW.Trod enc Tryz.prog w 0 (fun _=>true) true 58 v0 d0 p0) (h1:DataW.Trod enc Tryz.prog w 0 (fun _=>true) true 30 v1 d1 p1) (h2:DataW.Trod enc Tryz.prog w 0 (fun _=>true) true 66 v2 d2 p2) (h3:DataW.Trod enc Tryz.prog w 0 (fun _=>true) true 3 v3 d3 p3) :
  Calls Tryz.prog 5 #[v0,v1,v2,v3] w fun e w'=>e=.returned (.bool true)/\Below w.heap.size w w':=by
 obtain⟨X,s,hX,hg,hr⟩:=Go.Ab.Pd.state_rep k0 h0;obtain⟨b,hb⟩:=box_rep k1 h1;obtain⟨fr,till,hs⟩:=span_rep k2 h2;obtain⟨n,hn⟩:=int_rep k3 h3;exact Go.Ab.pur_calls_args0 (Go.Ab.Pd.holdTurns_law hg b fr till n) (fun j cs h=>by cases h) w X hX (.cons (hr X fun _ h=>h) (.cons (hb _) (.cons (hs _) (.cons (hn _) .nil))))
theorem laidOut:laidOutB Tryz.prog=true:=by kernel_rfl
def zS:Value:=.agg #[.int .i64 0,.int .i64 0,.int .i64 0,.int .i64 0,.int .i64 0,.int .i64 0,.int .i64 0,.slice none 0 0,.int .i64 0,.int .i64 0,.slice none 0 0,.slice none 0 0,.slice none 0 0,.slice none 0 0,.slice none 0 0,.slice none 0 0]
def zB:Value:=.agg #[.int .i64 0,.int .i64 0,.int .i64 0,.int .i64 0,.int .i64 0,.int .i64 0]
def zN:Value:=.agg #[.int .i64 0,.int .i64 0]
theorem lifted(os:Os)(started:os.Started)(H:Type)(enc:TypeId × Value->H) :
  ReturnsInHanded {} Tryz.checked os 5 .any (Rows.holdTurnsSpec.pre6 enc Tryz.prog Tryz.f5 Rows.holdTurnsRow.domain false) (Rows.holdTurnsSpec.post enc Tryz.prog Tryz.f5 false true false false):=by
 refine returnsInHanded_of_change (C:=Tryz.checked) own started (by kernel_rfl) Tryz.func5
  (ChangeSpec.witness6 (enc:=enc) (C:=Tryz.checked) false ⟨#[],#[zS,zB,zN,.int .i64 0],[]⟩ 8 (by kernel_rfl) (by kernel_rfl) (by kernel_rfl) (by kernel_rfl)) ?_
 intro W base args ds gs before hval0 hW hcnd _
 have hval:∀(j:Nat) t v,Tryz.f5.params[j]?=some t->args[j]?=some v->Value.okWide Tryz.prog W .any base t v:=hval0;have hW':=hW;obtain⟨p,q,hA0,hV,rfl,hfz,hnd⟩:=hW;have hA:DataW.TrodAll enc Tryz.prog W 0 (fun _=>true) true Tryz.f5.params.toList args.toList ds p:=hA0;rw[Tryz.params5]at hA hval;obtain⟨v0,vs0,d0,ds0,p0,q0,hargs,rfl,rfl,h0,r0⟩:=trodAll_cons hA;obtain⟨v1,vs1,d1,ds1,p1,q1,rfl,rfl,rfl,h1,r1⟩:=trodAll_cons r0;obtain⟨v2,vs2,d2,ds2,p2,q2,rfl,rfl,rfl,h2,r2⟩:=trodAll_cons r1;obtain⟨v3,vs3,d3,ds3,p3,q3,rfl,rfl,rfl,h3,r3⟩:=trodAll_cons r2;obtain⟨rfl,rfl,rfl⟩:=trodAll_nil r3;obtain rfl:args=#[v0,v1,v2,v3]:=by cases args; simp_all
 obtain⟨rfl,rfl⟩:=trodVars_none hV;clear hA0 hval0;simp only[List.append_nil]at hW';refine(walk (w:=W) (hval 0 58 v0 rfl rfl) (hval 1 30 v1 rfl rfl) (hval 2 66 v2 rfl rfl) (hval 3 3 v3 rfl rfl) h0 h1 h2 h3).mono fun e W' ⟨he,hg⟩=>?_
 subst he;have hlt:∀ x∈p0++(p1++(p2++p3)),x.block < W.heap.size:=fun x hx=>by simpa using hW'.lt x hx
 have stays:∀(sp:Nat->Bool),(∀ x∈p0++(p1++(p2++p3)),sp x.block=true)->DataW.TrodAll enc Tryz.prog W' 0 sp true [58,30,66,3] [v0,v1,v2,v3] [d0,d1,d2,d3] (p0++(p1++(p2++(p3++[])))):=fun sp hs=>by
  have st:∀ {t:TypeId} {v:Value} {d:DataW H} {ps:List MemPlace},Tryz.prog.readableRec t=true->t < Tryz.prog.types.size->DataW.Trod enc Tryz.prog W 0 (fun _=>true) true t v d ps->(∀ x∈ps,x∈p0++(p1++(p2++p3)))->DataW.Trod enc Tryz.prog W' 0 sp true t v d ps:=fun hr hrow h hm =>
   WideElems.Trod_stays laidOut hr hrow h (fun x hx=>hg.same (hlt x (hm x hx))) (fun x hx=>hs x (hm x hx))
  exact trodAll_cons_mk (st (by kernel_rfl) (of_decide_eq_true (by kernel_rfl)) h0 (fun x hx=>by simp[hx])) (trodAll_cons_mk (st (by kernel_rfl) (of_decide_eq_true (by kernel_rfl)) h1 (fun x hx=>by simp[hx])) (trodAll_cons_mk (st (by kernel_rfl) (of_decide_eq_true (by kernel_rfl)) h2 (fun x hx=>by simp[hx])) (trodAll_cons_mk (st (by kernel_rfl) (of_decide_eq_true (by kernel_rfl)) h3 (fun x hx=>by simp[hx])) trodAll_mk0)))
 exact⟨_,rfl,Go.Ab.post_of_below (pa:=p0++(p1++(p2++(p3++[])))) (pv:=[]) hW' (fun _ _ _=>(trodAll_cons_mk (shut_bool Tryz.underlying4 _) trodAll_mk0)) (fun sp hs=>stays sp (fun x hx=>hs x (by simpa using hx))) (fun _ _=>rfl) (by simp)
  hg (ok_one (by kernel_rfl) rfl (okWide_bool_mk Tryz.underlying4 _))⟩
theorem facts:joinedFacts Tryz.prog 5 Tryz.f5 Rows.holdTurnsSpec Rows.holdTurnsRow=true:=by
 unfold joinedFacts
 repeat' with_reducible refine Bool.and_eq_true_iff.2 ⟨?_,?_⟩
 all_goals as_aux_lemma=>kernel_rfl
theorem over:Rows.holdTurnsRow.holds Tryz.pinned (OpenSpec.ofChange Rows.holdTurnsSpec) :=
 OpenClaim.holds_of_wide 5 Tryz.f5 rfl rfl rfl rfl rfl rfl rfl ⟨rfl,rfl,rfl,rfl,rfl⟩ rfl rfl rfl rfl rfl (by kernel_rfl) Tryz.func5 facts
  (of_decide_eq_true (by kernel_rfl)) (by unfold Func.isWrapper; first | (rw[if_pos (by decide +kernel)]; kernel_rfl) | (rw[if_neg (by decide +kernel)]; exact⟨rfl,rfl⟩))
  (fun os started H enc _=>lifted os started H enc)
end Go.Proofs.YtnfnhccebebflaaGreat.holdTurns
