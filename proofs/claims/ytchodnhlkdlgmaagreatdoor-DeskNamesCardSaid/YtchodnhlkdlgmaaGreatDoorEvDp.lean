/-
  Calls that may panic; deferred calls; recover.
-/
import Derived.Test.YtchodnhlkdlgmaaGreatDoorEvD
import Derived.Recover
set_option linter.unusedVariables false
set_option linter.unusedSimpArgs false
namespace Go.Ab

section
variable (P : Program) (G : Gl)
/-- A call of function f that returns, or panics. -/
def ACP (f : FuncId) (args : List AV) (H : List AO) (K Kp : AV → List AO → Prop) : Prop :=
  callable P f ∧ ∀ (E : En) (w : World) (vargs : Array Value), RelH G w E H → RepL w E args vargs → ∀ cs : List Frame,
    ∃ v H' E' w', RelH G w' E' H' ∧ Grow H E w H' E' w' ∧ ∃ (r : Value) (fr : Frame), RepV w' E' v r ∧ Steps P (lone (Frame.enter P f vargs .normal) cs w) (lone fr cs w') ∧ fr.fn = f ∧
      ((K v H' ∧ fr.leaving P w' (.returned r)) ∨ (Kp v H' ∧ fr.leaving P w' (.panicked [{ v := r, recovered := false }])))
/-- A deferred call of f, made while its frame returns, or panics with pv; whether it recovers. -/
def ACD (f : FuncId) (args : List AV) (H : List AO) (pv : Option AV) (K : Bool → List AO → Prop) : Prop :=
  callable P f ∧ ∀ (E : En) (w : World) (vargs : Array Value), RelH G w E H → RepL w E args vargs → ∀ (c : Frame) (cs : List Frame) (r : Value),
    (match pv with
      | none => c.mode = .returning
      | some a => c.mode = .panicking [{ v := r, recovered := false }] ∧ RepV w E a r) →
    ∃ b H' E' w', K b H' ∧ RelH G w' E' H' ∧ Grow H E w H' E' w' ∧ Steps P (lone (Frame.enter P f vargs .deferred) (c :: cs) w) (lone { c with mode := (match b with | true => .returning | false => c.mode) } cs w')
end

section
variable {P : Program} {G : Gl}

theorem ACP.toAC {f : FuncId} {args : List AV} {H : List AO} {K Kp : AV → List AO → Prop} (h : ACP P G f args H K Kp) (hp : ∀ v H', ¬ Kp v H') : AC P G f args H K := by
  refine ⟨h.1, fun E w vargs hH hA cs => ?_⟩
  obtain ⟨v, H', E', w', h1, h2, r, fr, h3, h4, h5, h6⟩ := h.2 E w vargs hH hA cs
  rcases h6 with ⟨h6, h7⟩ | ⟨h6, _⟩
  · exact ⟨v, H', E', w', r, fr, h6, h1, h2, h3, h4, h5, h7⟩
  · exact absurd h6 (hp _ _)
theorem AC.toACP {f : FuncId} {args : List AV} {H : List AO} {K Kp : AV → List AO → Prop} (h : AC P G f args H K) : ACP P G f args H K Kp := by
  refine ⟨h.1, fun E w vargs hH hA cs => ?_⟩
  obtain ⟨v, H', E', w', r, fr, h1, h2, h3, h4, h5, h6, h7⟩ := h.2 E w vargs hH hA cs
  exact ⟨v, H', E', w', h2, h3, r, fr, h4, h5, h6, .inl ⟨h1, h7⟩⟩
theorem ACP.mono {f : FuncId} {args : List AV} {H : List AO} {K Kp K' Kp' : AV → List AO → Prop} (h : ACP P G f args H K Kp) (hk : ∀ v H', K v H' → K' v H') (hp : ∀ v H', Kp v H' → Kp' v H') : ACP P G f args H K' Kp' := by
  refine ⟨h.1, fun E w vargs hH hA cs => ?_⟩
  obtain ⟨v, H', E', w', h1, h2, r, fr, h3, h4, h5, h6⟩ := h.2 E w vargs hH hA cs
  refine ⟨v, H', E', w', h1, h2, r, fr, h3, h4, h5, ?_⟩
  rcases h6 with ⟨h6, h7⟩ | ⟨h6, h7⟩
  · exact .inl ⟨hk _ _ h6, h7⟩
  · exact .inr ⟨hp _ _ h6, h7⟩

section
variable {rd : Option Nat} {n : Nat} {k : List Item} {ts : Nat → AV} {H : List AO} {Q : Lv → (Nat → AV) → List AO → Prop}

theorem FW.callP {ops : Array Oper} {i : Nat} {rest : List Nat} {o : Oper} (ho : ops[i]? = some o) (hw : wantedA ops ts o = true) {f : Operand} {args : Array Operand} {tys : Array TypeId}
    (hop : o.op = .call { callee := .value f, args := args, argTypes := tys }) {g : FuncId} {first caps : List AV} (hf : ev ts f = .fn g first caps)
    (h : ACP P G g (first ++ (args.toList.map (ev ts) ++ caps)) H (fun v H' => FW P G rd n (.inRegion ops rest :: k) (put ts o.dst v) H' Q) (fun v H' => Q (.pan v) ts H')) :
    FW P G rd n (.inRegion ops (i :: rest) :: k) ts H Q := by
  intro hk E w tmps hH hT b D cs hrd
  have hk' := hk
  rw [todoOk_cons, Bool.and_eq_true] at hk'
  have hops : ops.all (operOk n) = true := hk'.1
  have hoo : operOk n o = true := (Array.all_eq_true'.1 hops) o (Array.mem_of_getElem? ho)
  simp only [operOk, hop, Op.operands, Call.operands, Bool.and_eq_true, Array.all_append] at hoo
  have hfo : opdOk n f = true := by simpa using hoo.2.1
  have hwt : Region.wanted o (yielded ops tmps) = true := by rw [wanted_eq hops hT]; exact hw
  have hc := rep_ev hT hfo D
  rw [hf] at hc
  have hA := repL_map hT hoo.2.2 D
  have hst := stepG_frm_op (P := P) (b := b) (tmps := tmps) (rest := rest) (k := k) (D := D) (cs := cs) (w := w) ho hwt (by rw [hop]; rfl)
  have e : execOp (Act.eval ⟨tmps, D⟩) o = (do let d ← Deferred.ofValue (Act.eval ⟨tmps, D⟩ f) (args.map (Act.eval ⟨tmps, D⟩)); invoke d.target d.args) := by
    simp [execOp, hop, resolve]
  generalize Act.eval ⟨tmps, D⟩ f = fv at hc e
  cases hc
  rename_i vs us' hl1 h1 hl2 h2
  obtain ⟨hcal, h⟩ := h
  obtain ⟨v, H1, E1, w1, g1, g2, r, fr, g3, g4, g5, g6⟩ := h E w (vs ++ (args.map (Act.eval ⟨tmps, D⟩) ++ us')) hH (RepL.append ⟨hl1, h1⟩ (hA.append ⟨hl2, h2⟩)) (frm b tmps (.inRegion ops (i :: rest) :: k) D :: cs)
  have hrun : (execOp (Act.eval ⟨tmps, D⟩) o).run P w = .ok (.enter g (vs ++ (args.map (Act.eval ⟨tmps, D⟩) ++ us'))) w := by
    rw [e]
    simp only [Deferred.ofValue, pure_bind, invoke]
    rw [run_callFunc hcal]
    rw [Array.append_assoc]
  have hone : Go.step P (lone (frm b tmps (.inRegion ops (i :: rest) :: k) D) cs w) = .next (lone (Frame.enter P g (vs ++ (args.map (Act.eval ⟨tmps, D⟩) ++ us')) .normal) (frm b tmps (.inRegion ops (i :: rest) :: k) D :: cs) w) := by
    refine step_lone_go ?_
    rw [hst]; simp [stepG.apply, hrun, frm]
  rcases g6 with ⟨hK, hl⟩ | ⟨hK, hl⟩
  · have hT1 := (hT.mono g2.mono).put g3 o.dst
    obtain ⟨L, ts', H', E', w', tmps', D', todo', q1, q2, q3, q4, q6, q7, q8⟩ := hK (by rw [todoOk_cons, Bool.and_eq_true]; exact ⟨hops, hk'.2⟩) E1 w1 _ g1 hT1 b D cs (hrd.mono g2.mono)
    refine ⟨L, ts', H', E', w', tmps', D', todo', q1, q2, g2.trans q3, q4, q6, ⟨q7.1, q7.2.le g2.size⟩, q8.pre P ?_⟩
    rw [← finish_frm b tmps ops i rest k D r o ho]
    exact .head hone (g4.trans (.one (step_leave_returned hl)))
  · exact ⟨.pan v, ts, H1, E1, w1, tmps, D, .inRegion ops (i :: rest) :: k, hK, g1, g2, hT.mono g2.mono, trivial, ⟨fun _ => rfl, (MarksOn.refl w1 D).le g2.size⟩, r, g3, .head hone (g4.trans (.one (step_leave_panicked hl)))⟩

def isIfc : AV → Bool
  | .ifc _ _ => true
  | _ => false

theorem FW.panic {ops : Array Oper} {i : Nat} {rest : List Nat} {o : Oper} (ho : ops[i]? = some o) (hw : wantedA ops ts o = true) {x : Operand}
    (hop : o.op = .panic x) (hx : isIfc (ev ts x) = true) (hQ : Q (.pan (ev ts x)) ts H) : FW P G rd n (.inRegion ops (i :: rest) :: k) ts H Q := by
  intro hk E w tmps hH hT b D cs hrd
  have hk' := hk
  rw [todoOk_cons, Bool.and_eq_true] at hk'
  have hops : ops.all (operOk n) = true := hk'.1
  have hoo : operOk n o = true := (Array.all_eq_true'.1 hops) o (Array.mem_of_getElem? ho)
  simp only [operOk, hop, Op.operands, Bool.and_eq_true] at hoo
  have hxo : opdOk n x = true := by simpa using hoo.2
  have hwt : Region.wanted o (yielded ops tmps) = true := by rw [wanted_eq hops hT]; exact hw
  have hc := rep_ev hT hxo D
  have hst := stepG_frm_op (P := P) (b := b) (tmps := tmps) (rest := rest) (k := k) (D := D) (cs := cs) (w := w) ho hwt (by rw [hop]; rfl)
  have e : (execOp (Act.eval ⟨tmps, D⟩) o).run P w = .halt (.panic (Act.eval ⟨tmps, D⟩ x)) w := by
    generalize ev ts x = a at hc hx
    cases a <;> first | (cases hx; done) | skip
    generalize hv : Act.eval ⟨tmps, D⟩ x = v at hc
    cases hc
    simp only [execOp, hop, Instr.panic, hv]
    rfl
  refine ⟨.pan (ev ts x), ts, H, E, w, tmps, D, .inRegion ops (i :: rest) :: k, hQ, hH, Grow.refl _ _ _, hT, trivial, ⟨fun _ => rfl, .refl w D⟩, _, hc, .one (step_lone_go ?_)⟩
  rw [hst]; simp [stepG.apply, e]
end
end
end Go.Ab
