/- One of the texts that this claim stands on. -/
import Derived.Test.YtfahngokbdndmaaGreatDoorEv3
import Derived.Recover
set_option linter.unusedVariables false
set_option linter.unusedSimpArgs false
namespace Go.Ab
section
variable (P : Program) (G : Gl)
def ACP (f : FuncId) (args : List AV) (H : List AO) (K Kp : AV → List AO → Prop) : Prop :=
  callable P f ∧ ∀ (E : En) (w : World) (vargs : Array Value), RelH G w E H → RepL w E args vargs → ∀ cs : List Frame,
    ∃ v H' E' w', RelH G w' E' H' ∧ Grow H E w H' E' w' ∧ ∃ (r : Value) (fr : Frame), RepV w' E' v r ∧ Steps P (lone (Frame.enter P f vargs .normal) cs w) (lone fr cs w') ∧ fr.fn = f ∧
      ((K v H' ∧ fr.leaving P w' (.returned r)) ∨ (Kp v H' ∧ fr.leaving P w' (.panicked [{ v := r, recovered := false }])))
def ACD (f : FuncId) (args : List AV) (H : List AO) (pv : Option AV) (K : Bool → List AO → Prop) : Prop :=
  callable P f ∧ ∀ (E : En) (w : World) (vargs : Array Value), RelH G w E H → RepL w E args vargs → ∀ (c : Frame) (cs : List Frame) (r : Value),
    (match pv with
      | none => c.mode = .returning
      | some a => c.mode = .panicking [{ v := r, recovered := false }] ∧ RepV w E a r) →
    ∃ b H' E' w', K b H' ∧ RelH G w' E' H' ∧ Grow H E w H' E' w' ∧ Steps P (lone (Frame.enter P f vargs .deferred) (c :: cs) w) (lone { c with mode := (match b with | true => .returning | false => c.mode) } cs w')
end
section
variable {P : Program} {G : Gl}
theorem ACP.toAC {f : FuncId} {args : List AV} {H : List AO} {K Kp : AV → List AO → Prop} (h : ACP P G f args H K Kp) (hp : ∀ v H', ¬ Kp v H') : AC P G f args H K := by
  refine ⟨h.1, fun E w vargs hH hA cs => ?_⟩
  obtain ⟨v, H', E', w', h1, h2, r, fr, h3, h4, h5, h6⟩ := h.2 E w vargs hH hA cs
  rcases h6 with ⟨h6, h7⟩ | ⟨h6, _⟩
  · exact ⟨v, H', E', w', r, fr, h6, h1, h2, h3, h4, h5, h7⟩
  · exact absurd h6 (hp _ _)
theorem AC.toACP {f : FuncId} {args : List AV} {H : List AO} {K Kp : AV → List AO → Prop} (h : AC P G f args H K) : ACP P G f args H K Kp := by
  refine ⟨h.1, fun E w vargs hH hA cs => ?_⟩
  obtain ⟨v, H', E', w', r, fr, h1, h2, h3, h4, h5, h6, h7⟩ := h.2 E w vargs hH hA cs
  exact ⟨v, H', E', w', h2, h3, r, fr, h4, h5, h6, .inl ⟨h1, h7⟩⟩
theorem ACP.mono {f : FuncId} {args : List AV} {H : List AO} {K Kp K' Kp' : AV → List AO → Prop} (h : ACP P G f args H K Kp) (hk : ∀ v H', K v H' → K' v H') (hp : ∀ v H', Kp v H' → Kp' v H') : ACP P G f args H K' Kp' := by
  refine ⟨h.1, fun E w vargs hH hA cs => ?_⟩
  obtain ⟨v, H', E', w', h1, h2, r, fr, h3, h4, h5, h6⟩ := h.2 E w vargs hH hA cs
  refine ⟨v, H', E', w', h1, h2, r, fr, h3, h4, h5, ?_⟩
  rcases h6 with ⟨h6, h7⟩ | ⟨h6, h7⟩
  · exact .inl ⟨hk _ _ h6, h7⟩
  · exact .inr ⟨hp _ _ h6, h7⟩
section
variable {rd : Option Nat} {n : Nat} {k : List Item} {ts : Nat → AV} {H : List AO} {Q : Lv → (Nat → AV) → List AO → Prop}
theorem FW.callP {ops : Array Oper} {i : Nat} {rest : List Nat} {o : Oper} (ho : ops[i]? = some o) (hw : wantedA ops ts o = true) {f : Operand} {args : Array Operand} {tys : Array TypeId}
    (hop : o.op = .call { callee := .value f, args := args, argTypes := tys }) {g : FuncId} {first caps : List AV} (hf : ev ts f = .fn g first caps)
    (h : ACP P G g (first ++ (args.toList.map (ev ts) ++ caps)) H (fun v H' => FW P G rd n (.inRegion ops rest :: k) (put ts o.dst v) H' Q) (fun v H' => Q (.pan v) ts H')) :
    FW P G rd n (.inRegion ops (i :: rest) :: k) ts H Q := by
  intro hk E w tmps hH hT b D cs hrd
  have hk' := hk
  rw [todoOk_cons, Bool.and_eq_true] at hk'
  have hops : ops.all (operOk n) = true := hk'.1
  have hoo : operOk n o = true := (Array.all_eq_true'.1 hops) o (Array.mem_of_getElem? ho)
  simp only [operOk, hop, Op.operands, Call.operands, Bool.and_eq_true, Array.all_append] at hoo
  have hfo : opdOk n f = true := by simpa using hoo.2.1
  have hwt : Region.wanted o (yielded ops tmps) = true := by rw [wanted_eq hops hT]; exact hw
  have hc := rep_ev hT hfo D
  rw [hf] at hc
  have hA := repL_map hT hoo.2.2 D
  have hst := stepG_frm_op (P := P) (b := b) (tmps := tmps) (rest := rest) (k := k) (D := D) (cs := cs) (w := w) ho hwt (by rw [hop]; rfl)
  have e : execOp (Act.eval ⟨tmps, D⟩) o = (do let d ← Deferred.ofValue (Act.eval ⟨tmps, D⟩ f) (args.map (Act.eval ⟨tmps, D⟩)); invoke d.target d.args) := by
    simp [execOp, hop, resolve]
  generalize Act.eval ⟨tmps, D⟩ f = fv at hc e
  cases hc
  rename_i vs us' hl1 h1 hl2 h2
  obtain ⟨hcal, h⟩ := h
  obtain ⟨v, H1, E1, w1, g1, g2, r, fr, g3, g4, g5, g6⟩ := h E w (vs ++ (args.map (Act.eval ⟨tmps, D⟩) ++ us')) hH (RepL.append ⟨hl1, h1⟩ (hA.append ⟨hl2, h2⟩)) (frm b tmps (.inRegion ops (i :: rest) :: k) D :: cs)
  have hrun : (execOp (Act.eval ⟨tmps, D⟩) o).run P w = .ok (.enter g (vs ++ (args.map (Act.eval ⟨tmps, D⟩) ++ us'))) w := by
    rw [e]
    simp only [Deferred.ofValue, pure_bind, invoke]
    rw [run_callFunc hcal]
    rw [Array.append_assoc]
  have hone : Go.step P (lone (frm b tmps (.inRegion ops (i :: rest) :: k) D) cs w) = .next (lone (Frame.enter P g (vs ++ (args.map (Act.eval ⟨tmps, D⟩) ++ us')) .normal) (frm b tmps (.inRegion ops (i :: rest) :: k) D :: cs) w) := by
    refine step_lone_go ?_
    rw [hst]; simp [stepG.apply, hrun, frm]
  rcases g6 with ⟨hK, hl⟩ | ⟨hK, hl⟩
  · have hT1 := (hT.mono g2.mono).put g3 o.dst
    obtain ⟨L, ts', H', E', w', tmps', D', todo', q1, q2, q3, q4, q6, q7, q8⟩ := hK (by rw [todoOk_cons, Bool.and_eq_true]; exact ⟨hops, hk'.2⟩) E1 w1 _ g1 hT1 b D cs (hrd.mono g2.mono)
    refine ⟨L, ts', H', E', w', tmps', D', todo', q1, q2, g2.trans q3, q4, q6, ⟨q7.1, q7.2.le g2.size⟩, q8.pre P ?_⟩
    rw [← finish_frm b tmps ops i rest k D r o ho]
    exact .head hone (g4.trans (.one (step_leave_returned hl)))
  · exact ⟨.pan v, ts, H1, E1, w1, tmps, D, .inRegion ops (i :: rest) :: k, hK, g1, g2, hT.mono g2.mono, trivial, ⟨fun _ => rfl, (MarksOn.refl w1 D).le g2.size⟩, r, g3, .head hone (g4.trans (.one (step_leave_panicked hl)))⟩
def isIfc : AV → Bool
  | .ifc _ _ => true
  | _ => false
theorem FW.panic {ops : Array Oper} {i : Nat} {rest : List Nat} {o : Oper} (ho : ops[i]? = some o) (hw : wantedA ops ts o = true) {x : Operand}
    (hop : o.op = .panic x) (hx : isIfc (ev ts x) = true) (hQ : Q (.pan (ev ts x)) ts H) : FW P G rd n (.inRegion ops (i :: rest) :: k) ts H Q := by
  intro hk E w tmps hH hT b D cs hrd
  have hk' := hk
  rw [todoOk_cons, Bool.and_eq_true] at hk'
  have hops : ops.all (operOk n) = true := hk'.1
  have hoo : operOk n o = true := (Array.all_eq_true'.1 hops) o (Array.mem_of_getElem? ho)
  simp only [operOk, hop, Op.operands, Bool.and_eq_true] at hoo
  have hxo : opdOk n x = true := by simpa using hoo.2
  have hwt : Region.wanted o (yielded ops tmps) = true := by rw [wanted_eq hops hT]; exact hw
  have hc := rep_ev hT hxo D
  have hst := stepG_frm_op (P := P) (b := b) (tmps := tmps) (rest := rest) (k := k) (D := D) (cs := cs) (w := w) ho hwt (by rw [hop]; rfl)
  have e : (execOp (Act.eval ⟨tmps, D⟩) o).run P w = .halt (.panic (Act.eval ⟨tmps, D⟩ x)) w := by
    generalize ev ts x = a at hc hx
    cases a <;> first | (cases hx; done) | skip
    generalize hv : Act.eval ⟨tmps, D⟩ x = v at hc
    cases hc
    simp only [execOp, hop, Instr.panic, hv]
    rfl
  refine ⟨.pan (ev ts x), ts, H, E, w, tmps, D, .inRegion ops (i :: rest) :: k, hQ, hH, Grow.refl _ _ _, hT, trivial, ⟨fun _ => rfl, .refl w D⟩, _, hc, .one (step_lone_go ?_)⟩
  rw [hst]; simp [stepG.apply, e]
end
end
end Go.Ab

set_option linter.unusedVariables false
set_option linter.unusedSimpArgs false
namespace Go.Ab
section
variable {P : Program} {G : Gl}
theorem step_unwind_markM {b : Frame} (hM : b.mode ≠ .run) {r : Nat} {ds : List Deferred} {cs : List Frame} {w : World} (hr : w.heap[r]? = some (Obj.deferred (some []))) :
    step P (lone { b with defers := markOf r :: ds } cs w) = .next (lone { b with defers := ds } cs { w with heap := w.heap.setIfInBounds r (.deferred none) }) := by
  refine step_lone_go ?_
  have := run_takeDeferred (P := P) (w := w) hr
  cases hmode : b.mode with
  | run => exact absurd hmode hM
  | returning => simp [stepG, unwind, markOf, this, World.putObj, hmode]
  | panicking chain => simp [stepG, unwind, markOf, this, World.putObj, hmode]
theorem unwind_marksM {E : En} {H : List AO} (b : Frame) (hM : b.mode ≠ .run) (ds : List Deferred) (cs : List Frame) : ∀ (rs : List Nat) (w : World), RelH G w E H → rs.Nodup → (∀ r, r ∈ rs → w.heap[r]? = some (Obj.deferred (some []))) →
    ∃ w', Steps P (lone { b with defers := rs.map markOf ++ ds } cs w) (lone { b with defers := ds } cs w') ∧ RelH G w' E H ∧ Mono w E w' E ∧ w'.heap.size = w.heap.size ∧
      (∀ c, c ∉ rs → w'.heap[c]? = w.heap[c]?) ∧ w'.os = w.os ∧ w'.tape = w.tape ∧ w'.output = w.output
  | [], w, h, _, _ => ⟨w, .refl _ _, h, Mono.refl _ _, rfl, fun _ _ => rfl, rfl, rfl, rfl⟩
  | r :: rs, w, h, hn, hd => by
    have hs := rel_set_plain h (hd r (by simp)) (ds' := none)
    rw [List.nodup_cons] at hn
    obtain ⟨w', h1, h2, h3, h4, h5, h6, h7, h8⟩ := unwind_marksM b hM ds cs rs _ hs.1 hn.2 (fun q hq => by
      show (w.heap.setIfInBounds r (.deferred none))[q]? = _
      rw [Array.getElem?_setIfInBounds_ne (fun e => hn.1 (by rw [e]; exact hq))]
      exact hd q (by simp [hq]))
    refine ⟨w', .head (step_unwind_markM hM (hd r (by simp))) h1, h2, hs.2.trans h3, by simpa using h4, fun c hc => ?_, h6, h7, h8⟩
    rw [h5 c (fun hc' => hc (by simp [hc']))]
    show (w.heap.setIfInBounds r (.deferred none))[c]? = _
    rw [Array.getElem?_setIfInBounds_ne (fun e => hc (by simp [e]))]
theorem grow_unwind {E0 E : En} {H0 H : List AO} {w0 w w' : World} {rs : List Nat} (hg : Grow H0 E0 w0 H E w) (h3 : Mono w E w' E) (h4 : w'.heap.size = w.heap.size)
    (h5 : ∀ c, c ∉ rs → w'.heap[c]? = w.heap[c]?) (h6 : w'.os = w.os) (h7 : w'.tape = w.tape) (h8 : w'.output = w.output) (hr : ∀ r, r ∈ rs → w0.heap.size ≤ r) : Grow H0 E0 w0 H E w' :=
  ⟨hg.mono.trans h3, by rw [h4]; exact hg.size, fun c hc hl => by
      rw [h5 c (fun hc' => by have := hr c hc'; omega)]; exact hg.same c hc hl, hg.newfro, hg.newlive, by rw [h6, hg.os], by rw [h7, hg.tape], by rw [h8, hg.output]⟩
theorem leave_step {b : Frame} {tmps : Array Value} {todo : List Item} {D : List Deferred} {cs : List Frame} {w : World} {L : Lv} (hb : b.roundOf = none) (hL : L = .nor ∨ L = .ret) (h6 : AtLeave todo L) :
    Steps P (lone (frm b tmps todo D) cs w) (lone { frm b tmps todo D with mode := .returning } cs w) := by
  rcases hL with rfl | rfl
  · have h6' : todo = [] := h6
    subst h6'; exact .one (step_leave_nor hb)
  · obtain ⟨k, rfl⟩ : ∃ k, todo = .code .ret :: k := h6
    exact .one (step_leave_ret hb)
theorem argTs_rep {w : World} {E : En} {n : Nat} {args : List AV} {vargs : Array Value} (hn : args.length ≤ n) (hA : RepL w E args vargs) : RepT w E n (argTs args) (vargs ++ Array.replicate (n - vargs.size) undef) := by
  refine ⟨by simp [hA.1]; omega, fun i hi => ?_⟩
  unfold argTs
  by_cases hi2 : i < args.length
  · have e : (vargs ++ Array.replicate (n - vargs.size) undef).getD i undef = vargs.getD i undef := by
      rw [Array.getD_eq_getD_getElem?, Array.getD_eq_getD_getElem?, Array.getElem?_append_left (by rw [hA.1]; exact hi2)]
    rw [e]; exact hA.2 i hi2
  · have e : (vargs ++ Array.replicate (n - vargs.size) undef).getD i undef = undef := by
      rw [Array.getD_eq_getD_getElem?, Array.getElem?_append_right (by rw [hA.1]; omega)]
      simp only [Array.getElem?_replicate]
      split <;> rfl
    have e2 : args.getD i .un = .un := by simp [List.getD, List.getElem?_eq_none (Nat.le_of_not_lt hi2)]
    rw [e, e2]
    exact .tup rfl (fun i hi => by simp at hi)
def isRecover : Op → Bool
  | .call ⟨.builtin .recover, as, _⟩ => as.isEmpty
  | _ => false
theorem isRecover_run {o : Oper} (h : isRecover o.op = true) (ρ : Operand → Value) (w : World) : (execOp ρ o).run P w = .ok .recover w := by
  unfold isRecover at h
  split at h
  · rename_i as tys ho
    simp only [execOp, ho, resolve, pure_bind, invoke, builtin]
    rfl
  · cases h
theorem isRecover_defer {op : Op} (h : isRecover op = true) : isDefer op = false := by
  unfold isRecover at h
  split at h
  · rfl
  · cases h
def StopAt (n : Nat) (ts : Nat → AV) (t : List Item) (o : Oper) (t' : List Item) : Prop := ∃ ops i rest k, t = .inRegion ops (i :: rest) :: k ∧ ops[i]? = some o ∧ wantedA ops ts o = true ∧ t' = .inRegion ops rest :: k ∧ todoOk n t = true
def DAft (P : Program) (G : Gl) (rs : Array ResultVar) (K : List AO → Prop) : Lv → (Nat → AV) → List AO → Prop :=
  fun L ts H => (L = .nor ∨ L = .ret) ∧ (∃ u, resA P G rs ts H = some u) ∧ K H
def DBef (P : Program) (G : Gl) (rs : Array ResultVar) (n : Nat) (pv : Option AV) (K : Bool → List AO → Prop) : Lv → (Nat → AV) → List AO → Prop :=
  fun L ts H => DAft P G rs (K false) L ts H ∨
    ∃ t o t', L = .stop t ∧ StopAt n ts t o t' ∧ isRecover o.op = true ∧ FW P G none n t' (put ts o.dst (pv.getD (.c .nilIface))) H (DAft P G rs (K pv.isSome))
theorem StopAt.ok {n : Nat} {ts : Nat → AV} {t t' : List Item} {o : Oper} (h : StopAt n ts t o t') : todoOk n t' = true := by
  obtain ⟨ops, i, rest, k, rfl, ho, hw, rfl, hk⟩ := h
  rw [todoOk_cons, Bool.and_eq_true] at hk ⊢
  exact ⟨hk.1, hk.2⟩
theorem FW.stop {rd : Option Nat} {n : Nat} {todo : List Item} {ts : Nat → AV} {H : List AO} {Q : Lv → (Nat → AV) → List AO → Prop} (hs : ∃ ops i rest k, todo = .inRegion ops (i :: rest) :: k) (hQ : todoOk n todo = true → Q (.stop todo) ts H) : FW P G rd n todo ts H Q := by
  intro hk
  exact FW.leave (P := P) (G := G) (rd := rd) (n := n) (.stop todo) ⟨rfl, hs⟩ trivial (hQ hk) hk
theorem step_recover {b : Frame} {n : Nat} {ts : Nat → AV} {E : En} {tmps : Array Value} {t t' : List Item} {o : Oper} {D : List Deferred} {c : Frame} {cs : List Frame} {w : World} (hb : b.roundOf = none) (hkd : b.kind = .deferred)
    (hT : RepT w E n ts tmps) (hs : StopAt n ts t o t') (hr : isRecover o.op = true) :
    (∀ v, c.mode = .panicking [{ v := v, recovered := false }] → step P (lone (frm b tmps t D) (c :: cs) w) = .next (lone (frm b (cput tmps o.dst v) t' D) ({ c with mode := .panicking [{ v := v, recovered := true }] } :: cs) w)) ∧
    (c.mode = .returning → step P (lone (frm b tmps t D) (c :: cs) w) = .next (lone (frm b (cput tmps o.dst .nilIface) t' D) (c :: cs) w)) := by
  obtain ⟨ops, i, rest, k, rfl, ho, hw, rfl, hk⟩ := hs
  rw [todoOk_cons, Bool.and_eq_true] at hk
  have hops : ops.all (operOk n) = true := hk.1
  have hwt : Region.wanted o (yielded ops tmps) = true := by rw [wanted_eq hops hT]; exact hw
  have hst := stepG_frm_op (P := P) (b := b) (tmps := tmps) (rest := rest) (k := k) (D := D) (cs := c :: cs) (w := w) ho hwt (isRecover_defer hr)
  have hrun := isRecover_run (P := P) hr (Act.eval ⟨tmps, D⟩) w
  have htr := tryRecover_deferred (fr := frm b tmps (.inRegion ops (i :: rest) :: k) D) hkd (c :: cs)
  constructor
  · intro v hm
    refine step_lone_go ?_
    rw [hst, ← finish_frm b tmps ops i rest k D v o ho]
    have hro : (frm b tmps (.inRegion ops (i :: rest) :: k) D).roundOf = none := hb
    simp only [recoverD, hm] at htr
    simp [stepG.apply, hrun, hro, htr]
  · intro hm
    refine step_lone_go ?_
    rw [hst, ← finish_frm b tmps ops i rest k D .nilIface o ho]
    have hro : (frm b tmps (.inRegion ops (i :: rest) :: k) D).roundOf = none := hb
    simp only [recoverD, hm] at htr
    simp [stepG.apply, hrun, hro, htr]
theorem dend {f : FuncId} {fn : Func} (hf : P.funcs[f]? = some fn) (hro : resOk fn.ntmps fn.results = true) {b : Frame} (hbf : b.fn = f) (hbr : b.roundOf = none) (hbk : b.kind = .deferred)
    {L : Lv} {ts : Nat → AV} {H : List AO} {E : En} {w : World} {tmps : Array Value} {rs : List Nat} {todo : List Item} {c : Frame} {cs : List Frame}
    (hL : L = .nor ∨ L = .ret) {u : AV} (hu : resA P G fn.results ts H = some u) (h2 : RelH G w E H) (h4 : RepT w E fn.ntmps ts tmps) (h6 : AtLeave todo L) (hnd : rs.Nodup) (hdd : ∀ r, r ∈ rs → w.heap[r]? = some (Obj.deferred (some []))) :
    ∃ w2, Steps P (lone (frm b tmps todo (rs.map markOf)) (c :: cs) w) (lone { c with mode := settle c.mode } cs w2) ∧ RelH G w2 E H ∧ Mono w E w2 E ∧ w2.heap.size = w.heap.size ∧
      (∀ c, c ∉ rs → w2.heap[c]? = w.heap[c]?) ∧ w2.os = w.os ∧ w2.tape = w.tape ∧ w2.output = w.output := by
  have hret := leave_step (P := P) (tmps := tmps) (D := rs.map markOf) (cs := c :: cs) (w := w) hbr hL h6
  obtain ⟨w2, g1, g2, g3, g4, g5, g6, g7, g8⟩ := unwind_marksM (P := P) { frm b tmps todo [] with mode := .returning } (by simp) [] (c :: cs) rs w h2 hnd hdd
  obtain ⟨x, hx, hrx⟩ := resA_run (P := P) g2 (h4.mono g3) hro hu
  refine ⟨w2, hret.trans ((?_ : Steps P _ _).trans (.one (step_going_returned (P := P) (fr := { frm b tmps todo [] with mode := .returning }) (v := x) hbk ⟨rfl, rfl, fn, by rw [← hf]; show P.funcs[b.fn]? = _; rw [hbf], hx⟩))), g2, g3, g4, g5, g6, g7, g8⟩
  simpa [frm] using g1
theorem ACD.of_body {f : FuncId} {fn : Func} {c : Code} (hf : P.funcs[f]? = some fn) (hb : fn.body = some c) (hnm : (fn.name == "runtime.NumGoroutine") = false) (hok : codeOk fn.ntmps c = true)
    (hro : resOk fn.ntmps fn.results = true) {args : List AV} (hn : args.length ≤ fn.ntmps) {H : List AO} {pv : Option AV} {K : Bool → List AO → Prop}
    (h : FW P G none fn.ntmps [.code c] (argTs args) H (DBef P G fn.results fn.ntmps pv K)) : ACD P G f args H pv K := by
  refine ⟨⟨fn, hf, by simp [hb], hnm⟩, fun E w vargs hH hA cf cs pr hm => ?_⟩
  have hT := argTs_rep (n := fn.ntmps) hn hA
  let b : Frame := { (default : Frame) with fn := f, kind := .deferred }
  have henter : Frame.enter P f vargs .deferred = frm b (vargs ++ Array.replicate (fn.ntmps - vargs.size) undef) [.code c] [] := by
    simp [Frame.enter, frm, hf, hb, b]; rfl
  obtain ⟨L, ts', H', E', w', tmps', D', todo', hQ, h2, h3, h4, h6, ⟨_, rs, hD', hnd, hrs0⟩, h8⟩ :=
    h (by simpa [todoOk_cons, itemOk, todoOk] using hok) E w _ hH hT b [] (cf :: cs) ⟨rfl, by simp [b]⟩
  rw [List.append_nil] at hD'
  subst hD'
  have hdd := fun r hr => (hrs0 r hr).2
  have hrs := fun r hr => (hrs0 r hr).1
  rcases hQ with ⟨hL, ⟨u, hu⟩, hK⟩ | ⟨t, o, t', rfl, hst, hre, hF⟩
  · replace h8 := h8.steps P (by rcases hL with rfl | rfl <;> intro v hv <;> cases hv)
    obtain ⟨w2, g1, g2, g3, g4, g5, g6, g7, g8⟩ := dend (P := P) (c := cf) (cs := cs) hf hro (b := b) rfl rfl rfl hL hu h2 h4 h6 hnd hdd
    refine ⟨false, H', E', w2, hK, g2, grow_unwind h3 g3 g4 g5 g6 g7 g8 hrs, ?_⟩
    rw [henter]
    have hset : settle cf.mode = cf.mode := by
      cases pv with
      | none => rw [hm]; rfl
      | some a => rw [hm.1]; rfl
    rw [hset] at g1
    exact h8.trans g1
  · have h6' : todo' = t := h6.1
    subst h6'
    replace h8 : Steps P _ (lone (frm b tmps' todo' (rs.map markOf)) (cf :: cs) w') := h8
    have hsr := step_recover (P := P) (D := rs.map markOf) (c := cf) (cs := cs) (b := b) rfl rfl h4 hst hre
    obtain ⟨c1, v1, hv1, hc1, hone⟩ : ∃ (c1 : Frame) (v1 : Value), RepV w' E' (pv.getD (.c .nilIface)) v1 ∧ (c1.mode = (match pv with | none => .returning | some _ => .panicking [{ v := pr, recovered := true }]) ∧ { c1 with mode := .returning } = { cf with mode := .returning }) ∧
        step P (lone (frm b tmps' todo' (rs.map markOf)) (cf :: cs) w') = .next (lone (frm b (cput tmps' o.dst v1) t' (rs.map markOf)) (c1 :: cs) w') := by
      cases pv with
      | none => exact ⟨cf, .nilIface, .c rfl, ⟨hm, rfl⟩, hsr.2 hm⟩
      | some a => exact ⟨{ cf with mode := .panicking [{ v := pr, recovered := true }] }, pr, hm.2.mono h3.mono, ⟨rfl, rfl⟩, hsr.1 pr hm.1⟩
    obtain ⟨L, ts2, H2, E2, w2, tmps2, D2, todo2, ⟨hL, ⟨u, hu⟩, hK⟩, k2, k3, k4, k6, ⟨_, rs2, hD2, hnd2, hrs2⟩, k8⟩ :=
      hF hst.ok E' w' _ h2 (h4.put hv1 o.dst) b (rs.map markOf) (c1 :: cs) ⟨rfl, by simp [b]⟩
    rw [← List.map_append] at hD2
    subst hD2
    replace k8 := k8.steps P (by rcases hL with rfl | rfl <;> intro v hv <;> cases hv)
    have hmem : ∀ r, r ∈ rs2 ++ rs → w2.heap[r]? = some (Obj.deferred (some [])) := fun r hr => by
      rcases List.mem_append.1 hr with h | h
      · exact (hrs2 r h).2
      · rw [k3.same r (heap_lt (hdd r h)) (h2.not_live_def (hdd r h))]; exact hdd r h
    have hnd3 : (rs2 ++ rs).Nodup := by
      rw [List.nodup_append]
      refine ⟨hnd2, hnd, fun a ha b hb e => ?_⟩
      subst e
      have := (hrs2 a ha).1
      have := heap_lt (hdd a hb)
      omega
    obtain ⟨w3, g1, g2, g3, g4, g5, g6, g7, g8⟩ := dend (P := P) (c := c1) (cs := cs) hf hro (b := b) rfl rfl rfl hL hu k2 k4 k6 hnd3 hmem
    refine ⟨pv.isSome, H2, E2, w3, hK, g2, grow_unwind (h3.trans k3) g3 g4 g5 g6 g7 g8 (fun r hr => ?_), ?_⟩
    · rcases List.mem_append.1 hr with h | h
      · exact Nat.le_trans h3.size (hrs2 r h).1
      · exact hrs r h
    · rw [henter]
      have e : ({ c1 with mode := settle c1.mode } : Frame) = { cf with mode := (match pv.isSome with | true => .returning | false => cf.mode) } := by
        cases pv with
        | none =>
          have h1 : c1.mode = .returning := hc1.1
          have h2 : cf.mode = .returning := hm
          rw [h1]
          refine Eq.trans hc1.2 ?_
          show ({ cf with mode := .returning } : Frame) = cf
          rw [← h2]
        | some a =>
          have h1 : c1.mode = .panicking [{ v := pr, recovered := true }] := hc1.1
          rw [h1]
          exact hc1.2
      rw [e] at g1
      exact h8.trans (.head hone (k8.trans g1))
end
end Go.Ab

set_option linter.unusedVariables false
set_option linter.unusedSimpArgs false
namespace Go.Ab
section
variable (P : Program) (G : Gl)
def PQ (rs : Array ResultVar) (K Kp : AV → List AO → Prop) : Lv → (Nat → AV) → List AO → Prop := fun L ts H =>
  ((L = .nor ∨ L = .ret) ∧ ∃ v, resA P G rs ts H = some v ∧ K v H) ∨ ∃ v, L = .pan v ∧ Kp v H
def DQ (rs : Array ResultVar) (g : FuncId) (as : List AV) (K Kp : AV → List AO → Prop) : Lv → (Nat → AV) → List AO → Prop := fun L ts H =>
  ((L = .nor ∨ L = .ret) ∧ ACD P G g as H none fun _ H' => ∃ v, resA P G rs ts H' = some v ∧ K v H') ∨
  ∃ pv, L = .pan pv ∧ ACD P G g as H (some pv) fun b H' => match b with
    | true => ∃ v, resA P G rs ts H' = some v ∧ K v H'
    | false => Kp pv H'
def BQ (rs : Array ResultVar) (n : Nat) (K Kp : AV → List AO → Prop) : Lv → (Nat → AV) → List AO → Prop := fun L ts H => PQ P G rs K Kp L ts H ∨
  ∃ t o t' f args tys g first caps, L = .stop t ∧ StopAt n ts t o t' ∧ o.op = .defer { callee := .value f, args := args, argTypes := tys } ∧ ev ts f = .fn g first caps ∧
    FW P G none n t' (put ts o.dst .un) H (DQ P G rs g (first ++ (args.toList.map (ev ts) ++ caps)) K Kp)
end
section
variable {P : Program} {G : Gl}
theorem step_deferOp {b : Frame} {n : Nat} {ts : Nat → AV} {tmps : Array Value} {E : En} {t t' : List Item} {o : Oper} {D : List Deferred} {cs : List Frame} {w : World} (hb : b.roundOf = none)
    (hT : RepT w E n ts tmps) (hs : StopAt n ts t o t') {f : Operand} {args : Array Operand} {tys : Array TypeId} (hop : o.op = .defer { callee := .value f, args := args, argTypes := tys }) {g : FuncId} {first caps : List AV} (hf : ev ts f = .fn g first caps) :
    ∃ (vs us va : Array Value), RepL w E first vs ∧ RepL w E caps us ∧ RepL w E (args.toList.map (ev ts)) va ∧
      step P (lone (frm b tmps t D) cs w) = .next (lone (frm b (cput tmps o.dst undef) t' ({ target := .fn (.func g) us, args := vs ++ va } :: D)) cs w) := by
  obtain ⟨ops, i, rest, k, rfl, ho, hw, rfl, hk⟩ := hs
  rw [todoOk_cons, Bool.and_eq_true] at hk
  have hops : ops.all (operOk n) = true := hk.1
  have hoo : operOk n o = true := (Array.all_eq_true'.1 hops) o (Array.mem_of_getElem? ho)
  simp only [operOk, hop, Op.operands, Call.operands, Bool.and_eq_true, Array.all_append] at hoo
  have hfo : opdOk n f = true := by simpa using hoo.2.1
  have hwt : Region.wanted o (yielded ops tmps) = true := by rw [wanted_eq hops hT]; exact hw
  have hc := rep_ev hT hfo D
  rw [hf] at hc
  have hA := repL_map hT hoo.2.2 D
  have e : execOp (Act.eval ⟨tmps, D⟩) o = (do pure (.defer (← Deferred.ofValue (Act.eval ⟨tmps, D⟩ f) (args.map (Act.eval ⟨tmps, D⟩))))) := by
    simp [execOp, hop, resolve]
  generalize Act.eval ⟨tmps, D⟩ f = fv at hc e
  cases hc
  rename_i vs us' hl1 h1 hl2 h2
  refine ⟨vs, us', args.map (Act.eval ⟨tmps, D⟩), ⟨hl1, h1⟩, ⟨hl2, h2⟩, hA, ?_⟩
  have hrun : (execOp (Act.eval ⟨tmps, D⟩) o).run P w = .ok (.defer { target := .fn (.func g) us', args := vs ++ args.map (Act.eval ⟨tmps, D⟩) }) w := by
    rw [e]; rfl
  have he : (frm b tmps (.inRegion ops (i :: rest) :: k) D).eval = Act.eval ⟨tmps, D⟩ := funext (frm_eval b tmps _ D)
  refine step_lone_go ?_
  rw [← finish_frm b tmps ops i rest k _ undef o ho]
  simp only [frm, hb] at he ⊢
  simp only [stepG, stepG.exec, ho, Option.map_some, Option.getD_some, hwt, if_true, stepG.oper, Frame.oper?, he]
  simp [stepG.apply, hrun]
theorem pend {f : FuncId} {fn : Func} (hf : P.funcs[f]? = some fn) {b : Frame} (hbf : b.fn = f) {E : En} {H : List AO} {w : World} {tmps : Array Value} {todo : List Item} {M : FrameMode} (hM : M ≠ .run) (ds : List Deferred) {rs : List Nat} (cs : List Frame)
    (h2 : RelH G w E H) (hnd : rs.Nodup) (hdd : ∀ r, r ∈ rs → w.heap[r]? = some (Obj.deferred (some []))) :
    ∃ w2, Steps P (lone { frm b tmps todo (rs.map markOf ++ ds) with mode := M } cs w) (lone { frm b tmps todo ds with mode := M } cs w2) ∧ RelH G w2 E H ∧ Mono w E w2 E ∧ w2.heap.size = w.heap.size ∧
      (∀ c, c ∉ rs → w2.heap[c]? = w.heap[c]?) ∧ w2.os = w.os ∧ w2.tape = w.tape ∧ w2.output = w.output := by
  have := unwind_marksM (P := P) { frm b tmps todo [] with mode := M } hM ds cs rs w h2 hnd hdd
  simpa [frm] using this
theorem ACP.of_body {f : FuncId} {fn : Func} {c : Code} (hf : P.funcs[f]? = some fn) (hb : fn.body = some c) (hnm : (fn.name == "runtime.NumGoroutine") = false) (hok : codeOk fn.ntmps c = true)
    (hro : resOk fn.ntmps fn.results = true) {args : List AV} (hn : args.length ≤ fn.ntmps) {H : List AO} {K Kp : AV → List AO → Prop}
    (h : FW P G none fn.ntmps [.code c] (argTs args) H (BQ P G fn.results fn.ntmps K Kp)) : ACP P G f args H K Kp := by
  refine ⟨⟨fn, hf, by simp [hb], hnm⟩, fun E w vargs hH hA cs => ?_⟩
  have hT := argTs_rep (n := fn.ntmps) hn hA
  let b : Frame := { (default : Frame) with fn := f, kind := .normal }
  have henter : Frame.enter P f vargs .normal = frm b (vargs ++ Array.replicate (fn.ntmps - vargs.size) undef) [.code c] [] := by
    simp [Frame.enter, frm, hf, hb, b]; rfl
  obtain ⟨L, ts', H', E', w', tmps', D', todo', hQ, h2, h3, h4, h6, ⟨_, rs, hD', hnd, hrs0⟩, h8⟩ :=
    h (by simpa [todoOk_cons, itemOk, todoOk] using hok) E w _ hH hT b [] cs ⟨rfl, by simp [b]⟩
  have hdd := fun r hr => (hrs0 r hr).2
  have hrs := fun r hr => (hrs0 r hr).1
  have fin : ∀ {H1 : List AO} {E1 : En} {w1 : World} {rs1 : List Nat} {ts1 : Nat → AV} {tmps1 : Array Value} {todo1 : List Item} {M : FrameMode} (hM : M ≠ .run), RelH G w1 E1 H1 → Grow H E w H1 E1 w1 → RepT w1 E1 fn.ntmps ts1 tmps1 → rs1.Nodup →
      (∀ r, r ∈ rs1 → w.heap.size ≤ r ∧ w1.heap[r]? = some (Obj.deferred (some []))) →
      (((∃ v, resA P G fn.results ts1 H1 = some v ∧ K v H1) ∧ M = .returning) ∨ ∃ v r, Kp v H1 ∧ RepV w1 E1 v r ∧ M = .panicking [{ v := r, recovered := false }]) →
      Steps P (lone (Frame.enter P f vargs .normal) cs w) (lone { frm b tmps1 todo1 (rs1.map markOf) with mode := M } cs w1) →
      ∃ v H' E' w', RelH G w' E' H' ∧ Grow H E w H' E' w' ∧ ∃ (r : Value) (fr : Frame), RepV w' E' v r ∧ Steps P (lone (Frame.enter P f vargs .normal) cs w) (lone fr cs w') ∧ fr.fn = f ∧
        ((K v H' ∧ fr.leaving P w' (.returned r)) ∨ (Kp v H' ∧ fr.leaving P w' (.panicked [{ v := r, recovered := false }]))) := by
    intro H1 E1 w1 rs1 ts1 tmps1 todo1 M hM p2 p3 p4 pnd prs hcase hst
    obtain ⟨w2, g1, g2, g3, g4, g5, g6, g7, g8⟩ := pend (P := P) (b := b) (tmps := tmps1) (todo := todo1) hf rfl hM [] cs p2 pnd (fun r hr => (prs r hr).2)
    simp only [List.append_nil] at g1
    have hG := grow_unwind p3 g3 g4 g5 g6 g7 g8 (fun r hr => (prs r hr).1)
    rcases hcase with ⟨⟨v, hv, hK⟩, rfl⟩ | ⟨v, r, hK, hr, rfl⟩
    · obtain ⟨x, hx, hrx⟩ := resA_run (P := P) g2 (p4.mono g3) hro hv
      exact ⟨v, H1, E1, w2, g2, hG, x, _, hrx, hst.trans g1, rfl, .inl ⟨hK, rfl, rfl, rfl, fn, hf, hx⟩⟩
    · exact ⟨v, H1, E1, w2, g2, hG, r, _, hr.mono g3, hst.trans g1, rfl, .inr ⟨hK, rfl, rfl, fn, hf⟩⟩
  rw [List.append_nil] at hD'
  subst hD'
  rcases hQ with (⟨hL, hv⟩ | ⟨v, rfl, hK⟩) | ⟨t, o, t', fo, as, tys, g, first, caps, rfl, hst, hop, hfe, hF⟩
  · replace h8 := h8.steps P (by rcases hL with rfl | rfl <;> intro v hv <;> cases hv)
    refine fin (M := .returning) (todo1 := todo') (by simp) h2 h3 h4 hnd hrs0 (.inl ⟨hv, rfl⟩) ?_
    rw [henter]
    exact h8.trans (leave_step (P := P) rfl hL h6)
  · obtain ⟨r, hr, h8⟩ := h8
    refine fin (M := .panicking [{ v := r, recovered := false }]) (todo1 := todo') (by simp) h2 h3 h4 hnd hrs0 (.inr ⟨v, r, hK, hr, rfl⟩) ?_
    rw [henter]
    exact h8
  · have h6' : todo' = t := h6.1
    subst h6'
    replace h8 : Steps P _ (lone (frm b tmps' todo' (rs.map markOf)) cs w') := h8
    obtain ⟨vs, us, va, r1, r2, r3, hone⟩ := step_deferOp (P := P) (b := b) (D := rs.map markOf) (cs := cs) rfl h4 hst hop hfe
    obtain ⟨L, ts2, H2, E2, w2, tmps2, D2, todo2, hQ2, k2, k3, k4, k6, ⟨_, rs2, hD2, hnd2, hrs2⟩, k8⟩ :=
      hF hst.ok E' w' _ h2 (h4.put (v := .un) (r := undef) (.tup (by rfl) (fun i hi => by simp at hi)) o.dst) b ({ target := .fn (.func g) us, args := vs ++ va } :: rs.map markOf) cs ⟨rfl, by simp [b]⟩
    subst hD2
    have hargs : RepL w2 E2 (first ++ (as.toList.map (ev ts') ++ caps)) (vs ++ (va ++ us)) := RepL.append (r1.mono k3.mono) ((r3.mono k3.mono).append (r2.mono k3.mono))
    have mid : ∀ {M : FrameMode} {pv : Option AV} {pr : Value} {K2 : Bool → List AO → Prop} (hM : M ≠ .run), ACD P G g (first ++ (as.toList.map (ev ts') ++ caps)) H2 pv K2 →
        (match pv with
          | none => M = .returning
          | some a => M = .panicking [{ v := pr, recovered := false }] ∧ RepV w2 E2 a pr) →
        Steps P (lone (frm b (cput tmps' o.dst undef) t' ({ target := .fn (.func g) us, args := vs ++ va } :: rs.map markOf)) cs w') (lone { frm b tmps2 todo2 (rs2.map markOf ++ { target := .fn (.func g) us, args := vs ++ va } :: rs.map markOf) with mode := M } cs w2) →
        ∃ bb H3 E3 w3, K2 bb H3 ∧ RelH G w3 E3 H3 ∧ Grow H E w H3 E3 w3 ∧ Mono w2 E2 w3 E3 ∧ (∀ r, r ∈ rs → w3.heap[r]? = some (Obj.deferred (some []))) ∧
          Steps P (lone (Frame.enter P f vargs .normal) cs w) (lone { frm b tmps2 todo2 (rs.map markOf) with mode := (match bb with | true => .returning | false => M) } cs w3) := by
      intro M pv pr K2 hM hD hm hs2
      obtain ⟨w3, g1, g2, g3, g4, g5, g6, g7, g8⟩ := pend (P := P) (b := b) (tmps := tmps2) (todo := todo2) hf rfl hM ({ target := .fn (.func g) us, args := vs ++ va } :: rs.map markOf) cs k2 hnd2 (fun r hr => (hrs2 r hr).2)
      have hG3 := grow_unwind k3 g3 g4 g5 g6 g7 g8 (fun r hr => (hrs2 r hr).1)
      obtain ⟨hcal, hD⟩ := hD
      obtain ⟨bb, H4, E4, w4, q1, q2, q3, q4⟩ := hD E2 w3 (vs ++ (va ++ us)) g2 (hargs.mono g3) { frm b tmps2 todo2 (rs.map markOf) with mode := M } cs pr (by
        cases pv with
        | none => exact hm
        | some a => exact ⟨hm.1, hm.2.mono g3⟩)
      have hdef := step_defer (P := P) (fr := { frm b tmps2 todo2 ({ target := .fn (.func g) us, args := vs ++ va } :: rs.map markOf) with mode := M }) (cs := cs) (w := w3) (d := { target := .fn (.func g) us, args := vs ++ va }) (ds := rs.map markOf) (fv := .func g) (cap := us) (f := g) (args := vs ++ (va ++ us)) hM rfl rfl (by
        simp only [invoke]
        rw [run_callFunc hcal, Array.append_assoc])
      refine ⟨bb, H4, E4, w4, q1, q2, (h3.trans hG3).trans q3, g3.trans q3.mono, fun r hr => ?_, ?_⟩
      · have a1 : w3.heap[r]? = some (Obj.deferred (some [])) := by
          rw [hG3.same r (heap_lt (hdd r hr)) (h2.not_live_def (hdd r hr))]; exact hdd r hr
        rw [q3.same r (heap_lt a1) (g2.not_live_def a1)]; exact a1
      · rw [henter]
        exact h8.trans (.head hone (hs2.trans (g1.trans (.head hdef q4))))
    rcases hQ2 with ⟨hL, hD⟩ | ⟨pv, rfl, hD⟩
    · replace k8 := k8.steps P (by rcases hL with rfl | rfl <;> intro v hv <;> cases hv)
      obtain ⟨bb, H3, E3, w3, q1, q2, q3, q4, q5, q6⟩ := mid (M := .returning) (pr := undef) (by simp) hD rfl (k8.trans (leave_step (P := P) rfl hL k6))
      refine fin (M := .returning) (todo1 := todo2) (by simp) q2 q3 (k4.mono q4) hnd (fun r hr => ⟨hrs r hr, q5 r hr⟩) (.inl ⟨q1, rfl⟩) ?_
      cases bb <;> exact q6
    · obtain ⟨r, hr, k8⟩ := k8
      obtain ⟨bb, H3, E3, w3, q1, q2, q3, q4, q5, q6⟩ := mid (M := .panicking [{ v := r, recovered := false }]) (pr := r) (by simp) hD ⟨rfl, hr⟩ k8
      cases bb with
      | true => exact fin (M := .returning) (todo1 := todo2) (by simp) q2 q3 (k4.mono q4) hnd (fun r hr => ⟨hrs r hr, q5 r hr⟩) (.inl ⟨q1, rfl⟩) q6
      | false => exact fin (M := .panicking [{ v := r, recovered := false }]) (todo1 := todo2) (by simp) q2 q3 (k4.mono q4) hnd (fun r hr => ⟨hrs r hr, q5 r hr⟩) (.inr ⟨pv, r, q1, hr.mono q4, rfl⟩) q6
end
end Go.Ab
