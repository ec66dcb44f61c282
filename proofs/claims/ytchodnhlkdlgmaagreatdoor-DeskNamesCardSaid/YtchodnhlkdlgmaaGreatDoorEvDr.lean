/-
  A function's body, which may panic, or defer a call.
-/
import Derived.Test.YtchodnhlkdlgmaaGreatDoorEvDq
set_option linter.unusedVariables false
set_option linter.unusedSimpArgs false
namespace Go.Ab
section
variable (P : Program) (G : Gl)
/-- A frame without deferred calls is left. -/
def PQ (rs : Array ResultVar) (K Kp : AV → List AO → Prop) : Lv → (Nat → AV) → List AO → Prop := fun L ts H =>
  ((L = .nor ∨ L = .ret) ∧ ∃ v, resA P G rs ts H = some v ∧ K v H) ∨ ∃ v, L = .pan v ∧ Kp v H
/-- A frame with one deferred call is left. -/
def DQ (rs : Array ResultVar) (g : FuncId) (as : List AV) (K Kp : AV → List AO → Prop) : Lv → (Nat → AV) → List AO → Prop := fun L ts H =>
  ((L = .nor ∨ L = .ret) ∧ ACD P G g as H none fun _ H' => ∃ v, resA P G rs ts H' = some v ∧ K v H') ∨
  ∃ pv, L = .pan pv ∧ ACD P G g as H (some pv) fun b H' => match b with
    | true => ∃ v, resA P G rs ts H' = some v ∧ K v H'
    | false => Kp pv H'
/-- A frame without deferred calls is left, or defers one. -/
def BQ (rs : Array ResultVar) (n : Nat) (K Kp : AV → List AO → Prop) : Lv → (Nat → AV) → List AO → Prop := fun L ts H => PQ P G rs K Kp L ts H ∨
  ∃ t o t' f args tys g first caps, L = .stop t ∧ StopAt n ts t o t' ∧ o.op = .defer { callee := .value f, args := args, argTypes := tys } ∧ ev ts f = .fn g first caps ∧
    FW P G none n t' (put ts o.dst .un) H (DQ P G rs g (first ++ (args.toList.map (ev ts) ++ caps)) K Kp)
end

section
variable {P : Program} {G : Gl}

theorem step_deferOp {b : Frame} {n : Nat} {ts : Nat → AV} {tmps : Array Value} {E : En} {t t' : List Item} {o : Oper} {D : List Deferred} {cs : List Frame} {w : World} (hb : b.roundOf = none)
    (hT : RepT w E n ts tmps) (hs : StopAt n ts t o t') {f : Operand} {args : Array Operand} {tys : Array TypeId} (hop : o.op = .defer { callee := .value f, args := args, argTypes := tys }) {g : FuncId} {first caps : List AV} (hf : ev ts f = .fn g first caps) :
    ∃ (vs us va : Array Value), RepL w E first vs ∧ RepL w E caps us ∧ RepL w E (args.toList.map (ev ts)) va ∧
      step P (lone (frm b tmps t D) cs w) = .next (lone (frm b (cput tmps o.dst undef) t' ({ target := .fn (.func g) us, args := vs ++ va } :: D)) cs w) := by
  obtain ⟨ops, i, rest, k, rfl, ho, hw, rfl, hk⟩ := hs
  rw [todoOk_cons, Bool.and_eq_true] at hk
  have hops : ops.all (operOk n) = true := hk.1
  have hoo : operOk n o = true := (Array.all_eq_true'.1 hops) o (Array.mem_of_getElem? ho)
  simp only [operOk, hop, Op.operands, Call.operands, Bool.and_eq_true, Array.all_append] at hoo
  have hfo : opdOk n f = true := by simpa using hoo.2.1
  have hwt : Region.wanted o (yielded ops tmps) = true := by rw [wanted_eq hops hT]; exact hw
  have hc := rep_ev hT hfo D
  rw [hf] at hc
  have hA := repL_map hT hoo.2.2 D
  have e : execOp (Act.eval ⟨tmps, D⟩) o = (do pure (.defer (← Deferred.ofValue (Act.eval ⟨tmps, D⟩ f) (args.map (Act.eval ⟨tmps, D⟩))))) := by
    simp [execOp, hop, resolve]
  generalize Act.eval ⟨tmps, D⟩ f = fv at hc e
  cases hc
  rename_i vs us' hl1 h1 hl2 h2
  refine ⟨vs, us', args.map (Act.eval ⟨tmps, D⟩), ⟨hl1, h1⟩, ⟨hl2, h2⟩, hA, ?_⟩
  have hrun : (execOp (Act.eval ⟨tmps, D⟩) o).run P w = .ok (.defer { target := .fn (.func g) us', args := vs ++ args.map (Act.eval ⟨tmps, D⟩) }) w := by
    rw [e]; rfl
  have he : (frm b tmps (.inRegion ops (i :: rest) :: k) D).eval = Act.eval ⟨tmps, D⟩ := funext (frm_eval b tmps _ D)
  refine step_lone_go ?_
  rw [← finish_frm b tmps ops i rest k _ undef o ho]
  simp only [frm, hb] at he ⊢
  simp only [stepG, stepG.exec, ho, Option.map_some, Option.getD_some, hwt, if_true, stepG.oper, Frame.oper?, he]
  simp [stepG.apply, hrun]

theorem RepL.toMono {w w' : World} {E E' : En} (hm : Mono w E w' E') {l : List AV} {vs : Array Value} (h : RepL w E l vs) : RepL w' E' l vs := h.mono hm

/-- The end of a function's frame: the marks. -/
theorem pend {f : FuncId} {fn : Func} (hf : P.funcs[f]? = some fn) {b : Frame} (hbf : b.fn = f) {E : En} {H : List AO} {w : World} {tmps : Array Value} {todo : List Item} {M : FrameMode} (hM : M ≠ .run) (ds : List Deferred) {rs : List Nat} (cs : List Frame)
    (h2 : RelH G w E H) (hnd : rs.Nodup) (hdd : ∀ r, r ∈ rs → w.heap[r]? = some (Obj.deferred (some []))) :
    ∃ w2, Steps P (lone { frm b tmps todo (rs.map markOf ++ ds) with mode := M } cs w) (lone { frm b tmps todo ds with mode := M } cs w2) ∧ RelH G w2 E H ∧ Mono w E w2 E ∧ w2.heap.size = w.heap.size ∧
      (∀ c, c ∉ rs → w2.heap[c]? = w.heap[c]?) ∧ w2.os = w.os ∧ w2.tape = w.tape ∧ w2.output = w.output := by
  have := unwind_marksM (P := P) { frm b tmps todo [] with mode := M } hM ds cs rs w h2 hnd hdd
  simpa [frm] using this

theorem ACP.of_body {f : FuncId} {fn : Func} {c : Code} (hf : P.funcs[f]? = some fn) (hb : fn.body = some c) (hnm : (fn.name == "runtime.NumGoroutine") = false) (hok : codeOk fn.ntmps c = true)
    (hro : resOk fn.ntmps fn.results = true) {args : List AV} (hn : args.length ≤ fn.ntmps) {H : List AO} {K Kp : AV → List AO → Prop}
    (h : FW P G none fn.ntmps [.code c] (argTs args) H (BQ P G fn.results fn.ntmps K Kp)) : ACP P G f args H K Kp := by
  refine ⟨⟨fn, hf, by simp [hb], hnm⟩, fun E w vargs hH hA cs => ?_⟩
  have hT := argTs_rep (n := fn.ntmps) hn hA
  let b : Frame := { (default : Frame) with fn := f, kind := .normal }
  have henter : Frame.enter P f vargs .normal = frm b (vargs ++ Array.replicate (fn.ntmps - vargs.size) undef) [.code c] [] := by
    simp [Frame.enter, frm, hf, hb, b]; rfl
  obtain ⟨L, ts', H', E', w', tmps', D', todo', hQ, h2, h3, h4, h6, ⟨_, rs, hD', hnd, hrs0⟩, h8⟩ :=
    h (by simpa [todoOk_cons, itemOk, todoOk] using hok) E w _ hH hT b [] cs ⟨rfl, by simp [b]⟩
  have hdd := fun r hr => (hrs0 r hr).2
  have hrs := fun r hr => (hrs0 r hr).1
  -- the end, with a mode
  have fin : ∀ {H1 : List AO} {E1 : En} {w1 : World} {rs1 : List Nat} {ts1 : Nat → AV} {tmps1 : Array Value} {todo1 : List Item} {M : FrameMode} (hM : M ≠ .run), RelH G w1 E1 H1 → Grow H E w H1 E1 w1 → RepT w1 E1 fn.ntmps ts1 tmps1 → rs1.Nodup →
      (∀ r, r ∈ rs1 → w.heap.size ≤ r ∧ w1.heap[r]? = some (Obj.deferred (some []))) →
      (((∃ v, resA P G fn.results ts1 H1 = some v ∧ K v H1) ∧ M = .returning) ∨ ∃ v r, Kp v H1 ∧ RepV w1 E1 v r ∧ M = .panicking [{ v := r, recovered := false }]) →
      Steps P (lone (Frame.enter P f vargs .normal) cs w) (lone { frm b tmps1 todo1 (rs1.map markOf) with mode := M } cs w1) →
      ∃ v H' E' w', RelH G w' E' H' ∧ Grow H E w H' E' w' ∧ ∃ (r : Value) (fr : Frame), RepV w' E' v r ∧ Steps P (lone (Frame.enter P f vargs .normal) cs w) (lone fr cs w') ∧ fr.fn = f ∧
        ((K v H' ∧ fr.leaving P w' (.returned r)) ∨ (Kp v H' ∧ fr.leaving P w' (.panicked [{ v := r, recovered := false }]))) := by
    intro H1 E1 w1 rs1 ts1 tmps1 todo1 M hM p2 p3 p4 pnd prs hcase hst
    obtain ⟨w2, g1, g2, g3, g4, g5, g6, g7, g8⟩ := pend (P := P) (b := b) (tmps := tmps1) (todo := todo1) hf rfl hM [] cs p2 pnd (fun r hr => (prs r hr).2)
    simp only [List.append_nil] at g1
    have hG := grow_unwind p3 g3 g4 g5 g6 g7 g8 (fun r hr => (prs r hr).1)
    rcases hcase with ⟨⟨v, hv, hK⟩, rfl⟩ | ⟨v, r, hK, hr, rfl⟩
    · obtain ⟨x, hx, hrx⟩ := resA_run (P := P) g2 (p4.mono g3) hro hv
      exact ⟨v, H1, E1, w2, g2, hG, x, _, hrx, hst.trans g1, rfl, .inl ⟨hK, rfl, rfl, rfl, fn, hf, hx⟩⟩
    · exact ⟨v, H1, E1, w2, g2, hG, r, _, hr.mono g3, hst.trans g1, rfl, .inr ⟨hK, rfl, rfl, fn, hf⟩⟩
  rw [List.append_nil] at hD'
  subst hD'
  rcases hQ with (⟨hL, hv⟩ | ⟨v, rfl, hK⟩) | ⟨t, o, t', fo, as, tys, g, first, caps, rfl, hst, hop, hfe, hF⟩
  · replace h8 := h8.steps P (by rcases hL with rfl | rfl <;> intro v hv <;> cases hv)
    refine fin (M := .returning) (todo1 := todo') (by simp) h2 h3 h4 hnd hrs0 (.inl ⟨hv, rfl⟩) ?_
    rw [henter]
    exact h8.trans (leave_step (P := P) rfl hL h6)
  · obtain ⟨r, hr, h8⟩ := h8
    refine fin (M := .panicking [{ v := r, recovered := false }]) (todo1 := todo') (by simp) h2 h3 h4 hnd hrs0 (.inr ⟨v, r, hK, hr, rfl⟩) ?_
    rw [henter]
    exact h8
  · have h6' : todo' = t := h6
    subst h6'
    replace h8 : Steps P _ (lone (frm b tmps' todo' (rs.map markOf)) cs w') := h8
    obtain ⟨vs, us, va, r1, r2, r3, hone⟩ := step_deferOp (P := P) (b := b) (D := rs.map markOf) (cs := cs) rfl h4 hst hop hfe
    obtain ⟨L, ts2, H2, E2, w2, tmps2, D2, todo2, hQ2, k2, k3, k4, k6, ⟨_, rs2, hD2, hnd2, hrs2⟩, k8⟩ :=
      hF hst.ok E' w' _ h2 (h4.put (v := .un) (r := undef) (.tup (by rfl) (fun i hi => by simp at hi)) o.dst) b ({ target := .fn (.func g) us, args := vs ++ va } :: rs.map markOf) cs ⟨rfl, by simp [b]⟩
    subst hD2
    have hargs : RepL w2 E2 (first ++ (as.toList.map (ev ts') ++ caps)) (vs ++ (va ++ us)) := RepL.append (r1.mono k3.mono) ((r3.mono k3.mono).append (r2.mono k3.mono))
    -- to the deferred call, and behind it
    have mid : ∀ {M : FrameMode} {pv : Option AV} {pr : Value} {K2 : Bool → List AO → Prop} (hM : M ≠ .run), ACD P G g (first ++ (as.toList.map (ev ts') ++ caps)) H2 pv K2 →
        (match pv with
          | none => M = .returning
          | some a => M = .panicking [{ v := pr, recovered := false }] ∧ RepV w2 E2 a pr) →
        Steps P (lone (frm b (cput tmps' o.dst undef) t' ({ target := .fn (.func g) us, args := vs ++ va } :: rs.map markOf)) cs w') (lone { frm b tmps2 todo2 (rs2.map markOf ++ { target := .fn (.func g) us, args := vs ++ va } :: rs.map markOf) with mode := M } cs w2) →
        ∃ bb H3 E3 w3, K2 bb H3 ∧ RelH G w3 E3 H3 ∧ Grow H E w H3 E3 w3 ∧ Mono w2 E2 w3 E3 ∧ (∀ r, r ∈ rs → w3.heap[r]? = some (Obj.deferred (some []))) ∧
          Steps P (lone (Frame.enter P f vargs .normal) cs w) (lone { frm b tmps2 todo2 (rs.map markOf) with mode := (match bb with | true => .returning | false => M) } cs w3) := by
      intro M pv pr K2 hM hD hm hs2
      obtain ⟨w3, g1, g2, g3, g4, g5, g6, g7, g8⟩ := pend (P := P) (b := b) (tmps := tmps2) (todo := todo2) hf rfl hM ({ target := .fn (.func g) us, args := vs ++ va } :: rs.map markOf) cs k2 hnd2 (fun r hr => (hrs2 r hr).2)
      have hG3 := grow_unwind k3 g3 g4 g5 g6 g7 g8 (fun r hr => (hrs2 r hr).1)
      obtain ⟨hcal, hD⟩ := hD
      obtain ⟨bb, H4, E4, w4, q1, q2, q3, q4⟩ := hD E2 w3 (vs ++ (va ++ us)) g2 (hargs.mono g3) { frm b tmps2 todo2 (rs.map markOf) with mode := M } cs pr (by
        cases pv with
        | none => exact hm
        | some a => exact ⟨hm.1, hm.2.mono g3⟩)
      have hdef := step_defer (P := P) (fr := { frm b tmps2 todo2 ({ target := .fn (.func g) us, args := vs ++ va } :: rs.map markOf) with mode := M }) (cs := cs) (w := w3) (d := { target := .fn (.func g) us, args := vs ++ va }) (ds := rs.map markOf) (fv := .func g) (cap := us) (f := g) (args := vs ++ (va ++ us)) hM rfl rfl (by
        simp only [invoke]
        rw [run_callFunc hcal, Array.append_assoc])
      refine ⟨bb, H4, E4, w4, q1, q2, (h3.trans hG3).trans q3, g3.trans q3.mono, fun r hr => ?_, ?_⟩
      · have a1 : w3.heap[r]? = some (Obj.deferred (some [])) := by
          rw [hG3.same r (heap_lt (hdd r hr)) (h2.not_live_def (hdd r hr))]; exact hdd r hr
        rw [q3.same r (heap_lt a1) (g2.not_live_def a1)]; exact a1
      · rw [henter]
        exact h8.trans (.head hone (hs2.trans (g1.trans (.head hdef q4))))
    rcases hQ2 with ⟨hL, hD⟩ | ⟨pv, rfl, hD⟩
    · replace k8 := k8.steps P (by rcases hL with rfl | rfl <;> intro v hv <;> cases hv)
      obtain ⟨bb, H3, E3, w3, q1, q2, q3, q4, q5, q6⟩ := mid (M := .returning) (pr := undef) (by simp) hD rfl (k8.trans (leave_step (P := P) rfl hL k6))
      refine fin (M := .returning) (todo1 := todo2) (by simp) q2 q3 (k4.mono q4) hnd (fun r hr => ⟨hrs r hr, q5 r hr⟩) (.inl ⟨q1, rfl⟩) ?_
      cases bb <;> exact q6
    · obtain ⟨r, hr, k8⟩ := k8
      obtain ⟨bb, H3, E3, w3, q1, q2, q3, q4, q5, q6⟩ := mid (M := .panicking [{ v := r, recovered := false }]) (pr := r) (by simp) hD ⟨rfl, hr⟩ k8
      cases bb with
      | true => exact fin (M := .returning) (todo1 := todo2) (by simp) q2 q3 (k4.mono q4) hnd (fun r hr => ⟨hrs r hr, q5 r hr⟩) (.inl ⟨q1, rfl⟩) q6
      | false => exact fin (M := .panicking [{ v := r, recovered := false }]) (todo1 := todo2) (by simp) q2 q3 (k4.mono q4) hnd (fun r hr => ⟨hrs r hr, q5 r hr⟩) (.inr ⟨pv, r, q1, hr.mono q4, rfl⟩) q6
end
end Go.Ab
