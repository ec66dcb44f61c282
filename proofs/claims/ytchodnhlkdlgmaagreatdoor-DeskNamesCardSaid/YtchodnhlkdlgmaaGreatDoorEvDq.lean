/-
  A function that may panic, or defers a call; a deferred call, which may recover.
-/
import Derived.Test.YtchodnhlkdlgmaaGreatDoorEvDp
set_option linter.unusedVariables false
set_option linter.unusedSimpArgs false
namespace Go.Ab
section
variable {P : Program} {G : Gl}

theorem step_unwind_markM {b : Frame} (hM : b.mode ≠ .run) {r : Nat} {ds : List Deferred} {cs : List Frame} {w : World} (hr : w.heap[r]? = some (Obj.deferred (some []))) :
    step P (lone { b with defers := markOf r :: ds } cs w) = .next (lone { b with defers := ds } cs { w with heap := w.heap.setIfInBounds r (.deferred none) }) := by
  refine step_lone_go ?_
  have := run_takeDeferred (P := P) (w := w) hr
  cases hmode : b.mode with
  | run => exact absurd hmode hM
  | returning => simp [stepG, unwind, markOf, this, World.putObj, hmode]
  | panicking chain => simp [stepG, unwind, markOf, this, World.putObj, hmode]

theorem unwind_marksM {E : En} {H : List AO} (b : Frame) (hM : b.mode ≠ .run) (ds : List Deferred) (cs : List Frame) : ∀ (rs : List Nat) (w : World), RelH G w E H → rs.Nodup → (∀ r, r ∈ rs → w.heap[r]? = some (Obj.deferred (some []))) →
    ∃ w', Steps P (lone { b with defers := rs.map markOf ++ ds } cs w) (lone { b with defers := ds } cs w') ∧ RelH G w' E H ∧ Mono w E w' E ∧ w'.heap.size = w.heap.size ∧
      (∀ c, c ∉ rs → w'.heap[c]? = w.heap[c]?) ∧ w'.os = w.os ∧ w'.tape = w.tape ∧ w'.output = w.output
  | [], w, h, _, _ => ⟨w, .refl _ _, h, Mono.refl _ _, rfl, fun _ _ => rfl, rfl, rfl, rfl⟩
  | r :: rs, w, h, hn, hd => by
    have hs := rel_set_plain h (hd r (by simp)) (ds' := none)
    rw [List.nodup_cons] at hn
    obtain ⟨w', h1, h2, h3, h4, h5, h6, h7, h8⟩ := unwind_marksM b hM ds cs rs _ hs.1 hn.2 (fun q hq => by
      show (w.heap.setIfInBounds r (.deferred none))[q]? = _
      rw [Array.getElem?_setIfInBounds_ne (fun e => hn.1 (by rw [e]; exact hq))]
      exact hd q (by simp [hq]))
    refine ⟨w', .head (step_unwind_markM hM (hd r (by simp))) h1, h2, hs.2.trans h3, by simpa using h4, fun c hc => ?_, h6, h7, h8⟩
    rw [h5 c (fun hc' => hc (by simp [hc']))]
    show (w.heap.setIfInBounds r (.deferred none))[c]? = _
    rw [Array.getElem?_setIfInBounds_ne (fun e => hc (by simp [e]))]

/-- What unwinding marks does to memory. -/
theorem grow_unwind {E0 E : En} {H0 H : List AO} {w0 w w' : World} {rs : List Nat} (hg : Grow H0 E0 w0 H E w) (h3 : Mono w E w' E) (h4 : w'.heap.size = w.heap.size)
    (h5 : ∀ c, c ∉ rs → w'.heap[c]? = w.heap[c]?) (h6 : w'.os = w.os) (h7 : w'.tape = w.tape) (h8 : w'.output = w.output) (hr : ∀ r, r ∈ rs → w0.heap.size ≤ r) : Grow H0 E0 w0 H E w' :=
  ⟨hg.mono.trans h3, by rw [h4]; exact hg.size, fun c hc hl => by
      rw [h5 c (fun hc' => by have := hr c hc'; omega)]; exact hg.same c hc hl, hg.newfro, hg.newlive, by rw [h6, hg.os], by rw [h7, hg.tape], by rw [h8, hg.output]⟩

/-- How a frame is left, for good. -/
theorem leave_step {b : Frame} {tmps : Array Value} {todo : List Item} {D : List Deferred} {cs : List Frame} {w : World} {L : Lv} (hb : b.roundOf = none) (hL : L = .nor ∨ L = .ret) (h6 : AtLeave todo L) :
    Steps P (lone (frm b tmps todo D) cs w) (lone { frm b tmps todo D with mode := .returning } cs w) := by
  rcases hL with rfl | rfl
  · have h6' : todo = [] := h6
    subst h6'; exact .one (step_leave_nor hb)
  · obtain ⟨k, rfl⟩ : ∃ k, todo = .code .ret :: k := h6
    exact .one (step_leave_ret hb)

theorem argTs_rep {w : World} {E : En} {n : Nat} {args : List AV} {vargs : Array Value} (hn : args.length ≤ n) (hA : RepL w E args vargs) : RepT w E n (argTs args) (vargs ++ Array.replicate (n - vargs.size) undef) := by
  refine ⟨by simp [hA.1]; omega, fun i hi => ?_⟩
  unfold argTs
  by_cases hi2 : i < args.length
  · have e : (vargs ++ Array.replicate (n - vargs.size) undef).getD i undef = vargs.getD i undef := by
      rw [Array.getD_eq_getD_getElem?, Array.getD_eq_getD_getElem?, Array.getElem?_append_left (by rw [hA.1]; exact hi2)]
    rw [e]; exact hA.2 i hi2
  · have e : (vargs ++ Array.replicate (n - vargs.size) undef).getD i undef = undef := by
      rw [Array.getD_eq_getD_getElem?, Array.getElem?_append_right (by rw [hA.1]; omega)]
      simp only [Array.getElem?_replicate]
      split <;> rfl
    have e2 : args.getD i .un = .un := by simp [List.getD, List.getElem?_eq_none (Nat.le_of_not_lt hi2)]
    rw [e, e2]
    exact .tup rfl (fun i hi => by simp at hi)

def isRecover : Op → Bool
  | .call ⟨.builtin .recover, as, _⟩ => as.isEmpty
  | _ => false
theorem isRecover_run {o : Oper} (h : isRecover o.op = true) (ρ : Operand → Value) (w : World) : (execOp ρ o).run P w = .ok .recover w := by
  unfold isRecover at h
  split at h
  · rename_i as tys ho
    simp only [execOp, ho, resolve, pure_bind, invoke, builtin]
    rfl
  · cases h
theorem isRecover_defer {op : Op} (h : isRecover op = true) : isDefer op = false := by
  unfold isRecover at h
  split at h
  · rfl
  · cases h

/-- A place at which a frame stands: its next operation, and what follows. -/
def StopAt (n : Nat) (ts : Nat → AV) (t : List Item) (o : Oper) (t' : List Item) : Prop := ∃ ops i rest k, t = .inRegion ops (i :: rest) :: k ∧ ops[i]? = some o ∧ wantedA ops ts o = true ∧ t' = .inRegion ops rest :: k ∧ todoOk n t = true

/-- What the rest of a deferred call owes, after it has asked. -/
def DAft (P : Program) (G : Gl) (rs : Array ResultVar) (K : List AO → Prop) : Lv → (Nat → AV) → List AO → Prop :=
  fun L ts H => (L = .nor ∨ L = .ret) ∧ (∃ u, resA P G rs ts H = some u) ∧ K H
/-- What a deferred call owes: till it asks. -/
def DBef (P : Program) (G : Gl) (rs : Array ResultVar) (n : Nat) (pv : Option AV) (K : Bool → List AO → Prop) : Lv → (Nat → AV) → List AO → Prop :=
  fun L ts H => DAft P G rs (K false) L ts H ∨
    ∃ t o t', L = .stop t ∧ StopAt n ts t o t' ∧ isRecover o.op = true ∧ FW P G none n t' (put ts o.dst (pv.getD (.c .nilIface))) H (DAft P G rs (K pv.isSome))

theorem StopAt.ok {n : Nat} {ts : Nat → AV} {t t' : List Item} {o : Oper} (h : StopAt n ts t o t') : todoOk n t' = true := by
  obtain ⟨ops, i, rest, k, rfl, ho, hw, rfl, hk⟩ := h
  rw [todoOk_cons, Bool.and_eq_true] at hk ⊢
  exact ⟨hk.1, hk.2⟩
theorem FW.stop {rd : Option Nat} {n : Nat} {todo : List Item} {ts : Nat → AV} {H : List AO} {Q : Lv → (Nat → AV) → List AO → Prop} (hQ : todoOk n todo = true → Q (.stop todo) ts H) : FW P G rd n todo ts H Q := by
  intro hk
  exact FW.leave (P := P) (G := G) (rd := rd) (n := n) (.stop todo) rfl trivial (hQ hk) hk

/-- The step at the operation that asks. -/
theorem step_recover {b : Frame} {n : Nat} {ts : Nat → AV} {E : En} {tmps : Array Value} {t t' : List Item} {o : Oper} {D : List Deferred} {c : Frame} {cs : List Frame} {w : World} (hb : b.roundOf = none) (hkd : b.kind = .deferred)
    (hT : RepT w E n ts tmps) (hs : StopAt n ts t o t') (hr : isRecover o.op = true) :
    (∀ v, c.mode = .panicking [{ v := v, recovered := false }] → step P (lone (frm b tmps t D) (c :: cs) w) = .next (lone (frm b (cput tmps o.dst v) t' D) ({ c with mode := .panicking [{ v := v, recovered := true }] } :: cs) w)) ∧
    (c.mode = .returning → step P (lone (frm b tmps t D) (c :: cs) w) = .next (lone (frm b (cput tmps o.dst .nilIface) t' D) (c :: cs) w)) := by
  obtain ⟨ops, i, rest, k, rfl, ho, hw, rfl, hk⟩ := hs
  rw [todoOk_cons, Bool.and_eq_true] at hk
  have hops : ops.all (operOk n) = true := hk.1
  have hwt : Region.wanted o (yielded ops tmps) = true := by rw [wanted_eq hops hT]; exact hw
  have hst := stepG_frm_op (P := P) (b := b) (tmps := tmps) (rest := rest) (k := k) (D := D) (cs := c :: cs) (w := w) ho hwt (isRecover_defer hr)
  have hrun := isRecover_run (P := P) hr (Act.eval ⟨tmps, D⟩) w
  have htr := tryRecover_deferred (fr := frm b tmps (.inRegion ops (i :: rest) :: k) D) hkd (c :: cs)
  constructor
  · intro v hm
    refine step_lone_go ?_
    rw [hst, ← finish_frm b tmps ops i rest k D v o ho]
    have hro : (frm b tmps (.inRegion ops (i :: rest) :: k) D).roundOf = none := hb
    simp only [recoverD, hm] at htr
    simp [stepG.apply, hrun, hro, htr]
  · intro hm
    refine step_lone_go ?_
    rw [hst, ← finish_frm b tmps ops i rest k D .nilIface o ho]
    have hro : (frm b tmps (.inRegion ops (i :: rest) :: k) D).roundOf = none := hb
    simp only [recoverD, hm] at htr
    simp [stepG.apply, hrun, hro, htr]

/-- The end of a deferred call's frame. -/
theorem dend {f : FuncId} {fn : Func} (hf : P.funcs[f]? = some fn) (hro : resOk fn.ntmps fn.results = true) {b : Frame} (hbf : b.fn = f) (hbr : b.roundOf = none) (hbk : b.kind = .deferred)
    {L : Lv} {ts : Nat → AV} {H : List AO} {E : En} {w : World} {tmps : Array Value} {rs : List Nat} {todo : List Item} {c : Frame} {cs : List Frame}
    (hL : L = .nor ∨ L = .ret) {u : AV} (hu : resA P G fn.results ts H = some u) (h2 : RelH G w E H) (h4 : RepT w E fn.ntmps ts tmps) (h6 : AtLeave todo L) (hnd : rs.Nodup) (hdd : ∀ r, r ∈ rs → w.heap[r]? = some (Obj.deferred (some []))) :
    ∃ w2, Steps P (lone (frm b tmps todo (rs.map markOf)) (c :: cs) w) (lone { c with mode := settle c.mode } cs w2) ∧ RelH G w2 E H ∧ Mono w E w2 E ∧ w2.heap.size = w.heap.size ∧
      (∀ c, c ∉ rs → w2.heap[c]? = w.heap[c]?) ∧ w2.os = w.os ∧ w2.tape = w.tape ∧ w2.output = w.output := by
  have hret := leave_step (P := P) (tmps := tmps) (D := rs.map markOf) (cs := c :: cs) (w := w) hbr hL h6
  obtain ⟨w2, g1, g2, g3, g4, g5, g6, g7, g8⟩ := unwind_marksM (P := P) { frm b tmps todo [] with mode := .returning } (by simp) [] (c :: cs) rs w h2 hnd hdd
  obtain ⟨x, hx, hrx⟩ := resA_run (P := P) g2 (h4.mono g3) hro hu
  refine ⟨w2, hret.trans ((?_ : Steps P _ _).trans (.one (step_going_returned (P := P) (fr := { frm b tmps todo [] with mode := .returning }) (v := x) hbk ⟨rfl, rfl, fn, by rw [← hf]; show P.funcs[b.fn]? = _; rw [hbf], hx⟩))), g2, g3, g4, g5, g6, g7, g8⟩
  simpa [frm] using g1

theorem ACD.of_body {f : FuncId} {fn : Func} {c : Code} (hf : P.funcs[f]? = some fn) (hb : fn.body = some c) (hnm : (fn.name == "runtime.NumGoroutine") = false) (hok : codeOk fn.ntmps c = true)
    (hro : resOk fn.ntmps fn.results = true) {args : List AV} (hn : args.length ≤ fn.ntmps) {H : List AO} {pv : Option AV} {K : Bool → List AO → Prop}
    (h : FW P G none fn.ntmps [.code c] (argTs args) H (DBef P G fn.results fn.ntmps pv K)) : ACD P G f args H pv K := by
  refine ⟨⟨fn, hf, by simp [hb], hnm⟩, fun E w vargs hH hA cf cs pr hm => ?_⟩
  have hT := argTs_rep (n := fn.ntmps) hn hA
  let b : Frame := { (default : Frame) with fn := f, kind := .deferred }
  have henter : Frame.enter P f vargs .deferred = frm b (vargs ++ Array.replicate (fn.ntmps - vargs.size) undef) [.code c] [] := by
    simp [Frame.enter, frm, hf, hb, b]; rfl
  obtain ⟨L, ts', H', E', w', tmps', D', todo', hQ, h2, h3, h4, h6, ⟨_, rs, hD', hnd, hrs0⟩, h8⟩ :=
    h (by simpa [todoOk_cons, itemOk, todoOk] using hok) E w _ hH hT b [] (cf :: cs) ⟨rfl, by simp [b]⟩
  rw [List.append_nil] at hD'
  subst hD'
  have hdd := fun r hr => (hrs0 r hr).2
  have hrs := fun r hr => (hrs0 r hr).1
  rcases hQ with ⟨hL, ⟨u, hu⟩, hK⟩ | ⟨t, o, t', rfl, hst, hre, hF⟩
  · replace h8 := h8.steps P (by rcases hL with rfl | rfl <;> intro v hv <;> cases hv)
    obtain ⟨w2, g1, g2, g3, g4, g5, g6, g7, g8⟩ := dend (P := P) (c := cf) (cs := cs) hf hro (b := b) rfl rfl rfl hL hu h2 h4 h6 hnd hdd
    refine ⟨false, H', E', w2, hK, g2, grow_unwind h3 g3 g4 g5 g6 g7 g8 hrs, ?_⟩
    rw [henter]
    have hset : settle cf.mode = cf.mode := by
      cases pv with
      | none => rw [hm]; rfl
      | some a => rw [hm.1]; rfl
    rw [hset] at g1
    exact h8.trans g1
  · have h6' : todo' = t := h6
    subst h6'
    replace h8 : Steps P _ (lone (frm b tmps' todo' (rs.map markOf)) (cf :: cs) w') := h8
    have hsr := step_recover (P := P) (D := rs.map markOf) (c := cf) (cs := cs) (b := b) rfl rfl h4 hst hre
    -- what is asked for
    obtain ⟨c1, v1, hv1, hc1, hone⟩ : ∃ (c1 : Frame) (v1 : Value), RepV w' E' (pv.getD (.c .nilIface)) v1 ∧ (c1.mode = (match pv with | none => .returning | some _ => .panicking [{ v := pr, recovered := true }]) ∧ { c1 with mode := .returning } = { cf with mode := .returning }) ∧
        step P (lone (frm b tmps' todo' (rs.map markOf)) (cf :: cs) w') = .next (lone (frm b (cput tmps' o.dst v1) t' (rs.map markOf)) (c1 :: cs) w') := by
      cases pv with
      | none => exact ⟨cf, .nilIface, .c rfl, ⟨hm, rfl⟩, hsr.2 hm⟩
      | some a => exact ⟨{ cf with mode := .panicking [{ v := pr, recovered := true }] }, pr, hm.2.mono h3.mono, ⟨rfl, rfl⟩, hsr.1 pr hm.1⟩
    obtain ⟨L, ts2, H2, E2, w2, tmps2, D2, todo2, ⟨hL, ⟨u, hu⟩, hK⟩, k2, k3, k4, k6, ⟨_, rs2, hD2, hnd2, hrs2⟩, k8⟩ :=
      hF hst.ok E' w' _ h2 (h4.put hv1 o.dst) b (rs.map markOf) (c1 :: cs) ⟨rfl, by simp [b]⟩
    rw [← List.map_append] at hD2
    subst hD2
    replace k8 := k8.steps P (by rcases hL with rfl | rfl <;> intro v hv <;> cases hv)
    have hmem : ∀ r, r ∈ rs2 ++ rs → w2.heap[r]? = some (Obj.deferred (some [])) := fun r hr => by
      rcases List.mem_append.1 hr with h | h
      · exact (hrs2 r h).2
      · rw [k3.same r (heap_lt (hdd r h)) (h2.not_live_def (hdd r h))]; exact hdd r h
    have hnd3 : (rs2 ++ rs).Nodup := by
      rw [List.nodup_append]
      refine ⟨hnd2, hnd, fun a ha b hb e => ?_⟩
      subst e
      have := (hrs2 a ha).1
      have := heap_lt (hdd a hb)
      omega
    obtain ⟨w3, g1, g2, g3, g4, g5, g6, g7, g8⟩ := dend (P := P) (c := c1) (cs := cs) hf hro (b := b) rfl rfl rfl hL hu k2 k4 k6 hnd3 hmem
    refine ⟨pv.isSome, H2, E2, w3, hK, g2, grow_unwind (h3.trans k3) g3 g4 g5 g6 g7 g8 (fun r hr => ?_), ?_⟩
    · rcases List.mem_append.1 hr with h | h
      · exact Nat.le_trans h3.size (hrs2 r h).1
      · exact hrs r h
    · rw [henter]
      have e : ({ c1 with mode := settle c1.mode } : Frame) = { cf with mode := (match pv.isSome with | true => .returning | false => cf.mode) } := by
        cases pv with
        | none =>
          have h1 : c1.mode = .returning := hc1.1
          have h2 : cf.mode = .returning := hm
          rw [h1]
          refine Eq.trans hc1.2 ?_
          show ({ cf with mode := .returning } : Frame) = cf
          rw [← h2]
        | some a =>
          have h1 : c1.mode = .panicking [{ v := pr, recovered := true }] := hc1.1
          rw [h1]
          exact hc1.2
      rw [e] at g1
      exact h8.trans (.head hone (k8.trans g1))

end
end Go.Ab
