/- One of the texts that this claim stands on. -/
import Derived.Test.YtfahngokbdndmaaGreatDoorEv8
import Derived.Lib.MakeNoZero
import Derived.Laws.Externs
set_option linter.unusedVariables false
set_option linter.unusedSimpArgs false
namespace Go.Ab
def MZ (P : Program) (f : FuncId) : Prop := ∃ fn ps t e, P.funcs[f]? = some fn ∧ (fn.name == "runtime.NumGoroutine") = false ∧ fn.body.isNone = true ∧ Extern.findNext fn = none ∧
  Extern.find fn = some (Extern.BytealgMakeNoZero.makeNoZero ps #[t]) ∧ P.underlying t = some (.slice e)
theorem digits_get : ∀ (n t : Nat) (acc : Array Value), (∀ i, i < acc.size → ∃ k, acc.getD i undef = .int .u8 k) → ∀ i, i < (Extern.BytealgMakeNoZero.digits n t acc).size → ∃ k, (Extern.BytealgMakeNoZero.digits n t acc).getD i undef = .int .u8 k
  | 0, t, acc, h, i, hi => h i hi
  | n + 1, t, acc, h, i, hi => by
    rw [Extern.BytealgMakeNoZero.digits] at hi ⊢
    refine digits_get n _ _ (fun j hj => ?_) i hi
    rw [Array.size_push] at hj
    by_cases e : j < acc.size
    · obtain ⟨k, hk⟩ := h j e
      refine ⟨k, ?_⟩
      rw [Array.getD_eq_getD_getElem?, Array.getElem?_push_lt e]
      rw [Array.getD_eq_getD_getElem?] at hk
      simpa [e] using hk
    · have : j = acc.size := by omega
      subst this
      exact ⟨_, by rw [Array.getD_eq_getD_getElem?, Array.getElem?_push_size]; rfl⟩
section
variable {P : Program} {G : Gl} {n : Nat} {o : Oper} {ts : Nat → AV} {H : List AO}
theorem run_mz (w : World) (ps : Array TypeId) (t e : TypeId) (ht : P.underlying t = some (.slice e)) (m : Nat) (hm : m ≤ 1099511627776) :
    ∃ cs : Array Value, (Extern.BytealgMakeNoZero.makeNoZero ps #[t] #[.int .i64 m]).run P w = .ok (.slice (some ⟨w.heap.size, 0, none⟩) m cs.size) (w.drew.drew.alloc (.cells cs e)) ∧ m ≤ cs.size ∧
      ∀ i, i < cs.size → ∃ k, cs.getD i undef = .int .u8 k := by
  refine ⟨Extern.BytealgMakeNoZero.digits (grownCap w m 0 e) ((Question.extern "internal/bytealg.MakeNoZero.bytes" 0).cut (w.tape (w.drawn + 1) (.extern "internal/bytealg.MakeNoZero.bytes" 0))) #[], ?_, ?_, digits_get _ _ _ (fun i hi => by simp at hi)⟩
  · have h1 : ¬ (m : Int) < 0 := by omega
    have h2 : ¬ (281474976710656 : Int) < (m : Int) := by omega
    have hd : Extern.BytealgMakeNoZero.makeNoZero ps #[t] #[.int .i64 m] = (do
        let .slice elem ← underlying t | stuck "bytealg.MakeNoZero: slice type expected"
        if (m : Int) < 0 || (m : Int) > 2 ^ 48 then runtimePanic (.error "makeslice: len out of range")
        let cap ← choose (.appendCap (m : Int).toNat 0 elem)
        askRoom cap
        let bytes ← choose (.extern "internal/bytealg.MakeNoZero.bytes" 0)
        let a ← newRow elem (Extern.BytealgMakeNoZero.digits cap bytes #[])
        pure (.slice (some a) (m : Int).toNat cap)) := rfl
    rw [hd]
    simp [run_underlying ht, h1, h2, Question.forced, newRow, Lib.size_digits, grownCap]
  · rw [Lib.size_digits]
    simpa using grownCap_ge w m 0 e
theorem opv_mz {fo : Operand} {args : Array Operand} {tys : Array TypeId} (ho : o.op = .call { callee := .value fo, args := args, argTypes := tys }) {f : FuncId} {first caps : List AV} (hf : ev ts fo = .fn f first caps) {m : Nat} (ha : first ++ (args.toList.map (ev ts) ++ caps) = [.c (.int .i64 m)])
    (hz : MZ P f) (h0 : 0 < m) (hm : m ≤ 1099511627776) : OpV P G n o ts H (slv H.length m) (H ++ [.arr 1 (List.replicate m .any)]) := by
  intro E w tmps hH hT hok D
  obtain ⟨fn, ps, t, e, z1, z2, z3, z4, z5, z6⟩ := hz
  obtain ⟨cs, r1, r2, r3⟩ := run_mz (P := P) w ps t e z6 m hm
  simp only [operOk, ho, Op.operands, Call.operands, Bool.and_eq_true, Array.all_append] at hok
  have hfo : opdOk n fo = true := by simpa using hok.2.1
  have hc := rep_ev hT hfo D
  have hA := repL_map hT hok.2.2 D
  rw [hf] at hc
  generalize hfv : Act.eval ⟨tmps, D⟩ fo = fv at hc
  cases hc
  rename_i vs us hl1 h1 hl2 h2
  have hB : RepL w E (first ++ (args.toList.map (ev ts) ++ caps)) (vs ++ (args.map (Act.eval ⟨tmps, D⟩) ++ us)) := RepL.append ⟨hl1, h1⟩ (hA.append ⟨hl2, h2⟩)
  rw [ha] at hB
  have hargs : vs ++ (args.map (Act.eval ⟨tmps, D⟩) ++ us) = #[.int .i64 m] := by
    generalize vs ++ (args.map (Act.eval ⟨tmps, D⟩) ++ us) = zs at hB
    obtain ⟨q1, q2⟩ := hB
    have q3 := q2 0 (by simp)
    simp only [List.getD_cons_zero] at q3
    apply Array.ext (by simpa using q1)
    intro i hi1 hi2
    have hi : i = 0 := by simp at hi2; omega
    subst hi
    have q4 := q3.c_inv
    rw [Array.getD_eq_getD_getElem?] at q4
    simpa [hi1] using q4
  have hs := rel_same hH (w' := w.drew.drew) rfl
  have hG0 : Grow H E w H E w.drew.drew := ⟨hs.2, Nat.le_refl _, fun _ _ _ => rfl, fun _ h => .inl h, fun _ h => .inl h, rfl, rfl, rfl⟩
  obtain ⟨E', g1, g2, g3, g4, g5⟩ := newArr_sound (P := P) (vs := cs) (sz := 1) (es := List.replicate m .any) hs.1 e (by simpa using r2) (fun i hi => by
    have hi' : i < m := by simpa using hi
    have ee : (List.replicate m AV.any).getD i .un = .any := by simp [List.getD, hi']
    rw [ee]
    refine ⟨rfl, rfl, fun j hj => ?_⟩
    obtain rfl : j = 0 := by omega
    obtain ⟨k, hk⟩ := r3 (i * 1 + 0) (by omega)
    refine ⟨rfl, ?_⟩
    rw [hk]
    exact .any)
  obtain ⟨j, rfl⟩ : ∃ j, m = j + 1 := ⟨m - 1, by omega⟩
  refine ⟨E', _, .slice (some ⟨w.heap.size, 0, none⟩) (j + 1) cs.size, g2, hG0.trans g3, .sl g4 (Nat.le_refl _) r2 (fun _ => ⟨by simp, cs.size, g5, by simp⟩), .inl ?_⟩
  have e3 : execOp (Act.eval ⟨tmps, D⟩) o = (do let d ← Deferred.ofValue (Act.eval ⟨tmps, D⟩ fo) (args.map (Act.eval ⟨tmps, D⟩)); invoke d.target d.args) := by
    simp [execOp, ho, resolve]
  rw [e3, hfv]
  simp only [Deferred.ofValue, pure_bind, invoke]
  rw [Array.append_assoc, hargs, run_callFunc_extern z1 z2 z3 z4 z5, r1]
  rfl
end
end Go.Ab
