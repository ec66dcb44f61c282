/-
  Operations that do nothing but make a new block: what they make does not hang on memory, and their run.
-/
import Derived.Test.YtchodnhlkdlgmaaGreatDoorEvR6
set_option linter.unusedVariables false
set_option linter.unusedSimpArgs false
namespace Go.Ab
section
variable {P : Program} {G : Gl} {n : Nat} {o : Oper} {ts : Nat → AV} {H : List AO}

theorem aop_fresh {op : Op} (hc : clOf op = .alloc) {ρ : Operand → AV} {H : List AO} {r : AR} (h : aop P G op ρ H = some r) : ∃ (ao : AO) (mk : Nat → AV), r.v = mk H.length ∧ r.H = H ++ [ao] ∧
    ∀ (ρ' : Operand → AV) (H' : List AO), (∀ x ∈ op.operands, ρ' x = ρ x) → aop P G op ρ' H' = some ⟨r.c, mk H'.length, H' ++ [ao]⟩ := by
  have key : ∀ (ao : AO) (mk : Nat → AV), r.v = mk H.length → r.H = H ++ [ao] → (∀ H', aop P G op ρ H' = some ⟨r.c, mk H'.length, H' ++ [ao]⟩) → ∃ (ao : AO) (mk : Nat → AV), r.v = mk H.length ∧ r.H = H ++ [ao] ∧
      ∀ (ρ' : Operand → AV) (H' : List AO), (∀ x ∈ op.operands, ρ' x = ρ x) → aop P G op ρ' H' = some ⟨r.c, mk H'.length, H' ++ [ao]⟩ := fun ao mk h1 h2 h3 =>
    ⟨ao, mk, h1, h2, fun ρ' H' he => by rw [aop_congr he]; exact h3 H'⟩
  cases op <;> first
    | (exfalso; simp only [clOf] at hc; cases hc; done)
    | (exfalso; rename_i c; rcases clOf_call c with e | e | e <;> rw [e] at hc <;> cases hc; done)
    | skip
  case alloc t =>
    simp only [aop] at h
    split at h
    · rename_i cs hz
      cases h
      exact key (.cells cs) (fun id => .ptr id 0) rfl rfl fun H' => by simp only [aop, hz]
    · cases h
  case box t x =>
    simp only [aop] at h
    split at h
    · rename_i he
      cases h
      exact key _ (fun id => .ptr id 0) rfl rfl fun H' => by simp only [aop]; rw [if_pos he]
    · cases h
  case buildSlice t m ps =>
    simp only [aop] at h
    split at h
    · rename_i elem hu
      split at h
      · rename_i z hz
        split at h
        · rename_i hle
          simp only [Option.map_eq_some_iff] at h
          obtain ⟨es, he, rfl⟩ := h
          exact key _ (fun id => slv id m) rfl rfl fun H' => by simp only [aop, hu, hz]; rw [if_pos hle, he]; rfl
        · cases h
      · cases h
    · cases h
  case makeSlice t l c =>
    simp only [aop] at h
    split at h
    · rename_i elem k1 m k2 q hu hl hc'
      split at h
      · rename_i z by' hz hb
        cases h
        exact key _ (fun id => slv id m.toNat) rfl rfl fun H' => by simp only [aop, hu, hl, hc', hz, hb]
      · cases h
    · cases h

/-- What a new block stands for, in whatever later world it lies as it was made. -/
def MadeAt (w : World) (E : En) (ao : AO) (mk : Nat → AV) (obj : Obj) (sz : Nat) (q : Value) : Prop :=
  ∀ (w' : World) (E' : En) (id : Nat), Mono w E w' E' → w'.heap[w.heap.size]? = some obj → E'.loc id = some ⟨w.heap.size, 0, sz⟩ → RelO w' E' ao ⟨w.heap.size, 0, sz⟩ ∧ RepV w' E' (mk id) q

theorem made_cells {w : World} {E : En} {t : TypeId} {cs : List AV} {vs : Array Value} (hl : vs.size = cs.length) (hcs : ∀ j, j < cs.length → (cs.getD j .un).isCell = true ∧ RepV w E (cs.getD j .un) (vs.getD j undef)) :
    MadeAt w E (.cells cs) (fun id => .ptr id 0) (.cells vs t (0, 0)) 1 (.pointer (some ⟨w.heap.size, 0, none⟩)) := fun w' E' id hm hb hloc =>
  ⟨⟨vs, t, hb, by simp [hl], fun i hi => ⟨(hcs i hi).1, by
    simp only [Nat.zero_add]
    exact (hcs i hi).2.mono hm⟩⟩, .ptr hloc⟩

theorem made_row {w : World} {E : En} {t : TypeId} {sz : Nat} {es : List AV} {vs : Array Value} (h : RepR w E sz es vs) (m : Nat) (hm0 : m = es.length) :
    MadeAt w E (.arr sz es) (fun id => slv id m) (.cells vs t (0, 0)) sz (.slice (some ⟨w.heap.size, 0, none⟩) m m) := fun w' E' id hm hb hloc => by
  subst hm0
  refine ⟨⟨rfl, vs, t, hb, by simp only [Nat.zero_add]; rw [h.1]; exact Nat.le_refl _, fun i hi => ⟨(h.2 i hi).1, (h.2 i hi).2.1, fun j hj => ⟨((h.2 i hi).2.2 j hj).1, by
    simp only [Nat.zero_add]
    exact ((h.2 i hi).2.2 j hj).2.mono hm⟩⟩⟩, ?_⟩
  cases hes : es.length with
  | zero => exact .zs
  | succ k =>
    have hr : rowSize w' w.heap.size = some vs.size := by unfold rowSize; rw [hb]
    exact .sl hloc (Nat.le_refl _) (Nat.le_refl _) (fun _ => ⟨by simp, vs.size, hr, by rw [h.1, hes]; simp⟩)

/-- Such an operation is run. -/
theorem fresh_run (hc : clOf o.op = .alloc) {r : AR} (h : aop P G o.op (ev ts) H = some r) (hC : r.c) {E : En} {w : World} {told : Array Value} (hH : RelH G w E H) (hT : RepT w E n ts told) (hok : operOk n o = true) (D : List Deferred) :
    ∃ (ao : AO) (mk : Nat → AV) (vs : Array Value) (t : TypeId) (sz : Nat) (q : Value), r.v = mk H.length ∧ r.H = H ++ [ao] ∧ (∀ (ρ' : Operand → AV) (H' : List AO), (∀ x ∈ o.op.operands, ρ' x = ev ts x) → aop P G o.op ρ' H' = some ⟨r.c, mk H'.length, H' ++ [ao]⟩) ∧
      (execOp (Act.eval ⟨told, D⟩) o).run P w = .ok (.value q) (w.alloc (.cells vs t)) ∧ MadeAt w E ao mk (.cells vs t (0, 0)) sz q := by
  have key : ∀ (ao : AO) (mk : Nat → AV) (vs : Array Value) (t : TypeId) (sz : Nat) (q : Value), r.v = mk H.length → r.H = H ++ [ao] → (∀ H', aop P G o.op (ev ts) H' = some ⟨r.c, mk H'.length, H' ++ [ao]⟩) →
      (execOp (Act.eval ⟨told, D⟩) o).run P w = .ok (.value q) (w.alloc (.cells vs t)) → MadeAt w E ao mk (.cells vs t (0, 0)) sz q →
      ∃ (ao : AO) (mk : Nat → AV) (vs : Array Value) (t : TypeId) (sz : Nat) (q : Value), r.v = mk H.length ∧ r.H = H ++ [ao] ∧ (∀ (ρ' : Operand → AV) (H' : List AO), (∀ x ∈ o.op.operands, ρ' x = ev ts x) → aop P G o.op ρ' H' = some ⟨r.c, mk H'.length, H' ++ [ao]⟩) ∧
      (execOp (Act.eval ⟨told, D⟩) o).run P w = .ok (.value q) (w.alloc (.cells vs t)) ∧ MadeAt w E ao mk (.cells vs t (0, 0)) sz q := fun ao mk vs t sz q h1 h2 h3 h4 h5 =>
    ⟨ao, mk, vs, t, sz, q, h1, h2, fun ρ' H' he => by rw [aop_congr he]; exact h3 H', h4, h5⟩
  cases ho : o.op <;> rw [ho] at hc h key <;> first
    | (exfalso; simp only [clOf] at hc; cases hc; done)
    | (exfalso; rename_i c; rcases clOf_call c with e | e | e <;> rw [e] at hc <;> cases hc; done)
    | skip
  case alloc t =>
    simp only [aop] at h
    split at h
    · rename_i cs hz
      cases h
      obtain ⟨z, hzo, hrun⟩ := alloc_run (P := P) ho hz
      exact key (.cells cs) (fun id => .ptr id 0) z t 1 _ rfl rfl (fun H' => by simp only [aop, hz]) (hrun _ w) (made_cells hzo.1 (hzo.2 w E))
    · cases h
  case box t x =>
    simp only [aop] at h
    split at h
    · rename_i he
      cases h
      have hx := rep_ev hT (opd1 (by rw [ho]; rfl) hok) D
      obtain ⟨h1, h2⟩ := rep_cells hx he
      refine key _ (fun id => .ptr id 0) (Act.eval ⟨told, D⟩ x).cells t 1 _ rfl rfl (fun H' => by simp only [aop]; rw [if_pos he]) ?_ (made_cells h1 (fun j hj => by
        have := h2 j hj
        rwa [show (Act.eval ⟨told, D⟩ x).cells.toList.getD j undef = (Act.eval ⟨told, D⟩ x).cells.getD j undef by simp [List.getD, Array.getD_eq_getD_getElem?]] at this))
      have g1 : (newRow t (Act.eval ⟨told, D⟩ x).cells).run P w = .ok ⟨w.heap.size, 0, none⟩ (w.alloc (.cells (Act.eval ⟨told, D⟩ x).cells t)) := rfl
      simp only [execOp, ho, Instr.box, newVar, Sem.run_bind, g1, Result.andThen_ok, Sem.run_pure]
    · cases h
  case buildSlice t m ps =>
    simp only [aop] at h
    split at h
    · rename_i elem hu
      split at h
      · rename_i z hz
        split at h
        · rename_i hle
          simp only [Option.map_eq_some_iff] at h
          obtain ⟨es, he, rfl⟩ := h
          obtain ⟨p1, p2, p3⟩ := parts_rep hT (parts_ok (by rw [ho]; rfl) hok) D
          have hz0 := hz
          obtain ⟨zv, hzv, hzc, rfl, hs, hpos⟩ := zeroEl_inv hz
          obtain ⟨h1, _⟩ := zero_rep hzc w E
          obtain ⟨vs', g1, g2, g3⟩ := aFillEs_sound _ _ _ _ _ (by simp) p1 p2 p3 (repR_zero hzc w E m) he
          refine key _ (fun id => slv id m) vs' elem _ _ rfl rfl (fun H' => by simp only [aop, hu, hz0]; rw [if_pos hle, he]; rfl) ?_ (made_row g2 m g3.symm)
          have q1 : (newRow elem vs').run P w = .ok ⟨w.heap.size, 0, none⟩ (w.alloc (.cells vs' elem)) := rfl
          rw [h1] at g1
          have hzr := zeroValue_run (P := P) hzv w
          have hnot : ¬ m * (ofV zv).cells.length > 2 ^ 24 := by omega
          by_cases h0 : m = 0
          · subst h0
            have e0 : ((Array.range (0 * (ofV zv).cells.length)).map (fun q => zv.cells[q % (ofV zv).cells.length]!)) = #[] := by simp
            simp only [execOp, ho, Instr.buildSlice, Sem.run_bind, run_underlying hu, Result.andThen_ok, szT_run hs, if_neg hnot]
            rw [e0] at g1
            simp only [Nat.zero_mul, if_true, Sem.run_pure, Result.andThen_ok, Array.range_zero', List.size_toArray, List.length_nil, Array.map_empty]
            rw [g1]
            simp only [Sem.run_bind, q1, Result.andThen_ok, Sem.run_pure]
          · have hne : ¬ m * (ofV zv).cells.length = 0 := by
              have := Nat.mul_pos (Nat.pos_of_ne_zero h0) hpos; omega
            simp only [execOp, ho, Instr.buildSlice, Sem.run_bind, run_underlying hu, Result.andThen_ok, szT_run hs, if_neg hnot, if_neg hne, hzr, Sem.run_pure]
            rw [h1, g1]
            simp only [Sem.run_bind, q1, Result.andThen_ok, Sem.run_pure]
        · cases h
      · cases h
    · cases h
  case makeSlice t l c =>
    simp only [aop] at h
    split at h
    · rename_i elem k1 m k2 q hu hl hc'
      split at h
      · rename_i z by' hz hb
        cases h
        obtain ⟨q1, q2⟩ := opd2 (by rw [ho]; rfl) hok
        have hlv := rep_int (rep_ev hT q1 D) hl
        have hcv := rep_int (rep_ev hT q2 D) hc'
        obtain ⟨h0, rfl, hb1, hb2⟩ := hC
        have hz0 := hz
        obtain ⟨zv, hzv, hzc, rfl, hs, hpos⟩ := zeroEl_inv hz
        obtain ⟨h1, _⟩ := zero_rep hzc w E
        refine key _ (fun id => slv id m.toNat) _ elem _ _ rfl rfl (fun H' => by simp only [aop, hu, hl, hc', hz0, hb]) ?_ (made_row (repR_zero hzc w E m.toNat) m.toNat (by simp))
        have g1 : (newRow elem ((Array.range (m.toNat * zv.cells.size)).map (fun q => zv.cells[q % zv.cells.size]!))).run P w = .ok ⟨w.heap.size, 0, none⟩ (w.alloc (.cells ((Array.range (m.toNat * zv.cells.size)).map (fun q => zv.cells[q % zv.cells.size]!)) elem)) := rfl
        obtain ⟨info, hi, hib⟩ := bytesT_run (P := P) hb w
        have hw : IntKind.i64.wrap m = m := wrap_i64 (by omega) (by omega)
        have hzr := zeroValue_run (P := P) hzv w
        have hbig : ¬ ((by' : Int) * m > 2 ^ 48) := by omega
        rw [h1] at g1 ⊢
        by_cases h00 : m.toNat = 0
        · have e : ((Array.range (m.toNat * (ofV zv).cells.length)).map (fun q => zv.cells[q % (ofV zv).cells.length]!)) = #[] := by simp [h00]
          rw [e] at g1 ⊢
          simp only [execOp, ho, hlv, hcv, Instr.makeSlice, Sem.run_bind, run_underlying hu, Result.andThen_ok, asInt, asIntOf, Sem.run_pure, hi, hib, hw]
          rw [if_neg (by simp [hbig]; omega)]
          simp only [Sem.run_bind, askRoom_run, Result.andThen_ok, szT_run hs]
          rw [if_pos (by simp [h00])]
          simp only [Sem.run_pure, Result.andThen_ok, h00, Nat.zero_mul]
          have e2 : ∀ z : Array Value, ((Array.range 0).map (fun q => z[q % z.size]!)) = #[] := fun z => by simp
          simp only [Sem.run_bind, Sem.run_pure, Result.andThen_ok, e2, g1]
        · have hne : ¬ m.toNat * (ofV zv).cells.length = 0 := by
            have := Nat.mul_pos (Nat.pos_of_ne_zero h00) hpos; omega
          simp only [execOp, ho, hlv, hcv, Instr.makeSlice, Sem.run_bind, run_underlying hu, Result.andThen_ok, asInt, asIntOf, Sem.run_pure, hi, hib, hw]
          rw [if_neg (by simp [hbig]; omega)]
          simp only [Sem.run_bind, askRoom_run, Result.andThen_ok, szT_run hs]
          rw [if_neg hne]
          simp only [Sem.run_bind, hzr, Result.andThen_ok, Sem.run_pure, h1, g1]
      · cases h
    · cases h
end
end Go.Ab
