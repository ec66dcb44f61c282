/-
  The operations are sound, continued: append, clear.
-/
import Derived.Test.YtchodnhlkdlgmaaGreatDoorEvFd
set_option linter.unusedVariables false
set_option linter.unusedSimpArgs false
namespace Go.Ab
section
variable {P : Program} {G : Gl} {n : Nat} {o : Oper} {ts : Nat → AV} {H H' : List AO} {v : AV} {C : Prop}

theorem RepR.mono {w w' : World} {E E' : En} (hm : Mono w E w' E') {sz : Nat} {es : List AV} {vs : Array Value} (h : RepR w E sz es vs) : RepR w' E' sz es vs :=
  ⟨h.1, fun i hi => ⟨(h.2 i hi).1, (h.2 i hi).2.1, fun j hj => ⟨((h.2 i hi).2.2 j hj).1, ((h.2 i hi).2.2 j hj).2.mono hm⟩⟩⟩

/-- A row that a call has made anew (its capacity drawn). -/
theorem grown_rep {w : World} {E : En} (hH : RelH G w E H) {e : TypeId} {sz : Nat} (hsz : 0 < sz) {es els : List AV} {olds news : List Value} (h1 : RepR w E sz es olds.toArray) (h2 : RepR w E sz els news.toArray)
    {z : Array Value} (hz : z.size = sz) {cap : Nat} (hcap : es.length + els.length ≤ cap) :
    ∃ E', RelH G (w.alloc (.cells (olds ++ news ++ (Builtin.zeroCells z (cap - (es.length + els.length))).toList).toArray e)) E' (H ++ [.arr sz (es ++ els)]) ∧
      Grow H E w (H ++ [.arr sz (es ++ els)]) E' (w.alloc (.cells (olds ++ news ++ (Builtin.zeroCells z (cap - (es.length + els.length))).toList).toArray e)) ∧
      RepV (w.alloc (.cells (olds ++ news ++ (Builtin.zeroCells z (cap - (es.length + els.length))).toList).toArray e)) E' (.sl H.length 0 (es.length + els.length) (es.length + els.length)) (.slice (some ⟨w.heap.size, 0, none⟩) (es.length + els.length) cap) := by
  have hl : olds.length = es.length * sz := by simpa using h1.1
  have hl' : news.length = els.length * sz := by simpa using h2.1
  have hsize : (olds ++ news ++ (Builtin.zeroCells z (cap - (es.length + els.length))).toList).toArray.size = cap * sz := by
    simp only [List.size_toArray, List.length_append, Array.length_toList, size_zeroCells, hl, hl', hz, ← Nat.add_mul]
    congr 1; omega
  have hr := rel_alloc hH (.cells (olds ++ news ++ (Builtin.zeroCells z (cap - (es.length + els.length))).toList).toArray e) (.arr sz (es ++ els)) ⟨w.heap.size, 0, sz⟩ rfl
    (fun E' hm _ => ⟨rfl, _, e, getElem?_alloc_new w _, by
      rw [hsize]; simp only [Nat.zero_add, List.length_append]; exact Nat.mul_le_mul_right _ hcap, fun i hi => by
      have := (h1.mono hm).append (h2.mono hm) (Builtin.zeroCells z (cap - (es.length + els.length))).toList i hi
      refine ⟨this.1, this.2.1, fun j hj => ⟨(this.2.2 j hj).1, ?_⟩⟩
      simp only [Nat.zero_add]
      rw [getD_toArray]
      exact (this.2.2 j hj).2⟩)
  refine ⟨_, hr.1, hr.2.1, .sl hr.2.2 (Nat.le_refl _) hcap (fun _ => ⟨by simp, cap * sz, ?_, ?_⟩)⟩
  · unfold rowSize; rw [getElem?_alloc_new]; simp only [hsize]
  · simp

theorem isEl_one {w : World} {E : En} {sz : Nat} {els : List AV} {news : List Value} (h : RepR w E sz els news.toArray) (hsz : 0 < sz) : ∀ u ∈ news, u.oneCell' = true := by
  intro u hu
  obtain ⟨q, hq, rfl⟩ := List.getElem_of_mem hu
  have hl : news.length = els.length * sz := by simpa using h.1
  have hi : q / sz < els.length := Nat.div_lt_of_lt_mul (by rw [Nat.mul_comm]; omega)
  have hj : q % sz < sz := Nat.mod_lt _ hsz
  have := (h.2 _ hi).2.2 _ hj
  have e : q / sz * sz + q % sz = q := by have := Nat.div_add_mod q sz; rw [Nat.mul_comm] at this; omega
  rw [getD_toArray, e] at this
  have e2 : news.getD q undef = news[q] := by simp [List.getD, hq]
  rw [e2] at this
  exact this.2.oneCell this.1

theorem emptyS_rep {w : World} {E : En} {a : AV} {r : Value} (h : emptyS a = true) (hr : RepV w E a r) : ∃ ad : Option Addr, r = .slice ad 0 0 := by
  unfold emptyS at h
  split at h
  · cases hr; exact ⟨_, rfl⟩
  · cases hr; exact ⟨_, rfl⟩
  · cases h

theorem opv_append {args : Array Operand} {tys : Array TypeId} (ho : o.op = .call { callee := .builtin .append, args := args, argTypes := tys }) {t u : TypeId} {s x : Operand} (ht0 : tys[0]? = some t) (ht1 : tys[1]? = some u)
    (h0 : args[0]? = some s) (h1 : args[1]? = some x) {r : AR} (h : aAppend P t u (ev ts s) (ev ts x) H = some r) (hC : r.c) : OpV P G n o ts H r.v r.H := by
  intro E w tmps hH hT hok D
  have hall : ∀ y, y ∈ args → opdOk n y = true := fun y hy => by
    simp only [operOk, ho, Op.operands, Call.operands, Bool.and_eq_true] at hok
    exact (Array.all_eq_true'.1 hok.2) y (by simp; exact hy)
  have hs := rep_ev hT (hall s (Array.mem_of_getElem? h0)) D
  have hx := rep_ev hT (hall x (Array.mem_of_getElem? h1)) D
  have ha0 : (args.map (Act.eval ⟨tmps, D⟩))[0]? = some (Act.eval ⟨tmps, D⟩ s) := by simp [h0]
  have ha1 : (args.map (Act.eval ⟨tmps, D⟩))[1]? = some (Act.eval ⟨tmps, D⟩ x) := by simp [h1]
  have hexec : execOp (Act.eval ⟨tmps, D⟩) o = (do pure (.value (← Builtin.append_ tys o.type (args.map (Act.eval ⟨tmps, D⟩))))) := by
    simp [execOp, ho, resolve, invoke, builtin]
  generalize Act.eval ⟨tmps, D⟩ s = rs at hs ha0
  generalize Act.eval ⟨tmps, D⟩ x = rx at hx ha1
  have done : ∀ {E' : En} {w' : World} {rv : Value}, RelH G w' E' r.H → Grow H E w r.H E' w' → RepV w' E' r.v rv → (Builtin.append_ tys o.type (args.map (Act.eval ⟨tmps, D⟩))).run P w = .ok rv w' →
      ∃ E' w' q, RelH G w' E' r.H ∧ Grow H E w r.H E' w' ∧ RepV w' E' r.v q ∧
        ((execOp (Act.eval ⟨tmps, D⟩) o).run P w = .ok (.value q) w' ∨ ((execOp (Act.eval ⟨tmps, D⟩) o).run P w = .ok .skip w' ∧ q = undef)) := by
    intro E' w' rv g1 g2 g3 g4
    exact ⟨E', w', rv, g1, g2, g3, .inl (by rw [hexec]; simp only [Sem.run_bind, g4, Result.andThen_ok, Sem.run_pure])⟩
  generalize ev ts s = as at hs h
  generalize ev ts x = ax at hx h
  unfold aAppend at h
  split at h
  · rename_i elem elem' hut huu
    split at h
    · rename_i z by' hz hb
      obtain ⟨i, zv, hi, hiz, hib, his, hpos, hzs⟩ := info_of_zeroEl hz hb
      split at h
      · cases h
      · rename_i c els hels
        have hdrew : RelH G w.drew E H ∧ Mono w E w.drew E := rel_same hH rfl
        have gdrew : Grow H E w H E w.drew := ⟨hdrew.2, Nat.le_refl _, fun _ _ _ => rfl, fun _ h => .inl h, fun _ h => .inl h, rfl, rfl, rfl⟩
        have new : emptyS as = true → aAppNew z by' c els as H = some r → ∃ E' w' q, RelH G w' E' r.H ∧ Grow H E w r.H E' w' ∧ RepV w' E' r.v q ∧
            ((execOp (Act.eval ⟨tmps, D⟩) o).run P w = .ok (.value q) w' ∨ ((execOp (Act.eval ⟨tmps, D⟩) o).run P w = .ok .skip w' ∧ q = undef)) := by
          intro hemp h9
          clear h
          have h := h9
          clear h9
          unfold aAppNew at h
          have hfresh := emptyS_rep hemp hs
          obtain ⟨a, rfl⟩ := hfresh
          split at h
          · cases h
            obtain ⟨news, n1, n2, n3⟩ := elsOf_sound (P := P) hH hx hels hC hpos
            have hrun := run_append_0 (ty := o.type) hut huu hi ht0 ht1 ha0 ha1 n2 (by
              have := n3 w rfl
              have e : news = [] := List.eq_nil_of_length_eq_zero (by simpa using n1.1)
              subst e
              rw [his]; exact this) (Nat.le_refl _)
            exact done hH (Grow.refl _ _ _) hs hrun
          · rename_i e0 l0
            cases h
            obtain ⟨hc, hb1, hb2⟩ := hC
            obtain ⟨news, n1, n2, n3⟩ := elsOf_sound (P := P) hH hx hels hc hpos
            have hbn : (0 + (e0 :: l0).length) * i.bytes ≤ 2 ^ 40 := by rw [hib, Nat.zero_add]; exact hb1
            have hrun := run_append_g (ty := o.type) (olds := []) hut huu hi hiz ht0 ht1 ha0 ha1 n2 (fun w' hw => by cases a <;> simp [Builtin.firstCells, loadCells, loadCellsFrom]) (by rw [his]; exact n3) (by simp) (by rw [Nat.zero_add]; exact hb2) hbn
            have hge := grownCap_ge w (0 + (e0 :: l0).length) 0 elem
            obtain ⟨E', g1, g2, g3⟩ := grown_rep (e := elem) (es := []) (olds := []) hdrew.1 hpos ⟨by simp, fun i hi => by simp at hi⟩ (n1.mono hdrew.2) hzs (cap := grownCap w (0 + (e0 :: l0).length) 0 elem) hge
            simp only [List.length_nil, Nat.zero_add] at g1 g2 g3 hrun
            exact done g1 (gdrew.trans g2) g3 hrun
        split at h
        · rename_i id st len cap
          split at h
          · cases h
            have hc : c := hC
            obtain ⟨news, n1, n2, n3⟩ := elsOf_sound (P := P) hH hx hels hc hpos
            have hs0 := hs
            cases hs0 with | @sl _ _ _ _ l ad cc hl q1 q2 q3 =>
            have hnil : news = [] := List.eq_nil_of_length_eq_zero (by simpa using n1.1)
            subst hnil
            have hrun := run_append_0 (ty := o.type) hut huu hi ht0 ht1 ha0 ha1 n2 (by rw [his]; exact n3 w rfl) (Nat.le_trans q1 q2)
            exact done hH (Grow.refl _ _ _) hs hrun
          · rename_i e0 l0
            generalize hgen : e0 :: l0 = els at hels h
            split at h
            · rename_i sz es hid
              split at h
              · rename_i hcnd
                obtain ⟨rfl, hle, hcap⟩ := hcnd
                cases h
                obtain ⟨hc, hb1, hb2⟩ := hC
                obtain ⟨news, n1, n2, n3⟩ := elsOf_sound (P := P) hH hx hels hc hpos
                have hs0 := hs
                cases hs0 with | @sl _ _ _ _ l ad cc hl q1 q2 q3 =>
                obtain ⟨rfl, m, hm1, hm2⟩ := q3 hcap
                obtain ⟨olds, o1, o2, o3⟩ := elsOf_sound (P := P) (sz := z.cells.length) (c := True) (els := (es.drop st).take len) hH hs (by simp only [elsOf, hid]; rw [if_pos ⟨trivial, hle⟩]) trivial hpos
                have hlen : ((es.drop st).take len).length = len := by rw [List.length_take, List.length_drop]; omega
                rw [hlen] at o2 o3
                have hll : olds.length = len * z.cells.length := by have := o1.1; rw [hlen] at this; simpa using this
                have hnl : news.length = els.length * z.cells.length := by simpa using n1.1
                obtain ⟨l', hl', hsz, cs, tt, hcs, hbd, hr⟩ := hH.obj id _ hid rfl
                rw [hl] at hl'; cases hl'
                by_cases hroom : len + els.length ≤ cc
                · -- in place
                  have hrow : cs.size = m := by simpa [rowSize, hcs] using hm1
                  have hfit : l.base + (st + len) * z.cells.length + 0 + news.length ≤ cs.size := by
                    rw [hrow, hnl]
                    rw [← hsz] at hpos ⊢
                    have h3 : (st + len) * l.sz + els.length * l.sz ≤ (st + cc) * l.sz := by rw [← Nat.add_mul]; exact Nat.mul_le_mul_right _ (by omega)
                    omega
                  obtain ⟨w', c', g2, g3, g4, g5, g6, g7, g8, g9, g10⟩ := run_storeCells_ab (P := P) l.b tt news (l.base + (st + len) * z.cells.length) 0 w cs hcs hfit (isEl_one n1 hpos)
                  have hmv := rel_move hH hid rfl hl (.arr z.cells.length ((es.drop st).take len ++ els)) ⟨l.b, l.base + st * z.cells.length, z.cells.length⟩ rfl g5 g6
                    (fun k hk => by simp only [rowSize, hcs, g3] at *; rw [g4]; exact hk) g7 g8 g9 (fun hm => ⟨rfl, c', tt, g3, by
                      simp only [List.length_append, hlen]
                      rw [g4]
                      have : l.base + st * z.cells.length + (len + els.length) * z.cells.length = l.base + (st + len) * z.cells.length + 0 + news.length := by
                        rw [hnl, Nat.add_mul, Nat.add_mul]; omega
                      omega, fun i hi => by
                      have hap := (o1.mono hm).append (n1.mono hm) [] i hi
                      refine ⟨hap.1, hap.2.1, fun j hj => ⟨(hap.2.2 j hj).1, ?_⟩⟩
                      have hgoal := (hap.2.2 j hj).2
                      rw [List.append_nil] at hgoal
                      have hi2 : i < len + els.length := by simpa [hlen] using hi
                      have hval : c'.getD (l.base + st * z.cells.length + i * z.cells.length + j) undef = (olds ++ news).getD (i * z.cells.length + j) undef := by
                        rw [g10]
                        by_cases hlt : i < len
                        · have hp : i * z.cells.length + j < len * z.cells.length := by
                            have : (i + 1) * z.cells.length ≤ len * z.cells.length := Nat.mul_le_mul_right _ hlt
                            rw [Nat.add_mul] at this; omega
                          rw [if_neg (by rw [Nat.add_mul]; omega)]
                          have e1 : (olds ++ news).getD (i * z.cells.length + j) undef = olds.getD (i * z.cells.length + j) undef := by
                            simp [List.getD, List.getElem?_append_left (show i * z.cells.length + j < olds.length by omega)]
                          rw [e1]
                          -- the old cells
                          have hfc := o3 w rfl
                          have hfc2 : (Builtin.firstCells z.cells.length len (.slice (some ⟨l.b, l.base + st * l.sz, none⟩) len cc)).run P w = .ok ((List.range (len * z.cells.length)).map fun q => cs.getD (l.base + st * z.cells.length + q) undef).toArray w := by
                            refine run_firstCells_some w z.cells.length len _ len cc _ (by simp) (fun q u hq => ?_)
                            have hq1 : q < len * z.cells.length := by
                              have := (List.getElem?_eq_some_iff.1 hq).1
                              simpa using this
                            have hu : u = cs.getD (l.base + st * z.cells.length + q) undef := by
                              rw [List.getElem?_map, List.getElem?_range hq1] at hq
                              simpa using hq.symm
                            rw [addr_add, hsz, hu]
                            refine cell?_row' hcs ?_
                            have : st * z.cells.length + len * z.cells.length ≤ es.length * z.cells.length := by rw [← Nat.add_mul]; exact Nat.mul_le_mul_right _ hle
                            omega
                          rw [hfc] at hfc2
                          injection hfc2 with e2
                          have e3 : olds = (List.range (len * z.cells.length)).map fun q => cs.getD (l.base + st * z.cells.length + q) undef := by
                            have := congrArg Array.toList e2
                            simpa using this
                          rw [e3, getD_map_range _ _ _ hp]
                          congr 1; omega
                        · have hp : (i - len) * z.cells.length + j < els.length * z.cells.length := by
                            have : (i - len + 1) * z.cells.length ≤ els.length * z.cells.length := Nat.mul_le_mul_right _ (by omega)
                            rw [Nat.add_mul] at this; omega
                          have hsplit : i * z.cells.length = len * z.cells.length + (i - len) * z.cells.length := by
                            rw [← Nat.add_mul]; congr 1; omega
                          rw [if_pos (by rw [Nat.add_mul]; omega)]
                          have e1 : (olds ++ news).getD (i * z.cells.length + j) undef = news.getD ((i - len) * z.cells.length + j) undef := by
                            simp only [List.getD]
                            rw [List.getElem?_append_right (by omega)]
                            congr 2; omega
                          rw [e1]
                          congr 1
                          rw [Nat.add_mul]; omega
                      rw [hval]; exact hgoal⟩)
                  have hrun := run_append_r (ty := o.type) hut huu hi ht0 ht1 ha0 ha1 n2 (by rw [his]; exact n3 w rfl) (w' := w') (by
                    rw [his, addr_add, hsz]
                    have e : l.base + st * z.cells.length + len * z.cells.length = l.base + (st + len) * z.cells.length := by rw [Nat.add_mul]; omega
                    rw [e]; exact g2) hroom
                  refine done hmv.1 hmv.2.1 (.sl hmv.2.2 (Nat.le_refl _) hroom (fun _ => ⟨by simp [hsz], m, ?_, ?_⟩)) hrun
                  · simp only [rowSize, g3, g4, hrow]
                  · simp only [Nat.zero_add]
                    rw [hsz] at hm2
                    rw [Nat.add_mul] at hm2; omega
                · have hbn : (len + els.length) * i.bytes ≤ 2 ^ 40 := by rw [hib]; exact hb1
                  have hrun := run_append_g (ty := o.type) hut huu hi hiz ht0 ht1 ha0 ha1 n2 (by rw [his]; exact o3) (by rw [his]; exact n3) (by omega) hb2 hbn
                  have hdrop := rel_drop hdrew.1 id
                  have hge := grownCap_ge w (len + els.length) cc elem
                  obtain ⟨E', g1, g2, g3⟩ := grown_rep (e := elem) hdrop.1 hpos (o1.mono hdrew.2) (n1.mono hdrew.2) hzs (cap := grownCap w (len + els.length) cc elem) (by rw [hlen]; exact hge)
                  rw [hlen, List.length_set] at g3
                  rw [hlen] at g1 g2
                  exact done g1 ((gdrew.trans hdrop.2).trans g2) g3 hrun
              · cases h
            · cases h
        · exact new rfl h
        · exact new rfl h
        · cases h
    · cases h
  · cases h

theorem opv_clear {args : Array Operand} {tys : Array TypeId} (ho : o.op = .call { callee := .builtin .clear, args := args, argTypes := tys }) {t : TypeId} {x : Operand} (ht0 : tys[0]? = some t)
    (h0 : args[0]? = some x) {r : AR} (h : aClear P t (ev ts x) H = some r) (hC : r.c) : OpV P G n o ts H r.v r.H := by
  intro E w tmps hH hT hok D
  have hall : ∀ y, y ∈ args → opdOk n y = true := fun y hy => by
    simp only [operOk, ho, Op.operands, Call.operands, Bool.and_eq_true] at hok
    exact (Array.all_eq_true'.1 hok.2) y (by simp; exact hy)
  have hx := rep_ev hT (hall x (Array.mem_of_getElem? h0)) D
  have ha0 : (args.map (Act.eval ⟨tmps, D⟩))[0]? = some (Act.eval ⟨tmps, D⟩ x) := by simp [h0]
  have hexec : execOp (Act.eval ⟨tmps, D⟩) o = (do pure (.value (← Builtin.clear_ tys o.type (args.map (Act.eval ⟨tmps, D⟩))))) := by
    simp [execOp, ho, resolve, invoke, builtin]
  generalize Act.eval ⟨tmps, D⟩ x = rx at hx ha0
  generalize ev ts x = ax at hx h
  have done : ∀ {E' : En} {w' : World}, RelH G w' E' r.H → Grow H E w r.H E' w' → r.v = .un → (Builtin.clear_ tys o.type (args.map (Act.eval ⟨tmps, D⟩))).run P w = .ok (.tuple #[]) w' →
      ∃ E' w' q, RelH G w' E' r.H ∧ Grow H E w r.H E' w' ∧ RepV w' E' r.v q ∧
        ((execOp (Act.eval ⟨tmps, D⟩) o).run P w = .ok (.value q) w' ∨ ((execOp (Act.eval ⟨tmps, D⟩) o).run P w = .ok .skip w' ∧ q = undef)) := by
    intro E' w' g1 g2 g3 g4
    exact ⟨E', w', _, g1, g2, by rw [g3]; exact .tup (vs := #[]) rfl (fun i hi => by simp at hi), .inl (by rw [hexec]; simp only [Sem.run_bind, g4, Result.andThen_ok, Sem.run_pure])⟩
  unfold aClear at h
  split at h
  · rename_i elem hut
    split at h
    · rename_i id st len cap
      split at h
      · rename_i z sz es hz hid
        split at h
        · rename_i hcnd
          obtain ⟨rfl, hle, hcap⟩ := hcnd
          cases h
          obtain ⟨zv, hzv, hzc, rfl, hs, hpos⟩ := zeroEl_inv hz
          obtain ⟨hzl, hzr⟩ := zero_rep hzc w E
          cases hx with | @sl _ _ _ _ l ad cc hl q1 q2 q3 =>
          obtain ⟨rfl, m, hm1, hm2⟩ := q3 hcap
          obtain ⟨l', hl', hsz, cs, tt, hcs, hbd, hr⟩ := hH.obj id _ hid rfl
          rw [hl] at hl'; cases hl'
          have hzrun := zeroValue_run (P := P) hzv w
          have hzsz : (Builtin.zeroCells zv.cells len).toList.length = len * (ofV zv).cells.length := by
            rw [Array.length_toList, size_zeroCells, hzl]
          have hrz := repR_zero hzc w E len
          have hzcells : Builtin.zeroCells zv.cells len = (Array.range (len * zv.cells.size)).map (fun q => zv.cells[q % zv.cells.size]!) := rfl
          rw [← hzcells] at hrz
          have hfit : l.base + st * (ofV zv).cells.length + 0 + (Builtin.zeroCells zv.cells len).toList.length ≤ cs.size := by
            rw [hzsz]
            have : st * (ofV zv).cells.length + len * (ofV zv).cells.length ≤ es.length * (ofV zv).cells.length := by rw [← Nat.add_mul]; exact Nat.mul_le_mul_right _ hle
            omega
          have hrz2 : RepR w E (ofV zv).cells.length (List.replicate len (ofV zv)) (Builtin.zeroCells zv.cells len).toList.toArray := by simpa using hrz
          obtain ⟨w', c', g2, g3, g4, g5, g6, g7, g8, g9, g10⟩ := run_storeCells_ab (P := P) l.b tt (Builtin.zeroCells zv.cells len).toList (l.base + st * (ofV zv).cells.length) 0 w cs hcs hfit (isEl_one hrz2 hpos)
          have hlen3 : (es.take st ++ (List.replicate len (ofV zv) ++ es.drop (st + len))).length = es.length := by simp; omega
          have hres := rel_write hH hid rfl hl (.arr (ofV zv).cells.length (es.take st ++ (List.replicate len (ofV zv) ++ es.drop (st + len)))) g5 g6
            (fun k hk => by simp only [rowSize, hcs, g3] at *; rw [g4]; exact hk) g7 g8 g9 (fun hm => ⟨hsz, c', tt, g3, by rw [hlen3, g4]; exact hbd, fun i hi => by
              rw [hlen3] at hi
              have hpos2 : ∀ j, j < (ofV zv).cells.length → (i + 1) * (ofV zv).cells.length = i * (ofV zv).cells.length + (ofV zv).cells.length := fun j _ => by rw [Nat.add_mul]; omega
              by_cases hlt : i < st
              · have e : (es.take st ++ (List.replicate len (ofV zv) ++ es.drop (st + len))).getD i .un = es.getD i .un := by
                  simp only [List.getD]
                  rw [List.getElem?_append_left (by simp; omega), List.getElem?_take, if_pos hlt]
                rw [e]
                obtain ⟨a1, a2, a3⟩ := hr i hi
                refine ⟨a1, a2, fun j hj => ⟨(a3 j hj).1, ?_⟩⟩
                have hp : i * (ofV zv).cells.length + j < st * (ofV zv).cells.length := by
                  have : (i + 1) * (ofV zv).cells.length ≤ st * (ofV zv).cells.length := Nat.mul_le_mul_right _ hlt
                  have := hpos2 j hj; omega
                rw [g10, if_neg (by omega)]
                exact (a3 j hj).2.mono hm
              · by_cases hlt2 : i < st + len
                · have e : (es.take st ++ (List.replicate len (ofV zv) ++ es.drop (st + len))).getD i .un = ofV zv := by
                    simp only [List.getD]
                    rw [List.getElem?_append_right (by simp; omega), List.getElem?_append_left (by simp; omega), List.getElem?_replicate, if_pos (by simp; omega)]; rfl
                  rw [e]
                  have h5 := (hrz2.2 (i - st) (by simp; omega))
                  have e6 : (List.replicate len (ofV zv)).getD (i - st) .un = ofV zv := by
                    simp only [List.getD]
                    rw [List.getElem?_replicate, if_pos (by omega)]; rfl
                  rw [e6] at h5
                  refine ⟨h5.1, rfl, fun j hj => ⟨(h5.2.2 j hj).1, ?_⟩⟩
                  have hsp : i * (ofV zv).cells.length = st * (ofV zv).cells.length + (i - st) * (ofV zv).cells.length := by rw [← Nat.add_mul]; congr 1; omega
                  have hp : (i - st) * (ofV zv).cells.length + j < len * (ofV zv).cells.length := by
                    have : (i - st + 1) * (ofV zv).cells.length ≤ len * (ofV zv).cells.length := Nat.mul_le_mul_right _ (by omega)
                    rw [Nat.add_mul] at this; omega
                  rw [g10, if_pos (by rw [hzsz]; omega)]
                  have h7 := (h5.2.2 j hj).2.mono hm
                  rw [getD_toArray] at h7
                  rw [show l.base + i * (ofV zv).cells.length + j - (l.base + st * (ofV zv).cells.length + 0) = (i - st) * (ofV zv).cells.length + j by omega]
                  exact h7
                · have e : (es.take st ++ (List.replicate len (ofV zv) ++ es.drop (st + len))).getD i .un = es.getD i .un := by
                    simp only [List.getD]
                    rw [List.getElem?_append_right (by simp; omega), List.getElem?_append_right (by simp; omega), List.getElem?_drop]
                    congr 2; simp; omega
                  rw [e]
                  obtain ⟨a1, a2, a3⟩ := hr i hi
                  refine ⟨a1, a2, fun j hj => ⟨(a3 j hj).1, ?_⟩⟩
                  have hp : (st + len) * (ofV zv).cells.length ≤ i * (ofV zv).cells.length := Nat.mul_le_mul_right _ (by omega)
                  rw [Nat.add_mul] at hp
                  rw [g10, if_neg (by rw [hzsz]; omega)]
                  exact (a3 j hj).2.mono hm⟩)
          have hz2 : (zeroValue elem).run P w = .ok zv w := hzrun
          by_cases hl0 : len = 0
          · subst hl0
            refine done hres.1 hres.2 rfl ?_
            have hw' : w' = w := by
              have : (Builtin.zeroCells zv.cells 0).toList = [] := List.eq_nil_of_length_eq_zero (by rw [hzsz]; simp)
              rw [this] at g2
              simp only [storeCells, Sem.run_pure] at g2
              injection g2 with _ e; exact e.symm
            rw [hw']
            simp [Builtin.clear_, ht0, ha0, run_underlying hut]
          · refine done hres.1 hres.2 rfl ?_
            have e : (⟨l.b, l.base + st * l.sz, none⟩ : Addr) = ⟨l.b, l.base + st * (ofV zv).cells.length, none⟩ := by rw [hsz]
            rw [e] at ha0
            obtain ⟨len', rfl⟩ : ∃ k, len = k + 1 := ⟨len - 1, by omega⟩
            simp [Builtin.clear_, ht0, ha0, run_underlying hut, hz2, g2]
        · cases h
      · cases h
    · cases h
      cases hx
      exact done hH (Grow.refl _ _ _) rfl (by simp [Builtin.clear_, ht0, ha0, run_underlying hut])
    · cases h
      cases hx
      exact done hH (Grow.refl _ _ _) rfl (by simp [Builtin.clear_, ht0, ha0, run_underlying hut])
    · cases h
  · cases h
end
end Go.Ab
