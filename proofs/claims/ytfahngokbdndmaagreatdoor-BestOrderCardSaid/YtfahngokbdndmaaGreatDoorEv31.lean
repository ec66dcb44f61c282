/- One of the texts that this claim stands on. -/
import Derived.Test.YtfahngokbdndmaaGreatDoorEv29
import Derived.Test.YtfahngokbdndmaaGreatDoorEv30
import Derived.Test.YtfahngokbdndmaaGreatDoorEv12
set_option linter.unusedSimpArgs false
set_option linter.unusedVariables false
namespace Go.Ab.Pd
open Go.Proofs
theorem FW.walkD {P : Program} {G : Gl} (hm : P.follows .mixedOrders = true) {ops : Array Oper} {imp : Nat → Bool} {A : Nat → Bool} {ex : Nat → List Nat} (hA : ∀ a, A a = true → a < ops.size) (hD : delayB ops A ex = true) {l : List (Nat × Bool)} (hB : ordGB (dl A ex ops) imp l = true) (hq : qtB (dl A ex ops) l = true)
    {rd : Option Nat} {n id : Nat} {k : List Item} {Q : Lv → (Nat → AV) → List AO → Prop} {ts : Nat → AV} {H : List AO}
    (h : symG P G Tab.nil (dl A ex ops) (wt (dl A ex ops)) imp (fun _ ts H => FW P G rd n k ts H Q) true l WT ts H) : FW P G rd n (.code (.region id ops true) :: k) ts H Q :=
  FW.drawD hm hA hD hB (symG_runG (fun _ _ h => h) l _ _ _ hq h)
def A3 : Nat → Bool := fun i => i == 6 || i == 7
def ex3 : Nat → List Nat := fun i => if i = 6 then [2, 5] else if i = 7 then [2, 5, 6] else []
def imp3 : Nat → Bool := fun i => i == 2 || i == 5
def ord3 : List (Nat × Bool) := [(0, true), (1, true), (3, true), (4, true), (2, false), (5, false), (6, false), (7, false), (8, false), (9, false)]
def imp4 : Nat → Bool := fun i => i == 2 || i == 5 || i == 6 || i == 9 || i == 16 || i == 19 || i == 21
def ord4 : List (Nat × Bool) := [(0, true), (1, true), (3, true), (4, true), (7, true), (8, true), (10, true), (11, true), (12, true), (13, true), (14, true), (15, true), (17, true), (18, true), (2, false), (5, false), (6, false), (9, false), (16, false), (19, false), (20, false), (21, false), (22, true)]
theorem ok19 : codeOk 57 (Tryz.f19.body.getD .skip) = true := by kernel_rfl
theorem ro19 : resOk 57 Tryz.f19.results = true := by kernel_rfl
theorem dr19 : todoDr [3,4] [.code (Tryz.f19.body.getD .skip)] = true := by kernel_rfl
theorem of_second {a b c x y z p q r x' y' z' p' q' r' n m : Int} {s t u s' t' u' : Bool} {sv : AV} {H : List AO} {M D S mi clock b0 : Nat} (hsv : sv.isCell = true ∧ sv.isEl = true ∧ sv.cells = [sv])
    (hM : H[M]? = some (.cells [.mp mi])) (hD : H[D]? = some (.cells [I a, I b, I c])) (hS : H[S]? = some (.cells [sv])) (hm : H[mi]? = some (.map [(b0, PL x y z p q r s t u, I m)] clock))
    (hsc : Pur Tryz.prog GG 18 [.agg [I a, I b, I c], PL x' y' z' p' q' r' s' t' u', sv] (.tup [I n, I 0])) (hmn : samePl x' y' z' p' q' r' x y z p q r s' t' u' s t u → m = n) {K : AV → List AO → Prop}
    (hK : ∀ H', (∀ j o, j ≠ mi → H[j]? = some o → H'[j]? = some o) → K (I n) H') :
    AC Tryz.prog GG 17 [PL x' y' z' p' q' r' s' t' u', .ptr M 0, .ptr D 0, .ptr S 0] H K := by
  by_cases hsame : samePl x' y' z' p' q' r' x y z p q r s' t' u' s t u
  · have e := hmn hsame
    subst e
    exact of_known hM hm hsame (hK _ fun j o _ h => by rw [List.getElem?_append_left (lt_of_get h)]; exact h)
  · refine of_new hsv hM hD hS hm (find1f hsame) hsc (hK _ fun j o hj h => ?_)
    rw [List.getElem?_set_ne (fun e => hj e.symm), List.getElem?_append_left (lt_of_get h)]; exact h
def cmp2 (a b c x y z p q r x' y' z' p' q' r' m n : Int) (s t u s' t' u' : Bool) : Int :=
  orV (cmpV m n) (orV (cmpV (atV a b c x y z) (atV a b c x' y' z')) (orV (lexV p q r p' q' r') (lexV (bitV s) (bitV t) (bitV u) (bitV s') (bitV t') (bitV u'))))
set_option maxHeartbeats 8000000 in
set_option maxRecDepth 400000 in
theorem compare2_ac {a b c x y z p q r x' y' z' p' q' r' m n : Int} {s t u s' t' u' : Bool} {sv : AV} (hsv : sv.isCell = true ∧ sv.isEl = true ∧ sv.cells = [sv]) {H : List AO} {D F M S mi : Nat}
    (hD : H[D]? = some (.cells [I a, I b, I c])) (hF : H[F]? = some (.cells [.fn 17 [] [.ptr M 0, .ptr D 0, .ptr S 0]])) (hM : H[M]? = some (.cells [.mp mi])) (hS : H[S]? = some (.cells [sv])) (hmi : H[mi]? = some (.map [] 0))
    (hs1 : Pur Tryz.prog GG 18 [.agg [I a, I b, I c], PL x y z p q r s t u, sv] (.tup [I m, I 0])) (hs2 : Pur Tryz.prog GG 18 [.agg [I a, I b, I c], PL x' y' z' p' q' r' s' t' u', sv] (.tup [I n, I 0]))
    (hmn : samePl x' y' z' p' q' r' x y z p q r s' t' u' s t u → m = n) {K : AV → List AO → Prop} (hK : ∀ H', K (I (cmp2 a b c x y z p q r x' y' z' p' q' r' m n s t u s' t' u')) H') :
    AC Tryz.prog GG 19 [PL x y z p q r s t u, PL x' y' z' p' q' r' s' t' u', .ptr D 0, .ptr F 0] H K := by
  have qD : ∀ l, (H ++ l)[D]? = some (.cells [I a, I b, I c]) := fun l => by rw [List.getElem?_append_left (lt_of_get hD)]; exact hD
  have qF : ∀ l, (H ++ l)[F]? = some (.cells [.fn 17 [] [.ptr M 0, .ptr D 0, .ptr S 0]]) := fun l => by rw [List.getElem?_append_left (lt_of_get hF)]; exact hF
  have qM : ∀ l, (H ++ l)[M]? = some (.cells [.mp mi]) := fun l => by rw [List.getElem?_append_left (lt_of_get hM)]; exact hM
  have qS : ∀ l, (H ++ l)[S]? = some (.cells [sv]) := fun l => by rw [List.getElem?_append_left (lt_of_get hS)]; exact hS
  have qmi : ∀ l, (H ++ l)[mi]? = some (.map [] 0) := fun l => by rw [List.getElem?_append_left (lt_of_get hmi)]; exact hmi
  have hmiL := lt_of_get hmi
  have nD : D ≠ mi := fun e => by rw [e, hmi] at hD; cases hD
  have nF : F ≠ mi := fun e => by rw [e, hmi] at hF; cases hF
  have nM : M ≠ mi := fun e => by rw [e, hmi] at hM; cases hM
  have nS : S ≠ mi := fun e => by rw [e, hmi] at hS; cases hS
  refine AC.of_body (c := (Tryz.f19.body.getD .skip)) Tryz.func19 rfl (by decide) ok19 ro19 (by exact (by decide : 4 ≤ 57)) ?_
  refine walk hmix T25_ok [3, 4] 3000 0 dr19 ?_
  delta Tryz.f19
  simp only [Option.getD_some]
  simp (maxSteps := 2000000) only [T25, T24, T23, T22, T21, T20, T19, T18, T17, T16, T13, T12, T11, T10, T9, T8, T7, T6, T5, T4, T3, T2, T1, T0, resA, resL, resVar, Option.some.injEq, kw0, List.size_toArray, List.length_cons, List.length_nil, Nat.zero_add, Nat.reduceAdd, List.range_succ, List.range_zero, List.nil_append, List.cons_append, List.getElem?_toArray, List.getElem?_cons_zero, Go.Ab.put, ↓opK_some, ↓guK_none, kw1, roOf, aop, ev, argTs, List.getD_cons_zero, AV.isEl.eq_2, ↓reduceIte, AV.cells.eq_1, ↓roK_ok, List.getElem?_cons_succ, upd, Nat.reduceEqDiff, List.getD_cons_succ, List.length_append, List.append_assoc, ofV, aload, ty0, rdCells, qD, Nat.le_refl, List.drop_zero, List.take_succ_cons, List.take_nil, Option.map_some, ty1, ptrAdd, Nat.add_zero, getA0, Nat.reduceLeDiff, List.take_zero, tcall, Tab.ext, g20, List.map_cons, List.map_nil, List.append_nil, getA, List.contains_cons, beq_self_eq_true, Nat.reduceBEq, List.contains_nil, Bool.false_or, Bool.true_or, true_and]
  refine FW.walkD hmix (A := A3) (ex := ex3) (imp := imp3) (l := ord3) (fun a ha => by unfold A3 at ha; simp at ha; rcases ha with rfl | rfl <;> decide) (by kernel_rfl) (by kernel_rfl) (by kernel_rfl) ?_
  simp only [ord3]
  simp (maxSteps := 2000000) only [symG_t, dl_get, A3, Nat.reduceBEq, Bool.or_self, List.getElem?_toArray, List.getElem?_cons_zero, Option.map_some, Go.Ab.put, ↓opJ_some, ↓guK_none, kw1, roOf, aop, ty1, ptrAdd, ev, upd, Nat.reduceEqDiff, ↓reduceIte, Nat.zero_add, ↓roK_ok, List.getElem?_cons_succ, aload, ty0, rdCells, getA0, Nat.reduceAdd, List.length_cons, List.length_nil, Nat.le_refl, List.drop_succ_cons, List.drop_zero, List.take_succ_cons, List.take_nil, getA, symG_f, imp3, beq_self_eq_true, Bool.or_false, wAdd_ap, WT_ap, wat, clOf, implies_true, and_self, reduceCtorEq, true_and, and_true, forall_const, Bool.or_true, dlO, ex3, List.map_cons, List.map_nil, List.nil_append, Bool.false_eq_true, false_implies, symG_nil, astore, Option.some.injEq, wrCells, splice, List.append_assoc, reEl, List.take_zero, List.length_append, List.cons_append, tcall, Tab.nil, ↓roK_call]
  refine AC.pur (bits_pur s t u) ?_
  simp (maxSteps := 2000000) only [getA0, List.getElem?_cons_zero, List.length_cons, List.length_nil, Nat.zero_add, Nat.reduceAdd, Nat.le_refl, ↓reduceIte, List.drop_succ_cons, List.drop_zero, List.take_succ_cons, List.take_nil, Option.map_some, implies_true, getA, List.getElem?_cons_succ, and_self, AV.isEl.eq_2, AV.cells.eq_1, List.drop_nil, List.append_nil, ↓roK_ok, symG_f, dl_get, A3, Nat.reduceBEq, Bool.or_self, List.getElem?_toArray, imp3, Bool.false_eq_true, wAdd_ap, WT_ap, wat, clOf, reduceCtorEq, aop, aload, ty0, rdCells, ev, upd, true_and, and_true, false_implies, Go.Ab.put, symG_nil, ↓opJ_some, ↓guK_none, kw1, roOf, astore, Nat.reduceEqDiff, Option.some.injEq, wrCells, splice, List.take_zero, List.nil_append]
  refine AC.pur (bits_pur s' t' u') ?_
  simp (maxSteps := 2000000) only [getA0, List.getElem?_cons_zero, List.length_cons, List.length_nil, Nat.zero_add, Nat.reduceAdd, Nat.le_refl, ↓reduceIte, List.drop_succ_cons, List.drop_zero, List.take_succ_cons, List.take_nil, Option.map_some, implies_true, getA, List.getElem?_cons_succ, and_self, AV.isEl.eq_2, AV.cells.eq_1, List.append_assoc, List.cons_append, List.nil_append, List.length_append, setA, List.set_cons_succ, List.set_cons_zero, Nat.add_assoc, List.drop_nil, List.append_nil, ↓roK_ok, symG_nil, true_and]
  refine walk hmix T25_ok [3, 4] 3000 0 (by kernel_rfl) ?_
  simp (maxSteps := 2000000) only [T25, T24, T23, T22, T21, T20, T19, T18, T17, T16, T13, T12, T11, T10, T9, T8, T7, T6, T5, T4, T3, T2, T1, T0, kw0, List.contains_cons, Nat.reduceBEq, beq_self_eq_true, List.contains_nil, Bool.true_or, Bool.or_true, List.size_toArray, List.length_cons, List.length_nil, Nat.zero_add, Nat.reduceAdd, List.range_succ, List.range_zero, List.nil_append, List.cons_append, kw1]
  refine FW.walkG hmix (imp := imp4) (l := ord4) (by kernel_rfl) (by kernel_rfl) ?_
  simp only [ord4]
  simp (maxSteps := 2000000) only [symG_t, List.getElem?_toArray, List.getElem?_cons_zero, Go.Ab.put, ↓opJ_some, ↓guK_none, kw1, roOf, aop, aload, ty2, rdCells, ev, upd, Nat.reduceEqDiff, ↓reduceIte, argTs, List.getD_cons_succ, List.getD_cons_zero, qF, Nat.zero_add, List.length_cons, List.length_nil, Nat.le_refl, List.drop_zero, List.take_succ_cons, List.take_nil, Option.map_some, ↓roK_ok, List.getElem?_cons_succ, ty1, ty0, getA0, Nat.reduceAdd, getA, ptrAdd, Nat.add_zero, aSlice, Option.map_none, aBound, Nat.reduceLeDiff, Nat.reduceLT, or_true, and_self, Nat.reduceMul, Nat.reduceSub, symG_f, imp4, beq_self_eq_true, Nat.reduceBEq, Bool.or_false, wAdd_ap, WT_ap, wat, clOf, reduceCtorEq, true_and, implies_true, and_true, forall_const, Bool.or_true, Bool.or_self, Bool.false_eq_true, false_implies, symG_nil, tcall, Tab.nil, List.map_cons, List.map_nil, ↓roK_call, AV.cells.eq_2, Nat.reducePow, slv, List.reduceReplicate, ofV, aFillEs, List.set_cons_zero, List.set_cons_succ]
  refine of_new hsv (M := M) (D := D) (S := S) (m := mi) (qM _) (qD _) (qS _) (qmi _) (find0 _) hs1 ?_
  generalize hH1 : List.set _ mi _ = H1
  have f1 : ∀ (j : Nat) (o : AO), j ≠ mi → (H ++ [AO.cells [I x, I y, I z, I p, I q, I r, B s, B t, B u], AO.cells [I x', I y', I z', I p', I q', I r', B s', B t', B u'], AO.cells [I (bitV s), I (bitV t), I (bitV u)], AO.cells [I (bitV s'), I (bitV t'), I (bitV u')]])[j]? = some o → H1[j]? = some o := fun j o hj h => by
    rw [← hH1, List.getElem?_set_ne (fun e => hj e.symm), List.getElem?_append_left (lt_of_get h)]; exact h
  have F1 := f1 F _ nF (qF _)
  have D1 := f1 D _ nD (qD _)
  have M1 := f1 M _ nM (qM _)
  have S1 := f1 S _ nS (qS _)
  have A1 := f1 H.length _ (by omega) (by rw [getA0]; rfl)
  have B1 := f1 (H.length + 1) _ (by omega) (by rw [getA]; rfl)
  have C1 := f1 (H.length + 2) _ (by omega) (by rw [getA]; rfl)
  have E1 := f1 (H.length + 3) _ (by omega) (by rw [getA]; rfl)
  have m1 : H1[mi]? = some (.map ([] ++ [(0, PL x y z p q r s t u, I m)]) (0 + 1)) := by rw [← hH1, List.getElem?_set_self (by simp; omega)]
  clear f1 hH1
  simp (maxSteps := 2000000) only [F1, List.length_cons, List.length_nil, Nat.zero_add, Nat.le_refl, ↓reduceIte, List.take_succ_cons, List.take_nil, Option.map_some, implies_true, A1, Nat.reduceAdd, and_self, B1, true_and]
  refine of_second hsv M1 D1 S1 m1 hs2 hmn ?_
  intro H2 f2
  have F2 := f2 F _ nF F1
  have A2 := f2 H.length _ (by omega) A1
  have B2 := f2 (H.length + 1) _ (by omega) B1
  have C2 := f2 (H.length + 2) _ (by omega) C1
  have E2 := f2 (H.length + 3) _ (by omega) E1
  clear f2
  simp (maxSteps := 2000000) only [F2, List.length_cons, List.length_nil, Nat.zero_add, Nat.le_refl, ↓reduceIte, List.take_succ_cons, List.take_nil, Option.map_some, implies_true, A2, Nat.reduceAdd, and_self, B2, true_and]
  refine AC.pur (cmp_pur m n) ?_
  simp (maxSteps := 2000000) only [F2, List.length_cons, List.length_nil, Nat.zero_add, Nat.le_refl, ↓reduceIte, List.take_succ_cons, List.take_nil, Option.map_some, implies_true, A2, Nat.reduceAdd, and_self, B2, AV.isEl.eq_2, AV.cells.eq_2, true_and]
  refine AC.pur (cmp_pur _ _) ?_
  simp (maxSteps := 2000000) only [F2, List.length_cons, List.length_nil, Nat.zero_add, Nat.le_refl, ↓reduceIte, List.take_succ_cons, List.take_nil, Option.map_some, implies_true, A2, Nat.reduceAdd, and_self, B2, AV.isEl.eq_2, AV.cells.eq_2, true_and]
  refine scmp3 A2 B2 ?_
  simp (maxSteps := 2000000) only [F2, List.length_cons, List.length_nil, Nat.zero_add, Nat.le_refl, ↓reduceIte, List.take_succ_cons, List.take_nil, Option.map_some, implies_true, A2, Nat.reduceAdd, and_self, B2, AV.isEl.eq_2, AV.cells.eq_2, true_and]
  refine scmp0 C2 E2 ?_
  simp (maxSteps := 2000000) only [F2, List.length_cons, List.length_nil, Nat.zero_add, Nat.le_refl, ↓reduceIte, List.take_succ_cons, List.take_nil, Option.map_some, implies_true, A2, Nat.reduceAdd, and_self, B2, AV.isEl.eq_2, AV.cells.eq_2, ↓roK_ok, symG_f, List.getElem?_toArray, List.getElem?_cons_succ, List.getElem?_cons_zero, imp4, Nat.reduceBEq, Bool.or_self, beq_self_eq_true, Bool.or_true, wAdd_ap, WT_ap, wat, clOf, reduceCtorEq, aop, aload, ty2, rdCells, ev, upd, Nat.reduceEqDiff, argTs, List.getD_cons_succ, List.getD_cons_zero, List.drop_zero, true_and, ty1, ty0, and_true, aSlice, Option.map_none, aBound, Nat.reduceLeDiff, Nat.reduceLT, or_true, Nat.reduceMul, Nat.add_zero, Nat.reduceSub, forall_const, Go.Ab.put, symG_t, ↓opJ_some, ↓guK_none, kw1, roOf, symG_nil, tcall, Tab.nil, List.map_cons, List.map_nil, ↓roK_call]
  have F3 : ∀ l, (H2 ++ l)[F]? = _ := fun l => (List.getElem?_append_left (lt_of_get F2)).trans F2
  have A3 : ∀ l, (H2 ++ l)[H.length]? = _ := fun l => (List.getElem?_append_left (lt_of_get A2)).trans A2
  have B3 : ∀ l, (H2 ++ l)[H.length + 1]? = _ := fun l => (List.getElem?_append_left (lt_of_get B2)).trans B2
  refine or_ac (by rw [getA0]; rfl) ?_
  simp (maxSteps := 2000000) only [F3, List.length_cons, List.length_nil, Nat.zero_add, Nat.le_refl, ↓reduceIte, List.take_succ_cons, List.take_nil, Option.map_some, implies_true, A3, Nat.reduceAdd, and_self, B3, true_and]
  refine walk hmix T25_ok [] 3000 0 (by kernel_rfl) ?_
  simp (maxSteps := 2000000) only [T25, T24, T23, T22, T21, T20, T19, T18, T17, T16, T13, T12, T11, T10, T9, T8, T7, T6, T5, T4, T3, T2, T1, T0, kw0, reduceCtorEq, or_true, upd, ↓reduceIte, true_and]
  exact ⟨_, rfl, hK _⟩
end Go.Ab.Pd

set_option linter.unusedSimpArgs false
set_option linter.unusedVariables false
namespace Go.Ab.Pd
open Go.Proofs
def imp5 : Nat → Bool := fun i => i == 2 || i == 5
def ord5 : List (Nat × Bool) := [(0, true), (1, true), (3, true), (4, true), (2, false), (5, false), (6, true), (7, true), (8, true)]
theorem ok5 : codeOk 50 (Tryz.f5.body.getD .skip) = true := by kernel_rfl
theorem ro5 : resOk 50 Tryz.f5.results = true := by kernel_rfl
theorem dr5 : todoDr [11] [.code (Tryz.f5.body.getD .skip)] = true := by kernel_rfl
noncomputable def scF {a b c : Int} {sv : AV} (qs : IsSet sv) (he : Pur Tryz.prog GG 8 [I (manyV a b c), sv] (I 0)) (x y z p q r : Int) (s t u : Bool) : Int :=
  if h : okPl a b c x y z p q r s t u then Classical.choose (score_ex h qs he) else 0
theorem scF_pur {a b c : Int} {sv : AV} (qs : IsSet sv) (he : Pur Tryz.prog GG 8 [I (manyV a b c), sv] (I 0)) {x y z p q r : Int} {s t u : Bool} (h : okPl a b c x y z p q r s t u) :
    Pur Tryz.prog GG 18 [.agg [I a, I b, I c], PL x y z p q r s t u, sv] (.tup [I (scF qs he x y z p q r s t u), I 0]) := by
  unfold scF
  rw [dif_pos h]
  exact Classical.choose_spec (score_ex h qs he)
theorem pchk_okPl {a b c x y z p q r : Int} {s t u : Bool} (h : pchk a b c x y z p q r s t u = 0) : okPl a b c x y z p q r s t u := by
  unfold pchk at h
  split at h
  · split at h
    · assumption
    · omega
  · exact absurd h (by assumption)
abbrev AR5 (a b c x y z p q r x' y' z' p' q' r' : Int) (s t u s' t' u' : Bool) (sv : AV) : List AV := [.agg [I a, I b, I c], PL x y z p q r s t u, PL x' y' z' p' q' r' s' t' u', sv]
set_option maxHeartbeats 8000000 in
set_option maxRecDepth 400000 in
theorem better_bad {a b c x y z p q r x' y' z' p' q' r' e : Int} {s t u s' t' u' : Bool} {sv : AV} (qs : IsSet sv) (he : Pur Tryz.prog GG 8 [I (manyV a b c), sv] (I e)) (hb : ¬(chk a b c = 0 ∧ e = 0)) :
    Pur Tryz.prog GG 5 (AR5 a b c x y z p q r x' y' z' p' q' r' s t u s' t' u' sv) (.tup [B false, I 8]) := by
  have hpu := qs.pur
  refine Pur.of_alone ggp (by simp [AV.purL, AV.pur, hpu]) (AC.of_body (c := (Tryz.f5.body.getD .skip)) Tryz.func5 rfl (by decide) ok5 ro5 (by exact (by decide : 4 ≤ 50)) ?_)
  refine walk hmix T25_ok [11] 3000 3 dr5 ?_
  delta Tryz.f5
  simp only [Option.getD_some]
  by_cases hc : chk a b c = 0
  · have h0 : ¬e = 0 := fun h => hb ⟨hc, h⟩
    simp (maxSteps := 2000000) only [T25, T24, T23, T22, T21, T20, T19, T18, T17, T16, T13, T12, T11, T10, T9, T8, T7, T6, T5, T4, T3, T2, T1, T0, resA, resL, resVar, Option.some.injEq, kw0, List.size_toArray, List.length_cons, List.length_nil, Nat.zero_add, Nat.reduceAdd, List.range_succ, List.range_zero, List.nil_append, List.cons_append, List.getElem?_toArray, List.getElem?_cons_zero, Go.Ab.put, ↓opK_some, ↓guK_none, kw1, roOf, aop, ev, argTs, List.getD_cons_zero, AV.isEl.eq_2, ↓reduceIte, AV.cells.eq_1, ↓roK_ok, List.getElem?_cons_succ, upd, Nat.reduceEqDiff, List.getD_cons_succ, ofV, aload, ty0, rdCells, Nat.le_refl, List.drop_zero, List.take_succ_cons, List.take_nil, Option.map_some, tcall, Tab.ext, g7, List.map_cons, List.map_nil, List.append_nil, hc, aBin, aBinI, bne_eq_decide', ne_eq, not_true_eq_false, decide_false, ↓guK_some, Option.bind_some, ↓tmK_some, ↓gsK_false, beq_self_eq_true, Tab.nil, ↓roK_call, true_and]
    refine AC.pur he ?_
    refine walk hmix T25_ok [11] 3000 3 (by kernel_rfl) ?_
    simp (maxSteps := 2000000) only [T25, T24, T23, T22, T21, T20, T19, T18, T17, T16, T13, T12, T11, T10, T9, T8, T7, T6, T5, T4, T3, T2, T1, T0, kw0, List.getElem?_toArray, List.getElem?_cons_succ, List.getElem?_cons_zero, Go.Ab.put, ↓opK_some, ↓guK_some, Option.bind_some, ↓tmK_some, kw1, upd, Nat.reduceEqDiff, ↓reduceIte, ↓gsK_false, beq_self_eq_true, roOf, aop, aBin, ev, ofV, aBinI, bne_eq_decide', ne_eq, h0, not_false_eq_true, decide_true, Option.map_some, ↓roK_ok, ↓guK_none, pickA, cond_false, ↓gdK_true, List.size_toArray, List.length_cons, List.length_nil, Nat.zero_add, Nat.reduceAdd, List.range_succ, List.range_zero, List.nil_append, List.cons_append, reduceCtorEq, or_true, true_and]
    exact ⟨_, rfl, done_pur rfl rfl⟩
  · simp (maxSteps := 2000000) only [T25, T24, T23, T22, T21, T20, T19, T18, T17, T16, T13, T12, T11, T10, T9, T8, T7, T6, T5, T4, T3, T2, T1, T0, resA, resL, resVar, Option.some.injEq, kw0, List.size_toArray, List.length_cons, List.length_nil, Nat.zero_add, Nat.reduceAdd, List.range_succ, List.range_zero, List.nil_append, List.cons_append, List.getElem?_toArray, List.getElem?_cons_zero, Go.Ab.put, ↓opK_some, ↓guK_none, kw1, roOf, aop, ev, argTs, List.getD_cons_zero, AV.isEl.eq_2, ↓reduceIte, AV.cells.eq_1, ↓roK_ok, List.getElem?_cons_succ, upd, Nat.reduceEqDiff, List.getD_cons_succ, ofV, aload, ty0, rdCells, Nat.le_refl, List.drop_zero, List.take_succ_cons, List.take_nil, Option.map_some, tcall, Tab.ext, g7, List.map_cons, List.map_nil, List.append_nil, aBin, aBinI, bne_eq_decide', ne_eq, hc, not_false_eq_true, decide_true, ↓guK_some, Option.bind_some, ↓tmK_some, ↓gsK_true, pickA, cond_true, ↓gdK_true, reduceCtorEq, or_true, true_and]
    exact ⟨_, rfl, done_pur rfl rfl⟩
set_option maxHeartbeats 8000000 in
set_option maxRecDepth 400000 in
theorem better_ok {a b c x y z p q r x' y' z' p' q' r' : Int} {s t u s' t' u' : Bool} {sv : AV} (qs : IsSet sv) (hd : okD a b c) (he : Pur Tryz.prog GG 8 [I (manyV a b c), sv] (I 0)) (h1 : pchk a b c x y z p q r s t u = 0) (h2 : pchk a b c x' y' z' p' q' r' s' t' u' = 0) :
    Pur Tryz.prog GG 5 (AR5 a b c x y z p q r x' y' z' p' q' r' s t u s' t' u' sv) (.tup [B (decide (cmp2 a b c x y z p q r x' y' z' p' q' r' (scF qs he x y z p q r s t u) (scF qs he x' y' z' p' q' r' s' t' u') s t u s' t' u' < 0)), I 0]) := by
  have hpu := qs.pur
  have hc := chk_ok.2 hd
  obtain ⟨b1, b2, b3⟩ := qs.cell
  refine Pur.of_alone ggp (by simp [AV.purL, AV.pur, hpu]) (AC.of_body (c := (Tryz.f5.body.getD .skip)) Tryz.func5 rfl (by decide) ok5 ro5 (by exact (by decide : 4 ≤ 50)) ?_)
  refine walk hmix T25_ok [11] 3000 3 dr5 ?_
  delta Tryz.f5
  simp only [Option.getD_some]
  simp (maxSteps := 2000000) only [T25, T24, T23, T22, T21, T20, T19, T18, T17, T16, T13, T12, T11, T10, T9, T8, T7, T6, T5, T4, T3, T2, T1, T0, resA, resL, resVar, Option.some.injEq, kw0, List.size_toArray, List.length_cons, List.length_nil, Nat.zero_add, Nat.reduceAdd, List.range_succ, List.range_zero, List.nil_append, List.cons_append, List.getElem?_toArray, List.getElem?_cons_zero, Go.Ab.put, ↓opK_some, ↓guK_none, kw1, roOf, aop, ev, argTs, List.getD_cons_zero, AV.isEl.eq_2, ↓reduceIte, AV.cells.eq_1, ↓roK_ok, List.getElem?_cons_succ, upd, Nat.reduceEqDiff, List.getD_cons_succ, ofV, aload, ty0, rdCells, Nat.le_refl, List.drop_zero, List.take_succ_cons, List.take_nil, Option.map_some, tcall, Tab.ext, g7, List.map_cons, List.map_nil, List.append_nil, hc, aBin, aBinI, bne_eq_decide', ne_eq, not_true_eq_false, decide_false, ↓guK_some, Option.bind_some, ↓tmK_some, ↓gsK_false, beq_self_eq_true, Tab.nil, ↓roK_call, true_and]
  refine AC.pur he ?_
  refine walk hmix T25_ok [11] 3000 3 (by kernel_rfl) ?_
  simp (maxSteps := 2000000) only [T25, T24, T23, T22, T21, T20, T19, T18, T17, T16, T13, T12, T11, T10, T9, T8, T7, T6, T5, T4, T3, T2, T1, T0, kw0, List.getElem?_toArray, List.getElem?_cons_succ, List.getElem?_cons_zero, Go.Ab.put, ↓opK_some, ↓guK_some, Option.bind_some, ↓tmK_some, kw1, upd, Nat.reduceEqDiff, ↓reduceIte, ↓gsK_false, beq_self_eq_true, roOf, aop, aBin, ev, ofV, aBinI, bne_eq_decide', ne_eq, not_true_eq_false, decide_false, Option.map_some, ↓roK_ok, ↓guK_none, pickA, cond_false, ↓gdK_false, List.size_toArray, List.length_cons, List.length_nil, Nat.zero_add, Nat.reduceAdd, List.range_succ, List.range_zero, List.nil_append, List.cons_append, aload, ty1, ty0, rdCells, Nat.le_refl, List.drop_zero, List.take_succ_cons, List.take_nil, AV.cells.eq_1, Nat.reduceMul, Nat.reducePow, Nat.reduceLeDiff, slv, List.reduceReplicate, argTs, List.map_cons, List.map_nil, aFillEs, AV.isEl.eq_2, Nat.reduceLT, and_self, List.set_cons_zero, List.set_cons_succ, Int.cast_ofNat_Int, Int.reduceLT, decide_true, ↓gdK_true, aInt, Int.reduceLE, Int.toNat_zero, Nat.add_zero, List.getD_cons_zero, astore, wrCells, splice, List.take_zero, List.drop_succ_cons, List.drop_nil, List.append_nil, tcall, Tab.ext, g9, h1, Int.zero_add, Int.reduceNeg, wrapL, Int.toNat_one, List.getD_cons_succ, h2, Int.reduceAdd, exitTo, reduceCtorEq, or_false, ↓exK_some, List.contains_cons, List.contains_nil, Bool.true_or, true_and]
  refine FW.walkG hmix (imp := imp5) (l := ord5) (by kernel_rfl) (by kernel_rfl) ?_
  simp only [ord5]
  simp (maxSteps := 2000000) only [symG_t, List.getElem?_toArray, List.getElem?_cons_zero, Go.Ab.put, ↓opJ_some, ↓guK_none, kw1, roOf, aop, aload, ty0, rdCells, ev, upd, Nat.reduceEqDiff, ↓reduceIte, Nat.zero_add, List.length_cons, List.length_nil, Nat.reduceAdd, Nat.le_refl, List.drop_zero, List.take_succ_cons, List.take_nil, Option.map_some, ↓roK_ok, List.getElem?_cons_succ, argTs, List.getD_cons_succ, List.getD_cons_zero, ty1, symG_f, imp5, beq_self_eq_true, Nat.reduceBEq, Bool.or_false, wAdd_ap, WT_ap, wat, clOf, reduceCtorEq, true_and, implies_true, and_true, forall_const, Bool.or_true, aBin, ofV, aBinI, tcall, Tab.nil, List.map_cons, List.map_nil, ↓roK_call]
  refine compare_ac ⟨b1, b2, b3⟩ ?_
  simp (maxSteps := 2000000) only [List.length_cons, List.length_nil, Nat.zero_add, Nat.reduceAdd, List.cons_append, List.nil_append, List.getElem?_cons_zero, Nat.le_refl, ↓reduceIte, List.take_succ_cons, List.take_nil, Option.map_some, implies_true, List.getElem?_cons_succ, and_self, ↓roK_call, true_and]
  refine compare2_ac ⟨b1, b2, b3⟩ (M := 9) (S := 7) (mi := 8) rfl rfl rfl rfl rfl (scF_pur qs he (pchk_okPl h1)) (scF_pur qs he (pchk_okPl h2)) (fun h => by obtain ⟨rfl, rfl, rfl, rfl, rfl, rfl, rfl, rfl, rfl⟩ := h; rfl) ?_
  intro H'
  refine ⟨⟨⟨fun h => absurd (h.symm.trans (by kernel_rfl)) Bool.false_ne_true, fun h => absurd (h.symm.trans (by kernel_rfl)) Bool.false_ne_true⟩, fun h => absurd (h.symm.trans (by kernel_rfl)) Bool.false_ne_true⟩, ?_⟩
  simp (maxSteps := 2000000) only [↓reduceIte, Option.map_some, ↓roK_ok, symG_t, List.getElem?_toArray, List.getElem?_cons_succ, List.getElem?_cons_zero, Go.Ab.put, ↓opJ_some, ↓guK_none, kw1, roOf, aop, ev, upd, ofV, symG_nil, true_and]
  refine walk hmix T25_ok [11] 3000 3 (by kernel_rfl) ?_
  simp (maxSteps := 2000000) only [T25, T24, T23, T22, T21, T20, T19, T18, T17, T16, T13, T12, T11, T10, T9, T8, T7, T6, T5, T4, T3, T2, T1, T0, kw0, reduceCtorEq, or_true, upd, Nat.reduceEqDiff, ↓reduceIte, true_and]
  exact ⟨_, rfl, done_pur rfl rfl⟩
set_option maxHeartbeats 8000000 in
set_option maxRecDepth 400000 in
theorem better_arg {a b c x y z p q r x' y' z' p' q' r' : Int} {s t u s' t' u' : Bool} {sv : AV} (qs : IsSet sv) (hd : okD a b c) (he : Pur Tryz.prog GG 8 [I (manyV a b c), sv] (I 0)) (h : ¬(pchk a b c x y z p q r s t u = 0 ∧ pchk a b c x' y' z' p' q' r' s' t' u' = 0)) :
    Pur Tryz.prog GG 5 (AR5 a b c x y z p q r x' y' z' p' q' r' s t u s' t' u' sv) (.tup [B false, I (if pchk a b c x y z p q r s t u = 0 then pchk a b c x' y' z' p' q' r' s' t' u' else pchk a b c x y z p q r s t u)]) := by
  have hpu := qs.pur
  have hc := chk_ok.2 hd
  refine Pur.of_alone ggp (by simp [AV.purL, AV.pur, hpu]) (AC.of_body (c := (Tryz.f5.body.getD .skip)) Tryz.func5 rfl (by decide) ok5 ro5 (by exact (by decide : 4 ≤ 50)) ?_)
  refine walk hmix T25_ok [11] 3000 3 dr5 ?_
  delta Tryz.f5
  simp only [Option.getD_some]
  simp (maxSteps := 2000000) only [T25, T24, T23, T22, T21, T20, T19, T18, T17, T16, T13, T12, T11, T10, T9, T8, T7, T6, T5, T4, T3, T2, T1, T0, resA, resL, resVar, Option.some.injEq, kw0, List.size_toArray, List.length_cons, List.length_nil, Nat.zero_add, Nat.reduceAdd, List.range_succ, List.range_zero, List.nil_append, List.cons_append, List.getElem?_toArray, List.getElem?_cons_zero, Go.Ab.put, ↓opK_some, ↓guK_none, kw1, roOf, aop, ev, argTs, List.getD_cons_zero, AV.isEl.eq_2, ↓reduceIte, AV.cells.eq_1, ↓roK_ok, List.getElem?_cons_succ, upd, Nat.reduceEqDiff, List.getD_cons_succ, ofV, aload, ty0, rdCells, Nat.le_refl, List.drop_zero, List.take_succ_cons, List.take_nil, Option.map_some, tcall, Tab.ext, g7, List.map_cons, List.map_nil, List.append_nil, hc, aBin, aBinI, bne_eq_decide', ne_eq, not_true_eq_false, decide_false, ↓guK_some, Option.bind_some, ↓tmK_some, ↓gsK_false, beq_self_eq_true, Tab.nil, ↓roK_call, true_and]
  refine AC.pur he ?_
  refine walk hmix T25_ok [11] 3000 3 (by kernel_rfl) ?_
  by_cases h1 : pchk a b c x y z p q r s t u = 0
  · have h2 : ¬pchk a b c x' y' z' p' q' r' s' t' u' = 0 := fun h2 => h ⟨h1, h2⟩
    rw [if_pos h1]
    simp (maxSteps := 2000000) only [T25, T24, T23, T22, T21, T20, T19, T18, T17, T16, T13, T12, T11, T10, T9, T8, T7, T6, T5, T4, T3, T2, T1, T0, kw0, List.getElem?_toArray, List.getElem?_cons_succ, List.getElem?_cons_zero, Go.Ab.put, ↓opK_some, ↓guK_some, Option.bind_some, ↓tmK_some, kw1, upd, Nat.reduceEqDiff, ↓reduceIte, ↓gsK_false, beq_self_eq_true, roOf, aop, aBin, ev, ofV, aBinI, bne_eq_decide', ne_eq, not_true_eq_false, decide_false, Option.map_some, ↓roK_ok, ↓guK_none, pickA, cond_false, ↓gdK_false, List.size_toArray, List.length_cons, List.length_nil, Nat.zero_add, Nat.reduceAdd, List.range_succ, List.range_zero, List.nil_append, List.cons_append, aload, ty1, ty0, rdCells, Nat.le_refl, List.drop_zero, List.take_succ_cons, List.take_nil, AV.cells.eq_1, Nat.reduceMul, Nat.reducePow, Nat.reduceLeDiff, slv, List.reduceReplicate, argTs, List.map_cons, List.map_nil, aFillEs, AV.isEl.eq_2, Nat.reduceLT, and_self, List.set_cons_zero, List.set_cons_succ, Int.cast_ofNat_Int, Int.reduceLT, decide_true, ↓gdK_true, aInt, Int.reduceLE, Int.toNat_zero, Nat.add_zero, List.getD_cons_zero, astore, wrCells, splice, List.take_zero, List.drop_succ_cons, List.drop_nil, List.append_nil, tcall, Tab.ext, g9, h1, Int.zero_add, Int.reduceNeg, wrapL, Int.toNat_one, List.getD_cons_succ, h2, not_false_eq_true, reduceCtorEq, or_true, true_and]
    exact ⟨_, rfl, done_pur rfl rfl⟩
  · rw [if_neg h1]
    simp (maxSteps := 2000000) only [T25, T24, T23, T22, T21, T20, T19, T18, T17, T16, T13, T12, T11, T10, T9, T8, T7, T6, T5, T4, T3, T2, T1, T0, kw0, List.getElem?_toArray, List.getElem?_cons_succ, List.getElem?_cons_zero, Go.Ab.put, ↓opK_some, ↓guK_some, Option.bind_some, ↓tmK_some, kw1, upd, Nat.reduceEqDiff, ↓reduceIte, ↓gsK_false, beq_self_eq_true, roOf, aop, aBin, ev, ofV, aBinI, bne_eq_decide', ne_eq, not_true_eq_false, decide_false, Option.map_some, ↓roK_ok, ↓guK_none, pickA, cond_false, ↓gdK_false, List.size_toArray, List.length_cons, List.length_nil, Nat.zero_add, Nat.reduceAdd, List.range_succ, List.range_zero, List.nil_append, List.cons_append, aload, ty1, ty0, rdCells, Nat.le_refl, List.drop_zero, List.take_succ_cons, List.take_nil, AV.cells.eq_1, Nat.reduceMul, Nat.reducePow, Nat.reduceLeDiff, slv, List.reduceReplicate, argTs, List.map_cons, List.map_nil, aFillEs, AV.isEl.eq_2, Nat.reduceLT, and_self, List.set_cons_zero, List.set_cons_succ, Int.cast_ofNat_Int, Int.reduceLT, decide_true, ↓gdK_true, aInt, Int.reduceLE, Int.toNat_zero, Nat.add_zero, List.getD_cons_zero, astore, wrCells, splice, List.take_zero, List.drop_succ_cons, List.drop_nil, List.append_nil, tcall, Tab.ext, g9, h1, not_false_eq_true, reduceCtorEq, or_true, true_and]
    exact ⟨_, rfl, done_pur rfl rfl⟩
end Go.Ab.Pd

set_option linter.unusedSimpArgs false
set_option linter.unusedVariables false
namespace Go.Ab.Pd
open Go.Proofs
theorem cmpV_neg (m n : Int) : cmpV n m = -cmpV m n := by unfold cmpV; split <;> split <;> (try split) <;> omega
theorem cmpV_zero {m n : Int} : cmpV m n = 0 ↔ m = n := by unfold cmpV; split <;> (try split) <;> omega
theorem orV_neg (a b : Int) : orV (-a) (-b) = -orV a b := by unfold orV; split <;> split <;> omega
theorem orV_zero {a b : Int} : orV a b = 0 ↔ a = 0 ∧ b = 0 := by unfold orV; split <;> omega
def Tri (p q r : Int) : Prop := (p < 0 → q ≤ 0 → r < 0) ∧ (p ≤ 0 → q < 0 → r < 0) ∧ (p = 0 → q = 0 → r = 0)
theorem Tri.cmp (l m n : Int) : Tri (cmpV l m) (cmpV m n) (cmpV l n) := by
  unfold Tri cmpV
  split <;> (try split) <;> (try split) <;> (try split) <;> (try split) <;> (try split) <;> omega
theorem Tri.or {a1 a2 a3 b1 b2 b3 : Int} (h : Tri a1 a2 a3) (k : Tri b1 b2 b3) : Tri (orV a1 b1) (orV a2 b2) (orV a3 b3) := by
  unfold Tri orV at *
  obtain ⟨h1, h2, h3⟩ := h
  obtain ⟨k1, k2, k3⟩ := k
  split <;> split <;> split <;> omega
theorem lexV_neg (p q r p' q' r' : Int) : lexV p' q' r' p q r = -lexV p q r p' q' r' := by
  unfold lexV
  rw [cmpV_neg p p', cmpV_neg q q', cmpV_neg r r', orV_neg, orV_neg]
theorem lexV_zero {p q r p' q' r' : Int} : lexV p q r p' q' r' = 0 ↔ p = p' ∧ q = q' ∧ r = r' := by
  unfold lexV; rw [orV_zero, orV_zero, cmpV_zero, cmpV_zero, cmpV_zero]
theorem Tri.lex (p q r p' q' r' p'' q'' r'' : Int) : Tri (lexV p q r p' q' r') (lexV p' q' r' p'' q'' r'') (lexV p q r p'' q'' r'') := (Tri.cmp _ _ _).or ((Tri.cmp _ _ _).or (Tri.cmp _ _ _))
theorem cmp2_neg (a b c x y z p q r x' y' z' p' q' r' m n : Int) (s t u s' t' u' : Bool) : cmp2 a b c x' y' z' p' q' r' x y z p q r n m s' t' u' s t u = -cmp2 a b c x y z p q r x' y' z' p' q' r' m n s t u s' t' u' := by
  unfold cmp2
  rw [cmpV_neg m n, cmpV_neg (atV a b c x y z), lexV_neg p q r, lexV_neg (bitV s), orV_neg, orV_neg, orV_neg]
theorem Tri.cmp2 (a b c x y z p q r x' y' z' p' q' r' x2 y2 z2 p2 q2 r2 l m n : Int) (s t u s' t' u' s2 t2 u2 : Bool) :
    Tri (Pd.cmp2 a b c x y z p q r x' y' z' p' q' r' l m s t u s' t' u') (Pd.cmp2 a b c x' y' z' p' q' r' x2 y2 z2 p2 q2 r2 m n s' t' u' s2 t2 u2) (Pd.cmp2 a b c x y z p q r x2 y2 z2 p2 q2 r2 l n s t u s2 t2 u2) :=
  (Tri.cmp _ _ _).or ((Tri.cmp _ _ _).or ((Tri.lex _ _ _ _ _ _ _ _ _).or (Tri.lex _ _ _ _ _ _ _ _ _)))
theorem bitV_inj {s t : Bool} (h : bitV s = bitV t) : s = t := by cases s <;> cases t <;> first | rfl | (simp [bitV] at h)
theorem mul_inj_of {a x u x' u' : Int} (h1 : 0 ≤ x) (h2 : x < a) (h3 : 0 ≤ x') (h4 : x' < a) (e : x + a * u = x' + a * u') : x = x' ∧ u = u' := by
  have e1 : (x + a * u) / a = u := by rw [Int.add_mul_ediv_left _ _ (by omega), Int.ediv_eq_zero_of_lt h1 h2]; omega
  have e2 : (x' + a * u') / a = u' := by rw [Int.add_mul_ediv_left _ _ (by omega), Int.ediv_eq_zero_of_lt h3 h4]; omega
  have hu : u = u' := by rw [← e1, ← e2, e]
  subst hu
  exact ⟨by omega, rfl⟩
theorem at_inj {a b c x y z x' y' z' : Int} (hd : okD a b c) (h : okP a b c x y z) (h' : okP a b c x' y' z') (e : atV a b c x y z = atV a b c x' y' z') : x = x' ∧ y = y' ∧ z = z' := by
  rw [atV, atV, if_pos ⟨hd, h⟩, if_pos ⟨hd, h'⟩] at e
  unfold okP at h h'
  have e2 : x + a * (y + b * z) = x' + a * (y' + b * z') := by
    rw [Int.mul_add, Int.mul_add, ← Int.mul_assoc, ← Int.mul_assoc]; omega
  obtain ⟨h1, h2⟩ := mul_inj_of (by omega) (by omega) (by omega) (by omega) e2
  obtain ⟨h3, h4⟩ := mul_inj_of (by omega) (by omega) (by omega) (by omega) h2
  exact ⟨h1, h3, h4⟩
theorem cmp2_zero {a b c x y z p q r x' y' z' p' q' r' m n : Int} {s t u s' t' u' : Bool} (h : okPl a b c x y z p q r s t u) (h' : okPl a b c x' y' z' p' q' r' s' t' u') (e : cmp2 a b c x y z p q r x' y' z' p' q' r' m n s t u s' t' u' = 0) : samePl x y z p q r x' y' z' p' q' r' s t u s' t' u' := by
  unfold cmp2 at e
  rw [orV_zero, orV_zero, orV_zero, cmpV_zero, cmpV_zero, lexV_zero, lexV_zero] at e
  obtain ⟨_, e1, ⟨e2, e3, e4⟩, e5, e6, e7⟩ := e
  have b1 := h.2.1
  have b2 := h'.2.1
  unfold okB ok1 at b1 b2
  obtain ⟨f1, f2, f3⟩ := at_inj h.1 (by unfold okP; omega) (by unfold okP; omega) e1
  exact ⟨f1, f2, f3, e2, e3, e4, bitV_inj e5, bitV_inj e6, bitV_inj e7⟩
theorem cmp2_self (a b c x y z p q r m : Int) (s t u : Bool) : cmp2 a b c x y z p q r x y z p q r m m s t u s t u = 0 := by
  unfold cmp2
  rw [orV_zero, orV_zero, orV_zero, cmpV_zero, cmpV_zero, lexV_zero, lexV_zero]
  exact ⟨rfl, rfl, ⟨rfl, rfl, rfl⟩, rfl, rfl, rfl⟩
theorem eqPlS0 (x y z p q r x' y' z' p' q' r' : Int) (s t u s' t' u' : Bool) : aEqS Tryz.prog 28 (PL x y z p q r s t u) (PL x' y' z' p' q' r' s' t' u') =
    some ((((x == x' && (y == y' && (z == z' && true))) && ((p == p' && (q == q' && (r == r' && true))) && true))) && ((s == s' && (t == t' && (u == u' && true))) && true)) := by kernel_rfl
theorem eqPlS (x y z p q r x' y' z' p' q' r' : Int) (s t u s' t' u' : Bool) : aEqS Tryz.prog 28 (PL x y z p q r s t u) (PL x' y' z' p' q' r' s' t' u') = some (decide (samePl x y z p q r x' y' z' p' q' r' s t u s' t' u')) := by
  rw [eqPlS0, Option.some.injEq, Bool.eq_iff_iff, decide_eq_true_iff]
  simp [samePl, and_assoc]
theorem bne_tt : (true != true) = false := rfl
theorem bne_ff : (false != false) = false := rfl
theorem ok3 : codeOk 104 (Tryz.f3.body.getD .skip) = true := by kernel_rfl
theorem ro3 : resOk 104 Tryz.f3.results = true := by kernel_rfl
theorem dr3 : todoDr [] [.code (Tryz.f3.body.getD .skip)] = true := by kernel_rfl
set_option maxHeartbeats 8000000 in
set_option maxRecDepth 400000 in
theorem order_walk (hal : Pur Tryz.prog GG 4 [] (B true)) {d sv : AV} {x y z p q r x' y' z' p' q' r' x2 y2 z2 p2 q2 r2 e1 e2 e3 e4 L : Int} {s t u s' t' u' s2 t2 u2 b1 b2 b3 b4 : Bool} {a0 b0 c0 : Int} (hd : d = .agg [I a0, I b0, I c0]) (qs : IsSet sv) (hL : aLen Tryz.prog 30 sv = some L)
    (p1 : Pur Tryz.prog GG 5 [d, PL x y z p q r s t u, PL x' y' z' p' q' r' s' t' u', sv] (.tup [B b1, I e1]))
    (p2' : Pur Tryz.prog GG 5 [d, PL x' y' z' p' q' r' s' t' u', PL x y z p q r s t u, sv] (.tup [B b2, I e2]))
    (p3 : Pur Tryz.prog GG 5 [d, PL x' y' z' p' q' r' s' t' u', PL x2 y2 z2 p2 q2 r2 s2 t2 u2, sv] (.tup [B b3, I e3]))
    (p4 : Pur Tryz.prog GG 5 [d, PL x y z p q r s t u, PL x2 y2 z2 p2 q2 r2 s2 t2 u2, sv] (.tup [B b4, I e4]))
    (f1 : ¬(e1 = 0 ∧ e2 = 0) → b1 = false ∧ b2 = false) (f2 : e1 = 0 → e2 = 0 → (samePl x y z p q r x' y' z' p' q' r' s t u s' t' u' ↔ (b1 = false ∧ b2 = false)) ∧ ¬(b1 = true ∧ b2 = true))
    (f3 : e1 = 0 → e2 = 0 → e3 = 0 → e4 = 0 → b1 = true → b3 = true → b4 = true) :
    Pur Tryz.prog GG 3 [d, PL x y z p q r s t u, PL x' y' z' p' q' r' s' t' u', PL x2 y2 z2 p2 q2 r2 s2 t2 u2, sv] (B true) := by
  subst hd
  have hpu := qs.pur
  have hq := eqPlS x y z p q r x' y' z' p' q' r' s t u s' t' u'
  refine Pur.of_alone ggp (by simp [AV.purL, AV.pur, hpu]) (AC.of_body (c := (Tryz.f3.body.getD .skip)) Tryz.func3 rfl (by decide) ok3 ro3 (by exact (by decide : 5 ≤ 104)) ?_)
  refine walk hmix TOk.nil [] 3000 0 dr3 ?_
  delta Tryz.f3
  simp only [Option.getD_some]
  simp (maxSteps := 2000000) only [resA, resL, resVar, Option.some.injEq, kw0, List.size_toArray, List.length_cons, List.length_nil, Nat.zero_add, Nat.reduceAdd, List.range_succ, List.range_zero, List.nil_append, List.cons_append, List.getElem?_toArray, List.getElem?_cons_zero, Go.Ab.put, ↓opK_some, ↓guK_none, kw1, roOf, aop, ev, argTs, List.getD_cons_zero, AV.isEl.eq_2, ↓reduceIte, AV.cells.eq_1, ↓roK_ok, List.getElem?_cons_succ, upd, Nat.reduceEqDiff, List.getD_cons_succ, ofV, tcall, Tab.nil, List.map_nil, ↓roK_call, true_and]
  refine AC.pur hal ?_
  refine walk hmix TOk.nil [] 3000 0 (by kernel_rfl) ?_
  by_cases hl : 100 < L
  · simp (maxSteps := 2000000) only [kw0, List.getElem?_toArray, List.getElem?_cons_succ, List.getElem?_cons_zero, Go.Ab.put, ↓opK_some, ↓guK_none, kw1, roOf, aop, ev, upd, ↓reduceIte, ↓roK_ok, List.size_toArray, List.length_cons, List.length_nil, Nat.zero_add, Nat.reduceAdd, List.range_succ, List.range_zero, List.nil_append, List.cons_append, Nat.reduceEqDiff, argTs, List.getD_cons_succ, List.getD_cons_zero, hL, Option.map_some, aBin, ofV, aBinI, hl, decide_true, ↓guK_some, Option.bind_some, ↓tmK_some, ↓gsK_true, pickA, cond_true, ↓gdK_true, reduceCtorEq, or_true, true_and]
    exact ⟨_, rfl, done_pur rfl rfl⟩
  · simp (maxSteps := 2000000) only [kw0, List.getElem?_toArray, List.getElem?_cons_succ, List.getElem?_cons_zero, Go.Ab.put, ↓opK_some, ↓guK_none, kw1, roOf, aop, ev, upd, ↓reduceIte, ↓roK_ok, List.size_toArray, List.length_cons, List.length_nil, Nat.zero_add, Nat.reduceAdd, List.range_succ, List.range_zero, List.nil_append, List.cons_append, Nat.reduceEqDiff, argTs, List.getD_cons_succ, List.getD_cons_zero, hL, Option.map_some, aBin, ofV, aBinI, hl, decide_false, ↓guK_some, Option.bind_some, ↓tmK_some, ↓gsK_false, beq_self_eq_true, Bool.not_true, pickA, cond_false, ↓gdK_false, aload, ty0, rdCells, Nat.le_refl, List.drop_zero, List.take_succ_cons, List.take_nil, ty1, tcall, Tab.nil, List.map_cons, List.map_nil, ↓roK_call, true_and]
    refine AC.pur p1 ?_
    refine walk hmix TOk.nil [] 3000 0 (by kernel_rfl) ?_
    simp (maxSteps := 2000000) only [kw0, List.getElem?_toArray, List.getElem?_cons_succ, List.getElem?_cons_zero, Go.Ab.put, ↓opK_some, ↓guK_none, kw1, roOf, aop, ev, upd, ↓reduceIte, ↓roK_ok, Option.map_some, Nat.reduceEqDiff, List.size_toArray, List.length_cons, List.length_nil, Nat.zero_add, Nat.reduceAdd, List.range_succ, List.range_zero, List.nil_append, List.cons_append, aload, ty0, rdCells, Nat.le_refl, List.drop_zero, List.take_succ_cons, List.take_nil, ty1, argTs, List.getD_cons_succ, List.getD_cons_zero, tcall, Tab.nil, List.map_cons, List.map_nil, ↓roK_call, true_and]
    refine AC.pur p2' ?_
    refine walk hmix TOk.nil [] 3000 0 (by kernel_rfl) ?_
    by_cases he : e1 = 0 ∧ e2 = 0
    · obtain ⟨h1, h2⟩ := he
      subst h1
      subst h2
      obtain ⟨k1, k2⟩ := f2 rfl rfl
      by_cases hs : samePl x y z p q r x' y' z' p' q' r' s t u s' t' u'
      · obtain ⟨rfl, rfl⟩ := k1.1 hs
        have hq' := hq
        rw [decide_eq_true hs] at hq'
        simp (maxSteps := 2000000) only [kw0, List.getElem?_toArray, List.getElem?_cons_succ, List.getElem?_cons_zero, Go.Ab.put, ↓opK_some, ↓guK_none, kw1, roOf, aop, ev, upd, ↓reduceIte, ↓roK_ok, Option.map_some, Nat.reduceEqDiff, List.size_toArray, List.length_cons, List.length_nil, Nat.zero_add, Nat.reduceAdd, List.range_succ, List.range_zero, List.nil_append, List.cons_append, aBin, ofV, aBinI, bne_eq_decide', ne_eq, not_true_eq_false, decide_false, ↓guK_some, Option.bind_some, ↓tmK_some, ↓gsK_false, beq_self_eq_true, pickA, cond_false, ↓gdK_false, aload, ty1, ty0, rdCells, Nat.le_refl, List.drop_zero, List.take_succ_cons, List.take_nil, aBinAgg, hq', Bool.not_false, ↓gsK_true, cond_true, bne_tt, argTs, List.getD_cons_succ, List.getD_cons_zero, tcall, Tab.nil, List.map_cons, List.map_nil, ↓roK_call, true_and]
        refine AC.pur p3 ?_
        refine walk hmix TOk.nil [] 3000 0 (by kernel_rfl) ?_
        simp (maxSteps := 2000000) only [kw0, List.getElem?_toArray, List.getElem?_cons_succ, List.getElem?_cons_zero, Go.Ab.put, ↓opK_some, ↓guK_none, kw1, roOf, aop, ev, upd, ↓reduceIte, ↓roK_ok, Option.map_some, Nat.reduceEqDiff, List.size_toArray, List.length_cons, List.length_nil, Nat.zero_add, Nat.reduceAdd, List.range_succ, List.range_zero, List.nil_append, List.cons_append, aload, ty0, rdCells, Nat.le_refl, List.drop_zero, List.take_succ_cons, List.take_nil, ty1, argTs, List.getD_cons_succ, List.getD_cons_zero, tcall, Tab.nil, List.map_cons, List.map_nil, ↓roK_call, true_and]
        refine AC.pur p4 ?_
        refine walk hmix TOk.nil [] 3000 0 (by kernel_rfl) ?_
        by_cases h3 : e3 = 0
        · by_cases h4 : e4 = 0
          · simp (maxSteps := 2000000) only [h3, h4, kw0, List.getElem?_toArray, List.getElem?_cons_succ, List.getElem?_cons_zero, Go.Ab.put, ↓opK_some, ↓guK_none, kw1, roOf, aop, ev, upd, ↓reduceIte, ↓roK_ok, Option.map_some, Nat.reduceEqDiff, List.size_toArray, List.length_cons, List.length_nil, Nat.zero_add, Nat.reduceAdd, List.range_succ, List.range_zero, List.nil_append, List.cons_append, aBin, ofV, aBinI, bne_eq_decide', ne_eq, not_true_eq_false, decide_false, ↓guK_some, Option.bind_some, ↓tmK_some, ↓gsK_false, beq_self_eq_true, pickA, cond_false, ↓gdK_false, Bool.not_false, ↓gsK_true, cond_true, reduceCtorEq, or_true, true_and]
            exact ⟨_, rfl, done_pur rfl rfl⟩
          · simp (maxSteps := 2000000) only [h3, kw0, List.getElem?_toArray, List.getElem?_cons_succ, List.getElem?_cons_zero, Go.Ab.put, ↓opK_some, ↓guK_none, kw1, roOf, aop, ev, upd, ↓reduceIte, ↓roK_ok, Option.map_some, Nat.reduceEqDiff, List.size_toArray, List.length_cons, List.length_nil, Nat.zero_add, Nat.reduceAdd, List.range_succ, List.range_zero, List.nil_append, List.cons_append, aBin, ofV, aBinI, bne_eq_decide', ne_eq, not_true_eq_false, decide_false, ↓guK_some, Option.bind_some, ↓tmK_some, ↓gsK_false, beq_self_eq_true, h4, not_false_eq_true, decide_true, pickA, cond_false, ↓gdK_true, reduceCtorEq, or_true, true_and]
            exact ⟨_, rfl, done_pur rfl rfl⟩
        · simp (maxSteps := 2000000) only [kw0, List.getElem?_toArray, List.getElem?_cons_succ, List.getElem?_cons_zero, Go.Ab.put, ↓opK_some, ↓guK_none, kw1, roOf, aop, ev, upd, ↓reduceIte, ↓roK_ok, Option.map_some, Nat.reduceEqDiff, List.size_toArray, List.length_cons, List.length_nil, Nat.zero_add, Nat.reduceAdd, List.range_succ, List.range_zero, List.nil_append, List.cons_append, aBin, ofV, aBinI, bne_eq_decide', ne_eq, h3, not_false_eq_true, decide_true, ↓guK_some, Option.bind_some, ↓tmK_some, ↓gsK_true, pickA, cond_true, ↓gdK_true, reduceCtorEq, or_true, true_and]
          exact ⟨_, rfl, done_pur rfl rfl⟩
      · have hq' := hq
        rw [decide_eq_false hs] at hq'
        cases b1
        · cases b2
          · exact absurd (k1.2 ⟨rfl, rfl⟩) hs
          · simp (maxSteps := 2000000) only [kw0, List.getElem?_toArray, List.getElem?_cons_succ, List.getElem?_cons_zero, Go.Ab.put, ↓opK_some, ↓guK_none, kw1, roOf, aop, ev, upd, ↓reduceIte, ↓roK_ok, Option.map_some, Nat.reduceEqDiff, List.size_toArray, List.length_cons, List.length_nil, Nat.zero_add, Nat.reduceAdd, List.range_succ, List.range_zero, List.nil_append, List.cons_append, aBin, ofV, aBinI, bne_eq_decide', ne_eq, not_true_eq_false, decide_false, ↓guK_some, Option.bind_some, ↓tmK_some, ↓gsK_false, beq_self_eq_true, pickA, cond_false, ↓gdK_false, aload, ty1, ty0, rdCells, Nat.le_refl, List.drop_zero, List.take_succ_cons, List.take_nil, aBinAgg, hq', Bool.not_false, ↓gsK_true, Bool.not_true, cond_true, bne_ff, argTs, List.getD_cons_succ, List.getD_cons_zero, tcall, Tab.nil, List.map_cons, List.map_nil, ↓roK_call, true_and]
            refine AC.pur p3 ?_
            refine walk hmix TOk.nil [] 3000 0 (by kernel_rfl) ?_
            simp (maxSteps := 2000000) only [kw0, List.getElem?_toArray, List.getElem?_cons_succ, List.getElem?_cons_zero, Go.Ab.put, ↓opK_some, ↓guK_none, kw1, roOf, aop, ev, upd, ↓reduceIte, ↓roK_ok, Option.map_some, Nat.reduceEqDiff, List.size_toArray, List.length_cons, List.length_nil, Nat.zero_add, Nat.reduceAdd, List.range_succ, List.range_zero, List.nil_append, List.cons_append, aload, ty0, rdCells, Nat.le_refl, List.drop_zero, List.take_succ_cons, List.take_nil, ty1, argTs, List.getD_cons_succ, List.getD_cons_zero, tcall, Tab.nil, List.map_cons, List.map_nil, ↓roK_call, true_and]
            refine AC.pur p4 ?_
            refine walk hmix TOk.nil [] 3000 0 (by kernel_rfl) ?_
            by_cases h3 : e3 = 0
            · by_cases h4 : e4 = 0
              · simp (maxSteps := 2000000) only [h3, h4, kw0, List.getElem?_toArray, List.getElem?_cons_succ, List.getElem?_cons_zero, Go.Ab.put, ↓opK_some, ↓guK_none, kw1, roOf, aop, ev, upd, ↓reduceIte, ↓roK_ok, Option.map_some, Nat.reduceEqDiff, List.size_toArray, List.length_cons, List.length_nil, Nat.zero_add, Nat.reduceAdd, List.range_succ, List.range_zero, List.nil_append, List.cons_append, aBin, ofV, aBinI, bne_eq_decide', ne_eq, not_true_eq_false, decide_false, ↓guK_some, Option.bind_some, ↓tmK_some, ↓gsK_false, beq_self_eq_true, pickA, cond_false, ↓gdK_false, Bool.not_false, ↓gsK_true, cond_true, reduceCtorEq, or_true, true_and]
                exact ⟨_, rfl, done_pur rfl rfl⟩
              · simp (maxSteps := 2000000) only [h3, kw0, List.getElem?_toArray, List.getElem?_cons_succ, List.getElem?_cons_zero, Go.Ab.put, ↓opK_some, ↓guK_none, kw1, roOf, aop, ev, upd, ↓reduceIte, ↓roK_ok, Option.map_some, Nat.reduceEqDiff, List.size_toArray, List.length_cons, List.length_nil, Nat.zero_add, Nat.reduceAdd, List.range_succ, List.range_zero, List.nil_append, List.cons_append, aBin, ofV, aBinI, bne_eq_decide', ne_eq, not_true_eq_false, decide_false, ↓guK_some, Option.bind_some, ↓tmK_some, ↓gsK_false, beq_self_eq_true, h4, not_false_eq_true, decide_true, pickA, cond_false, ↓gdK_true, reduceCtorEq, or_true, true_and]
                exact ⟨_, rfl, done_pur rfl rfl⟩
            · simp (maxSteps := 2000000) only [kw0, List.getElem?_toArray, List.getElem?_cons_succ, List.getElem?_cons_zero, Go.Ab.put, ↓opK_some, ↓guK_none, kw1, roOf, aop, ev, upd, ↓reduceIte, ↓roK_ok, Option.map_some, Nat.reduceEqDiff, List.size_toArray, List.length_cons, List.length_nil, Nat.zero_add, Nat.reduceAdd, List.range_succ, List.range_zero, List.nil_append, List.cons_append, aBin, ofV, aBinI, bne_eq_decide', ne_eq, h3, not_false_eq_true, decide_true, ↓guK_some, Option.bind_some, ↓tmK_some, ↓gsK_true, pickA, cond_true, ↓gdK_true, reduceCtorEq, or_true, true_and]
              exact ⟨_, rfl, done_pur rfl rfl⟩
        · cases b2
          · simp (maxSteps := 2000000) only [kw0, List.getElem?_toArray, List.getElem?_cons_succ, List.getElem?_cons_zero, Go.Ab.put, ↓opK_some, ↓guK_none, kw1, roOf, aop, ev, upd, ↓reduceIte, ↓roK_ok, Option.map_some, Nat.reduceEqDiff, List.size_toArray, List.length_cons, List.length_nil, Nat.zero_add, Nat.reduceAdd, List.range_succ, List.range_zero, List.nil_append, List.cons_append, aBin, ofV, aBinI, bne_eq_decide', ne_eq, not_true_eq_false, decide_false, ↓guK_some, Option.bind_some, ↓tmK_some, ↓gsK_false, beq_self_eq_true, pickA, cond_false, ↓gdK_false, aload, ty1, ty0, rdCells, Nat.le_refl, List.drop_zero, List.take_succ_cons, List.take_nil, aBinAgg, hq', Bool.not_true, bne_ff, ↓gsK_true, cond_true, argTs, List.getD_cons_succ, List.getD_cons_zero, tcall, Tab.nil, List.map_cons, List.map_nil, ↓roK_call, true_and]
            refine AC.pur p3 ?_
            refine walk hmix TOk.nil [] 3000 0 (by kernel_rfl) ?_
            simp (maxSteps := 2000000) only [kw0, List.getElem?_toArray, List.getElem?_cons_succ, List.getElem?_cons_zero, Go.Ab.put, ↓opK_some, ↓guK_none, kw1, roOf, aop, ev, upd, ↓reduceIte, ↓roK_ok, Option.map_some, Nat.reduceEqDiff, List.size_toArray, List.length_cons, List.length_nil, Nat.zero_add, Nat.reduceAdd, List.range_succ, List.range_zero, List.nil_append, List.cons_append, aload, ty0, rdCells, Nat.le_refl, List.drop_zero, List.take_succ_cons, List.take_nil, ty1, argTs, List.getD_cons_succ, List.getD_cons_zero, tcall, Tab.nil, List.map_cons, List.map_nil, ↓roK_call, true_and]
            refine AC.pur p4 ?_
            refine walk hmix TOk.nil [] 3000 0 (by kernel_rfl) ?_
            by_cases h3 : e3 = 0
            · by_cases h4 : e4 = 0
              · cases b3
                · simp (maxSteps := 2000000) only [h3, h4, kw0, List.getElem?_toArray, List.getElem?_cons_succ, List.getElem?_cons_zero, Go.Ab.put, ↓opK_some, ↓guK_none, kw1, roOf, aop, ev, upd, ↓reduceIte, ↓roK_ok, Option.map_some, Nat.reduceEqDiff, List.size_toArray, List.length_cons, List.length_nil, Nat.zero_add, Nat.reduceAdd, List.range_succ, List.range_zero, List.nil_append, List.cons_append, aBin, ofV, aBinI, bne_eq_decide', ne_eq, not_true_eq_false, decide_false, ↓guK_some, Option.bind_some, ↓tmK_some, ↓gsK_false, beq_self_eq_true, pickA, cond_false, ↓gdK_false, Bool.not_true, Bool.not_false, ↓gsK_true, cond_true, reduceCtorEq, or_true, true_and]
                  exact ⟨_, rfl, done_pur rfl rfl⟩
                · have h5 := f3 rfl rfl h3 h4 rfl rfl
                  subst h5
                  simp (maxSteps := 2000000) only [h3, h4, kw0, List.getElem?_toArray, List.getElem?_cons_succ, List.getElem?_cons_zero, Go.Ab.put, ↓opK_some, ↓guK_none, kw1, roOf, aop, ev, upd, ↓reduceIte, ↓roK_ok, Option.map_some, Nat.reduceEqDiff, List.size_toArray, List.length_cons, List.length_nil, Nat.zero_add, Nat.reduceAdd, List.range_succ, List.range_zero, List.nil_append, List.cons_append, aBin, ofV, aBinI, bne_eq_decide', ne_eq, not_true_eq_false, decide_false, ↓guK_some, Option.bind_some, ↓tmK_some, ↓gsK_false, beq_self_eq_true, pickA, cond_false, ↓gdK_false, Bool.not_true, reduceCtorEq, or_true, true_and]
                  exact ⟨_, rfl, done_pur rfl rfl⟩
              · simp (maxSteps := 2000000) only [h3, kw0, List.getElem?_toArray, List.getElem?_cons_succ, List.getElem?_cons_zero, Go.Ab.put, ↓opK_some, ↓guK_none, kw1, roOf, aop, ev, upd, ↓reduceIte, ↓roK_ok, Option.map_some, Nat.reduceEqDiff, List.size_toArray, List.length_cons, List.length_nil, Nat.zero_add, Nat.reduceAdd, List.range_succ, List.range_zero, List.nil_append, List.cons_append, aBin, ofV, aBinI, bne_eq_decide', ne_eq, not_true_eq_false, decide_false, ↓guK_some, Option.bind_some, ↓tmK_some, ↓gsK_false, beq_self_eq_true, h4, not_false_eq_true, decide_true, pickA, cond_false, ↓gdK_true, reduceCtorEq, or_true, true_and]
                exact ⟨_, rfl, done_pur rfl rfl⟩
            · simp (maxSteps := 2000000) only [kw0, List.getElem?_toArray, List.getElem?_cons_succ, List.getElem?_cons_zero, Go.Ab.put, ↓opK_some, ↓guK_none, kw1, roOf, aop, ev, upd, ↓reduceIte, ↓roK_ok, Option.map_some, Nat.reduceEqDiff, List.size_toArray, List.length_cons, List.length_nil, Nat.zero_add, Nat.reduceAdd, List.range_succ, List.range_zero, List.nil_append, List.cons_append, aBin, ofV, aBinI, bne_eq_decide', ne_eq, h3, not_false_eq_true, decide_true, ↓guK_some, Option.bind_some, ↓tmK_some, ↓gsK_true, pickA, cond_true, ↓gdK_true, reduceCtorEq, or_true, true_and]
              exact ⟨_, rfl, done_pur rfl rfl⟩
          · exact absurd ⟨rfl, rfl⟩ k2
    · obtain ⟨rfl, rfl⟩ := f1 he
      by_cases h1 : e1 = 0
      · have h2 : ¬e2 = 0 := fun h2 => he ⟨h1, h2⟩
        simp (maxSteps := 2000000) only [h1, kw0, List.getElem?_toArray, List.getElem?_cons_succ, List.getElem?_cons_zero, Go.Ab.put, ↓opK_some, ↓guK_none, kw1, roOf, aop, ev, upd, ↓reduceIte, ↓roK_ok, Option.map_some, Nat.reduceEqDiff, List.size_toArray, List.length_cons, List.length_nil, Nat.zero_add, Nat.reduceAdd, List.range_succ, List.range_zero, List.nil_append, List.cons_append, aBin, ofV, aBinI, bne_eq_decide', ne_eq, not_true_eq_false, decide_false, ↓guK_some, Option.bind_some, ↓tmK_some, ↓gsK_false, beq_self_eq_true, h2, not_false_eq_true, decide_true, pickA, cond_false, ↓gdK_true, Bool.not_false, ↓gsK_true, cond_true, reduceCtorEq, or_true, true_and]
        exact ⟨_, rfl, done_pur rfl rfl⟩
      · simp (maxSteps := 2000000) only [kw0, List.getElem?_toArray, List.getElem?_cons_succ, List.getElem?_cons_zero, Go.Ab.put, ↓opK_some, ↓guK_none, kw1, roOf, aop, ev, upd, ↓reduceIte, ↓roK_ok, Option.map_some, Nat.reduceEqDiff, List.size_toArray, List.length_cons, List.length_nil, Nat.zero_add, Nat.reduceAdd, List.range_succ, List.range_zero, List.nil_append, List.cons_append, aBin, ofV, aBinI, bne_eq_decide', ne_eq, h1, not_false_eq_true, decide_true, ↓guK_some, Option.bind_some, ↓tmK_some, ↓gsK_true, pickA, cond_true, ↓gdK_true, Bool.not_false, beq_self_eq_true, reduceCtorEq, or_true, true_and]
        exact ⟨_, rfl, done_pur rfl rfl⟩
end Go.Ab.Pd

set_option linter.unusedSimpArgs false
set_option linter.unusedVariables false
namespace Go.Ab.Pd
open Go.Proofs
theorem better_all {a b c e : Int} {sv : AV} (qs : IsSet sv) (he : Pur Tryz.prog GG 8 [I (manyV a b c), sv] (I e)) :
    ∃ sc : Int → Int → Int → Int → Int → Int → Bool → Bool → Bool → Int, ∀ (x y z p q r x' y' z' p' q' r' : Int) (s t u s' t' u' : Bool), ∃ (g : Bool) (f : Int),
      Pur Tryz.prog GG 5 [.agg [I a, I b, I c], PL x y z p q r s t u, PL x' y' z' p' q' r' s' t' u', sv] (.tup [B g, I f]) ∧
      (f = 0 → (chk a b c = 0 ∧ e = 0) ∧ okPl a b c x y z p q r s t u ∧ okPl a b c x' y' z' p' q' r' s' t' u' ∧ g = decide (cmp2 a b c x y z p q r x' y' z' p' q' r' (sc x y z p q r s t u) (sc x' y' z' p' q' r' s' t' u') s t u s' t' u' < 0)) ∧
      (¬f = 0 → g = false ∧ ¬(chk a b c = 0 ∧ e = 0 ∧ pchk a b c x y z p q r s t u = 0 ∧ pchk a b c x' y' z' p' q' r' s' t' u' = 0)) := by
  by_cases hg : chk a b c = 0 ∧ e = 0
  · obtain ⟨hc, rfl⟩ := hg
    have hd := chk_ok.1 hc
    refine ⟨scF qs he, fun x y z p q r x' y' z' p' q' r' s t u s' t' u' => ?_⟩
    by_cases hp : pchk a b c x y z p q r s t u = 0 ∧ pchk a b c x' y' z' p' q' r' s' t' u' = 0
    · exact ⟨_, _, better_ok qs hd he hp.1 hp.2, fun _ => ⟨⟨hc, rfl⟩, pchk_okPl hp.1, pchk_okPl hp.2, rfl⟩, fun h => absurd rfl h⟩
    · refine ⟨_, _, better_arg qs hd he hp, fun h => ?_, fun h => ⟨rfl, fun hh => hp hh.2.2⟩⟩
      exfalso
      by_cases h1 : pchk a b c x y z p q r s t u = 0
      · rw [if_pos h1] at h; exact hp ⟨h1, h⟩
      · rw [if_neg h1] at h; exact h1 h
  · refine ⟨fun _ _ _ _ _ _ _ _ _ => 0, fun x y z p q r x' y' z' p' q' r' s t u s' t' u' => ?_⟩
    exact ⟨_, _, better_bad qs he hg, fun h => absurd h (by decide), fun _ => ⟨rfl, fun hh => hg ⟨hh.1, hh.2.1⟩⟩⟩
theorem order_pur (hal : Pur Tryz.prog GG 4 [] (B true)) {sv : AV} (qs : IsSet sv) (a b c x y z p q r x' y' z' p' q' r' x2 y2 z2 p2 q2 r2 : Int) (s t u s' t' u' s2 t2 u2 : Bool) :
    Pur Tryz.prog GG 3 [.agg [I a, I b, I c], PL x y z p q r s t u, PL x' y' z' p' q' r' s' t' u', PL x2 y2 z2 p2 q2 r2 s2 t2 u2, sv] (B true) := by
  obtain ⟨e, he, _⟩ := check_ex qs (manyV a b c)
  obtain ⟨sc, hsc⟩ := better_all qs he
  obtain ⟨L, hL⟩ : ∃ L, aLen Tryz.prog 30 sv = some L := by
    obtain ⟨ws, _, rfl | ⟨rfl, _⟩⟩ := qs
    · exact ⟨_, li30 _⟩
    · exact ⟨_, ln30⟩
  obtain ⟨g1, f1, P1, A1, N1⟩ := hsc x y z p q r x' y' z' p' q' r' s t u s' t' u'
  obtain ⟨g2, f2, P2, A2, N2⟩ := hsc x' y' z' p' q' r' x y z p q r s' t' u' s t u
  obtain ⟨g3, f3, P3, A3, N3⟩ := hsc x' y' z' p' q' r' x2 y2 z2 p2 q2 r2 s' t' u' s2 t2 u2
  obtain ⟨g4, f4, P4, A4, N4⟩ := hsc x y z p q r x2 y2 z2 p2 q2 r2 s t u s2 t2 u2
  refine order_walk hal rfl qs hL P1 P2 P3 P4 (fun h => ?_) (fun h1 h2 => ?_) (fun h1 h2 h3 h4 k1 k3 => ?_)
  · by_cases h1 : f1 = 0
    · have h2 : ¬f2 = 0 := fun h2 => h ⟨h1, h2⟩
      obtain ⟨g, o1, o2, _⟩ := A1 h1
      exact absurd ⟨g.1, g.2, okPl_pchk o2, okPl_pchk o1⟩ (N2 h2).2
    · by_cases h2 : f2 = 0
      · obtain ⟨g, o1, o2, _⟩ := A2 h2
        exact absurd ⟨g.1, g.2, okPl_pchk o2, okPl_pchk o1⟩ (N1 h1).2
      · exact ⟨(N1 h1).1, (N2 h2).1⟩
  · obtain ⟨_, o1, o2, e1⟩ := A1 h1
    obtain ⟨_, _, _, e2⟩ := A2 h2
    rw [cmp2_neg] at e2
    generalize hv : cmp2 a b c x y z p q r x' y' z' p' q' r' (sc x y z p q r s t u) (sc x' y' z' p' q' r' s' t' u') s t u s' t' u' = v at e1 e2
    subst e1
    subst e2
    simp only [decide_eq_false_iff_not, decide_eq_true_eq]
    refine ⟨⟨fun hs => ?_, fun hs => ?_⟩, by omega⟩
    · obtain ⟨rfl, rfl, rfl, rfl, rfl, rfl, rfl, rfl, rfl⟩ := hs
      rw [cmp2_self] at hv
      omega
    · have : v = 0 := by omega
      rw [this] at hv
      exact cmp2_zero o1 o2 hv
  · obtain ⟨_, _, _, e1⟩ := A1 h1
    obtain ⟨_, _, _, e3⟩ := A3 h3
    obtain ⟨_, _, _, e4⟩ := A4 h4
    rw [k1] at e1
    rw [k3] at e3
    have c1 := of_decide_eq_true e1.symm
    have c3 := of_decide_eq_true e3.symm
    have := (Tri.cmp2 a b c x y z p q r x' y' z' p' q' r' x2 y2 z2 p2 q2 r2 (sc x y z p q r s t u) (sc x' y' z' p' q' r' s' t' u') (sc x2 y2 z2 p2 q2 r2 s2 t2 u2) s t u s' t' u' s2 t2 u2).1 c1 (by omega)
    rw [e4]
    exact decide_eq_true this
end Go.Ab.Pd
