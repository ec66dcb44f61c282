/- One of the texts that this claim stands on. -/
import Derived.Test.YtfiglmdmnfdldaaGreatDoorEv42
import Derived.Test.YtfiglmdmnfdldaaGreatDoorEv38
import Derived.Test.YtfiglmdmnfdldaaGreatDoorEv40
set_option linter.unusedVariables false
set_option linter.unusedSimpArgs false
set_option linter.unusedSimpArgs false
set_option linter.unusedVariables false
namespace Go.Ab.Pd
open Go.Proofs
theorem cmpV_neg (m n : Int) : cmpV n m = -cmpV m n := by unfold cmpV; split <;> split <;> (try split) <;> omega
theorem orV_neg (a b : Int) : orV (-a) (-b) = -orV a b := by unfold orV; split <;> split <;> omega
def Tri (p q r : Int) : Prop := (p < 0 → q ≤ 0 → r < 0) ∧ (p ≤ 0 → q < 0 → r < 0) ∧ (p = 0 → q = 0 → r = 0)
theorem Tri.cmp (l m n : Int) : Tri (cmpV l m) (cmpV m n) (cmpV l n) := by
  unfold Tri cmpV
  split <;> (try split) <;> (try split) <;> (try split) <;> (try split) <;> (try split) <;> omega
theorem Tri.or {a1 a2 a3 b1 b2 b3 : Int} (h : Tri a1 a2 a3) (k : Tri b1 b2 b3) : Tri (orV a1 b1) (orV a2 b2) (orV a3 b3) := by
  unfold Tri orV at *
  obtain ⟨h1, h2, h3⟩ := h
  obtain ⟨k1, k2, k3⟩ := k
  split <;> split <;> split <;> omega
theorem lexV_neg (p q r p' q' r' : Int) : lexV p' q' r' p q r = -lexV p q r p' q' r' := by
  unfold lexV
  rw [cmpV_neg p p', cmpV_neg q q', cmpV_neg r r', orV_neg, orV_neg]
theorem lexV_zero {p q r p' q' r' : Int} : lexV p q r p' q' r' = 0 ↔ p = p' ∧ q = q' ∧ r = r' := by
  unfold lexV; rw [orV_zero, orV_zero, cmpV_zero, cmpV_zero, cmpV_zero]
theorem Tri.lex (p q r p' q' r' p'' q'' r'' : Int) : Tri (lexV p q r p' q' r') (lexV p' q' r' p'' q'' r'') (lexV p q r p'' q'' r'') := (Tri.cmp _ _ _).or ((Tri.cmp _ _ _).or (Tri.cmp _ _ _))
theorem cmp2_neg (a b c x y z p q r x' y' z' p' q' r' m n : Int) (s t u s' t' u' : Bool) : cmp2 a b c x' y' z' p' q' r' x y z p q r n m s' t' u' s t u = -cmp2 a b c x y z p q r x' y' z' p' q' r' m n s t u s' t' u' := by
  unfold cmp2
  rw [cmpV_neg m n, cmpV_neg (atV a b c x y z), lexV_neg p q r, lexV_neg (bitV s), orV_neg, orV_neg, orV_neg]
theorem Tri.cmp2 (a b c x y z p q r x' y' z' p' q' r' x2 y2 z2 p2 q2 r2 l m n : Int) (s t u s' t' u' s2 t2 u2 : Bool) :
    Tri (Pd.cmp2 a b c x y z p q r x' y' z' p' q' r' l m s t u s' t' u') (Pd.cmp2 a b c x' y' z' p' q' r' x2 y2 z2 p2 q2 r2 m n s' t' u' s2 t2 u2) (Pd.cmp2 a b c x y z p q r x2 y2 z2 p2 q2 r2 l n s t u s2 t2 u2) :=
  (Tri.cmp _ _ _).or ((Tri.cmp _ _ _).or ((Tri.lex _ _ _ _ _ _ _ _ _).or (Tri.lex _ _ _ _ _ _ _ _ _)))
theorem cmp2_zero {a b c x y z p q r x' y' z' p' q' r' m n : Int} {s t u s' t' u' : Bool} (h : okPl a b c x y z p q r s t u) (h' : okPl a b c x' y' z' p' q' r' s' t' u') (e : cmp2 a b c x y z p q r x' y' z' p' q' r' m n s t u s' t' u' = 0) : samePl x y z p q r x' y' z' p' q' r' s t u s' t' u' := by
  unfold cmp2 at e
  rw [orV_zero, orV_zero, orV_zero, cmpV_zero, cmpV_zero, lexV_zero, lexV_zero] at e
  obtain ⟨_, e1, ⟨e2, e3, e4⟩, e5, e6, e7⟩ := e
  have b1 := h.2.1
  have b2 := h'.2.1
  unfold okB ok1 at b1 b2
  obtain ⟨f1, f2, f3⟩ := at_inj h.1 (by unfold okP; omega) (by unfold okP; omega) e1
  exact ⟨f1, f2, f3, e2, e3, e4, bitV_inj e5, bitV_inj e6, bitV_inj e7⟩
theorem cmp2_self (a b c x y z p q r m : Int) (s t u : Bool) : cmp2 a b c x y z p q r x y z p q r m m s t u s t u = 0 := by
  unfold cmp2
  rw [orV_zero, orV_zero, orV_zero, cmpV_zero, cmpV_zero, lexV_zero, lexV_zero]
  exact ⟨rfl, rfl, ⟨rfl, rfl, rfl⟩, rfl, rfl, rfl⟩
end Go.Ab.Pd

set_option linter.unusedSimpArgs false
set_option linter.unusedVariables false

set_option linter.unusedSimpArgs false
set_option linter.unusedVariables false
namespace Go.Ab.Pd
open Go.Proofs
def minL (lt : Plc → Plc → Bool) : Plc → List Plc → Plc
  | m, [] => m
  | m, x :: l => minL lt (if lt x m = true then x else m) l
def impM : Nat → Bool := fun i => i == 6
def ordM : List (Nat × Bool) := [(0, true), (1, true), (2, true), (3, true), (4, true), (5, true), (6, false), (7, true)]
def ltS (a b c : Int) (sc : Plc → Int) (x y : Plc) : Bool := decide (cmpS a b c sc x y < 0)
theorem ok17 : codeOk 33 (Tryz.f17.body.getD .skip) = true := by kernel_rfl
theorem ro17 : resOk 33 Tryz.f17.results = true := by kernel_rfl
theorem dr17 : todoDr [7] [.code (Tryz.f17.body.getD .skip)] = true := by kernel_rfl
set_option maxHeartbeats 8000000 in
set_option maxRecDepth 400000 in
theorem min_ac {sc : Plc → Int} {a b c : Int} {sv : AV} (hsv : sv.isCell = true ∧ sv.isEl = true ∧ sv.cells = [sv]) {l : List Plc} (h0 : 0 < l.length) (hl : l.length ≤ 2 ^ 20) {H : List AO} {D F M S mi : Nat}
    (hD : H[D]? = some (.cells [I a, I b, I c])) (hF : H[F]? = some (.cells [.fn 44 [] [.ptr M 0, .ptr D 0, .ptr S 0]])) (hM : H[M]? = some (.cells [.mp mi])) (hS : H[S]? = some (.cells [sv])) (hmi : ∃ es clock, H[mi]? = some (.map es clock) ∧ Memo sc es)
    (hsc : ∀ x ∈ l, Pur Tryz.prog GG 15 [.agg [I a, I b, I c], x.av, sv] (.tup [I (sc x), I 0]))
    {K : AV → List AO → Prop} (hK : ∀ H', (∀ j o, j ≠ mi → H[j]? = some o → H'[j]? = some o) → K (minL (ltS a b c sc) (l.getD 0 default) (l.drop 1)).av H') :
    AC Tryz.prog GG 17 [.isl (l.map Plc.av), .fn 45 [] [.ptr D 0, .ptr F 0]] H K := by
  have hlt0 : decide ((l.length : Int) < 1) = false := decide_eq_false (by omega)
  have hg0 := getD_map Plc.av l default h0
  have hc0 := Plc.cells (l.getD 0 default)
  have hD1 := lt_of_get hD
  have hF1 := lt_of_get hF
  have hM1 := lt_of_get hM
  have hS1 := lt_of_get hS
  obtain ⟨es, clock, hes, hmo⟩ := hmi
  have hmi1 := lt_of_get hes
  have nD : D ≠ mi := fun e => by rw [e, hes] at hD; cases hD
  have nF : F ≠ mi := fun e => by rw [e, hes] at hF; cases hF
  have nM : M ≠ mi := fun e => by rw [e, hes] at hM; cases hM
  have nS : S ≠ mi := fun e => by rw [e, hes] at hS; cases hS
  refine AC.of_body (c := (Tryz.f17.body.getD .skip)) Tryz.func17 rfl (by decide) ok17 ro17 (by exact (by decide : 2 ≤ 33)) ?_
  refine walk hmix TOk.nil [7] 3000 0 dr17 ?_
  delta Tryz.f17
  simp only [Option.getD_some]
  simp (maxSteps := 2000000) only [resA, resL, resVar, aload, ty1, rdCells, kw0, List.size_toArray, List.length_cons, List.length_nil, Nat.zero_add, List.range_succ, List.range_zero, List.nil_append, List.getElem?_toArray, List.getElem?_cons_zero, Go.Ab.put, ↓opK_some, ↓guK_none, kw1, roOf, aop, ↓roK_ok, Nat.reduceAdd, List.cons_append, ev, upd, reduceCtorEq, ↓reduceIte, argTs, List.getD_cons_zero, List.getElem?_cons_succ, List.length_map, Option.map_some, aBin, ofV, aBinI, hlt0, ↓gdK_false, aInt, Int.reduceLE, true_and, Int.toNat_zero, hg0, hc0, and_true, Nat.le_refl, List.drop_zero, List.take_succ_cons, List.take_nil, List.length_append, List.append_assoc, astore, Nat.reduceEqDiff, AV.isEl.eq_2, AV.cells.eq_1, and_self, wrCells, getA, splice, List.take_zero, List.drop_succ_cons, List.drop_nil, List.append_nil, setA, List.set_cons_succ, List.set_cons_zero]
  refine ⟨by omega, ?_⟩
  have hL0 : ∃ L, L = H.length := ⟨_, rfl⟩
  obtain ⟨L, hL⟩ := hL0
  have hmem0 : l.getD 0 default ∈ l := by simp [List.getD, h0]
  have ap : ∀ X (j : Nat) o, H[j]? = some o → (H ++ X)[j]? = some o := fun X j o h => (List.getElem?_append_left (lt_of_get h)).trans h
  refine FW.loopInv (fun n ts H' => ∃ (i : Nat) (m : Plc), i + n = l.length ∧ 1 ≤ i ∧ minL (ltS a b c sc) m (l.drop i) = minL (ltS a b c sc) (l.getD 0 default) (l.drop 1) ∧ m ∈ l ∧ (∀ j o, j ≠ mi → H[j]? = some o → H'[j]? = some o) ∧ (∃ es clock, H'[mi]? = some (.map es clock) ∧ Memo sc es) ∧
      H'[L]? = some (.cells [I 0, I 0, I 0, I 0, I 0, I 0, B false, B false, B false]) ∧ H'[L + 1]? = some (.cells [I m.x, I m.y, I m.z, I m.p, I m.q, I m.r, B m.s, B m.t, B m.u]) ∧ ts 0 = .isl (l.map Plc.av) ∧ ts 1 = .fn 45 [] [.ptr D 0, .ptr F 0] ∧ ts 4 = .ptr L 0 ∧ ts 5 = .ptr (L + 1) 0 ∧ ts 6 = I (i : Int)) (l.length - 1)
    ⟨1, l.getD 0 default, by omega, by omega, rfl, hmem0, fun j o _ h => ap _ _ _ h, ⟨es, clock, ap _ _ _ hes, hmo⟩, by rw [hL, getA0]; rfl, by rw [hL, getA]; rfl, rfl, rfl, by rw [hL]; rfl, by rw [hL]; rfl, rfl⟩ ?_
  clear ap hmo hes es clock hg0 hc0
  rintro n ih ts H' ⟨i, m, hi, hi1, hmn, hmm, ga, gmi, gL, gL1, t0, t1, t4, t5, t6⟩
  have gD := ga D _ nD hD
  have gF := ga F _ nF hF
  have gM := ga M _ nM hM
  have gS := ga S _ nS hS
  have lD := lt_of_get gD
  have hlL := lt_of_get gL1
  refine FW.inLoop ?_
  by_cases hlt : i < l.length
  · have hd1 : decide ((i : Int) < (l.length : Int)) = true := by simp [hlt]
    have hg := getD_map Plc.av l default hlt
    have hmem : l.getD i default ∈ l := by simp [List.getD, hlt]
    rw [drop_cons default hlt] at hmn
    generalize l.getD i default = x at hg hmem hmn
    have hcx := Plc.cells x
    have hbb : (0 ≤ (i : Int) ∧ (i : Int) < (l.length : Int)) := ⟨by omega, by omega⟩
    have hi2 := wrapL (n := (i : Int) + 1) (by omega) (by omega)
    refine walk hmix TOk.nil [7] 3000 0 (by kernel_rfl) ?_
    simp (maxSteps := 2000000) only [kw0, List.size_toArray, List.length_cons, List.length_nil, Nat.zero_add, Nat.reduceAdd, List.range_succ, List.range_zero, List.nil_append, List.cons_append, List.getElem?_toArray, List.getElem?_cons_zero, Go.Ab.put, ↓opK_some, ↓guK_none, kw1, roOf, aop, ev, t6, ↓roK_ok, List.getElem?_cons_succ, upd, reduceCtorEq, ↓reduceIte, t0, ty1, List.length_map, Option.map_some, aBin, Nat.reduceEqDiff, aBinI, hd1, ↓gdK_true, List.contains_cons, beq_self_eq_true, List.contains_nil, Bool.true_or, true_and]
    refine FW.walkG hmix (imp := impM) (l := ordM) (by kernel_rfl) (by kernel_rfl) ?_
    simp only [ordM]
    simp (maxSteps := 2000000) only [symG_t, List.getElem?_toArray, List.getElem?_cons_zero, Go.Ab.put, ↓opJ_some, ↓guK_none, kw1, roOf, aop, ev, upd, Nat.reduceEqDiff, ↓reduceIte, t1, ↓roK_ok, List.getElem?_cons_succ, reduceCtorEq, t0, t6, aInt, ty1, List.length_map, Int.toNat_natCast, hg, hcx, List.length_cons, List.length_nil, Nat.zero_add, Nat.reduceAdd, and_true, Option.map_some, aload, rdCells, Nat.le_refl, List.drop_zero, List.take_succ_cons, List.take_nil, t5, gL1, symG_f, impM, beq_self_eq_true, wAdd_ap, WT_ap, wat, clOf, implies_true, and_self, Option.some.injEq, true_and, forall_const, aBin, ofV, aBinI, ty0, tcall, Tab.nil, List.map_cons, List.map_nil, ↓roK_call]
    refine ⟨hbb, ?_⟩
    refine compare2_any (X := x) (Y := m) hsv gD gF gM gS gmi (hsc x hmem) (hsc m hmm) ?_
    rintro H2 ⟨len2, f2, gmi2⟩
    refine ⟨⟨fun h => absurd (h.symm.trans (by kernel_rfl)) Bool.false_ne_true, fun h => absurd (h.symm.trans (by kernel_rfl)) Bool.false_ne_true⟩, ?_⟩
    have ka : ∀ j o, j ≠ mi → H[j]? = some o → H2[j]? = some o := fun j o hj h => f2 j o hj (ga j o hj h)
    have kL := f2 L _ (by omega) gL
    have kL1 := f2 (L + 1) _ (by omega) gL1
    clear f2
    by_cases hc : cmpS a b c sc x m < 0
    · have hlt' : ltS a b c sc x m = true := decide_eq_true hc
      have hcd : decide (cmpS a b c sc x m < 0) = true := decide_eq_true hc
      have hmn2 : minL (ltS a b c sc) x (l.drop (i + 1)) = minL (ltS a b c sc) (l.getD 0 default) (l.drop 1) := by
        rw [← hmn]
        show _ = minL (ltS a b c sc) (if ltS a b c sc x m = true then x else m) (l.drop (i + 1))
        rw [hlt', if_pos rfl]
      simp (maxSteps := 2000000) only [↓reduceIte, hcd, Option.map_some, ↓roK_ok, symG_nil, true_and]
      refine walk hmix TOk.nil [7] 3000 0 (by kernel_rfl) ?_
      simp (maxSteps := 2000000) only [kw0, ev, upd, ↓reduceIte, ↓gdK_true, kw1, List.size_toArray, List.length_cons, List.length_nil, Nat.zero_add, Nat.reduceAdd, List.range_succ, List.range_zero, List.nil_append, List.cons_append, List.getElem?_toArray, List.getElem?_cons_zero, Go.Ab.put, ↓opK_some, ↓guK_none, roOf, aop, reduceCtorEq, t0, ↓roK_ok, List.getElem?_cons_succ, Nat.reduceEqDiff, t6, aInt, ty1, List.length_map, Int.toNat_natCast, hg, hcx, and_true, Option.map_some, aload, rdCells, Nat.le_refl, List.drop_zero, List.take_succ_cons, List.take_nil, astore, AV.isEl.eq_2, AV.cells.eq_1, and_self, wrCells, t5, kL1, splice, List.take_zero, List.drop_succ_cons, List.drop_nil, List.append_nil, aBin, ofV, aBinI, hi2, true_and]
      refine ⟨hbb, ?_⟩
      obtain ⟨es2, ck2, e2, e3⟩ := gmi2
      exact ih (n - 1) (by omega) _ _ ⟨i + 1, x, by omega, by omega, hmn2, hmem, (fun j o hj h => (List.getElem?_set_ne (by have := lt_of_get h; omega)).trans (ka j o hj h)), ⟨es2, ck2, (List.getElem?_set_ne (by omega)).trans e2, e3⟩, (List.getElem?_set_ne (by omega)).trans kL, List.getElem?_set_self (lt_of_get kL1), t0, t1, t4, t5, rfl⟩
    · have hlt' : ltS a b c sc x m = false := decide_eq_false hc
      have hcd : decide (cmpS a b c sc x m < 0) = false := decide_eq_false hc
      have hmn2 : minL (ltS a b c sc) m (l.drop (i + 1)) = minL (ltS a b c sc) (l.getD 0 default) (l.drop 1) := by
        rw [← hmn]
        show _ = minL (ltS a b c sc) (if ltS a b c sc x m = true then x else m) (l.drop (i + 1))
        rw [hlt', if_neg (by decide)]
      simp (maxSteps := 2000000) only [↓reduceIte, hcd, Option.map_some, ↓roK_ok, symG_nil, true_and]
      refine walk hmix TOk.nil [7] 3000 0 (by kernel_rfl) ?_
      simp (maxSteps := 2000000) only [kw0, ev, upd, ↓reduceIte, ↓gdK_false, kw1, List.size_toArray, List.length_cons, List.length_nil, Nat.zero_add, Nat.reduceAdd, List.range_succ, List.range_zero, List.nil_append, List.cons_append, List.getElem?_toArray, List.getElem?_cons_zero, Go.Ab.put, ↓opK_some, ↓guK_none, roOf, aop, Nat.reduceEqDiff, t6, ↓roK_ok, List.getElem?_cons_succ, aBin, ofV, aBinI, hi2, Option.map_some, true_and]
      exact ih (n - 1) (by omega) _ _ ⟨i + 1, m, by omega, by omega, hmn2, hmm, ka, gmi2, kL, kL1, t0, t1, t4, t5, rfl⟩
  · have hd1 : decide ((i : Int) < (l.length : Int)) = false := by simp; omega
    rw [List.drop_eq_nil_of_le (by omega)] at hmn
    have hmn' : m = minL (ltS a b c sc) (l.getD 0 default) (l.drop 1) := hmn
    have gs : ∀ X, (H'.set L X)[L]? = some X := fun X => List.getElem?_set_self (by omega)
    refine walk hmix TOk.nil [7] 3000 0 (by kernel_rfl) ?_
    simp (maxSteps := 2000000) only [kw0, List.size_toArray, List.length_cons, List.length_nil, Nat.zero_add, Nat.reduceAdd, List.range_succ, List.range_zero, List.nil_append, List.cons_append, List.getElem?_toArray, List.getElem?_cons_zero, Go.Ab.put, ↓opK_some, ↓guK_none, kw1, roOf, aop, ev, t6, ↓roK_ok, List.getElem?_cons_succ, upd, reduceCtorEq, ↓reduceIte, t0, ty1, List.length_map, Option.map_some, aBin, Nat.reduceEqDiff, aBinI, hd1, ↓gdK_false, exitTo, beq_self_eq_true, or_false, t4, gL, Nat.le_refl, List.drop_zero, List.take_succ_cons, List.take_nil, Option.some.injEq, ↓exK_some, aload, rdCells, t5, gL1, astore, AV.isEl.eq_2, AV.cells.eq_1, and_self, wrCells, splice, List.take_zero, List.drop_succ_cons, List.drop_nil, List.append_nil, or_true, gs, true_and]
    rw [← hmn'] at hK
    exact ⟨_, rfl, hK _ fun j o hj h => (List.getElem?_set_ne (by have := lt_of_get h; omega)).trans (ga j o hj h)⟩
end Go.Ab.Pd
