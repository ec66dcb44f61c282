/- One of the texts that this claim stands on. -/
import Derived.Test.YtfiglmdmnfdldaaGreatDoorEv38
import Derived.Test.YtfiglmdmnfdldaaGreatDoorEv39
set_option linter.unusedVariables false
set_option linter.unusedSimpArgs false
set_option linter.unusedSimpArgs false
set_option linter.unusedVariables false
namespace Go.Ab.Pd
open Go.Proofs
set_option maxHeartbeats 4000000 in
set_option maxRecDepth 400000 in
theorem joined_ex (n : Int) {g : Nat} {f : Int → Int → Int} (hf : ∀ x y, inU (f x y)) (hg : ∀ x y, Pur Tryz.prog GG g [U x, U y] (U (f x y))) {s1 s2 : AV} (q1 : IsSet s1) (q2 : IsSet s2) : ∃ s e, IsSet s ∧ Pur Tryz.prog GG 19 [I n, s1, s2, .fn g [] []] (.tup [s, I e]) := by
  obtain ⟨e1, p1, r1⟩ := check_ex q1 n
  obtain ⟨e2, p2, r2⟩ := check_ex q2 n
  have hp1 := q1.pur
  have hp2 := q2.pur
  obtain ⟨a1, a2, a3⟩ := q1.cell
  obtain ⟨b1, b2, b3⟩ := q2.cell
  by_cases he : (if e1 = 0 then e2 else e1) = 0
  · have h1 : e1 = 0 := by split at he <;> simp_all
    have h2 : e2 = 0 := by rw [if_pos h1] at he; exact he
    obtain ⟨hn, xs, hx, rfl, lx⟩ := r1 h1
    obtain ⟨_, ys, hy, rfl, ly⟩ := r2 h2
    rw [h1] at p1
    rw [h2] at p2
    exact ⟨_, 0, .isl (zip_inU hf xs ys), joined_ok n hg hx hy (by omega) (by omega) (by omega) p1 p2⟩
  · refine ⟨.c (.slice none 0 0), if e1 = 0 then e2 else e1, .nil, ?_⟩
    refine Pur.of_alone ggp (by simp [AV.purL, AV.pur, hp1, hp2]) (AC.of_body (c := (Tryz.f19.body.getD .skip)) Tryz.func19 rfl (by decide) ok19 ro19 (by exact (by decide : 4 ≤ 43)) ?_)
    refine walk hmix TOk.nil [] 3000 0 dr19 ?_
    delta Tryz.f19
    simp only [Option.getD_some]
    simp (maxSteps := 2000000) only [resA, resL, resVar, Option.some.injEq, kw0, List.size_toArray, List.length_cons, List.length_nil, Nat.zero_add, Nat.reduceAdd, List.range_succ, List.range_zero, List.nil_append, List.cons_append, List.getElem?_toArray, List.getElem?_cons_zero, Go.Ab.put, ↓opK_some, ↓guK_none, kw1, roOf, aop, ev, ofV, ↓roK_ok, List.getElem?_cons_succ, upd, reduceCtorEq, ↓reduceIte, argTs, List.getD_cons_zero, Nat.reduceEqDiff, List.getD_cons_succ, ty3, ty1, AV.cells.eq_2, Nat.reduceMul, Nat.reducePow, Nat.reduceLeDiff, slv, List.reduceReplicate, List.map_cons, List.map_nil, aFillEs, a2, a3, Nat.reduceLT, and_self, b2, b3, List.set_cons_zero, List.set_cons_succ, Option.map_some, tcall, Tab.nil, ↓roK_call, true_and]
    refine checked_ac p1 p2 q1 q2 rfl ?_
    generalize (if e1 = 0 then e2 else e1) = e at he
    refine walk hmix TOk.nil [] 3000 0 (by kernel_rfl) ?_
    simp (maxSteps := 2000000) only [kw0, List.getElem?_toArray, List.getElem?_cons_succ, List.getElem?_cons_zero, Go.Ab.put, ↓opK_some, ↓guK_none, kw1, roOf, aop, ev, upd, ↓reduceIte, ↓roK_ok, List.size_toArray, List.length_cons, List.length_nil, Nat.zero_add, Nat.reduceAdd, List.range_succ, List.range_zero, List.nil_append, List.cons_append, aBin, ofV, aBinI, bne_eq_decide', ne_eq, he, not_false_eq_true, decide_true, Option.map_some, ↓gdK_true, Nat.reduceEqDiff, reduceCtorEq, or_true, true_and]
    exact ⟨_, rfl, done_pur rfl rfl⟩
set_option maxHeartbeats 4000000 in
set_option maxRecDepth 400000 in
theorem and_ex (n : Int) {s1 s2 : AV} (q1 : IsSet s1) (q2 : IsSet s2) : ∃ s e, IsSet s ∧ Pur Tryz.prog GG 25 [I n, s1, s2] (.tup [s, I e]) := by
  obtain ⟨s, e, hs, hp⟩ := joined_ex n andW_inU andw_pur q1 q2
  refine ⟨s, e, hs, ?_⟩
  have h1 := q1.pur
  have h2 := q2.pur
  have h3 := hs.pur
  refine Pur.of_alone ggp (by simp [AV.purL, AV.pur, h1, h2]) (AC.of_body (c := (Tryz.f25.body.getD .skip)) Tryz.func25 rfl (by decide) ok25 ro25 (by exact (by decide : 3 ≤ 14)) ?_)
  refine walk hmix TOk.nil [] 3000 0 dr25 ?_
  delta Tryz.f25
  simp only [Option.getD_some]
  simp (maxSteps := 2000000) only [resA, resL, resVar, Option.some.injEq, kw0, List.size_toArray, List.length_cons, List.length_nil, Nat.zero_add, Nat.reduceAdd, List.range_succ, List.range_zero, List.nil_append, List.cons_append, List.getElem?_toArray, List.getElem?_cons_zero, Go.Ab.put, ↓opK_some, ↓guK_none, kw1, roOf, aop, ev, ofV, ↓roK_ok, List.getElem?_cons_succ, upd, reduceCtorEq, ↓reduceIte, argTs, List.getD_cons_zero, Nat.reduceEqDiff, List.getD_cons_succ, tcall, Tab.nil, List.map_cons, List.map_nil, ↓roK_call, true_and]
  refine AC.pur hp ?_
  refine walk hmix TOk.nil [] 3000 0 (by kernel_rfl) ?_
  simp (maxSteps := 2000000) only [kw0, List.getElem?_toArray, List.getElem?_cons_succ, List.getElem?_cons_zero, Go.Ab.put, ↓opK_some, ↓guK_none, kw1, roOf, aop, ev, upd, ↓reduceIte, Option.map_some, ↓roK_ok, Nat.reduceEqDiff, reduceCtorEq, or_true, true_and]
  exact ⟨_, rfl, done_pur (by simp [AV.pur, AV.purL, h3]) rfl⟩
set_option maxHeartbeats 4000000 in
set_option maxRecDepth 400000 in
theorem setsN_pur (a b c x y z p q r : Int) (s t u : Bool) (h : ¬pchk a b c x y z p q r s t u = 0) : Pur Tryz.prog GG 21 [.agg [I a, I b, I c], PL x y z p q r s t u] (.tup [.c (.slice none 0 0), .c (.slice none 0 0), I (pchk a b c x y z p q r s t u)]) := by
  refine Pur.of_alone ggp (by simp [AV.purL, AV.pur]) (AC.of_body (c := (Tryz.f21.body.getD .skip)) Tryz.func21 rfl (by decide) ok21 ro21 (by exact (by decide : 2 ≤ 40)) ?_)
  refine walk hmix T21_ok [] 3000 0 dr21 ?_
  delta Tryz.f21
  simp only [Option.getD_some]
  simp (maxSteps := 2000000) only [T21, T20, T19, T18, T17, T16, T13, T12, T11, T10, T9, T8, T7, T6, T5, T4, T3, T2, T1, T0, resA, resL, resVar, Option.some.injEq, kw0, List.size_toArray, List.length_cons, List.length_nil, Nat.zero_add, Nat.reduceAdd, List.range_succ, List.range_zero, List.nil_append, List.cons_append, List.getElem?_toArray, List.getElem?_cons_zero, Go.Ab.put, ↓opK_some, ↓guK_none, kw1, roOf, aop, ev, argTs, List.getD_cons_zero, AV.isEl.eq_2, ↓reduceIte, AV.cells.eq_1, ↓roK_ok, List.getElem?_cons_succ, upd, Nat.reduceEqDiff, List.getD_cons_succ, ofV, aload, ty0, rdCells, Nat.le_refl, List.drop_zero, List.take_succ_cons, List.take_nil, Option.map_some, ty1, tcall, Tab.ext, g33, List.map_cons, List.map_nil, List.append_nil, aBin, aBinI, bne_eq_decide', ne_eq, h, not_false_eq_true, decide_true, ↓gdK_true, reduceCtorEq, or_true, true_and]
  exact ⟨_, rfl, done_pur rfl rfl⟩
theorem ok23 : codeOk 18 (Tryz.f23.body.getD .skip) = true := by kernel_rfl
theorem ro23 : resOk 18 Tryz.f23.results = true := by kernel_rfl
theorem dr23 : todoDr [] [.code (Tryz.f23.body.getD .skip)] = true := by kernel_rfl
set_option maxHeartbeats 4000000 in
set_option maxRecDepth 400000 in
theorem fsets_pur {n e1 e2 : Int} {s1 s2 : AV} (q1 : IsSet s1) (q2 : IsSet s2) (hn : 0 ≤ n ∧ n ≤ 4096) (p1 : Pur Tryz.prog GG 29 [I n, s1] (I e1)) (p2 : Pur Tryz.prog GG 29 [I (3 * n), s2] (I e2)) :
    Pur Tryz.prog GG 23 [I n, s1, s2] (I (if e1 = 0 ∧ e2 = 0 then 0 else 8)) := by
  have h1 := q1.pur
  have h2 := q2.pur
  have w3 := wrapL (n := 3 * n) (by omega) (by omega)
  by_cases k1 : e1 = 0
  · subst k1
    by_cases k2 : e2 = 0
    · subst k2
      refine Pur.of_alone ggp (by simp [AV.purL, AV.pur, h1, h2]) (AC.of_body (c := (Tryz.f23.body.getD .skip)) Tryz.func23 rfl (by decide) ok23 ro23 (by exact (by decide : 3 ≤ 18)) ?_)
      refine walk hmix TOk.nil [] 3000 0 dr23 ?_
      delta Tryz.f23
      simp only [Option.getD_some]
      simp (maxSteps := 2000000) only [resA, resL, resVar, Option.some.injEq, and_self, ↓reduceIte, kw0, List.size_toArray, List.length_cons, List.length_nil, Nat.zero_add, List.range_succ, List.range_zero, List.nil_append, List.getElem?_toArray, List.getElem?_cons_zero, Go.Ab.put, ↓opK_some, ↓guK_none, kw1, roOf, aop, ev, ofV, ↓roK_ok, Nat.reduceAdd, List.cons_append, upd, reduceCtorEq, argTs, List.getD_cons_zero, List.getElem?_cons_succ, Nat.reduceEqDiff, List.getD_cons_succ, tcall, Tab.nil, List.map_cons, List.map_nil, ↓roK_call, true_and]
      refine AC.pur p1 ?_
      refine walk hmix TOk.nil [] 3000 0 (by kernel_rfl) ?_
      simp (maxSteps := 2000000) only [kw0, List.getElem?_toArray, List.getElem?_cons_succ, List.getElem?_cons_zero, Go.Ab.put, ↓opK_some, ↓guK_none, kw1, roOf, aop, aBin, ev, upd, ↓reduceIte, ofV, aBinI, bne_eq_decide', ne_eq, not_true_eq_false, decide_false, Option.map_some, ↓roK_ok, ↓guK_some, Option.bind_some, ↓tmK_some, ↓gsK_false, beq_self_eq_true, reduceCtorEq, argTs, List.getD_cons_zero, Nat.reduceEqDiff, w3, List.getD_cons_succ, tcall, Tab.nil, List.map_cons, List.map_nil, ↓roK_call, true_and]
      refine AC.pur p2 ?_
      refine walk hmix TOk.nil [] 3000 0 (by kernel_rfl) ?_
      simp (maxSteps := 2000000) only [kw0, List.getElem?_toArray, List.getElem?_cons_succ, List.getElem?_cons_zero, Go.Ab.put, ↓opK_some, ↓guK_some, Option.bind_some, ↓tmK_some, kw1, upd, Nat.reduceEqDiff, ↓reduceIte, ↓gsK_false, beq_self_eq_true, roOf, aop, aBin, ev, ofV, aBinI, bne_eq_decide', ne_eq, not_true_eq_false, decide_false, Option.map_some, ↓roK_ok, ↓guK_none, pickA, cond_false, ↓gdK_false, List.size_toArray, List.length_cons, List.length_nil, Nat.zero_add, List.range_succ, List.range_zero, List.nil_append, reduceCtorEq, or_true, true_and]
      exact ⟨_, rfl, done_pur rfl rfl⟩
    · skip
      refine Pur.of_alone ggp (by simp [AV.purL, AV.pur, h1, h2]) (AC.of_body (c := (Tryz.f23.body.getD .skip)) Tryz.func23 rfl (by decide) ok23 ro23 (by exact (by decide : 3 ≤ 18)) ?_)
      refine walk hmix TOk.nil [] 3000 0 dr23 ?_
      delta Tryz.f23
      simp only [Option.getD_some]
      simp (maxSteps := 2000000) only [resA, resL, resVar, Option.some.injEq, true_and, kw0, List.size_toArray, List.length_cons, List.length_nil, Nat.zero_add, List.range_succ, List.range_zero, List.nil_append, List.getElem?_toArray, List.getElem?_cons_zero, Go.Ab.put, ↓opK_some, ↓guK_none, kw1, roOf, aop, ev, ofV, ↓roK_ok, Nat.reduceAdd, List.cons_append, upd, reduceCtorEq, ↓reduceIte, argTs, List.getD_cons_zero, List.getElem?_cons_succ, Nat.reduceEqDiff, List.getD_cons_succ, tcall, Tab.nil, List.map_cons, List.map_nil, ↓roK_call]
      refine AC.pur p1 ?_
      refine walk hmix TOk.nil [] 3000 0 (by kernel_rfl) ?_
      simp (maxSteps := 2000000) only [kw0, List.getElem?_toArray, List.getElem?_cons_succ, List.getElem?_cons_zero, Go.Ab.put, ↓opK_some, ↓guK_none, kw1, roOf, aop, aBin, ev, upd, ↓reduceIte, ofV, aBinI, bne_eq_decide', ne_eq, not_true_eq_false, decide_false, Option.map_some, ↓roK_ok, ↓guK_some, Option.bind_some, ↓tmK_some, ↓gsK_false, beq_self_eq_true, reduceCtorEq, argTs, List.getD_cons_zero, Nat.reduceEqDiff, w3, List.getD_cons_succ, tcall, Tab.nil, List.map_cons, List.map_nil, ↓roK_call, true_and]
      refine AC.pur p2 ?_
      refine walk hmix TOk.nil [] 3000 0 (by kernel_rfl) ?_
      simp (maxSteps := 2000000) only [k2, ↓reduceIte, kw0, List.getElem?_toArray, List.getElem?_cons_succ, List.getElem?_cons_zero, Go.Ab.put, ↓opK_some, ↓guK_some, Option.bind_some, ↓tmK_some, kw1, upd, Nat.reduceEqDiff, ↓gsK_false, beq_self_eq_true, roOf, aop, aBin, ev, ofV, aBinI, bne_eq_decide', ne_eq, not_false_eq_true, decide_true, Option.map_some, ↓roK_ok, ↓guK_none, pickA, cond_false, ↓gdK_true, List.size_toArray, List.length_cons, List.length_nil, Nat.zero_add, List.range_succ, List.range_zero, List.nil_append, reduceCtorEq, or_true, true_and]
      exact ⟨_, rfl, done_pur rfl (by simp [k2])⟩
  · skip
    refine Pur.of_alone ggp (by simp [AV.purL, AV.pur, h1, h2]) (AC.of_body (c := (Tryz.f23.body.getD .skip)) Tryz.func23 rfl (by decide) ok23 ro23 (by exact (by decide : 3 ≤ 18)) ?_)
    refine walk hmix TOk.nil [] 3000 0 dr23 ?_
    delta Tryz.f23
    simp only [Option.getD_some]
    simp (maxSteps := 2000000) only [resA, resL, resVar, Option.some.injEq, kw0, List.size_toArray, List.length_cons, List.length_nil, Nat.zero_add, List.range_succ, List.range_zero, List.nil_append, List.getElem?_toArray, List.getElem?_cons_zero, Go.Ab.put, ↓opK_some, ↓guK_none, kw1, roOf, aop, ev, ofV, ↓roK_ok, Nat.reduceAdd, List.cons_append, upd, reduceCtorEq, ↓reduceIte, argTs, List.getD_cons_zero, List.getElem?_cons_succ, Nat.reduceEqDiff, List.getD_cons_succ, tcall, Tab.nil, List.map_cons, List.map_nil, ↓roK_call, true_and]
    refine AC.pur p1 ?_
    refine walk hmix TOk.nil [] 3000 0 (by kernel_rfl) ?_
    simp (maxSteps := 2000000) only [k1, kw0, List.getElem?_toArray, List.getElem?_cons_succ, List.getElem?_cons_zero, Go.Ab.put, ↓opK_some, ↓guK_none, kw1, roOf, aop, aBin, ev, upd, ↓reduceIte, ofV, aBinI, bne_eq_decide', ne_eq, not_false_eq_true, decide_true, Option.map_some, ↓roK_ok, ↓guK_some, Option.bind_some, ↓tmK_some, ↓gsK_true, Nat.reduceEqDiff, pickA, cond_true, ↓gdK_true, List.size_toArray, List.length_cons, List.length_nil, Nat.zero_add, List.range_succ, List.range_zero, List.nil_append, reduceCtorEq, or_true, true_and]
    exact ⟨_, rfl, done_pur rfl (by simp [k1])⟩
theorem ok24 : codeOk 37 (Tryz.f24.body.getD .skip) = true := by kernel_rfl
theorem ro24 : resOk 37 Tryz.f24.results = true := by kernel_rfl
theorem dr24 : todoDr [] [.code (Tryz.f24.body.getD .skip)] = true := by kernel_rfl
set_option maxHeartbeats 4000000 in
set_option maxRecDepth 400000 in
theorem both_ac {n e1 e2 : Int} {g : Nat} {m l m' l' r1 r2 : AV} (hn : 0 ≤ n ∧ n ≤ 4096) (p1 : Pur Tryz.prog GG g [I n, m, m'] (.tup [r1, I e1])) (p2 : Pur Tryz.prog GG g [I (3 * n), l, l'] (.tup [r2, I e2])) {H : List AO} {K : AV → List AO → Prop} (hK : K (.tup [r1, r2]) H) :
    AC Tryz.prog GG 24 [I n, .fn g [] [], m, l, m', l'] H K := by
  have w3 := wrapL (n := 3 * n) (by omega) (by omega)
  refine AC.of_body (c := (Tryz.f24.body.getD .skip)) Tryz.func24 rfl (by decide) ok24 ro24 (by exact (by decide : 6 ≤ 37)) ?_
  refine walk hmix TOk.nil [] 3000 0 dr24 ?_
  delta Tryz.f24
  simp only [Option.getD_some]
  simp (maxSteps := 2000000) only [resA, resL, resVar, Option.some.injEq, kw0, List.size_toArray, List.length_cons, List.length_nil, Nat.zero_add, Nat.reduceAdd, List.range_succ, List.range_zero, List.nil_append, List.cons_append, List.getElem?_toArray, List.getElem?_cons_zero, Go.Ab.put, ↓opK_some, ↓guK_none, kw1, roOf, aop, ev, ofV, ↓roK_ok, List.getElem?_cons_succ, upd, Nat.reduceEqDiff, ↓reduceIte, argTs, List.getD_cons_succ, List.getD_cons_zero, reduceCtorEq, tcall, Tab.nil, List.map_cons, List.map_nil, ↓roK_call, true_and]
  refine AC.pur p1 ?_
  refine walk hmix TOk.nil [] 3000 0 (by kernel_rfl) ?_
  simp (maxSteps := 2000000) only [kw0, List.getElem?_toArray, List.getElem?_cons_succ, List.getElem?_cons_zero, Go.Ab.put, ↓opK_some, ↓guK_none, kw1, roOf, aop, ev, upd, ↓reduceIte, ↓roK_ok, Option.map_some, Nat.reduceEqDiff, List.size_toArray, List.length_cons, List.length_nil, Nat.zero_add, Nat.reduceAdd, List.range_succ, List.range_zero, List.nil_append, List.cons_append, argTs, List.getD_cons_succ, List.getD_cons_zero, reduceCtorEq, aBin, ofV, aBinI, w3, tcall, Tab.nil, List.map_cons, List.map_nil, ↓roK_call, true_and]
  refine AC.pur p2 ?_
  refine walk hmix TOk.nil [] 3000 0 (by kernel_rfl) ?_
  simp (maxSteps := 2000000) only [kw0, List.getElem?_toArray, List.getElem?_cons_succ, List.getElem?_cons_zero, Go.Ab.put, ↓opK_some, ↓guK_none, kw1, roOf, aop, ev, upd, ↓reduceIte, ↓roK_ok, Option.map_some, Nat.reduceEqDiff, List.size_toArray, List.length_cons, List.length_nil, Nat.zero_add, Nat.reduceAdd, List.range_succ, List.range_zero, List.nil_append, List.cons_append, reduceCtorEq, or_true, true_and]
  exact ⟨_, rfl, hK⟩
theorem ok10 : codeOk 68 (Tryz.f10.body.getD .skip) = true := by kernel_rfl
theorem ro10 : resOk 68 Tryz.f10.results = true := by kernel_rfl
theorem dr10 : todoDr [] [.code (Tryz.f10.body.getD .skip)] = true := by kernel_rfl
set_option maxHeartbeats 8000000 in
set_option maxRecDepth 400000 in
theorem holds_ex (a b c : Int) {s1 s2 : AV} (q1 : IsSet s1) (q2 : IsSet s2) {e1 e2 : Int} (p1 : Pur Tryz.prog GG 29 [I (manyV a b c), s1] (I e1)) (p2 : Pur Tryz.prog GG 29 [I (3 * manyV a b c), s2] (I e2)) (P0 : Plc) :
    ∃ (g : Bool), Pur Tryz.prog GG 10 [.agg [I a, I b, I c], P0.av, s1, s2] (.tup [B g, I (if P0.ok a b c then (if e1 = 0 ∧ e2 = 0 then 0 else 8) else pchk a b c P0.x P0.y P0.z P0.p P0.q P0.r P0.s P0.t P0.u)]) ∧ (¬(P0.ok a b c ∧ e1 = 0 ∧ e2 = 0) → g = false) := by
  have h1 := q1.pur
  have h2 := q2.pur
  obtain ⟨x, y, z, p, q, r, s, t, u⟩ := P0
  by_cases hk : okPl a b c x y z p q r s t u
  · have hd := hk.1
    have hmu := okD_mul hd
    have hmv : manyV a b c = a * b * c := by rw [manyV, if_pos hd]
    have hn : 0 ≤ manyV a b c ∧ manyV a b c ≤ 4096 := by omega
    have hfs := fsets_pur q1 q2 hn p1 p2
    by_cases he : e1 = 0 ∧ e2 = 0
    · have qo : IsSet (.isl ((ownW a b c x y z p q r).map U)) := .isl (ofL_inU _ _)
      have ql : IsSet (.isl ((linksW a b c x y z p q r s t u).map U)) := .isl (ofL_inU _ _)
      obtain ⟨r1, f1, i1, pa1⟩ := and_ex (manyV a b c) qo q1
      obtain ⟨r2, f2, i2, pa2⟩ := and_ex (3 * manyV a b c) ql q2
      obtain ⟨m1, g1, pm1⟩ := many_ex (manyV a b c) i1
      obtain ⟨m2, g2, pm2⟩ := many_ex (3 * manyV a b c) i2
      have w3 := wrapL (n := 3 * manyV a b c) (by omega) (by omega)
      obtain ⟨c11, c12, c13⟩ := q1.cell
      obtain ⟨c21, c22, c23⟩ := q2.cell
      rw [if_pos he] at hfs
      refine ⟨decide (IntKind.i64.wrap (m1 + m2) = 0), ?_, fun h => absurd ⟨hk, he⟩ h⟩
      rw [if_pos (show Plc.ok a b c ⟨x, y, z, p, q, r, s, t, u⟩ from hk), if_pos he]
      show Pur Tryz.prog GG 10 [.agg [I a, I b, I c], PL x y z p q r s t u, s1, s2] _
      refine Pur.of_alone ggp (by simp [AV.purL, AV.pur, h1, h2]) (AC.of_body (c := (Tryz.f10.body.getD .skip)) Tryz.func10 rfl (by decide) ok10 ro10 (by exact (by decide : 4 ≤ 68)) ?_)
      refine walk hmix T22_ok [] 3000 0 dr10 ?_
      delta Tryz.f10
      simp only [Option.getD_some]
      simp (maxSteps := 2000000) only [T22, T21, T20, T19, T18, T17, T16, T13, T12, T11, T10, T9, T8, T7, T6, T5, T4, T3, T2, T1, T0, resA, resL, resVar, Option.some.injEq, kw0, List.size_toArray, List.length_cons, List.length_nil, Nat.zero_add, Nat.reduceAdd, List.range_succ, List.range_zero, List.nil_append, List.cons_append, List.getElem?_toArray, List.getElem?_cons_zero, Go.Ab.put, ↓opK_some, ↓guK_none, kw1, roOf, aop, ev, argTs, List.getD_cons_zero, AV.isEl.eq_2, ↓reduceIte, AV.cells.eq_1, ↓roK_ok, List.getElem?_cons_succ, upd, Nat.reduceEqDiff, List.getD_cons_succ, ofV, aload, ty0, rdCells, Nat.le_refl, List.drop_zero, List.take_succ_cons, List.take_nil, Option.map_some, ty1, tcall, Tab.ext, g21, List.map_cons, List.map_nil, List.append_nil, hk, aBin, aBinI, bne_eq_decide', ne_eq, not_true_eq_false, decide_false, ↓gdK_false, g22, Tab.nil, ↓roK_call, true_and]
      refine AC.pur hfs ?_
      refine walk hmix T22_ok [] 3000 0 (by kernel_rfl) ?_
      simp (maxSteps := 2000000) only [T22, T21, T20, T19, T18, T17, T16, T13, T12, T11, T10, T9, T8, T7, T6, T5, T4, T3, T2, T1, T0, kw0, List.getElem?_toArray, List.getElem?_cons_succ, List.getElem?_cons_zero, Go.Ab.put, ↓opK_some, ↓guK_none, kw1, roOf, aop, ev, upd, ↓reduceIte, ↓roK_ok, List.size_toArray, List.length_cons, List.length_nil, Nat.zero_add, Nat.reduceAdd, List.range_succ, List.range_zero, List.nil_append, List.cons_append, aBin, ofV, aBinI, bne_eq_decide', ne_eq, not_true_eq_false, decide_false, Option.map_some, ↓gdK_false, Nat.reduceEqDiff, argTs, List.getD_cons_succ, List.getD_cons_zero, tcall, Tab.ext, Tab.nil, List.map_cons, List.map_nil, ↓roK_call, true_and]
      refine both_ac hn pa1 pa2 ?_
      refine walk hmix T22_ok [] 3000 0 (by kernel_rfl) ?_
      simp (maxSteps := 2000000) only [T22, T21, T20, T19, T18, T17, T16, T13, T12, T11, T10, T9, T8, T7, T6, T5, T4, T3, T2, T1, T0, kw0, List.getElem?_toArray, List.getElem?_cons_succ, List.getElem?_cons_zero, Go.Ab.put, ↓opK_some, ↓guK_none, kw1, roOf, aop, ev, upd, ↓reduceIte, ↓roK_ok, Option.map_some, Nat.reduceEqDiff, List.size_toArray, List.length_cons, List.length_nil, Nat.zero_add, Nat.reduceAdd, List.range_succ, List.range_zero, List.nil_append, List.cons_append, tcall, Tab.ext, Tab.nil, List.map_cons, List.map_nil, ↓roK_call, true_and]
      refine AC.pur pm1 ?_
      refine walk hmix T22_ok [] 3000 0 (by kernel_rfl) ?_
      simp (maxSteps := 2000000) only [T22, T21, T20, T19, T18, T17, T16, T13, T12, T11, T10, T9, T8, T7, T6, T5, T4, T3, T2, T1, T0, kw0, List.getElem?_toArray, List.getElem?_cons_succ, List.getElem?_cons_zero, Go.Ab.put, ↓opK_some, ↓guK_none, kw1, roOf, aop, ev, upd, ↓reduceIte, ↓roK_ok, Option.map_some, Nat.reduceEqDiff, List.size_toArray, List.length_cons, List.length_nil, Nat.zero_add, Nat.reduceAdd, List.range_succ, List.range_zero, List.nil_append, List.cons_append, aBin, ofV, aBinI, w3, tcall, Tab.ext, Tab.nil, List.map_cons, List.map_nil, ↓roK_call, true_and]
      refine AC.pur pm2 ?_
      refine walk hmix T22_ok [] 3000 0 (by kernel_rfl) ?_
      simp (maxSteps := 2000000) only [T22, T21, T20, T19, T18, T17, T16, T13, T12, T11, T10, T9, T8, T7, T6, T5, T4, T3, T2, T1, T0, kw0, List.getElem?_toArray, List.getElem?_cons_succ, List.getElem?_cons_zero, Go.Ab.put, ↓opK_some, ↓guK_none, kw1, roOf, aop, ev, upd, ↓reduceIte, ↓roK_ok, Option.map_some, Nat.reduceEqDiff, List.size_toArray, List.length_cons, List.length_nil, Nat.zero_add, Nat.reduceAdd, List.range_succ, List.range_zero, List.nil_append, List.cons_append, aBin, aBinI, ofV, beq_eq_decide', reduceCtorEq, or_true, true_and]
      exact ⟨_, rfl, done_pur rfl rfl⟩
    · rw [if_neg he] at hfs
      refine ⟨false, ?_, fun _ => rfl⟩
      rw [if_pos (show Plc.ok a b c ⟨x, y, z, p, q, r, s, t, u⟩ from hk), if_neg he]
      show Pur Tryz.prog GG 10 [.agg [I a, I b, I c], PL x y z p q r s t u, s1, s2] _
      refine Pur.of_alone ggp (by simp [AV.purL, AV.pur, h1, h2]) (AC.of_body (c := (Tryz.f10.body.getD .skip)) Tryz.func10 rfl (by decide) ok10 ro10 (by exact (by decide : 4 ≤ 68)) ?_)
      refine walk hmix T22_ok [] 3000 0 dr10 ?_
      delta Tryz.f10
      simp only [Option.getD_some]
      simp (maxSteps := 2000000) only [T22, T21, T20, T19, T18, T17, T16, T13, T12, T11, T10, T9, T8, T7, T6, T5, T4, T3, T2, T1, T0, resA, resL, resVar, Option.some.injEq, kw0, List.size_toArray, List.length_cons, List.length_nil, Nat.zero_add, Nat.reduceAdd, List.range_succ, List.range_zero, List.nil_append, List.cons_append, List.getElem?_toArray, List.getElem?_cons_zero, Go.Ab.put, ↓opK_some, ↓guK_none, kw1, roOf, aop, ev, argTs, List.getD_cons_zero, AV.isEl.eq_2, ↓reduceIte, AV.cells.eq_1, ↓roK_ok, List.getElem?_cons_succ, upd, Nat.reduceEqDiff, List.getD_cons_succ, ofV, aload, ty0, rdCells, Nat.le_refl, List.drop_zero, List.take_succ_cons, List.take_nil, Option.map_some, ty1, tcall, Tab.ext, g21, List.map_cons, List.map_nil, List.append_nil, hk, aBin, aBinI, bne_eq_decide', ne_eq, not_true_eq_false, decide_false, ↓gdK_false, g22, Tab.nil, ↓roK_call, true_and]
      refine AC.pur hfs ?_
      refine walk hmix T22_ok [] 3000 0 (by kernel_rfl) ?_
      simp (maxSteps := 2000000) only [T22, T21, T20, T19, T18, T17, T16, T13, T12, T11, T10, T9, T8, T7, T6, T5, T4, T3, T2, T1, T0, kw0, List.getElem?_toArray, List.getElem?_cons_succ, List.getElem?_cons_zero, Go.Ab.put, ↓opK_some, ↓guK_none, kw1, roOf, aop, ev, upd, ↓reduceIte, ↓roK_ok, List.size_toArray, List.length_cons, List.length_nil, Nat.zero_add, Nat.reduceAdd, List.range_succ, List.range_zero, List.nil_append, List.cons_append, aBin, ofV, aBinI, bne_eq_decide', ne_eq, Int.reduceEq, not_false_eq_true, decide_true, Option.map_some, ↓gdK_true, Nat.reduceEqDiff, reduceCtorEq, or_true, true_and]
      exact ⟨_, rfl, done_pur rfl rfl⟩
  · have hpn := nok_pchk (x := ⟨x, y, z, p, q, r, s, t, u⟩) hk
    refine ⟨false, ?_, fun _ => rfl⟩
    rw [if_neg (show ¬Plc.ok a b c ⟨x, y, z, p, q, r, s, t, u⟩ from hk)]
    show Pur Tryz.prog GG 10 [.agg [I a, I b, I c], PL x y z p q r s t u, s1, s2] _
    refine Pur.of_alone ggp (by simp [AV.purL, AV.pur, h1, h2]) (AC.of_body (c := (Tryz.f10.body.getD .skip)) Tryz.func10 rfl (by decide) ok10 ro10 (by exact (by decide : 4 ≤ 68)) ?_)
    refine walk hmix T21_ok [] 3000 0 dr10 ?_
    delta Tryz.f10
    simp only [Option.getD_some]
    simp (maxSteps := 2000000) only [T21, T20, T19, T18, T17, T16, T13, T12, T11, T10, T9, T8, T7, T6, T5, T4, T3, T2, T1, T0, resA, resL, resVar, Option.some.injEq, kw0, List.size_toArray, List.length_cons, List.length_nil, Nat.zero_add, Nat.reduceAdd, List.range_succ, List.range_zero, List.nil_append, List.cons_append, List.getElem?_toArray, List.getElem?_cons_zero, Go.Ab.put, ↓opK_some, ↓guK_none, kw1, roOf, aop, ev, argTs, List.getD_cons_zero, AV.isEl.eq_2, ↓reduceIte, AV.cells.eq_1, ↓roK_ok, List.getElem?_cons_succ, upd, Nat.reduceEqDiff, List.getD_cons_succ, ofV, aload, ty0, rdCells, Nat.le_refl, List.drop_zero, List.take_succ_cons, List.take_nil, Option.map_some, ty1, tcall, Tab.ext, Tab.nil, List.map_cons, List.map_nil, ↓roK_call, true_and]
    refine AC.pur (setsN_pur _ _ _ _ _ _ _ _ _ _ _ _ hpn) ?_
    simp only at hpn
    refine walk hmix T21_ok [] 3000 0 (by kernel_rfl) ?_
    simp (maxSteps := 2000000) only [T21, T20, T19, T18, T17, T16, T13, T12, T11, T10, T9, T8, T7, T6, T5, T4, T3, T2, T1, T0, kw0, List.getElem?_toArray, List.getElem?_cons_succ, List.getElem?_cons_zero, Go.Ab.put, ↓opK_some, ↓guK_none, kw1, roOf, aop, ev, upd, ↓reduceIte, ↓roK_ok, Option.map_some, Nat.reduceEqDiff, List.size_toArray, List.length_cons, List.length_nil, Nat.zero_add, Nat.reduceAdd, List.range_succ, List.range_zero, List.nil_append, List.cons_append, aBin, ofV, aBinI, bne_eq_decide', ne_eq, hpn, not_false_eq_true, decide_true, ↓gdK_true, reduceCtorEq, or_true, true_and]
    exact ⟨_, rfl, done_pur rfl rfl⟩
end Go.Ab.Pd

set_option linter.unusedSimpArgs false
set_option linter.unusedVariables false
namespace Go.Ab.Pd
open Go.Proofs
def Pred (g : Nat) (caps : List AV) (pr : Plc → Bool) (l : List Plc) (s : AV) (H : List AO) : Prop :=
  ∀ (H' : List AO) (x : Plc) (K : AV → List AO → Prop), x ∈ l → (∀ j, j < H.length → ownId s ≠ some j → H'[j]? = H[j]?) → K (B (pr x)) H' → AC Tryz.prog GG g (x.av :: caps) H' K
def firstI {α : Type} (pr : α → Bool) : List α → Nat → Int
  | [], _ => -1
  | x :: l, i => if pr x = true then (i : Int) else firstI pr l (i + 1)
theorem firstI_cons {α : Type} (pr : α → Bool) (x : α) (l : List α) (i : Nat) : firstI pr (x :: l) i = if pr x = true then (i : Int) else firstI pr l (i + 1) := rfl
theorem firstI_no {α : Type} {pr : α → Bool} : ∀ {l : List α} {i : Nat}, firstI pr l i = -1 → ∀ x ∈ l, pr x = false
  | [], _, _ => by simp
  | x :: l, i, h => by
    unfold firstI at h
    split at h
    · omega
    · rename_i hx
      intro y hy
      rcases List.mem_cons.1 hy with rfl | hy
      · simpa using hx
      · exact firstI_no h y hy
theorem firstI_yes {α : Type} [Inhabited α] {pr : α → Bool} : ∀ {l : List α} {i : Nat}, ¬ firstI pr l i = -1 → ∃ k, k < l.length ∧ firstI pr l i = ((i + k : Nat) : Int) ∧ pr (l.getD k default) = true ∧ ∀ x ∈ l.take k, pr x = false
  | [], _, h => absurd rfl h
  | x :: l, i, h => by
    unfold firstI at h ⊢
    split
    · rename_i hx
      exact ⟨0, by simp, by simp, by simpa using hx, by simp⟩
    · rename_i hx
      rw [if_neg hx] at h
      obtain ⟨k, h1, h2, h3, h4⟩ := firstI_yes h
      refine ⟨k + 1, by simp; omega, by rw [h2]; congr 1; omega, by simpa using h3, fun y hy => ?_⟩
      rw [List.take_succ_cons] at hy
      rcases List.mem_cons.1 hy with rfl | hy
      · simpa using hx
      · exact h4 y hy
theorem ok62 : codeOk 19 (Tryz.f62.body.getD .skip) = true := by kernel_rfl
theorem ro62 : resOk 19 Tryz.f62.results = true := by kernel_rfl
theorem dr62 : todoDr [] [.code (Tryz.f62.body.getD .skip)] = true := by kernel_rfl
set_option maxHeartbeats 4000000 in
set_option maxRecDepth 400000 in
theorem indexP {g : Nat} {caps : List AV} {pr : Plc → Bool} {l : List Plc} {s : AV} {H : List AO} (hseg : SegP H s l) (hl : l.length ≤ 2 ^ 20) (hp : Pred g caps pr l s H) {K : AV → List AO → Prop} (hK : K (I (firstI pr l 0)) H) :
    AC Tryz.prog GG 62 [s, .fn g [] caps] H K := by
  cases hseg with
  | nil =>
    refine AC.of_body (c := (Tryz.f62.body.getD .skip)) Tryz.func62 rfl (by decide) ok62 ro62 (by exact (by decide : 2 ≤ 19)) ?_
    refine walk hmix TOk.nil [] 3000 0 dr62 ?_
    delta Tryz.f62
    simp only [Option.getD_some]
    simp (maxSteps := 2000000) only [Int.reduceNeg, resA, resL, resVar, Option.some.injEq, kw0, List.size_toArray, List.length_cons, List.length_nil, Nat.zero_add, List.range_succ, List.range_zero, List.nil_append, List.getElem?_toArray, List.getElem?_cons_zero, Go.Ab.put, ↓opK_some, ↓guK_none, kw1, roOf, aop, ev, ofV, ↓roK_ok, Nat.reduceAdd, List.cons_append, upd, reduceCtorEq, ↓reduceIte, argTs, List.getD_cons_zero, List.getElem?_cons_succ, ty1, Option.map_some, true_and]
    refine FW.inLoop ?_
    refine walk hmix TOk.nil [] 3000 0 (by kernel_rfl) ?_
    simp (maxSteps := 2000000) only [Int.reduceNeg, kw0, List.size_toArray, List.length_cons, List.length_nil, Nat.zero_add, List.range_succ, List.range_zero, List.nil_append, List.getElem?_toArray, List.getElem?_cons_zero, Go.Ab.put, ↓opK_some, ↓guK_none, kw1, roOf, aop, aBin, ev, upd, ↓reduceIte, Nat.reduceEqDiff, aBinI, Int.reduceLT, decide_false, Option.map_some, ↓roK_ok, ↓gdK_false, exitTo, beq_self_eq_true, reduceCtorEq, or_false, ↓exK_some, ofV, or_true, true_and]
    exact ⟨_, rfl, hK⟩
  | row hid hn hr hc ht =>
    rename_i id n cap rs
    refine AC.of_body (c := (Tryz.f62.body.getD .skip)) Tryz.func62 rfl (by decide) ok62 ro62 (by exact (by decide : 2 ≤ 19)) ?_
    refine walk hmix TOk.nil [] 3000 0 dr62 ?_
    delta Tryz.f62
    simp only [Option.getD_some]
    simp (maxSteps := 2000000) only [Int.reduceNeg, resA, resL, resVar, Option.some.injEq, kw0, List.size_toArray, List.length_cons, List.length_nil, Nat.zero_add, List.range_succ, List.range_zero, List.nil_append, List.getElem?_toArray, List.getElem?_cons_zero, Go.Ab.put, ↓opK_some, ↓guK_none, kw1, roOf, aop, ev, ofV, ↓roK_ok, Nat.reduceAdd, List.cons_append, upd, reduceCtorEq, ↓reduceIte, argTs, List.getD_cons_zero, List.getElem?_cons_succ, ty1, Option.map_some, true_and]
    refine FW.loopInv (fun m ts H' => ∃ i : Nat, i + m = l.length ∧ firstI pr (l.drop i) i = firstI pr l 0 ∧ H' = H ∧ ts 0 = .sl id 0 n cap ∧ ts 1 = .fn g [] caps ∧ ts 7 = I (n : Int) ∧ ts 8 = I (i : Int)) l.length
      ⟨0, by omega, rfl, rfl, rfl, rfl, rfl, rfl⟩ ?_
    rintro m ih ts H' ⟨i, hi, hf, rfl, t0, t1, t7, t8⟩
    refine FW.inLoop ?_
    by_cases hlt : i < n
    · have hd1 : decide ((i : Int) < (n : Int)) = true := by simp [hlt]
      have hg := SegP.get hn ht hlt
      have hb : i < rs.length := by omega
      rw [drop_cons default (by omega : i < l.length)] at hf
      have hmem : l.getD i default ∈ l := by simp [List.getD, (by omega : i < l.length)]
      generalize l.getD i default = x at hg hf hmem
      have hcl := Plc.cells x
      refine walk hmix TOk.nil [] 3000 0 (by kernel_rfl) ?_
      simp (maxSteps := 2000000) only [Int.reduceNeg, kw0, List.size_toArray, List.length_cons, List.length_nil, Nat.zero_add, List.range_succ, List.range_zero, List.nil_append, List.getElem?_toArray, List.getElem?_cons_zero, Go.Ab.put, ↓opK_some, ↓guK_none, kw1, roOf, aop, aBin, ev, t8, t7, aBinI, ↓reduceIte, hd1, Option.map_some, ↓roK_ok, upd, ↓gdK_true, Nat.reduceAdd, List.cons_append, Nat.reduceEqDiff, List.getElem?_cons_succ, t1, reduceCtorEq, t0, aInt, ty1, hid, Int.toNat_natCast, aload, rdCells, hb, Nat.le_refl, and_self, hg, hcl, List.drop_zero, List.take_succ_cons, List.take_nil, tcall, Tab.nil, List.map_cons, List.map_nil, ↓roK_call, true_and]
      repeat (refine ⟨by omega, ?_⟩)
      refine hp _ x _ hmem (fun _ _ _ => rfl) ?_
      rw [firstI_cons] at hf
      cases hpx : pr x
      · rw [hpx, if_neg (by decide)] at hf
        refine walk hmix TOk.nil [] 3000 0 (by kernel_rfl) ?_
        simp (maxSteps := 2000000) only [Int.reduceNeg, kw0, ev, upd, ↓reduceIte, ↓gdK_false, kw1, List.size_toArray, List.length_cons, List.length_nil, Nat.zero_add, Nat.reduceAdd, List.range_succ, List.range_zero, List.nil_append, List.cons_append, List.getElem?_toArray, List.getElem?_cons_zero, Go.Ab.put, ↓opK_some, ↓guK_none, roOf, aop, aBin, Nat.reduceEqDiff, t8, ofV, aBinI, Option.map_some, ↓roK_ok, List.getElem?_cons_succ, true_and]
        rw [wrapL (n := (i : Int) + 1) (by omega) (by omega)]
        exact ih (m - 1) (by omega) _ _ ⟨i + 1, by omega, hf, rfl, t0, t1, t7, rfl⟩
      · rw [hpx, if_pos rfl] at hf
        refine walk hmix TOk.nil [] 3000 0 (by kernel_rfl) ?_
        simp (maxSteps := 2000000) only [Int.reduceNeg, kw0, ev, upd, ↓reduceIte, ↓gdK_true, kw1, List.size_toArray, List.length_cons, List.length_nil, Nat.zero_add, Nat.reduceAdd, List.range_succ, List.range_zero, List.nil_append, List.cons_append, List.getElem?_toArray, List.getElem?_cons_zero, Go.Ab.put, ↓opK_some, ↓guK_none, roOf, aop, Nat.reduceEqDiff, ↓roK_ok, List.getElem?_cons_succ, reduceCtorEq, or_true, true_and]
        exact ⟨_, rfl, by rw [hf]; exact hK⟩
    · have hd1 : decide ((i : Int) < (n : Int)) = false := by simp; omega
      rw [List.drop_eq_nil_of_le (by omega)] at hf
      refine walk hmix TOk.nil [] 3000 0 (by kernel_rfl) ?_
      simp (maxSteps := 2000000) only [Int.reduceNeg, kw0, List.size_toArray, List.length_cons, List.length_nil, Nat.zero_add, List.range_succ, List.range_zero, List.nil_append, List.getElem?_toArray, List.getElem?_cons_zero, Go.Ab.put, ↓opK_some, ↓guK_none, kw1, roOf, aop, aBin, ev, t8, t7, aBinI, ↓reduceIte, hd1, Option.map_some, ↓roK_ok, upd, ↓gdK_false, exitTo, beq_self_eq_true, reduceCtorEq, or_false, Nat.reduceEqDiff, ↓exK_some, ofV, or_true, true_and]
      exact ⟨_, rfl, by rw [show (-1 : Int) = firstI pr l 0 from hf]; exact hK⟩
def SameK (s s' : AV) : Prop := (s = .c (.slice none 0 0) ∧ s' = .c (.slice none 0 0)) ∨ ∃ id n cap n' cap', s = .sl id 0 n cap ∧ s' = .sl id 0 n' cap'
theorem SegP.same {H : List AO} {s : AV} {l : List Plc} (h : SegP H s l) : SameK s s := by
  cases h with
  | nil => exact .inl ⟨rfl, rfl⟩
  | row => exact .inr ⟨_, _, _, _, _, rfl, rfl⟩
theorem ok30 : codeOk 42 (Tryz.f30.body.getD .skip) = true := by kernel_rfl
theorem ro30 : resOk 42 Tryz.f30.results = true := by kernel_rfl
theorem dr30 : todoDr [] [.code (Tryz.f30.body.getD .skip)] = true := by kernel_rfl
set_option maxHeartbeats 8000000 in
set_option maxRecDepth 400000 in
theorem deleteP {g : Nat} {caps : List AV} {pr : Plc → Bool} {l : List Plc} {s : AV} {H : List AO} (hseg : SegP H s l) (hl : l.length ≤ 2 ^ 20) (hp : Pred g caps pr l s H) {K : AV → List AO → Prop}
    (hK : ∀ H' s', SegP H' s' (l.filter fun x => !pr x) → SameK s s' → (∀ j, j < H.length → ownId s ≠ some j → H'[j]? = H[j]?) → K s' H') :
    AC Tryz.prog GG 30 [s, .fn g [] caps] H K := by
  by_cases hno : firstI pr l 0 = -1
  · have hall := firstI_no hno
    have hfl : (l.filter fun x => !pr x) = l := List.filter_eq_self.2 fun x hx => by rw [hall x hx]; rfl
    rw [hfl] at hK
    refine AC.of_body (c := (Tryz.f30.body.getD .skip)) Tryz.func30 rfl (by decide) ok30 ro30 (by exact (by decide : 2 ≤ 42)) ?_
    refine walk hmix TOk.nil [] 3000 0 dr30 ?_
    delta Tryz.f30
    simp only [Option.getD_some]
    simp (maxSteps := 2000000) only [Int.reduceNeg, resA, resL, resVar, Option.some.injEq, kw0, List.size_toArray, List.length_cons, List.length_nil, Nat.zero_add, List.range_succ, List.range_zero, List.nil_append, List.getElem?_toArray, List.getElem?_cons_zero, Go.Ab.put, ↓opK_some, ↓guK_none, kw1, roOf, aop, ev, ofV, ↓roK_ok, Nat.reduceAdd, List.cons_append, upd, reduceCtorEq, ↓reduceIte, argTs, List.getD_cons_zero, List.getElem?_cons_succ, Nat.reduceEqDiff, List.getD_cons_succ, tcall, Tab.nil, List.map_cons, List.map_nil, ↓roK_call, true_and]
    refine indexP hseg hl hp ?_
    rw [hno]
    refine walk hmix TOk.nil [] 3000 0 (by kernel_rfl) ?_
    simp (maxSteps := 2000000) only [Int.reduceNeg, kw0, List.getElem?_toArray, List.getElem?_cons_succ, List.getElem?_cons_zero, Go.Ab.put, ↓opK_some, ↓guK_none, kw1, roOf, aop, ev, upd, ↓reduceIte, ↓roK_ok, List.size_toArray, List.length_cons, List.length_nil, Nat.zero_add, Nat.reduceAdd, List.range_succ, List.range_zero, List.nil_append, List.cons_append, aBin, ofV, aBinI, beq_self_eq_true, Option.map_some, ↓gdK_true, reduceCtorEq, argTs, List.getD_cons_zero, or_true, true_and]
    exact ⟨_, rfl, hK _ _ hseg hseg.same fun _ _ _ => rfl⟩
  · obtain ⟨k, hk, hfi, hpk, hpre⟩ := firstI_yes hno
    rw [Nat.zero_add] at hfi
    have hseg0 := hseg
    cases hseg with
    | nil => simp at hk
    | row hid hn hr hc ht =>
      rename_i id n cap rs
      have hk1 : ¬ (k : Int) = -1 := by omega
      have w1 := wrapL (n := (k : Int) + 1) (by omega) (by omega)
      refine AC.of_body (c := (Tryz.f30.body.getD .skip)) Tryz.func30 rfl (by decide) ok30 ro30 (by exact (by decide : 2 ≤ 42)) ?_
      refine walk hmix TOk.nil [] 3000 0 dr30 ?_
      delta Tryz.f30
      simp only [Option.getD_some]
      simp (maxSteps := 2000000) only [Int.reduceNeg, resA, resL, resVar, Option.some.injEq, kw0, List.size_toArray, List.length_cons, List.length_nil, Nat.zero_add, List.range_succ, List.range_zero, List.nil_append, List.getElem?_toArray, List.getElem?_cons_zero, Go.Ab.put, ↓opK_some, ↓guK_none, kw1, roOf, aop, ev, ofV, ↓roK_ok, Nat.reduceAdd, List.cons_append, upd, reduceCtorEq, ↓reduceIte, argTs, List.getD_cons_zero, List.getElem?_cons_succ, Nat.reduceEqDiff, List.getD_cons_succ, tcall, Tab.nil, List.map_cons, List.map_nil, ↓roK_call, true_and]
      refine indexP hseg0 hl hp ?_
      rw [hfi]
      refine walk hmix TOk.nil [] 3000 0 (by kernel_rfl) ?_
      simp (maxSteps := 2000000) only [Int.reduceNeg, kw0, List.getElem?_toArray, List.getElem?_cons_succ, List.getElem?_cons_zero, Go.Ab.put, ↓opK_some, ↓guK_none, kw1, roOf, aop, ev, upd, ↓reduceIte, ↓roK_ok, List.size_toArray, List.length_cons, List.length_nil, Nat.zero_add, Nat.reduceAdd, List.range_succ, List.range_zero, List.nil_append, List.cons_append, aBin, ofV, aBinI, beq_eq_decide', hk1, decide_false, Option.map_some, ↓gdK_false, Nat.reduceEqDiff, w1, true_and]
      have hfk : (l.take (k + 1)).filter (fun x => !pr x) = l.take k := by
        rw [take_succ_getD default hk, List.filter_append, List.filter_eq_self.2 fun x hx => by rw [hpre x hx]; rfl]
        have : ([l.getD k default].filter fun x => !pr x) = [] := by rw [List.filter_cons_of_neg (by rw [hpk]; decide), List.filter_nil]
        rw [this, List.append_nil]
      have htk0 : rs.take k = (l.take k).map Plc.av := by
        have h := congrArg (List.take k) ht
        rw [List.take_take, Nat.min_eq_left (by omega), ← List.map_take] at h
        exact h
      refine FW.loopInv (fun m ts H' => ∃ (i j : Nat) (rs' : List AV), j + m = l.length ∧ i < j ∧ H'[id]? = some (.arr 9 rs') ∧ rs'.length = rs.length ∧ i = ((l.take j).filter fun x => !pr x).length ∧ rs'.take i = ((l.take j).filter fun x => !pr x).map Plc.av ∧
        (∀ q, i ≤ q → q < n → ∃ y : Plc, rs'.getD q .un = y.av) ∧ (∀ q, j ≤ q → q < n → rs'.getD q .un = (l.getD q default).av) ∧ (∀ q, q < H.length → q ≠ id → H'[q]? = H[q]?) ∧ H.length ≤ H'.length ∧ ts 0 = .sl id 0 n cap ∧ ts 1 = .fn g [] caps ∧ ts 5 = I (i : Int) ∧ ts 6 = I (j : Int)) (l.length - (k + 1))
        ⟨k, k + 1, rs, by omega, by omega, hid, rfl, by rw [hfk, List.length_take]; omega, by rw [hfk]; exact htk0, (fun q _ h2 => ⟨_, SegP.get hn ht h2⟩), (fun q _ h2 => SegP.get hn ht h2), (fun _ _ _ => rfl), Nat.le_refl _, rfl, rfl, rfl, rfl⟩ ?_
      have hidl := lt_of_get hid
      rintro m ih ts H' ⟨i, j, rs', hj, hij, hr', hrl, hil, hit, hiy, hjy, hoth, hlen, t0, t1, t5, t6⟩
      refine FW.inLoop ?_
      by_cases hlt : j < n
      · have hd1 : decide ((j : Int) < (n : Int)) = true := by simp [hlt]
        have hg := hjy j (Nat.le_refl _) hlt
        obtain ⟨y, hy⟩ := hiy i (Nat.le_refl _) (by omega)
        have hb : j < rs'.length := by omega
        have hb2 : i < rs'.length := by omega
        have htk := take_succ_getD default (by omega : j < l.length)
        have hmem : l.getD j default ∈ l := by simp [List.getD, (by omega : j < l.length)]
        have w2 := wrapL (n := (j : Int) + 1) (by omega) (by omega)
        have w3 := wrapL (n := (i : Int) + 1) (by omega) (by omega)
        generalize hx : l.getD j default = x at hg hmem htk
        have hcl := Plc.cells x
        have hcy := Plc.cells y
        have hri : ∀ X, (H' ++ X)[id]? = some (.arr 9 rs') := fun X => by rw [List.getElem?_append_left (by omega)]; exact hr'
        refine walk hmix TOk.nil [] 3000 0 (by kernel_rfl) ?_
        simp (maxSteps := 2000000) only [kw0, List.size_toArray, List.length_cons, List.length_nil, Nat.zero_add, Nat.reduceAdd, List.range_succ, List.range_zero, List.nil_append, List.cons_append, List.getElem?_toArray, List.getElem?_cons_zero, Go.Ab.put, ↓opK_some, ↓guK_none, kw1, roOf, aop, ev, t6, ↓roK_ok, List.getElem?_cons_succ, upd, reduceCtorEq, ↓reduceIte, t0, ty1, Option.map_some, aBin, Nat.reduceEqDiff, aBinI, hd1, ↓gdK_true, aInt, hr', Int.toNat_natCast, aload, rdCells, hb, Nat.le_refl, and_self, hg, Plc.av, AV.cells.eq_1, List.drop_zero, List.take_succ_cons, List.take_nil, astore, AV.isEl.eq_2, wrCells, getA0, splice, List.take_zero, List.drop_succ_cons, List.drop_nil, List.append_nil, setA0, List.set_cons_zero, t1, tcall, Tab.nil, List.map_cons, List.map_nil, ↓roK_call, true_and]
        repeat (refine ⟨by omega, ?_⟩)
        refine hp _ x _ hmem (fun q h1 h2 => by rw [List.getElem?_append_left (by omega)]; exact hoth q h1 (fun e => h2 (by rw [e]; rfl))) ?_
        cases hpx : pr x
        · have hset : ∀ X Y, ((H' ++ X).set id Y)[id]? = some Y := fun X Y => List.getElem?_set_self (by simp; omega)
          refine walk hmix TOk.nil [] 3000 0 (by kernel_rfl) ?_
          simp (maxSteps := 2000000) only [kw0, List.getElem?_toArray, List.getElem?_cons_succ, List.getElem?_cons_zero, Go.Ab.put, ↓opK_some, ↓guK_none, kw1, roOf, aop, ev, upd, ↓reduceIte, Bool.not_false, ↓roK_ok, ↓gdK_true, List.size_toArray, List.length_cons, List.length_nil, Nat.zero_add, Nat.reduceAdd, List.range_succ, List.range_zero, List.nil_append, List.cons_append, reduceCtorEq, t0, Nat.reduceEqDiff, t5, aload, ty1, rdCells, getA0, Nat.le_refl, List.drop_zero, List.take_succ_cons, List.take_nil, Option.map_some, aInt, hri, Int.toNat_natCast, astore, AV.isEl.eq_2, AV.cells.eq_1, and_self, wrCells, hb2, reEl, hy, Plc.av, splice, List.take_zero, List.drop_succ_cons, List.drop_nil, List.append_nil, aBin, ofV, aBinI, w3, t6, w2, true_and]
          repeat (refine ⟨by omega, ?_⟩)
          have hft : (l.take (j + 1)).filter (fun x => !pr x) = (l.take j).filter (fun x => !pr x) ++ [x] := by rw [htk, List.filter_append]; simp [hpx]
          exact ih (m - 1) (by omega) _ _ ⟨i + 1, j + 1, rs'.set i x.av, by omega, by omega, hset _ _, by rw [List.length_set]; exact hrl, by rw [hft, List.length_append, List.length_singleton, ← hil], (by
              rw [hft, List.map_append, ← hit, List.take_add_one, List.getElem?_set_self hb2, List.take_set_of_le (Nat.le_refl _)]
              rfl), (fun q h1 h2 => by rw [List.getD_eq_getElem?_getD, List.getElem?_set_ne (by omega), ← List.getD_eq_getElem?_getD]; exact hiy q (by omega) h2),
            (fun q h1 h2 => by rw [List.getD_eq_getElem?_getD, List.getElem?_set_ne (by omega), ← List.getD_eq_getElem?_getD]; exact hjy q (by omega) h2), (fun q h1 h2 => by rw [List.getElem?_set_ne (fun e => h2 e.symm), List.getElem?_append_left (by omega)]; exact hoth q h1 h2), by simp; omega, t0, t1, rfl, rfl⟩
        · skip
          have hft : (l.take (j + 1)).filter (fun x => !pr x) = (l.take j).filter (fun x => !pr x) := by rw [htk, List.filter_append]; simp [hpx]
          refine walk hmix TOk.nil [] 3000 0 (by kernel_rfl) ?_
          simp (maxSteps := 2000000) only [kw0, List.getElem?_toArray, List.getElem?_cons_succ, List.getElem?_cons_zero, Go.Ab.put, ↓opK_some, ↓guK_none, kw1, roOf, aop, ev, upd, ↓reduceIte, Bool.not_true, ↓roK_ok, ↓gdK_false, List.size_toArray, List.length_cons, List.length_nil, Nat.zero_add, Nat.reduceAdd, List.range_succ, List.range_zero, List.nil_append, List.cons_append, Nat.reduceEqDiff, t6, aBin, ofV, aBinI, w2, Option.map_some, true_and]
          exact ih (m - 1) (by omega) _ _ ⟨i, j + 1, rs', by omega, by omega, hri _, hrl, by rw [hft]; exact hil, by rw [hft]; exact hit, hiy, (fun q h1 h2 => hjy q (by omega) h2), (fun q h1 h2 => by rw [List.getElem?_append_left (by omega)]; exact hoth q h1 h2), by simp; omega, t0, t1, t5, rfl⟩
      · have hd1 : decide ((j : Int) < (n : Int)) = false := by simp; omega
        have hjl : j = l.length := by omega
        rw [hjl, List.take_length] at hil hit
        have b4 : i + (n - i) ≤ rs'.length := by omega
        have b5 : 0 < cap - i := by omega
        have hset : ∀ X, (H'.set id X)[id]? = some X := fun X => List.getElem?_set_self (lt_of_get hr')
        refine walk hmix TOk.nil [] 3000 0 (by kernel_rfl) ?_
        simp (maxSteps := 2000000) only [kw0, List.size_toArray, List.length_cons, List.length_nil, Nat.zero_add, Nat.reduceAdd, List.range_succ, List.range_zero, List.nil_append, List.cons_append, List.getElem?_toArray, List.getElem?_cons_zero, Go.Ab.put, ↓opK_some, ↓guK_none, kw1, roOf, aop, ev, t6, ↓roK_ok, List.getElem?_cons_succ, upd, reduceCtorEq, ↓reduceIte, t0, ty1, Option.map_some, aBin, Nat.reduceEqDiff, aBinI, hd1, ↓gdK_false, exitTo, beq_self_eq_true, or_false, ↓exK_some, t5, aSlice, Option.map_none, hr', aBound, aInt, Int.toNat_natCast, true_and, aop2, aClear, AV.cells.eq_1, b4, b5, and_self, hset, Nat.add_zero, or_true]
        repeat (refine ⟨by omega, ?_⟩)
        refine ⟨_, rfl, hK _ _ (SegP.row (n := i) (cap := cap) (hset _) hil ?_ (by omega) ?_) (.inr ⟨_, _, _, _, _, rfl, rfl⟩) fun q h1 h2 => ?_⟩
        · simp only [List.length_append, List.length_take, List.length_replicate, List.length_drop]; omega
        · rw [List.take_append_of_le_length (by rw [List.length_take]; omega), List.take_take, Nat.min_self]; exact hit
        · have hq : q ≠ id := fun e => h2 (by rw [e]; rfl)
          rw [List.getElem?_set_ne (fun e => hq e.symm)]; exact hoth q h1 hq
end Go.Ab.Pd

set_option linter.unusedSimpArgs false
set_option linter.unusedVariables false
namespace Go.Ab.Pd
open Go.Proofs
theorem ok32 : codeOk 18 (Tryz.f32.body.getD .skip) = true := by kernel_rfl
theorem ro32 : resOk 18 Tryz.f32.results = true := by kernel_rfl
theorem dr32 : todoDr [] [.code (Tryz.f32.body.getD .skip)] = true := by kernel_rfl
set_option maxHeartbeats 4000000 in
set_option maxRecDepth 400000 in
theorem all1_pur {a b c e : Int} {s1 s2 : AV} {g : Bool} (h1 : s1.pur = true) (h2 : s2.pur = true) (k1 : s1.isCell = true ∧ s1.isEl = true ∧ s1.cells = [s1]) (k2 : s2.isCell = true ∧ s2.isEl = true ∧ s2.cells = [s2]) (x : Plc) (hp : Pur Tryz.prog GG 10 [.agg [I a, I b, I c], x.av, s1, s2] (.tup [B g, I e])) :
    Pur Tryz.prog GG 32 [x.av, .iptr [I a, I b, I c] 0, .iptr [s1] 0, .iptr [s2] 0] (B (!g)) := by
  obtain ⟨k11, k12, k13⟩ := k1
  obtain ⟨k21, k22, k23⟩ := k2
  simp only [Plc.av] at hp
  show Pur Tryz.prog GG 32 [PL x.x x.y x.z x.p x.q x.r x.s x.t x.u, .iptr [I a, I b, I c] 0, .iptr [s1] 0, .iptr [s2] 0] _
  refine Pur.of_alone ggp (by simp [AV.purL, AV.pur, h1, h2]) (AC.of_body (c := (Tryz.f32.body.getD .skip)) Tryz.func32 rfl (by decide) ok32 ro32 (by exact (by decide : 4 ≤ 18)) ?_)
  refine walk hmix TOk.nil [] 3000 0 dr32 ?_
  delta Tryz.f32
  simp only [Option.getD_some]
  simp (maxSteps := 2000000) only [resA, resL, resVar, Option.some.injEq, kw0, List.size_toArray, List.length_cons, List.length_nil, Nat.zero_add, Nat.reduceAdd, List.range_succ, List.range_zero, List.nil_append, List.cons_append, List.getElem?_toArray, List.getElem?_cons_zero, Go.Ab.put, ↓opK_some, ↓guK_none, kw1, roOf, aop, ev, argTs, List.getD_cons_zero, AV.isEl.eq_2, ↓reduceIte, AV.cells.eq_1, ↓roK_ok, List.getElem?_cons_succ, ofV, aload, ty0, rdCells, upd, Nat.reduceEqDiff, List.getD_cons_succ, Nat.le_refl, List.drop_zero, List.take_succ_cons, List.take_nil, Option.map_some, ty1, tcall, Tab.nil, List.map_cons, List.map_nil, ↓roK_call, true_and]
  refine AC.pur hp ?_
  refine walk hmix TOk.nil [] 3000 0 (by kernel_rfl) ?_
  simp (maxSteps := 2000000) only [kw0, List.getElem?_toArray, List.getElem?_cons_succ, List.getElem?_cons_zero, Go.Ab.put, ↓opK_some, ↓guK_none, kw1, roOf, aop, ev, upd, ↓reduceIte, ↓roK_ok, Option.map_some, Nat.reduceEqDiff, List.size_toArray, List.length_cons, List.length_nil, Nat.zero_add, Nat.reduceAdd, List.range_succ, List.range_zero, List.nil_append, List.cons_append, reduceCtorEq, or_true, true_and]
  exact ⟨_, rfl, done_pur rfl rfl⟩
def rsl (a b c : Int) (w : Wnt) (l : List Plc) : AV := if wholeL a b c w = [] then .c (.slice none 0 0) else .isl (l.map Plc.av)
theorem rsl_is {a b c : Int} {w : Wnt} (f : Plc → Bool) : IsSl (rsl a b c w ((wholeL a b c w).filter f)) (((wholeL a b c w).filter f).map Plc.av) := by
  unfold rsl
  split
  · rename_i h
    rw [h]; exact .inr ⟨rfl, rfl⟩
  · exact .inl rfl
theorem ok12 : codeOk 40 (Tryz.f12.body.getD .skip) = true := by kernel_rfl
theorem ro12 : resOk 40 Tryz.f12.results = true := by kernel_rfl
theorem dr12 : todoDr [] [.code (Tryz.f12.body.getD .skip)] = true := by kernel_rfl
set_option maxHeartbeats 8000000 in
set_option maxRecDepth 400000 in
theorem spotsA_bad {a b c : Int} (w : Wnt) {s1 s2 : AV} (q1 : IsSet s1) (q2 : IsSet s2) (h : ¬dwchk a b c w.p w.q w.r = 0) : Pur Tryz.prog GG 12 [.agg [I a, I b, I c], w.av, s1, s2] (.tup [.c (.slice none 0 0), I (dwchk a b c w.p w.q w.r)]) := by
  have h1 := q1.pur
  have h2 := q2.pur
  obtain ⟨k11, k12, k13⟩ := q1.cell
  obtain ⟨k21, k22, k23⟩ := q2.cell
  show Pur Tryz.prog GG 12 [.agg [I a, I b, I c], WT w.p w.q w.r w.s w.t w.u w.v, s1, s2] _
  refine Pur.of_alone ggp (by simp [AV.purL, AV.pur, h1, h2]) (AC.of_body (c := (Tryz.f12.body.getD .skip)) Tryz.func12 rfl (by decide) ok12 ro12 (by exact (by decide : 4 ≤ 40)) ?_)
  refine walk hmix S3_ok [] 3000 0 dr12 ?_
  delta Tryz.f12
  simp only [Option.getD_some]
  simp (maxSteps := 2000000) only [S3, S2, S1, T23, T22, T21, T20, T19, T18, T17, T16, T13, T12, T11, T10, T9, T8, T7, T6, T5, T4, T3, T2, T1, T0, resA, resL, resVar, Option.some.injEq, kw0, List.size_toArray, List.length_cons, List.length_nil, Nat.zero_add, Nat.reduceAdd, List.range_succ, List.range_zero, List.nil_append, List.cons_append, List.getElem?_toArray, List.getElem?_cons_zero, Go.Ab.put, ↓opK_some, ↓guK_none, kw1, roOf, aop, ev, argTs, List.getD_cons_zero, AV.isEl.eq_2, ↓reduceIte, AV.cells.eq_1, ↓roK_ok, List.getElem?_cons_succ, upd, Nat.reduceEqDiff, List.getD_cons_succ, k12, k13, k22, k23, ofV, aload, ty0, rdCells, Nat.le_refl, List.drop_zero, List.take_succ_cons, List.take_nil, Option.map_some, tcall, Tab.ext, g28, List.map_cons, List.map_nil, List.append_nil, aBin, aBinI, bne_eq_decide', ne_eq, h, not_false_eq_true, decide_true, ↓gdK_true, reduceCtorEq, or_true, true_and]
  exact ⟨_, rfl, done_pur rfl rfl⟩
theorem dwchk_ok {a b c p q r : Int} : dwchk a b c p q r = 0 ↔ okD a b c ∧ okW p q r := by
  unfold dwchk wchk
  split
  · split <;> simp_all
  · simp_all
set_option maxHeartbeats 8000000 in
set_option maxRecDepth 400000 in
theorem spotsA_sets {a b c : Int} (w : Wnt) {s1 s2 : AV} (q1 : IsSet s1) (q2 : IsSet s2) (h : dwchk a b c w.p w.q w.r = 0) {e1 e2 : Int} (p1 : Pur Tryz.prog GG 29 [I (manyV a b c), s1] (I e1)) (p2 : Pur Tryz.prog GG 29 [I (3 * manyV a b c), s2] (I e2)) (he : ¬(e1 = 0 ∧ e2 = 0)) :
    Pur Tryz.prog GG 12 [.agg [I a, I b, I c], w.av, s1, s2] (.tup [.c (.slice none 0 0), I 8]) := by
  have h1 := q1.pur
  have h2 := q2.pur
  obtain ⟨k11, k12, k13⟩ := q1.cell
  obtain ⟨k21, k22, k23⟩ := q2.cell
  have hd := (dwchk_ok.1 h).1
  have hmu := okD_mul hd
  have hmv : manyV a b c = a * b * c := by rw [manyV, if_pos hd]
  have w3 := wrapL (n := 3 * manyV a b c) (by omega) (by omega)
  show Pur Tryz.prog GG 12 [.agg [I a, I b, I c], WT w.p w.q w.r w.s w.t w.u w.v, s1, s2] _
  by_cases z1 : e1 = 0
  · have z2 : ¬e2 = 0 := fun z2 => he ⟨z1, z2⟩
    subst z1
    refine Pur.of_alone ggp (by simp [AV.purL, AV.pur, h1, h2]) (AC.of_body (c := (Tryz.f12.body.getD .skip)) Tryz.func12 rfl (by decide) ok12 ro12 (by exact (by decide : 4 ≤ 40)) ?_)
    refine walk hmix S3_ok [] 3000 0 dr12 ?_
    delta Tryz.f12
    simp only [Option.getD_some]
    simp (maxSteps := 2000000) only [S3, S2, S1, T23, T22, T21, T20, T19, T18, T17, T16, T13, T12, T11, T10, T9, T8, T7, T6, T5, T4, T3, T2, T1, T0, resA, resL, resVar, Option.some.injEq, kw0, List.size_toArray, List.length_cons, List.length_nil, Nat.zero_add, Nat.reduceAdd, List.range_succ, List.range_zero, List.nil_append, List.cons_append, List.getElem?_toArray, List.getElem?_cons_zero, Go.Ab.put, ↓opK_some, ↓guK_none, kw1, roOf, aop, ev, argTs, List.getD_cons_zero, AV.isEl.eq_2, ↓reduceIte, AV.cells.eq_1, ↓roK_ok, List.getElem?_cons_succ, upd, Nat.reduceEqDiff, List.getD_cons_succ, k12, k13, k22, k23, ofV, aload, ty0, rdCells, Nat.le_refl, List.drop_zero, List.take_succ_cons, List.take_nil, Option.map_some, tcall, Tab.ext, g28, List.map_cons, List.map_nil, List.append_nil, h, aBin, aBinI, bne_eq_decide', ne_eq, not_true_eq_false, decide_false, ↓gdK_false, g22, ty1, Tab.nil, ↓roK_call, true_and]
    refine AC.pur p1 ?_
    refine walk hmix S3_ok [] 3000 0 (by kernel_rfl) ?_
    simp (maxSteps := 2000000) only [S3, S2, S1, T23, T22, T21, T20, T19, T18, T17, T16, T13, T12, T11, T10, T9, T8, T7, T6, T5, T4, T3, T2, T1, T0, kw0, List.getElem?_toArray, List.getElem?_cons_succ, List.getElem?_cons_zero, Go.Ab.put, ↓opK_some, ↓guK_none, kw1, roOf, aop, aBin, ev, upd, ↓reduceIte, ofV, aBinI, bne_eq_decide', ne_eq, not_true_eq_false, decide_false, Option.map_some, ↓roK_ok, ↓guK_some, Option.bind_some, ↓tmK_some, ↓gsK_false, beq_self_eq_true, Nat.reduceEqDiff, w3, aload, ty1, rdCells, Nat.zero_add, List.length_cons, List.length_nil, Nat.le_refl, List.drop_zero, List.take_succ_cons, List.take_nil, tcall, Tab.ext, Tab.nil, List.map_cons, List.map_nil, ↓roK_call, true_and]
    refine AC.pur p2 ?_
    refine walk hmix S3_ok [] 3000 0 (by kernel_rfl) ?_
    simp (maxSteps := 2000000) only [S3, S2, S1, T23, T22, T21, T20, T19, T18, T17, T16, T13, T12, T11, T10, T9, T8, T7, T6, T5, T4, T3, T2, T1, T0, kw0, List.getElem?_toArray, List.getElem?_cons_succ, List.getElem?_cons_zero, Go.Ab.put, ↓opK_some, ↓guK_some, Option.bind_some, ↓tmK_some, kw1, upd, Nat.reduceEqDiff, ↓reduceIte, ↓gsK_false, beq_self_eq_true, roOf, aop, aBin, ev, ofV, aBinI, bne_eq_decide', ne_eq, z2, not_false_eq_true, decide_true, Option.map_some, ↓roK_ok, ↓guK_none, pickA, cond_false, ↓gdK_true, List.size_toArray, List.length_cons, List.length_nil, Nat.zero_add, Nat.reduceAdd, List.range_succ, List.range_zero, List.nil_append, List.cons_append, reduceCtorEq, or_true, true_and]
    exact ⟨_, rfl, done_pur rfl rfl⟩
  · skip
    refine Pur.of_alone ggp (by simp [AV.purL, AV.pur, h1, h2]) (AC.of_body (c := (Tryz.f12.body.getD .skip)) Tryz.func12 rfl (by decide) ok12 ro12 (by exact (by decide : 4 ≤ 40)) ?_)
    refine walk hmix S3_ok [] 3000 0 dr12 ?_
    delta Tryz.f12
    simp only [Option.getD_some]
    simp (maxSteps := 2000000) only [S3, S2, S1, T23, T22, T21, T20, T19, T18, T17, T16, T13, T12, T11, T10, T9, T8, T7, T6, T5, T4, T3, T2, T1, T0, resA, resL, resVar, Option.some.injEq, kw0, List.size_toArray, List.length_cons, List.length_nil, Nat.zero_add, Nat.reduceAdd, List.range_succ, List.range_zero, List.nil_append, List.cons_append, List.getElem?_toArray, List.getElem?_cons_zero, Go.Ab.put, ↓opK_some, ↓guK_none, kw1, roOf, aop, ev, argTs, List.getD_cons_zero, AV.isEl.eq_2, ↓reduceIte, AV.cells.eq_1, ↓roK_ok, List.getElem?_cons_succ, upd, Nat.reduceEqDiff, List.getD_cons_succ, k12, k13, k22, k23, ofV, aload, ty0, rdCells, Nat.le_refl, List.drop_zero, List.take_succ_cons, List.take_nil, Option.map_some, tcall, Tab.ext, g28, List.map_cons, List.map_nil, List.append_nil, h, aBin, aBinI, bne_eq_decide', ne_eq, not_true_eq_false, decide_false, ↓gdK_false, g22, ty1, Tab.nil, ↓roK_call, true_and]
    refine AC.pur p1 ?_
    refine walk hmix S3_ok [] 3000 0 (by kernel_rfl) ?_
    simp (maxSteps := 2000000) only [S3, S2, S1, T23, T22, T21, T20, T19, T18, T17, T16, T13, T12, T11, T10, T9, T8, T7, T6, T5, T4, T3, T2, T1, T0, kw0, List.getElem?_toArray, List.getElem?_cons_succ, List.getElem?_cons_zero, Go.Ab.put, ↓opK_some, ↓guK_none, kw1, roOf, aop, aBin, ev, upd, ↓reduceIte, ofV, aBinI, bne_eq_decide', ne_eq, z1, not_false_eq_true, decide_true, Option.map_some, ↓roK_ok, ↓guK_some, Option.bind_some, ↓tmK_some, ↓gsK_true, Nat.reduceEqDiff, pickA, cond_true, ↓gdK_true, List.size_toArray, List.length_cons, List.length_nil, Nat.zero_add, Nat.reduceAdd, List.range_succ, List.range_zero, List.nil_append, List.cons_append, reduceCtorEq, or_true, true_and]
    exact ⟨_, rfl, done_pur rfl rfl⟩
theorem fm_le {a b c : Int} (hd : okD a b c) : ∀ l : List Wnt, (l.flatMap (plL a b c)).length ≤ l.length * 4096
  | [] => by simp
  | x :: l => by
    have h1 := plL_le hd x
    have h2 := fm_le hd l
    rw [List.flatMap_cons, List.length_append, List.length_cons, Nat.succ_mul]; omega
theorem whole_le {a b c : Int} (hd : okD a b c) (w : Wnt) : (wholeL a b c w).length ≤ 24576 := by
  have h1 := fm_le hd w.turns
  have h2 := w.turns_len
  have h3 := compL_le default ((rawL a b c w).mergeSort fun x y => decide (Plc.cmp a b c x y ≤ 0)) ((rawL a b c w).mergeSort fun x y => decide (Plc.cmp a b c x y ≤ 0)).length
  have h4 : wholeL a b c w = compL default ((rawL a b c w).mergeSort fun x y => decide (Plc.cmp a b c x y ≤ 0)) ((rawL a b c w).mergeSort fun x y => decide (Plc.cmp a b c x y ≤ 0)).length := rfl
  rw [h4]
  refine Nat.le_trans h3 ?_
  rw [List.length_mergeSort]
  unfold rawL
  omega
set_option maxHeartbeats 8000000 in
set_option maxRecDepth 400000 in
theorem spotsA_ok {a b c : Int} (w : Wnt) {s1 s2 : AV} (q1 : IsSet s1) (q2 : IsSet s2) (h : dwchk a b c w.p w.q w.r = 0) (p1 : Pur Tryz.prog GG 29 [I (manyV a b c), s1] (I 0)) (p2 : Pur Tryz.prog GG 29 [I (3 * manyV a b c), s2] (I 0))
    {hold : Plc → Bool} (hh : ∀ x, x.ok a b c → Pur Tryz.prog GG 10 [.agg [I a, I b, I c], x.av, s1, s2] (.tup [B (hold x), I 0])) :
    Pur Tryz.prog GG 12 [.agg [I a, I b, I c], w.av, s1, s2] (.tup [rsl a b c w ((wholeL a b c w).filter hold), I 0]) := by
  have h1 := q1.pur
  have h2 := q2.pur
  have k1 := q1.cell
  have k2 := q2.cell
  obtain ⟨k11, k12, k13⟩ := k1
  obtain ⟨k21, k22, k23⟩ := k2
  obtain ⟨hd, hw⟩ := dwchk_ok.1 h
  have hmu := okD_mul hd
  have hmv : manyV a b c = a * b * c := by rw [manyV, if_pos hd]
  have w3 := wrapL (n := 3 * manyV a b c) (by omega) (by omega)
  show Pur Tryz.prog GG 12 [.agg [I a, I b, I c], WT w.p w.q w.r w.s w.t w.u w.v, s1, s2] _
  refine Pur.of_alone ggp (by simp [AV.purL, AV.pur, h1, h2]) (AC.of_body (c := (Tryz.f12.body.getD .skip)) Tryz.func12 rfl (by decide) ok12 ro12 (by exact (by decide : 4 ≤ 40)) ?_)
  refine walk hmix S3_ok [] 3000 0 dr12 ?_
  delta Tryz.f12
  simp only [Option.getD_some]
  simp (maxSteps := 2000000) only [S3, S2, S1, T23, T22, T21, T20, T19, T18, T17, T16, T13, T12, T11, T10, T9, T8, T7, T6, T5, T4, T3, T2, T1, T0, resA, resL, resVar, Option.some.injEq, kw0, List.size_toArray, List.length_cons, List.length_nil, Nat.zero_add, Nat.reduceAdd, List.range_succ, List.range_zero, List.nil_append, List.cons_append, List.getElem?_toArray, List.getElem?_cons_zero, Go.Ab.put, ↓opK_some, ↓guK_none, kw1, roOf, aop, ev, argTs, List.getD_cons_zero, AV.isEl.eq_2, ↓reduceIte, AV.cells.eq_1, ↓roK_ok, List.getElem?_cons_succ, upd, Nat.reduceEqDiff, List.getD_cons_succ, k12, k13, k22, k23, ofV, aload, ty0, rdCells, Nat.le_refl, List.drop_zero, List.take_succ_cons, List.take_nil, Option.map_some, tcall, Tab.ext, g28, List.map_cons, List.map_nil, List.append_nil, h, aBin, aBinI, bne_eq_decide', ne_eq, not_true_eq_false, decide_false, ↓gdK_false, g22, ty1, Tab.nil, ↓roK_call, true_and]
  refine AC.pur p1 ?_
  refine walk hmix S3_ok [] 3000 0 (by kernel_rfl) ?_
  simp (maxSteps := 2000000) only [S3, S2, S1, T23, T22, T21, T20, T19, T18, T17, T16, T13, T12, T11, T10, T9, T8, T7, T6, T5, T4, T3, T2, T1, T0, kw0, List.getElem?_toArray, List.getElem?_cons_succ, List.getElem?_cons_zero, Go.Ab.put, ↓opK_some, ↓guK_none, kw1, roOf, aop, aBin, ev, upd, ↓reduceIte, ofV, aBinI, bne_eq_decide', ne_eq, not_true_eq_false, decide_false, Option.map_some, ↓roK_ok, ↓guK_some, Option.bind_some, ↓tmK_some, ↓gsK_false, beq_self_eq_true, Nat.reduceEqDiff, w3, aload, ty1, rdCells, Nat.zero_add, List.length_cons, List.length_nil, Nat.le_refl, List.drop_zero, List.take_succ_cons, List.take_nil, tcall, Tab.ext, Tab.nil, List.map_cons, List.map_nil, ↓roK_call, true_and]
  refine AC.pur p2 ?_
  refine walk hmix S3_ok [] 3000 0 (by kernel_rfl) ?_
  simp (maxSteps := 2000000) only [S3, S2, S1, T23, T22, T21, T20, T19, T18, T17, T16, T13, T12, T11, T10, T9, T8, T7, T6, T5, T4, T3, T2, T1, T0, kw0, List.getElem?_toArray, List.getElem?_cons_succ, List.getElem?_cons_zero, Go.Ab.put, ↓opK_some, ↓guK_some, Option.bind_some, ↓tmK_some, kw1, upd, Nat.reduceEqDiff, ↓reduceIte, ↓gsK_false, beq_self_eq_true, roOf, aop, aBin, ev, ofV, aBinI, bne_eq_decide', ne_eq, not_true_eq_false, decide_false, Option.map_some, ↓roK_ok, ↓guK_none, pickA, cond_false, ↓gdK_false, List.size_toArray, List.length_cons, List.length_nil, Nat.zero_add, Nat.reduceAdd, List.range_succ, List.range_zero, List.nil_append, List.cons_append, aload, ty0, rdCells, Nat.le_refl, List.drop_zero, List.take_succ_cons, List.take_nil, tcall, Tab.ext, Tab.nil, List.map_cons, List.map_nil, ↓roK_call, true_and]
  refine whole_ac hd w hw ?_
  intro H1 s hseg hnil hoth hs
  have g0 : H1[0]? = some (.cells [I a, I b, I c]) := hoth 0 (by simp)
  have g2 : H1[2]? = some (.cells [s1]) := hoth 2 (by simp)
  have g3 : H1[3]? = some (.cells [s2]) := hoth 3 (by simp)
  have hl4 : ∀ j, j < 4 → j < H1.length ∧ ownId s ≠ some j := fun j hj => ⟨by
    have := lt_of_get g3; omega, fun e => by have := hs j e; simp at this; omega⟩
  refine walk hmix S3_ok [] 3000 0 (by kernel_rfl) ?_
  simp (maxSteps := 2000000) only [S3, S2, S1, T23, T22, T21, T20, T19, T18, T17, T16, T13, T12, T11, T10, T9, T8, T7, T6, T5, T4, T3, T2, T1, T0, kw0, List.getElem?_toArray, List.getElem?_cons_succ, List.getElem?_cons_zero, Go.Ab.put, ↓opK_some, ↓guK_none, kw1, roOf, aop, List.map_nil, List.map_cons, ev, upd, Nat.reduceEqDiff, ↓reduceIte, ↓roK_ok, tcall, Tab.ext, Tab.nil, ↓roK_call, true_and]
  refine deleteP (pr := fun x => !(hold x)) hseg (by have := whole_le hd w; omega) ?_ ?_
  · intro H' x K hx hfr hK
    have okx := raw_ok (whole_mem.1 hx)
    have f0 := (hfr 0 (hl4 0 (by omega)).1 (hl4 0 (by omega)).2).trans g0
    have f2 := (hfr 2 (hl4 2 (by omega)).1 (hl4 2 (by omega)).2).trans g2
    have f3 := (hfr 3 (hl4 3 (by omega)).1 (hl4 3 (by omega)).2).trans g3
    refine AC.view ggp (n := 3) (args' := [x.av, .iptr [I a, I b, I c] 0, .iptr [s1] 0, .iptr [s2] 0]) ?_ ?_ rfl (all1_pur h1 h2 q1.cell q2.cell x (hh x okx)) hK
    · simp [mapO, frz, Plc.pur, AV.pur, f0, f2, f3, h1, h2]
    · simp [AV.purL, AV.pur, Plc.pur, h1, h2]
  · intro H2 s' hseg' hsame _
    have hff : ((wholeL a b c w).filter fun x => !(!(hold x))) = (wholeL a b c w).filter hold := by simp
    rw [hff] at hseg'
    refine walk hmix S3_ok [] 3000 0 (by kernel_rfl) ?_
    simp (maxSteps := 2000000) only [S3, S2, S1, T23, T22, T21, T20, T19, T18, T17, T16, T13, T12, T11, T10, T9, T8, T7, T6, T5, T4, T3, T2, T1, T0, kw0, List.getElem?_toArray, List.getElem?_cons_succ, List.getElem?_cons_zero, Go.Ab.put, ↓opK_some, ↓guK_none, kw1, roOf, aop, ev, upd, ↓reduceIte, ↓roK_ok, ofV, reduceCtorEq, or_true, Nat.reduceEqDiff, true_and]
    refine ⟨_, rfl, ?_⟩
    rcases hsame with ⟨hs0, rfl⟩ | ⟨id, n, cap, n', cap', rfl, rfl⟩
    · subst hs0
      have hw0 : wholeL a b c w = [] := by
        generalize wholeL a b c w = L at hseg
        cases hseg; rfl
      unfold rsl
      rw [if_pos hw0]
      exact done_pur rfl rfl
    · have hw0 : ¬ wholeL a b c w = [] := fun e => by have := hnil e; cases this
      unfold rsl
      rw [if_neg hw0]
      cases hseg' with
      | row hid hn hr hc ht =>
        have := seg_done2 (cap := cap') (v := I 0) hid hr (by rw [ht]; exact purL_map Plc.av _ (fun _ => rfl)) rfl
        rw [ht] at this
        exact this
end Go.Ab.Pd

set_option linter.unusedSimpArgs false
set_option linter.unusedVariables false
namespace Go.Ab.Pd
open Go.Proofs
theorem eq3i0 (p q r p' q' r' : Int) : aEqS Tryz.prog 22 (.agg [I p, I q, I r]) (.agg [I p', I q', I r']) = some (p == p' && (q == q' && (r == r' && true))) := by kernel_rfl
theorem eq3i (p q r p' q' r' : Int) : aEqS Tryz.prog 22 (.agg [I p, I q, I r]) (.agg [I p', I q', I r']) = some (decide (p = p' ∧ q = q' ∧ r = r')) := by
  rw [eq3i0, Option.some.injEq, Bool.eq_iff_iff, decide_eq_true_iff]
  simp
theorem eq3b0 (p q r p' q' r' : Bool) : aEqS Tryz.prog 24 (.agg [B p, B q, B r]) (.agg [B p', B q', B r']) = some (p == p' && (q == q' && (r == r' && true))) := by kernel_rfl
theorem eq3b (p q r p' q' r' : Bool) : aEqS Tryz.prog 24 (.agg [B p, B q, B r]) (.agg [B p', B q', B r']) = some (decide (p = p' ∧ q = q' ∧ r = r')) := by
  rw [eq3b0, Option.some.injEq, Bool.eq_iff_iff, decide_eq_true_iff]
  simp
def isT (t : Wnt) (x : Plc) : Prop := (t.p = x.p ∧ t.q = x.q ∧ t.r = x.r) ∧ (torV t.s t.p = x.s ∧ torV t.t t.q = x.t ∧ torV t.u t.r = x.u)
instance (t : Wnt) (x : Plc) : Decidable (isT t x) := by unfold isT; infer_instance
theorem ok36 : codeOk 17 (Tryz.f36.body.getD .skip) = true := by kernel_rfl
theorem ro36 : resOk 17 Tryz.f36.results = true := by kernel_rfl
theorem dr36 : todoDr [] [.code (Tryz.f36.body.getD .skip)] = true := by kernel_rfl
set_option maxHeartbeats 4000000 in
set_option maxRecDepth 400000 in
theorem is1_pur (t : Wnt) (x : Plc) : Pur Tryz.prog GG 36 [t.av, .iptr [I x.x, I x.y, I x.z, I x.p, I x.q, I x.r, B x.s, B x.t, B x.u] 0] (B (decide (isT t x))) := by
  show Pur Tryz.prog GG 36 [WT t.p t.q t.r t.s t.t t.u t.v, .iptr [I x.x, I x.y, I x.z, I x.p, I x.q, I x.r, B x.s, B x.t, B x.u] 0] _
  by_cases h : t.p = x.p ∧ t.q = x.q ∧ t.r = x.r
  · have hd := eq3i t.p t.q t.r x.p x.q x.r
    rw [decide_eq_true h] at hd
    refine Pur.of_alone ggp (by simp [AV.purL, AV.pur]) (AC.of_body (c := (Tryz.f36.body.getD .skip)) Tryz.func36 rfl (by decide) ok36 ro36 (by exact (by decide : 2 ≤ 17)) ?_)
    refine walk hmix S4_ok [] 3000 0 dr36 ?_
    delta Tryz.f36
    simp only [Option.getD_some]
    simp (maxSteps := 2000000) only [S4, S3, S2, S1, T23, T22, T21, T20, T19, T18, T17, T16, T13, T12, T11, T10, T9, T8, T7, T6, T5, T4, T3, T2, T1, T0, resA, resL, resVar, Option.some.injEq, kw0, List.size_toArray, List.length_cons, List.length_nil, Nat.zero_add, Nat.reduceAdd, List.range_succ, List.range_zero, List.nil_append, List.cons_append, List.getElem?_toArray, List.getElem?_cons_zero, Go.Ab.put, ↓opK_some, ↓guK_none, kw1, roOf, aop, ev, argTs, List.getD_cons_zero, AV.isEl.eq_2, ↓reduceIte, AV.cells.eq_1, ↓roK_ok, List.getElem?_cons_succ, ofV, List.contains_nil, ty0, ptrAdd, upd, Nat.reduceEqDiff, Nat.add_zero, Option.map_some, aload, rdCells, Nat.reduceLeDiff, List.drop_zero, List.take_succ_cons, List.take_zero, ty1, List.getD_cons_succ, List.drop_succ_cons, aBin, aBinAgg, hd, ↓guK_some, Option.bind_some, ↓tmK_some, ↓gsK_true, beq_self_eq_true, Nat.le_refl, List.take_nil, tcall, Tab.ext, g37, List.map_cons, List.map_nil, List.append_nil, eq3b, pickA, cond_true, symR_nil, reduceCtorEq, or_true, true_and]
    exact ⟨_, rfl, done_pur rfl (by congr 2; unfold isT; simp [h])⟩
  · have hd := eq3i t.p t.q t.r x.p x.q x.r
    rw [decide_eq_false h] at hd
    refine Pur.of_alone ggp (by simp [AV.purL, AV.pur]) (AC.of_body (c := (Tryz.f36.body.getD .skip)) Tryz.func36 rfl (by decide) ok36 ro36 (by exact (by decide : 2 ≤ 17)) ?_)
    refine walk hmix S4_ok [] 3000 0 dr36 ?_
    delta Tryz.f36
    simp only [Option.getD_some]
    simp (maxSteps := 2000000) only [S4, S3, S2, S1, T23, T22, T21, T20, T19, T18, T17, T16, T13, T12, T11, T10, T9, T8, T7, T6, T5, T4, T3, T2, T1, T0, resA, resL, resVar, Option.some.injEq, kw0, List.size_toArray, List.length_cons, List.length_nil, Nat.zero_add, Nat.reduceAdd, List.range_succ, List.range_zero, List.nil_append, List.cons_append, List.getElem?_toArray, List.getElem?_cons_zero, Go.Ab.put, ↓opK_some, ↓guK_none, kw1, roOf, aop, ev, argTs, List.getD_cons_zero, AV.isEl.eq_2, ↓reduceIte, AV.cells.eq_1, ↓roK_ok, List.getElem?_cons_succ, ofV, List.contains_nil, ty0, ptrAdd, upd, Nat.reduceEqDiff, Nat.add_zero, Option.map_some, aload, rdCells, Nat.reduceLeDiff, List.drop_zero, List.take_succ_cons, List.take_zero, ty1, List.getD_cons_succ, List.drop_succ_cons, aBin, aBinAgg, hd, ↓guK_some, Option.bind_some, ↓tmK_some, ↓gsK_false, pickA, cond_false, symR_nil, reduceCtorEq, or_true, true_and]
    exact ⟨_, rfl, done_pur rfl (by
      have : ¬ isT t x := fun hh => h hh.1
      rw [decide_eq_false this])⟩
theorem ok72 : codeOk 19 (Tryz.f72.body.getD .skip) = true := by kernel_rfl
theorem ro72 : resOk 19 Tryz.f72.results = true := by kernel_rfl
theorem dr72 : todoDr [] [.code (Tryz.f72.body.getD .skip)] = true := by kernel_rfl
set_option maxHeartbeats 4000000 in
set_option maxRecDepth 400000 in
theorem indexW {g : Nat} {caps : List AV} {pr : Wnt → Bool} {l : List Wnt} {H : List AO} (hl : l.length ≤ 2 ^ 20) (hp : ∀ (x : Wnt) (K : AV → List AO → Prop), x ∈ l → K (B (pr x)) H → AC Tryz.prog GG g (x.av :: caps) H K) {K : AV → List AO → Prop} (hK : K (I (firstI pr l 0)) H) :
    AC Tryz.prog GG 72 [.isl (l.map Wnt.av), .fn g [] caps] H K := by
  refine AC.of_body (c := (Tryz.f72.body.getD .skip)) Tryz.func72 rfl (by decide) ok72 ro72 (by exact (by decide : 2 ≤ 19)) ?_
  refine walk hmix TOk.nil [] 3000 0 dr72 ?_
  delta Tryz.f72
  simp only [Option.getD_some]
  simp (maxSteps := 2000000) only [Int.reduceNeg, resA, resL, resVar, Option.some.injEq, kw0, List.size_toArray, List.length_cons, List.length_nil, Nat.zero_add, List.range_succ, List.range_zero, List.nil_append, List.getElem?_toArray, List.getElem?_cons_zero, Go.Ab.put, ↓opK_some, ↓guK_none, kw1, roOf, aop, ev, ofV, ↓roK_ok, Nat.reduceAdd, List.cons_append, upd, reduceCtorEq, ↓reduceIte, argTs, List.getD_cons_zero, List.getElem?_cons_succ, ty2, Option.map_some, true_and]
  refine FW.loopInv (fun m ts H' => ∃ i : Nat, i + m = l.length ∧ firstI pr (l.drop i) i = firstI pr l 0 ∧ H' = H ∧ ts 0 = .isl (l.map Wnt.av) ∧ ts 1 = .fn g [] caps ∧ ts 7 = I (l.map Wnt.av).length ∧ ts 8 = I (i : Int)) l.length
    ⟨0, by omega, rfl, rfl, rfl, rfl, rfl, rfl⟩ ?_
  rintro m ih ts H' ⟨i, hi, hf, rfl, t0, t1, t7, t8⟩
  rw [List.length_map] at t7
  refine FW.inLoop ?_
  by_cases hlt : i < l.length
  · have hd1 : decide ((i : Int) < (l.length : Int)) = true := by simp [hlt]
    have hg := getD_map Wnt.av l default hlt
    rw [drop_cons default hlt] at hf
    have hmem : l.getD i default ∈ l := by simp [List.getD, hlt]
    generalize l.getD i default = x at hg hf hmem
    have hcl := Wnt.cells x
    refine walk hmix TOk.nil [] 3000 0 (by kernel_rfl) ?_
    simp (maxSteps := 2000000) only [Int.reduceNeg, kw0, List.size_toArray, List.length_cons, List.length_nil, Nat.zero_add, List.range_succ, List.range_zero, List.nil_append, List.getElem?_toArray, List.getElem?_cons_zero, Go.Ab.put, ↓opK_some, ↓guK_none, kw1, roOf, aop, aBin, ev, t8, t7, aBinI, ↓reduceIte, hd1, Option.map_some, ↓roK_ok, upd, ↓gdK_true, Nat.reduceAdd, List.cons_append, Nat.reduceEqDiff, List.getElem?_cons_succ, t1, reduceCtorEq, t0, aInt, ty2, List.length_map, Int.toNat_natCast, hg, hcl, and_true, aload, ty0, rdCells, Nat.le_refl, List.drop_zero, List.take_succ_cons, List.take_nil, tcall, Tab.nil, List.map_cons, List.map_nil, ↓roK_call, true_and]
    repeat (refine ⟨by omega, ?_⟩)
    refine hp x _ hmem ?_
    rw [firstI_cons] at hf
    cases hpx : pr x
    · rw [hpx, if_neg (by decide)] at hf
      refine walk hmix TOk.nil [] 3000 0 (by kernel_rfl) ?_
      simp (maxSteps := 2000000) only [Int.reduceNeg, kw0, ev, upd, ↓reduceIte, ↓gdK_false, kw1, List.size_toArray, List.length_cons, List.length_nil, Nat.zero_add, Nat.reduceAdd, List.range_succ, List.range_zero, List.nil_append, List.cons_append, List.getElem?_toArray, List.getElem?_cons_zero, Go.Ab.put, ↓opK_some, ↓guK_none, roOf, aop, aBin, Nat.reduceEqDiff, t8, ofV, aBinI, Option.map_some, ↓roK_ok, List.getElem?_cons_succ, true_and]
      rw [wrapL (n := (i : Int) + 1) (by omega) (by omega)]
      exact ih (m - 1) (by omega) _ _ ⟨i + 1, by omega, hf, rfl, t0, t1, by rw [List.length_map]; exact t7, rfl⟩
    · rw [hpx, if_pos rfl] at hf
      refine walk hmix TOk.nil [] 3000 0 (by kernel_rfl) ?_
      simp (maxSteps := 2000000) only [Int.reduceNeg, kw0, ev, upd, ↓reduceIte, ↓gdK_true, kw1, List.size_toArray, List.length_cons, List.length_nil, Nat.zero_add, Nat.reduceAdd, List.range_succ, List.range_zero, List.nil_append, List.cons_append, List.getElem?_toArray, List.getElem?_cons_zero, Go.Ab.put, ↓opK_some, ↓guK_none, roOf, aop, Nat.reduceEqDiff, ↓roK_ok, List.getElem?_cons_succ, reduceCtorEq, or_true, true_and]
      exact ⟨_, rfl, by rw [hf]; exact hK⟩
  · have hd1 : decide ((i : Int) < (l.length : Int)) = false := by simp; omega
    rw [List.drop_eq_nil_of_le (by omega)] at hf
    refine walk hmix TOk.nil [] 3000 0 (by kernel_rfl) ?_
    simp (maxSteps := 2000000) only [Int.reduceNeg, kw0, List.size_toArray, List.length_cons, List.length_nil, Nat.zero_add, List.range_succ, List.range_zero, List.nil_append, List.getElem?_toArray, List.getElem?_cons_zero, Go.Ab.put, ↓opK_some, ↓guK_none, kw1, roOf, aop, aBin, ev, t8, t7, aBinI, ↓reduceIte, hd1, Option.map_some, ↓roK_ok, upd, ↓gdK_false, exitTo, beq_self_eq_true, reduceCtorEq, or_false, Nat.reduceEqDiff, ↓exK_some, ofV, or_true, true_and]
    exact ⟨_, rfl, by rw [show (-1 : Int) = firstI pr l 0 from hf]; exact hK⟩
theorem firstI_any {α : Type} [Inhabited α] (pr : α → Bool) (l : List α) : decide (0 ≤ firstI pr l 0) = l.any pr := by
  by_cases h : firstI pr l 0 = -1
  · have h1 := firstI_no h
    rw [h]
    have : l.any pr = false := List.any_eq_false.2 fun x hx => by rw [h1 x hx]; decide
    rw [this]; rfl
  · obtain ⟨k, h1, h2, h3, _⟩ := firstI_yes h
    have : l.any pr = true := List.any_eq_true.2 ⟨l.getD k default, by simp [List.getD, h1], h3⟩
    rw [this, h2]
    exact decide_eq_true (by omega)
theorem ok35 : codeOk 9 (Tryz.f35.body.getD .skip) = true := by kernel_rfl
theorem ro35 : resOk 9 Tryz.f35.results = true := by kernel_rfl
theorem dr35 : todoDr [] [.code (Tryz.f35.body.getD .skip)] = true := by kernel_rfl
set_option maxHeartbeats 4000000 in
set_option maxRecDepth 400000 in
theorem containsW {g : Nat} {caps : List AV} {pr : Wnt → Bool} {l : List Wnt} {H : List AO} (hl : l.length ≤ 2 ^ 20) (hp : ∀ (x : Wnt) (K : AV → List AO → Prop), x ∈ l → K (B (pr x)) H → AC Tryz.prog GG g (x.av :: caps) H K) {K : AV → List AO → Prop} (hK : K (B (l.any pr)) H) :
    AC Tryz.prog GG 35 [.isl (l.map Wnt.av), .fn g [] caps] H K := by
  rw [← firstI_any] at hK
  refine AC.of_body (c := (Tryz.f35.body.getD .skip)) Tryz.func35 rfl (by decide) ok35 ro35 (by exact (by decide : 2 ≤ 9)) ?_
  refine walk hmix TOk.nil [] 3000 0 dr35 ?_
  delta Tryz.f35
  simp only [Option.getD_some]
  simp (maxSteps := 2000000) only [resA, resL, resVar, Option.some.injEq, kw0, List.size_toArray, List.length_cons, List.length_nil, Nat.zero_add, List.range_succ, List.range_zero, List.nil_append, List.getElem?_toArray, List.getElem?_cons_zero, Go.Ab.put, ↓opK_some, ↓guK_none, kw1, roOf, aop, ev, ofV, ↓roK_ok, Nat.reduceAdd, List.cons_append, upd, reduceCtorEq, ↓reduceIte, argTs, List.getD_cons_zero, List.getElem?_cons_succ, Nat.reduceEqDiff, List.getD_cons_succ, tcall, Tab.nil, List.map_cons, List.map_nil, ↓roK_call, true_and]
  refine indexW hl hp ?_
  refine walk hmix TOk.nil [] 3000 0 (by kernel_rfl) ?_
  simp (maxSteps := 2000000) only [kw0, List.getElem?_toArray, List.getElem?_cons_succ, List.getElem?_cons_zero, Go.Ab.put, ↓opK_some, ↓guK_none, kw1, roOf, aop, aBin, ev, upd, ↓reduceIte, ofV, aBinI, Option.map_some, ↓roK_ok, reduceCtorEq, or_true, true_and]
  exact ⟨_, rfl, hK⟩
theorem ok14 : codeOk 32 (Tryz.f14.body.getD .skip) = true := by kernel_rfl
theorem ro14 : resOk 32 Tryz.f14.results = true := by kernel_rfl
theorem dr14 : todoDr [] [.code (Tryz.f14.body.getD .skip)] = true := by kernel_rfl
def isE (a b c : Int) (w : Wnt) (x : Plc) : Int := if dwchk a b c w.p w.q w.r = 0 then pchk a b c x.x x.y x.z x.p x.q x.r x.s x.t x.u else dwchk a b c w.p w.q w.r
def isV (a b c : Int) (w : Wnt) (x : Plc) : Bool := if isE a b c w x = 0 then w.turns.any fun t => decide (isT t x) else false
set_option maxHeartbeats 8000000 in
set_option maxRecDepth 400000 in
theorem spotsIs_pur (a b c : Int) (w : Wnt) (x : Plc) : Pur Tryz.prog GG 14 [.agg [I a, I b, I c], w.av, x.av] (.tup [B (isV a b c w x), I (isE a b c w x)]) := by
  show Pur Tryz.prog GG 14 [.agg [I a, I b, I c], WT w.p w.q w.r w.s w.t w.u w.v, PL x.x x.y x.z x.p x.q x.r x.s x.t x.u] _
  unfold isV
  by_cases h : dwchk a b c w.p w.q w.r = 0
  · have he : isE a b c w x = pchk a b c x.x x.y x.z x.p x.q x.r x.s x.t x.u := by rw [isE, if_pos h]
    rw [he]
    have hw := (dwchk_ok.1 h).2
    by_cases h2 : pchk a b c x.x x.y x.z x.p x.q x.r x.s x.t x.u = 0
    · rw [if_pos h2, h2]
      refine Pur.of_alone ggp (by simp [AV.purL, AV.pur]) (AC.of_body (c := (Tryz.f14.body.getD .skip)) Tryz.func14 rfl (by decide) ok14 ro14 (by exact (by decide : 3 ≤ 32)) ?_)
      refine walk hmix S4_ok [] 3000 0 dr14 ?_
      delta Tryz.f14
      simp only [Option.getD_some]
      simp (maxSteps := 2000000) only [S4, S3, S2, S1, T23, T22, T21, T20, T19, T18, T17, T16, T13, T12, T11, T10, T9, T8, T7, T6, T5, T4, T3, T2, T1, T0, resA, resL, resVar, Option.some.injEq, kw0, List.size_toArray, List.length_cons, List.length_nil, Nat.zero_add, Nat.reduceAdd, List.range_succ, List.range_zero, List.nil_append, List.cons_append, List.getElem?_toArray, List.getElem?_cons_zero, Go.Ab.put, ↓opK_some, ↓guK_none, kw1, roOf, aop, ev, argTs, List.getD_cons_zero, AV.isEl.eq_2, ↓reduceIte, AV.cells.eq_1, ↓roK_ok, List.getElem?_cons_succ, upd, Nat.reduceEqDiff, List.getD_cons_succ, ofV, aload, ty0, rdCells, Nat.le_refl, List.drop_zero, List.take_succ_cons, List.take_nil, Option.map_some, tcall, Tab.ext, g28, List.map_cons, List.map_nil, List.append_nil, h, aBin, aBinI, bne_eq_decide', ne_eq, not_true_eq_false, decide_false, ↓gdK_false, ty1, g33, h2, Tab.nil, ↓roK_call, true_and]
      refine AC.pur (turnsA_pur w hw) ?_
      refine walk hmix S4_ok [] 3000 0 (by kernel_rfl) ?_
      simp (maxSteps := 2000000) only [S4, S3, S2, S1, T23, T22, T21, T20, T19, T18, T17, T16, T13, T12, T11, T10, T9, T8, T7, T6, T5, T4, T3, T2, T1, T0, kw0, List.getElem?_toArray, List.getElem?_cons_succ, List.getElem?_cons_zero, Go.Ab.put, ↓opK_some, ↓guK_none, kw1, roOf, aop, ev, upd, ↓reduceIte, ↓roK_ok, Option.map_some, Nat.reduceEqDiff, List.size_toArray, List.length_cons, List.length_nil, Nat.zero_add, Nat.reduceAdd, List.range_succ, List.range_zero, List.nil_append, List.cons_append, List.map_nil, List.map_cons, tcall, Tab.ext, Tab.nil, ↓roK_call, true_and]
      refine containsW (pr := fun t => decide (isT t x)) (by have := w.turns_len; omega) ?_ ?_
      · intro t K ht hK
        refine AC.view ggp (n := 3) (args' := [t.av, .iptr [I x.x, I x.y, I x.z, I x.p, I x.q, I x.r, B x.s, B x.t, B x.u] 0]) ?_ ?_ rfl (is1_pur t x) hK
        · simp [mapO, frz, Wnt.pur, AV.pur]
        · simp [AV.purL, AV.pur, Wnt.pur]
      · skip
        refine walk hmix S4_ok [] 3000 0 (by kernel_rfl) ?_
        simp (maxSteps := 2000000) only [S4, S3, S2, S1, T23, T22, T21, T20, T19, T18, T17, T16, T13, T12, T11, T10, T9, T8, T7, T6, T5, T4, T3, T2, T1, T0, kw0, List.getElem?_toArray, List.getElem?_cons_succ, List.getElem?_cons_zero, Go.Ab.put, ↓opK_some, ↓guK_none, kw1, roOf, aop, ev, upd, ↓reduceIte, ↓roK_ok, ofV, reduceCtorEq, or_true, Nat.reduceEqDiff, true_and]
        exact ⟨_, rfl, done_pur rfl rfl⟩
    · rw [if_neg h2]
      refine Pur.of_alone ggp (by simp [AV.purL, AV.pur]) (AC.of_body (c := (Tryz.f14.body.getD .skip)) Tryz.func14 rfl (by decide) ok14 ro14 (by exact (by decide : 3 ≤ 32)) ?_)
      refine walk hmix S4_ok [] 3000 0 dr14 ?_
      delta Tryz.f14
      simp only [Option.getD_some]
      simp (maxSteps := 2000000) only [S4, S3, S2, S1, T23, T22, T21, T20, T19, T18, T17, T16, T13, T12, T11, T10, T9, T8, T7, T6, T5, T4, T3, T2, T1, T0, resA, resL, resVar, Option.some.injEq, kw0, List.size_toArray, List.length_cons, List.length_nil, Nat.zero_add, Nat.reduceAdd, List.range_succ, List.range_zero, List.nil_append, List.cons_append, List.getElem?_toArray, List.getElem?_cons_zero, Go.Ab.put, ↓opK_some, ↓guK_none, kw1, roOf, aop, ev, argTs, List.getD_cons_zero, AV.isEl.eq_2, ↓reduceIte, AV.cells.eq_1, ↓roK_ok, List.getElem?_cons_succ, upd, Nat.reduceEqDiff, List.getD_cons_succ, ofV, aload, ty0, rdCells, Nat.le_refl, List.drop_zero, List.take_succ_cons, List.take_nil, Option.map_some, tcall, Tab.ext, g28, List.map_cons, List.map_nil, List.append_nil, h, aBin, aBinI, bne_eq_decide', ne_eq, not_true_eq_false, decide_false, ↓gdK_false, ty1, g33, h2, not_false_eq_true, decide_true, ↓gdK_true, reduceCtorEq, or_true, true_and]
      exact ⟨_, rfl, done_pur rfl rfl⟩
  · have he : isE a b c w x = dwchk a b c w.p w.q w.r := by rw [isE, if_neg h]
    rw [he, if_neg h]
    refine Pur.of_alone ggp (by simp [AV.purL, AV.pur]) (AC.of_body (c := (Tryz.f14.body.getD .skip)) Tryz.func14 rfl (by decide) ok14 ro14 (by exact (by decide : 3 ≤ 32)) ?_)
    refine walk hmix S4_ok [] 3000 0 dr14 ?_
    delta Tryz.f14
    simp only [Option.getD_some]
    simp (maxSteps := 2000000) only [S4, S3, S2, S1, T23, T22, T21, T20, T19, T18, T17, T16, T13, T12, T11, T10, T9, T8, T7, T6, T5, T4, T3, T2, T1, T0, resA, resL, resVar, Option.some.injEq, kw0, List.size_toArray, List.length_cons, List.length_nil, Nat.zero_add, Nat.reduceAdd, List.range_succ, List.range_zero, List.nil_append, List.cons_append, List.getElem?_toArray, List.getElem?_cons_zero, Go.Ab.put, ↓opK_some, ↓guK_none, kw1, roOf, aop, ev, argTs, List.getD_cons_zero, AV.isEl.eq_2, ↓reduceIte, AV.cells.eq_1, ↓roK_ok, List.getElem?_cons_succ, upd, Nat.reduceEqDiff, List.getD_cons_succ, ofV, aload, ty0, rdCells, Nat.le_refl, List.drop_zero, List.take_succ_cons, List.take_nil, Option.map_some, tcall, Tab.ext, g28, List.map_cons, List.map_nil, List.append_nil, aBin, aBinI, bne_eq_decide', ne_eq, h, not_false_eq_true, decide_true, ↓gdK_true, reduceCtorEq, or_true, true_and]
    exact ⟨_, rfl, done_pur rfl rfl⟩
end Go.Ab.Pd

set_option linter.unusedSimpArgs false
set_option linter.unusedVariables false
namespace Go.Ab.Pd
open Go.Proofs
theorem of_at {a b c x y z : Int} (hd : okD a b c) (hp : okP a b c x y z) : ofX a b c (atV a b c x y z) = x ∧ ofY a b c (atV a b c x y z) = y ∧ ofZ a b c (atV a b c x y z) = z := by
  obtain ⟨_, r1, r2⟩ := at_range hd hp
  have hin : inM a b c (atV a b c x y z) := ⟨hd, r1, r2⟩
  rw [ofX, if_pos hin, ofY, if_pos hin, ofZ, if_pos hin]
  rw [atV, if_pos ⟨hd, hp⟩]
  unfold okP at hp
  unfold okD at hd
  have e1 : x + a * y + a * b * z = x + a * (y + b * z) := by rw [Int.mul_add, ← Int.mul_assoc]; omega
  have e2 : (x + a * (y + b * z)) / a = y + b * z := by rw [Int.add_mul_ediv_left _ _ (by omega), Int.ediv_eq_zero_of_lt hp.1.1 hp.1.2]; omega
  have e3 : (x + a * (y + b * z)) % a = x := by rw [Int.add_mul_emod_self_left]; exact Int.emod_eq_of_lt hp.1.1 hp.1.2
  have e4 : (y + b * z) % b = y := by rw [Int.add_mul_emod_self_left]; exact Int.emod_eq_of_lt hp.2.1.1 hp.2.1.2
  have e5 : (x + a * (y + b * z)) / (a * b) = z := by
    rw [← Int.ediv_ediv_of_nonneg (by omega), e2, Int.add_mul_ediv_left _ _ (by omega), Int.ediv_eq_zero_of_lt hp.2.1.1 hp.2.1.2]; omega
  have e6 : z % c = z := Int.emod_eq_of_lt hp.2.2.1 hp.2.2.2
  rw [e1, e2, e3, e4, e5, e6]
  exact ⟨rfl, rfl, rfl⟩
theorem upto_mem {α : Type} {f : Int → List α} {x : α} : ∀ {n : Nat} {k i : Int}, k ≤ i → i < k + n → x ∈ f i → x ∈ upto f k n
  | 0, k, i, h1, h2, _ => by omega
  | n + 1, k, i, h1, h2, h => by
    rw [upto_succ, List.mem_append]
    by_cases e : k = i
    · subst e; exact .inl h
    · exact .inr (upto_mem (by omega) (by omega) h)
theorem plL_mem {a b c : Int} (hd : okD a b c) {t : Wnt} {x : Plc} : x ∈ plL a b c t ↔ x.ok a b c ∧ isT t x := by
  constructor
  · intro h
    refine ⟨plL_ok h, ?_⟩
    obtain ⟨m, _, _, hm⟩ := mem_upto h
    unfold plAt at hm
    split at hm
    · rw [List.mem_singleton] at hm
      rw [hm]
      exact ⟨⟨rfl, rfl, rfl⟩, rfl, rfl, rfl⟩
    · simp at hm
  · rintro ⟨hk, ⟨h1, h2, h3⟩, h4, h5, h6⟩
    have hb := hk.2.1
    unfold okB ok1 at hb
    have hp : okP a b c x.x x.y x.z := by unfold okP; omega
    obtain ⟨o1, o2, o3⟩ := of_at hd hp
    obtain ⟨_, r1, r2⟩ := at_range hd hp
    have hx : plOf a b c t (atV a b c x.x x.y x.z) = x := by
      obtain ⟨x1, x2, x3, x4, x5, x6, x7, x8, x9⟩ := x
      simp only [plOf] at *
      simp only [o1, o2, o3, h1, h2, h3, h4, h5, h6]
      rw [← h1, ← h2, ← h3, h4, h5, h6]
    refine upto_mem (i := atV a b c x.x x.y x.z) r1 (by omega) ?_
    unfold plAt
    rw [hx, if_pos hk]
    simp
theorem wholeL_mem {a b c : Int} (hd : okD a b c) {w : Wnt} {x : Plc} : x ∈ wholeL a b c w ↔ x.ok a b c ∧ (w.turns.any fun t => decide (isT t x)) = true := by
  rw [whole_mem, rawL, List.mem_flatMap, List.any_eq_true]
  constructor
  · rintro ⟨t, ht, hx⟩
    obtain ⟨h1, h2⟩ := (plL_mem hd).1 hx
    exact ⟨h1, t, ht, decide_eq_true h2⟩
  · rintro ⟨h1, t, ht, h2⟩
    exact ⟨t, ht, (plL_mem hd).2 ⟨h1, of_decide_eq_true h2⟩⟩
end Go.Ab.Pd
