/- One of the texts that this claim stands on. -/
import Derived.Test.YtfiglmdmnfdldaaGreatDoorEv33
set_option linter.unusedVariables false
set_option linter.unusedSimpArgs false
set_option linter.unusedSimpArgs false
set_option linter.unusedVariables false
namespace Go.Ab.Pd
open Go.Proofs
def jnL (f : Int → Int → Int) (xs ys : List Int) (i : Nat) : List Int := List.zipWith f (xs.take i) (ys.take i) ++ xs.drop i
theorem jnL_length {f : Int → Int → Int} {xs ys : List Int} (h : xs.length = ys.length) {i : Nat} : (jnL f xs ys i).length = xs.length := by
  unfold jnL
  rw [List.length_append, List.length_zipWith, List.length_take, List.length_take, List.length_drop]; omega
theorem jnL_step {f : Int → Int → Int} {xs ys : List Int} (h : xs.length = ys.length) {i : Nat} (hi : i < xs.length) : (jnL f xs ys i).getD i 0 = xs.getD i 0 ∧ (jnL f xs ys i).set i (f (xs.getD i 0) (ys.getD i 0)) = jnL f xs ys (i + 1) := by
  have hl : (List.zipWith f (xs.take i) (ys.take i)).length = i := by rw [List.length_zipWith, List.length_take, List.length_take]; omega
  have hd := drop_cons 0 hi
  constructor
  · unfold jnL
    rw [List.getD_eq_getElem?_getD, List.getElem?_append_right (by omega), hl, Nat.sub_self, hd]
    rfl
  · unfold jnL
    rw [List.set_append_right _ _ (by omega), hl, Nat.sub_self, hd, List.set_cons_zero, take_succ_getD 0 hi, take_succ_getD 0 (by omega : i < ys.length), List.zipWith_append (by rw [List.length_take, List.length_take]; omega)]
    simp
theorem jnL_all {f : Int → Int → Int} {xs ys : List Int} (h : xs.length = ys.length) : jnL f xs ys ys.length = List.zipWith f xs ys := by
  unfold jnL
  rw [List.take_of_length_le (by omega), List.take_of_length_le (by omega), List.drop_eq_nil_of_le (by omega), List.append_nil]
set_option maxHeartbeats 4000000 in
set_option maxRecDepth 400000 in
theorem joined_ok (n : Int) {g : Nat} {f : Int → Int → Int} (hg : ∀ x y, Pur Tryz.prog GG g [U x, U y] (U (f x y))) {xs ys : List Int} (hx : ∀ w ∈ xs, inU w) (hy : ∀ w ∈ ys, inU w) (hlen : xs.length = ys.length) (h0 : 0 < xs.length) (hl : xs.length ≤ 2 ^ 16)
    (p1 : Pur Tryz.prog GG 29 [I n, .isl (xs.map U)] (I 0)) (p2 : Pur Tryz.prog GG 29 [I n, .isl (ys.map U)] (I 0)) :
    Pur Tryz.prog GG 19 [I n, .isl (xs.map U), .isl (ys.map U), .fn g [] []] (.tup [.isl ((List.zipWith f xs ys).map U), I 0]) := by
  refine Pur.of_alone ggp (by simp [AV.purL, AV.pur, purL_map U _ (fun _ => rfl)]) (AC.of_body (c := (Tryz.f19.body.getD .skip)) Tryz.func19 rfl (by decide) ok19 ro19 (by exact (by decide : 4 ≤ 43)) ?_)
  refine walk hmix TOk.nil [] 3000 0 dr19 ?_
  delta Tryz.f19
  simp only [Option.getD_some]
  simp (maxSteps := 2000000) only [resA, resL, resVar, Option.some.injEq, kw0, List.size_toArray, List.length_cons, List.length_nil, Nat.zero_add, Nat.reduceAdd, List.range_succ, List.range_zero, List.nil_append, List.cons_append, List.getElem?_toArray, List.getElem?_cons_zero, Go.Ab.put, ↓opK_some, ↓guK_none, kw1, roOf, aop, ev, ofV, ↓roK_ok, List.getElem?_cons_succ, upd, reduceCtorEq, ↓reduceIte, argTs, List.getD_cons_zero, Nat.reduceEqDiff, List.getD_cons_succ, ty3, ty1, AV.cells.eq_2, Nat.reduceMul, Nat.reducePow, Nat.reduceLeDiff, slv, List.reduceReplicate, List.map_cons, List.map_nil, aFillEs, AV.isEl.eq_2, Nat.reduceLT, and_self, List.set_cons_zero, List.set_cons_succ, Option.map_some, tcall, Tab.nil, ↓roK_call, true_and]
  refine checked_ac p1 p2 (IsSet.isl hx) (IsSet.isl hy) rfl ?_
  rw [if_pos rfl]
  refine walk hmix TOk.nil [] 3000 0 (by kernel_rfl) ?_
  simp (maxSteps := 2000000) only [kw0, List.getElem?_toArray, List.getElem?_cons_succ, List.getElem?_cons_zero, Go.Ab.put, ↓opK_some, ↓guK_none, kw1, roOf, aop, ev, upd, ↓reduceIte, ↓roK_ok, List.size_toArray, List.length_cons, List.length_nil, Nat.zero_add, Nat.reduceAdd, List.range_succ, List.range_zero, List.nil_append, List.cons_append, aBin, ofV, aBinI, bne_eq_decide', ne_eq, not_true_eq_false, decide_false, Option.map_some, ↓gdK_false, Nat.reduceEqDiff, argTs, List.getD_cons_succ, List.getD_cons_zero, tcall, Tab.nil, List.map_cons, List.map_nil, ↓roK_call, true_and]
  refine clone_fresh h0 hl _ _ ?_
  refine walk hmix TOk.nil [] 3000 0 (by kernel_rfl) ?_
  simp (maxSteps := 2000000) only [List.length_cons, List.length_nil, Nat.zero_add, List.cons_append, List.nil_append, kw0, List.getElem?_toArray, List.getElem?_cons_succ, List.getElem?_cons_zero, Go.Ab.put, ↓opK_some, ↓guK_none, kw1, roOf, aop, ev, upd, ↓reduceIte, ↓roK_ok, List.size_toArray, Nat.reduceAdd, List.range_succ, List.range_zero, Nat.reduceEqDiff, argTs, List.getD_cons_succ, List.getD_cons_zero, ty1, Option.map_some, ofV, true_and]
  refine FW.loopInv (fun l ts H => ∃ (i : Nat), i + l = ys.length ∧ H = [.arr 1 [.isl (xs.map U), .isl (ys.map U)], .arr 1 ((jnL f xs ys i).map U)] ∧ ts 3 = .fn g [] [] ∧
    ts 11 = .sl 1 0 (xs.map U).length (xs.map U).length ∧ ts 24 = .isl (ys.map U) ∧ ts 25 = I (ys.map U).length ∧ ts 26 = I (i : Int)) ys.length
    ⟨0, by omega, rfl, rfl, rfl, rfl, rfl, rfl⟩ ?_
  rintro l ih ts H ⟨i, hi, rfl, t3, t11, t24, t25, t26⟩
  rw [List.length_map] at t25 t11
  refine FW.inLoop ?_
  by_cases hlt : i < ys.length
  · have hd1 : decide ((i : Int) < (ys.length : Int)) = true := by simp [hlt]
    have hjl := jnL_length (f := f) hlen (i := i)
    obtain ⟨hs1, hs2⟩ := jnL_step (f := f) hlen (by omega : i < xs.length)
    have hiw : i < (jnL f xs ys i).length := by omega
    have hgy := getD_map U ys 0 hlt
    have hgw := getD_map U (jnL f xs ys i) 0 hiw
    rw [hs1] at hgw
    have hset : ((jnL f xs ys i).map U).set i (U (f (xs.getD i 0) (ys.getD i 0))) = (jnL f xs ys (i + 1)).map U := by rw [← hs2, List.map_set]
    obtain ⟨l, rfl⟩ : ∃ l', l = l' + 1 := ⟨l - 1, by omega⟩
    generalize hA : jnL f xs ys i = A at hjl hiw hgw hset
    refine walk hmix TOk.nil [] 3000 0 (by kernel_rfl) ?_
    simp (maxSteps := 2000000) only [kw0, List.size_toArray, List.length_cons, List.length_nil, Nat.zero_add, List.range_succ, List.range_zero, List.nil_append, List.getElem?_toArray, List.getElem?_cons_zero, Go.Ab.put, ↓opK_some, ↓guK_none, kw1, roOf, aop, aBin, ev, t26, t25, aBinI, ↓reduceIte, hd1, Option.map_some, ↓roK_ok, upd, ↓gdK_true, Nat.reduceAdd, List.cons_append, Nat.reduceEqDiff, List.getElem?_cons_succ, aInt, t24, ty1, List.length_map, Int.toNat_natCast, hgy, AV.cells.eq_2, and_true, aload, rdCells, Nat.le_refl, List.drop_zero, List.take_succ_cons, List.take_nil, t11, t3, hiw, and_self, hgw, tcall, Tab.nil, List.map_cons, List.map_nil, ↓roK_call, true_and]
    repeat (refine ⟨by omega, ?_⟩)
    refine AC.pur (hg _ _) ?_
    refine walk hmix TOk.nil [] 3000 0 (by kernel_rfl) ?_
    simp (maxSteps := 2000000) only [kw0, List.getElem?_toArray, List.getElem?_cons_succ, List.getElem?_cons_zero, Go.Ab.put, ↓opK_some, ↓guK_none, kw1, roOf, aop, aInt, ev, upd, Nat.reduceEqDiff, ↓reduceIte, ty1, Int.toNat_natCast, Nat.zero_add, Option.map_some, ↓roK_ok, astore, AV.isEl.eq_2, AV.cells.eq_2, List.length_cons, List.length_nil, and_self, wrCells, List.length_map, hiw, Nat.le_refl, reEl, hgw, splice, List.take_zero, List.nil_append, List.drop_succ_cons, List.drop_nil, List.append_nil, List.getD_cons_zero, hset, List.set_cons_succ, List.set_cons_zero, List.size_toArray, Nat.reduceAdd, List.range_succ, List.range_zero, List.cons_append, aBin, t26, ofV, aBinI, true_and]
    rw [wrapL (n := (i : Int) + 1) (by omega) (by omega)]
    repeat (refine ⟨by omega, ?_⟩)
    exact ih l (by omega) _ _ ⟨i + 1, by omega, rfl, t3, by rw [List.length_map]; exact t11, t24, by rw [List.length_map]; exact t25, rfl⟩
  · have hd1 : decide ((i : Int) < (ys.length : Int)) = false := by simp; omega
    have hl : i = ys.length := by omega
    subst hl
    refine walk hmix TOk.nil [] 3000 0 (by kernel_rfl) ?_
    simp (maxSteps := 2000000) only [kw0, List.size_toArray, List.length_cons, List.length_nil, Nat.zero_add, List.range_succ, List.range_zero, List.nil_append, List.getElem?_toArray, List.getElem?_cons_zero, Go.Ab.put, ↓opK_some, ↓guK_none, kw1, roOf, aop, aBin, ev, t26, t25, aBinI, ↓reduceIte, hd1, Option.map_some, ↓roK_ok, upd, ↓gdK_false, exitTo, beq_self_eq_true, reduceCtorEq, or_false, Nat.reduceEqDiff, ↓exK_some, Nat.reduceAdd, List.cons_append, t11, List.getElem?_cons_succ, ofV, or_true, true_and]
    rw [jnL_all hlen]
    have hzl : (List.zipWith f xs ys).length = xs.length := by rw [List.length_zipWith]; omega
    have hown : Own [.arr 1 [.isl (xs.map U), .isl (ys.map U)], .arr 1 ((List.zipWith f xs ys).map U)] (.sl 1 0 xs.length xs.length) ((List.zipWith f xs ys).map U) := by
      have := Own.row (H := [.arr 1 [.isl (xs.map U), .isl (ys.map U)], .arr 1 ((List.zipWith f xs ys).map U)]) (id := 1) (es := (List.zipWith f xs ys).map U) rfl (by rw [List.length_map]; omega)
      rw [List.length_map, hzl] at this
      exact this
    obtain ⟨m', hm'⟩ := hown.done2 (v := I 0) (purL_map U _ (fun _ => rfl)) rfl
    exact ⟨_, rfl, m', by rw [hm', frS_ne (by rw [List.length_map]; omega)]⟩
theorem zip_inU {f : Int → Int → Int} (hf : ∀ x y, inU (f x y)) (xs ys : List Int) : ∀ w ∈ List.zipWith f xs ys, inU w := by
  intro w hw
  rw [List.zipWith_eq_zipWith_take_min] at hw
  obtain ⟨i, hi, rfl⟩ := List.getElem_of_mem hw
  rw [List.getElem_zipWith]
  exact hf _ _
theorem ok25 : codeOk 14 (Tryz.f25.body.getD .skip) = true := by kernel_rfl
theorem ro25 : resOk 14 Tryz.f25.results = true := by kernel_rfl
theorem dr25 : todoDr [] [.code (Tryz.f25.body.getD .skip)] = true := by kernel_rfl
set_option maxHeartbeats 4000000 in
set_option maxRecDepth 400000 in
theorem and_ok (n : Int) {xs ys : List Int} (hx : ∀ w ∈ xs, inU w) (hy : ∀ w ∈ ys, inU w) (hlen : xs.length = ys.length) (h0 : 0 < xs.length) (hl : xs.length ≤ 2 ^ 16)
    (p1 : Pur Tryz.prog GG 29 [I n, .isl (xs.map U)] (I 0)) (p2 : Pur Tryz.prog GG 29 [I n, .isl (ys.map U)] (I 0)) :
    Pur Tryz.prog GG 25 [I n, .isl (xs.map U), .isl (ys.map U)] (.tup [.isl ((List.zipWith andW xs ys).map U), I 0]) := by
  refine Pur.of_alone ggp (by simp [AV.purL, AV.pur, purL_map U _ (fun _ => rfl)]) (AC.of_body (c := (Tryz.f25.body.getD .skip)) Tryz.func25 rfl (by decide) ok25 ro25 (by exact (by decide : 3 ≤ 14)) ?_)
  refine walk hmix TOk.nil [] 3000 0 dr25 ?_
  delta Tryz.f25
  simp only [Option.getD_some]
  simp (maxSteps := 2000000) only [resA, resL, resVar, Option.some.injEq, kw0, List.size_toArray, List.length_cons, List.length_nil, Nat.zero_add, Nat.reduceAdd, List.range_succ, List.range_zero, List.nil_append, List.cons_append, List.getElem?_toArray, List.getElem?_cons_zero, Go.Ab.put, ↓opK_some, ↓guK_none, kw1, roOf, aop, ev, ofV, ↓roK_ok, List.getElem?_cons_succ, upd, reduceCtorEq, ↓reduceIte, argTs, List.getD_cons_zero, Nat.reduceEqDiff, List.getD_cons_succ, tcall, Tab.nil, List.map_cons, List.map_nil, ↓roK_call, true_and]
  refine AC.pur (joined_ok n andw_pur hx hy hlen h0 hl p1 p2) ?_
  refine walk hmix TOk.nil [] 3000 0 (by kernel_rfl) ?_
  simp (maxSteps := 2000000) only [kw0, List.getElem?_toArray, List.getElem?_cons_succ, List.getElem?_cons_zero, Go.Ab.put, ↓opK_some, ↓guK_none, kw1, roOf, aop, ev, upd, ↓reduceIte, Option.map_some, ↓roK_ok, Nat.reduceEqDiff, reduceCtorEq, or_true, true_and]
  have hz := purL_map U (List.zipWith andW xs ys) (fun _ => rfl)
  exact ⟨_, rfl, done_pur (by simp only [AV.pur, AV.purL, hz, Bool.and_true]) rfl⟩
noncomputable def manyW (ws : List Int) : Int := ws.foldl addV 0
set_option maxHeartbeats 4000000 in
set_option maxRecDepth 400000 in
theorem smany_ok (n : Int) {ws : List Int} (lw : ws.length ≤ 2 ^ 16) (p : Pur Tryz.prog GG 29 [I n, .isl (ws.map U)] (I 0)) : Pur Tryz.prog GG 26 [I n, .isl (ws.map U)] (.tup [I (manyW ws), I 0]) := by
  refine Pur.of_alone ggp (by simp [AV.purL, AV.pur, purL_map U _ (fun _ => rfl)]) (AC.of_body (c := (Tryz.f26.body.getD .skip)) Tryz.func26 rfl (by decide) ok26 ro26 (by exact (by decide : 2 ≤ 24)) ?_)
  refine walk hmix T23_ok [] 3000 0 dr26 ?_
  delta Tryz.f26
  simp only [Option.getD_some]
  simp (maxSteps := 2000000) only [T23, T22, T21, T20, T19, T18, T17, T16, T13, T12, T11, T10, T9, T8, T7, T6, T5, T4, T3, T2, T1, T0, resA, resL, resVar, Option.some.injEq, kw0, List.size_toArray, List.length_cons, List.length_nil, Nat.zero_add, Nat.reduceAdd, List.range_succ, List.range_zero, List.nil_append, List.cons_append, List.getElem?_toArray, List.getElem?_cons_zero, Go.Ab.put, ↓opK_some, ↓guK_none, kw1, roOf, aop, ev, ofV, ↓roK_ok, List.getElem?_cons_succ, upd, reduceCtorEq, ↓reduceIte, argTs, List.getD_cons_zero, Nat.reduceEqDiff, List.getD_cons_succ, tcall, Tab.ext, Tab.nil, List.map_cons, List.map_nil, ↓roK_call, true_and]
  refine AC.pur p ?_
  refine walk hmix T23_ok [] 3000 0 (by kernel_rfl) ?_
  simp (maxSteps := 2000000) only [T23, T22, T21, T20, T19, T18, T17, T16, T13, T12, T11, T10, T9, T8, T7, T6, T5, T4, T3, T2, T1, T0, kw0, List.getElem?_toArray, List.getElem?_cons_succ, List.getElem?_cons_zero, Go.Ab.put, ↓opK_some, ↓guK_none, kw1, roOf, aop, ev, upd, ↓reduceIte, ↓roK_ok, List.size_toArray, List.length_cons, List.length_nil, Nat.zero_add, Nat.reduceAdd, List.range_succ, List.range_zero, List.nil_append, List.cons_append, aBin, ofV, aBinI, bne_eq_decide', ne_eq, not_true_eq_false, decide_false, Option.map_some, ↓gdK_false, Nat.reduceEqDiff, argTs, List.getD_cons_succ, List.getD_cons_zero, ty1, true_and]
  refine FW.loopInv (fun l ts H => ∃ (i : Nat) (acc : Int), i + l = ws.length ∧ (ws.drop i).foldl addV acc = manyW ws ∧ ts 4 = I acc ∧ ts 5 = I 0 ∧ ts 13 = .isl (ws.map U) ∧ ts 14 = I (ws.map U).length ∧ ts 15 = I (i : Int)) ws.length
    ⟨0, 0, by omega, rfl, rfl, rfl, rfl, rfl, rfl⟩ ?_
  rintro l ih ts H ⟨i, acc, hi, hes, t4, t5, t13, t14, t15⟩
  rw [List.length_map] at t14
  refine FW.inLoop ?_
  by_cases hlt : i < ws.length
  · have hd1 : decide ((i : Int) < (ws.length : Int)) = true := by simp [hlt]
    have hgd := getD_map U ws 0 hlt
    obtain ⟨l, rfl⟩ : ∃ l', l = l' + 1 := ⟨l - 1, by omega⟩
    rw [drop_cons 0 hlt] at hes
    generalize ws.getD i 0 = w at hgd hes
    refine walk hmix T23_ok [] 3000 0 (by kernel_rfl) ?_
    simp (maxSteps := 2000000) only [T23, T22, T21, T20, T19, T18, T17, T16, T13, T12, T11, T10, T9, T8, T7, T6, T5, T4, T3, T2, T1, T0, kw0, List.size_toArray, List.length_cons, List.length_nil, Nat.zero_add, List.range_succ, List.range_zero, List.nil_append, List.getElem?_toArray, List.getElem?_cons_zero, Go.Ab.put, ↓opK_some, ↓guK_none, kw1, roOf, aop, aBin, ev, t15, t14, aBinI, ↓reduceIte, hd1, Option.map_some, ↓roK_ok, upd, ↓gdK_true, Nat.reduceAdd, List.cons_append, aInt, Nat.reduceEqDiff, t13, ty1, List.length_map, Int.toNat_natCast, hgd, AV.cells.eq_2, and_true, List.getElem?_cons_succ, aload, rdCells, Nat.le_refl, List.drop_zero, List.take_succ_cons, List.take_nil, t4, tcall, Tab.ext, Tab.nil, List.map_cons, List.map_nil, ↓roK_call, true_and]
    refine ⟨by omega, ?_⟩
    refine AC.pur (onesV_pur w) ?_
    refine walk hmix T23_ok [] 3000 0 (by kernel_rfl) ?_
    simp (maxSteps := 2000000) only [T23, T22, T21, T20, T19, T18, T17, T16, T13, T12, T11, T10, T9, T8, T7, T6, T5, T4, T3, T2, T1, T0, kw0, List.getElem?_toArray, List.getElem?_cons_succ, List.getElem?_cons_zero, Go.Ab.put, ↓opK_some, ↓guK_none, kw1, roOf, aop, aBin, ev, upd, Nat.reduceEqDiff, ↓reduceIte, aBinI, Option.map_some, ↓roK_ok, List.size_toArray, List.length_cons, List.length_nil, Nat.zero_add, Nat.reduceAdd, List.range_succ, List.range_zero, List.nil_append, List.cons_append, t15, ofV, true_and]
    rw [wrapL (n := (i : Int) + 1) (by omega) (by omega)]
    exact ih l (by omega) _ _ ⟨i + 1, addV acc w, by omega, by rw [← hes]; rfl, rfl, t5, t13, by rw [List.length_map]; exact t14, rfl⟩
  · have hd1 : decide ((i : Int) < (ws.length : Int)) = false := by simp; omega
    refine walk hmix T23_ok [] 3000 0 (by kernel_rfl) ?_
    simp (maxSteps := 2000000) only [T23, T22, T21, T20, T19, T18, T17, T16, T13, T12, T11, T10, T9, T8, T7, T6, T5, T4, T3, T2, T1, T0, kw0, List.size_toArray, List.length_cons, List.length_nil, Nat.zero_add, List.range_succ, List.range_zero, List.nil_append, List.getElem?_toArray, List.getElem?_cons_zero, Go.Ab.put, ↓opK_some, ↓guK_none, kw1, roOf, aop, aBin, ev, t15, t14, aBinI, ↓reduceIte, hd1, Option.map_some, ↓roK_ok, upd, ↓gdK_false, exitTo, beq_self_eq_true, reduceCtorEq, or_false, Nat.reduceEqDiff, t4, t5, ↓exK_some, or_true, true_and]
    rw [List.drop_eq_nil_of_le (by omega)] at hes
    have hes' : acc = manyW ws := hes
    exact ⟨_, rfl, done_pur rfl (by rw [hes'])⟩
end Go.Ab.Pd
